/- MFull: what is proved for the claim, part 3: functions' reckonings, and what they give. -/
import Derived.Test.YtnkjblmlchbfkaaMFull2
import Derived.KernelRfl
set_option linter.unusedVariables false
set_option linter.unusedSimpArgs false
/- D -/
namespace Go.Proofs.Ytnkjblmlchbfkaa.Rig
open Go
abbrev jk : AV := .junk
theorem mix : Try.prog.follows .mixedOrders = true := by kernel_rfl
noncomputable def tab0 : List (FuncId × Ent) := []
theorem all0 : AllOk Try.prog 0 (fun _ => none) tab0 := trivial
set_option linter.unusedVariables false in
noncomputable def Flook1 : PF
  | [.val (.int .i64 _ n)] => some (True, .bool false (badW n), [])
  | _ => none
noncomputable def tab1 : List (FuncId × Ent) := (38, pureEnt 3 Flook1) :: tab0
set_option linter.unusedVariables false in
noncomputable def Fmay1 : PF
  | [.val (.int .i64 _ n)] => some (True, .bool false (badV n), [])
  | _ => none
noncomputable def tab2 : List (FuncId × Ent) := (36, pureEnt 3 Fmay1) :: tab1
structure Xidx38_0 where
  zl : Bool
  l : List Int
  i : Nat
def hdidx38_0 : Xidx38_0 → St
  | ⟨zl, l, i⟩ => ⟨[.sl zl ⟨0, 0, 0, 0⟩ false l.length .any, .fn (.func 38) [] [], .junk, .junk, .junk, .junk, .sl zl ⟨0, 0, 0, 0⟩ false l.length .any, .int .i64 false (l.length : Int), .int .i64 false (i : Int), .junk, .junk, .junk, .junk, .junk, .junk, .junk, .junk, .junk, .junk], [some ⟨3, false, false, true, .ints .i64 l⟩]⟩
def okidx38_0 : Xidx38_0 → Prop
  | ⟨zl, l, i⟩ => short l ∧ i ≤ l.length ∧ (zl = true → l = []) ∧ ∀ j, j < i → badW (l.getD j 0) = false
set_option linter.unusedVariables false in
def outidx38_0 : Xidx38_0 → Tree (Ex × St)
  | ⟨zl, l, i⟩ => .br (l.any badW) (.ret (.ret, ⟨[.junk, .junk, .junk, .junk, .int .i64 false (idxZ badW l), .junk, .junk, .junk, .junk, .junk, .junk, .junk, .junk, .junk, .junk, .junk, .junk, .junk, .junk], [some ⟨3, false, false, true, .ints .i64 l⟩]⟩)) (.ret (.exit 0, ⟨[.junk, .junk, .junk, .junk, .junk, .junk, .junk, .junk, .junk, .junk, .junk, .junk, .junk, .junk, .junk, .junk, .junk, .junk, .junk], [some ⟨3, false, false, true, .ints .i64 l⟩]⟩))
def muidx38_0 : Xidx38_0 → Nat
  | ⟨zl, l, i⟩ => l.length - i
def residx38_0 (x : Xidx38_0) : Tree (Ex × St) := .chk (okidx38_0 x) (outidx38_0 x)
set_option linter.unusedVariables false in
def ansidx38_0 (st : St) : Tree (Ex × St) := match st.env.getD 0 .junk, st.env.getD 8 .junk, st.mem with
  | .sl zl _ _ _ _, .int _ _ i_, [some ⟨_, _, _, _, .ints _ l⟩] => .chk (st.le (hdidx38_0 ⟨zl, l, i_.toNat⟩)) (residx38_0 ⟨zl, l, i_.toNat⟩)
  | _, _, _ => .fail
def Tidx38_0 : Tidy := ⟨[], [0, 1, 6, 7, 8]⟩
def Uidx38_0 : Ex → Tidy
  | .ret => ⟨[], [4]⟩
  | .exit 0 => ⟨[], []⟩
  | _ => ⟨[], []⟩
def rowidx38_0 : LoopRow := ⟨39, 2, Tidx38_0, ansidx38_0⟩
def rowsidx38 : List LoopRow := [rowidx38_0]
set_option linter.unusedVariables false in
noncomputable def Fidx38 : PF
  | [.ints zl l, .val (.fn (.func 38) [] [])] => some (short l ∧ (zl = true → l = []), .int .i64 false (idxZ badW l), [])
  | _ => none
noncomputable def tab3 : List (FuncId × Ent) := (39, pureEnt 3 Fidx38) :: tab2
structure Xidx36_0 where
  zl : Bool
  l : List Int
  i : Nat
def hdidx36_0 : Xidx36_0 → St
  | ⟨zl, l, i⟩ => ⟨[.sl zl ⟨0, 0, 0, 0⟩ false l.length .any, .fn (.func 36) [] [], .junk, .junk, .junk, .junk, .sl zl ⟨0, 0, 0, 0⟩ false l.length .any, .int .i64 false (l.length : Int), .int .i64 false (i : Int), .junk, .junk, .junk, .junk, .junk, .junk, .junk, .junk, .junk, .junk], [some ⟨3, false, false, true, .ints .i64 l⟩]⟩
def okidx36_0 : Xidx36_0 → Prop
  | ⟨zl, l, i⟩ => short l ∧ i ≤ l.length ∧ (zl = true → l = []) ∧ ∀ j, j < i → badV (l.getD j 0) = false
set_option linter.unusedVariables false in
def outidx36_0 : Xidx36_0 → Tree (Ex × St)
  | ⟨zl, l, i⟩ => .br (l.any badV) (.ret (.ret, ⟨[.junk, .junk, .junk, .junk, .int .i64 false (idxZ badV l), .junk, .junk, .junk, .junk, .junk, .junk, .junk, .junk, .junk, .junk, .junk, .junk, .junk, .junk], [some ⟨3, false, false, true, .ints .i64 l⟩]⟩)) (.ret (.exit 0, ⟨[.junk, .junk, .junk, .junk, .junk, .junk, .junk, .junk, .junk, .junk, .junk, .junk, .junk, .junk, .junk, .junk, .junk, .junk, .junk], [some ⟨3, false, false, true, .ints .i64 l⟩]⟩))
def muidx36_0 : Xidx36_0 → Nat
  | ⟨zl, l, i⟩ => l.length - i
def residx36_0 (x : Xidx36_0) : Tree (Ex × St) := .chk (okidx36_0 x) (outidx36_0 x)
set_option linter.unusedVariables false in
def ansidx36_0 (st : St) : Tree (Ex × St) := match st.env.getD 0 .junk, st.env.getD 8 .junk, st.mem with
  | .sl zl _ _ _ _, .int _ _ i_, [some ⟨_, _, _, _, .ints _ l⟩] => .chk (st.le (hdidx36_0 ⟨zl, l, i_.toNat⟩)) (residx36_0 ⟨zl, l, i_.toNat⟩)
  | _, _, _ => .fail
def Tidx36_0 : Tidy := ⟨[], [0, 1, 6, 7, 8]⟩
def Uidx36_0 : Ex → Tidy
  | .ret => ⟨[], [4]⟩
  | .exit 0 => ⟨[], []⟩
  | _ => ⟨[], []⟩
def rowidx36_0 : LoopRow := ⟨39, 2, Tidx36_0, ansidx36_0⟩
def rowsidx36 : List LoopRow := [rowidx36_0]
set_option linter.unusedVariables false in
noncomputable def Fidx36 : PF
  | [.ints zl l, .val (.fn (.func 36) [] [])] => some (short l ∧ (zl = true → l = []), .int .i64 false (idxZ badV l), [])
  | _ => none
noncomputable def Fidx36o : PF := Fidx38.or Fidx36
noncomputable def tab4 : List (FuncId × Ent) := (39, pureEnt 3 Fidx36o) :: tab3
set_option linter.unusedVariables false in
noncomputable def Fcon38 : PF
  | [.ints zl l, .val (.fn (.func 38) [] [])] => some (short l ∧ (zl = true → l = []), .bool false (l.any badW), [])
  | _ => none
noncomputable def tab5 : List (FuncId × Ent) := (37, pureEnt 3 Fcon38) :: tab4
set_option linter.unusedVariables false in
noncomputable def Fcon36 : PF
  | [.ints zl l, .val (.fn (.func 36) [] [])] => some (short l ∧ (zl = true → l = []), .bool false (l.any badV), [])
  | _ => none
noncomputable def Fcon36o : PF := Fcon38.or Fcon36
noncomputable def tab6 : List (FuncId × Ent) := (37, pureEnt 3 Fcon36o) :: tab5
structure Xwords_0 where
  k : Int
  n : Int
  i : Nat
def hdwords_0 : Xwords_0 → St
  | ⟨k, n, i⟩ => ⟨[.int .i64 false k, .int .i64 false n, .junk, .junk, .junk, .sl false ⟨0, 0, 0, 0⟩ false k.toNat .exact, .junk, .junk, .junk, .junk, .int .i64 false (k.toNat : Int), .int .i64 false (i : Int), .junk, .junk, .junk, .junk, .junk, .junk, .junk, .junk, .junk, .junk, .junk, .junk, .junk, .junk, .junk], [some ⟨3, true, false, true, .ints .i64 (fill (wordsZ k n) i)⟩]⟩
def okwords_0 : Xwords_0 → Prop
  | ⟨k, n, i⟩ => 1 ≤ k ∧ k ≤ 4 ∧ i ≤ k.toNat
set_option linter.unusedVariables false in
def outwords_0 : Xwords_0 → Tree (Ex × St)
  | ⟨k, n, i⟩ => .ret (.exit 0, ⟨[.junk, .junk, .junk, .junk, .junk, .sl false ⟨0, 0, 0, 0⟩ false k.toNat .exact, .junk, .junk, .junk, .junk, .junk, .junk, .junk, .junk, .junk, .junk, .junk, .junk, .junk, .junk, .junk, .junk, .junk, .junk, .junk, .junk, .junk], [some ⟨3, true, false, true, .ints .i64 (wordsZ k n)⟩]⟩)
def muwords_0 : Xwords_0 → Nat
  | ⟨k, n, i⟩ => k.toNat - i
def reswords_0 (x : Xwords_0) : Tree (Ex × St) := .chk (okwords_0 x) (outwords_0 x)
set_option linter.unusedVariables false in
def answords_0 (st : St) : Tree (Ex × St) := match st.env.getD 0 .junk, st.env.getD 1 .junk, st.env.getD 11 .junk, st.mem with
  | .int _ _ k, .int _ _ n, .int _ _ i_, [_] => .chk (st.le (hdwords_0 ⟨k, n, i_.toNat⟩)) (reswords_0 ⟨k, n, i_.toNat⟩)
  | _, _, _, _ => .fail
def Twords_0 : Tidy := ⟨[], [0, 1, 5, 10, 11]⟩
def Uwords_0 : Ex → Tidy
  | .exit 0 => ⟨[], [5]⟩
  | _ => ⟨[], []⟩
def rowwords_0 : LoopRow := ⟨35, 3, Twords_0, answords_0⟩
def rowswords : List LoopRow := [rowwords_0]
set_option linter.unusedVariables false in
noncomputable def Fwords : PF
  | [.val (.int .i64 _ k), .val (.int .i64 _ n)] => some (1 ≤ k ∧ k ≤ 4, .sl false ⟨0, 0, 0, 0⟩ false (wordsZ k n).length .exact, [⟨3, true, false, true, .ints .i64 (wordsZ k n)⟩])
  | _ => none
noncomputable def tab7 : List (FuncId × Ent) := (35, pureEnt 3 Fwords) :: tab6
set_option linter.unusedVariables false in
noncomputable def Flook : PF
  | [.val (.int .i64 _ n), .ints zl l] => some (short l ∧ (zl = true → l = []) ∧ 0 ≤ n ∧ n ≤ 140737488355328, .int .i64 false (lookZ n l), [])
  | _ => none
noncomputable def tab8 : List (FuncId × Ent) := (34, pureEnt 3 Flook) :: tab7
set_option linter.unusedVariables false in
noncomputable def Fmay : PF
  | [.ints zl l] => some (short l ∧ (zl = true → l = []), .int .i64 false (mayZ l), [])
  | _ => none
noncomputable def tab9 : List (FuncId × Ent) := (31, pureEnt 3 Fmay) :: tab8
set_option linter.unusedVariables false in
noncomputable def Fints : PF
  | [.ints zl l] => some (l.length ≤ 1000000 ∧ (zl = true → l = []), .sl false ⟨1, 0, 0, 0⟩ false l.length .own, [⟨3, true, false, true, .ints .i64 l⟩])
  | _ => none
noncomputable def tab10 : List (FuncId × Ent) := (10, pureEnt 3 Fints) :: tab9
structure Xsame_0 where
  za : Bool
  a : List Int
  zb : Bool
  b : List Int
  i : Nat
def hdsame_0 : Xsame_0 → St
  | ⟨za, a, zb, b, i⟩ => ⟨[.sl za ⟨0, 0, 0, 0⟩ false a.length .any, .sl zb ⟨1, 0, 0, 0⟩ false b.length .any, .junk, .junk, .junk, .int .i64 false (i : Int), .junk, .junk, .junk, .junk, .junk, .junk, .junk, .junk, .junk, .junk, .junk, .junk, .junk, .junk, .junk, .junk, .junk, .junk, .junk, .junk], [some ⟨3, false, false, true, .ints .i64 a⟩, some ⟨3, false, false, true, .ints .i64 b⟩]⟩
def oksame_0 : Xsame_0 → Prop
  | ⟨za, a, zb, b, i⟩ => short a ∧ a.length = b.length ∧ i ≤ a.length ∧ (za = true → a = []) ∧ (zb = true → b = []) ∧ a.take i = b.take i
set_option linter.unusedVariables false in
def outsame_0 : Xsame_0 → Tree (Ex × St)
  | ⟨za, a, zb, b, i⟩ => .br (decide (a = b)) (.ret (.exit 0, ⟨[.junk, .junk, .junk, .junk, .junk, .junk, .junk, .junk, .junk, .junk, .junk, .junk, .junk, .junk, .junk, .junk, .junk, .junk, .junk, .junk, .junk, .junk, .junk, .junk, .junk, .junk], [some ⟨3, false, false, true, .ints .i64 a⟩, some ⟨3, false, false, true, .ints .i64 b⟩]⟩)) (.ret (.ret, ⟨[.junk, .junk, .junk, .junk, .bool false false, .junk, .junk, .junk, .junk, .junk, .junk, .junk, .junk, .junk, .junk, .junk, .junk, .junk, .junk, .junk, .junk, .junk, .junk, .junk, .junk, .junk], [some ⟨3, false, false, true, .ints .i64 a⟩, some ⟨3, false, false, true, .ints .i64 b⟩]⟩))
def musame_0 : Xsame_0 → Nat
  | ⟨za, a, zb, b, i⟩ => a.length - i
def ressame_0 (x : Xsame_0) : Tree (Ex × St) := .chk (oksame_0 x) (outsame_0 x)
set_option linter.unusedVariables false in
def anssame_0 (st : St) : Tree (Ex × St) := match st.env.getD 0 .junk, st.env.getD 1 .junk, st.env.getD 5 .junk, st.mem with
  | .sl za _ _ _ _, .sl zb _ _ _ _, .int _ _ i_, [some ⟨_, _, _, _, .ints _ a⟩, some ⟨_, _, _, _, .ints _ b⟩] => .chk (st.le (hdsame_0 ⟨za, a, zb, b, i_.toNat⟩)) (ressame_0 ⟨za, a, zb, b, i_.toNat⟩)
  | _, _, _, _ => .fail
def Tsame_0 : Tidy := ⟨[], [0, 1, 5]⟩
def Usame_0 : Ex → Tidy
  | .ret => ⟨[], [4]⟩
  | .exit 0 => ⟨[], []⟩
  | _ => ⟨[], []⟩
def rowsame_0 : LoopRow := ⟨13, 4, Tsame_0, anssame_0⟩
def rowssame : List LoopRow := [rowsame_0]
set_option linter.unusedVariables false in
noncomputable def Fsame : PF
  | [.ints za a, .ints zb b] => some (short a ∧ (za = true → a = []) ∧ (zb = true → b = []), .bool false (decide (a = b)), [])
  | _ => none
noncomputable def tab11 : List (FuncId × Ent) := (13, pureEnt 3 Fsame) :: tab10
structure Xall26_0 where
  k : Int
  zl : Bool
  l : List Int
  i : Nat
def hdall26_0 : Xall26_0 → St
  | ⟨k, zl, l, i⟩ => ⟨[.int .i64 false k, .junk, .fn (.func 26) [] [.ptr ⟨1, 0, 0, 0⟩], .junk, .junk, .junk, .junk, .junk, .sl (decide (((l.take i).flatMap (wordsZ k)) = [])) ⟨2, 0, 0, 0⟩ false ((l.take i).flatMap (wordsZ k)).length .own, .junk, .junk, .junk, .junk, .junk, .junk, .junk, .junk, .sl zl ⟨0, 0, 0, 0⟩ false l.length .any, .int .i64 false (l.length : Int), .int .i64 false (i : Int), .junk, .junk, .junk, .junk, .junk, .junk, .junk, .junk, .junk, .junk, .junk, .junk, .junk, .junk], [some ⟨3, false, false, true, .ints .i64 l⟩, some ⟨3, false, false, false, .cells [.int .i64 false k]⟩, some ⟨3, true, decide (((l.take i).flatMap (wordsZ k)) = []), true, .ints .i64 ((l.take i).flatMap (wordsZ k))⟩]⟩
def okall26_0 : Xall26_0 → Prop
  | ⟨k, zl, l, i⟩ => 1 ≤ k ∧ k ≤ 4 ∧ l.length ≤ 100000 ∧ wf64L l ∧ i ≤ l.length ∧ (zl = true → l = []) ∧ (l.take i).all (fitsZ true k) = true
set_option linter.unusedVariables false in
def outall26_0 : Xall26_0 → Tree (Ex × St)
  | ⟨k, zl, l, i⟩ => .br (l.all (fitsZ true k)) (.ret (.exit 0, ⟨[.junk, .junk, .junk, .junk, .junk, .junk, .junk, .junk, .sl (decide (l.flatMap (wordsZ k) = [])) ⟨2, 0, 0, 0⟩ false (l.flatMap (wordsZ k)).length .own, .junk, .junk, .junk, .junk, .junk, .junk, .junk, .junk, .junk, .junk, .junk, .junk, .junk, .junk, .junk, .junk, .junk, .junk, .junk, .junk, .junk, .junk, .junk, .junk, .junk], [some ⟨3, false, false, true, .ints .i64 l⟩, some ⟨3, false, false, false, .cells [.int .i64 false k]⟩, some ⟨3, true, decide (l.flatMap (wordsZ k) = []), true, .ints .i64 (l.flatMap (wordsZ k))⟩]⟩)) (.ret (.ret, ⟨[.junk, .junk, .junk, .junk, .junk, .junk, .sl true ⟨0, 0, 0, 0⟩ true 0 .exact, .int .i64 true 2, .junk, .junk, .junk, .junk, .junk, .junk, .junk, .junk, .junk, .junk, .junk, .junk, .junk, .junk, .junk, .junk, .junk, .junk, .junk, .junk, .junk, .junk, .junk, .junk, .junk, .junk], [some ⟨3, false, false, true, .ints .i64 l⟩, some ⟨3, false, false, false, .cells [.int .i64 false k]⟩]⟩))
def muall26_0 : Xall26_0 → Nat
  | ⟨k, zl, l, i⟩ => l.length - i
def resall26_0 (x : Xall26_0) : Tree (Ex × St) := .chk (okall26_0 x) (outall26_0 x)
set_option linter.unusedVariables false in
def ansall26_0 (st : St) : Tree (Ex × St) := match st.env.getD 0 .junk, st.env.getD 8 .junk, st.env.getD 17 .junk, st.env.getD 19 .junk, st.mem with
  | .int _ _ k, _, .sl zl _ _ _ _, .int _ _ i_, [some ⟨_, _, _, _, .ints _ l⟩, some ⟨_, _, _, _, .cells [_]⟩, _] => .chk (st.le (hdall26_0 ⟨k, zl, l, i_.toNat⟩)) (resall26_0 ⟨k, zl, l, i_.toNat⟩)
  | _, _, _, _, _ => .fail
def Tall26_0 : Tidy := ⟨[(8, 3, .ints .i64 [])], [0, 2, 8, 17, 18, 19]⟩
def Uall26_0 : Ex → Tidy
  | .ret => ⟨[], [6, 7]⟩
  | .exit 0 => ⟨[], [8]⟩
  | _ => ⟨[], []⟩
def rowall26_0 : LoopRow := ⟨25, 5, Tall26_0, ansall26_0⟩
def rowsall26 : List LoopRow := [rowall26_0]
set_option linter.unusedVariables false in
noncomputable def Fall26 : PF
  | [.val (.int .i64 _ k), .ints zl l, .fn1 26 (.int .i64 false kk)] => some (kk = k ∧ l.length ≤ 100000 ∧ wf64L l ∧ (zl = true → l = []), .tup [.sl (decide (putL true k l = [])) ⟨2, 0, 0, 0⟩ false (putL true k l).length .own, .int .i64 false (putE true k l)], [⟨3, true, decide (putL true k l = []), true, .ints .i64 (putL true k l)⟩])
  | _ => none
noncomputable def tab12 : List (FuncId × Ent) := (25, pureEnt 3 Fall26) :: tab11
set_option linter.unusedVariables false in
noncomputable def Fsigned : PF
  | [.val (.int .i64 _ k), .ints zl l] => some (l.length ≤ 100000 ∧ wf64L l ∧ (zl = true → l = []), .tup [.sl (decide (putL true k l = [])) ⟨1, 0, 0, 0⟩ false (putL true k l).length .own, .int .i64 false (putE true k l)], [⟨3, true, decide (putL true k l = []), true, .ints .i64 (putL true k l)⟩])
  | _ => none
noncomputable def tab13 : List (FuncId × Ent) := (9, pureEnt 3 Fsigned) :: tab12
structure Xraw_0 where
  k : Int
  zl : Bool
  l : List Int
  i : Nat
def hdraw_0 : Xraw_0 → St
  | ⟨k, zl, l, i⟩ => ⟨[.int .i64 false k, .junk, .junk, .junk, .junk, .junk, .junk, .int .u64 false (valZ (l.take i)), .junk, .junk, .junk, .junk, .junk, .junk, .junk, .junk, .junk, .junk, .junk, .junk, .junk, .junk, .junk, .junk, .junk, .sl zl ⟨0, 0, 0, 0⟩ false k.toNat .exact, .int .i64 false (k.toNat : Int), .int .i64 false (i : Int), .junk, .junk, .junk, .junk, .junk, .junk, .junk, .junk, .junk, .junk], [some ⟨3, false, false, true, .ints .i64 l⟩]⟩
def okraw_0 : Xraw_0 → Prop
  | ⟨k, zl, l, i⟩ => 1 ≤ k ∧ k ≤ 4 ∧ k.toNat ≤ l.length ∧ (zl = true → l = []) ∧ (l.take k.toNat).any badW = false ∧ i ≤ k.toNat
set_option linter.unusedVariables false in
def outraw_0 : Xraw_0 → Tree (Ex × St)
  | ⟨k, zl, l, i⟩ => .ret (.exit 0, ⟨[.junk, .junk, .junk, .junk, .junk, .junk, .junk, .int .u64 false (valZ (l.take k.toNat)), .junk, .junk, .junk, .junk, .junk, .junk, .junk, .junk, .junk, .junk, .junk, .junk, .junk, .junk, .junk, .junk, .junk, .junk, .junk, .junk, .junk, .junk, .junk, .junk, .junk, .junk, .junk, .junk, .junk, .junk], [some ⟨3, false, false, true, .ints .i64 l⟩]⟩)
def muraw_0 : Xraw_0 → Nat
  | ⟨k, zl, l, i⟩ => k.toNat - i
def resraw_0 (x : Xraw_0) : Tree (Ex × St) := .chk (okraw_0 x) (outraw_0 x)
set_option linter.unusedVariables false in
def ansraw_0 (st : St) : Tree (Ex × St) := match st.env.getD 0 .junk, st.env.getD 7 .junk, st.env.getD 25 .junk, st.env.getD 27 .junk, st.mem with
  | .int _ _ k, _, .sl zl _ _ _ _, .int _ _ i_, [some ⟨_, _, _, _, .ints _ l⟩] => .chk (st.le (hdraw_0 ⟨k, zl, l, i_.toNat⟩)) (resraw_0 ⟨k, zl, l, i_.toNat⟩)
  | _, _, _, _, _ => .fail
def Traw_0 : Tidy := ⟨[], [0, 7, 25, 26, 27]⟩
def Uraw_0 : Ex → Tidy
  | .exit 0 => ⟨[], [7]⟩
  | _ => ⟨[], []⟩
def rowraw_0 : LoopRow := ⟨29, 8, Traw_0, ansraw_0⟩
def rowsraw : List LoopRow := [rowraw_0]
set_option linter.unusedVariables false in
noncomputable def Fraw : PF
  | [.val (.int .i64 _ k), .ints zl l] => some (short l ∧ (zl = true → l = []), .tup [.int .u64 false (rawV k l), .int .i64 false (rawE k l)], [])
  | _ => none
noncomputable def tab14 : List (FuncId × Ent) := (29, pureEnt 3 Fraw) :: tab13
set_option linter.unusedVariables false in
noncomputable def Fget : PF
  | [.val (.int .i64 _ k), .ints zl l] => some (short l ∧ (zl = true → l = []), .tup [.int .i64 false (getV k l), .int .i64 false (rawE k l)], [])
  | _ => none
noncomputable def tab15 : List (FuncId × Ent) := (15, pureEnt 3 Fget) :: tab14
structure Xsize_0 where
  zl : Bool
  l : List Int
  i : Nat
def hdsize_0 : Xsize_0 → St
  | ⟨zl, l, i⟩ => ⟨[.junk, .junk, .junk, .int .i64 false (sumI (l.take i)), .junk, .junk, .sl zl ⟨0, 0, 0, 0⟩ false l.length .any, .int .i64 false (l.length : Int), .int .i64 false (i : Int), .junk, .junk, .junk, .junk, .junk, .junk, .junk, .junk, .junk, .junk, .junk, .junk, .junk, .junk, .junk, .junk, .junk], [some ⟨3, false, false, true, .ints .i64 l⟩]⟩
def oksize_0 : Xsize_0 → Prop
  | ⟨zl, l, i⟩ => l.length ≤ 1000000 ∧ (zl = true → l = []) ∧ i ≤ l.length ∧ (l.take i).any badV = false
set_option linter.unusedVariables false in
def outsize_0 : Xsize_0 → Tree (Ex × St)
  | ⟨zl, l, i⟩ => .br (l.any badV) (.ret (.ret, ⟨[.junk, .junk, .int .i64 true 0, .junk, .junk, .junk, .junk, .junk, .junk, .junk, .junk, .junk, .junk, .junk, .junk, .junk, .junk, .junk, .junk, .junk, .junk, .junk, .junk, .junk, .junk, .junk], [some ⟨3, false, false, true, .ints .i64 l⟩]⟩)) (.ret (.exit 0, ⟨[.junk, .junk, .junk, .int .i64 false (sumI l), .junk, .junk, .junk, .junk, .junk, .junk, .junk, .junk, .junk, .junk, .junk, .junk, .junk, .junk, .junk, .junk, .junk, .junk, .junk, .junk, .junk, .junk], [some ⟨3, false, false, true, .ints .i64 l⟩]⟩))
def musize_0 : Xsize_0 → Nat
  | ⟨zl, l, i⟩ => l.length - i
def ressize_0 (x : Xsize_0) : Tree (Ex × St) := .chk (oksize_0 x) (outsize_0 x)
set_option linter.unusedVariables false in
def anssize_0 (st : St) : Tree (Ex × St) := match st.env.getD 3 .junk, st.env.getD 6 .junk, st.env.getD 8 .junk, st.mem with
  | _, .sl zl _ _ _ _, .int _ _ i_, [some ⟨_, _, _, _, .ints _ l⟩] => .chk (st.le (hdsize_0 ⟨zl, l, i_.toNat⟩)) (ressize_0 ⟨zl, l, i_.toNat⟩)
  | _, _, _, _ => .fail
def Tsize_0 : Tidy := ⟨[], [3, 6, 7, 8]⟩
def Usize_0 : Ex → Tidy
  | .ret => ⟨[], [2]⟩
  | .exit 0 => ⟨[], [3]⟩
  | _ => ⟨[], []⟩
def rowsize_0 : LoopRow := ⟨23, 3, Tsize_0, anssize_0⟩
def rowssize : List LoopRow := [rowsize_0]
set_option linter.unusedVariables false in
noncomputable def Fsize : PF
  | [.ints zl l] => some (l.length ≤ 1000000 ∧ (zl = true → l = []), .int .i64 false (sizeZ l), [])
  | _ => none
noncomputable def tab16 : List (FuncId × Ent) := (23, pureEnt 3 Fsize) :: tab15
set_option linter.unusedVariables false in
noncomputable def Fworks : PF
  | [] => some (True, .bool false true, [])
  | _ => none
noncomputable def tab17 : List (FuncId × Ent) := (14, pureEnt 3 Fworks) :: tab16
structure Xfields_0 where
  zws : Bool
  ws : List Int
  zvs : Bool
  vs : List Int
  i : Nat
def hdfields_0 : Xfields_0 → St
  | ⟨zws, ws, zvs, vs, i⟩ => ⟨[.junk, .sl zvs ⟨1, 0, 0, 0⟩ false vs.length .any, .junk, .junk, .junk, .junk, .junk, .sl (decide (outTo ws vs i = [])) ⟨2, 0, 0, 0⟩ false (outTo ws vs i).length .own, .int .i64 false (roomTo ws vs i), .int .i64 false (lastTo ws vs i), .junk, .junk, .junk, .junk, .junk, .junk, .junk, .junk, .junk, .junk, .junk, .junk, .sl zws ⟨0, 0, 0, 0⟩ false ws.length .any, .int .i64 false (ws.length : Int), .int .i64 false (i : Int), .junk, .junk, .junk, .junk, .junk, .junk, .junk, .junk, .junk, .junk, .junk, .junk, .junk, .junk, .junk, .junk, .junk, .junk, .junk, .junk, .junk, .junk, .junk, .junk, .junk, .junk, .junk, .junk, .junk, .junk, .junk, .junk, .junk, .junk, .junk, .junk, .junk, .junk, .junk, .junk, .junk, .junk, .junk, .junk, .junk, .junk, .junk, .junk, .junk, .junk, .junk, .junk, .junk, .junk, .junk], [some ⟨3, false, false, true, .ints .i64 ws⟩, some ⟨3, false, false, true, .ints .i64 vs⟩, some ⟨3, true, decide ((outTo ws vs i) = []), true, .ints .i64 (outTo ws vs i)⟩]⟩
def okfields_0 : Xfields_0 → Prop
  | ⟨zws, ws, zvs, vs, i⟩ => mayZ ws = 0 ∧ ws.length = vs.length ∧ (zws = true → ws = []) ∧ (zvs = true → vs = []) ∧ wf64L vs ∧ i ≤ ws.length ∧ fitF (ws.take i) (vs.take i) = true
set_option linter.unusedVariables false in
def outfields_0 : Xfields_0 → Tree (Ex × St)
  | ⟨zws, ws, zvs, vs, i⟩ => .br (fitF ws vs) (.ret (.exit 0, ⟨[.junk, .junk, .junk, .junk, .junk, .junk, .junk, .sl (decide (outTo ws vs ws.length = [])) ⟨2, 0, 0, 0⟩ false (outTo ws vs ws.length).length .own, .int .i64 false (roomTo ws vs ws.length), .int .i64 false (lastTo ws vs ws.length), .junk, .junk, .junk, .junk, .junk, .junk, .junk, .junk, .junk, .junk, .junk, .junk, .junk, .junk, .junk, .junk, .junk, .junk, .junk, .junk, .junk, .junk, .junk, .junk, .junk, .junk, .junk, .junk, .junk, .junk, .junk, .junk, .junk, .junk, .junk, .junk, .junk, .junk, .junk, .junk, .junk, .junk, .junk, .junk, .junk, .junk, .junk, .junk, .junk, .junk, .junk, .junk, .junk, .junk, .junk, .junk, .junk, .junk, .junk, .junk, .junk, .junk, .junk, .junk, .junk, .junk, .junk, .junk, .junk, .junk], [some ⟨3, false, false, true, .ints .i64 ws⟩, some ⟨3, false, false, true, .ints .i64 vs⟩, some ⟨3, true, decide ((outTo ws vs ws.length) = []), true, .ints .i64 (outTo ws vs ws.length)⟩]⟩)) (.ret (.ret, ⟨[.junk, .junk, .junk, .junk, .sl true ⟨0, 0, 0, 0⟩ true 0 .exact, .int .i64 true 2, .junk, .junk, .junk, .junk, .junk, .junk, .junk, .junk, .junk, .junk, .junk, .junk, .junk, .junk, .junk, .junk, .junk, .junk, .junk, .junk, .junk, .junk, .junk, .junk, .junk, .junk, .junk, .junk, .junk, .junk, .junk, .junk, .junk, .junk, .junk, .junk, .junk, .junk, .junk, .junk, .junk, .junk, .junk, .junk, .junk, .junk, .junk, .junk, .junk, .junk, .junk, .junk, .junk, .junk, .junk, .junk, .junk, .junk, .junk, .junk, .junk, .junk, .junk, .junk, .junk, .junk, .junk, .junk, .junk, .junk, .junk, .junk, .junk, .junk], [some ⟨3, false, false, true, .ints .i64 ws⟩, some ⟨3, false, false, true, .ints .i64 vs⟩]⟩))
def mufields_0 : Xfields_0 → Nat
  | ⟨zws, ws, zvs, vs, i⟩ => ws.length - i
def resfields_0 (x : Xfields_0) : Tree (Ex × St) := .chk (okfields_0 x) (outfields_0 x)
set_option linter.unusedVariables false in
def ansfields_0 (st : St) : Tree (Ex × St) := match st.env.getD 1 .junk, st.env.getD 7 .junk, st.env.getD 8 .junk, st.env.getD 9 .junk, st.env.getD 22 .junk, st.env.getD 24 .junk, st.mem with
  | .sl zvs _ _ _ _, _, _, _, .sl zws _ _ _ _, .int _ _ i_, [some ⟨_, _, _, _, .ints _ ws⟩, some ⟨_, _, _, _, .ints _ vs⟩, _] => .chk (st.le (hdfields_0 ⟨zws, ws, zvs, vs, i_.toNat⟩)) (resfields_0 ⟨zws, ws, zvs, vs, i_.toNat⟩)
  | _, _, _, _, _, _, _ => .fail
def Tfields_0 : Tidy := ⟨[(7, 3, .ints .i64 [])], [1, 7, 8, 9, 22, 23, 24]⟩
def Ufields_0 : Ex → Tidy
  | .ret => ⟨[], [4, 5]⟩
  | .exit 0 => ⟨[], [7, 8, 9]⟩
  | _ => ⟨[], []⟩
def rowfields_0 : LoopRow := ⟨19, 9, Tfields_0, ansfields_0⟩
def rowsfields : List LoopRow := [rowfields_0]
set_option linter.unusedVariables false in
noncomputable def Ffields : PF
  | [.ints zws ws, .ints zvs vs] => some (short ws ∧ short vs ∧ (zws = true → ws = []) ∧ (zvs = true → vs = []) ∧ wf64L vs, .tup [.sl (decide (fieldsL ws vs = [])) ⟨2, 0, 0, 0⟩ false (fieldsL ws vs).length .own, .int .i64 false (fieldsE ws vs)], [⟨3, true, decide (fieldsL ws vs = []), true, .ints .i64 (fieldsL ws vs)⟩])
  | _ => none
noncomputable def tab18 : List (FuncId × Ent) := (19, pureEnt 3 Ffields) :: tab17
structure Xsplit_0 where
  zws : Bool
  ws : List Int
  zl : Bool
  l : List Int
  i : Nat
def hdsplit_0 : Xsplit_0 → St
  | ⟨zws, ws, zl, l, i⟩ => ⟨[.junk, .sl zl ⟨1, 0, 0, 0⟩ false l.length .any, .junk, .junk, .junk, .junk, .junk, .junk, .sl (decide (splitF l 0 (ws.take i) = [])) ⟨2, 0, 0, 0⟩ false (splitF l 0 (ws.take i)).length .own, .int .i64 false (sumI (ws.take i)), .junk, .junk, .junk, .junk, .junk, .junk, .junk, .junk, .junk, .junk, .junk, .junk, .junk, .junk, .junk, .sl zws ⟨0, 0, 0, 0⟩ false ws.length .any, .int .i64 false (ws.length : Int), .int .i64 false (i : Int), .junk, .junk, .junk, .junk, .junk, .junk, .junk, .junk, .junk, .junk, .junk, .junk, .junk, .junk, .junk, .junk, .junk, .junk, .junk, .junk, .junk, .junk, .junk, .junk, .junk, .junk, .junk, .junk, .junk, .junk, .junk, .junk, .junk, .junk, .junk, .junk, .junk, .junk, .junk, .junk, .junk, .junk, .junk], [some ⟨3, false, false, true, .ints .i64 ws⟩, some ⟨3, false, false, true, .ints .i64 l⟩, some ⟨3, true, decide ((splitF l 0 (ws.take i)) = []), true, .ints .i64 (splitF l 0 (ws.take i))⟩]⟩
def oksplit_0 : Xsplit_0 → Prop
  | ⟨zws, ws, zl, l, i⟩ => mayZ ws = 0 ∧ short l ∧ (zws = true → ws = []) ∧ (zl = true → l = []) ∧ lookZ (sizeZ ws) l = 0 ∧ i ≤ ws.length
set_option linter.unusedVariables false in
def outsplit_0 : Xsplit_0 → Tree (Ex × St)
  | ⟨zws, ws, zl, l, i⟩ => .ret (.exit 0, ⟨[.junk, .junk, .junk, .junk, .junk, .junk, .junk, .junk, .sl (decide (splitF l 0 ws = [])) ⟨2, 0, 0, 0⟩ false (splitF l 0 ws).length .own, .junk, .junk, .junk, .junk, .junk, .junk, .junk, .junk, .junk, .junk, .junk, .junk, .junk, .junk, .junk, .junk, .junk, .junk, .junk, .junk, .junk, .junk, .junk, .junk, .junk, .junk, .junk, .junk, .junk, .junk, .junk, .junk, .junk, .junk, .junk, .junk, .junk, .junk, .junk, .junk, .junk, .junk, .junk, .junk, .junk, .junk, .junk, .junk, .junk, .junk, .junk, .junk, .junk, .junk, .junk, .junk, .junk, .junk, .junk, .junk, .junk, .junk], [some ⟨3, false, false, true, .ints .i64 ws⟩, some ⟨3, false, false, true, .ints .i64 l⟩, some ⟨3, true, decide ((splitF l 0 ws) = []), true, .ints .i64 (splitF l 0 ws)⟩]⟩)
def musplit_0 : Xsplit_0 → Nat
  | ⟨zws, ws, zl, l, i⟩ => ws.length - i
def ressplit_0 (x : Xsplit_0) : Tree (Ex × St) := .chk (oksplit_0 x) (outsplit_0 x)
set_option linter.unusedVariables false in
def anssplit_0 (st : St) : Tree (Ex × St) := match st.env.getD 1 .junk, st.env.getD 8 .junk, st.env.getD 9 .junk, st.env.getD 25 .junk, st.env.getD 27 .junk, st.mem with
  | .sl zl _ _ _ _, _, _, .sl zws _ _ _ _, .int _ _ i_, [some ⟨_, _, _, _, .ints _ ws⟩, some ⟨_, _, _, _, .ints _ l⟩, _] => .chk (st.le (hdsplit_0 ⟨zws, ws, zl, l, i_.toNat⟩)) (ressplit_0 ⟨zws, ws, zl, l, i_.toNat⟩)
  | _, _, _, _, _, _ => .fail
def Tsplit_0 : Tidy := ⟨[(8, 3, .ints .i64 [])], [1, 8, 9, 25, 26, 27]⟩
def Usplit_0 : Ex → Tidy
  | .exit 0 => ⟨[], [8]⟩
  | _ => ⟨[], []⟩
def rowsplit_0 : LoopRow := ⟨21, 10, Tsplit_0, anssplit_0⟩
def rowssplit : List LoopRow := [rowsplit_0]
set_option linter.unusedVariables false in
noncomputable def Fsplit : PF
  | [.ints zws ws, .ints zl l] => some (short ws ∧ short l ∧ (zws = true → ws = []) ∧ (zl = true → l = []), .tup [.sl (decide (splitL ws l = [])) ⟨2, 0, 0, 0⟩ false (splitL ws l).length .own, .int .i64 false (splitE ws l)], [⟨3, true, decide (splitL ws l = []), true, .ints .i64 (splitL ws l)⟩])
  | _ => none
noncomputable def tab19 : List (FuncId × Ent) := (21, pureEnt 3 Fsplit) :: tab18
theorem amz {a b : Int} (h : 1 ≤ b) : 0 ≤ amongZ a b ∧ amongZ a b < b := ⟨Int.emod_nonneg _ (by omega), Int.emod_lt_of_pos _ (by omega)⟩
theorem sgL_ok (l : List Int) : (l.map fun w => amongZ w 65536).any badW = false := by
  rw [List.any_eq_false]
  intro x hx
  obtain ⟨w, _, rfl⟩ := List.mem_map.1 hx
  have := amz (a := w) (b := 65536) (by omega)
  simp [badW]
  omega
theorem sgK {a : Int} : 1 ≤ IntKind.i64.wrap (1 + amongZ a 3) ∧ IntKind.i64.wrap (1 + amongZ a 3) ≤ 3 := by
  have := amz (a := a) (b := 3) (by omega)
  rw [w64]; omega
theorem sgP {K : Int} (h1 : 1 ≤ K) (h3 : K ≤ 3) : IntKind.i64.wrap (1 * 2 ^ min (IntKind.u64.wrap (IntKind.i64.wrap (16 * K))).toNat 64) = 2 ^ (16 * K.toNat) ∧ (IntKind.u64.wrap (IntKind.i64.wrap (16 * K)) < 0) = False := by
  rcases (by omega : K = 1 ∨ K = 2 ∨ K = 3) with rfl | rfl | rfl <;> decide
theorem sg_facts {K : Int} {L : List Int} (h1 : 1 ≤ K) (h3 : K ≤ 3) (hb : L.any badW = false) :
    ((L.length : Int) < K → rawE K L = 7 ∧ gplE K L = 7) ∧ (K ≤ (L.length : Int) → rawE K L = 0 ∧ gplE K L = 0 ∧ (getV K L = gplV K L ∧ 0 ≤ getV K L ∨ getV K L ≠ gplV K L ∧ getV K L < 0 ∧ IntKind.i64.wrap (gplV K L - getV K L) = 2 ^ (16 * K.toNat))) := by
  have hk : kOk K = true := by simp [kOk]; omega
  have hb2 : (L.take K.toNat).any badW = false := by
    rw [List.any_eq_false] at hb ⊢
    exact fun x hx => hb x (List.mem_of_mem_take hx)
  refine ⟨fun h => ?_, fun h => ?_⟩
  · have e : rawE K L = 7 := by unfold rawE lookZ; rw [if_pos hk, hb2, if_neg (by decide), if_pos h]
    have hv := (raw_facts K L).2.1 (by rw [e]; decide)
    refine ⟨e, ?_⟩
    unfold gplE
    rw [hv, if_neg (by decide), e]
  · have e : rawE K L = 0 := by unfold rawE lookZ; rw [if_pos hk, hb2, if_neg (by decide), if_neg (by omega)]
    obtain ⟨⟨v0, _⟩, _, v2⟩ := raw_facts K L
    have v3 := (v2 e).2.2
    have p1 : (2 : Int) ^ (16 * (1 : Int).toNat) = 65536 := by decide
    have p2 : (2 : Int) ^ (16 * (2 : Int).toNat) = 4294967296 := by decide
    have p3 : (2 : Int) ^ (16 * (3 : Int).toNat) = 281474976710656 := by decide
    refine ⟨e, ?_, ?_⟩
    · unfold gplE
      rw [e, if_neg]
      rcases (by omega : K = 1 ∨ K = 2 ∨ K = 3) with rfl | rfl | rfl <;> simp only [p1, p2, p3] at v3 <;> omega
    · unfold getV gplV
      generalize rawV K L = x at *
      rcases (by omega : K = 1 ∨ K = 2 ∨ K = 3) with rfl | rfl | rfl <;> simp only [p1, p2, p3, w64] at v3 ⊢ <;> rw [if_neg (show ¬ 9223372036854775808 ≤ x by omega)] <;> split <;> omega
theorem sg_step {l : List Int} {i : Nat} (hi : i < l.length) : (l.take i).map (fun w => amongZ w 65536) ++ [amongZ (l.getD i 0) 65536] = (l.take (i + 1)).map fun w => amongZ w 65536 := by
  rw [take_succ_getD hi, List.map_append]; rfl
theorem sg_end {l : List Int} {i k : Nat} (hi : i ≤ l.length) (hik : i ≤ k) (h : k ≤ i ∨ l.length ≤ i) : l.take i = l.take k ∧ i = min k l.length := by
  rcases h with h | h
  · rw [show i = k by omega]; exact ⟨rfl, by omega⟩
  · rw [List.take_of_length_le h, List.take_of_length_le (by omega)]; exact ⟨rfl, by omega⟩
structure XPackSigns_0 where
  k : Int
  zwords : Bool
  words : List Int
  i : Nat
def hdPackSigns_0 : XPackSigns_0 → St
  | ⟨k, zwords, words, i⟩ => ⟨[.int .i64 false k, .sl zwords ⟨0, 0, 0, 0⟩ false words.length .any, .junk, .junk, .junk, .sl false ⟨1, 0, 0, 0⟩ false i .own, .int .i64 false (i : Int), .junk, .junk, .junk, .junk, .junk, .junk, .junk, .junk, .junk, .junk, .junk, .junk, .junk, .junk, .junk, .junk, .junk, .junk, .junk, .junk, .junk, .junk, .junk, .junk, .junk, .junk, .junk, .junk, .junk, .junk, .junk, .junk, .junk, .junk, .junk, .junk, .junk, .junk, .junk, .junk, .junk, .junk, .junk, .junk, .junk, .junk, .junk, .junk, .junk, .junk, .junk, .junk, .junk, .junk, .junk, .junk, .junk, .junk, .junk, .junk, .junk, .junk, .junk, .junk, .junk, .junk, .junk, .junk, .junk, .junk, .junk, .junk, .junk, .junk, .junk, .junk, .junk, .junk, .junk, .junk], [some ⟨3, false, false, true, .ints .i64 words⟩, some ⟨3, true, false, true, .ints .i64 ((words.take i).map fun w => amongZ w 65536)⟩]⟩
def okPackSigns_0 : XPackSigns_0 → Prop
  | ⟨k, zwords, words, i⟩ => 1 ≤ k ∧ k ≤ 3 ∧ words.length ≤ 9223372036854775807 ∧ (zwords = true → words = []) ∧ i ≤ words.length ∧ i ≤ k.toNat
set_option linter.unusedVariables false in
def outPackSigns_0 : XPackSigns_0 → Tree (Ex × St)
  | ⟨k, zwords, words, i⟩ => .ret (.exit 0, ⟨[.int .i64 false k, .junk, .junk, .junk, .junk, .sl false ⟨1, 0, 0, 0⟩ false (min k.toNat words.length) .own, .junk, .junk, .junk, .junk, .junk, .junk, .junk, .junk, .junk, .junk, .junk, .junk, .junk, .junk, .junk, .junk, .junk, .junk, .junk, .junk, .junk, .junk, .junk, .junk, .junk, .junk, .junk, .junk, .junk, .junk, .junk, .junk, .junk, .junk, .junk, .junk, .junk, .junk, .junk, .junk, .junk, .junk, .junk, .junk, .junk, .junk, .junk, .junk, .junk, .junk, .junk, .junk, .junk, .junk, .junk, .junk, .junk, .junk, .junk, .junk, .junk, .junk, .junk, .junk, .junk, .junk, .junk, .junk, .junk, .junk, .junk, .junk, .junk, .junk, .junk, .junk, .junk, .junk, .junk, .junk, .junk], [some ⟨3, false, false, true, .ints .i64 words⟩, some ⟨3, true, false, true, .ints .i64 ((words.take k.toNat).map fun w => amongZ w 65536)⟩]⟩)
def muPackSigns_0 : XPackSigns_0 → Nat
  | ⟨k, zwords, words, i⟩ => k.toNat - i
def resPackSigns_0 (x : XPackSigns_0) : Tree (Ex × St) := .chk (okPackSigns_0 x) (outPackSigns_0 x)
set_option linter.unusedVariables false in
def ansPackSigns_0 (st : St) : Tree (Ex × St) := match st.env.getD 0 .junk, st.env.getD 1 .junk, st.env.getD 6 .junk, st.mem with
  | .int _ _ k, .sl zwords _ _ _ _, .int _ _ i_, [some ⟨_, _, _, _, .ints _ words⟩, _] => .chk (st.le (hdPackSigns_0 ⟨k, zwords, words, i_.toNat⟩)) (resPackSigns_0 ⟨k, zwords, words, i_.toNat⟩)
  | _, _, _, _ => .fail
def TPackSigns_0 : Tidy := ⟨[(5, 3, .ints .i64 [])], [0, 1, 5, 6]⟩
def UPackSigns_0 : Ex → Tidy
  | .exit 0 => ⟨[], [0, 5]⟩
  | _ => ⟨[], []⟩
def rowPackSigns_0 : LoopRow := ⟨5, 6, TPackSigns_0, ansPackSigns_0⟩
def rowsPackSigns : List LoopRow := [rowPackSigns_0]
theorem val_words {k n : Int} (h1 : 1 ≤ k) (h4 : k ≤ 4) : valZ (wordsZ k n) = n % 2 ^ (16 * k.toNat) := by
  rcases k_cases h1 h4 with rfl | rfl | rfl | rfl <;> simp [valZ, wordsZ, show (1 : Int).toNat = 1 from rfl, show (2 : Int).toNat = 2 from rfl, show (3 : Int).toNat = 3 from rfl, show (4 : Int).toNat = 4 from rfl, List.range, List.range.loop] <;> omega
theorem words_ok (k n : Int) : (wordsZ k n).any badW = false := by
  rw [List.any_eq_false]
  intro x hx
  obtain ⟨w, _, rfl⟩ := List.mem_map.1 hx
  simp [badW]
  omega
theorem flat_drop (k : Int) : ∀ (l : List Int) (i : Nat), (l.flatMap (wordsZ k)).drop (i * k.toNat) = (l.drop i).flatMap (wordsZ k)
  | [], i => by simp
  | n :: l, 0 => by simp
  | n :: l, i + 1 => by
    rw [List.flatMap_cons, List.drop_succ_cons, show (i + 1) * k.toNat = k.toNat + i * k.toNat by rw [Nat.succ_mul]; omega, ← List.drop_drop, List.drop_left' (wordsZ_len k n)]
    exact flat_drop k l i
theorem back_raw {k : Int} {l : List Int} {i : Nat} (h1 : 1 ≤ k) (h4 : k ≤ 4) (hi : i < l.length) : rawE k ((l.flatMap (wordsZ k)).drop (i * k.toNat)) = 0 ∧ rawV k ((l.flatMap (wordsZ k)).drop (i * k.toNat)) = l.getD i 0 % 2 ^ (16 * k.toNat) := by
  have hk : kOk k = true := by simp [kOk]; omega
  rw [flat_drop, drop_getD hi, List.flatMap_cons]
  have ht : (wordsZ k (l.getD i 0) ++ (l.drop (i + 1)).flatMap (wordsZ k)).take k.toNat = wordsZ k (l.getD i 0) := List.take_left' (wordsZ_len k _)
  have e : rawE k (wordsZ k (l.getD i 0) ++ (l.drop (i + 1)).flatMap (wordsZ k)) = 0 := by
    unfold rawE lookZ
    rw [if_pos hk, ht, words_ok, if_neg (by decide), if_neg (by rw [List.length_append, wordsZ_len]; omega)]
  refine ⟨e, ?_⟩
  unfold rawV
  rw [if_pos e, ht, val_words h1 h4]
theorem all_get {p : Int → Bool} {l : List Int} {i : Nat} (h : l.all p = true) (hi : i < l.length) : p (l.getD i 0) = true := by
  rw [List.getD_eq_getElem?_getD, List.getElem?_eq_getElem hi, Option.getD_some]
  exact List.all_eq_true.1 h _ (List.getElem_mem hi)
theorem back_facts {sign : Bool} {k : Int} {l : List Int} {i : Nat} (hp : putOk sign k l = true) (hw : wf64L l) (hi : i < l.length) :
    (sign = true → getV k ((l.flatMap (wordsZ k)).drop (i * k.toNat)) = l.getD i 0 ∧ rawE k ((l.flatMap (wordsZ k)).drop (i * k.toNat)) = 0) ∧ (sign = false → gplV k ((l.flatMap (wordsZ k)).drop (i * k.toNat)) = l.getD i 0 ∧ gplE k ((l.flatMap (wordsZ k)).drop (i * k.toNat)) = 0) := by
  simp only [putOk, kOk, Bool.and_eq_true, decide_eq_true_eq] at hp
  obtain ⟨⟨h1, h4⟩, ha⟩ := hp
  have hf := all_get ha hi
  have hn := wfL_get hw hi
  obtain ⟨e, v⟩ := back_raw h1 h4 hi
  generalize (l.flatMap (wordsZ k)).drop (i * k.toNat) = A at *
  generalize l.getD i 0 = n at *
  have p1 : (2 : Int) ^ (16 * (1 : Int).toNat) = 65536 := by decide
  have p2 : (2 : Int) ^ (16 * (2 : Int).toNat) = 4294967296 := by decide
  have p3 : (2 : Int) ^ (16 * (3 : Int).toNat) = 281474976710656 := by decide
  have p4 : (2 : Int) ^ (16 * (4 : Int).toNat) = 18446744073709551616 := by decide
  constructor
  · rintro rfl
    simp only [fitsZ, if_true, decide_eq_true_eq] at hf
    refine ⟨?_, e⟩
    unfold getV
    rw [v]
    rcases k_cases h1 h4 with rfl | rfl | rfl | rfl <;> simp only [p1, p2, p3, p4] at hf ⊢ <;> split <;> omega
  · rintro rfl
    simp only [fitsZ, Bool.false_eq_true, if_false, decide_eq_true_eq] at hf
    have v2 : rawV k A = n := by rw [v]; exact Int.emod_eq_of_lt hf.1 hf.2
    unfold gplV gplE
    rw [v2, e, if_neg (by omega), if_neg (by omega)]
    exact ⟨rfl, rfl⟩
theorem irec (x : Int) : (Int.rec (motive := fun _ => Nat) (fun a => a) (fun _ => 0) x : Nat) = x.toNat := by cases x <;> rfl
theorem putE_bad {s : Bool} {k : Int} {l : List Int} (h : putE s k l ≠ 0) : putL s k l = [] := by
  unfold putE at h; unfold putL
  by_cases e : putOk s k l = true
  · rw [if_pos e] at h; exact absurd rfl h
  · rw [if_neg e]
theorem putE_ok {s : Bool} {k : Int} {l : List Int} (h : putE s k l = 0) : putOk s k l = true := by
  unfold putE at h
  by_cases e : putOk s k l = true
  · exact e
  · rw [if_neg e] at h; cases h
theorem putOk_k {s : Bool} {k : Int} {l : List Int} (h : putOk s k l = true) : (1 ≤ k ∧ k ≤ 4) ∧ (putL s k l).length = l.length * k.toNat := by
  have h2 := h
  simp only [putOk, kOk, Bool.and_eq_true, decide_eq_true_eq] at h2
  exact ⟨h2.1, by unfold putL; rw [if_pos h, flat_len]⟩
theorem wmul {k : Int} {i : Nat} (h1 : 1 ≤ k) (h4 : k ≤ 4) (hi : i ≤ 200) : IntKind.i64.wrap ((i : Int) * k) = ((i * k.toNat : Nat) : Int) ∧ IntKind.i64.wrap (k * (i : Int)) = ((i * k.toNat : Nat) : Int) ∧ i * k.toNat ≤ 800 := by
  rcases k_cases h1 h4 with rfl | rfl | rfl | rfl <;> simp only [w64, show (1 : Int).toNat = 1 from rfl, show (2 : Int).toNat = 2 from rfl, show (3 : Int).toNat = 3 from rfl, show (4 : Int).toNat = 4 from rfl] <;> omega
theorem back_all {sign : Bool} {k : Int} {l : List Int} {m i : Nat} (hp : putOk sign k (l.take m) = true) (hw : wf64L l) (hm : m ≤ l.length) (hi : i < m) :
    (sign = true → getV k (List.take ((putL sign k (l.take m)).length - i * k.toNat) (List.drop (i * k.toNat) (putL sign k (l.take m)))) = l.getD i 0 ∧ rawE k (List.take ((putL sign k (l.take m)).length - i * k.toNat) (List.drop (i * k.toNat) (putL sign k (l.take m)))) = 0) ∧
    (sign = false → gplV k (List.take ((putL sign k (l.take m)).length - i * k.toNat) (List.drop (i * k.toNat) (putL sign k (l.take m)))) = l.getD i 0 ∧ gplE k (List.take ((putL sign k (l.take m)).length - i * k.toNat) (List.drop (i * k.toNat) (putL sign k (l.take m)))) = 0) := by
  rw [List.take_of_length_le (by rw [List.length_drop]; omega)]
  have e : l.getD i 0 = (l.take m).getD i 0 := by rw [List.getD_eq_getElem?_getD, List.getD_eq_getElem?_getD, List.getElem?_take, if_pos hi]
  have e2 : putL sign k (l.take m) = (l.take m).flatMap (wordsZ k) := by unfold putL; rw [if_pos hp]
  rw [e, e2]
  exact back_facts hp (fun n hn => hw n (List.mem_of_mem_take hn)) (by rw [List.length_take]; omega)
structure XPackBack_0 where
  k : Int
  zl : Bool
  l : List Int
  m : Nat
  sign : Bool
  i : Nat
def hdPackBack_0 : XPackBack_0 → St
  | ⟨k, zl, l, m, sign, i⟩ => ⟨[.int .i64 false k, .sl zl ⟨0, 0, 0, 0⟩ false m .any, .bool false sign, .junk, .junk, .junk, .junk, .sl (decide (putL sign k (l.take m) = [])) ⟨1, 0, 0, 0⟩ false (putL sign k (l.take m)).length .any, .junk, .int .i64 false (i : Int), .junk, .junk, .junk, .junk, .junk, .junk, .junk, .junk, .junk, .junk, .junk, .junk, .junk, .junk, .junk, .junk, .junk, .junk, .junk, .junk, .junk, .junk, .junk, .junk, .junk, .junk, .junk, .junk, .junk, .junk, .junk, .junk, .junk, .junk, .junk, .junk, .junk, .junk, .junk, .junk, .junk, .junk, .junk, .junk, .junk, .junk, .junk, .junk, .junk, .junk, .junk, .junk, .junk, .junk, .junk, .junk, .junk, .junk, .junk, .junk, .junk, .junk, .junk, .junk, .junk, .junk, .junk, .junk, .junk, .junk, .junk], [some ⟨3, false, false, true, .ints .i64 l⟩, some ⟨3, true, decide (putL sign k (l.take m) = []), true, .ints .i64 (putL sign k (l.take m))⟩]⟩
def okPackBack_0 : XPackBack_0 → Prop
  | ⟨k, zl, l, m, sign, i⟩ => l.length ≤ 9223372036854775807 ∧ (zl = true → l = []) ∧ wf64L l ∧ m ≤ l.length ∧ m ≤ 200 ∧ putOk sign k (l.take m) = true ∧ i ≤ m
set_option linter.unusedVariables false in
def outPackBack_0 : XPackBack_0 → Tree (Ex × St)
  | ⟨k, zl, l, m, sign, i⟩ => .ret (.exit 0, ⟨[.int .i64 false k, .sl zl ⟨0, 0, 0, 0⟩ false m .any, .junk, .junk, .junk, .junk, .junk, .sl (decide (putL sign k (l.take m) = [])) ⟨1, 0, 0, 0⟩ false (putL sign k (l.take m)).length .any, .junk, .junk, .junk, .junk, .junk, .junk, .junk, .junk, .junk, .junk, .junk, .junk, .junk, .junk, .junk, .junk, .junk, .junk, .junk, .junk, .junk, .junk, .junk, .junk, .junk, .junk, .junk, .junk, .junk, .junk, .junk, .junk, .junk, .junk, .junk, .junk, .junk, .junk, .junk, .junk, .junk, .junk, .junk, .junk, .junk, .junk, .junk, .junk, .junk, .junk, .junk, .junk, .junk, .junk, .junk, .junk, .junk, .junk, .junk, .junk, .junk, .junk, .junk, .junk, .junk, .junk, .junk, .junk, .junk, .junk, .junk, .junk, .junk], [some ⟨3, false, false, true, .ints .i64 l⟩, some ⟨3, true, decide (putL sign k (l.take m) = []), true, .ints .i64 (putL sign k (l.take m))⟩]⟩)
def muPackBack_0 : XPackBack_0 → Nat
  | ⟨k, zl, l, m, sign, i⟩ => m - i
def resPackBack_0 (x : XPackBack_0) : Tree (Ex × St) := .chk (okPackBack_0 x) (outPackBack_0 x)
set_option linter.unusedVariables false in
def ansPackBack_0 (st : St) : Tree (Ex × St) := match st.env.getD 0 .junk, st.env.getD 1 .junk, st.env.getD 2 .junk, st.env.getD 7 .junk, st.env.getD 9 .junk, st.mem with
  | .int _ _ k, .sl zl _ _ m _, .bool _ sign, _, .int _ _ i_, [some ⟨_, _, _, _, .ints _ l⟩, _] => .chk (st.le (hdPackBack_0 ⟨k, zl, l, m, sign, i_.toNat⟩)) (resPackBack_0 ⟨k, zl, l, m, sign, i_.toNat⟩)
  | _, _, _, _, _, _ => .fail
def TPackBack_0 : Tidy := ⟨[], [0, 1, 2, 7, 9]⟩
def UPackBack_0 : Ex → Tidy
  | .ret => ⟨[], []⟩
  | .exit 0 => ⟨[], [0, 1, 7]⟩
  | _ => ⟨[], []⟩
def rowPackBack_0 : LoopRow := ⟨6, 10, TPackBack_0, ansPackBack_0⟩
def rowsPackBack : List LoopRow := [rowPackBack_0]
structure XPackFull_0 where
  zwidths : Bool
  widths : List Int
  values : List Int
  zwords : Bool
  words : List Int
  i : Nat
def hdPackFull_0 : XPackFull_0 → St
  | ⟨zwidths, widths, values, zwords, words, i⟩ => ⟨[.sl zwidths ⟨0, 0, 0, 0⟩ false widths.length .any, .junk, .sl zwords ⟨2, 0, 0, 0⟩ false words.length .any, .junk, .junk, .junk, .junk, .junk, .junk, .junk, .junk, .junk, .junk, .sl (decide ((fieldsL widths (splitL widths words)) = [])) ⟨3, 0, 0, 0⟩ false (fieldsL widths (splitL widths words)).length .own, .int .i64 false (fieldsE widths (splitL widths words)), .int .i64 false (sizeZ widths), .int .i64 false (sumI (widths.take i)), .int .i64 false (i : Int), .junk, .junk, .junk, .junk, .junk, .junk, .junk, .junk, .junk, .junk, .junk, .junk, .junk, .junk, .junk, .junk, .junk, .junk, .junk, .junk, .junk, .junk, .junk, .junk, .junk, .junk, .junk, .junk, .junk, .junk, .junk, .junk, .junk, .junk, .junk, .junk, .junk, .junk, .junk, .junk, .junk, .junk, .junk, .junk, .junk, .junk, .junk, .junk, .junk, .junk, .junk, .junk, .junk, .junk, .junk, .junk, .junk, .junk, .junk, .junk, .junk, .junk, .junk, .junk, .junk, .junk, .junk, .junk, .junk, .junk, .junk, .junk, .junk, .junk, .junk, .junk, .junk, .junk, .junk, .junk, .junk, .junk, .junk, .junk, .junk, .junk, .junk, .junk, .junk, .junk, .junk, .junk, .junk, .junk, .junk, .junk, .junk, .junk, .junk, .junk, .junk, .junk, .junk, .junk, .junk, .junk, .junk, .junk, .junk, .junk, .junk, .junk, .junk, .junk, .junk, .junk, .junk, .junk, .junk, .junk, .junk], [some ⟨3, false, false, true, .ints .i64 widths⟩, some ⟨3, false, false, true, .ints .i64 values⟩, some ⟨3, false, false, true, .ints .i64 words⟩, some ⟨3, true, decide ((fieldsL widths (splitL widths words)) = []), true, .ints .i64 (fieldsL widths (splitL widths words))⟩]⟩
def okPackFull_0 : XPackFull_0 → Prop
  | ⟨zwidths, widths, values, zwords, words, i⟩ => splitE widths words = 0 ∧ widths.length ≤ 300 ∧ words.length ≤ 300 ∧ (zwidths = true → widths = []) ∧ (zwords = true → words = []) ∧ i ≤ widths.length
set_option linter.unusedVariables false in
def outPackFull_0 : XPackFull_0 → Tree (Ex × St)
  | ⟨zwidths, widths, values, zwords, words, i⟩ => .ret (.exit 0, ⟨[.junk, .junk, .sl zwords ⟨2, 0, 0, 0⟩ false words.length .any, .junk, .junk, .junk, .junk, .junk, .junk, .junk, .junk, .junk, .junk, .sl (decide ((fieldsL widths (splitL widths words)) = [])) ⟨3, 0, 0, 0⟩ false (fieldsL widths (splitL widths words)).length .own, .int .i64 false (fieldsE widths (splitL widths words)), .int .i64 false (sizeZ widths), .int .i64 false (sumI widths), .junk, .junk, .junk, .junk, .junk, .junk, .junk, .junk, .junk, .junk, .junk, .junk, .junk, .junk, .junk, .junk, .junk, .junk, .junk, .junk, .junk, .junk, .junk, .junk, .junk, .junk, .junk, .junk, .junk, .junk, .junk, .junk, .junk, .junk, .junk, .junk, .junk, .junk, .junk, .junk, .junk, .junk, .junk, .junk, .junk, .junk, .junk, .junk, .junk, .junk, .junk, .junk, .junk, .junk, .junk, .junk, .junk, .junk, .junk, .junk, .junk, .junk, .junk, .junk, .junk, .junk, .junk, .junk, .junk, .junk, .junk, .junk, .junk, .junk, .junk, .junk, .junk, .junk, .junk, .junk, .junk, .junk, .junk, .junk, .junk, .junk, .junk, .junk, .junk, .junk, .junk, .junk, .junk, .junk, .junk, .junk, .junk, .junk, .junk, .junk, .junk, .junk, .junk, .junk, .junk, .junk, .junk, .junk, .junk, .junk, .junk, .junk, .junk, .junk, .junk, .junk, .junk, .junk, .junk, .junk, .junk, .junk], [some ⟨3, false, false, true, .ints .i64 widths⟩, some ⟨3, false, false, true, .ints .i64 values⟩, some ⟨3, false, false, true, .ints .i64 words⟩, some ⟨3, true, decide ((fieldsL widths (splitL widths words)) = []), true, .ints .i64 (fieldsL widths (splitL widths words))⟩]⟩)
def muPackFull_0 : XPackFull_0 → Nat
  | ⟨zwidths, widths, values, zwords, words, i⟩ => widths.length - i
def resPackFull_0 (x : XPackFull_0) : Tree (Ex × St) := .chk (okPackFull_0 x) (outPackFull_0 x)
set_option linter.unusedVariables false in
def ansPackFull_0 (st : St) : Tree (Ex × St) := match st.env.getD 0 .junk, st.env.getD 2 .junk, st.env.getD 13 .junk, st.env.getD 14 .junk, st.env.getD 15 .junk, st.env.getD 16 .junk, st.env.getD 17 .junk, st.mem with
  | .sl zwidths _ _ _ _, .sl zwords _ _ _ _, _, _, _, _, .int _ _ i_, [some ⟨_, _, _, _, .ints _ widths⟩, some ⟨_, _, _, _, .ints _ values⟩, some ⟨_, _, _, _, .ints _ words⟩, _] => .chk (st.le (hdPackFull_0 ⟨zwidths, widths, values, zwords, words, i_.toNat⟩)) (resPackFull_0 ⟨zwidths, widths, values, zwords, words, i_.toNat⟩)
  | _, _, _, _, _, _, _, _ => .fail
def TPackFull_0 : Tidy := ⟨[], [0, 2, 13, 14, 15, 16, 17]⟩
def UPackFull_0 : Ex → Tidy
  | .exit 0 => ⟨[], [2, 13, 14, 15, 16]⟩
  | _ => ⟨[], []⟩
def rowPackFull_0 : LoopRow := ⟨8, 17, TPackFull_0, ansPackFull_0⟩
structure XPackFull_1 where
  widths : List Int
  values : List Int
  zwords : Bool
  words : List Int
  i : Nat
def hdPackFull_1 : XPackFull_1 → St
  | ⟨widths, values, zwords, words, i⟩ => ⟨[.junk, .junk, .sl zwords ⟨2, 0, 0, 0⟩ false words.length .any, .junk, .junk, .junk, .junk, .junk, .junk, .junk, .junk, .junk, .junk, .sl (decide ((fieldsL widths (splitL widths words)) = [])) ⟨3, 0, 0, 0⟩ false (fieldsL widths (splitL widths words)).length .own, .junk, .int .i64 false (sizeZ widths), .int .i64 false (sumI widths), .junk, .int .i64 false (i : Int), .junk, .junk, .junk, .junk, .junk, .junk, .junk, .junk, .junk, .junk, .junk, .junk, .junk, .junk, .junk, .junk, .junk, .junk, .junk, .junk, .junk, .junk, .junk, .junk, .junk, .junk, .junk, .junk, .junk, .junk, .junk, .junk, .junk, .junk, .junk, .junk, .junk, .junk, .junk, .junk, .junk, .junk, .junk, .junk, .junk, .junk, .junk, .junk, .junk, .junk, .junk, .junk, .junk, .junk, .junk, .junk, .junk, .junk, .junk, .junk, .junk, .junk, .junk, .junk, .junk, .junk, .junk, .junk, .junk, .junk, .junk, .junk, .junk, .junk, .junk, .junk, .junk, .junk, .junk, .junk, .junk, .junk, .junk, .junk, .junk, .junk, .junk, .junk, .junk, .junk, .junk, .junk, .junk, .junk, .junk, .junk, .junk, .junk, .junk, .junk, .junk, .junk, .junk, .junk, .junk, .junk, .junk, .junk, .junk, .junk, .junk, .junk, .junk, .junk, .junk, .junk, .junk, .junk, .junk, .junk], [some ⟨3, false, false, true, .ints .i64 widths⟩, some ⟨3, false, false, true, .ints .i64 values⟩, some ⟨3, false, false, true, .ints .i64 words⟩, some ⟨3, true, decide ((fieldsL widths (splitL widths words)) = []), true, .ints .i64 (fieldsL widths (splitL widths words))⟩]⟩
def okPackFull_1 : XPackFull_1 → Prop
  | ⟨widths, values, zwords, words, i⟩ => splitE widths words = 0 ∧ widths.length ≤ 300 ∧ words.length ≤ 300 ∧ (zwords = true → words = []) ∧ (i : Int) ≤ sizeZ widths
set_option linter.unusedVariables false in
def outPackFull_1 : XPackFull_1 → Tree (Ex × St)
  | ⟨widths, values, zwords, words, i⟩ => .ret (.exit 2, ⟨[.junk, .junk, .junk, .junk, .junk, .junk, .junk, .junk, .junk, .junk, .junk, .junk, .junk, .junk, .junk, .junk, .junk, .junk, .junk, .junk, .junk, .junk, .junk, .junk, .junk, .junk, .junk, .junk, .junk, .junk, .junk, .junk, .junk, .junk, .junk, .junk, .junk, .junk, .junk, .junk, .junk, .junk, .junk, .junk, .junk, .junk, .junk, .junk, .junk, .junk, .junk, .junk, .junk, .junk, .junk, .junk, .junk, .junk, .junk, .junk, .junk, .junk, .junk, .junk, .junk, .junk, .junk, .junk, .junk, .junk, .junk, .junk, .junk, .junk, .junk, .junk, .junk, .junk, .junk, .junk, .junk, .junk, .junk, .junk, .junk, .junk, .junk, .junk, .junk, .junk, .junk, .junk, .junk, .junk, .junk, .junk, .junk, .junk, .junk, .junk, .junk, .junk, .junk, .junk, .junk, .junk, .junk, .junk, .junk, .junk, .junk, .junk, .junk, .junk, .junk, .junk, .junk, .junk, .junk, .junk, .junk, .junk, .junk, .junk, .junk, .junk, .junk, .junk, .junk, .junk, .junk, .junk, .junk, .junk, .junk, .junk, .junk, .junk, .junk], [some ⟨3, false, false, true, .ints .i64 widths⟩, some ⟨3, false, false, true, .ints .i64 values⟩, some ⟨3, false, false, true, .ints .i64 words⟩]⟩)
def muPackFull_1 : XPackFull_1 → Nat
  | ⟨widths, values, zwords, words, i⟩ => (sizeZ widths).toNat - i
def resPackFull_1 (x : XPackFull_1) : Tree (Ex × St) := .chk (okPackFull_1 x) (outPackFull_1 x)
set_option linter.unusedVariables false in
def ansPackFull_1 (st : St) : Tree (Ex × St) := match st.env.getD 2 .junk, st.env.getD 13 .junk, st.env.getD 15 .junk, st.env.getD 16 .junk, st.env.getD 18 .junk, st.mem with
  | .sl zwords _ _ _ _, _, _, _, .int _ _ i_, [some ⟨_, _, _, _, .ints _ widths⟩, some ⟨_, _, _, _, .ints _ values⟩, some ⟨_, _, _, _, .ints _ words⟩, _] => .chk (st.le (hdPackFull_1 ⟨widths, values, zwords, words, i_.toNat⟩)) (resPackFull_1 ⟨widths, values, zwords, words, i_.toNat⟩)
  | _, _, _, _, _, _ => .fail
def TPackFull_1 : Tidy := ⟨[], [2, 13, 15, 16, 18]⟩
def UPackFull_1 : Ex → Tidy
  | .ret => ⟨[], []⟩
  | .exit 2 => ⟨[], []⟩
  | _ => ⟨[], []⟩
def rowPackFull_1 : LoopRow := ⟨8, 23, TPackFull_1, ansPackFull_1⟩
def rowsPackFull : List LoopRow := [rowPackFull_0, rowPackFull_1]
end Go.Proofs.Ytnkjblmlchbfkaa.Rig

/- Qlook1 -/
namespace Go.Proofs.Ytnkjblmlchbfkaa.Rig
open Go
set_option maxRecDepth 100000 in
theorem tlook1 (n : Int) : evBody (mkC Try.prog 0 (fun _ => none) tab0) (evCall (mkC Try.prog 0 (fun _ => none) tab0) 50) 38 [.int .i64 false n] [] =
  Tree.br (decide (n < (0 : Int))) (Tree.ret (AV.bool true true, [])) (Tree.ret (AV.bool false (decide (n > (65535 : Int))), [])) := by kernel_rfl
set_option maxRecDepth 100000 in
theorem glook1 (n : Int) (hw : True) : (Tree.br (decide (n < (0 : Int))) (Tree.ret (AV.bool true true, [])) (Tree.ret (AV.bool false (decide (n > (65535 : Int))), [])) : Tree (AV × Mem)).GivesP (.bool false (badW n)) ([]) := by
  refine Tree.GivesP.br (fun h1 => ?_) (fun h1 => ?_)
  · (try simp only [decide_eq_true_eq, decide_eq_false_iff_not, Bool.not_eq_true', Bool.not_eq_false', beq_iff_eq, beq_eq_false_iff_ne, Int.not_lt, Int.not_le, ge_iff_le, gt_iff_lt, ne_eq, Bool.false_eq_true, Bool.true_eq_false, not_true_eq_false, not_false_eq_true, Bool.and_eq_true, Bool.not_eq_eq_eq_not, Bool.not_true, Bool.not_false, bne_iff_ne, bne_eq_false_iff_eq, Int.toNat_natCast, Nat.mul_one, Nat.add_zero, Nat.zero_add, List.take_length, List.drop_zero] at h1)
    all_goals
      refine Tree.GivesP.ret ?_ ?_
      · simp only [AV.le, badW]; simp [h1]
      · simp only [AV.leL, AV.le, Mem.le, Mem.leP, Blk.le, Blk.pad, Data.le, Data.size, Cap.le, and_true, true_and, and_self, true_implies, implies_true, imp_self, List.length_nil]
  · (try simp only [decide_eq_true_eq, decide_eq_false_iff_not, Bool.not_eq_true', Bool.not_eq_false', beq_iff_eq, beq_eq_false_iff_ne, Int.not_lt, Int.not_le, ge_iff_le, gt_iff_lt, ne_eq, Bool.false_eq_true, Bool.true_eq_false, not_true_eq_false, not_false_eq_true, Bool.and_eq_true, Bool.not_eq_eq_eq_not, Bool.not_true, Bool.not_false, bne_iff_ne, bne_eq_false_iff_eq, Int.toNat_natCast, Nat.mul_one, Nat.add_zero, Nat.zero_add, List.take_length, List.drop_zero] at h1)
    all_goals
      refine Tree.GivesP.ret ?_ ?_
      · simp only [AV.le, badW]; simp [show ¬ n < 0 by omega]
      · simp only [AV.leL, AV.le, Mem.le, Mem.leP, Blk.le, Blk.pad, Data.le, Data.size, Cap.le, and_true, true_and, and_self, true_implies, implies_true, imp_self, List.length_nil]
theorem slook1 (hall : AllOk Try.prog 0 (fun _ => none) tab0) (n : Int) (hw : True) : SoundAt (mkC Try.prog 0 (fun _ => none) []) 38 [.int .i64 false n] [] (.bool false (badW n), []) := sound_ofP hall mix (tlook1 n) (glook1 n hw)
theorem Flook1_ok (hall : AllOk Try.prog 0 (fun _ => none) tab0) : PureF Try.prog 3 38 Flook1 := by
  intro xs c v news h hc
  unfold Flook1 at h
  split at h
  · rename_i _ n
    cases h
    refine ⟨(by intro b hb; cases hb), SoundAt.flags (slook1 hall n hc) ?_⟩
    simp [PA.avs, AV.le, AV.leL, Cap.le]
  · cases h
end Go.Proofs.Ytnkjblmlchbfkaa.Rig

/- Qmay1 -/
namespace Go.Proofs.Ytnkjblmlchbfkaa.Rig
open Go
set_option maxRecDepth 100000 in
theorem tmay1 (n : Int) : evBody (mkC Try.prog 0 (fun _ => none) tab1) (evCall (mkC Try.prog 0 (fun _ => none) tab1) 50) 36 [.int .i64 false n] [] =
  Tree.br (decide (n < (1 : Int))) (Tree.ret (AV.bool true true, [])) (Tree.ret (AV.bool false (decide (n > (16 : Int))), [])) := by kernel_rfl
set_option maxRecDepth 100000 in
theorem gmay1 (n : Int) (hw : True) : (Tree.br (decide (n < (1 : Int))) (Tree.ret (AV.bool true true, [])) (Tree.ret (AV.bool false (decide (n > (16 : Int))), [])) : Tree (AV × Mem)).GivesP (.bool false (badV n)) ([]) := by
  refine Tree.GivesP.br (fun h1 => ?_) (fun h1 => ?_)
  · (try simp only [decide_eq_true_eq, decide_eq_false_iff_not, Bool.not_eq_true', Bool.not_eq_false', beq_iff_eq, beq_eq_false_iff_ne, Int.not_lt, Int.not_le, ge_iff_le, gt_iff_lt, ne_eq, Bool.false_eq_true, Bool.true_eq_false, not_true_eq_false, not_false_eq_true, Bool.and_eq_true, Bool.not_eq_eq_eq_not, Bool.not_true, Bool.not_false, bne_iff_ne, bne_eq_false_iff_eq, Int.toNat_natCast, Nat.mul_one, Nat.add_zero, Nat.zero_add, List.take_length, List.drop_zero] at h1)
    all_goals
      refine Tree.GivesP.ret ?_ ?_
      · simp only [AV.le, badV]; simp [h1]
      · simp only [AV.leL, AV.le, Mem.le, Mem.leP, Blk.le, Blk.pad, Data.le, Data.size, Cap.le, and_true, true_and, and_self, true_implies, implies_true, imp_self, List.length_nil]
  · (try simp only [decide_eq_true_eq, decide_eq_false_iff_not, Bool.not_eq_true', Bool.not_eq_false', beq_iff_eq, beq_eq_false_iff_ne, Int.not_lt, Int.not_le, ge_iff_le, gt_iff_lt, ne_eq, Bool.false_eq_true, Bool.true_eq_false, not_true_eq_false, not_false_eq_true, Bool.and_eq_true, Bool.not_eq_eq_eq_not, Bool.not_true, Bool.not_false, bne_iff_ne, bne_eq_false_iff_eq, Int.toNat_natCast, Nat.mul_one, Nat.add_zero, Nat.zero_add, List.take_length, List.drop_zero] at h1)
    all_goals
      refine Tree.GivesP.ret ?_ ?_
      · simp only [AV.le, badV]; simp [show ¬ n < 1 by omega]
      · simp only [AV.leL, AV.le, Mem.le, Mem.leP, Blk.le, Blk.pad, Data.le, Data.size, Cap.le, and_true, true_and, and_self, true_implies, implies_true, imp_self, List.length_nil]
theorem smay1 (hall : AllOk Try.prog 0 (fun _ => none) tab1) (n : Int) (hw : True) : SoundAt (mkC Try.prog 0 (fun _ => none) []) 36 [.int .i64 false n] [] (.bool false (badV n), []) := sound_ofP hall mix (tmay1 n) (gmay1 n hw)
theorem Fmay1_ok (hall : AllOk Try.prog 0 (fun _ => none) tab1) : PureF Try.prog 3 36 Fmay1 := by
  intro xs c v news h hc
  unfold Fmay1 at h
  split at h
  · rename_i _ n
    cases h
    refine ⟨(by intro b hb; cases hb), SoundAt.flags (smay1 hall n hc) ?_⟩
    simp [PA.avs, AV.le, AV.leL, Cap.le]
  · cases h
end Go.Proofs.Ytnkjblmlchbfkaa.Rig

/- Qidx38 -/
namespace Go.Proofs.Ytnkjblmlchbfkaa.Rig
open Go
set_option maxRecDepth 100000 in
theorem tLidx38_0 (zl : Bool) (l : List Int) (i : Nat) : tidied Tidx38_0 Uidx38_0 1 (evCode (mkL Try.prog 0 (fun _ => none) tab2 rowsidx38) (evCall (mkC Try.prog 0 (fun _ => none) tab2) 50) 39 1 fuelC (bodyAt Try.prog 39 0) (hdidx38_0 ⟨zl, l, i⟩)) =
  Tree.br (decide ((i : Int) < ((List.length l) : Int)))
  (Tree.br (!zl && decide ((0 : Int) ≤ (i : Int) ∧ (i : Int) < ((List.length l) : Int)))
  (Tree.br (decide (Int.toNat (i : Int) * 1 + 0 + 1 ≤ List.length l))
  (Tree.chk ((True ∧ True) ∧ True)
  (Tree.br (badW (List.getD l (Int.toNat (i : Int) * 1 + 0 + 0) (0 : Int)))
  (Tree.ret
  (Ex.ret,
  St.mk [jk, jk, jk, jk, AV.int IntKind.i64 false (i : Int), jk, jk, jk, jk, jk, jk, jk, jk, jk, jk, jk, jk, jk, jk]
  [some (Blk.mk (3) false false true (Data.ints IntKind.i64 l))]))
  (Tree.ret
  (Ex.norm,
  St.mk
  [AV.sl zl (Ref.mk (0) (0) (0) (0)) false (List.length l) Cap.any, AV.fn (Fn.func (38)) [] [], jk, jk, jk, jk,
  AV.sl zl (Ref.mk (0) (0) (0) (0)) false (List.length l) Cap.any, AV.int IntKind.i64 false ((List.length l) : Int), AV.int IntKind.i64 false (IntKind.wrap IntKind.i64 ((i : Int) + (1 : Int))),
  jk, jk, jk, jk, jk, jk, jk, jk, jk, jk]
  [some (Blk.mk (3) false false true (Data.ints IntKind.i64 l))]))))
  Tree.fail)
  Tree.fail)
  (Tree.ret
  (Ex.exit (0),
  St.mk [jk, jk, jk, jk, jk, jk, jk, jk, jk, jk, jk, jk, jk, jk, jk, jk, jk, jk, jk]
  [some (Blk.mk (3) false false true (Data.ints IntKind.i64 l))])) := by kernel_rfl
set_option maxRecDepth 100000 in
theorem stepidx38_0 (zl : Bool) (l : List Int) (i : Nat) (ex : Ex) (r : St) (hok : okidx38_0 ⟨zl, l, i⟩) (hr : (outidx38_0 ⟨zl, l, i⟩).runs (ex, r)) : (Tree.br (decide ((i : Int) < ((List.length l) : Int)))
  (Tree.br (!zl && decide ((0 : Int) ≤ (i : Int) ∧ (i : Int) < ((List.length l) : Int)))
  (Tree.br (decide (Int.toNat (i : Int) * 1 + 0 + 1 ≤ List.length l))
  (Tree.chk ((True ∧ True) ∧ True)
  (Tree.br (badW (List.getD l (Int.toNat (i : Int) * 1 + 0 + 0) (0 : Int)))
  (Tree.ret
  (Ex.ret,
  St.mk [jk, jk, jk, jk, AV.int IntKind.i64 false (i : Int), jk, jk, jk, jk, jk, jk, jk, jk, jk, jk, jk, jk, jk, jk]
  [some (Blk.mk (3) false false true (Data.ints IntKind.i64 l))]))
  (Tree.ret
  (Ex.norm,
  St.mk
  [AV.sl zl (Ref.mk (0) (0) (0) (0)) false (List.length l) Cap.any, AV.fn (Fn.func (38)) [] [], jk, jk, jk, jk,
  AV.sl zl (Ref.mk (0) (0) (0) (0)) false (List.length l) Cap.any, AV.int IntKind.i64 false ((List.length l) : Int), AV.int IntKind.i64 false (IntKind.wrap IntKind.i64 ((i : Int) + (1 : Int))),
  jk, jk, jk, jk, jk, jk, jk, jk, jk, jk]
  [some (Blk.mk (3) false false true (Data.ints IntKind.i64 l))]))))
  Tree.fail)
  Tree.fail)
  (Tree.ret
  (Ex.exit (0),
  St.mk [jk, jk, jk, jk, jk, jk, jk, jk, jk, jk, jk, jk, jk, jk, jk, jk, jk, jk, jk]
  [some (Blk.mk (3) false false true (Data.ints IntKind.i64 l))])) : Tree (Ex × St)).Sat (Post hdidx38_0 residx38_0 muidx38_0 ⟨zl, l, i⟩ ex r) := by
  simp only [okidx38_0, outidx38_0, Tree.runs] at hok hr
  obtain ⟨hs, hi, hz, hj⟩ := hok
  simp only [short] at hs
  refine Tree.Sat.br (fun h1 => ?_) (fun h1 => ?_)
  · (try simp only [decide_eq_true_eq, decide_eq_false_iff_not, Bool.not_eq_true', Bool.not_eq_false', beq_iff_eq, beq_eq_false_iff_ne, Int.not_lt, Int.not_le, ge_iff_le, gt_iff_lt, ne_eq, Bool.false_eq_true, Bool.true_eq_false, not_true_eq_false, not_false_eq_true, Bool.and_eq_true, Bool.not_eq_eq_eq_not, Bool.not_true, Bool.not_false, bne_iff_ne, bne_eq_false_iff_eq, Int.toNat_natCast, Nat.mul_one, Nat.add_zero, Nat.zero_add, List.take_length, List.drop_zero] at h1)
    all_goals
      refine Tree.Sat.br (fun h2 => ?_) (fun h2 => ?_)
      · (try simp only [decide_eq_true_eq, decide_eq_false_iff_not, Bool.not_eq_true', Bool.not_eq_false', beq_iff_eq, beq_eq_false_iff_ne, Int.not_lt, Int.not_le, ge_iff_le, gt_iff_lt, ne_eq, Bool.false_eq_true, Bool.true_eq_false, not_true_eq_false, not_false_eq_true, Bool.and_eq_true, Bool.not_eq_eq_eq_not, Bool.not_true, Bool.not_false, bne_iff_ne, bne_eq_false_iff_eq, Int.toNat_natCast, Nat.mul_one, Nat.add_zero, Nat.zero_add, List.take_length, List.drop_zero] at h2)
        all_goals
          refine Tree.Sat.br (fun h3 => ?_) (fun h3 => ?_)
          · (try simp only [decide_eq_true_eq, decide_eq_false_iff_not, Bool.not_eq_true', Bool.not_eq_false', beq_iff_eq, beq_eq_false_iff_ne, Int.not_lt, Int.not_le, ge_iff_le, gt_iff_lt, ne_eq, Bool.false_eq_true, Bool.true_eq_false, not_true_eq_false, not_false_eq_true, Bool.and_eq_true, Bool.not_eq_eq_eq_not, Bool.not_true, Bool.not_false, bne_iff_ne, bne_eq_false_iff_eq, Int.toNat_natCast, Nat.mul_one, Nat.add_zero, Nat.zero_add, List.take_length, List.drop_zero] at h3)
            all_goals
              refine Tree.Sat.chk (by first | (simp only [and_self]; done) | (omega)) ?_
              refine Tree.Sat.br (fun h4 => ?_) (fun h4 => ?_)
              · (try simp only [decide_eq_true_eq, decide_eq_false_iff_not, Bool.not_eq_true', Bool.not_eq_false', beq_iff_eq, beq_eq_false_iff_ne, Int.not_lt, Int.not_le, ge_iff_le, gt_iff_lt, ne_eq, Bool.false_eq_true, Bool.true_eq_false, not_true_eq_false, not_false_eq_true, Bool.and_eq_true, Bool.not_eq_eq_eq_not, Bool.not_true, Bool.not_false, bne_iff_ne, bne_eq_false_iff_eq, Int.toNat_natCast, Nat.mul_one, Nat.add_zero, Nat.zero_add, List.take_length, List.drop_zero] at h4)
                all_goals
                  refine Tree.Sat.ret ?_
                  obtain ⟨e1, e2⟩ := idxZ_at (by omega) hj h4
                  have hq := hr.1 e2
                  simp only [Prod.mk.injEq] at hq
                  obtain ⟨rfl, rfl⟩ := hq
                  refine .ret rfl ?_
                  constructor <;> simp only [AV.leL, AV.le, Mem.le, Mem.leP, Blk.le, Blk.pad, Data.le, Data.size, Cap.le, and_true, true_and, and_self, true_implies, implies_true, imp_self, List.length_nil] <;> (repeat' with_reducible refine And.intro ?_ ?_) <;> (try simp only [Int.toNat_natCast, Nat.mul_one, Nat.add_zero, Nat.zero_add]) <;> exact e1.symm
              · (try simp only [decide_eq_true_eq, decide_eq_false_iff_not, Bool.not_eq_true', Bool.not_eq_false', beq_iff_eq, beq_eq_false_iff_ne, Int.not_lt, Int.not_le, ge_iff_le, gt_iff_lt, ne_eq, Bool.false_eq_true, Bool.true_eq_false, not_true_eq_false, not_false_eq_true, Bool.and_eq_true, Bool.not_eq_eq_eq_not, Bool.not_true, Bool.not_false, bne_iff_ne, bne_eq_false_iff_eq, Int.toNat_natCast, Nat.mul_one, Nat.add_zero, Nat.zero_add, List.take_length, List.drop_zero] at h4)
                all_goals
                  refine Tree.Sat.ret ?_
                  refine .norm ⟨zl, l, i + 1⟩ ?_ ?_ ⟨?_, ?_⟩
                  · constructor <;> simp only [hdidx38_0, AV.leL, AV.le, Mem.le, Mem.leP, Blk.le, Blk.pad, Data.le, Data.size, Cap.le, and_true, true_and, and_self, true_implies, implies_true, imp_self, List.length_nil] <;> (repeat' with_reducible refine And.intro ?_ ?_) <;> (try simp only [Int.toNat_natCast, Nat.mul_one, Nat.add_zero, Nat.zero_add]) <;> first | exact wadd1 (by omega) | omega
                  · simp only [muidx38_0]; omega
                  · refine ⟨hs, by omega, hz, fun j hlt => ?_⟩
                    by_cases hji : j = i
                    · rw [hji]; exact h4
                    · exact hj j (by omega)
                  · exact hr
          · (try simp only [decide_eq_true_eq, decide_eq_false_iff_not, Bool.not_eq_true', Bool.not_eq_false', beq_iff_eq, beq_eq_false_iff_ne, Int.not_lt, Int.not_le, ge_iff_le, gt_iff_lt, ne_eq, Bool.false_eq_true, Bool.true_eq_false, not_true_eq_false, not_false_eq_true, Bool.and_eq_true, Bool.not_eq_eq_eq_not, Bool.not_true, Bool.not_false, bne_iff_ne, bne_eq_false_iff_eq, Int.toNat_natCast, Nat.mul_one, Nat.add_zero, Nat.zero_add, List.take_length, List.drop_zero] at h3)
            all_goals
              exfalso
              cases zl <;> simp_all <;> omega
      · (try simp only [decide_eq_true_eq, decide_eq_false_iff_not, Bool.not_eq_true', Bool.not_eq_false', beq_iff_eq, beq_eq_false_iff_ne, Int.not_lt, Int.not_le, ge_iff_le, gt_iff_lt, ne_eq, Bool.false_eq_true, Bool.true_eq_false, not_true_eq_false, not_false_eq_true, Bool.and_eq_true, Bool.not_eq_eq_eq_not, Bool.not_true, Bool.not_false, bne_iff_ne, bne_eq_false_iff_eq, Int.toNat_natCast, Nat.mul_one, Nat.add_zero, Nat.zero_add, List.take_length, List.drop_zero] at h2)
        all_goals
          exfalso
          cases zl <;> simp_all <;> omega
  · (try simp only [decide_eq_true_eq, decide_eq_false_iff_not, Bool.not_eq_true', Bool.not_eq_false', beq_iff_eq, beq_eq_false_iff_ne, Int.not_lt, Int.not_le, ge_iff_le, gt_iff_lt, ne_eq, Bool.false_eq_true, Bool.true_eq_false, not_true_eq_false, not_false_eq_true, Bool.and_eq_true, Bool.not_eq_eq_eq_not, Bool.not_true, Bool.not_false, bne_iff_ne, bne_eq_false_iff_eq, Int.toNat_natCast, Nat.mul_one, Nat.add_zero, Nat.zero_add, List.take_length, List.drop_zero] at h1)
    all_goals
      refine Tree.Sat.ret ?_
      obtain ⟨e1, e2⟩ := any_no (by omega) hj
      have hq := hr.2 e1
      simp only [Prod.mk.injEq] at hq
      obtain ⟨rfl, rfl⟩ := hq
      refine .exit rfl ?_
      constructor <;> simp only [AV.leL, AV.le, Mem.le, Mem.leP, Blk.le, Blk.pad, Data.le, Data.size, Cap.le, and_true, true_and, and_self, true_implies, implies_true, imp_self, List.length_nil] <;> (repeat' with_reducible refine And.intro ?_ ?_) <;> (try simp only [Int.toNat_natCast, Nat.mul_one, Nat.add_zero, Nat.zero_add]) <;> done
set_option maxHeartbeats 2000000 in
set_option maxRecDepth 100000 in
theorem loopidx38_0 (hall : AllOk Try.prog 0 (fun _ => none) tab2) : LoopOk (mkL Try.prog 0 (fun _ => none) tab2 rowsidx38) 39 1 (bodyAt Try.prog 39 0) := by
  have hkey : Code.key (bodyAt Try.prog 39 0) = 2 := by kernel_rfl
  have hin : loopsIn (bodyAt Try.prog 39 0) = [] := by kernel_rfl
  have hrow : lookL rowsidx38 39 (Code.key (bodyAt Try.prog 39 0)) = some rowidx38_0 := by rw [hkey]; rfl
  refine loop_rowP (X := Xidx38_0) (row := rowidx38_0) hall mix hrow (fun b hb _ => by rw [hin] at hb; cases hb) Uidx38_0 hdidx38_0 residx38_0 muidx38_0 (fun st ex r h => ?_) (fun x ex r hr => ?_)
  · have h' : (ansidx38_0 st).runs (ex, r) := h
    unfold ansidx38_0 at h'
    split at h'
    · obtain ⟨q1, q2⟩ := Tree.chk_runs h'
      exact ⟨_, q1, q2⟩
    · exact h'.elim
  · obtain ⟨zl, l, i⟩ := x
    have := stepidx38_0 zl l i ex r hr.1 hr.2
    rw [← tLidx38_0] at this
    (try rw [show rowidx38_0.tidy = Tidx38_0 from rfl])
    exact this
theorem loopsidx38 (hall : AllOk Try.prog 0 (fun _ => none) tab2) : ∀ i, i < (loopsAt Try.prog 39).length → LoopOk (mkL Try.prog 0 (fun _ => none) tab2 rowsidx38) 39 1 (bodyAt Try.prog 39 i) := by
  intro i hi
  have hlen : (loopsAt Try.prog 39).length = 1 := by kernel_rfl
  rw [hlen] at hi
  obtain rfl : i = 0 := by omega
  · exact loopidx38_0 hall
set_option maxRecDepth 100000 in
theorem tidx38 (zl : Bool) (l : List Int) : evBody (mkL Try.prog 0 (fun _ => none) tab2 rowsidx38) (evCall (mkC Try.prog 0 (fun _ => none) tab2) 50) 39 [.sl zl ⟨0, 0, 0, 0⟩ false l.length .any, .fn (.func 38) [] []] [some ⟨3, false, false, true, .ints .i64 l⟩] =
  Tree.chk
  (St.le
  (St.mk
  [AV.sl zl (Ref.mk (0) (0) (0) (0)) false (List.length l) Cap.any, AV.fn (Fn.func (38)) [] [], jk, jk, jk, jk,
  AV.sl zl (Ref.mk (0) (0) (0) (0)) false (List.length l) Cap.any, AV.int IntKind.i64 false ((List.length l) : Int), AV.int IntKind.i64 true (0 : Int), jk, jk, jk, jk, jk,
  jk, jk, jk, jk, jk]
  [some (Blk.mk (3) false false true (Data.ints IntKind.i64 l))])
  (St.mk
  [AV.sl zl (Ref.mk (0) (0) (0) (0)) false (List.length l) Cap.any, AV.fn (Fn.func (38)) [] [], jk, jk, jk, jk,
  AV.sl zl (Ref.mk (0) (0) (0) (0)) false (List.length l) Cap.any, AV.int IntKind.i64 false ((List.length l) : Int), AV.int IntKind.i64 false (0 : Int), jk, jk, jk, jk, jk,
  jk, jk, jk, jk, jk]
  [some (Blk.mk (3) false false true (Data.ints IntKind.i64 l))]))
  (Tree.chk (okidx38_0 (Xidx38_0.mk zl l (Int.toNat (0 : Int))))
  (Tree.br (List.any l badW) (Tree.ret (AV.int IntKind.i64 false (idxZ badW l), [some (Blk.mk (3) false false true (Data.ints IntKind.i64 l))]))
  (Tree.ret (AV.int IntKind.i64 true (-1 : Int), [some (Blk.mk (3) false false true (Data.ints IntKind.i64 l))])))) := by kernel_rfl
set_option maxRecDepth 100000 in
theorem gidx38 (zl : Bool) (l : List Int) (hw : short l ∧ (zl = true → l = [])) : (Tree.chk
  (St.le
  (St.mk
  [AV.sl zl (Ref.mk (0) (0) (0) (0)) false (List.length l) Cap.any, AV.fn (Fn.func (38)) [] [], jk, jk, jk, jk,
  AV.sl zl (Ref.mk (0) (0) (0) (0)) false (List.length l) Cap.any, AV.int IntKind.i64 false ((List.length l) : Int), AV.int IntKind.i64 true (0 : Int), jk, jk, jk, jk, jk,
  jk, jk, jk, jk, jk]
  [some (Blk.mk (3) false false true (Data.ints IntKind.i64 l))])
  (St.mk
  [AV.sl zl (Ref.mk (0) (0) (0) (0)) false (List.length l) Cap.any, AV.fn (Fn.func (38)) [] [], jk, jk, jk, jk,
  AV.sl zl (Ref.mk (0) (0) (0) (0)) false (List.length l) Cap.any, AV.int IntKind.i64 false ((List.length l) : Int), AV.int IntKind.i64 false (0 : Int), jk, jk, jk, jk, jk,
  jk, jk, jk, jk, jk]
  [some (Blk.mk (3) false false true (Data.ints IntKind.i64 l))]))
  (Tree.chk (okidx38_0 (Xidx38_0.mk zl l (Int.toNat (0 : Int))))
  (Tree.br (List.any l badW) (Tree.ret (AV.int IntKind.i64 false (idxZ badW l), [some (Blk.mk (3) false false true (Data.ints IntKind.i64 l))]))
  (Tree.ret (AV.int IntKind.i64 true (-1 : Int), [some (Blk.mk (3) false false true (Data.ints IntKind.i64 l))])))) : Tree (AV × Mem)).GivesP (.int .i64 false (idxZ badW l)) ([some ⟨3, false, false, true, .ints .i64 l⟩]) := by
  refine Tree.GivesP.chk (by first | (simp only [and_self]; done) | (constructor <;> simp only [hdidx38_0, Int.toNat_zero, Int.cast_ofNat_Int, AV.leL, AV.le, Mem.le, Mem.leP, Blk.le, Blk.pad, Data.le, Data.size, Cap.le, and_true, true_and, and_self, true_implies, implies_true, imp_self, List.length_nil])) ?_
  refine Tree.GivesP.chk (by first | (simp only [and_self]; done) | (exact ⟨hw.1, Nat.zero_le _, hw.2, fun j h => absurd h (Nat.not_lt_zero _)⟩)) ?_
  refine Tree.GivesP.br (fun h1 => ?_) (fun h1 => ?_)
  · (try simp only [decide_eq_true_eq, decide_eq_false_iff_not, Bool.not_eq_true', Bool.not_eq_false', beq_iff_eq, beq_eq_false_iff_ne, Int.not_lt, Int.not_le, ge_iff_le, gt_iff_lt, ne_eq, Bool.false_eq_true, Bool.true_eq_false, not_true_eq_false, not_false_eq_true, Bool.and_eq_true, Bool.not_eq_eq_eq_not, Bool.not_true, Bool.not_false, bne_iff_ne, bne_eq_false_iff_eq, Int.toNat_natCast, Nat.mul_one, Nat.add_zero, Nat.zero_add, List.take_length, List.drop_zero] at h1)
    all_goals
      refine Tree.GivesP.ret ?_ ?_
      · simp only [AV.le, AV.leL, and_true, true_and, and_self]
      · simp only [AV.leL, AV.le, Mem.le, Mem.leP, Blk.le, Blk.pad, Data.le, Data.size, Cap.le, and_true, true_and, and_self, true_implies, implies_true, imp_self, List.length_nil]
  · (try simp only [decide_eq_true_eq, decide_eq_false_iff_not, Bool.not_eq_true', Bool.not_eq_false', beq_iff_eq, beq_eq_false_iff_ne, Int.not_lt, Int.not_le, ge_iff_le, gt_iff_lt, ne_eq, Bool.false_eq_true, Bool.true_eq_false, not_true_eq_false, not_false_eq_true, Bool.and_eq_true, Bool.not_eq_eq_eq_not, Bool.not_true, Bool.not_false, bne_iff_ne, bne_eq_false_iff_eq, Int.toNat_natCast, Nat.mul_one, Nat.add_zero, Nat.zero_add, List.take_length, List.drop_zero] at h1)
    all_goals
      refine Tree.GivesP.ret ?_ ?_
      · simp only [AV.le, true_and]
        exact (idxZ_none h1).symm
      · simp only [AV.leL, AV.le, Mem.le, Mem.leP, Blk.le, Blk.pad, Data.le, Data.size, Cap.le, and_true, true_and, and_self, true_implies, implies_true, imp_self, List.length_nil]
theorem sidx38 (hall : AllOk Try.prog 0 (fun _ => none) tab2) (zl : Bool) (l : List Int) (hw : short l ∧ (zl = true → l = [])) : SoundAt (mkC Try.prog 0 (fun _ => none) []) 39 [.sl zl ⟨0, 0, 0, 0⟩ false l.length .any, .fn (.func 38) [] []] [some ⟨3, false, false, true, .ints .i64 l⟩] (.int .i64 false (idxZ badW l), [some ⟨3, false, false, true, .ints .i64 l⟩]) := sound_loopsP hall mix (loopsidx38 hall) (tidx38 zl l) (gidx38 zl l hw)
theorem Fidx38_ok (hall : AllOk Try.prog 0 (fun _ => none) tab2) : PureF Try.prog 3 39 Fidx38 := by
  intro xs c v news h hc
  unfold Fidx38 at h
  split at h
  · rename_i zl l
    cases h
    refine ⟨(by intro b hb; cases hb), SoundAt.flags (sidx38 hall zl l hc) ?_⟩
    simp [PA.avs, AV.le, AV.leL, Cap.le]
  · cases h
end Go.Proofs.Ytnkjblmlchbfkaa.Rig

/- Qidx36 -/
namespace Go.Proofs.Ytnkjblmlchbfkaa.Rig
open Go
set_option maxRecDepth 100000 in
theorem tLidx36_0 (zl : Bool) (l : List Int) (i : Nat) : tidied Tidx36_0 Uidx36_0 1 (evCode (mkL Try.prog 0 (fun _ => none) tab3 rowsidx36) (evCall (mkC Try.prog 0 (fun _ => none) tab3) 50) 39 1 fuelC (bodyAt Try.prog 39 0) (hdidx36_0 ⟨zl, l, i⟩)) =
  Tree.br (decide ((i : Int) < ((List.length l) : Int)))
  (Tree.br (!zl && decide ((0 : Int) ≤ (i : Int) ∧ (i : Int) < ((List.length l) : Int)))
  (Tree.br (decide (Int.toNat (i : Int) * 1 + 0 + 1 ≤ List.length l))
  (Tree.chk ((True ∧ True) ∧ True)
  (Tree.br (badV (List.getD l (Int.toNat (i : Int) * 1 + 0 + 0) (0 : Int)))
  (Tree.ret
  (Ex.ret,
  St.mk [jk, jk, jk, jk, AV.int IntKind.i64 false (i : Int), jk, jk, jk, jk, jk, jk, jk, jk, jk, jk, jk, jk, jk, jk]
  [some (Blk.mk (3) false false true (Data.ints IntKind.i64 l))]))
  (Tree.ret
  (Ex.norm,
  St.mk
  [AV.sl zl (Ref.mk (0) (0) (0) (0)) false (List.length l) Cap.any, AV.fn (Fn.func (36)) [] [], jk, jk, jk, jk,
  AV.sl zl (Ref.mk (0) (0) (0) (0)) false (List.length l) Cap.any, AV.int IntKind.i64 false ((List.length l) : Int), AV.int IntKind.i64 false (IntKind.wrap IntKind.i64 ((i : Int) + (1 : Int))),
  jk, jk, jk, jk, jk, jk, jk, jk, jk, jk]
  [some (Blk.mk (3) false false true (Data.ints IntKind.i64 l))]))))
  Tree.fail)
  Tree.fail)
  (Tree.ret
  (Ex.exit (0),
  St.mk [jk, jk, jk, jk, jk, jk, jk, jk, jk, jk, jk, jk, jk, jk, jk, jk, jk, jk, jk]
  [some (Blk.mk (3) false false true (Data.ints IntKind.i64 l))])) := by kernel_rfl
set_option maxRecDepth 100000 in
theorem stepidx36_0 (zl : Bool) (l : List Int) (i : Nat) (ex : Ex) (r : St) (hok : okidx36_0 ⟨zl, l, i⟩) (hr : (outidx36_0 ⟨zl, l, i⟩).runs (ex, r)) : (Tree.br (decide ((i : Int) < ((List.length l) : Int)))
  (Tree.br (!zl && decide ((0 : Int) ≤ (i : Int) ∧ (i : Int) < ((List.length l) : Int)))
  (Tree.br (decide (Int.toNat (i : Int) * 1 + 0 + 1 ≤ List.length l))
  (Tree.chk ((True ∧ True) ∧ True)
  (Tree.br (badV (List.getD l (Int.toNat (i : Int) * 1 + 0 + 0) (0 : Int)))
  (Tree.ret
  (Ex.ret,
  St.mk [jk, jk, jk, jk, AV.int IntKind.i64 false (i : Int), jk, jk, jk, jk, jk, jk, jk, jk, jk, jk, jk, jk, jk, jk]
  [some (Blk.mk (3) false false true (Data.ints IntKind.i64 l))]))
  (Tree.ret
  (Ex.norm,
  St.mk
  [AV.sl zl (Ref.mk (0) (0) (0) (0)) false (List.length l) Cap.any, AV.fn (Fn.func (36)) [] [], jk, jk, jk, jk,
  AV.sl zl (Ref.mk (0) (0) (0) (0)) false (List.length l) Cap.any, AV.int IntKind.i64 false ((List.length l) : Int), AV.int IntKind.i64 false (IntKind.wrap IntKind.i64 ((i : Int) + (1 : Int))),
  jk, jk, jk, jk, jk, jk, jk, jk, jk, jk]
  [some (Blk.mk (3) false false true (Data.ints IntKind.i64 l))]))))
  Tree.fail)
  Tree.fail)
  (Tree.ret
  (Ex.exit (0),
  St.mk [jk, jk, jk, jk, jk, jk, jk, jk, jk, jk, jk, jk, jk, jk, jk, jk, jk, jk, jk]
  [some (Blk.mk (3) false false true (Data.ints IntKind.i64 l))])) : Tree (Ex × St)).Sat (Post hdidx36_0 residx36_0 muidx36_0 ⟨zl, l, i⟩ ex r) := by
  simp only [okidx36_0, outidx36_0, Tree.runs] at hok hr
  obtain ⟨hs, hi, hz, hj⟩ := hok
  simp only [short] at hs
  refine Tree.Sat.br (fun h1 => ?_) (fun h1 => ?_)
  · (try simp only [decide_eq_true_eq, decide_eq_false_iff_not, Bool.not_eq_true', Bool.not_eq_false', beq_iff_eq, beq_eq_false_iff_ne, Int.not_lt, Int.not_le, ge_iff_le, gt_iff_lt, ne_eq, Bool.false_eq_true, Bool.true_eq_false, not_true_eq_false, not_false_eq_true, Bool.and_eq_true, Bool.not_eq_eq_eq_not, Bool.not_true, Bool.not_false, bne_iff_ne, bne_eq_false_iff_eq, Int.toNat_natCast, Nat.mul_one, Nat.add_zero, Nat.zero_add, List.take_length, List.drop_zero] at h1)
    all_goals
      refine Tree.Sat.br (fun h2 => ?_) (fun h2 => ?_)
      · (try simp only [decide_eq_true_eq, decide_eq_false_iff_not, Bool.not_eq_true', Bool.not_eq_false', beq_iff_eq, beq_eq_false_iff_ne, Int.not_lt, Int.not_le, ge_iff_le, gt_iff_lt, ne_eq, Bool.false_eq_true, Bool.true_eq_false, not_true_eq_false, not_false_eq_true, Bool.and_eq_true, Bool.not_eq_eq_eq_not, Bool.not_true, Bool.not_false, bne_iff_ne, bne_eq_false_iff_eq, Int.toNat_natCast, Nat.mul_one, Nat.add_zero, Nat.zero_add, List.take_length, List.drop_zero] at h2)
        all_goals
          refine Tree.Sat.br (fun h3 => ?_) (fun h3 => ?_)
          · (try simp only [decide_eq_true_eq, decide_eq_false_iff_not, Bool.not_eq_true', Bool.not_eq_false', beq_iff_eq, beq_eq_false_iff_ne, Int.not_lt, Int.not_le, ge_iff_le, gt_iff_lt, ne_eq, Bool.false_eq_true, Bool.true_eq_false, not_true_eq_false, not_false_eq_true, Bool.and_eq_true, Bool.not_eq_eq_eq_not, Bool.not_true, Bool.not_false, bne_iff_ne, bne_eq_false_iff_eq, Int.toNat_natCast, Nat.mul_one, Nat.add_zero, Nat.zero_add, List.take_length, List.drop_zero] at h3)
            all_goals
              refine Tree.Sat.chk (by first | (simp only [and_self]; done) | (omega)) ?_
              refine Tree.Sat.br (fun h4 => ?_) (fun h4 => ?_)
              · (try simp only [decide_eq_true_eq, decide_eq_false_iff_not, Bool.not_eq_true', Bool.not_eq_false', beq_iff_eq, beq_eq_false_iff_ne, Int.not_lt, Int.not_le, ge_iff_le, gt_iff_lt, ne_eq, Bool.false_eq_true, Bool.true_eq_false, not_true_eq_false, not_false_eq_true, Bool.and_eq_true, Bool.not_eq_eq_eq_not, Bool.not_true, Bool.not_false, bne_iff_ne, bne_eq_false_iff_eq, Int.toNat_natCast, Nat.mul_one, Nat.add_zero, Nat.zero_add, List.take_length, List.drop_zero] at h4)
                all_goals
                  refine Tree.Sat.ret ?_
                  obtain ⟨e1, e2⟩ := idxZ_at (by omega) hj h4
                  have hq := hr.1 e2
                  simp only [Prod.mk.injEq] at hq
                  obtain ⟨rfl, rfl⟩ := hq
                  refine .ret rfl ?_
                  constructor <;> simp only [AV.leL, AV.le, Mem.le, Mem.leP, Blk.le, Blk.pad, Data.le, Data.size, Cap.le, and_true, true_and, and_self, true_implies, implies_true, imp_self, List.length_nil] <;> (repeat' with_reducible refine And.intro ?_ ?_) <;> (try simp only [Int.toNat_natCast, Nat.mul_one, Nat.add_zero, Nat.zero_add]) <;> exact e1.symm
              · (try simp only [decide_eq_true_eq, decide_eq_false_iff_not, Bool.not_eq_true', Bool.not_eq_false', beq_iff_eq, beq_eq_false_iff_ne, Int.not_lt, Int.not_le, ge_iff_le, gt_iff_lt, ne_eq, Bool.false_eq_true, Bool.true_eq_false, not_true_eq_false, not_false_eq_true, Bool.and_eq_true, Bool.not_eq_eq_eq_not, Bool.not_true, Bool.not_false, bne_iff_ne, bne_eq_false_iff_eq, Int.toNat_natCast, Nat.mul_one, Nat.add_zero, Nat.zero_add, List.take_length, List.drop_zero] at h4)
                all_goals
                  refine Tree.Sat.ret ?_
                  refine .norm ⟨zl, l, i + 1⟩ ?_ ?_ ⟨?_, ?_⟩
                  · constructor <;> simp only [hdidx36_0, AV.leL, AV.le, Mem.le, Mem.leP, Blk.le, Blk.pad, Data.le, Data.size, Cap.le, and_true, true_and, and_self, true_implies, implies_true, imp_self, List.length_nil] <;> (repeat' with_reducible refine And.intro ?_ ?_) <;> (try simp only [Int.toNat_natCast, Nat.mul_one, Nat.add_zero, Nat.zero_add]) <;> first | exact wadd1 (by omega) | omega
                  · simp only [muidx36_0]; omega
                  · refine ⟨hs, by omega, hz, fun j hlt => ?_⟩
                    by_cases hji : j = i
                    · rw [hji]; exact h4
                    · exact hj j (by omega)
                  · exact hr
          · (try simp only [decide_eq_true_eq, decide_eq_false_iff_not, Bool.not_eq_true', Bool.not_eq_false', beq_iff_eq, beq_eq_false_iff_ne, Int.not_lt, Int.not_le, ge_iff_le, gt_iff_lt, ne_eq, Bool.false_eq_true, Bool.true_eq_false, not_true_eq_false, not_false_eq_true, Bool.and_eq_true, Bool.not_eq_eq_eq_not, Bool.not_true, Bool.not_false, bne_iff_ne, bne_eq_false_iff_eq, Int.toNat_natCast, Nat.mul_one, Nat.add_zero, Nat.zero_add, List.take_length, List.drop_zero] at h3)
            all_goals
              exfalso
              cases zl <;> simp_all <;> omega
      · (try simp only [decide_eq_true_eq, decide_eq_false_iff_not, Bool.not_eq_true', Bool.not_eq_false', beq_iff_eq, beq_eq_false_iff_ne, Int.not_lt, Int.not_le, ge_iff_le, gt_iff_lt, ne_eq, Bool.false_eq_true, Bool.true_eq_false, not_true_eq_false, not_false_eq_true, Bool.and_eq_true, Bool.not_eq_eq_eq_not, Bool.not_true, Bool.not_false, bne_iff_ne, bne_eq_false_iff_eq, Int.toNat_natCast, Nat.mul_one, Nat.add_zero, Nat.zero_add, List.take_length, List.drop_zero] at h2)
        all_goals
          exfalso
          cases zl <;> simp_all <;> omega
  · (try simp only [decide_eq_true_eq, decide_eq_false_iff_not, Bool.not_eq_true', Bool.not_eq_false', beq_iff_eq, beq_eq_false_iff_ne, Int.not_lt, Int.not_le, ge_iff_le, gt_iff_lt, ne_eq, Bool.false_eq_true, Bool.true_eq_false, not_true_eq_false, not_false_eq_true, Bool.and_eq_true, Bool.not_eq_eq_eq_not, Bool.not_true, Bool.not_false, bne_iff_ne, bne_eq_false_iff_eq, Int.toNat_natCast, Nat.mul_one, Nat.add_zero, Nat.zero_add, List.take_length, List.drop_zero] at h1)
    all_goals
      refine Tree.Sat.ret ?_
      obtain ⟨e1, e2⟩ := any_no (by omega) hj
      have hq := hr.2 e1
      simp only [Prod.mk.injEq] at hq
      obtain ⟨rfl, rfl⟩ := hq
      refine .exit rfl ?_
      constructor <;> simp only [AV.leL, AV.le, Mem.le, Mem.leP, Blk.le, Blk.pad, Data.le, Data.size, Cap.le, and_true, true_and, and_self, true_implies, implies_true, imp_self, List.length_nil] <;> (repeat' with_reducible refine And.intro ?_ ?_) <;> (try simp only [Int.toNat_natCast, Nat.mul_one, Nat.add_zero, Nat.zero_add]) <;> done
set_option maxHeartbeats 2000000 in
set_option maxRecDepth 100000 in
theorem loopidx36_0 (hall : AllOk Try.prog 0 (fun _ => none) tab3) : LoopOk (mkL Try.prog 0 (fun _ => none) tab3 rowsidx36) 39 1 (bodyAt Try.prog 39 0) := by
  have hkey : Code.key (bodyAt Try.prog 39 0) = 2 := by kernel_rfl
  have hin : loopsIn (bodyAt Try.prog 39 0) = [] := by kernel_rfl
  have hrow : lookL rowsidx36 39 (Code.key (bodyAt Try.prog 39 0)) = some rowidx36_0 := by rw [hkey]; rfl
  refine loop_rowP (X := Xidx36_0) (row := rowidx36_0) hall mix hrow (fun b hb _ => by rw [hin] at hb; cases hb) Uidx36_0 hdidx36_0 residx36_0 muidx36_0 (fun st ex r h => ?_) (fun x ex r hr => ?_)
  · have h' : (ansidx36_0 st).runs (ex, r) := h
    unfold ansidx36_0 at h'
    split at h'
    · obtain ⟨q1, q2⟩ := Tree.chk_runs h'
      exact ⟨_, q1, q2⟩
    · exact h'.elim
  · obtain ⟨zl, l, i⟩ := x
    have := stepidx36_0 zl l i ex r hr.1 hr.2
    rw [← tLidx36_0] at this
    (try rw [show rowidx36_0.tidy = Tidx36_0 from rfl])
    exact this
theorem loopsidx36 (hall : AllOk Try.prog 0 (fun _ => none) tab3) : ∀ i, i < (loopsAt Try.prog 39).length → LoopOk (mkL Try.prog 0 (fun _ => none) tab3 rowsidx36) 39 1 (bodyAt Try.prog 39 i) := by
  intro i hi
  have hlen : (loopsAt Try.prog 39).length = 1 := by kernel_rfl
  rw [hlen] at hi
  obtain rfl : i = 0 := by omega
  · exact loopidx36_0 hall
set_option maxRecDepth 100000 in
theorem tidx36 (zl : Bool) (l : List Int) : evBody (mkL Try.prog 0 (fun _ => none) tab3 rowsidx36) (evCall (mkC Try.prog 0 (fun _ => none) tab3) 50) 39 [.sl zl ⟨0, 0, 0, 0⟩ false l.length .any, .fn (.func 36) [] []] [some ⟨3, false, false, true, .ints .i64 l⟩] =
  Tree.chk
  (St.le
  (St.mk
  [AV.sl zl (Ref.mk (0) (0) (0) (0)) false (List.length l) Cap.any, AV.fn (Fn.func (36)) [] [], jk, jk, jk, jk,
  AV.sl zl (Ref.mk (0) (0) (0) (0)) false (List.length l) Cap.any, AV.int IntKind.i64 false ((List.length l) : Int), AV.int IntKind.i64 true (0 : Int), jk, jk, jk, jk, jk,
  jk, jk, jk, jk, jk]
  [some (Blk.mk (3) false false true (Data.ints IntKind.i64 l))])
  (St.mk
  [AV.sl zl (Ref.mk (0) (0) (0) (0)) false (List.length l) Cap.any, AV.fn (Fn.func (36)) [] [], jk, jk, jk, jk,
  AV.sl zl (Ref.mk (0) (0) (0) (0)) false (List.length l) Cap.any, AV.int IntKind.i64 false ((List.length l) : Int), AV.int IntKind.i64 false (0 : Int), jk, jk, jk, jk, jk,
  jk, jk, jk, jk, jk]
  [some (Blk.mk (3) false false true (Data.ints IntKind.i64 l))]))
  (Tree.chk (okidx36_0 (Xidx36_0.mk zl l (Int.toNat (0 : Int))))
  (Tree.br (List.any l badV) (Tree.ret (AV.int IntKind.i64 false (idxZ badV l), [some (Blk.mk (3) false false true (Data.ints IntKind.i64 l))]))
  (Tree.ret (AV.int IntKind.i64 true (-1 : Int), [some (Blk.mk (3) false false true (Data.ints IntKind.i64 l))])))) := by kernel_rfl
set_option maxRecDepth 100000 in
theorem gidx36 (zl : Bool) (l : List Int) (hw : short l ∧ (zl = true → l = [])) : (Tree.chk
  (St.le
  (St.mk
  [AV.sl zl (Ref.mk (0) (0) (0) (0)) false (List.length l) Cap.any, AV.fn (Fn.func (36)) [] [], jk, jk, jk, jk,
  AV.sl zl (Ref.mk (0) (0) (0) (0)) false (List.length l) Cap.any, AV.int IntKind.i64 false ((List.length l) : Int), AV.int IntKind.i64 true (0 : Int), jk, jk, jk, jk, jk,
  jk, jk, jk, jk, jk]
  [some (Blk.mk (3) false false true (Data.ints IntKind.i64 l))])
  (St.mk
  [AV.sl zl (Ref.mk (0) (0) (0) (0)) false (List.length l) Cap.any, AV.fn (Fn.func (36)) [] [], jk, jk, jk, jk,
  AV.sl zl (Ref.mk (0) (0) (0) (0)) false (List.length l) Cap.any, AV.int IntKind.i64 false ((List.length l) : Int), AV.int IntKind.i64 false (0 : Int), jk, jk, jk, jk, jk,
  jk, jk, jk, jk, jk]
  [some (Blk.mk (3) false false true (Data.ints IntKind.i64 l))]))
  (Tree.chk (okidx36_0 (Xidx36_0.mk zl l (Int.toNat (0 : Int))))
  (Tree.br (List.any l badV) (Tree.ret (AV.int IntKind.i64 false (idxZ badV l), [some (Blk.mk (3) false false true (Data.ints IntKind.i64 l))]))
  (Tree.ret (AV.int IntKind.i64 true (-1 : Int), [some (Blk.mk (3) false false true (Data.ints IntKind.i64 l))])))) : Tree (AV × Mem)).GivesP (.int .i64 false (idxZ badV l)) ([some ⟨3, false, false, true, .ints .i64 l⟩]) := by
  refine Tree.GivesP.chk (by first | (simp only [and_self]; done) | (constructor <;> simp only [hdidx36_0, Int.toNat_zero, Int.cast_ofNat_Int, AV.leL, AV.le, Mem.le, Mem.leP, Blk.le, Blk.pad, Data.le, Data.size, Cap.le, and_true, true_and, and_self, true_implies, implies_true, imp_self, List.length_nil])) ?_
  refine Tree.GivesP.chk (by first | (simp only [and_self]; done) | (exact ⟨hw.1, Nat.zero_le _, hw.2, fun j h => absurd h (Nat.not_lt_zero _)⟩)) ?_
  refine Tree.GivesP.br (fun h1 => ?_) (fun h1 => ?_)
  · (try simp only [decide_eq_true_eq, decide_eq_false_iff_not, Bool.not_eq_true', Bool.not_eq_false', beq_iff_eq, beq_eq_false_iff_ne, Int.not_lt, Int.not_le, ge_iff_le, gt_iff_lt, ne_eq, Bool.false_eq_true, Bool.true_eq_false, not_true_eq_false, not_false_eq_true, Bool.and_eq_true, Bool.not_eq_eq_eq_not, Bool.not_true, Bool.not_false, bne_iff_ne, bne_eq_false_iff_eq, Int.toNat_natCast, Nat.mul_one, Nat.add_zero, Nat.zero_add, List.take_length, List.drop_zero] at h1)
    all_goals
      refine Tree.GivesP.ret ?_ ?_
      · simp only [AV.le, AV.leL, and_true, true_and, and_self]
      · simp only [AV.leL, AV.le, Mem.le, Mem.leP, Blk.le, Blk.pad, Data.le, Data.size, Cap.le, and_true, true_and, and_self, true_implies, implies_true, imp_self, List.length_nil]
  · (try simp only [decide_eq_true_eq, decide_eq_false_iff_not, Bool.not_eq_true', Bool.not_eq_false', beq_iff_eq, beq_eq_false_iff_ne, Int.not_lt, Int.not_le, ge_iff_le, gt_iff_lt, ne_eq, Bool.false_eq_true, Bool.true_eq_false, not_true_eq_false, not_false_eq_true, Bool.and_eq_true, Bool.not_eq_eq_eq_not, Bool.not_true, Bool.not_false, bne_iff_ne, bne_eq_false_iff_eq, Int.toNat_natCast, Nat.mul_one, Nat.add_zero, Nat.zero_add, List.take_length, List.drop_zero] at h1)
    all_goals
      refine Tree.GivesP.ret ?_ ?_
      · simp only [AV.le, true_and]
        exact (idxZ_none h1).symm
      · simp only [AV.leL, AV.le, Mem.le, Mem.leP, Blk.le, Blk.pad, Data.le, Data.size, Cap.le, and_true, true_and, and_self, true_implies, implies_true, imp_self, List.length_nil]
theorem sidx36 (hall : AllOk Try.prog 0 (fun _ => none) tab3) (zl : Bool) (l : List Int) (hw : short l ∧ (zl = true → l = [])) : SoundAt (mkC Try.prog 0 (fun _ => none) []) 39 [.sl zl ⟨0, 0, 0, 0⟩ false l.length .any, .fn (.func 36) [] []] [some ⟨3, false, false, true, .ints .i64 l⟩] (.int .i64 false (idxZ badV l), [some ⟨3, false, false, true, .ints .i64 l⟩]) := sound_loopsP hall mix (loopsidx36 hall) (tidx36 zl l) (gidx36 zl l hw)
theorem Fidx36_ok (hall : AllOk Try.prog 0 (fun _ => none) tab3) : PureF Try.prog 3 39 Fidx36 := by
  intro xs c v news h hc
  unfold Fidx36 at h
  split at h
  · rename_i zl l
    cases h
    refine ⟨(by intro b hb; cases hb), SoundAt.flags (sidx36 hall zl l hc) ?_⟩
    simp [PA.avs, AV.le, AV.leL, Cap.le]
  · cases h
end Go.Proofs.Ytnkjblmlchbfkaa.Rig

/- Qcon38 -/
namespace Go.Proofs.Ytnkjblmlchbfkaa.Rig
open Go
set_option maxRecDepth 100000 in
theorem tcon38 (zl : Bool) (l : List Int) : evBody (mkC Try.prog 0 (fun _ => none) tab4) (evCall (mkC Try.prog 0 (fun _ => none) tab4) 50) 37 [.sl zl ⟨0, 0, 0, 0⟩ false l.length .any, .fn (.func 38) [] []] [some ⟨3, false, false, true, .ints .i64 l⟩] =
  Tree.chk ((0 + List.length l ≤ List.length l ∧ True ∧ True) ∧ short (List.take (List.length l) (List.drop (0) l)) ∧ (zl = true → List.take (List.length l) (List.drop (0) l) = []))
  (Tree.ret (AV.bool false (decide (idxZ badW (List.take (List.length l) (List.drop (0) l)) ≥ (0 : Int))), [some (Blk.mk (3) false false true (Data.ints IntKind.i64 l))])) := by kernel_rfl
set_option maxRecDepth 100000 in
theorem gcon38 (zl : Bool) (l : List Int) (hw : short l ∧ (zl = true → l = [])) : (Tree.chk ((0 + List.length l ≤ List.length l ∧ True ∧ True) ∧ short (List.take (List.length l) (List.drop (0) l)) ∧ (zl = true → List.take (List.length l) (List.drop (0) l) = []))
  (Tree.ret (AV.bool false (decide (idxZ badW (List.take (List.length l) (List.drop (0) l)) ≥ (0 : Int))), [some (Blk.mk (3) false false true (Data.ints IntKind.i64 l))])) : Tree (AV × Mem)).GivesP (.bool false (l.any badW)) ([some ⟨3, false, false, true, .ints .i64 l⟩]) := by
  refine Tree.GivesP.chk (by first | (simp only [and_self]; done) | (simp only [List.take_length, List.drop_zero, Ref.pos, Nat.zero_mul, Nat.mul_zero, Nat.zero_add, Nat.add_zero, Nat.le_refl, true_and, and_true, and_self]; first | done | exact hw | omega)) ?_
  refine Tree.GivesP.ret ?_ ?_
  · simp only [AV.le, List.take_length, List.drop_zero]; exact idxZ_neg
  · simp only [AV.leL, AV.le, Mem.le, Mem.leP, Blk.le, Blk.pad, Data.le, Data.size, Cap.le, and_true, true_and, and_self, true_implies, implies_true, imp_self, List.length_nil]
theorem scon38 (hall : AllOk Try.prog 0 (fun _ => none) tab4) (zl : Bool) (l : List Int) (hw : short l ∧ (zl = true → l = [])) : SoundAt (mkC Try.prog 0 (fun _ => none) []) 37 [.sl zl ⟨0, 0, 0, 0⟩ false l.length .any, .fn (.func 38) [] []] [some ⟨3, false, false, true, .ints .i64 l⟩] (.bool false (l.any badW), [some ⟨3, false, false, true, .ints .i64 l⟩]) := sound_ofP hall mix (tcon38 zl l) (gcon38 zl l hw)
theorem Fcon38_ok (hall : AllOk Try.prog 0 (fun _ => none) tab4) : PureF Try.prog 3 37 Fcon38 := by
  intro xs c v news h hc
  unfold Fcon38 at h
  split at h
  · rename_i zl l
    cases h
    refine ⟨(by intro b hb; cases hb), SoundAt.flags (scon38 hall zl l hc) ?_⟩
    simp [PA.avs, AV.le, AV.leL, Cap.le]
  · cases h
end Go.Proofs.Ytnkjblmlchbfkaa.Rig

/- Qcon36 -/
namespace Go.Proofs.Ytnkjblmlchbfkaa.Rig
open Go
set_option maxRecDepth 100000 in
theorem tcon36 (zl : Bool) (l : List Int) : evBody (mkC Try.prog 0 (fun _ => none) tab5) (evCall (mkC Try.prog 0 (fun _ => none) tab5) 50) 37 [.sl zl ⟨0, 0, 0, 0⟩ false l.length .any, .fn (.func 36) [] []] [some ⟨3, false, false, true, .ints .i64 l⟩] =
  Tree.chk ((0 + List.length l ≤ List.length l ∧ True ∧ True) ∧ short (List.take (List.length l) (List.drop (0) l)) ∧ (zl = true → List.take (List.length l) (List.drop (0) l) = []))
  (Tree.ret (AV.bool false (decide (idxZ badV (List.take (List.length l) (List.drop (0) l)) ≥ (0 : Int))), [some (Blk.mk (3) false false true (Data.ints IntKind.i64 l))])) := by kernel_rfl
set_option maxRecDepth 100000 in
theorem gcon36 (zl : Bool) (l : List Int) (hw : short l ∧ (zl = true → l = [])) : (Tree.chk ((0 + List.length l ≤ List.length l ∧ True ∧ True) ∧ short (List.take (List.length l) (List.drop (0) l)) ∧ (zl = true → List.take (List.length l) (List.drop (0) l) = []))
  (Tree.ret (AV.bool false (decide (idxZ badV (List.take (List.length l) (List.drop (0) l)) ≥ (0 : Int))), [some (Blk.mk (3) false false true (Data.ints IntKind.i64 l))])) : Tree (AV × Mem)).GivesP (.bool false (l.any badV)) ([some ⟨3, false, false, true, .ints .i64 l⟩]) := by
  refine Tree.GivesP.chk (by first | (simp only [and_self]; done) | (simp only [List.take_length, List.drop_zero, Ref.pos, Nat.zero_mul, Nat.mul_zero, Nat.zero_add, Nat.add_zero, Nat.le_refl, true_and, and_true, and_self]; first | done | exact hw | omega)) ?_
  refine Tree.GivesP.ret ?_ ?_
  · simp only [AV.le, List.take_length, List.drop_zero]; exact idxZ_neg
  · simp only [AV.leL, AV.le, Mem.le, Mem.leP, Blk.le, Blk.pad, Data.le, Data.size, Cap.le, and_true, true_and, and_self, true_implies, implies_true, imp_self, List.length_nil]
theorem scon36 (hall : AllOk Try.prog 0 (fun _ => none) tab5) (zl : Bool) (l : List Int) (hw : short l ∧ (zl = true → l = [])) : SoundAt (mkC Try.prog 0 (fun _ => none) []) 37 [.sl zl ⟨0, 0, 0, 0⟩ false l.length .any, .fn (.func 36) [] []] [some ⟨3, false, false, true, .ints .i64 l⟩] (.bool false (l.any badV), [some ⟨3, false, false, true, .ints .i64 l⟩]) := sound_ofP hall mix (tcon36 zl l) (gcon36 zl l hw)
theorem Fcon36_ok (hall : AllOk Try.prog 0 (fun _ => none) tab5) : PureF Try.prog 3 37 Fcon36 := by
  intro xs c v news h hc
  unfold Fcon36 at h
  split at h
  · rename_i zl l
    cases h
    refine ⟨(by intro b hb; cases hb), SoundAt.flags (scon36 hall zl l hc) ?_⟩
    simp [PA.avs, AV.le, AV.leL, Cap.le]
  · cases h
end Go.Proofs.Ytnkjblmlchbfkaa.Rig

/- Qwords -/
namespace Go.Proofs.Ytnkjblmlchbfkaa.Rig
open Go
set_option maxRecDepth 100000 in
theorem tLwords_0 (k : Int) (n : Int) (i : Nat) : tidied Twords_0 Uwords_0 0 (evCode (mkL Try.prog 0 (fun _ => none) tab6 rowswords) (evCall (mkC Try.prog 0 (fun _ => none) tab6) 50) 35 0 fuelC (bodyAt Try.prog 35 0) (hdwords_0 ⟨k, n, i⟩)) =
  Tree.br (decide ((i : Int) < ((Int.toNat k) : Int)))
  (Tree.br (!decide (IntKind.wrap IntKind.i64 ((16 : Int) * IntKind.wrap IntKind.i64 (IntKind.wrap IntKind.i64 (k - (1 : Int)) - (i : Int))) < (0 : Int)))
  (Tree.br (!false && decide ((0 : Int) ≤ (i : Int) ∧ (i : Int) < ((Int.toNat k) : Int)))
  (Tree.br (decide (Int.toNat (i : Int) * 1 + 0 < List.length (fill (wordsZ k n) i)))
  (Tree.ret
  (Ex.norm,
  St.mk
  [AV.int IntKind.i64 false k, AV.int IntKind.i64 false n, jk, jk, jk, AV.sl false (Ref.mk (0) (0) (0) (0)) false (Int.toNat k) Cap.exact, jk, jk, jk,
  jk, AV.int IntKind.i64 false ((Int.toNat k) : Int), AV.int IntKind.i64 false (IntKind.wrap IntKind.i64 ((i : Int) + (1 : Int))), jk, jk, jk, jk, jk, jk, jk, jk, jk, jk, jk,
  jk, jk, jk, jk]
  [some
  (Blk.mk (3) true false true
  (Data.ints IntKind.i64
  (List.set (fill (wordsZ k n) i) (Int.toNat (i : Int) * 1 + 0)
  (IntKind.wrap IntKind.i64
  ((BitVec.toNat
  (BitVec.ofInt (64) (Int.fdiv n ((2 : Int) ^ min (Int.toNat (IntKind.wrap IntKind.i64 ((16 : Int) * IntKind.wrap IntKind.i64 (IntKind.wrap IntKind.i64 (k - (1 : Int)) - (i : Int))))) (64))) &&&
  BitVec.ofInt (64) (65535 : Int))) : Int)))))]))
  Tree.fail)
  Tree.fail)
  Tree.fail)
  (Tree.ret
  (Ex.exit (0),
  St.mk
  [jk, jk, jk, jk, jk, AV.sl false (Ref.mk (0) (0) (0) (0)) false (Int.toNat k) Cap.exact, jk, jk, jk, jk, jk, jk, jk, jk, jk,
  jk, jk, jk, jk, jk, jk, jk, jk, jk, jk, jk, jk]
  [some (Blk.mk (3) true false true (Data.ints IntKind.i64 (fill (wordsZ k n) i)))])) := by kernel_rfl
set_option maxRecDepth 100000 in
theorem stepwords_0 (k : Int) (n : Int) (i : Nat) (ex : Ex) (r : St) (hok : okwords_0 ⟨k, n, i⟩) (hr : (outwords_0 ⟨k, n, i⟩).runs (ex, r)) : (Tree.br (decide ((i : Int) < ((Int.toNat k) : Int)))
  (Tree.br (!decide (IntKind.wrap IntKind.i64 ((16 : Int) * IntKind.wrap IntKind.i64 (IntKind.wrap IntKind.i64 (k - (1 : Int)) - (i : Int))) < (0 : Int)))
  (Tree.br (!false && decide ((0 : Int) ≤ (i : Int) ∧ (i : Int) < ((Int.toNat k) : Int)))
  (Tree.br (decide (Int.toNat (i : Int) * 1 + 0 < List.length (fill (wordsZ k n) i)))
  (Tree.ret
  (Ex.norm,
  St.mk
  [AV.int IntKind.i64 false k, AV.int IntKind.i64 false n, jk, jk, jk, AV.sl false (Ref.mk (0) (0) (0) (0)) false (Int.toNat k) Cap.exact, jk, jk, jk,
  jk, AV.int IntKind.i64 false ((Int.toNat k) : Int), AV.int IntKind.i64 false (IntKind.wrap IntKind.i64 ((i : Int) + (1 : Int))), jk, jk, jk, jk, jk, jk, jk, jk, jk, jk, jk,
  jk, jk, jk, jk]
  [some
  (Blk.mk (3) true false true
  (Data.ints IntKind.i64
  (List.set (fill (wordsZ k n) i) (Int.toNat (i : Int) * 1 + 0)
  (IntKind.wrap IntKind.i64
  ((BitVec.toNat
  (BitVec.ofInt (64) (Int.fdiv n ((2 : Int) ^ min (Int.toNat (IntKind.wrap IntKind.i64 ((16 : Int) * IntKind.wrap IntKind.i64 (IntKind.wrap IntKind.i64 (k - (1 : Int)) - (i : Int))))) (64))) &&&
  BitVec.ofInt (64) (65535 : Int))) : Int)))))]))
  Tree.fail)
  Tree.fail)
  Tree.fail)
  (Tree.ret
  (Ex.exit (0),
  St.mk
  [jk, jk, jk, jk, jk, AV.sl false (Ref.mk (0) (0) (0) (0)) false (Int.toNat k) Cap.exact, jk, jk, jk, jk, jk, jk, jk, jk, jk,
  jk, jk, jk, jk, jk, jk, jk, jk, jk, jk, jk, jk]
  [some (Blk.mk (3) true false true (Data.ints IntKind.i64 (fill (wordsZ k n) i)))])) : Tree (Ex × St)).Sat (Post hdwords_0 reswords_0 muwords_0 ⟨k, n, i⟩ ex r) := by
  simp only [okwords_0, outwords_0, Tree.runs] at hok hr
  obtain ⟨h1k, h4k, hi⟩ := hok
  have hl := wordsZ_len k n
  have hfl := fill_len (L := wordsZ k n) (i := i) (by omega)
  refine Tree.Sat.br (fun h1 => ?_) (fun h1 => ?_)
  · (try simp only [decide_eq_true_eq, decide_eq_false_iff_not, Bool.not_eq_true', Bool.not_eq_false', beq_iff_eq, beq_eq_false_iff_ne, Int.not_lt, Int.not_le, ge_iff_le, gt_iff_lt, ne_eq, Bool.false_eq_true, Bool.true_eq_false, not_true_eq_false, not_false_eq_true, Bool.and_eq_true, Bool.not_eq_eq_eq_not, Bool.not_true, Bool.not_false, bne_iff_ne, bne_eq_false_iff_eq, Int.toNat_natCast, Nat.mul_one, Nat.add_zero, Nat.zero_add, List.take_length, List.drop_zero] at h1)
    all_goals
      refine Tree.Sat.br (fun h2 => ?_) (fun h2 => ?_)
      · (try simp only [decide_eq_true_eq, decide_eq_false_iff_not, Bool.not_eq_true', Bool.not_eq_false', beq_iff_eq, beq_eq_false_iff_ne, Int.not_lt, Int.not_le, ge_iff_le, gt_iff_lt, ne_eq, Bool.false_eq_true, Bool.true_eq_false, not_true_eq_false, not_false_eq_true, Bool.and_eq_true, Bool.not_eq_eq_eq_not, Bool.not_true, Bool.not_false, bne_iff_ne, bne_eq_false_iff_eq, Int.toNat_natCast, Nat.mul_one, Nat.add_zero, Nat.zero_add, List.take_length, List.drop_zero] at h2)
        all_goals
          refine Tree.Sat.br (fun h3 => ?_) (fun h3 => ?_)
          · (try simp only [decide_eq_true_eq, decide_eq_false_iff_not, Bool.not_eq_true', Bool.not_eq_false', beq_iff_eq, beq_eq_false_iff_ne, Int.not_lt, Int.not_le, ge_iff_le, gt_iff_lt, ne_eq, Bool.false_eq_true, Bool.true_eq_false, not_true_eq_false, not_false_eq_true, Bool.and_eq_true, Bool.not_eq_eq_eq_not, Bool.not_true, Bool.not_false, bne_iff_ne, bne_eq_false_iff_eq, Int.toNat_natCast, Nat.mul_one, Nat.add_zero, Nat.zero_add, List.take_length, List.drop_zero] at h3)
            all_goals
              refine Tree.Sat.br (fun h4 => ?_) (fun h4 => ?_)
              · (try simp only [decide_eq_true_eq, decide_eq_false_iff_not, Bool.not_eq_true', Bool.not_eq_false', beq_iff_eq, beq_eq_false_iff_ne, Int.not_lt, Int.not_le, ge_iff_le, gt_iff_lt, ne_eq, Bool.false_eq_true, Bool.true_eq_false, not_true_eq_false, not_false_eq_true, Bool.and_eq_true, Bool.not_eq_eq_eq_not, Bool.not_true, Bool.not_false, bne_iff_ne, bne_eq_false_iff_eq, Int.toNat_natCast, Nat.mul_one, Nat.add_zero, Nat.zero_add, List.take_length, List.drop_zero] at h4)
                all_goals
                  refine Tree.Sat.ret ?_
                  refine .norm ⟨k, n, i + 1⟩ ?_ ?_ ⟨?_, ?_⟩
                  · constructor <;> simp only [hdwords_0, AV.leL, AV.le, Mem.le, Mem.leP, Blk.le, Blk.pad, Data.le, Data.size, Cap.le, and_true, true_and, and_self, true_implies, implies_true, imp_self, List.length_nil] <;> (repeat' with_reducible refine And.intro ?_ ?_) <;> (try simp only [Int.toNat_natCast, Nat.mul_one, Nat.add_zero, Nat.zero_add]) <;> first | exact wadd1 (by omega) | ((try simp only [Int.toNat_natCast, Nat.mul_one, Nat.add_zero]); rw [words_step h1k h4k (by omega)]; exact fill_set (by omega))
                  · simp only [muwords_0]; omega
                  · exact ⟨h1k, h4k, by omega⟩
                  · exact hr
              · (try simp only [decide_eq_true_eq, decide_eq_false_iff_not, Bool.not_eq_true', Bool.not_eq_false', beq_iff_eq, beq_eq_false_iff_ne, Int.not_lt, Int.not_le, ge_iff_le, gt_iff_lt, ne_eq, Bool.false_eq_true, Bool.true_eq_false, not_true_eq_false, not_false_eq_true, Bool.and_eq_true, Bool.not_eq_eq_eq_not, Bool.not_true, Bool.not_false, bne_iff_ne, bne_eq_false_iff_eq, Int.toNat_natCast, Nat.mul_one, Nat.add_zero, Nat.zero_add, List.take_length, List.drop_zero] at h4)
                all_goals
                  exfalso
                  first | omega | (simp only [w64] at *; omega) | (simp_all; done) | (simp_all; omega)
          · (try simp only [decide_eq_true_eq, decide_eq_false_iff_not, Bool.not_eq_true', Bool.not_eq_false', beq_iff_eq, beq_eq_false_iff_ne, Int.not_lt, Int.not_le, ge_iff_le, gt_iff_lt, ne_eq, Bool.false_eq_true, Bool.true_eq_false, not_true_eq_false, not_false_eq_true, Bool.and_eq_true, Bool.not_eq_eq_eq_not, Bool.not_true, Bool.not_false, bne_iff_ne, bne_eq_false_iff_eq, Int.toNat_natCast, Nat.mul_one, Nat.add_zero, Nat.zero_add, List.take_length, List.drop_zero] at h3)
            all_goals
              exfalso
              first | omega | (simp only [w64] at *; omega) | (simp_all; done) | (simp_all; omega)
      · (try simp only [decide_eq_true_eq, decide_eq_false_iff_not, Bool.not_eq_true', Bool.not_eq_false', beq_iff_eq, beq_eq_false_iff_ne, Int.not_lt, Int.not_le, ge_iff_le, gt_iff_lt, ne_eq, Bool.false_eq_true, Bool.true_eq_false, not_true_eq_false, not_false_eq_true, Bool.and_eq_true, Bool.not_eq_eq_eq_not, Bool.not_true, Bool.not_false, bne_iff_ne, bne_eq_false_iff_eq, Int.toNat_natCast, Nat.mul_one, Nat.add_zero, Nat.zero_add, List.take_length, List.drop_zero] at h2)
        all_goals
          exfalso
          first | omega | (simp only [w64] at *; omega) | (simp_all; done) | (simp_all; omega)
  · (try simp only [decide_eq_true_eq, decide_eq_false_iff_not, Bool.not_eq_true', Bool.not_eq_false', beq_iff_eq, beq_eq_false_iff_ne, Int.not_lt, Int.not_le, ge_iff_le, gt_iff_lt, ne_eq, Bool.false_eq_true, Bool.true_eq_false, not_true_eq_false, not_false_eq_true, Bool.and_eq_true, Bool.not_eq_eq_eq_not, Bool.not_true, Bool.not_false, bne_iff_ne, bne_eq_false_iff_eq, Int.toNat_natCast, Nat.mul_one, Nat.add_zero, Nat.zero_add, List.take_length, List.drop_zero] at h1)
    all_goals
      refine Tree.Sat.ret ?_
      have hq := hr
      simp only [Prod.mk.injEq] at hq
      obtain ⟨rfl, rfl⟩ := hq
      refine .exit rfl ?_
      constructor <;> simp only [AV.leL, AV.le, Mem.le, Mem.leP, Blk.le, Blk.pad, Data.le, Data.size, Cap.le, and_true, true_and, and_self, true_implies, implies_true, imp_self, List.length_nil] <;> (repeat' with_reducible refine And.intro ?_ ?_) <;> (try simp only [Int.toNat_natCast, Nat.mul_one, Nat.add_zero, Nat.zero_add]) <;> exact (by rw [show i = (wordsZ k n).length from by omega]; exact fill_all _)
set_option maxHeartbeats 2000000 in
set_option maxRecDepth 100000 in
theorem loopwords_0 (hall : AllOk Try.prog 0 (fun _ => none) tab6) : LoopOk (mkL Try.prog 0 (fun _ => none) tab6 rowswords) 35 0 (bodyAt Try.prog 35 0) := by
  have hkey : Code.key (bodyAt Try.prog 35 0) = 3 := by kernel_rfl
  have hin : loopsIn (bodyAt Try.prog 35 0) = [] := by kernel_rfl
  have hrow : lookL rowswords 35 (Code.key (bodyAt Try.prog 35 0)) = some rowwords_0 := by rw [hkey]; rfl
  refine loop_rowP (X := Xwords_0) (row := rowwords_0) hall mix hrow (fun b hb _ => by rw [hin] at hb; cases hb) Uwords_0 hdwords_0 reswords_0 muwords_0 (fun st ex r h => ?_) (fun x ex r hr => ?_)
  · have h' : (answords_0 st).runs (ex, r) := h
    unfold answords_0 at h'
    split at h'
    · obtain ⟨q1, q2⟩ := Tree.chk_runs h'
      exact ⟨_, q1, q2⟩
    · exact h'.elim
  · obtain ⟨k, n, i⟩ := x
    have := stepwords_0 k n i ex r hr.1 hr.2
    rw [← tLwords_0] at this
    (try rw [show rowwords_0.tidy = Twords_0 from rfl])
    exact this
theorem loopswords (hall : AllOk Try.prog 0 (fun _ => none) tab6) : ∀ i, i < (loopsAt Try.prog 35).length → LoopOk (mkL Try.prog 0 (fun _ => none) tab6 rowswords) 35 0 (bodyAt Try.prog 35 i) := by
  intro i hi
  have hlen : (loopsAt Try.prog 35).length = 1 := by kernel_rfl
  rw [hlen] at hi
  obtain rfl : i = 0 := by omega
  · exact loopwords_0 hall
set_option maxRecDepth 100000 in
theorem twords (k : Int) (n : Int) : evBody (mkL Try.prog 0 (fun _ => none) tab6 rowswords) (evCall (mkC Try.prog 0 (fun _ => none) tab6) 50) 35 [.int .i64 false k, .int .i64 false n] [] =
  Tree.br (decide ((0 : Int) ≤ k ∧ k = k ∧ k ≤ most48 ∧ k * (8 : Int) ≤ most48))
  (Tree.chk
  (St.le
  (St.mk
  [AV.int IntKind.i64 false k, AV.int IntKind.i64 false n, jk, jk, jk, AV.sl false (Ref.mk (0) (0) (0) (0)) false (Int.toNat k) Cap.exact, jk, jk, jk, jk,
  AV.int IntKind.i64 false ((Int.toNat k) : Int), AV.int IntKind.i64 true (0 : Int), jk, jk, jk, jk, jk, jk, jk, jk, jk, jk, jk, jk, jk, jk, jk]
  [some (Blk.mk (3) true false true (Data.ints IntKind.i64 (List.replicate (Int.toNat k) (0 : Int))))])
  (St.mk
  [AV.int IntKind.i64 false k, AV.int IntKind.i64 false n, jk, jk, jk, AV.sl false (Ref.mk (0) (0) (0) (0)) false (Int.toNat k) Cap.exact, jk, jk, jk, jk,
  AV.int IntKind.i64 false ((Int.toNat k) : Int), AV.int IntKind.i64 false (0 : Int), jk, jk, jk, jk, jk, jk, jk, jk, jk, jk, jk, jk, jk, jk, jk]
  [some (Blk.mk (3) true false true (Data.ints IntKind.i64 (fill (wordsZ k n) (Int.toNat (0 : Int)))))]))
  (Tree.chk (okwords_0 (Xwords_0.mk k n (Int.toNat (0 : Int))))
  (Tree.ret (AV.sl false (Ref.mk (0) (0) (0) (0)) false (Int.toNat k) Cap.exact, [some (Blk.mk (3) true false true (Data.ints IntKind.i64 (wordsZ k n)))]))))
  Tree.fail := by kernel_rfl
set_option maxRecDepth 100000 in
theorem gwords (k : Int) (n : Int) (hw : 1 ≤ k ∧ k ≤ 4) : (Tree.br (decide ((0 : Int) ≤ k ∧ k = k ∧ k ≤ most48 ∧ k * (8 : Int) ≤ most48))
  (Tree.chk
  (St.le
  (St.mk
  [AV.int IntKind.i64 false k, AV.int IntKind.i64 false n, jk, jk, jk, AV.sl false (Ref.mk (0) (0) (0) (0)) false (Int.toNat k) Cap.exact, jk, jk, jk, jk,
  AV.int IntKind.i64 false ((Int.toNat k) : Int), AV.int IntKind.i64 true (0 : Int), jk, jk, jk, jk, jk, jk, jk, jk, jk, jk, jk, jk, jk, jk, jk]
  [some (Blk.mk (3) true false true (Data.ints IntKind.i64 (List.replicate (Int.toNat k) (0 : Int))))])
  (St.mk
  [AV.int IntKind.i64 false k, AV.int IntKind.i64 false n, jk, jk, jk, AV.sl false (Ref.mk (0) (0) (0) (0)) false (Int.toNat k) Cap.exact, jk, jk, jk, jk,
  AV.int IntKind.i64 false ((Int.toNat k) : Int), AV.int IntKind.i64 false (0 : Int), jk, jk, jk, jk, jk, jk, jk, jk, jk, jk, jk, jk, jk, jk, jk]
  [some (Blk.mk (3) true false true (Data.ints IntKind.i64 (fill (wordsZ k n) (Int.toNat (0 : Int)))))]))
  (Tree.chk (okwords_0 (Xwords_0.mk k n (Int.toNat (0 : Int))))
  (Tree.ret (AV.sl false (Ref.mk (0) (0) (0) (0)) false (Int.toNat k) Cap.exact, [some (Blk.mk (3) true false true (Data.ints IntKind.i64 (wordsZ k n)))]))))
  Tree.fail : Tree (AV × Mem)).GivesP (.sl false ⟨0, 0, 0, 0⟩ false (wordsZ k n).length .exact) ([some (⟨3, true, false, true, .ints .i64 (wordsZ k n)⟩)]) := by
  refine Tree.GivesP.br (fun h1 => ?_) (fun h1 => ?_)
  · (try simp only [decide_eq_true_eq, decide_eq_false_iff_not, Bool.not_eq_true', Bool.not_eq_false', beq_iff_eq, beq_eq_false_iff_ne, Int.not_lt, Int.not_le, ge_iff_le, gt_iff_lt, ne_eq, Bool.false_eq_true, Bool.true_eq_false, not_true_eq_false, not_false_eq_true, Bool.and_eq_true, Bool.not_eq_eq_eq_not, Bool.not_true, Bool.not_false, bne_iff_ne, bne_eq_false_iff_eq, Int.toNat_natCast, Nat.mul_one, Nat.add_zero, Nat.zero_add, List.take_length, List.drop_zero] at h1)
    all_goals
      refine Tree.GivesP.chk (by first | (simp only [and_self]; done) | (constructor <;> simp only [hdwords_0, Int.toNat_zero, Int.cast_ofNat_Int, AV.leL, AV.le, Mem.le, Mem.leP, Blk.le, Blk.pad, Data.le, Data.size, Cap.le, and_true, true_and, and_self, true_implies, implies_true, imp_self, List.length_nil] <;> (try simp only [List.take_zero]) <;> (try rfl) <;> simp only [fill_zero, wordsZ_len])) ?_
      refine Tree.GivesP.chk (by first | (simp only [and_self]; done) | (exact ⟨hw.1, hw.2, Nat.zero_le _⟩)) ?_
      refine Tree.GivesP.ret ?_ ?_
      · simp only [AV.le, wordsZ_len, Cap.le, and_true, true_and, and_self, imp_self, true_implies, implies_true]
      · simp only [AV.leL, AV.le, Mem.le, Mem.leP, Blk.le, Blk.pad, Data.le, Data.size, Cap.le, and_true, true_and, and_self, true_implies, implies_true, imp_self, List.length_nil]
  · (try simp only [decide_eq_true_eq, decide_eq_false_iff_not, Bool.not_eq_true', Bool.not_eq_false', beq_iff_eq, beq_eq_false_iff_ne, Int.not_lt, Int.not_le, ge_iff_le, gt_iff_lt, ne_eq, Bool.false_eq_true, Bool.true_eq_false, not_true_eq_false, not_false_eq_true, Bool.and_eq_true, Bool.not_eq_eq_eq_not, Bool.not_true, Bool.not_false, bne_iff_ne, bne_eq_false_iff_eq, Int.toNat_natCast, Nat.mul_one, Nat.add_zero, Nat.zero_add, List.take_length, List.drop_zero] at h1)
    all_goals
      exfalso
      simp [most48] at h1; omega
theorem swords (hall : AllOk Try.prog 0 (fun _ => none) tab6) (k : Int) (n : Int) (hw : 1 ≤ k ∧ k ≤ 4) : SoundAt (mkC Try.prog 0 (fun _ => none) []) 35 [.int .i64 false k, .int .i64 false n] [] (.sl false ⟨0, 0, 0, 0⟩ false (wordsZ k n).length .exact, [some (⟨3, true, false, true, .ints .i64 (wordsZ k n)⟩)]) := sound_loopsP hall mix (loopswords hall) (twords k n) (gwords k n hw)
theorem Fwords_ok (hall : AllOk Try.prog 0 (fun _ => none) tab6) : PureF Try.prog 3 35 Fwords := by
  intro xs c v news h hc
  unfold Fwords at h
  split at h
  · rename_i _ k _ n
    cases h
    refine ⟨(by simp), SoundAt.flags (swords hall k n hc) ?_⟩
    simp [PA.avs, AV.le, AV.leL, Cap.le]
  · cases h
end Go.Proofs.Ytnkjblmlchbfkaa.Rig

/- Qlook -/
namespace Go.Proofs.Ytnkjblmlchbfkaa.Rig
open Go
set_option maxRecDepth 100000 in
theorem tlook (n : Int) (zl : Bool) (l : List Int) : evBody (mkC Try.prog 0 (fun _ => none) tab7) (evCall (mkC Try.prog 0 (fun _ => none) tab7) 50) 34 [.int .i64 false n, .sl zl ⟨0, 0, 0, 0⟩ false l.length .any] [some ⟨3, false, false, true, .ints .i64 l⟩] =
  Tree.br (decide ((0 : Int) ≤ (0 : Int) ∧ ((0 : Int) ≤ if ((List.length l) : Int) < n then ((List.length l) : Int) else n) ∧ (if ((List.length l) : Int) < n then ((List.length l) : Int) else n) ≤ ((List.length l) : Int)))
  (Tree.chk
  ((0 + (Int.toNat (if ((List.length l) : Int) < n then ((List.length l) : Int) else n) - Int.toNat (0 : Int)) ≤ List.length l ∧ True ∧ True) ∧
  short (List.take (Int.toNat (if ((List.length l) : Int) < n then ((List.length l) : Int) else n) - Int.toNat (0 : Int)) (List.drop (0) l)) ∧
  (zl = true → List.take (Int.toNat (if ((List.length l) : Int) < n then ((List.length l) : Int) else n) - Int.toNat (0 : Int)) (List.drop (0) l) = []))
  (Tree.br (List.any (List.take (Int.toNat (if ((List.length l) : Int) < n then ((List.length l) : Int) else n) - Int.toNat (0 : Int)) (List.drop (0) l)) badW)
  (Tree.ret (AV.int IntKind.i64 true (2 : Int), [some (Blk.mk (3) false false true (Data.ints IntKind.i64 l))]))
  (Tree.br (decide (((List.length l) : Int) < n)) (Tree.ret (AV.int IntKind.i64 true (7 : Int), [some (Blk.mk (3) false false true (Data.ints IntKind.i64 l))]))
  (Tree.ret (AV.int IntKind.i64 true (0 : Int), [some (Blk.mk (3) false false true (Data.ints IntKind.i64 l))])))))
  Tree.fail := by kernel_rfl
set_option maxRecDepth 100000 in
theorem glook (n : Int) (zl : Bool) (l : List Int) (hw : short l ∧ (zl = true → l = []) ∧ 0 ≤ n ∧ n ≤ 140737488355328) : (Tree.br (decide ((0 : Int) ≤ (0 : Int) ∧ ((0 : Int) ≤ if ((List.length l) : Int) < n then ((List.length l) : Int) else n) ∧ (if ((List.length l) : Int) < n then ((List.length l) : Int) else n) ≤ ((List.length l) : Int)))
  (Tree.chk
  ((0 + (Int.toNat (if ((List.length l) : Int) < n then ((List.length l) : Int) else n) - Int.toNat (0 : Int)) ≤ List.length l ∧ True ∧ True) ∧
  short (List.take (Int.toNat (if ((List.length l) : Int) < n then ((List.length l) : Int) else n) - Int.toNat (0 : Int)) (List.drop (0) l)) ∧
  (zl = true → List.take (Int.toNat (if ((List.length l) : Int) < n then ((List.length l) : Int) else n) - Int.toNat (0 : Int)) (List.drop (0) l) = []))
  (Tree.br (List.any (List.take (Int.toNat (if ((List.length l) : Int) < n then ((List.length l) : Int) else n) - Int.toNat (0 : Int)) (List.drop (0) l)) badW)
  (Tree.ret (AV.int IntKind.i64 true (2 : Int), [some (Blk.mk (3) false false true (Data.ints IntKind.i64 l))]))
  (Tree.br (decide (((List.length l) : Int) < n)) (Tree.ret (AV.int IntKind.i64 true (7 : Int), [some (Blk.mk (3) false false true (Data.ints IntKind.i64 l))]))
  (Tree.ret (AV.int IntKind.i64 true (0 : Int), [some (Blk.mk (3) false false true (Data.ints IntKind.i64 l))])))))
  Tree.fail : Tree (AV × Mem)).GivesP (.int .i64 false (lookZ n l)) ([some ⟨3, false, false, true, .ints .i64 l⟩]) := by
  have e : (if (l.length : Int) < n then (l.length : Int) else n).toNat = min n.toNat l.length := by split <;> omega
  have e0 : 0 ≤ (if (l.length : Int) < n then (l.length : Int) else n) ∧ (if (l.length : Int) < n then (l.length : Int) else n) ≤ l.length := by split <;> omega
  have e2 : l.take (min n.toNat l.length) = l.take n.toNat := by rw [← List.take_take, List.take_length]
  refine Tree.GivesP.br (fun h1 => ?_) (fun h1 => ?_)
  · (try simp only [decide_eq_true_eq, decide_eq_false_iff_not, Bool.not_eq_true', Bool.not_eq_false', beq_iff_eq, beq_eq_false_iff_ne, Int.not_lt, Int.not_le, ge_iff_le, gt_iff_lt, ne_eq, Bool.false_eq_true, Bool.true_eq_false, not_true_eq_false, not_false_eq_true, Bool.and_eq_true, Bool.not_eq_eq_eq_not, Bool.not_true, Bool.not_false, bne_iff_ne, bne_eq_false_iff_eq, Int.toNat_natCast, Nat.mul_one, Nat.add_zero, Nat.zero_add, List.take_length, List.drop_zero] at h1)
    all_goals
      refine Tree.GivesP.chk (by first | (simp only [and_self]; done) | (simp only [e, Int.toNat_zero, Nat.sub_zero, List.drop_zero, e2]; obtain ⟨q1, q2, q3, q4⟩ := hw; refine ⟨⟨by omega, trivial, trivial⟩, ?_, fun h => by rw [q2 h]; simp⟩; simp only [short, List.length_take] at *; omega)) ?_
      refine Tree.GivesP.br (fun h2 => ?_) (fun h2 => ?_)
      · (try simp only [decide_eq_true_eq, decide_eq_false_iff_not, Bool.not_eq_true', Bool.not_eq_false', beq_iff_eq, beq_eq_false_iff_ne, Int.not_lt, Int.not_le, ge_iff_le, gt_iff_lt, ne_eq, Bool.false_eq_true, Bool.true_eq_false, not_true_eq_false, not_false_eq_true, Bool.and_eq_true, Bool.not_eq_eq_eq_not, Bool.not_true, Bool.not_false, bne_iff_ne, bne_eq_false_iff_eq, Int.toNat_natCast, Nat.mul_one, Nat.add_zero, Nat.zero_add, List.take_length, List.drop_zero] at h2)
        all_goals
          refine Tree.GivesP.ret ?_ ?_
          · simp only [e, Int.toNat_zero, Nat.sub_zero, List.drop_zero, e2] at h2; simp only [AV.le, lookZ, h2, if_true, and_true]
          · simp only [AV.leL, AV.le, Mem.le, Mem.leP, Blk.le, Blk.pad, Data.le, Data.size, Cap.le, and_true, true_and, and_self, true_implies, implies_true, imp_self, List.length_nil]
      · (try simp only [decide_eq_true_eq, decide_eq_false_iff_not, Bool.not_eq_true', Bool.not_eq_false', beq_iff_eq, beq_eq_false_iff_ne, Int.not_lt, Int.not_le, ge_iff_le, gt_iff_lt, ne_eq, Bool.false_eq_true, Bool.true_eq_false, not_true_eq_false, not_false_eq_true, Bool.and_eq_true, Bool.not_eq_eq_eq_not, Bool.not_true, Bool.not_false, bne_iff_ne, bne_eq_false_iff_eq, Int.toNat_natCast, Nat.mul_one, Nat.add_zero, Nat.zero_add, List.take_length, List.drop_zero] at h2)
        all_goals
          refine Tree.GivesP.br (fun h3 => ?_) (fun h3 => ?_)
          · (try simp only [decide_eq_true_eq, decide_eq_false_iff_not, Bool.not_eq_true', Bool.not_eq_false', beq_iff_eq, beq_eq_false_iff_ne, Int.not_lt, Int.not_le, ge_iff_le, gt_iff_lt, ne_eq, Bool.false_eq_true, Bool.true_eq_false, not_true_eq_false, not_false_eq_true, Bool.and_eq_true, Bool.not_eq_eq_eq_not, Bool.not_true, Bool.not_false, bne_iff_ne, bne_eq_false_iff_eq, Int.toNat_natCast, Nat.mul_one, Nat.add_zero, Nat.zero_add, List.take_length, List.drop_zero] at h3)
            all_goals
              refine Tree.GivesP.ret ?_ ?_
              · simp only [e, Int.toNat_zero, Nat.sub_zero, List.drop_zero, e2] at h2; simp only [AV.le, lookZ, h2, true_and, Bool.false_eq_true, if_false, if_pos h3]
              · simp only [AV.leL, AV.le, Mem.le, Mem.leP, Blk.le, Blk.pad, Data.le, Data.size, Cap.le, and_true, true_and, and_self, true_implies, implies_true, imp_self, List.length_nil]
          · (try simp only [decide_eq_true_eq, decide_eq_false_iff_not, Bool.not_eq_true', Bool.not_eq_false', beq_iff_eq, beq_eq_false_iff_ne, Int.not_lt, Int.not_le, ge_iff_le, gt_iff_lt, ne_eq, Bool.false_eq_true, Bool.true_eq_false, not_true_eq_false, not_false_eq_true, Bool.and_eq_true, Bool.not_eq_eq_eq_not, Bool.not_true, Bool.not_false, bne_iff_ne, bne_eq_false_iff_eq, Int.toNat_natCast, Nat.mul_one, Nat.add_zero, Nat.zero_add, List.take_length, List.drop_zero] at h3)
            all_goals
              refine Tree.GivesP.ret ?_ ?_
              · simp only [e, Int.toNat_zero, Nat.sub_zero, List.drop_zero, e2] at h2; simp only [AV.le, lookZ, h2, true_and, Bool.false_eq_true, if_false]; rw [if_neg (by omega)]
              · simp only [AV.leL, AV.le, Mem.le, Mem.leP, Blk.le, Blk.pad, Data.le, Data.size, Cap.le, and_true, true_and, and_self, true_implies, implies_true, imp_self, List.length_nil]
  · (try simp only [decide_eq_true_eq, decide_eq_false_iff_not, Bool.not_eq_true', Bool.not_eq_false', beq_iff_eq, beq_eq_false_iff_ne, Int.not_lt, Int.not_le, ge_iff_le, gt_iff_lt, ne_eq, Bool.false_eq_true, Bool.true_eq_false, not_true_eq_false, not_false_eq_true, Bool.and_eq_true, Bool.not_eq_eq_eq_not, Bool.not_true, Bool.not_false, bne_iff_ne, bne_eq_false_iff_eq, Int.toNat_natCast, Nat.mul_one, Nat.add_zero, Nat.zero_add, List.take_length, List.drop_zero] at h1)
    all_goals
      exfalso
      omega
theorem slook (hall : AllOk Try.prog 0 (fun _ => none) tab7) (n : Int) (zl : Bool) (l : List Int) (hw : short l ∧ (zl = true → l = []) ∧ 0 ≤ n ∧ n ≤ 140737488355328) : SoundAt (mkC Try.prog 0 (fun _ => none) []) 34 [.int .i64 false n, .sl zl ⟨0, 0, 0, 0⟩ false l.length .any] [some ⟨3, false, false, true, .ints .i64 l⟩] (.int .i64 false (lookZ n l), [some ⟨3, false, false, true, .ints .i64 l⟩]) := sound_ofP hall mix (tlook n zl l) (glook n zl l hw)
theorem Flook_ok (hall : AllOk Try.prog 0 (fun _ => none) tab7) : PureF Try.prog 3 34 Flook := by
  intro xs c v news h hc
  unfold Flook at h
  split at h
  · rename_i _ n zl l
    cases h
    refine ⟨(by intro b hb; cases hb), SoundAt.flags (slook hall n zl l hc) ?_⟩
    simp [PA.avs, AV.le, AV.leL, Cap.le]
  · cases h
end Go.Proofs.Ytnkjblmlchbfkaa.Rig

/- Qmay -/
namespace Go.Proofs.Ytnkjblmlchbfkaa.Rig
open Go
set_option maxRecDepth 100000 in
theorem tmay (zl : Bool) (l : List Int) : evBody (mkC Try.prog 0 (fun _ => none) tab8) (evCall (mkC Try.prog 0 (fun _ => none) tab8) 50) 31 [.sl zl ⟨0, 0, 0, 0⟩ false l.length .any] [some ⟨3, false, false, true, .ints .i64 l⟩] =
  Tree.br (decide (((List.length l) : Int) > (256 : Int))) (Tree.ret (AV.int IntKind.i64 true (3 : Int), [some (Blk.mk (3) false false true (Data.ints IntKind.i64 l))]))
  (Tree.chk ((0 + List.length l ≤ List.length l ∧ True ∧ True) ∧ short (List.take (List.length l) (List.drop (0) l)) ∧ (zl = true → List.take (List.length l) (List.drop (0) l) = []))
  (Tree.br (List.any (List.take (List.length l) (List.drop (0) l)) badV) (Tree.ret (AV.int IntKind.i64 true (2 : Int), [some (Blk.mk (3) false false true (Data.ints IntKind.i64 l))]))
  (Tree.ret (AV.int IntKind.i64 true (0 : Int), [some (Blk.mk (3) false false true (Data.ints IntKind.i64 l))])))) := by kernel_rfl
set_option maxRecDepth 100000 in
theorem gmay (zl : Bool) (l : List Int) (hw : short l ∧ (zl = true → l = [])) : (Tree.br (decide (((List.length l) : Int) > (256 : Int))) (Tree.ret (AV.int IntKind.i64 true (3 : Int), [some (Blk.mk (3) false false true (Data.ints IntKind.i64 l))]))
  (Tree.chk ((0 + List.length l ≤ List.length l ∧ True ∧ True) ∧ short (List.take (List.length l) (List.drop (0) l)) ∧ (zl = true → List.take (List.length l) (List.drop (0) l) = []))
  (Tree.br (List.any (List.take (List.length l) (List.drop (0) l)) badV) (Tree.ret (AV.int IntKind.i64 true (2 : Int), [some (Blk.mk (3) false false true (Data.ints IntKind.i64 l))]))
  (Tree.ret (AV.int IntKind.i64 true (0 : Int), [some (Blk.mk (3) false false true (Data.ints IntKind.i64 l))])))) : Tree (AV × Mem)).GivesP (.int .i64 false (mayZ l)) ([some ⟨3, false, false, true, .ints .i64 l⟩]) := by
  refine Tree.GivesP.br (fun h1 => ?_) (fun h1 => ?_)
  · (try simp only [decide_eq_true_eq, decide_eq_false_iff_not, Bool.not_eq_true', Bool.not_eq_false', beq_iff_eq, beq_eq_false_iff_ne, Int.not_lt, Int.not_le, ge_iff_le, gt_iff_lt, ne_eq, Bool.false_eq_true, Bool.true_eq_false, not_true_eq_false, not_false_eq_true, Bool.and_eq_true, Bool.not_eq_eq_eq_not, Bool.not_true, Bool.not_false, bne_iff_ne, bne_eq_false_iff_eq, Int.toNat_natCast, Nat.mul_one, Nat.add_zero, Nat.zero_add, List.take_length, List.drop_zero] at h1)
    all_goals
      refine Tree.GivesP.ret ?_ ?_
      · simp only [AV.le, mayZ, true_and]; rw [if_pos h1]
      · simp only [AV.leL, AV.le, Mem.le, Mem.leP, Blk.le, Blk.pad, Data.le, Data.size, Cap.le, and_true, true_and, and_self, true_implies, implies_true, imp_self, List.length_nil]
  · (try simp only [decide_eq_true_eq, decide_eq_false_iff_not, Bool.not_eq_true', Bool.not_eq_false', beq_iff_eq, beq_eq_false_iff_ne, Int.not_lt, Int.not_le, ge_iff_le, gt_iff_lt, ne_eq, Bool.false_eq_true, Bool.true_eq_false, not_true_eq_false, not_false_eq_true, Bool.and_eq_true, Bool.not_eq_eq_eq_not, Bool.not_true, Bool.not_false, bne_iff_ne, bne_eq_false_iff_eq, Int.toNat_natCast, Nat.mul_one, Nat.add_zero, Nat.zero_add, List.take_length, List.drop_zero] at h1)
    all_goals
      refine Tree.GivesP.chk (by first | (simp only [and_self]; done) | (simp only [List.take_length, List.drop_zero, Ref.pos, Nat.zero_mul, Nat.mul_zero, Nat.zero_add, Nat.add_zero, Nat.le_refl, true_and, and_true, and_self]; first | done | exact hw | omega)) ?_
      refine Tree.GivesP.br (fun h2 => ?_) (fun h2 => ?_)
      · (try simp only [decide_eq_true_eq, decide_eq_false_iff_not, Bool.not_eq_true', Bool.not_eq_false', beq_iff_eq, beq_eq_false_iff_ne, Int.not_lt, Int.not_le, ge_iff_le, gt_iff_lt, ne_eq, Bool.false_eq_true, Bool.true_eq_false, not_true_eq_false, not_false_eq_true, Bool.and_eq_true, Bool.not_eq_eq_eq_not, Bool.not_true, Bool.not_false, bne_iff_ne, bne_eq_false_iff_eq, Int.toNat_natCast, Nat.mul_one, Nat.add_zero, Nat.zero_add, List.take_length, List.drop_zero] at h2)
        all_goals
          refine Tree.GivesP.ret ?_ ?_
          · (try simp only [List.take_length, List.drop_zero] at h2); simp only [AV.le, mayZ, true_and, h2, if_true]; rw [if_neg (by omega)]
          · simp only [AV.leL, AV.le, Mem.le, Mem.leP, Blk.le, Blk.pad, Data.le, Data.size, Cap.le, and_true, true_and, and_self, true_implies, implies_true, imp_self, List.length_nil]
      · (try simp only [decide_eq_true_eq, decide_eq_false_iff_not, Bool.not_eq_true', Bool.not_eq_false', beq_iff_eq, beq_eq_false_iff_ne, Int.not_lt, Int.not_le, ge_iff_le, gt_iff_lt, ne_eq, Bool.false_eq_true, Bool.true_eq_false, not_true_eq_false, not_false_eq_true, Bool.and_eq_true, Bool.not_eq_eq_eq_not, Bool.not_true, Bool.not_false, bne_iff_ne, bne_eq_false_iff_eq, Int.toNat_natCast, Nat.mul_one, Nat.add_zero, Nat.zero_add, List.take_length, List.drop_zero] at h2)
        all_goals
          refine Tree.GivesP.ret ?_ ?_
          · (try simp only [List.take_length, List.drop_zero] at h2); simp only [AV.le, mayZ, true_and, h2, Bool.false_eq_true, if_false]; rw [if_neg (by omega)]
          · simp only [AV.leL, AV.le, Mem.le, Mem.leP, Blk.le, Blk.pad, Data.le, Data.size, Cap.le, and_true, true_and, and_self, true_implies, implies_true, imp_self, List.length_nil]
theorem smay (hall : AllOk Try.prog 0 (fun _ => none) tab8) (zl : Bool) (l : List Int) (hw : short l ∧ (zl = true → l = [])) : SoundAt (mkC Try.prog 0 (fun _ => none) []) 31 [.sl zl ⟨0, 0, 0, 0⟩ false l.length .any] [some ⟨3, false, false, true, .ints .i64 l⟩] (.int .i64 false (mayZ l), [some ⟨3, false, false, true, .ints .i64 l⟩]) := sound_ofP hall mix (tmay zl l) (gmay zl l hw)
theorem Fmay_ok (hall : AllOk Try.prog 0 (fun _ => none) tab8) : PureF Try.prog 3 31 Fmay := by
  intro xs c v news h hc
  unfold Fmay at h
  split at h
  · rename_i zl l
    cases h
    refine ⟨(by intro b hb; cases hb), SoundAt.flags (smay hall zl l hc) ?_⟩
    simp [PA.avs, AV.le, AV.leL, Cap.le]
  · cases h
end Go.Proofs.Ytnkjblmlchbfkaa.Rig

/- Qints -/
namespace Go.Proofs.Ytnkjblmlchbfkaa.Rig
open Go
set_option maxRecDepth 100000 in
theorem tints (zl : Bool) (l : List Int) : evBody (mkC Try.prog 0 (fun _ => none) tab9) (evCall (mkC Try.prog 0 (fun _ => none) tab9) 50) 10 [.sl zl ⟨0, 0, 0, 0⟩ false l.length .any] [some ⟨3, false, false, true, .ints .i64 l⟩] =
  Tree.br (decide (((0 + List.length l) : Int) ≤ most48 ∧ (((0 + List.length l) * 8) : Int) ≤ most48))
  (Tree.br
  (decide
  (0 * 1 = Data.size (Data.cells (zerosOf (List.map ofCell [Value.int IntKind.i64 (0 : Int)]) 0)) ∧
  Data.size (Data.ints IntKind.i64 (List.take (List.length l * 1) (List.drop 0 l))) = List.length l * 1) &&
  false == false)
  (Tree.ret
  (AV.sl false (Ref.mk (1) (0) (0) (0)) false (0 + List.length l) Cap.own,
  [some (Blk.mk (3) false false true (Data.ints IntKind.i64 l)), some (Blk.mk (3) true false true (Data.ints IntKind.i64 ([] ++ List.take (List.length l * 1) (List.drop 0 l))))]))
  Tree.fail)
  Tree.fail := by kernel_rfl
set_option maxRecDepth 100000 in
theorem gints (zl : Bool) (l : List Int) (hw : l.length ≤ 1000000 ∧ (zl = true → l = [])) : (Tree.br (decide (((0 + List.length l) : Int) ≤ most48 ∧ (((0 + List.length l) * 8) : Int) ≤ most48))
  (Tree.br
  (decide
  (0 * 1 = Data.size (Data.cells (zerosOf (List.map ofCell [Value.int IntKind.i64 (0 : Int)]) 0)) ∧
  Data.size (Data.ints IntKind.i64 (List.take (List.length l * 1) (List.drop 0 l))) = List.length l * 1) &&
  false == false)
  (Tree.ret
  (AV.sl false (Ref.mk (1) (0) (0) (0)) false (0 + List.length l) Cap.own,
  [some (Blk.mk (3) false false true (Data.ints IntKind.i64 l)), some (Blk.mk (3) true false true (Data.ints IntKind.i64 ([] ++ List.take (List.length l * 1) (List.drop 0 l))))]))
  Tree.fail)
  Tree.fail : Tree (AV × Mem)).GivesP (.sl false ⟨1, 0, 0, 0⟩ false l.length .own) ([some ⟨3, false, false, true, .ints .i64 l⟩, some (⟨3, true, false, true, .ints .i64 l⟩)]) := by
  refine Tree.GivesP.br (fun h1 => ?_) (fun h1 => ?_)
  · (try simp only [decide_eq_true_eq, decide_eq_false_iff_not, Bool.not_eq_true', Bool.not_eq_false', beq_iff_eq, beq_eq_false_iff_ne, Int.not_lt, Int.not_le, ge_iff_le, gt_iff_lt, ne_eq, Bool.false_eq_true, Bool.true_eq_false, not_true_eq_false, not_false_eq_true, Bool.and_eq_true, Bool.not_eq_eq_eq_not, Bool.not_true, Bool.not_false, bne_iff_ne, bne_eq_false_iff_eq, Int.toNat_natCast, Nat.mul_one, Nat.add_zero, Nat.zero_add, List.take_length, List.drop_zero, most48, Data.size] at h1)
    all_goals
      refine Tree.GivesP.br (fun h2 => ?_) (fun h2 => ?_)
      · (try simp only [decide_eq_true_eq, decide_eq_false_iff_not, Bool.not_eq_true', Bool.not_eq_false', beq_iff_eq, beq_eq_false_iff_ne, Int.not_lt, Int.not_le, ge_iff_le, gt_iff_lt, ne_eq, Bool.false_eq_true, Bool.true_eq_false, not_true_eq_false, not_false_eq_true, Bool.and_eq_true, Bool.not_eq_eq_eq_not, Bool.not_true, Bool.not_false, bne_iff_ne, bne_eq_false_iff_eq, Int.toNat_natCast, Nat.mul_one, Nat.add_zero, Nat.zero_add, List.take_length, List.drop_zero, most48, Data.size] at h2)
        all_goals
          refine Tree.GivesP.ret ?_ ?_
          · simp only [AV.le, Cap.le, Nat.zero_add, and_true, true_and, and_self, imp_self, implies_true]
          · simp only [AV.leL, AV.le, Mem.le, Mem.leP, Blk.le, Blk.pad, Data.le, Data.size, Cap.le, and_true, true_and, and_self, true_implies, implies_true, imp_self, List.length_nil]; simp
      · (try simp only [decide_eq_true_eq, decide_eq_false_iff_not, Bool.not_eq_true', Bool.not_eq_false', beq_iff_eq, beq_eq_false_iff_ne, Int.not_lt, Int.not_le, ge_iff_le, gt_iff_lt, ne_eq, Bool.false_eq_true, Bool.true_eq_false, not_true_eq_false, not_false_eq_true, Bool.and_eq_true, Bool.not_eq_eq_eq_not, Bool.not_true, Bool.not_false, bne_iff_ne, bne_eq_false_iff_eq, Int.toNat_natCast, Nat.mul_one, Nat.add_zero, Nat.zero_add, List.take_length, List.drop_zero, most48, Data.size] at h2)
        all_goals
          exfalso
          first | omega | (simp [zerosOf] at *; done) | (simp [zerosOf] at *; omega)
  · (try simp only [decide_eq_true_eq, decide_eq_false_iff_not, Bool.not_eq_true', Bool.not_eq_false', beq_iff_eq, beq_eq_false_iff_ne, Int.not_lt, Int.not_le, ge_iff_le, gt_iff_lt, ne_eq, Bool.false_eq_true, Bool.true_eq_false, not_true_eq_false, not_false_eq_true, Bool.and_eq_true, Bool.not_eq_eq_eq_not, Bool.not_true, Bool.not_false, bne_iff_ne, bne_eq_false_iff_eq, Int.toNat_natCast, Nat.mul_one, Nat.add_zero, Nat.zero_add, List.take_length, List.drop_zero, most48, Data.size] at h1)
    all_goals
      exfalso
      first | omega | (simp [zerosOf] at *; done) | (simp [zerosOf] at *; omega)
theorem sints (hall : AllOk Try.prog 0 (fun _ => none) tab9) (zl : Bool) (l : List Int) (hw : l.length ≤ 1000000 ∧ (zl = true → l = [])) : SoundAt (mkC Try.prog 0 (fun _ => none) []) 10 [.sl zl ⟨0, 0, 0, 0⟩ false l.length .any] [some ⟨3, false, false, true, .ints .i64 l⟩] (.sl false ⟨1, 0, 0, 0⟩ false l.length .own, [some ⟨3, false, false, true, .ints .i64 l⟩, some (⟨3, true, false, true, .ints .i64 l⟩)]) := sound_ofP hall mix (tints zl l) (gints zl l hw)
theorem Fints_ok (hall : AllOk Try.prog 0 (fun _ => none) tab9) : PureF Try.prog 3 10 Fints := by
  intro xs c v news h hc
  unfold Fints at h
  split at h
  · rename_i zl l
    cases h
    refine ⟨(by simp), SoundAt.flags (sints hall zl l hc) ?_⟩
    simp [PA.avs, AV.le, AV.leL, Cap.le]
  · cases h
end Go.Proofs.Ytnkjblmlchbfkaa.Rig

/- Qsame -/
namespace Go.Proofs.Ytnkjblmlchbfkaa.Rig
open Go
set_option maxRecDepth 100000 in
theorem tLsame_0 (za : Bool) (a : List Int) (zb : Bool) (b : List Int) (i : Nat) : tidied Tsame_0 Usame_0 2 (evCode (mkL Try.prog 0 (fun _ => none) tab10 rowssame) (evCall (mkC Try.prog 0 (fun _ => none) tab10) 50) 13 2 fuelC (bodyAt Try.prog 13 0) (hdsame_0 ⟨za, a, zb, b, i⟩)) =
  Tree.br (decide ((i : Int) < ((List.length a) : Int)))
  (Tree.br (!za && decide ((0 : Int) ≤ (i : Int) ∧ (i : Int) < ((List.length a) : Int)))
  (Tree.br (decide (Int.toNat (i : Int) * 1 + 0 + 1 ≤ List.length a))
  (Tree.br (!zb && decide ((0 : Int) ≤ (i : Int) ∧ (i : Int) < ((List.length b) : Int)))
  (Tree.br (decide (Int.toNat (i : Int) * 1 + 0 + 1 ≤ List.length b))
  (Tree.br (List.getD a (Int.toNat (i : Int) * 1 + 0 + 0) (0 : Int) != List.getD b (Int.toNat (i : Int) * 1 + 0 + 0) (0 : Int))
  (Tree.ret
  (Ex.ret,
  St.mk
  [jk, jk, jk, jk, AV.bool true false, jk, jk, jk, jk, jk, jk, jk, jk, jk, jk, jk, jk, jk, jk, jk, jk, jk, jk,
  jk, jk, jk]
  [some (Blk.mk (3) false false true (Data.ints IntKind.i64 a)), some (Blk.mk (3) false false true (Data.ints IntKind.i64 b))]))
  (Tree.ret
  (Ex.norm,
  St.mk
  [AV.sl za (Ref.mk (0) (0) (0) (0)) false (List.length a) Cap.any, AV.sl zb (Ref.mk (1) (0) (0) (0)) false (List.length b) Cap.any, jk,
  jk, jk, AV.int IntKind.i64 false (IntKind.wrap IntKind.i64 ((i : Int) + (1 : Int))), jk, jk, jk, jk, jk, jk, jk, jk, jk, jk, jk, jk, jk, jk,
  jk, jk, jk, jk, jk, jk]
  [some (Blk.mk (3) false false true (Data.ints IntKind.i64 a)), some (Blk.mk (3) false false true (Data.ints IntKind.i64 b))])))
  Tree.fail)
  Tree.fail)
  Tree.fail)
  Tree.fail)
  (Tree.ret
  (Ex.exit (0),
  St.mk
  [jk, jk, jk, jk, jk, jk, jk, jk, jk, jk, jk, jk, jk, jk, jk, jk, jk, jk, jk, jk, jk, jk, jk, jk, jk,
  jk]
  [some (Blk.mk (3) false false true (Data.ints IntKind.i64 a)), some (Blk.mk (3) false false true (Data.ints IntKind.i64 b))])) := by kernel_rfl
set_option maxRecDepth 100000 in
theorem stepsame_0 (za : Bool) (a : List Int) (zb : Bool) (b : List Int) (i : Nat) (ex : Ex) (r : St) (hok : oksame_0 ⟨za, a, zb, b, i⟩) (hr : (outsame_0 ⟨za, a, zb, b, i⟩).runs (ex, r)) : (Tree.br (decide ((i : Int) < ((List.length a) : Int)))
  (Tree.br (!za && decide ((0 : Int) ≤ (i : Int) ∧ (i : Int) < ((List.length a) : Int)))
  (Tree.br (decide (Int.toNat (i : Int) * 1 + 0 + 1 ≤ List.length a))
  (Tree.br (!zb && decide ((0 : Int) ≤ (i : Int) ∧ (i : Int) < ((List.length b) : Int)))
  (Tree.br (decide (Int.toNat (i : Int) * 1 + 0 + 1 ≤ List.length b))
  (Tree.br (List.getD a (Int.toNat (i : Int) * 1 + 0 + 0) (0 : Int) != List.getD b (Int.toNat (i : Int) * 1 + 0 + 0) (0 : Int))
  (Tree.ret
  (Ex.ret,
  St.mk
  [jk, jk, jk, jk, AV.bool true false, jk, jk, jk, jk, jk, jk, jk, jk, jk, jk, jk, jk, jk, jk, jk, jk, jk, jk,
  jk, jk, jk]
  [some (Blk.mk (3) false false true (Data.ints IntKind.i64 a)), some (Blk.mk (3) false false true (Data.ints IntKind.i64 b))]))
  (Tree.ret
  (Ex.norm,
  St.mk
  [AV.sl za (Ref.mk (0) (0) (0) (0)) false (List.length a) Cap.any, AV.sl zb (Ref.mk (1) (0) (0) (0)) false (List.length b) Cap.any, jk,
  jk, jk, AV.int IntKind.i64 false (IntKind.wrap IntKind.i64 ((i : Int) + (1 : Int))), jk, jk, jk, jk, jk, jk, jk, jk, jk, jk, jk, jk, jk, jk,
  jk, jk, jk, jk, jk, jk]
  [some (Blk.mk (3) false false true (Data.ints IntKind.i64 a)), some (Blk.mk (3) false false true (Data.ints IntKind.i64 b))])))
  Tree.fail)
  Tree.fail)
  Tree.fail)
  Tree.fail)
  (Tree.ret
  (Ex.exit (0),
  St.mk
  [jk, jk, jk, jk, jk, jk, jk, jk, jk, jk, jk, jk, jk, jk, jk, jk, jk, jk, jk, jk, jk, jk, jk, jk, jk,
  jk]
  [some (Blk.mk (3) false false true (Data.ints IntKind.i64 a)), some (Blk.mk (3) false false true (Data.ints IntKind.i64 b))])) : Tree (Ex × St)).Sat (Post hdsame_0 ressame_0 musame_0 ⟨za, a, zb, b, i⟩ ex r) := by
  simp only [oksame_0, outsame_0, Tree.runs] at hok hr
  obtain ⟨hs, hl, hi, hza, hzb, ht⟩ := hok
  simp only [short] at hs
  refine Tree.Sat.br (fun h1 => ?_) (fun h1 => ?_)
  · (try simp only [decide_eq_true_eq, decide_eq_false_iff_not, Bool.not_eq_true', Bool.not_eq_false', beq_iff_eq, beq_eq_false_iff_ne, Int.not_lt, Int.not_le, ge_iff_le, gt_iff_lt, ne_eq, Bool.false_eq_true, Bool.true_eq_false, not_true_eq_false, not_false_eq_true, Bool.and_eq_true, Bool.not_eq_eq_eq_not, Bool.not_true, Bool.not_false, bne_iff_ne, bne_eq_false_iff_eq, Int.toNat_natCast, Nat.mul_one, Nat.add_zero, Nat.zero_add, List.take_length, List.drop_zero] at h1)
    all_goals
      refine Tree.Sat.br (fun h2 => ?_) (fun h2 => ?_)
      · (try simp only [decide_eq_true_eq, decide_eq_false_iff_not, Bool.not_eq_true', Bool.not_eq_false', beq_iff_eq, beq_eq_false_iff_ne, Int.not_lt, Int.not_le, ge_iff_le, gt_iff_lt, ne_eq, Bool.false_eq_true, Bool.true_eq_false, not_true_eq_false, not_false_eq_true, Bool.and_eq_true, Bool.not_eq_eq_eq_not, Bool.not_true, Bool.not_false, bne_iff_ne, bne_eq_false_iff_eq, Int.toNat_natCast, Nat.mul_one, Nat.add_zero, Nat.zero_add, List.take_length, List.drop_zero] at h2)
        all_goals
          refine Tree.Sat.br (fun h3 => ?_) (fun h3 => ?_)
          · (try simp only [decide_eq_true_eq, decide_eq_false_iff_not, Bool.not_eq_true', Bool.not_eq_false', beq_iff_eq, beq_eq_false_iff_ne, Int.not_lt, Int.not_le, ge_iff_le, gt_iff_lt, ne_eq, Bool.false_eq_true, Bool.true_eq_false, not_true_eq_false, not_false_eq_true, Bool.and_eq_true, Bool.not_eq_eq_eq_not, Bool.not_true, Bool.not_false, bne_iff_ne, bne_eq_false_iff_eq, Int.toNat_natCast, Nat.mul_one, Nat.add_zero, Nat.zero_add, List.take_length, List.drop_zero] at h3)
            all_goals
              refine Tree.Sat.br (fun h4 => ?_) (fun h4 => ?_)
              · (try simp only [decide_eq_true_eq, decide_eq_false_iff_not, Bool.not_eq_true', Bool.not_eq_false', beq_iff_eq, beq_eq_false_iff_ne, Int.not_lt, Int.not_le, ge_iff_le, gt_iff_lt, ne_eq, Bool.false_eq_true, Bool.true_eq_false, not_true_eq_false, not_false_eq_true, Bool.and_eq_true, Bool.not_eq_eq_eq_not, Bool.not_true, Bool.not_false, bne_iff_ne, bne_eq_false_iff_eq, Int.toNat_natCast, Nat.mul_one, Nat.add_zero, Nat.zero_add, List.take_length, List.drop_zero] at h4)
                all_goals
                  refine Tree.Sat.br (fun h5 => ?_) (fun h5 => ?_)
                  · (try simp only [decide_eq_true_eq, decide_eq_false_iff_not, Bool.not_eq_true', Bool.not_eq_false', beq_iff_eq, beq_eq_false_iff_ne, Int.not_lt, Int.not_le, ge_iff_le, gt_iff_lt, ne_eq, Bool.false_eq_true, Bool.true_eq_false, not_true_eq_false, not_false_eq_true, Bool.and_eq_true, Bool.not_eq_eq_eq_not, Bool.not_true, Bool.not_false, bne_iff_ne, bne_eq_false_iff_eq, Int.toNat_natCast, Nat.mul_one, Nat.add_zero, Nat.zero_add, List.take_length, List.drop_zero] at h5)
                    all_goals
                      refine Tree.Sat.br (fun h6 => ?_) (fun h6 => ?_)
                      · (try simp only [decide_eq_true_eq, decide_eq_false_iff_not, Bool.not_eq_true', Bool.not_eq_false', beq_iff_eq, beq_eq_false_iff_ne, Int.not_lt, Int.not_le, ge_iff_le, gt_iff_lt, ne_eq, Bool.false_eq_true, Bool.true_eq_false, not_true_eq_false, not_false_eq_true, Bool.and_eq_true, Bool.not_eq_eq_eq_not, Bool.not_true, Bool.not_false, bne_iff_ne, bne_eq_false_iff_eq, Int.toNat_natCast, Nat.mul_one, Nat.add_zero, Nat.zero_add, List.take_length, List.drop_zero] at h6)
                        all_goals
                          refine Tree.Sat.ret ?_
                          have hq := hr.2 (by rw [decide_eq_false_iff_not]; intro e; subst e; exact h6 rfl)
                          simp only [Prod.mk.injEq] at hq
                          obtain ⟨rfl, rfl⟩ := hq
                          refine .ret rfl ?_
                          constructor <;> simp only [AV.leL, AV.le, Mem.le, Mem.leP, Blk.le, Blk.pad, Data.le, Data.size, Cap.le, and_true, true_and, and_self, true_implies, implies_true, imp_self, List.length_nil] <;> (repeat' with_reducible refine And.intro ?_ ?_) <;> (try simp only [Int.toNat_natCast, Nat.mul_one, Nat.add_zero, Nat.zero_add]) <;> done
                      · (try simp only [decide_eq_true_eq, decide_eq_false_iff_not, Bool.not_eq_true', Bool.not_eq_false', beq_iff_eq, beq_eq_false_iff_ne, Int.not_lt, Int.not_le, ge_iff_le, gt_iff_lt, ne_eq, Bool.false_eq_true, Bool.true_eq_false, not_true_eq_false, not_false_eq_true, Bool.and_eq_true, Bool.not_eq_eq_eq_not, Bool.not_true, Bool.not_false, bne_iff_ne, bne_eq_false_iff_eq, Int.toNat_natCast, Nat.mul_one, Nat.add_zero, Nat.zero_add, List.take_length, List.drop_zero] at h6)
                        all_goals
                          refine Tree.Sat.ret ?_
                          refine .norm ⟨za, a, zb, b, i + 1⟩ ?_ ?_ ⟨?_, ?_⟩
                          · constructor <;> simp only [hdsame_0, AV.leL, AV.le, Mem.le, Mem.leP, Blk.le, Blk.pad, Data.le, Data.size, Cap.le, and_true, true_and, and_self, true_implies, implies_true, imp_self, List.length_nil] <;> (repeat' with_reducible refine And.intro ?_ ?_) <;> (try simp only [Int.toNat_natCast, Nat.mul_one, Nat.add_zero, Nat.zero_add]) <;> first | exact wadd1 (by omega) | omega
                          · simp only [musame_0]; omega
                          · refine ⟨hs, hl, by omega, hza, hzb, ?_⟩
                            rw [take_succ_getD (by omega), take_succ_getD (by omega), ht, h6]
                          · exact hr
                  · (try simp only [decide_eq_true_eq, decide_eq_false_iff_not, Bool.not_eq_true', Bool.not_eq_false', beq_iff_eq, beq_eq_false_iff_ne, Int.not_lt, Int.not_le, ge_iff_le, gt_iff_lt, ne_eq, Bool.false_eq_true, Bool.true_eq_false, not_true_eq_false, not_false_eq_true, Bool.and_eq_true, Bool.not_eq_eq_eq_not, Bool.not_true, Bool.not_false, bne_iff_ne, bne_eq_false_iff_eq, Int.toNat_natCast, Nat.mul_one, Nat.add_zero, Nat.zero_add, List.take_length, List.drop_zero] at h5)
                    all_goals
                      exfalso
                      clear ht hr
                      first | omega | (simp only [w64] at *; omega) | (cases za <;> cases zb <;> simp_all; done) | (cases za <;> cases zb <;> simp_all <;> omega)
              · (try simp only [decide_eq_true_eq, decide_eq_false_iff_not, Bool.not_eq_true', Bool.not_eq_false', beq_iff_eq, beq_eq_false_iff_ne, Int.not_lt, Int.not_le, ge_iff_le, gt_iff_lt, ne_eq, Bool.false_eq_true, Bool.true_eq_false, not_true_eq_false, not_false_eq_true, Bool.and_eq_true, Bool.not_eq_eq_eq_not, Bool.not_true, Bool.not_false, bne_iff_ne, bne_eq_false_iff_eq, Int.toNat_natCast, Nat.mul_one, Nat.add_zero, Nat.zero_add, List.take_length, List.drop_zero] at h4)
                all_goals
                  exfalso
                  clear ht hr
                  first | omega | (simp only [w64] at *; omega) | (cases za <;> cases zb <;> simp_all; done) | (cases za <;> cases zb <;> simp_all <;> omega)
          · (try simp only [decide_eq_true_eq, decide_eq_false_iff_not, Bool.not_eq_true', Bool.not_eq_false', beq_iff_eq, beq_eq_false_iff_ne, Int.not_lt, Int.not_le, ge_iff_le, gt_iff_lt, ne_eq, Bool.false_eq_true, Bool.true_eq_false, not_true_eq_false, not_false_eq_true, Bool.and_eq_true, Bool.not_eq_eq_eq_not, Bool.not_true, Bool.not_false, bne_iff_ne, bne_eq_false_iff_eq, Int.toNat_natCast, Nat.mul_one, Nat.add_zero, Nat.zero_add, List.take_length, List.drop_zero] at h3)
            all_goals
              exfalso
              clear ht hr
              first | omega | (simp only [w64] at *; omega) | (cases za <;> cases zb <;> simp_all; done) | (cases za <;> cases zb <;> simp_all <;> omega)
      · (try simp only [decide_eq_true_eq, decide_eq_false_iff_not, Bool.not_eq_true', Bool.not_eq_false', beq_iff_eq, beq_eq_false_iff_ne, Int.not_lt, Int.not_le, ge_iff_le, gt_iff_lt, ne_eq, Bool.false_eq_true, Bool.true_eq_false, not_true_eq_false, not_false_eq_true, Bool.and_eq_true, Bool.not_eq_eq_eq_not, Bool.not_true, Bool.not_false, bne_iff_ne, bne_eq_false_iff_eq, Int.toNat_natCast, Nat.mul_one, Nat.add_zero, Nat.zero_add, List.take_length, List.drop_zero] at h2)
        all_goals
          exfalso
          clear ht hr
          first | omega | (simp only [w64] at *; omega) | (cases za <;> cases zb <;> simp_all; done) | (cases za <;> cases zb <;> simp_all <;> omega)
  · (try simp only [decide_eq_true_eq, decide_eq_false_iff_not, Bool.not_eq_true', Bool.not_eq_false', beq_iff_eq, beq_eq_false_iff_ne, Int.not_lt, Int.not_le, ge_iff_le, gt_iff_lt, ne_eq, Bool.false_eq_true, Bool.true_eq_false, not_true_eq_false, not_false_eq_true, Bool.and_eq_true, Bool.not_eq_eq_eq_not, Bool.not_true, Bool.not_false, bne_iff_ne, bne_eq_false_iff_eq, Int.toNat_natCast, Nat.mul_one, Nat.add_zero, Nat.zero_add, List.take_length, List.drop_zero] at h1)
    all_goals
      refine Tree.Sat.ret ?_
      have hq := hr.1 (by rw [decide_eq_true_eq]; rw [List.take_of_length_le (by omega), List.take_of_length_le (by omega)] at ht; exact ht)
      simp only [Prod.mk.injEq] at hq
      obtain ⟨rfl, rfl⟩ := hq
      refine .exit rfl ?_
      constructor <;> simp only [AV.leL, AV.le, Mem.le, Mem.leP, Blk.le, Blk.pad, Data.le, Data.size, Cap.le, and_true, true_and, and_self, true_implies, implies_true, imp_self, List.length_nil] <;> (repeat' with_reducible refine And.intro ?_ ?_) <;> (try simp only [Int.toNat_natCast, Nat.mul_one, Nat.add_zero, Nat.zero_add]) <;> done
set_option maxHeartbeats 2000000 in
set_option maxRecDepth 100000 in
theorem loopsame_0 (hall : AllOk Try.prog 0 (fun _ => none) tab10) : LoopOk (mkL Try.prog 0 (fun _ => none) tab10 rowssame) 13 2 (bodyAt Try.prog 13 0) := by
  have hkey : Code.key (bodyAt Try.prog 13 0) = 4 := by kernel_rfl
  have hin : loopsIn (bodyAt Try.prog 13 0) = [] := by kernel_rfl
  have hrow : lookL rowssame 13 (Code.key (bodyAt Try.prog 13 0)) = some rowsame_0 := by rw [hkey]; rfl
  refine loop_rowP (X := Xsame_0) (row := rowsame_0) hall mix hrow (fun b hb _ => by rw [hin] at hb; cases hb) Usame_0 hdsame_0 ressame_0 musame_0 (fun st ex r h => ?_) (fun x ex r hr => ?_)
  · have h' : (anssame_0 st).runs (ex, r) := h
    unfold anssame_0 at h'
    split at h'
    · obtain ⟨q1, q2⟩ := Tree.chk_runs h'
      exact ⟨_, q1, q2⟩
    · exact h'.elim
  · obtain ⟨za, a, zb, b, i⟩ := x
    have := stepsame_0 za a zb b i ex r hr.1 hr.2
    rw [← tLsame_0] at this
    (try rw [show rowsame_0.tidy = Tsame_0 from rfl])
    exact this
theorem loopssame (hall : AllOk Try.prog 0 (fun _ => none) tab10) : ∀ i, i < (loopsAt Try.prog 13).length → LoopOk (mkL Try.prog 0 (fun _ => none) tab10 rowssame) 13 2 (bodyAt Try.prog 13 i) := by
  intro i hi
  have hlen : (loopsAt Try.prog 13).length = 1 := by kernel_rfl
  rw [hlen] at hi
  obtain rfl : i = 0 := by omega
  · exact loopsame_0 hall
set_option maxRecDepth 100000 in
theorem tsame (za : Bool) (a : List Int) (zb : Bool) (b : List Int) : evBody (mkL Try.prog 0 (fun _ => none) tab10 rowssame) (evCall (mkC Try.prog 0 (fun _ => none) tab10) 50) 13 [.sl za ⟨0, 0, 0, 0⟩ false a.length .any, .sl zb ⟨1, 0, 0, 0⟩ false b.length .any] [some ⟨3, false, false, true, .ints .i64 a⟩, some ⟨3, false, false, true, .ints .i64 b⟩] =
  Tree.br (((List.length a) : Int) != ((List.length b) : Int)) (Tree.ret (AV.bool true false, [some (Blk.mk (3) false false true (Data.ints IntKind.i64 a)), some (Blk.mk (3) false false true (Data.ints IntKind.i64 b))]))
  (Tree.chk
  (St.le
  (St.mk
  [AV.sl za (Ref.mk (0) (0) (0) (0)) false (List.length a) Cap.any, AV.sl zb (Ref.mk (1) (0) (0) (0)) false (List.length b) Cap.any, jk, jk,
  jk, AV.int IntKind.i64 true (0 : Int), jk, jk, jk, jk, jk, jk, jk, jk, jk, jk, jk, jk, jk, jk, jk, jk, jk, jk, jk, jk]
  [some (Blk.mk (3) false false true (Data.ints IntKind.i64 a)), some (Blk.mk (3) false false true (Data.ints IntKind.i64 b))])
  (St.mk
  [AV.sl za (Ref.mk (0) (0) (0) (0)) false (List.length a) Cap.any, AV.sl zb (Ref.mk (1) (0) (0) (0)) false (List.length b) Cap.any, jk, jk,
  jk, AV.int IntKind.i64 false (0 : Int), jk, jk, jk, jk, jk, jk, jk, jk, jk, jk, jk, jk, jk, jk, jk, jk, jk, jk, jk, jk]
  [some (Blk.mk (3) false false true (Data.ints IntKind.i64 a)), some (Blk.mk (3) false false true (Data.ints IntKind.i64 b))]))
  (Tree.chk (oksame_0 (Xsame_0.mk za a zb b (Int.toNat (0 : Int))))
  (Tree.br (decide (a = b)) (Tree.ret (AV.bool true true, [some (Blk.mk (3) false false true (Data.ints IntKind.i64 a)), some (Blk.mk (3) false false true (Data.ints IntKind.i64 b))]))
  (Tree.ret (AV.bool false false, [some (Blk.mk (3) false false true (Data.ints IntKind.i64 a)), some (Blk.mk (3) false false true (Data.ints IntKind.i64 b))]))))) := by kernel_rfl
set_option maxRecDepth 100000 in
theorem gsame (za : Bool) (a : List Int) (zb : Bool) (b : List Int) (hw : short a ∧ (za = true → a = []) ∧ (zb = true → b = [])) : (Tree.br (((List.length a) : Int) != ((List.length b) : Int)) (Tree.ret (AV.bool true false, [some (Blk.mk (3) false false true (Data.ints IntKind.i64 a)), some (Blk.mk (3) false false true (Data.ints IntKind.i64 b))]))
  (Tree.chk
  (St.le
  (St.mk
  [AV.sl za (Ref.mk (0) (0) (0) (0)) false (List.length a) Cap.any, AV.sl zb (Ref.mk (1) (0) (0) (0)) false (List.length b) Cap.any, jk, jk,
  jk, AV.int IntKind.i64 true (0 : Int), jk, jk, jk, jk, jk, jk, jk, jk, jk, jk, jk, jk, jk, jk, jk, jk, jk, jk, jk, jk]
  [some (Blk.mk (3) false false true (Data.ints IntKind.i64 a)), some (Blk.mk (3) false false true (Data.ints IntKind.i64 b))])
  (St.mk
  [AV.sl za (Ref.mk (0) (0) (0) (0)) false (List.length a) Cap.any, AV.sl zb (Ref.mk (1) (0) (0) (0)) false (List.length b) Cap.any, jk, jk,
  jk, AV.int IntKind.i64 false (0 : Int), jk, jk, jk, jk, jk, jk, jk, jk, jk, jk, jk, jk, jk, jk, jk, jk, jk, jk, jk, jk]
  [some (Blk.mk (3) false false true (Data.ints IntKind.i64 a)), some (Blk.mk (3) false false true (Data.ints IntKind.i64 b))]))
  (Tree.chk (oksame_0 (Xsame_0.mk za a zb b (Int.toNat (0 : Int))))
  (Tree.br (decide (a = b)) (Tree.ret (AV.bool true true, [some (Blk.mk (3) false false true (Data.ints IntKind.i64 a)), some (Blk.mk (3) false false true (Data.ints IntKind.i64 b))]))
  (Tree.ret (AV.bool false false, [some (Blk.mk (3) false false true (Data.ints IntKind.i64 a)), some (Blk.mk (3) false false true (Data.ints IntKind.i64 b))]))))) : Tree (AV × Mem)).GivesP (.bool false (decide (a = b))) ([some ⟨3, false, false, true, .ints .i64 a⟩, some ⟨3, false, false, true, .ints .i64 b⟩]) := by
  refine Tree.GivesP.br (fun h1 => ?_) (fun h1 => ?_)
  · (try simp only [decide_eq_true_eq, decide_eq_false_iff_not, Bool.not_eq_true', Bool.not_eq_false', beq_iff_eq, beq_eq_false_iff_ne, Int.not_lt, Int.not_le, ge_iff_le, gt_iff_lt, ne_eq, Bool.false_eq_true, Bool.true_eq_false, not_true_eq_false, not_false_eq_true, Bool.and_eq_true, Bool.not_eq_eq_eq_not, Bool.not_true, Bool.not_false, bne_iff_ne, bne_eq_false_iff_eq, Int.toNat_natCast, Nat.mul_one, Nat.add_zero, Nat.zero_add, List.take_length, List.drop_zero] at h1)
    all_goals
      refine Tree.GivesP.ret ?_ ?_
      · simp only [AV.le]; symm; rw [decide_eq_false_iff_not]; intro e; subst e; exact h1 rfl
      · simp only [AV.leL, AV.le, Mem.le, Mem.leP, Blk.le, Blk.pad, Data.le, Data.size, Cap.le, and_true, true_and, and_self, true_implies, implies_true, imp_self, List.length_nil]
  · (try simp only [decide_eq_true_eq, decide_eq_false_iff_not, Bool.not_eq_true', Bool.not_eq_false', beq_iff_eq, beq_eq_false_iff_ne, Int.not_lt, Int.not_le, ge_iff_le, gt_iff_lt, ne_eq, Bool.false_eq_true, Bool.true_eq_false, not_true_eq_false, not_false_eq_true, Bool.and_eq_true, Bool.not_eq_eq_eq_not, Bool.not_true, Bool.not_false, bne_iff_ne, bne_eq_false_iff_eq, Int.toNat_natCast, Nat.mul_one, Nat.add_zero, Nat.zero_add, List.take_length, List.drop_zero] at h1)
    all_goals
      refine Tree.GivesP.chk (by first | (simp only [and_self]; done) | (constructor <;> simp only [hdsame_0, Int.toNat_zero, Int.cast_ofNat_Int, AV.leL, AV.le, Mem.le, Mem.leP, Blk.le, Blk.pad, Data.le, Data.size, Cap.le, and_true, true_and, and_self, true_implies, implies_true, imp_self, List.length_nil] <;> (try simp only [List.take_zero]) <;> (try rfl))) ?_
      refine Tree.GivesP.chk (by first | (simp only [and_self]; done) | (exact ⟨hw.1, by omega, Nat.zero_le _, hw.2.1, hw.2.2, rfl⟩)) ?_
      refine Tree.GivesP.br (fun h2 => ?_) (fun h2 => ?_)
      · (try simp only [decide_eq_true_eq, decide_eq_false_iff_not, Bool.not_eq_true', Bool.not_eq_false', beq_iff_eq, beq_eq_false_iff_ne, Int.not_lt, Int.not_le, ge_iff_le, gt_iff_lt, ne_eq, Bool.false_eq_true, Bool.true_eq_false, not_true_eq_false, not_false_eq_true, Bool.and_eq_true, Bool.not_eq_eq_eq_not, Bool.not_true, Bool.not_false, bne_iff_ne, bne_eq_false_iff_eq, Int.toNat_natCast, Nat.mul_one, Nat.add_zero, Nat.zero_add, List.take_length, List.drop_zero] at h2)
        all_goals
          refine Tree.GivesP.ret ?_ ?_
          · simp only [AV.le, h2, decide_true]
          · simp only [AV.leL, AV.le, Mem.le, Mem.leP, Blk.le, Blk.pad, Data.le, Data.size, Cap.le, and_true, true_and, and_self, true_implies, implies_true, imp_self, List.length_nil]
      · (try simp only [decide_eq_true_eq, decide_eq_false_iff_not, Bool.not_eq_true', Bool.not_eq_false', beq_iff_eq, beq_eq_false_iff_ne, Int.not_lt, Int.not_le, ge_iff_le, gt_iff_lt, ne_eq, Bool.false_eq_true, Bool.true_eq_false, not_true_eq_false, not_false_eq_true, Bool.and_eq_true, Bool.not_eq_eq_eq_not, Bool.not_true, Bool.not_false, bne_iff_ne, bne_eq_false_iff_eq, Int.toNat_natCast, Nat.mul_one, Nat.add_zero, Nat.zero_add, List.take_length, List.drop_zero] at h2)
        all_goals
          refine Tree.GivesP.ret ?_ ?_
          · simp only [AV.le, h2, decide_false]
          · simp only [AV.leL, AV.le, Mem.le, Mem.leP, Blk.le, Blk.pad, Data.le, Data.size, Cap.le, and_true, true_and, and_self, true_implies, implies_true, imp_self, List.length_nil]
theorem ssame (hall : AllOk Try.prog 0 (fun _ => none) tab10) (za : Bool) (a : List Int) (zb : Bool) (b : List Int) (hw : short a ∧ (za = true → a = []) ∧ (zb = true → b = [])) : SoundAt (mkC Try.prog 0 (fun _ => none) []) 13 [.sl za ⟨0, 0, 0, 0⟩ false a.length .any, .sl zb ⟨1, 0, 0, 0⟩ false b.length .any] [some ⟨3, false, false, true, .ints .i64 a⟩, some ⟨3, false, false, true, .ints .i64 b⟩] (.bool false (decide (a = b)), [some ⟨3, false, false, true, .ints .i64 a⟩, some ⟨3, false, false, true, .ints .i64 b⟩]) := sound_loopsP hall mix (loopssame hall) (tsame za a zb b) (gsame za a zb b hw)
theorem Fsame_ok (hall : AllOk Try.prog 0 (fun _ => none) tab10) : PureF Try.prog 3 13 Fsame := by
  intro xs c v news h hc
  unfold Fsame at h
  split at h
  · rename_i za a zb b
    cases h
    refine ⟨(by intro b hb; cases hb), SoundAt.flags (ssame hall za a zb b hc) ?_⟩
    simp [PA.avs, AV.le, AV.leL, Cap.le]
  · cases h
end Go.Proofs.Ytnkjblmlchbfkaa.Rig

/- Qall26 -/
namespace Go.Proofs.Ytnkjblmlchbfkaa.Rig
open Go
set_option maxRecDepth 100000 in
theorem tLall26_0 (k : Int) (zl : Bool) (l : List Int) (i : Nat) : tidied Tall26_0 Uall26_0 2 (evCode (mkL Try.prog 0 (fun _ => none) tab11 rowsall26) (evCall (mkC Try.prog 0 (fun _ => none) tab11) 50) 25 2 fuelC (bodyAt Try.prog 25 0) (hdall26_0 ⟨k, zl, l, i⟩)) =
  Tree.br (decide ((i : Int) < ((List.length l) : Int)))
  (Tree.br (!zl && decide ((0 : Int) ≤ (i : Int) ∧ (i : Int) < ((List.length l) : Int)))
  (Tree.br (decide (Int.toNat (i : Int) * 1 + 0 + 1 ≤ List.length l))
  (Tree.br (!decide (IntKind.wrap IntKind.i64 (IntKind.wrap IntKind.i64 ((16 : Int) * k) - (1 : Int)) < (0 : Int)))
  (Tree.br
  (Int.fdiv (List.getD l (Int.toNat (i : Int) * 1 + 0 + 0) (0 : Int)) ((2 : Int) ^ min (Int.toNat (IntKind.wrap IntKind.i64 (IntKind.wrap IntKind.i64 ((16 : Int) * k) - (1 : Int)))) (64)) ==
  (0 : Int))
  (Tree.chk ((True ∧ True ∧ True) ∧ (1 : Int) ≤ k ∧ k ≤ (4 : Int))
  (Tree.br
  (decide
  (((List.length (List.flatMap (wordsZ k) (List.take i l)) + List.length (wordsZ k (List.getD l (Int.toNat (i : Int) * 1 + 0 + 0) (0 : Int)))) : Int) ≤ most48 ∧
  (((List.length (List.flatMap (wordsZ k) (List.take i l)) + List.length (wordsZ k (List.getD l (Int.toNat (i : Int) * 1 + 0 + 0) (0 : Int)))) * 8) : Int) ≤ most48))
  (Tree.br
  (decide
  (List.length (List.flatMap (wordsZ k) (List.take i l)) * 1 = Data.size (Data.ints IntKind.i64 (List.flatMap (wordsZ k) (List.take i l))) ∧
  Data.size
  (Data.ints IntKind.i64
  (List.take (List.length (wordsZ k (List.getD l (Int.toNat (i : Int) * 1 + 0 + 0) (0 : Int))) * 1)
  (List.drop (0) (wordsZ k (List.getD l (Int.toNat (i : Int) * 1 + 0 + 0) (0 : Int)))))) =
  List.length (wordsZ k (List.getD l (Int.toNat (i : Int) * 1 + 0 + 0) (0 : Int))) * 1) &&
  decide (List.flatMap (wordsZ k) (List.take i l) = []) == decide ((List.flatMap (wordsZ k) (List.take i l)) = []))
  (Tree.ret
  (Ex.norm,
  St.mk
  [AV.int IntKind.i64 false k, jk, AV.fn (Fn.func (26)) [] [AV.ptr (Ref.mk (1) (0) (0) (0))], jk, jk, jk, jk, jk,
  AV.sl (decide (List.flatMap (wordsZ k) (List.take i l) = []) && decide (List.length (wordsZ k (List.getD l (Int.toNat (i : Int) * 1 + 0 + 0) (0 : Int))) = 0))
  (Ref.mk (2) (0) (0) (0)) false
  (List.length (List.flatMap (wordsZ k) (List.take i l)) + List.length (wordsZ k (List.getD l (Int.toNat (i : Int) * 1 + 0 + 0) (0 : Int)))) Cap.own,
  jk, jk, jk, jk, jk, jk, jk, jk, AV.sl zl (Ref.mk (0) (0) (0) (0)) false (List.length l) Cap.any,
  AV.int IntKind.i64 false ((List.length l) : Int), AV.int IntKind.i64 false (IntKind.wrap IntKind.i64 ((i : Int) + (1 : Int))), jk, jk, jk, jk, jk, jk, jk, jk, jk, jk,
  jk, jk, jk, jk]
  [some (Blk.mk (3) false false true (Data.ints IntKind.i64 l)), some (Blk.mk (3) false false false (Data.cells [AV.int IntKind.i64 false k])),
  some
  (Blk.mk (3) true
  (Bool.rec false (decide (List.length (wordsZ k (List.getD l (Int.toNat (i : Int) * 1 + 0 + 0) (0 : Int))) = 0))
  (decide ((List.flatMap (wordsZ k) (List.take i l)) = [])))
  true
  (Data.ints IntKind.i64
  (List.flatMap (wordsZ k) (List.take i l) ++
  List.take (List.length (wordsZ k (List.getD l (Int.toNat (i : Int) * 1 + 0 + 0) (0 : Int))) * 1)
  (List.drop (0) (wordsZ k (List.getD l (Int.toNat (i : Int) * 1 + 0 + 0) (0 : Int)))))))]))
  Tree.fail)
  Tree.fail))
  (Tree.br
  (!Int.fdiv (List.getD l (Int.toNat (i : Int) * 1 + 0 + 0) (0 : Int)) ((2 : Int) ^ min (Int.toNat (IntKind.wrap IntKind.i64 (IntKind.wrap IntKind.i64 ((16 : Int) * k) - (1 : Int)))) (64)) ==
  (-1 : Int))
  (Tree.ret
  (Ex.ret,
  St.mk
  [jk, jk, jk, jk, jk, jk, AV.sl true (Ref.mk (0) (0) (0) (0)) true (0) Cap.exact, AV.int IntKind.i64 true (2 : Int), jk, jk, jk, jk,
  jk, jk, jk, jk, jk, jk, jk, jk, jk, jk, jk, jk, jk, jk, jk, jk, jk, jk, jk, jk, jk, jk]
  [some (Blk.mk (3) false false true (Data.ints IntKind.i64 l)), some (Blk.mk (3) false false false (Data.cells [AV.int IntKind.i64 false k]))]))
  (Tree.chk ((True ∧ True ∧ True) ∧ (1 : Int) ≤ k ∧ k ≤ (4 : Int))
  (Tree.br
  (decide
  (((List.length (List.flatMap (wordsZ k) (List.take i l)) + List.length (wordsZ k (List.getD l (Int.toNat (i : Int) * 1 + 0 + 0) (0 : Int)))) : Int) ≤ most48 ∧
  (((List.length (List.flatMap (wordsZ k) (List.take i l)) + List.length (wordsZ k (List.getD l (Int.toNat (i : Int) * 1 + 0 + 0) (0 : Int)))) * 8) : Int) ≤ most48))
  (Tree.br
  (decide
  (List.length (List.flatMap (wordsZ k) (List.take i l)) * 1 = Data.size (Data.ints IntKind.i64 (List.flatMap (wordsZ k) (List.take i l))) ∧
  Data.size
  (Data.ints IntKind.i64
  (List.take (List.length (wordsZ k (List.getD l (Int.toNat (i : Int) * 1 + 0 + 0) (0 : Int))) * 1)
  (List.drop (0) (wordsZ k (List.getD l (Int.toNat (i : Int) * 1 + 0 + 0) (0 : Int)))))) =
  List.length (wordsZ k (List.getD l (Int.toNat (i : Int) * 1 + 0 + 0) (0 : Int))) * 1) &&
  decide (List.flatMap (wordsZ k) (List.take i l) = []) == decide ((List.flatMap (wordsZ k) (List.take i l)) = []))
  (Tree.ret
  (Ex.norm,
  St.mk
  [AV.int IntKind.i64 false k, jk, AV.fn (Fn.func (26)) [] [AV.ptr (Ref.mk (1) (0) (0) (0))], jk, jk, jk, jk, jk,
  AV.sl (decide (List.flatMap (wordsZ k) (List.take i l) = []) && decide (List.length (wordsZ k (List.getD l (Int.toNat (i : Int) * 1 + 0 + 0) (0 : Int))) = 0))
  (Ref.mk (2) (0) (0) (0)) false
  (List.length (List.flatMap (wordsZ k) (List.take i l)) + List.length (wordsZ k (List.getD l (Int.toNat (i : Int) * 1 + 0 + 0) (0 : Int)))) Cap.own,
  jk, jk, jk, jk, jk, jk, jk, jk, AV.sl zl (Ref.mk (0) (0) (0) (0)) false (List.length l) Cap.any,
  AV.int IntKind.i64 false ((List.length l) : Int), AV.int IntKind.i64 false (IntKind.wrap IntKind.i64 ((i : Int) + (1 : Int))), jk, jk, jk, jk, jk, jk, jk, jk, jk, jk,
  jk, jk, jk, jk]
  [some (Blk.mk (3) false false true (Data.ints IntKind.i64 l)), some (Blk.mk (3) false false false (Data.cells [AV.int IntKind.i64 false k])),
  some
  (Blk.mk (3) true
  (Bool.rec false (decide (List.length (wordsZ k (List.getD l (Int.toNat (i : Int) * 1 + 0 + 0) (0 : Int))) = 0))
  (decide ((List.flatMap (wordsZ k) (List.take i l)) = [])))
  true
  (Data.ints IntKind.i64
  (List.flatMap (wordsZ k) (List.take i l) ++
  List.take (List.length (wordsZ k (List.getD l (Int.toNat (i : Int) * 1 + 0 + 0) (0 : Int))) * 1)
  (List.drop (0) (wordsZ k (List.getD l (Int.toNat (i : Int) * 1 + 0 + 0) (0 : Int)))))))]))
  Tree.fail)
  Tree.fail))))
  Tree.fail)
  Tree.fail)
  Tree.fail)
  (Tree.ret
  (Ex.exit (0),
  St.mk
  [jk, jk, jk, jk, jk, jk, jk, jk,
  AV.sl (decide (List.flatMap (wordsZ k) (List.take i l) = [])) (Ref.mk (2) (0) (0) (0)) false (List.length (List.flatMap (wordsZ k) (List.take i l))) Cap.own, jk, jk,
  jk, jk, jk, jk, jk, jk, jk, jk, jk, jk, jk, jk, jk, jk, jk, jk, jk, jk, jk, jk, jk, jk, jk]
  [some (Blk.mk (3) false false true (Data.ints IntKind.i64 l)), some (Blk.mk (3) false false false (Data.cells [AV.int IntKind.i64 false k])),
  some
  (Blk.mk (3) true (decide ((List.flatMap (wordsZ k) (List.take i l)) = [])) true
  (Data.ints IntKind.i64 (List.flatMap (wordsZ k) (List.take i l))))])) := by kernel_rfl
set_option maxRecDepth 100000 in
theorem stepall26_0 (k : Int) (zl : Bool) (l : List Int) (i : Nat) (ex : Ex) (r : St) (hok : okall26_0 ⟨k, zl, l, i⟩) (hr : (outall26_0 ⟨k, zl, l, i⟩).runs (ex, r)) : (Tree.br (decide ((i : Int) < ((List.length l) : Int)))
  (Tree.br (!zl && decide ((0 : Int) ≤ (i : Int) ∧ (i : Int) < ((List.length l) : Int)))
  (Tree.br (decide (Int.toNat (i : Int) * 1 + 0 + 1 ≤ List.length l))
  (Tree.br (!decide (IntKind.wrap IntKind.i64 (IntKind.wrap IntKind.i64 ((16 : Int) * k) - (1 : Int)) < (0 : Int)))
  (Tree.br
  (Int.fdiv (List.getD l (Int.toNat (i : Int) * 1 + 0 + 0) (0 : Int)) ((2 : Int) ^ min (Int.toNat (IntKind.wrap IntKind.i64 (IntKind.wrap IntKind.i64 ((16 : Int) * k) - (1 : Int)))) (64)) ==
  (0 : Int))
  (Tree.chk ((True ∧ True ∧ True) ∧ (1 : Int) ≤ k ∧ k ≤ (4 : Int))
  (Tree.br
  (decide
  (((List.length (List.flatMap (wordsZ k) (List.take i l)) + List.length (wordsZ k (List.getD l (Int.toNat (i : Int) * 1 + 0 + 0) (0 : Int)))) : Int) ≤ most48 ∧
  (((List.length (List.flatMap (wordsZ k) (List.take i l)) + List.length (wordsZ k (List.getD l (Int.toNat (i : Int) * 1 + 0 + 0) (0 : Int)))) * 8) : Int) ≤ most48))
  (Tree.br
  (decide
  (List.length (List.flatMap (wordsZ k) (List.take i l)) * 1 = Data.size (Data.ints IntKind.i64 (List.flatMap (wordsZ k) (List.take i l))) ∧
  Data.size
  (Data.ints IntKind.i64
  (List.take (List.length (wordsZ k (List.getD l (Int.toNat (i : Int) * 1 + 0 + 0) (0 : Int))) * 1)
  (List.drop (0) (wordsZ k (List.getD l (Int.toNat (i : Int) * 1 + 0 + 0) (0 : Int)))))) =
  List.length (wordsZ k (List.getD l (Int.toNat (i : Int) * 1 + 0 + 0) (0 : Int))) * 1) &&
  decide (List.flatMap (wordsZ k) (List.take i l) = []) == decide ((List.flatMap (wordsZ k) (List.take i l)) = []))
  (Tree.ret
  (Ex.norm,
  St.mk
  [AV.int IntKind.i64 false k, jk, AV.fn (Fn.func (26)) [] [AV.ptr (Ref.mk (1) (0) (0) (0))], jk, jk, jk, jk, jk,
  AV.sl (decide (List.flatMap (wordsZ k) (List.take i l) = []) && decide (List.length (wordsZ k (List.getD l (Int.toNat (i : Int) * 1 + 0 + 0) (0 : Int))) = 0))
  (Ref.mk (2) (0) (0) (0)) false
  (List.length (List.flatMap (wordsZ k) (List.take i l)) + List.length (wordsZ k (List.getD l (Int.toNat (i : Int) * 1 + 0 + 0) (0 : Int)))) Cap.own,
  jk, jk, jk, jk, jk, jk, jk, jk, AV.sl zl (Ref.mk (0) (0) (0) (0)) false (List.length l) Cap.any,
  AV.int IntKind.i64 false ((List.length l) : Int), AV.int IntKind.i64 false (IntKind.wrap IntKind.i64 ((i : Int) + (1 : Int))), jk, jk, jk, jk, jk, jk, jk, jk, jk, jk,
  jk, jk, jk, jk]
  [some (Blk.mk (3) false false true (Data.ints IntKind.i64 l)), some (Blk.mk (3) false false false (Data.cells [AV.int IntKind.i64 false k])),
  some
  (Blk.mk (3) true
  (Bool.rec false (decide (List.length (wordsZ k (List.getD l (Int.toNat (i : Int) * 1 + 0 + 0) (0 : Int))) = 0))
  (decide ((List.flatMap (wordsZ k) (List.take i l)) = [])))
  true
  (Data.ints IntKind.i64
  (List.flatMap (wordsZ k) (List.take i l) ++
  List.take (List.length (wordsZ k (List.getD l (Int.toNat (i : Int) * 1 + 0 + 0) (0 : Int))) * 1)
  (List.drop (0) (wordsZ k (List.getD l (Int.toNat (i : Int) * 1 + 0 + 0) (0 : Int)))))))]))
  Tree.fail)
  Tree.fail))
  (Tree.br
  (!Int.fdiv (List.getD l (Int.toNat (i : Int) * 1 + 0 + 0) (0 : Int)) ((2 : Int) ^ min (Int.toNat (IntKind.wrap IntKind.i64 (IntKind.wrap IntKind.i64 ((16 : Int) * k) - (1 : Int)))) (64)) ==
  (-1 : Int))
  (Tree.ret
  (Ex.ret,
  St.mk
  [jk, jk, jk, jk, jk, jk, AV.sl true (Ref.mk (0) (0) (0) (0)) true (0) Cap.exact, AV.int IntKind.i64 true (2 : Int), jk, jk, jk, jk,
  jk, jk, jk, jk, jk, jk, jk, jk, jk, jk, jk, jk, jk, jk, jk, jk, jk, jk, jk, jk, jk, jk]
  [some (Blk.mk (3) false false true (Data.ints IntKind.i64 l)), some (Blk.mk (3) false false false (Data.cells [AV.int IntKind.i64 false k]))]))
  (Tree.chk ((True ∧ True ∧ True) ∧ (1 : Int) ≤ k ∧ k ≤ (4 : Int))
  (Tree.br
  (decide
  (((List.length (List.flatMap (wordsZ k) (List.take i l)) + List.length (wordsZ k (List.getD l (Int.toNat (i : Int) * 1 + 0 + 0) (0 : Int)))) : Int) ≤ most48 ∧
  (((List.length (List.flatMap (wordsZ k) (List.take i l)) + List.length (wordsZ k (List.getD l (Int.toNat (i : Int) * 1 + 0 + 0) (0 : Int)))) * 8) : Int) ≤ most48))
  (Tree.br
  (decide
  (List.length (List.flatMap (wordsZ k) (List.take i l)) * 1 = Data.size (Data.ints IntKind.i64 (List.flatMap (wordsZ k) (List.take i l))) ∧
  Data.size
  (Data.ints IntKind.i64
  (List.take (List.length (wordsZ k (List.getD l (Int.toNat (i : Int) * 1 + 0 + 0) (0 : Int))) * 1)
  (List.drop (0) (wordsZ k (List.getD l (Int.toNat (i : Int) * 1 + 0 + 0) (0 : Int)))))) =
  List.length (wordsZ k (List.getD l (Int.toNat (i : Int) * 1 + 0 + 0) (0 : Int))) * 1) &&
  decide (List.flatMap (wordsZ k) (List.take i l) = []) == decide ((List.flatMap (wordsZ k) (List.take i l)) = []))
  (Tree.ret
  (Ex.norm,
  St.mk
  [AV.int IntKind.i64 false k, jk, AV.fn (Fn.func (26)) [] [AV.ptr (Ref.mk (1) (0) (0) (0))], jk, jk, jk, jk, jk,
  AV.sl (decide (List.flatMap (wordsZ k) (List.take i l) = []) && decide (List.length (wordsZ k (List.getD l (Int.toNat (i : Int) * 1 + 0 + 0) (0 : Int))) = 0))
  (Ref.mk (2) (0) (0) (0)) false
  (List.length (List.flatMap (wordsZ k) (List.take i l)) + List.length (wordsZ k (List.getD l (Int.toNat (i : Int) * 1 + 0 + 0) (0 : Int)))) Cap.own,
  jk, jk, jk, jk, jk, jk, jk, jk, AV.sl zl (Ref.mk (0) (0) (0) (0)) false (List.length l) Cap.any,
  AV.int IntKind.i64 false ((List.length l) : Int), AV.int IntKind.i64 false (IntKind.wrap IntKind.i64 ((i : Int) + (1 : Int))), jk, jk, jk, jk, jk, jk, jk, jk, jk, jk,
  jk, jk, jk, jk]
  [some (Blk.mk (3) false false true (Data.ints IntKind.i64 l)), some (Blk.mk (3) false false false (Data.cells [AV.int IntKind.i64 false k])),
  some
  (Blk.mk (3) true
  (Bool.rec false (decide (List.length (wordsZ k (List.getD l (Int.toNat (i : Int) * 1 + 0 + 0) (0 : Int))) = 0))
  (decide ((List.flatMap (wordsZ k) (List.take i l)) = [])))
  true
  (Data.ints IntKind.i64
  (List.flatMap (wordsZ k) (List.take i l) ++
  List.take (List.length (wordsZ k (List.getD l (Int.toNat (i : Int) * 1 + 0 + 0) (0 : Int))) * 1)
  (List.drop (0) (wordsZ k (List.getD l (Int.toNat (i : Int) * 1 + 0 + 0) (0 : Int)))))))]))
  Tree.fail)
  Tree.fail))))
  Tree.fail)
  Tree.fail)
  Tree.fail)
  (Tree.ret
  (Ex.exit (0),
  St.mk
  [jk, jk, jk, jk, jk, jk, jk, jk,
  AV.sl (decide (List.flatMap (wordsZ k) (List.take i l) = [])) (Ref.mk (2) (0) (0) (0)) false (List.length (List.flatMap (wordsZ k) (List.take i l))) Cap.own, jk, jk,
  jk, jk, jk, jk, jk, jk, jk, jk, jk, jk, jk, jk, jk, jk, jk, jk, jk, jk, jk, jk, jk, jk, jk]
  [some (Blk.mk (3) false false true (Data.ints IntKind.i64 l)), some (Blk.mk (3) false false false (Data.cells [AV.int IntKind.i64 false k])),
  some
  (Blk.mk (3) true (decide ((List.flatMap (wordsZ k) (List.take i l)) = [])) true
  (Data.ints IntKind.i64 (List.flatMap (wordsZ k) (List.take i l))))])) : Tree (Ex × St)).Sat (Post hdall26_0 resall26_0 muall26_0 ⟨k, zl, l, i⟩ ex r) := by
  simp only [okall26_0, outall26_0, Tree.runs] at hok hr
  obtain ⟨h1k, h4k, hl, hw, hi, hz, ha⟩ := hok
  have hO : ((l.take i).flatMap (wordsZ k)).length ≤ 400000 := by
    rw [flat_len]
    exact Nat.le_trans (Nat.mul_le_mul (show (l.take i).length ≤ 100000 by rw [List.length_take]; omega) (show k.toNat ≤ 4 by omega)) (by omega)
  have hW := wordsZ_len k (l.getD i 0)
  refine Tree.Sat.br (fun h1 => ?_) (fun h1 => ?_)
  · (try simp only [decide_eq_true_eq, decide_eq_false_iff_not, Bool.not_eq_true', Bool.not_eq_false', beq_iff_eq, beq_eq_false_iff_ne, Int.not_lt, Int.not_le, ge_iff_le, gt_iff_lt, ne_eq, Bool.false_eq_true, Bool.true_eq_false, not_true_eq_false, not_false_eq_true, Bool.and_eq_true, Bool.not_eq_eq_eq_not, Bool.not_true, Bool.not_false, bne_iff_ne, bne_eq_false_iff_eq, Int.toNat_natCast, Nat.mul_one, Nat.add_zero, Nat.zero_add, List.take_length, List.drop_zero] at h1)
    all_goals
      refine Tree.Sat.br (fun h2 => ?_) (fun h2 => ?_)
      · (try simp only [decide_eq_true_eq, decide_eq_false_iff_not, Bool.not_eq_true', Bool.not_eq_false', beq_iff_eq, beq_eq_false_iff_ne, Int.not_lt, Int.not_le, ge_iff_le, gt_iff_lt, ne_eq, Bool.false_eq_true, Bool.true_eq_false, not_true_eq_false, not_false_eq_true, Bool.and_eq_true, Bool.not_eq_eq_eq_not, Bool.not_true, Bool.not_false, bne_iff_ne, bne_eq_false_iff_eq, Int.toNat_natCast, Nat.mul_one, Nat.add_zero, Nat.zero_add, List.take_length, List.drop_zero] at h2)
        all_goals
          refine Tree.Sat.br (fun h3 => ?_) (fun h3 => ?_)
          · (try simp only [decide_eq_true_eq, decide_eq_false_iff_not, Bool.not_eq_true', Bool.not_eq_false', beq_iff_eq, beq_eq_false_iff_ne, Int.not_lt, Int.not_le, ge_iff_le, gt_iff_lt, ne_eq, Bool.false_eq_true, Bool.true_eq_false, not_true_eq_false, not_false_eq_true, Bool.and_eq_true, Bool.not_eq_eq_eq_not, Bool.not_true, Bool.not_false, bne_iff_ne, bne_eq_false_iff_eq, Int.toNat_natCast, Nat.mul_one, Nat.add_zero, Nat.zero_add, List.take_length, List.drop_zero] at h3)
            all_goals
              refine Tree.Sat.br (fun h4 => ?_) (fun h4 => ?_)
              · (try simp only [decide_eq_true_eq, decide_eq_false_iff_not, Bool.not_eq_true', Bool.not_eq_false', beq_iff_eq, beq_eq_false_iff_ne, Int.not_lt, Int.not_le, ge_iff_le, gt_iff_lt, ne_eq, Bool.false_eq_true, Bool.true_eq_false, not_true_eq_false, not_false_eq_true, Bool.and_eq_true, Bool.not_eq_eq_eq_not, Bool.not_true, Bool.not_false, bne_iff_ne, bne_eq_false_iff_eq, Int.toNat_natCast, Nat.mul_one, Nat.add_zero, Nat.zero_add, List.take_length, List.drop_zero] at h4)
                all_goals
                  refine Tree.Sat.br (fun h5 => ?_) (fun h5 => ?_)
                  · (try simp only [decide_eq_true_eq, decide_eq_false_iff_not, Bool.not_eq_true', Bool.not_eq_false', beq_iff_eq, beq_eq_false_iff_ne, Int.not_lt, Int.not_le, ge_iff_le, gt_iff_lt, ne_eq, Bool.false_eq_true, Bool.true_eq_false, not_true_eq_false, not_false_eq_true, Bool.and_eq_true, Bool.not_eq_eq_eq_not, Bool.not_true, Bool.not_false, bne_iff_ne, bne_eq_false_iff_eq, Int.toNat_natCast, Nat.mul_one, Nat.add_zero, Nat.zero_add, List.take_length, List.drop_zero] at h5)
                    all_goals
                      refine Tree.Sat.chk (by first | (simp only [and_self]; done) | (exact ⟨⟨trivial, trivial, trivial⟩, h1k, h4k⟩)) ?_
                      refine Tree.Sat.br (fun h6 => ?_) (fun h6 => ?_)
                      · (try simp only [decide_eq_true_eq, decide_eq_false_iff_not, Bool.not_eq_true', Bool.not_eq_false', beq_iff_eq, beq_eq_false_iff_ne, Int.not_lt, Int.not_le, ge_iff_le, gt_iff_lt, ne_eq, Bool.false_eq_true, Bool.true_eq_false, not_true_eq_false, not_false_eq_true, Bool.and_eq_true, Bool.not_eq_eq_eq_not, Bool.not_true, Bool.not_false, bne_iff_ne, bne_eq_false_iff_eq, Int.toNat_natCast, Nat.mul_one, Nat.add_zero, Nat.zero_add, List.take_length, List.drop_zero] at h6)
                        all_goals
                          refine Tree.Sat.br (fun h7 => ?_) (fun h7 => ?_)
                          · (try simp only [decide_eq_true_eq, decide_eq_false_iff_not, Bool.not_eq_true', Bool.not_eq_false', beq_iff_eq, beq_eq_false_iff_ne, Int.not_lt, Int.not_le, ge_iff_le, gt_iff_lt, ne_eq, Bool.false_eq_true, Bool.true_eq_false, not_true_eq_false, not_false_eq_true, Bool.and_eq_true, Bool.not_eq_eq_eq_not, Bool.not_true, Bool.not_false, bne_iff_ne, bne_eq_false_iff_eq, Int.toNat_natCast, Nat.mul_one, Nat.add_zero, Nat.zero_add, List.take_length, List.drop_zero] at h7)
                            all_goals
                              refine Tree.Sat.ret ?_
                              refine .norm ⟨k, zl, l, i + 1⟩ ?_ ?_ ⟨?_, ?_⟩
                              · constructor <;> simp only [hdall26_0, AV.leL, AV.le, Mem.le, Mem.leP, Blk.le, Blk.pad, Data.le, Data.size, Cap.le, and_true, true_and, and_self, true_implies, implies_true, imp_self, List.length_nil] <;> (repeat' with_reducible refine And.intro ?_ ?_) <;> (try simp only [Int.toNat_natCast, Nat.mul_one, Nat.add_zero, Nat.zero_add]) <;> first | exact wadd1 (by omega) | exact flat_nil (k := k) (l := l) (i := i) (by omega) | (rw [brec]; exact flat_nil (k := k) (l := l) (i := i) (by omega)) | (simp only [List.take_length, List.drop_zero, Nat.mul_one]; exact flat_step (by omega)) | (rw [← flat_step (by omega), List.length_append])
                              · simp only [muall26_0]; omega
                              · refine ⟨h1k, h4k, hl, hw, by omega, hz, all_take_succ (by omega) ha ?_⟩
                                rw [signed_fits h1k h4k (wfL_get hw (by omega))]
                                simp_all
                              · exact hr
                          · (try simp only [decide_eq_true_eq, decide_eq_false_iff_not, Bool.not_eq_true', Bool.not_eq_false', beq_iff_eq, beq_eq_false_iff_ne, Int.not_lt, Int.not_le, ge_iff_le, gt_iff_lt, ne_eq, Bool.false_eq_true, Bool.true_eq_false, not_true_eq_false, not_false_eq_true, Bool.and_eq_true, Bool.not_eq_eq_eq_not, Bool.not_true, Bool.not_false, bne_iff_ne, bne_eq_false_iff_eq, Int.toNat_natCast, Nat.mul_one, Nat.add_zero, Nat.zero_add, List.take_length, List.drop_zero] at h7)
                            all_goals
                              exfalso
                              first | omega | (simp only [most48, Data.size, List.length_take, List.drop_zero, Bool.and_eq_true, decide_eq_true_eq, decide_eq_false_iff_not, Bool.and_eq_false_iff, Int.toNat_natCast] at *; omega) | (simp only [w64] at *; omega) | (simp only [most48] at *; omega) | (simp [Data.size, List.take_length] at *; done) | (cases zl <;> simp_all; done) | (cases zl <;> simp_all <;> omega)
                      · (try simp only [decide_eq_true_eq, decide_eq_false_iff_not, Bool.not_eq_true', Bool.not_eq_false', beq_iff_eq, beq_eq_false_iff_ne, Int.not_lt, Int.not_le, ge_iff_le, gt_iff_lt, ne_eq, Bool.false_eq_true, Bool.true_eq_false, not_true_eq_false, not_false_eq_true, Bool.and_eq_true, Bool.not_eq_eq_eq_not, Bool.not_true, Bool.not_false, bne_iff_ne, bne_eq_false_iff_eq, Int.toNat_natCast, Nat.mul_one, Nat.add_zero, Nat.zero_add, List.take_length, List.drop_zero] at h6)
                        all_goals
                          exfalso
                          first | omega | (simp only [most48, Data.size, List.length_take, List.drop_zero, Bool.and_eq_true, decide_eq_true_eq, decide_eq_false_iff_not, Bool.and_eq_false_iff, Int.toNat_natCast] at *; omega) | (simp only [w64] at *; omega) | (simp only [most48] at *; omega) | (simp [Data.size, List.take_length] at *; done) | (cases zl <;> simp_all; done) | (cases zl <;> simp_all <;> omega)
                  · (try simp only [decide_eq_true_eq, decide_eq_false_iff_not, Bool.not_eq_true', Bool.not_eq_false', beq_iff_eq, beq_eq_false_iff_ne, Int.not_lt, Int.not_le, ge_iff_le, gt_iff_lt, ne_eq, Bool.false_eq_true, Bool.true_eq_false, not_true_eq_false, not_false_eq_true, Bool.and_eq_true, Bool.not_eq_eq_eq_not, Bool.not_true, Bool.not_false, bne_iff_ne, bne_eq_false_iff_eq, Int.toNat_natCast, Nat.mul_one, Nat.add_zero, Nat.zero_add, List.take_length, List.drop_zero] at h5)
                    all_goals
                      refine Tree.Sat.br (fun h6 => ?_) (fun h6 => ?_)
                      · (try simp only [decide_eq_true_eq, decide_eq_false_iff_not, Bool.not_eq_true', Bool.not_eq_false', beq_iff_eq, beq_eq_false_iff_ne, Int.not_lt, Int.not_le, ge_iff_le, gt_iff_lt, ne_eq, Bool.false_eq_true, Bool.true_eq_false, not_true_eq_false, not_false_eq_true, Bool.and_eq_true, Bool.not_eq_eq_eq_not, Bool.not_true, Bool.not_false, bne_iff_ne, bne_eq_false_iff_eq, Int.toNat_natCast, Nat.mul_one, Nat.add_zero, Nat.zero_add, List.take_length, List.drop_zero] at h6)
                        all_goals
                          refine Tree.Sat.ret ?_
                          first
                            | (
                              have hq := hr.2 (all_miss (i := i) (by omega) (by rw [signed_fits h1k h4k (wfL_get hw (by omega))]; simp_all))
                              simp only [Prod.mk.injEq] at hq
                              obtain ⟨rfl, rfl⟩ := hq
                              refine .ret rfl ?_
                              constructor <;> simp only [AV.leL, AV.le, Mem.le, Mem.leP, Blk.le, Blk.pad, Data.le, Data.size, Cap.le, and_true, true_and, and_self, true_implies, implies_true, imp_self, List.length_nil] <;> (repeat' with_reducible refine And.intro ?_ ?_) <;> (try simp only [Int.toNat_natCast, Nat.mul_one, Nat.add_zero, Nat.zero_add]) <;> done)
                            | (
                              have hq := hr.1 (by rw [List.take_of_length_le (by omega)] at ha; exact ha)
                              simp only [Prod.mk.injEq] at hq
                              obtain ⟨rfl, rfl⟩ := hq
                              refine .exit rfl ?_
                              constructor <;> simp only [AV.leL, AV.le, Mem.le, Mem.leP, Blk.le, Blk.pad, Data.le, Data.size, Cap.le, and_true, true_and, and_self, true_implies, implies_true, imp_self, List.length_nil] <;> (repeat' with_reducible refine And.intro ?_ ?_) <;> (try simp only [Int.toNat_natCast, Nat.mul_one, Nat.add_zero, Nat.zero_add]) <;> rw [List.take_of_length_le (by omega)])
                      · (try simp only [decide_eq_true_eq, decide_eq_false_iff_not, Bool.not_eq_true', Bool.not_eq_false', beq_iff_eq, beq_eq_false_iff_ne, Int.not_lt, Int.not_le, ge_iff_le, gt_iff_lt, ne_eq, Bool.false_eq_true, Bool.true_eq_false, not_true_eq_false, not_false_eq_true, Bool.and_eq_true, Bool.not_eq_eq_eq_not, Bool.not_true, Bool.not_false, bne_iff_ne, bne_eq_false_iff_eq, Int.toNat_natCast, Nat.mul_one, Nat.add_zero, Nat.zero_add, List.take_length, List.drop_zero] at h6)
                        all_goals
                          refine Tree.Sat.chk (by first | (simp only [and_self]; done) | (exact ⟨⟨trivial, trivial, trivial⟩, h1k, h4k⟩)) ?_
                          refine Tree.Sat.br (fun h7 => ?_) (fun h7 => ?_)
                          · (try simp only [decide_eq_true_eq, decide_eq_false_iff_not, Bool.not_eq_true', Bool.not_eq_false', beq_iff_eq, beq_eq_false_iff_ne, Int.not_lt, Int.not_le, ge_iff_le, gt_iff_lt, ne_eq, Bool.false_eq_true, Bool.true_eq_false, not_true_eq_false, not_false_eq_true, Bool.and_eq_true, Bool.not_eq_eq_eq_not, Bool.not_true, Bool.not_false, bne_iff_ne, bne_eq_false_iff_eq, Int.toNat_natCast, Nat.mul_one, Nat.add_zero, Nat.zero_add, List.take_length, List.drop_zero] at h7)
                            all_goals
                              refine Tree.Sat.br (fun h8 => ?_) (fun h8 => ?_)
                              · (try simp only [decide_eq_true_eq, decide_eq_false_iff_not, Bool.not_eq_true', Bool.not_eq_false', beq_iff_eq, beq_eq_false_iff_ne, Int.not_lt, Int.not_le, ge_iff_le, gt_iff_lt, ne_eq, Bool.false_eq_true, Bool.true_eq_false, not_true_eq_false, not_false_eq_true, Bool.and_eq_true, Bool.not_eq_eq_eq_not, Bool.not_true, Bool.not_false, bne_iff_ne, bne_eq_false_iff_eq, Int.toNat_natCast, Nat.mul_one, Nat.add_zero, Nat.zero_add, List.take_length, List.drop_zero] at h8)
                                all_goals
                                  refine Tree.Sat.ret ?_
                                  refine .norm ⟨k, zl, l, i + 1⟩ ?_ ?_ ⟨?_, ?_⟩
                                  · constructor <;> simp only [hdall26_0, AV.leL, AV.le, Mem.le, Mem.leP, Blk.le, Blk.pad, Data.le, Data.size, Cap.le, and_true, true_and, and_self, true_implies, implies_true, imp_self, List.length_nil] <;> (repeat' with_reducible refine And.intro ?_ ?_) <;> (try simp only [Int.toNat_natCast, Nat.mul_one, Nat.add_zero, Nat.zero_add]) <;> first | exact wadd1 (by omega) | exact flat_nil (k := k) (l := l) (i := i) (by omega) | (rw [brec]; exact flat_nil (k := k) (l := l) (i := i) (by omega)) | (simp only [List.take_length, List.drop_zero, Nat.mul_one]; exact flat_step (by omega)) | (rw [← flat_step (by omega), List.length_append])
                                  · simp only [muall26_0]; omega
                                  · refine ⟨h1k, h4k, hl, hw, by omega, hz, all_take_succ (by omega) ha ?_⟩
                                    rw [signed_fits h1k h4k (wfL_get hw (by omega))]
                                    simp_all
                                  · exact hr
                              · (try simp only [decide_eq_true_eq, decide_eq_false_iff_not, Bool.not_eq_true', Bool.not_eq_false', beq_iff_eq, beq_eq_false_iff_ne, Int.not_lt, Int.not_le, ge_iff_le, gt_iff_lt, ne_eq, Bool.false_eq_true, Bool.true_eq_false, not_true_eq_false, not_false_eq_true, Bool.and_eq_true, Bool.not_eq_eq_eq_not, Bool.not_true, Bool.not_false, bne_iff_ne, bne_eq_false_iff_eq, Int.toNat_natCast, Nat.mul_one, Nat.add_zero, Nat.zero_add, List.take_length, List.drop_zero] at h8)
                                all_goals
                                  exfalso
                                  first | omega | (simp only [most48, Data.size, List.length_take, List.drop_zero, Bool.and_eq_true, decide_eq_true_eq, decide_eq_false_iff_not, Bool.and_eq_false_iff, Int.toNat_natCast] at *; omega) | (simp only [w64] at *; omega) | (simp only [most48] at *; omega) | (simp [Data.size, List.take_length] at *; done) | (cases zl <;> simp_all; done) | (cases zl <;> simp_all <;> omega)
                          · (try simp only [decide_eq_true_eq, decide_eq_false_iff_not, Bool.not_eq_true', Bool.not_eq_false', beq_iff_eq, beq_eq_false_iff_ne, Int.not_lt, Int.not_le, ge_iff_le, gt_iff_lt, ne_eq, Bool.false_eq_true, Bool.true_eq_false, not_true_eq_false, not_false_eq_true, Bool.and_eq_true, Bool.not_eq_eq_eq_not, Bool.not_true, Bool.not_false, bne_iff_ne, bne_eq_false_iff_eq, Int.toNat_natCast, Nat.mul_one, Nat.add_zero, Nat.zero_add, List.take_length, List.drop_zero] at h7)
                            all_goals
                              exfalso
                              first | omega | (simp only [most48, Data.size, List.length_take, List.drop_zero, Bool.and_eq_true, decide_eq_true_eq, decide_eq_false_iff_not, Bool.and_eq_false_iff, Int.toNat_natCast] at *; omega) | (simp only [w64] at *; omega) | (simp only [most48] at *; omega) | (simp [Data.size, List.take_length] at *; done) | (cases zl <;> simp_all; done) | (cases zl <;> simp_all <;> omega)
              · (try simp only [decide_eq_true_eq, decide_eq_false_iff_not, Bool.not_eq_true', Bool.not_eq_false', beq_iff_eq, beq_eq_false_iff_ne, Int.not_lt, Int.not_le, ge_iff_le, gt_iff_lt, ne_eq, Bool.false_eq_true, Bool.true_eq_false, not_true_eq_false, not_false_eq_true, Bool.and_eq_true, Bool.not_eq_eq_eq_not, Bool.not_true, Bool.not_false, bne_iff_ne, bne_eq_false_iff_eq, Int.toNat_natCast, Nat.mul_one, Nat.add_zero, Nat.zero_add, List.take_length, List.drop_zero] at h4)
                all_goals
                  exfalso
                  first | omega | (simp only [most48, Data.size, List.length_take, List.drop_zero, Bool.and_eq_true, decide_eq_true_eq, decide_eq_false_iff_not, Bool.and_eq_false_iff, Int.toNat_natCast] at *; omega) | (simp only [w64] at *; omega) | (simp only [most48] at *; omega) | (simp [Data.size, List.take_length] at *; done) | (cases zl <;> simp_all; done) | (cases zl <;> simp_all <;> omega)
          · (try simp only [decide_eq_true_eq, decide_eq_false_iff_not, Bool.not_eq_true', Bool.not_eq_false', beq_iff_eq, beq_eq_false_iff_ne, Int.not_lt, Int.not_le, ge_iff_le, gt_iff_lt, ne_eq, Bool.false_eq_true, Bool.true_eq_false, not_true_eq_false, not_false_eq_true, Bool.and_eq_true, Bool.not_eq_eq_eq_not, Bool.not_true, Bool.not_false, bne_iff_ne, bne_eq_false_iff_eq, Int.toNat_natCast, Nat.mul_one, Nat.add_zero, Nat.zero_add, List.take_length, List.drop_zero] at h3)
            all_goals
              exfalso
              first | omega | (simp only [most48, Data.size, List.length_take, List.drop_zero, Bool.and_eq_true, decide_eq_true_eq, decide_eq_false_iff_not, Bool.and_eq_false_iff, Int.toNat_natCast] at *; omega) | (simp only [w64] at *; omega) | (simp only [most48] at *; omega) | (simp [Data.size, List.take_length] at *; done) | (cases zl <;> simp_all; done) | (cases zl <;> simp_all <;> omega)
      · (try simp only [decide_eq_true_eq, decide_eq_false_iff_not, Bool.not_eq_true', Bool.not_eq_false', beq_iff_eq, beq_eq_false_iff_ne, Int.not_lt, Int.not_le, ge_iff_le, gt_iff_lt, ne_eq, Bool.false_eq_true, Bool.true_eq_false, not_true_eq_false, not_false_eq_true, Bool.and_eq_true, Bool.not_eq_eq_eq_not, Bool.not_true, Bool.not_false, bne_iff_ne, bne_eq_false_iff_eq, Int.toNat_natCast, Nat.mul_one, Nat.add_zero, Nat.zero_add, List.take_length, List.drop_zero] at h2)
        all_goals
          exfalso
          first | omega | (simp only [most48, Data.size, List.length_take, List.drop_zero, Bool.and_eq_true, decide_eq_true_eq, decide_eq_false_iff_not, Bool.and_eq_false_iff, Int.toNat_natCast] at *; omega) | (simp only [w64] at *; omega) | (simp only [most48] at *; omega) | (simp [Data.size, List.take_length] at *; done) | (cases zl <;> simp_all; done) | (cases zl <;> simp_all <;> omega)
  · (try simp only [decide_eq_true_eq, decide_eq_false_iff_not, Bool.not_eq_true', Bool.not_eq_false', beq_iff_eq, beq_eq_false_iff_ne, Int.not_lt, Int.not_le, ge_iff_le, gt_iff_lt, ne_eq, Bool.false_eq_true, Bool.true_eq_false, not_true_eq_false, not_false_eq_true, Bool.and_eq_true, Bool.not_eq_eq_eq_not, Bool.not_true, Bool.not_false, bne_iff_ne, bne_eq_false_iff_eq, Int.toNat_natCast, Nat.mul_one, Nat.add_zero, Nat.zero_add, List.take_length, List.drop_zero] at h1)
    all_goals
      refine Tree.Sat.ret ?_
      first
        | (
          have hq := hr.2 (all_miss (i := i) (by omega) (by rw [signed_fits h1k h4k (wfL_get hw (by omega))]; simp_all))
          simp only [Prod.mk.injEq] at hq
          obtain ⟨rfl, rfl⟩ := hq
          refine .ret rfl ?_
          constructor <;> simp only [AV.leL, AV.le, Mem.le, Mem.leP, Blk.le, Blk.pad, Data.le, Data.size, Cap.le, and_true, true_and, and_self, true_implies, implies_true, imp_self, List.length_nil] <;> (repeat' with_reducible refine And.intro ?_ ?_) <;> (try simp only [Int.toNat_natCast, Nat.mul_one, Nat.add_zero, Nat.zero_add]) <;> done)
        | (
          have hq := hr.1 (by rw [List.take_of_length_le (by omega)] at ha; exact ha)
          simp only [Prod.mk.injEq] at hq
          obtain ⟨rfl, rfl⟩ := hq
          refine .exit rfl ?_
          constructor <;> simp only [AV.leL, AV.le, Mem.le, Mem.leP, Blk.le, Blk.pad, Data.le, Data.size, Cap.le, and_true, true_and, and_self, true_implies, implies_true, imp_self, List.length_nil] <;> (repeat' with_reducible refine And.intro ?_ ?_) <;> (try simp only [Int.toNat_natCast, Nat.mul_one, Nat.add_zero, Nat.zero_add]) <;> rw [List.take_of_length_le (by omega)])
set_option maxHeartbeats 2000000 in
set_option maxRecDepth 100000 in
theorem loopall26_0 (hall : AllOk Try.prog 0 (fun _ => none) tab11) : LoopOk (mkL Try.prog 0 (fun _ => none) tab11 rowsall26) 25 2 (bodyAt Try.prog 25 0) := by
  have hkey : Code.key (bodyAt Try.prog 25 0) = 5 := by kernel_rfl
  have hin : loopsIn (bodyAt Try.prog 25 0) = [] := by kernel_rfl
  have hrow : lookL rowsall26 25 (Code.key (bodyAt Try.prog 25 0)) = some rowall26_0 := by rw [hkey]; rfl
  refine loop_rowP (X := Xall26_0) (row := rowall26_0) hall mix hrow (fun b hb _ => by rw [hin] at hb; cases hb) Uall26_0 hdall26_0 resall26_0 muall26_0 (fun st ex r h => ?_) (fun x ex r hr => ?_)
  · have h' : (ansall26_0 st).runs (ex, r) := h
    unfold ansall26_0 at h'
    split at h'
    · obtain ⟨q1, q2⟩ := Tree.chk_runs h'
      exact ⟨_, q1, q2⟩
    · exact h'.elim
  · obtain ⟨k, zl, l, i⟩ := x
    have := stepall26_0 k zl l i ex r hr.1 hr.2
    rw [← tLall26_0] at this
    (try rw [show rowall26_0.tidy = Tall26_0 from rfl])
    exact this
theorem loopsall26 (hall : AllOk Try.prog 0 (fun _ => none) tab11) : ∀ i, i < (loopsAt Try.prog 25).length → LoopOk (mkL Try.prog 0 (fun _ => none) tab11 rowsall26) 25 2 (bodyAt Try.prog 25 i) := by
  intro i hi
  have hlen : (loopsAt Try.prog 25).length = 1 := by kernel_rfl
  rw [hlen] at hi
  obtain rfl : i = 0 := by omega
  · exact loopall26_0 hall
set_option maxRecDepth 100000 in
theorem tall26 (k : Int) (zl : Bool) (l : List Int) (kk : Int) : evBody (mkL Try.prog 0 (fun _ => none) tab11 rowsall26) (evCall (mkC Try.prog 0 (fun _ => none) tab11) 50) 25 [.int .i64 false k, .sl zl ⟨0, 0, 0, 0⟩ false l.length .any, .fn (.func 26) [] [.ptr ⟨1, 0, 0, 0⟩]] [some ⟨3, false, false, true, .ints .i64 l⟩, some ⟨3, false, false, false, .cells [.int .i64 false kk]⟩] =
  Tree.br (decide (k < (1 : Int)))
  (Tree.ret
  (AV.tup [AV.sl true (Ref.mk (0) (0) (0) (0)) true (0) Cap.exact, AV.int IntKind.i64 true (2 : Int)],
  [some (Blk.mk (3) false false true (Data.ints IntKind.i64 l)), some (Blk.mk (3) false false false (Data.cells [AV.int IntKind.i64 false kk]))]))
  (Tree.br (decide (k > (4 : Int)))
  (Tree.ret
  (AV.tup [AV.sl true (Ref.mk (0) (0) (0) (0)) true (0) Cap.exact, AV.int IntKind.i64 true (2 : Int)],
  [some (Blk.mk (3) false false true (Data.ints IntKind.i64 l)), some (Blk.mk (3) false false false (Data.cells [AV.int IntKind.i64 false kk]))]))
  (Tree.chk
  (St.le
  (St.mk
  [AV.int IntKind.i64 false k, jk, AV.fn (Fn.func (26)) [] [AV.ptr (Ref.mk (1) (0) (0) (0))], jk, jk, jk, jk, jk,
  AV.sl true (Ref.mk (2) (0) (0) (0)) false (0) Cap.own, jk, jk, jk, jk, jk, jk, jk, jk,
  AV.sl zl (Ref.mk (0) (0) (0) (0)) false (List.length l) Cap.any, AV.int IntKind.i64 false ((List.length l) : Int), AV.int IntKind.i64 true (0 : Int), jk, jk, jk, jk, jk,
  jk, jk, jk, jk, jk, jk, jk, jk, jk]
  [some (Blk.mk (3) false false true (Data.ints IntKind.i64 l)), some (Blk.mk (3) false false false (Data.cells [AV.int IntKind.i64 false kk])),
  some (Blk.mk (3) true true true (Data.ints IntKind.i64 []))])
  (St.mk
  [AV.int IntKind.i64 false k, jk, AV.fn (Fn.func (26)) [] [AV.ptr (Ref.mk (1) (0) (0) (0))], jk, jk, jk, jk, jk,
  AV.sl true (Ref.mk (2) (0) (0) (0)) false (0) Cap.own, jk, jk, jk, jk, jk, jk, jk, jk,
  AV.sl zl (Ref.mk (0) (0) (0) (0)) false (List.length l) Cap.any, AV.int IntKind.i64 false ((List.length l) : Int), AV.int IntKind.i64 false (0 : Int), jk, jk, jk, jk,
  jk, jk, jk, jk, jk, jk, jk, jk, jk, jk]
  [some (Blk.mk (3) false false true (Data.ints IntKind.i64 l)), some (Blk.mk (3) false false false (Data.cells [AV.int IntKind.i64 false k])),
  some (Blk.mk (3) true true true (Data.ints IntKind.i64 (List.flatMap (wordsZ k) (List.take (Int.toNat (0 : Int)) l))))]))
  (Tree.chk (okall26_0 (Xall26_0.mk k zl l (Int.toNat (0 : Int))))
  (Tree.br (List.all l (fitsZ true k))
  (Tree.ret
  (AV.tup [AV.sl (decide (List.flatMap (wordsZ k) l = [])) (Ref.mk (2) (0) (0) (0)) false (List.length (List.flatMap (wordsZ k) l)) Cap.own, AV.int IntKind.i64 true (0 : Int)],
  [some (Blk.mk (3) false false true (Data.ints IntKind.i64 l)), some (Blk.mk (3) false false false (Data.cells [AV.int IntKind.i64 false k])),
  some (Blk.mk (3) true (decide ((List.flatMap (wordsZ k) l) = [])) true (Data.ints IntKind.i64 (List.flatMap (wordsZ k) l)))]))
  (Tree.ret
  (AV.tup [AV.sl true (Ref.mk (0) (0) (0) (0)) true (0) Cap.exact, AV.int IntKind.i64 true (2 : Int)],
  [some (Blk.mk (3) false false true (Data.ints IntKind.i64 l)), some (Blk.mk (3) false false false (Data.cells [AV.int IntKind.i64 false k]))])))))) := by kernel_rfl
set_option maxRecDepth 100000 in
theorem gall26 (k : Int) (zl : Bool) (l : List Int) (kk : Int) (hw : kk = k ∧ l.length ≤ 100000 ∧ wf64L l ∧ (zl = true → l = [])) : (Tree.br (decide (k < (1 : Int)))
  (Tree.ret
  (AV.tup [AV.sl true (Ref.mk (0) (0) (0) (0)) true (0) Cap.exact, AV.int IntKind.i64 true (2 : Int)],
  [some (Blk.mk (3) false false true (Data.ints IntKind.i64 l)), some (Blk.mk (3) false false false (Data.cells [AV.int IntKind.i64 false kk]))]))
  (Tree.br (decide (k > (4 : Int)))
  (Tree.ret
  (AV.tup [AV.sl true (Ref.mk (0) (0) (0) (0)) true (0) Cap.exact, AV.int IntKind.i64 true (2 : Int)],
  [some (Blk.mk (3) false false true (Data.ints IntKind.i64 l)), some (Blk.mk (3) false false false (Data.cells [AV.int IntKind.i64 false kk]))]))
  (Tree.chk
  (St.le
  (St.mk
  [AV.int IntKind.i64 false k, jk, AV.fn (Fn.func (26)) [] [AV.ptr (Ref.mk (1) (0) (0) (0))], jk, jk, jk, jk, jk,
  AV.sl true (Ref.mk (2) (0) (0) (0)) false (0) Cap.own, jk, jk, jk, jk, jk, jk, jk, jk,
  AV.sl zl (Ref.mk (0) (0) (0) (0)) false (List.length l) Cap.any, AV.int IntKind.i64 false ((List.length l) : Int), AV.int IntKind.i64 true (0 : Int), jk, jk, jk, jk, jk,
  jk, jk, jk, jk, jk, jk, jk, jk, jk]
  [some (Blk.mk (3) false false true (Data.ints IntKind.i64 l)), some (Blk.mk (3) false false false (Data.cells [AV.int IntKind.i64 false kk])),
  some (Blk.mk (3) true true true (Data.ints IntKind.i64 []))])
  (St.mk
  [AV.int IntKind.i64 false k, jk, AV.fn (Fn.func (26)) [] [AV.ptr (Ref.mk (1) (0) (0) (0))], jk, jk, jk, jk, jk,
  AV.sl true (Ref.mk (2) (0) (0) (0)) false (0) Cap.own, jk, jk, jk, jk, jk, jk, jk, jk,
  AV.sl zl (Ref.mk (0) (0) (0) (0)) false (List.length l) Cap.any, AV.int IntKind.i64 false ((List.length l) : Int), AV.int IntKind.i64 false (0 : Int), jk, jk, jk, jk,
  jk, jk, jk, jk, jk, jk, jk, jk, jk, jk]
  [some (Blk.mk (3) false false true (Data.ints IntKind.i64 l)), some (Blk.mk (3) false false false (Data.cells [AV.int IntKind.i64 false k])),
  some (Blk.mk (3) true true true (Data.ints IntKind.i64 (List.flatMap (wordsZ k) (List.take (Int.toNat (0 : Int)) l))))]))
  (Tree.chk (okall26_0 (Xall26_0.mk k zl l (Int.toNat (0 : Int))))
  (Tree.br (List.all l (fitsZ true k))
  (Tree.ret
  (AV.tup [AV.sl (decide (List.flatMap (wordsZ k) l = [])) (Ref.mk (2) (0) (0) (0)) false (List.length (List.flatMap (wordsZ k) l)) Cap.own, AV.int IntKind.i64 true (0 : Int)],
  [some (Blk.mk (3) false false true (Data.ints IntKind.i64 l)), some (Blk.mk (3) false false false (Data.cells [AV.int IntKind.i64 false k])),
  some (Blk.mk (3) true (decide ((List.flatMap (wordsZ k) l) = [])) true (Data.ints IntKind.i64 (List.flatMap (wordsZ k) l)))]))
  (Tree.ret
  (AV.tup [AV.sl true (Ref.mk (0) (0) (0) (0)) true (0) Cap.exact, AV.int IntKind.i64 true (2 : Int)],
  [some (Blk.mk (3) false false true (Data.ints IntKind.i64 l)), some (Blk.mk (3) false false false (Data.cells [AV.int IntKind.i64 false k]))])))))) : Tree (AV × Mem)).GivesP (.tup [.sl (decide (putL true k l = [])) ⟨2, 0, 0, 0⟩ false (putL true k l).length .own, .int .i64 false (putE true k l)]) ([some ⟨3, false, false, true, .ints .i64 l⟩, some ⟨3, false, false, false, .cells [.int .i64 false kk]⟩, some (⟨3, true, decide (putL true k l = []), true, .ints .i64 (putL true k l)⟩)]) := by
  obtain ⟨rfl, hl, hw, hz⟩ := hw
  refine Tree.GivesP.br (fun h1 => ?_) (fun h1 => ?_)
  · (try simp only [decide_eq_true_eq, decide_eq_false_iff_not, Bool.not_eq_true', Bool.not_eq_false', beq_iff_eq, beq_eq_false_iff_ne, Int.not_lt, Int.not_le, ge_iff_le, gt_iff_lt, ne_eq, Bool.false_eq_true, Bool.true_eq_false, not_true_eq_false, not_false_eq_true, Bool.and_eq_true, Bool.not_eq_eq_eq_not, Bool.not_true, Bool.not_false, bne_iff_ne, bne_eq_false_iff_eq, Int.toNat_natCast, Nat.mul_one, Nat.add_zero, Nat.zero_add, List.take_length, List.drop_zero] at h1)
    all_goals
      refine Tree.GivesP.ret ?_ ?_
      · have e : putOk true kk l = false := by simp [putOk, kOk]; omega
        simp [AV.le, AV.leL, putL, putE, e, Cap.le]
      · have e : putOk true kk l = false := by simp [putOk, kOk]; omega
        simp [Mem.leP, Blk.le, Blk.pad, Data.le, Data.size, putL, putE, e, AV.le, AV.leL]
  · (try simp only [decide_eq_true_eq, decide_eq_false_iff_not, Bool.not_eq_true', Bool.not_eq_false', beq_iff_eq, beq_eq_false_iff_ne, Int.not_lt, Int.not_le, ge_iff_le, gt_iff_lt, ne_eq, Bool.false_eq_true, Bool.true_eq_false, not_true_eq_false, not_false_eq_true, Bool.and_eq_true, Bool.not_eq_eq_eq_not, Bool.not_true, Bool.not_false, bne_iff_ne, bne_eq_false_iff_eq, Int.toNat_natCast, Nat.mul_one, Nat.add_zero, Nat.zero_add, List.take_length, List.drop_zero] at h1)
    all_goals
      refine Tree.GivesP.br (fun h2 => ?_) (fun h2 => ?_)
      · (try simp only [decide_eq_true_eq, decide_eq_false_iff_not, Bool.not_eq_true', Bool.not_eq_false', beq_iff_eq, beq_eq_false_iff_ne, Int.not_lt, Int.not_le, ge_iff_le, gt_iff_lt, ne_eq, Bool.false_eq_true, Bool.true_eq_false, not_true_eq_false, not_false_eq_true, Bool.and_eq_true, Bool.not_eq_eq_eq_not, Bool.not_true, Bool.not_false, bne_iff_ne, bne_eq_false_iff_eq, Int.toNat_natCast, Nat.mul_one, Nat.add_zero, Nat.zero_add, List.take_length, List.drop_zero] at h2)
        all_goals
          refine Tree.GivesP.ret ?_ ?_
          · have e : putOk true kk l = false := by simp [putOk, kOk]; omega
            simp [AV.le, AV.leL, putL, putE, e, Cap.le]
          · have e : putOk true kk l = false := by simp [putOk, kOk]; omega
            simp [Mem.leP, Blk.le, Blk.pad, Data.le, Data.size, putL, putE, e, AV.le, AV.leL]
      · (try simp only [decide_eq_true_eq, decide_eq_false_iff_not, Bool.not_eq_true', Bool.not_eq_false', beq_iff_eq, beq_eq_false_iff_ne, Int.not_lt, Int.not_le, ge_iff_le, gt_iff_lt, ne_eq, Bool.false_eq_true, Bool.true_eq_false, not_true_eq_false, not_false_eq_true, Bool.and_eq_true, Bool.not_eq_eq_eq_not, Bool.not_true, Bool.not_false, bne_iff_ne, bne_eq_false_iff_eq, Int.toNat_natCast, Nat.mul_one, Nat.add_zero, Nat.zero_add, List.take_length, List.drop_zero] at h2)
        all_goals
          refine Tree.GivesP.chk (by first | (simp only [and_self]; done) | (constructor <;> simp only [hdall26_0, Int.toNat_zero, Int.cast_ofNat_Int, AV.leL, AV.le, Mem.le, Mem.leP, Blk.le, Blk.pad, Data.le, Data.size, Cap.le, and_true, true_and, and_self, true_implies, implies_true, imp_self, List.length_nil] <;> (try simp only [List.take_zero]) <;> (try rfl) <;> simp)) ?_
          refine Tree.GivesP.chk (by first | (simp only [and_self]; done) | (exact ⟨by omega, by omega, hl, hw, Nat.zero_le _, hz, rfl⟩)) ?_
          refine Tree.GivesP.br (fun h3 => ?_) (fun h3 => ?_)
          · (try simp only [decide_eq_true_eq, decide_eq_false_iff_not, Bool.not_eq_true', Bool.not_eq_false', beq_iff_eq, beq_eq_false_iff_ne, Int.not_lt, Int.not_le, ge_iff_le, gt_iff_lt, ne_eq, Bool.false_eq_true, Bool.true_eq_false, not_true_eq_false, not_false_eq_true, Bool.and_eq_true, Bool.not_eq_eq_eq_not, Bool.not_true, Bool.not_false, bne_iff_ne, bne_eq_false_iff_eq, Int.toNat_natCast, Nat.mul_one, Nat.add_zero, Nat.zero_add, List.take_length, List.drop_zero] at h3)
            all_goals
              refine Tree.GivesP.ret ?_ ?_
              · have e : putOk true kk l = true := by simp only [putOk, kOk, h3, Bool.and_true, decide_eq_true_eq]; omega
                simp [AV.le, AV.leL, putL, putE, e, Cap.le]
              · have e : putOk true kk l = true := by simp only [putOk, kOk, h3, Bool.and_true, decide_eq_true_eq]; omega
                simp [Mem.leP, Blk.le, Blk.pad, Data.le, Data.size, putL, putE, e, AV.le, AV.leL]
          · (try simp only [decide_eq_true_eq, decide_eq_false_iff_not, Bool.not_eq_true', Bool.not_eq_false', beq_iff_eq, beq_eq_false_iff_ne, Int.not_lt, Int.not_le, ge_iff_le, gt_iff_lt, ne_eq, Bool.false_eq_true, Bool.true_eq_false, not_true_eq_false, not_false_eq_true, Bool.and_eq_true, Bool.not_eq_eq_eq_not, Bool.not_true, Bool.not_false, bne_iff_ne, bne_eq_false_iff_eq, Int.toNat_natCast, Nat.mul_one, Nat.add_zero, Nat.zero_add, List.take_length, List.drop_zero] at h3)
            all_goals
              refine Tree.GivesP.ret ?_ ?_
              · have e : putOk true kk l = false := by simp only [putOk, h3, Bool.and_false]
                simp [AV.le, AV.leL, putL, putE, e, Cap.le]
              · have e : putOk true kk l = false := by simp only [putOk, h3, Bool.and_false]
                simp [Mem.leP, Blk.le, Blk.pad, Data.le, Data.size, putL, putE, e, AV.le, AV.leL]
theorem sall26 (hall : AllOk Try.prog 0 (fun _ => none) tab11) (k : Int) (zl : Bool) (l : List Int) (kk : Int) (hw : kk = k ∧ l.length ≤ 100000 ∧ wf64L l ∧ (zl = true → l = [])) : SoundAt (mkC Try.prog 0 (fun _ => none) []) 25 [.int .i64 false k, .sl zl ⟨0, 0, 0, 0⟩ false l.length .any, .fn (.func 26) [] [.ptr ⟨1, 0, 0, 0⟩]] [some ⟨3, false, false, true, .ints .i64 l⟩, some ⟨3, false, false, false, .cells [.int .i64 false kk]⟩] (.tup [.sl (decide (putL true k l = [])) ⟨2, 0, 0, 0⟩ false (putL true k l).length .own, .int .i64 false (putE true k l)], [some ⟨3, false, false, true, .ints .i64 l⟩, some ⟨3, false, false, false, .cells [.int .i64 false kk]⟩, some (⟨3, true, decide (putL true k l = []), true, .ints .i64 (putL true k l)⟩)]) := sound_loopsP hall mix (loopsall26 hall) (tall26 k zl l kk) (gall26 k zl l kk hw)
theorem Fall26_ok (hall : AllOk Try.prog 0 (fun _ => none) tab11) : PureF Try.prog 3 25 Fall26 := by
  intro xs c v news h hc
  unfold Fall26 at h
  split at h
  · rename_i _ k zl l kk
    cases h
    refine ⟨(by simp), SoundAt.flags (sall26 hall k zl l kk hc) ?_⟩
    simp [PA.avs, AV.le, AV.leL, Cap.le]
  · cases h
end Go.Proofs.Ytnkjblmlchbfkaa.Rig

/- Qsigned -/
namespace Go.Proofs.Ytnkjblmlchbfkaa.Rig
open Go
set_option maxRecDepth 100000 in
theorem tsigned (k : Int) (zl : Bool) (l : List Int) : evBody (mkC Try.prog 0 (fun _ => none) tab12) (evCall (mkC Try.prog 0 (fun _ => none) tab12) 50) 9 [.int .i64 false k, .sl zl ⟨0, 0, 0, 0⟩ false l.length .any] [some ⟨3, false, false, true, .ints .i64 l⟩] =
  Tree.chk
  ((True ∧ 0 + List.length l ≤ List.length l ∧ True ∧ True) ∧
  k = k ∧
  List.length (List.take (List.length l) (List.drop (0) l)) ≤ 100000 ∧
  wf64L (List.take (List.length l) (List.drop (0) l)) ∧ (zl = true → List.take (List.length l) (List.drop (0) l) = []))
  (Tree.ret
  (AV.tup
  [AV.sl (decide (putL true k (List.take (List.length l) (List.drop (0) l)) = [])) (Ref.mk (1) (0) (0) (0)) false
  (List.length (putL true k (List.take (List.length l) (List.drop (0) l)))) Cap.own,
  AV.int IntKind.i64 false (putE true k (List.take (List.length l) (List.drop (0) l)))],
  [some (Blk.mk (3) false false true (Data.ints IntKind.i64 l)),
  some
  (Blk.mk (3) true (decide ((putL true k (List.take (List.length l) (List.drop (0) l))) = [])) true
  (Data.ints IntKind.i64 (putL true k (List.take (List.length l) (List.drop (0) l)))))])) := by kernel_rfl
set_option maxRecDepth 100000 in
theorem gsigned (k : Int) (zl : Bool) (l : List Int) (hw : l.length ≤ 100000 ∧ wf64L l ∧ (zl = true → l = [])) : (Tree.chk
  ((True ∧ 0 + List.length l ≤ List.length l ∧ True ∧ True) ∧
  k = k ∧
  List.length (List.take (List.length l) (List.drop (0) l)) ≤ 100000 ∧
  wf64L (List.take (List.length l) (List.drop (0) l)) ∧ (zl = true → List.take (List.length l) (List.drop (0) l) = []))
  (Tree.ret
  (AV.tup
  [AV.sl (decide (putL true k (List.take (List.length l) (List.drop (0) l)) = [])) (Ref.mk (1) (0) (0) (0)) false
  (List.length (putL true k (List.take (List.length l) (List.drop (0) l)))) Cap.own,
  AV.int IntKind.i64 false (putE true k (List.take (List.length l) (List.drop (0) l)))],
  [some (Blk.mk (3) false false true (Data.ints IntKind.i64 l)),
  some
  (Blk.mk (3) true (decide ((putL true k (List.take (List.length l) (List.drop (0) l))) = [])) true
  (Data.ints IntKind.i64 (putL true k (List.take (List.length l) (List.drop (0) l)))))])) : Tree (AV × Mem)).GivesP (.tup [.sl (decide (putL true k l = [])) ⟨1, 0, 0, 0⟩ false (putL true k l).length .own, .int .i64 false (putE true k l)]) ([some ⟨3, false, false, true, .ints .i64 l⟩, some (⟨3, true, decide (putL true k l = []), true, .ints .i64 (putL true k l)⟩)]) := by
  refine Tree.GivesP.chk (by first | (simp only [and_self]; done) | (simp only [List.take_length, List.drop_zero, Ref.pos, Nat.zero_mul, Nat.mul_zero, Nat.zero_add, Nat.add_zero, Nat.le_refl, true_and, and_true, and_self]; exact ⟨hw.1, hw.2.1, hw.2.2⟩)) ?_
  refine Tree.GivesP.ret ?_ ?_
  · simp only [List.take_length, List.drop_zero, AV.le, AV.leL, Cap.le, and_true, true_and, and_self, imp_self, implies_true]
  · simp only [List.take_length, List.drop_zero, AV.leL, AV.le, Mem.le, Mem.leP, Blk.le, Blk.pad, Data.le, Data.size, Cap.le, and_true, true_and, and_self, true_implies, implies_true, imp_self, List.length_nil]
theorem ssigned (hall : AllOk Try.prog 0 (fun _ => none) tab12) (k : Int) (zl : Bool) (l : List Int) (hw : l.length ≤ 100000 ∧ wf64L l ∧ (zl = true → l = [])) : SoundAt (mkC Try.prog 0 (fun _ => none) []) 9 [.int .i64 false k, .sl zl ⟨0, 0, 0, 0⟩ false l.length .any] [some ⟨3, false, false, true, .ints .i64 l⟩] (.tup [.sl (decide (putL true k l = [])) ⟨1, 0, 0, 0⟩ false (putL true k l).length .own, .int .i64 false (putE true k l)], [some ⟨3, false, false, true, .ints .i64 l⟩, some (⟨3, true, decide (putL true k l = []), true, .ints .i64 (putL true k l)⟩)]) := sound_ofP hall mix (tsigned k zl l) (gsigned k zl l hw)
theorem Fsigned_ok (hall : AllOk Try.prog 0 (fun _ => none) tab12) : PureF Try.prog 3 9 Fsigned := by
  intro xs c v news h hc
  unfold Fsigned at h
  split at h
  · rename_i _ k zl l
    cases h
    refine ⟨(by simp), SoundAt.flags (ssigned hall k zl l hc) ?_⟩
    simp [PA.avs, AV.le, AV.leL, Cap.le]
  · cases h
end Go.Proofs.Ytnkjblmlchbfkaa.Rig

/- Qraw -/
namespace Go.Proofs.Ytnkjblmlchbfkaa.Rig
open Go
set_option maxRecDepth 100000 in
theorem tLraw_0 (k : Int) (zl : Bool) (l : List Int) (i : Nat) : tidied Traw_0 Uraw_0 1 (evCode (mkL Try.prog 0 (fun _ => none) tab13 rowsraw) (evCall (mkC Try.prog 0 (fun _ => none) tab13) 50) 29 1 fuelC (bodyAt Try.prog 29 0) (hdraw_0 ⟨k, zl, l, i⟩)) =
  Tree.br (decide ((i : Int) < ((Int.toNat k) : Int)))
  (Tree.br (!zl && decide ((0 : Int) ≤ (i : Int) ∧ (i : Int) < ((Int.toNat k) : Int)))
  (Tree.br (decide (Int.toNat (i : Int) * 1 + 0 + 1 ≤ List.length l))
  (Tree.ret
  (Ex.norm,
  St.mk
  [AV.int IntKind.i64 false k, jk, jk, jk, jk, jk, jk,
  AV.int IntKind.u64 false
  (IntKind.wrap IntKind.u64
  ((BitVec.toNat
  (BitVec.ofInt (64) (IntKind.wrap IntKind.u64 (valZ (List.take i l) * (65536 : Int))) |||
  BitVec.ofInt (64) (IntKind.wrap IntKind.u64 (List.getD l (Int.toNat (i : Int) * 1 + 0 + 0) (0 : Int))))) : Int)),
  jk, jk, jk, jk, jk, jk, jk, jk, jk, jk, jk, jk, jk, jk, jk, jk, jk,
  AV.sl zl (Ref.mk (0) (0) (0) (0)) false (Int.toNat k) Cap.exact, AV.int IntKind.i64 false ((Int.toNat k) : Int), AV.int IntKind.i64 false (IntKind.wrap IntKind.i64 ((i : Int) + (1 : Int))),
  jk, jk, jk, jk, jk, jk, jk, jk, jk, jk]
  [some (Blk.mk (3) false false true (Data.ints IntKind.i64 l))]))
  Tree.fail)
  Tree.fail)
  (Tree.ret
  (Ex.exit (0),
  St.mk
  [jk, jk, jk, jk, jk, jk, jk, AV.int IntKind.u64 false (valZ (List.take i l)), jk, jk, jk, jk, jk, jk, jk, jk, jk, jk, jk, jk,
  jk, jk, jk, jk, jk, jk, jk, jk, jk, jk, jk, jk, jk, jk, jk, jk, jk, jk]
  [some (Blk.mk (3) false false true (Data.ints IntKind.i64 l))])) := by kernel_rfl
set_option maxRecDepth 100000 in
theorem stepraw_0 (k : Int) (zl : Bool) (l : List Int) (i : Nat) (ex : Ex) (r : St) (hok : okraw_0 ⟨k, zl, l, i⟩) (hr : (outraw_0 ⟨k, zl, l, i⟩).runs (ex, r)) : (Tree.br (decide ((i : Int) < ((Int.toNat k) : Int)))
  (Tree.br (!zl && decide ((0 : Int) ≤ (i : Int) ∧ (i : Int) < ((Int.toNat k) : Int)))
  (Tree.br (decide (Int.toNat (i : Int) * 1 + 0 + 1 ≤ List.length l))
  (Tree.ret
  (Ex.norm,
  St.mk
  [AV.int IntKind.i64 false k, jk, jk, jk, jk, jk, jk,
  AV.int IntKind.u64 false
  (IntKind.wrap IntKind.u64
  ((BitVec.toNat
  (BitVec.ofInt (64) (IntKind.wrap IntKind.u64 (valZ (List.take i l) * (65536 : Int))) |||
  BitVec.ofInt (64) (IntKind.wrap IntKind.u64 (List.getD l (Int.toNat (i : Int) * 1 + 0 + 0) (0 : Int))))) : Int)),
  jk, jk, jk, jk, jk, jk, jk, jk, jk, jk, jk, jk, jk, jk, jk, jk, jk,
  AV.sl zl (Ref.mk (0) (0) (0) (0)) false (Int.toNat k) Cap.exact, AV.int IntKind.i64 false ((Int.toNat k) : Int), AV.int IntKind.i64 false (IntKind.wrap IntKind.i64 ((i : Int) + (1 : Int))),
  jk, jk, jk, jk, jk, jk, jk, jk, jk, jk]
  [some (Blk.mk (3) false false true (Data.ints IntKind.i64 l))]))
  Tree.fail)
  Tree.fail)
  (Tree.ret
  (Ex.exit (0),
  St.mk
  [jk, jk, jk, jk, jk, jk, jk, AV.int IntKind.u64 false (valZ (List.take i l)), jk, jk, jk, jk, jk, jk, jk, jk, jk, jk, jk, jk,
  jk, jk, jk, jk, jk, jk, jk, jk, jk, jk, jk, jk, jk, jk, jk, jk, jk, jk]
  [some (Blk.mk (3) false false true (Data.ints IntKind.i64 l))])) : Tree (Ex × St)).Sat (Post hdraw_0 resraw_0 muraw_0 ⟨k, zl, l, i⟩ ex r) := by
  simp only [okraw_0, outraw_0, Tree.runs] at hok hr
  obtain ⟨h1k, h4k, hl, hz, hb, hi⟩ := hok
  refine Tree.Sat.br (fun h1 => ?_) (fun h1 => ?_)
  · (try simp only [decide_eq_true_eq, decide_eq_false_iff_not, Bool.not_eq_true', Bool.not_eq_false', beq_iff_eq, beq_eq_false_iff_ne, Int.not_lt, Int.not_le, ge_iff_le, gt_iff_lt, ne_eq, Bool.false_eq_true, Bool.true_eq_false, not_true_eq_false, not_false_eq_true, Bool.and_eq_true, Bool.not_eq_eq_eq_not, Bool.not_true, Bool.not_false, bne_iff_ne, bne_eq_false_iff_eq, Int.toNat_natCast, Nat.mul_one, Nat.add_zero, Nat.zero_add, List.take_length, List.drop_zero] at h1)
    all_goals
      refine Tree.Sat.br (fun h2 => ?_) (fun h2 => ?_)
      · (try simp only [decide_eq_true_eq, decide_eq_false_iff_not, Bool.not_eq_true', Bool.not_eq_false', beq_iff_eq, beq_eq_false_iff_ne, Int.not_lt, Int.not_le, ge_iff_le, gt_iff_lt, ne_eq, Bool.false_eq_true, Bool.true_eq_false, not_true_eq_false, not_false_eq_true, Bool.and_eq_true, Bool.not_eq_eq_eq_not, Bool.not_true, Bool.not_false, bne_iff_ne, bne_eq_false_iff_eq, Int.toNat_natCast, Nat.mul_one, Nat.add_zero, Nat.zero_add, List.take_length, List.drop_zero] at h2)
        all_goals
          refine Tree.Sat.br (fun h3 => ?_) (fun h3 => ?_)
          · (try simp only [decide_eq_true_eq, decide_eq_false_iff_not, Bool.not_eq_true', Bool.not_eq_false', beq_iff_eq, beq_eq_false_iff_ne, Int.not_lt, Int.not_le, ge_iff_le, gt_iff_lt, ne_eq, Bool.false_eq_true, Bool.true_eq_false, not_true_eq_false, not_false_eq_true, Bool.and_eq_true, Bool.not_eq_eq_eq_not, Bool.not_true, Bool.not_false, bne_iff_ne, bne_eq_false_iff_eq, Int.toNat_natCast, Nat.mul_one, Nat.add_zero, Nat.zero_add, List.take_length, List.drop_zero] at h3)
            all_goals
              refine Tree.Sat.ret ?_
              refine .norm ⟨k, zl, l, i + 1⟩ ?_ ?_ ⟨?_, ?_⟩
              · constructor <;> simp only [hdraw_0, AV.leL, AV.le, Mem.le, Mem.leP, Blk.le, Blk.pad, Data.le, Data.size, Cap.le, and_true, true_and, and_self, true_implies, implies_true, imp_self, List.length_nil] <;> (repeat' with_reducible refine And.intro ?_ ?_) <;> (try simp only [Int.toNat_natCast, Nat.mul_one, Nat.add_zero, Nat.zero_add]) <;> first | exact wadd1 (by omega) | exact val_step (by omega) (by omega) (any_take_le (by omega) hb)
              · simp only [muraw_0]; omega
              · exact ⟨h1k, h4k, hl, hz, hb, by omega⟩
              · exact hr
          · (try simp only [decide_eq_true_eq, decide_eq_false_iff_not, Bool.not_eq_true', Bool.not_eq_false', beq_iff_eq, beq_eq_false_iff_ne, Int.not_lt, Int.not_le, ge_iff_le, gt_iff_lt, ne_eq, Bool.false_eq_true, Bool.true_eq_false, not_true_eq_false, not_false_eq_true, Bool.and_eq_true, Bool.not_eq_eq_eq_not, Bool.not_true, Bool.not_false, bne_iff_ne, bne_eq_false_iff_eq, Int.toNat_natCast, Nat.mul_one, Nat.add_zero, Nat.zero_add, List.take_length, List.drop_zero] at h3)
            all_goals
              exfalso
              first | omega | (simp only [most48, Data.size, List.length_take, List.drop_zero, Bool.and_eq_true, decide_eq_true_eq, decide_eq_false_iff_not, Bool.and_eq_false_iff, Int.toNat_natCast] at *; omega) | (simp only [w64] at *; omega) | (simp only [most48] at *; omega) | (simp [Data.size, List.take_length] at *; done) | (cases zl <;> simp_all; done) | (cases zl <;> simp_all <;> omega)
      · (try simp only [decide_eq_true_eq, decide_eq_false_iff_not, Bool.not_eq_true', Bool.not_eq_false', beq_iff_eq, beq_eq_false_iff_ne, Int.not_lt, Int.not_le, ge_iff_le, gt_iff_lt, ne_eq, Bool.false_eq_true, Bool.true_eq_false, not_true_eq_false, not_false_eq_true, Bool.and_eq_true, Bool.not_eq_eq_eq_not, Bool.not_true, Bool.not_false, bne_iff_ne, bne_eq_false_iff_eq, Int.toNat_natCast, Nat.mul_one, Nat.add_zero, Nat.zero_add, List.take_length, List.drop_zero] at h2)
        all_goals
          exfalso
          first | omega | (simp only [most48, Data.size, List.length_take, List.drop_zero, Bool.and_eq_true, decide_eq_true_eq, decide_eq_false_iff_not, Bool.and_eq_false_iff, Int.toNat_natCast] at *; omega) | (simp only [w64] at *; omega) | (simp only [most48] at *; omega) | (simp [Data.size, List.take_length] at *; done) | (cases zl <;> simp_all; done) | (cases zl <;> simp_all <;> omega)
  · (try simp only [decide_eq_true_eq, decide_eq_false_iff_not, Bool.not_eq_true', Bool.not_eq_false', beq_iff_eq, beq_eq_false_iff_ne, Int.not_lt, Int.not_le, ge_iff_le, gt_iff_lt, ne_eq, Bool.false_eq_true, Bool.true_eq_false, not_true_eq_false, not_false_eq_true, Bool.and_eq_true, Bool.not_eq_eq_eq_not, Bool.not_true, Bool.not_false, bne_iff_ne, bne_eq_false_iff_eq, Int.toNat_natCast, Nat.mul_one, Nat.add_zero, Nat.zero_add, List.take_length, List.drop_zero] at h1)
    all_goals
      refine Tree.Sat.ret ?_
      have hq := hr
      simp only [Prod.mk.injEq] at hq
      obtain ⟨rfl, rfl⟩ := hq
      refine .exit rfl ?_
      constructor <;> simp only [AV.leL, AV.le, Mem.le, Mem.leP, Blk.le, Blk.pad, Data.le, Data.size, Cap.le, and_true, true_and, and_self, true_implies, implies_true, imp_self, List.length_nil] <;> (repeat' with_reducible refine And.intro ?_ ?_) <;> (try simp only [Int.toNat_natCast, Nat.mul_one, Nat.add_zero, Nat.zero_add]) <;> rw [show i = k.toNat by omega]
set_option maxHeartbeats 2000000 in
set_option maxRecDepth 100000 in
theorem loopraw_0 (hall : AllOk Try.prog 0 (fun _ => none) tab13) : LoopOk (mkL Try.prog 0 (fun _ => none) tab13 rowsraw) 29 1 (bodyAt Try.prog 29 0) := by
  have hkey : Code.key (bodyAt Try.prog 29 0) = 8 := by kernel_rfl
  have hin : loopsIn (bodyAt Try.prog 29 0) = [] := by kernel_rfl
  have hrow : lookL rowsraw 29 (Code.key (bodyAt Try.prog 29 0)) = some rowraw_0 := by rw [hkey]; rfl
  refine loop_rowP (X := Xraw_0) (row := rowraw_0) hall mix hrow (fun b hb _ => by rw [hin] at hb; cases hb) Uraw_0 hdraw_0 resraw_0 muraw_0 (fun st ex r h => ?_) (fun x ex r hr => ?_)
  · have h' : (ansraw_0 st).runs (ex, r) := h
    unfold ansraw_0 at h'
    split at h'
    · obtain ⟨q1, q2⟩ := Tree.chk_runs h'
      exact ⟨_, q1, q2⟩
    · exact h'.elim
  · obtain ⟨k, zl, l, i⟩ := x
    have := stepraw_0 k zl l i ex r hr.1 hr.2
    rw [← tLraw_0] at this
    (try rw [show rowraw_0.tidy = Traw_0 from rfl])
    exact this
theorem loopsraw (hall : AllOk Try.prog 0 (fun _ => none) tab13) : ∀ i, i < (loopsAt Try.prog 29).length → LoopOk (mkL Try.prog 0 (fun _ => none) tab13 rowsraw) 29 1 (bodyAt Try.prog 29 i) := by
  intro i hi
  have hlen : (loopsAt Try.prog 29).length = 1 := by kernel_rfl
  rw [hlen] at hi
  obtain rfl : i = 0 := by omega
  · exact loopraw_0 hall
set_option maxRecDepth 100000 in
theorem traw (k : Int) (zl : Bool) (l : List Int) : evBody (mkL Try.prog 0 (fun _ => none) tab13 rowsraw) (evCall (mkC Try.prog 0 (fun _ => none) tab13) 50) 29 [.int .i64 false k, .sl zl ⟨0, 0, 0, 0⟩ false l.length .any] [some ⟨3, false, false, true, .ints .i64 l⟩] =
  Tree.br (decide (k < (1 : Int))) (Tree.ret (AV.tup [AV.int IntKind.u64 true (0 : Int), AV.int IntKind.i64 true (2 : Int)], [some (Blk.mk (3) false false true (Data.ints IntKind.i64 l))]))
  (Tree.br (decide (k > (4 : Int))) (Tree.ret (AV.tup [AV.int IntKind.u64 true (0 : Int), AV.int IntKind.i64 true (2 : Int)], [some (Blk.mk (3) false false true (Data.ints IntKind.i64 l))]))
  (Tree.chk
  ((True ∧ 0 + List.length l ≤ List.length l ∧ True) ∧
  short (List.take (List.length l) (List.drop (0) l)) ∧ (zl = true → List.take (List.length l) (List.drop (0) l) = []) ∧ (0 : Int) ≤ k ∧ k ≤ (140737488355328 : Int))
  (Tree.br (lookZ k (List.take (List.length l) (List.drop (0) l)) != (0 : Int))
  (Tree.ret (AV.tup [AV.int IntKind.u64 true (0 : Int), AV.int IntKind.i64 false (lookZ k (List.take (List.length l) (List.drop (0) l)))], [some (Blk.mk (3) false false true (Data.ints IntKind.i64 l))]))
  (Tree.br (decide ((0 : Int) ≤ (0 : Int) ∧ (0 : Int) ≤ k ∧ k ≤ k ∧ k ≤ ((List.length l) : Int)))
  (Tree.br (decide (k = k))
  (Tree.chk
  (St.le
  (St.mk
  [AV.int IntKind.i64 false k, jk, jk, jk, jk, jk, jk, AV.int IntKind.u64 true (0 : Int), jk, jk, jk, jk, jk, jk, jk, jk, jk, jk, jk,
  jk, jk, jk, jk, jk, jk, AV.sl zl (Ref.mk (0) (0) (0) (0)) false (Int.toNat k - Int.toNat (0 : Int)) Cap.exact,
  AV.int IntKind.i64 false ((Int.toNat k - Int.toNat (0 : Int)) : Int), AV.int IntKind.i64 true (0 : Int), jk, jk, jk, jk, jk, jk, jk, jk, jk, jk]
  [some (Blk.mk (3) false false true (Data.ints IntKind.i64 l))])
  (St.mk
  [AV.int IntKind.i64 false k, jk, jk, jk, jk, jk, jk, AV.int IntKind.u64 false (valZ (List.take (Int.toNat (0 : Int)) l)), jk, jk, jk, jk, jk, jk, jk,
  jk, jk, jk, jk, jk, jk, jk, jk, jk, jk, AV.sl zl (Ref.mk (0) (0) (0) (0)) false (Int.toNat k) Cap.exact,
  AV.int IntKind.i64 false ((Int.toNat k) : Int), AV.int IntKind.i64 false (0 : Int), jk, jk, jk, jk, jk, jk, jk, jk, jk, jk]
  [some (Blk.mk (3) false false true (Data.ints IntKind.i64 l))]))
  (Tree.chk (okraw_0 (Xraw_0.mk k zl l (Int.toNat (0 : Int))))
  (Tree.ret (AV.tup [AV.int IntKind.u64 false (valZ (List.take (Int.toNat k) l)), AV.int IntKind.i64 true (0 : Int)], [some (Blk.mk (3) false false true (Data.ints IntKind.i64 l))]))))
  Tree.fail)
  Tree.fail)))) := by kernel_rfl
set_option maxRecDepth 100000 in
theorem graw (k : Int) (zl : Bool) (l : List Int) (hw : short l ∧ (zl = true → l = [])) : (Tree.br (decide (k < (1 : Int))) (Tree.ret (AV.tup [AV.int IntKind.u64 true (0 : Int), AV.int IntKind.i64 true (2 : Int)], [some (Blk.mk (3) false false true (Data.ints IntKind.i64 l))]))
  (Tree.br (decide (k > (4 : Int))) (Tree.ret (AV.tup [AV.int IntKind.u64 true (0 : Int), AV.int IntKind.i64 true (2 : Int)], [some (Blk.mk (3) false false true (Data.ints IntKind.i64 l))]))
  (Tree.chk
  ((True ∧ 0 + List.length l ≤ List.length l ∧ True) ∧
  short (List.take (List.length l) (List.drop (0) l)) ∧ (zl = true → List.take (List.length l) (List.drop (0) l) = []) ∧ (0 : Int) ≤ k ∧ k ≤ (140737488355328 : Int))
  (Tree.br (lookZ k (List.take (List.length l) (List.drop (0) l)) != (0 : Int))
  (Tree.ret (AV.tup [AV.int IntKind.u64 true (0 : Int), AV.int IntKind.i64 false (lookZ k (List.take (List.length l) (List.drop (0) l)))], [some (Blk.mk (3) false false true (Data.ints IntKind.i64 l))]))
  (Tree.br (decide ((0 : Int) ≤ (0 : Int) ∧ (0 : Int) ≤ k ∧ k ≤ k ∧ k ≤ ((List.length l) : Int)))
  (Tree.br (decide (k = k))
  (Tree.chk
  (St.le
  (St.mk
  [AV.int IntKind.i64 false k, jk, jk, jk, jk, jk, jk, AV.int IntKind.u64 true (0 : Int), jk, jk, jk, jk, jk, jk, jk, jk, jk, jk, jk,
  jk, jk, jk, jk, jk, jk, AV.sl zl (Ref.mk (0) (0) (0) (0)) false (Int.toNat k - Int.toNat (0 : Int)) Cap.exact,
  AV.int IntKind.i64 false ((Int.toNat k - Int.toNat (0 : Int)) : Int), AV.int IntKind.i64 true (0 : Int), jk, jk, jk, jk, jk, jk, jk, jk, jk, jk]
  [some (Blk.mk (3) false false true (Data.ints IntKind.i64 l))])
  (St.mk
  [AV.int IntKind.i64 false k, jk, jk, jk, jk, jk, jk, AV.int IntKind.u64 false (valZ (List.take (Int.toNat (0 : Int)) l)), jk, jk, jk, jk, jk, jk, jk,
  jk, jk, jk, jk, jk, jk, jk, jk, jk, jk, AV.sl zl (Ref.mk (0) (0) (0) (0)) false (Int.toNat k) Cap.exact,
  AV.int IntKind.i64 false ((Int.toNat k) : Int), AV.int IntKind.i64 false (0 : Int), jk, jk, jk, jk, jk, jk, jk, jk, jk, jk]
  [some (Blk.mk (3) false false true (Data.ints IntKind.i64 l))]))
  (Tree.chk (okraw_0 (Xraw_0.mk k zl l (Int.toNat (0 : Int))))
  (Tree.ret (AV.tup [AV.int IntKind.u64 false (valZ (List.take (Int.toNat k) l)), AV.int IntKind.i64 true (0 : Int)], [some (Blk.mk (3) false false true (Data.ints IntKind.i64 l))]))))
  Tree.fail)
  Tree.fail)))) : Tree (AV × Mem)).GivesP (.tup [.int .u64 false (rawV k l), .int .i64 false (rawE k l)]) ([some ⟨3, false, false, true, .ints .i64 l⟩]) := by
  refine Tree.GivesP.br (fun h1 => ?_) (fun h1 => ?_)
  · (try simp only [decide_eq_true_eq, decide_eq_false_iff_not, Bool.not_eq_true', Bool.not_eq_false', beq_iff_eq, beq_eq_false_iff_ne, Int.not_lt, Int.not_le, ge_iff_le, gt_iff_lt, ne_eq, Bool.false_eq_true, Bool.true_eq_false, not_true_eq_false, not_false_eq_true, Bool.and_eq_true, Bool.not_eq_eq_eq_not, Bool.not_true, Bool.not_false, bne_iff_ne, bne_eq_false_iff_eq, Int.toNat_natCast, Nat.mul_one, Nat.add_zero, Nat.zero_add, List.take_length, List.drop_zero, List.take_length, List.drop_zero] at h1)
    all_goals
      refine Tree.GivesP.ret ?_ ?_
      have e : kOk k = false := by simp [kOk]; omega
      · simp [AV.le, AV.leL, rawV, rawE, e]
      · simp [Mem.leP, Blk.le, Data.le]
  · (try simp only [decide_eq_true_eq, decide_eq_false_iff_not, Bool.not_eq_true', Bool.not_eq_false', beq_iff_eq, beq_eq_false_iff_ne, Int.not_lt, Int.not_le, ge_iff_le, gt_iff_lt, ne_eq, Bool.false_eq_true, Bool.true_eq_false, not_true_eq_false, not_false_eq_true, Bool.and_eq_true, Bool.not_eq_eq_eq_not, Bool.not_true, Bool.not_false, bne_iff_ne, bne_eq_false_iff_eq, Int.toNat_natCast, Nat.mul_one, Nat.add_zero, Nat.zero_add, List.take_length, List.drop_zero, List.take_length, List.drop_zero] at h1)
    all_goals
      refine Tree.GivesP.br (fun h2 => ?_) (fun h2 => ?_)
      · (try simp only [decide_eq_true_eq, decide_eq_false_iff_not, Bool.not_eq_true', Bool.not_eq_false', beq_iff_eq, beq_eq_false_iff_ne, Int.not_lt, Int.not_le, ge_iff_le, gt_iff_lt, ne_eq, Bool.false_eq_true, Bool.true_eq_false, not_true_eq_false, not_false_eq_true, Bool.and_eq_true, Bool.not_eq_eq_eq_not, Bool.not_true, Bool.not_false, bne_iff_ne, bne_eq_false_iff_eq, Int.toNat_natCast, Nat.mul_one, Nat.add_zero, Nat.zero_add, List.take_length, List.drop_zero, List.take_length, List.drop_zero] at h2)
        all_goals
          refine Tree.GivesP.ret ?_ ?_
          have e : kOk k = false := by simp [kOk]; omega
          · simp [AV.le, AV.leL, rawV, rawE, e]
          · simp [Mem.leP, Blk.le, Data.le]
      · (try simp only [decide_eq_true_eq, decide_eq_false_iff_not, Bool.not_eq_true', Bool.not_eq_false', beq_iff_eq, beq_eq_false_iff_ne, Int.not_lt, Int.not_le, ge_iff_le, gt_iff_lt, ne_eq, Bool.false_eq_true, Bool.true_eq_false, not_true_eq_false, not_false_eq_true, Bool.and_eq_true, Bool.not_eq_eq_eq_not, Bool.not_true, Bool.not_false, bne_iff_ne, bne_eq_false_iff_eq, Int.toNat_natCast, Nat.mul_one, Nat.add_zero, Nat.zero_add, List.take_length, List.drop_zero, List.take_length, List.drop_zero] at h2)
        all_goals
          refine Tree.GivesP.chk (by first | (simp only [and_self]; done) | (simp only [List.take_length, List.drop_zero]; exact ⟨⟨trivial, by omega, trivial⟩, hw.1, hw.2, by omega, by omega⟩)) ?_
          refine Tree.GivesP.br (fun h3 => ?_) (fun h3 => ?_)
          · (try simp only [decide_eq_true_eq, decide_eq_false_iff_not, Bool.not_eq_true', Bool.not_eq_false', beq_iff_eq, beq_eq_false_iff_ne, Int.not_lt, Int.not_le, ge_iff_le, gt_iff_lt, ne_eq, Bool.false_eq_true, Bool.true_eq_false, not_true_eq_false, not_false_eq_true, Bool.and_eq_true, Bool.not_eq_eq_eq_not, Bool.not_true, Bool.not_false, bne_iff_ne, bne_eq_false_iff_eq, Int.toNat_natCast, Nat.mul_one, Nat.add_zero, Nat.zero_add, List.take_length, List.drop_zero, List.take_length, List.drop_zero] at h3)
            all_goals
              refine Tree.GivesP.ret ?_ ?_
              have e : kOk k = true := by simp [kOk]; omega
              · simp [AV.le, AV.leL, rawV, rawE, e, h3]
              · simp [Mem.leP, Blk.le, Data.le]
          · (try simp only [decide_eq_true_eq, decide_eq_false_iff_not, Bool.not_eq_true', Bool.not_eq_false', beq_iff_eq, beq_eq_false_iff_ne, Int.not_lt, Int.not_le, ge_iff_le, gt_iff_lt, ne_eq, Bool.false_eq_true, Bool.true_eq_false, not_true_eq_false, not_false_eq_true, Bool.and_eq_true, Bool.not_eq_eq_eq_not, Bool.not_true, Bool.not_false, bne_iff_ne, bne_eq_false_iff_eq, Int.toNat_natCast, Nat.mul_one, Nat.add_zero, Nat.zero_add, List.take_length, List.drop_zero, List.take_length, List.drop_zero] at h3)
            all_goals
              refine Tree.GivesP.br (fun h4 => ?_) (fun h4 => ?_)
              · (try simp only [decide_eq_true_eq, decide_eq_false_iff_not, Bool.not_eq_true', Bool.not_eq_false', beq_iff_eq, beq_eq_false_iff_ne, Int.not_lt, Int.not_le, ge_iff_le, gt_iff_lt, ne_eq, Bool.false_eq_true, Bool.true_eq_false, not_true_eq_false, not_false_eq_true, Bool.and_eq_true, Bool.not_eq_eq_eq_not, Bool.not_true, Bool.not_false, bne_iff_ne, bne_eq_false_iff_eq, Int.toNat_natCast, Nat.mul_one, Nat.add_zero, Nat.zero_add, List.take_length, List.drop_zero, List.take_length, List.drop_zero] at h4)
                all_goals
                  refine Tree.GivesP.br (fun h5 => ?_) (fun h5 => ?_)
                  · (try simp only [decide_eq_true_eq, decide_eq_false_iff_not, Bool.not_eq_true', Bool.not_eq_false', beq_iff_eq, beq_eq_false_iff_ne, Int.not_lt, Int.not_le, ge_iff_le, gt_iff_lt, ne_eq, Bool.false_eq_true, Bool.true_eq_false, not_true_eq_false, not_false_eq_true, Bool.and_eq_true, Bool.not_eq_eq_eq_not, Bool.not_true, Bool.not_false, bne_iff_ne, bne_eq_false_iff_eq, Int.toNat_natCast, Nat.mul_one, Nat.add_zero, Nat.zero_add, List.take_length, List.drop_zero, List.take_length, List.drop_zero] at h5)
                    all_goals
                      refine Tree.GivesP.chk (by first | (simp only [and_self]; done) | (constructor <;> simp only [hdraw_0, Int.toNat_zero, Int.cast_ofNat_Int, AV.leL, AV.le, Mem.le, Mem.leP, Blk.le, Blk.pad, Data.le, Data.size, Cap.le, and_true, true_and, and_self, true_implies, implies_true, imp_self, List.length_nil] <;> (try simp only [List.take_zero]) <;> (try rfl) <;> (try simp) <;> (try rfl))) ?_
                      refine Tree.GivesP.chk (by first | (simp only [and_self]; done) | (exact ⟨by omega, by omega, by have := (look_ok h3).2; omega, hw.2, (look_ok h3).1, Nat.zero_le _⟩)) ?_
                      refine Tree.GivesP.ret ?_ ?_
                      have e : kOk k = true := by simp [kOk]; omega
                      · simp [AV.le, AV.leL, rawV, rawE, e, h3]
                      · simp [Mem.leP, Blk.le, Data.le]
                  · (try simp only [decide_eq_true_eq, decide_eq_false_iff_not, Bool.not_eq_true', Bool.not_eq_false', beq_iff_eq, beq_eq_false_iff_ne, Int.not_lt, Int.not_le, ge_iff_le, gt_iff_lt, ne_eq, Bool.false_eq_true, Bool.true_eq_false, not_true_eq_false, not_false_eq_true, Bool.and_eq_true, Bool.not_eq_eq_eq_not, Bool.not_true, Bool.not_false, bne_iff_ne, bne_eq_false_iff_eq, Int.toNat_natCast, Nat.mul_one, Nat.add_zero, Nat.zero_add, List.take_length, List.drop_zero, List.take_length, List.drop_zero] at h5)
                    all_goals
                      exfalso
                      have hlk := look_ok h3
                      simp at *
                      omega
              · (try simp only [decide_eq_true_eq, decide_eq_false_iff_not, Bool.not_eq_true', Bool.not_eq_false', beq_iff_eq, beq_eq_false_iff_ne, Int.not_lt, Int.not_le, ge_iff_le, gt_iff_lt, ne_eq, Bool.false_eq_true, Bool.true_eq_false, not_true_eq_false, not_false_eq_true, Bool.and_eq_true, Bool.not_eq_eq_eq_not, Bool.not_true, Bool.not_false, bne_iff_ne, bne_eq_false_iff_eq, Int.toNat_natCast, Nat.mul_one, Nat.add_zero, Nat.zero_add, List.take_length, List.drop_zero, List.take_length, List.drop_zero] at h4)
                all_goals
                  exfalso
                  have hlk := look_ok h3
                  simp at *
                  omega
theorem sraw (hall : AllOk Try.prog 0 (fun _ => none) tab13) (k : Int) (zl : Bool) (l : List Int) (hw : short l ∧ (zl = true → l = [])) : SoundAt (mkC Try.prog 0 (fun _ => none) []) 29 [.int .i64 false k, .sl zl ⟨0, 0, 0, 0⟩ false l.length .any] [some ⟨3, false, false, true, .ints .i64 l⟩] (.tup [.int .u64 false (rawV k l), .int .i64 false (rawE k l)], [some ⟨3, false, false, true, .ints .i64 l⟩]) := sound_loopsP hall mix (loopsraw hall) (traw k zl l) (graw k zl l hw)
theorem Fraw_ok (hall : AllOk Try.prog 0 (fun _ => none) tab13) : PureF Try.prog 3 29 Fraw := by
  intro xs c v news h hc
  unfold Fraw at h
  split at h
  · rename_i _ k zl l
    cases h
    refine ⟨(by intro b hb; cases hb), SoundAt.flags (sraw hall k zl l hc) ?_⟩
    simp [PA.avs, AV.le, AV.leL, Cap.le]
  · cases h
end Go.Proofs.Ytnkjblmlchbfkaa.Rig

/- Qget -/
namespace Go.Proofs.Ytnkjblmlchbfkaa.Rig
open Go
set_option maxRecDepth 100000 in
theorem tget (k : Int) (zl : Bool) (l : List Int) : evBody (mkC Try.prog 0 (fun _ => none) tab14) (evCall (mkC Try.prog 0 (fun _ => none) tab14) 50) 15 [.int .i64 false k, .sl zl ⟨0, 0, 0, 0⟩ false l.length .any] [some ⟨3, false, false, true, .ints .i64 l⟩] =
  Tree.chk ((True ∧ 0 + List.length l ≤ List.length l ∧ True) ∧ short (List.take (List.length l) (List.drop (0) l)) ∧ (zl = true → List.take (List.length l) (List.drop (0) l) = []))
  (Tree.br (rawE k (List.take (List.length l) (List.drop (0) l)) != (0 : Int))
  (Tree.ret (AV.tup [AV.int IntKind.i64 true (0 : Int), AV.int IntKind.i64 false (rawE k (List.take (List.length l) (List.drop (0) l)))], [some (Blk.mk (3) false false true (Data.ints IntKind.i64 l))]))
  (Tree.br (!decide (IntKind.wrap IntKind.i64 ((64 : Int) - IntKind.wrap IntKind.i64 ((16 : Int) * k)) < (0 : Int)))
  (Tree.br (!decide (IntKind.wrap IntKind.i64 ((64 : Int) - IntKind.wrap IntKind.i64 ((16 : Int) * k)) < (0 : Int)))
  (Tree.ret
  (AV.tup
  [AV.int IntKind.i64 false
  (Int.fdiv
  (IntKind.wrap IntKind.i64
  (IntKind.wrap IntKind.i64 (rawV k (List.take (List.length l) (List.drop (0) l))) *
  (2 : Int) ^ min (Int.toNat (IntKind.wrap IntKind.i64 ((64 : Int) - IntKind.wrap IntKind.i64 ((16 : Int) * k)))) (64)))
  ((2 : Int) ^ min (Int.toNat (IntKind.wrap IntKind.i64 ((64 : Int) - IntKind.wrap IntKind.i64 ((16 : Int) * k)))) (64))),
  AV.int IntKind.i64 false (rawE k (List.take (List.length l) (List.drop (0) l)))],
  [some (Blk.mk (3) false false true (Data.ints IntKind.i64 l))]))
  Tree.fail)
  Tree.fail)) := by kernel_rfl
set_option maxRecDepth 100000 in
theorem gget (k : Int) (zl : Bool) (l : List Int) (hw : short l ∧ (zl = true → l = [])) : (Tree.chk ((True ∧ 0 + List.length l ≤ List.length l ∧ True) ∧ short (List.take (List.length l) (List.drop (0) l)) ∧ (zl = true → List.take (List.length l) (List.drop (0) l) = []))
  (Tree.br (rawE k (List.take (List.length l) (List.drop (0) l)) != (0 : Int))
  (Tree.ret (AV.tup [AV.int IntKind.i64 true (0 : Int), AV.int IntKind.i64 false (rawE k (List.take (List.length l) (List.drop (0) l)))], [some (Blk.mk (3) false false true (Data.ints IntKind.i64 l))]))
  (Tree.br (!decide (IntKind.wrap IntKind.i64 ((64 : Int) - IntKind.wrap IntKind.i64 ((16 : Int) * k)) < (0 : Int)))
  (Tree.br (!decide (IntKind.wrap IntKind.i64 ((64 : Int) - IntKind.wrap IntKind.i64 ((16 : Int) * k)) < (0 : Int)))
  (Tree.ret
  (AV.tup
  [AV.int IntKind.i64 false
  (Int.fdiv
  (IntKind.wrap IntKind.i64
  (IntKind.wrap IntKind.i64 (rawV k (List.take (List.length l) (List.drop (0) l))) *
  (2 : Int) ^ min (Int.toNat (IntKind.wrap IntKind.i64 ((64 : Int) - IntKind.wrap IntKind.i64 ((16 : Int) * k)))) (64)))
  ((2 : Int) ^ min (Int.toNat (IntKind.wrap IntKind.i64 ((64 : Int) - IntKind.wrap IntKind.i64 ((16 : Int) * k)))) (64))),
  AV.int IntKind.i64 false (rawE k (List.take (List.length l) (List.drop (0) l)))],
  [some (Blk.mk (3) false false true (Data.ints IntKind.i64 l))]))
  Tree.fail)
  Tree.fail)) : Tree (AV × Mem)).GivesP (.tup [.int .i64 false (getV k l), .int .i64 false (rawE k l)]) ([some ⟨3, false, false, true, .ints .i64 l⟩]) := by
  have hr := raw_facts k l
  refine Tree.GivesP.chk (by first | (simp only [and_self]; done) | (simp only [List.take_length, List.drop_zero]; exact ⟨⟨trivial, by omega, trivial⟩, hw.1, hw.2⟩)) ?_
  refine Tree.GivesP.br (fun h1 => ?_) (fun h1 => ?_)
  · (try simp only [decide_eq_true_eq, decide_eq_false_iff_not, Bool.not_eq_true', Bool.not_eq_false', beq_iff_eq, beq_eq_false_iff_ne, Int.not_lt, Int.not_le, ge_iff_le, gt_iff_lt, ne_eq, Bool.false_eq_true, Bool.true_eq_false, not_true_eq_false, not_false_eq_true, Bool.and_eq_true, Bool.not_eq_eq_eq_not, Bool.not_true, Bool.not_false, bne_iff_ne, bne_eq_false_iff_eq, Int.toNat_natCast, Nat.mul_one, Nat.add_zero, Nat.zero_add, List.take_length, List.drop_zero, List.take_length, List.drop_zero] at h1)
    all_goals
      refine Tree.GivesP.ret ?_ ?_
      · simp only [List.take_length, List.drop_zero, AV.le, AV.leL, true_and, and_true]; exact (get_bad h1).symm
      · simp only [AV.leL, AV.le, Mem.le, Mem.leP, Blk.le, Blk.pad, Data.le, Data.size, Cap.le, and_true, true_and, and_self, true_implies, implies_true, imp_self, List.length_nil]
  · (try simp only [decide_eq_true_eq, decide_eq_false_iff_not, Bool.not_eq_true', Bool.not_eq_false', beq_iff_eq, beq_eq_false_iff_ne, Int.not_lt, Int.not_le, ge_iff_le, gt_iff_lt, ne_eq, Bool.false_eq_true, Bool.true_eq_false, not_true_eq_false, not_false_eq_true, Bool.and_eq_true, Bool.not_eq_eq_eq_not, Bool.not_true, Bool.not_false, bne_iff_ne, bne_eq_false_iff_eq, Int.toNat_natCast, Nat.mul_one, Nat.add_zero, Nat.zero_add, List.take_length, List.drop_zero, List.take_length, List.drop_zero] at h1)
    all_goals
      refine Tree.GivesP.br (fun h2 => ?_) (fun h2 => ?_)
      · (try simp only [decide_eq_true_eq, decide_eq_false_iff_not, Bool.not_eq_true', Bool.not_eq_false', beq_iff_eq, beq_eq_false_iff_ne, Int.not_lt, Int.not_le, ge_iff_le, gt_iff_lt, ne_eq, Bool.false_eq_true, Bool.true_eq_false, not_true_eq_false, not_false_eq_true, Bool.and_eq_true, Bool.not_eq_eq_eq_not, Bool.not_true, Bool.not_false, bne_iff_ne, bne_eq_false_iff_eq, Int.toNat_natCast, Nat.mul_one, Nat.add_zero, Nat.zero_add, List.take_length, List.drop_zero, List.take_length, List.drop_zero] at h2)
        all_goals
          refine Tree.GivesP.br (fun h3 => ?_) (fun h3 => ?_)
          · (try simp only [decide_eq_true_eq, decide_eq_false_iff_not, Bool.not_eq_true', Bool.not_eq_false', beq_iff_eq, beq_eq_false_iff_ne, Int.not_lt, Int.not_le, ge_iff_le, gt_iff_lt, ne_eq, Bool.false_eq_true, Bool.true_eq_false, not_true_eq_false, not_false_eq_true, Bool.and_eq_true, Bool.not_eq_eq_eq_not, Bool.not_true, Bool.not_false, bne_iff_ne, bne_eq_false_iff_eq, Int.toNat_natCast, Nat.mul_one, Nat.add_zero, Nat.zero_add, List.take_length, List.drop_zero, List.take_length, List.drop_zero] at h3)
            all_goals
              refine Tree.GivesP.ret ?_ ?_
              · simp only [List.take_length, List.drop_zero, AV.le, AV.leL, true_and, and_true]; exact get_good h1
              · simp only [AV.leL, AV.le, Mem.le, Mem.leP, Blk.le, Blk.pad, Data.le, Data.size, Cap.le, and_true, true_and, and_self, true_implies, implies_true, imp_self, List.length_nil]
          · (try simp only [decide_eq_true_eq, decide_eq_false_iff_not, Bool.not_eq_true', Bool.not_eq_false', beq_iff_eq, beq_eq_false_iff_ne, Int.not_lt, Int.not_le, ge_iff_le, gt_iff_lt, ne_eq, Bool.false_eq_true, Bool.true_eq_false, not_true_eq_false, not_false_eq_true, Bool.and_eq_true, Bool.not_eq_eq_eq_not, Bool.not_true, Bool.not_false, bne_iff_ne, bne_eq_false_iff_eq, Int.toNat_natCast, Nat.mul_one, Nat.add_zero, Nat.zero_add, List.take_length, List.drop_zero, List.take_length, List.drop_zero] at h3)
            all_goals
              exfalso
              have := hr.2.2 h1
              simp only [w64] at *; omega
      · (try simp only [decide_eq_true_eq, decide_eq_false_iff_not, Bool.not_eq_true', Bool.not_eq_false', beq_iff_eq, beq_eq_false_iff_ne, Int.not_lt, Int.not_le, ge_iff_le, gt_iff_lt, ne_eq, Bool.false_eq_true, Bool.true_eq_false, not_true_eq_false, not_false_eq_true, Bool.and_eq_true, Bool.not_eq_eq_eq_not, Bool.not_true, Bool.not_false, bne_iff_ne, bne_eq_false_iff_eq, Int.toNat_natCast, Nat.mul_one, Nat.add_zero, Nat.zero_add, List.take_length, List.drop_zero, List.take_length, List.drop_zero] at h2)
        all_goals
          exfalso
          have := hr.2.2 h1
          simp only [w64] at *; omega
theorem sget (hall : AllOk Try.prog 0 (fun _ => none) tab14) (k : Int) (zl : Bool) (l : List Int) (hw : short l ∧ (zl = true → l = [])) : SoundAt (mkC Try.prog 0 (fun _ => none) []) 15 [.int .i64 false k, .sl zl ⟨0, 0, 0, 0⟩ false l.length .any] [some ⟨3, false, false, true, .ints .i64 l⟩] (.tup [.int .i64 false (getV k l), .int .i64 false (rawE k l)], [some ⟨3, false, false, true, .ints .i64 l⟩]) := sound_ofP hall mix (tget k zl l) (gget k zl l hw)
theorem Fget_ok (hall : AllOk Try.prog 0 (fun _ => none) tab14) : PureF Try.prog 3 15 Fget := by
  intro xs c v news h hc
  unfold Fget at h
  split at h
  · rename_i _ k zl l
    cases h
    refine ⟨(by intro b hb; cases hb), SoundAt.flags (sget hall k zl l hc) ?_⟩
    simp [PA.avs, AV.le, AV.leL, Cap.le]
  · cases h
end Go.Proofs.Ytnkjblmlchbfkaa.Rig

/- Qsize -/
namespace Go.Proofs.Ytnkjblmlchbfkaa.Rig
open Go
set_option maxRecDepth 100000 in
theorem tLsize_0 (zl : Bool) (l : List Int) (i : Nat) : tidied Tsize_0 Usize_0 1 (evCode (mkL Try.prog 0 (fun _ => none) tab15 rowssize) (evCall (mkC Try.prog 0 (fun _ => none) tab15) 50) 23 1 fuelC (bodyAt Try.prog 23 0) (hdsize_0 ⟨zl, l, i⟩)) =
  Tree.br (decide ((i : Int) < ((List.length l) : Int)))
  (Tree.br (!zl && decide ((0 : Int) ≤ (i : Int) ∧ (i : Int) < ((List.length l) : Int)))
  (Tree.br (decide (Int.toNat (i : Int) * 1 + 0 + 1 ≤ List.length l))
  (Tree.br (decide (List.getD l (Int.toNat (i : Int) * 1 + 0 + 0) (0 : Int) < (1 : Int)))
  (Tree.ret
  (Ex.ret,
  St.mk
  [jk, jk, AV.int IntKind.i64 true (0 : Int), jk, jk, jk, jk, jk, jk, jk, jk, jk, jk, jk, jk, jk, jk, jk, jk, jk, jk, jk,
  jk, jk, jk, jk]
  [some (Blk.mk (3) false false true (Data.ints IntKind.i64 l))]))
  (Tree.br (decide (List.getD l (Int.toNat (i : Int) * 1 + 0 + 0) (0 : Int) > (16 : Int)))
  (Tree.ret
  (Ex.ret,
  St.mk
  [jk, jk, AV.int IntKind.i64 true (0 : Int), jk, jk, jk, jk, jk, jk, jk, jk, jk, jk, jk, jk, jk, jk, jk, jk, jk, jk, jk,
  jk, jk, jk, jk]
  [some (Blk.mk (3) false false true (Data.ints IntKind.i64 l))]))
  (Tree.ret
  (Ex.norm,
  St.mk
  [jk, jk, jk, AV.int IntKind.i64 false (IntKind.wrap IntKind.i64 (sumI (List.take i l) + List.getD l (Int.toNat (i : Int) * 1 + 0 + 0) (0 : Int))), jk, jk,
  AV.sl zl (Ref.mk (0) (0) (0) (0)) false (List.length l) Cap.any, AV.int IntKind.i64 false ((List.length l) : Int), AV.int IntKind.i64 false (IntKind.wrap IntKind.i64 ((i : Int) + (1 : Int))),
  jk, jk, jk, jk, jk, jk, jk, jk, jk, jk, jk, jk, jk, jk, jk, jk, jk]
  [some (Blk.mk (3) false false true (Data.ints IntKind.i64 l))]))))
  Tree.fail)
  Tree.fail)
  (Tree.ret
  (Ex.exit (0),
  St.mk
  [jk, jk, jk, AV.int IntKind.i64 false (sumI (List.take i l)), jk, jk, jk, jk, jk, jk, jk, jk, jk, jk, jk, jk, jk, jk, jk, jk,
  jk, jk, jk, jk, jk, jk]
  [some (Blk.mk (3) false false true (Data.ints IntKind.i64 l))])) := by kernel_rfl
set_option maxRecDepth 100000 in
theorem stepsize_0 (zl : Bool) (l : List Int) (i : Nat) (ex : Ex) (r : St) (hok : oksize_0 ⟨zl, l, i⟩) (hr : (outsize_0 ⟨zl, l, i⟩).runs (ex, r)) : (Tree.br (decide ((i : Int) < ((List.length l) : Int)))
  (Tree.br (!zl && decide ((0 : Int) ≤ (i : Int) ∧ (i : Int) < ((List.length l) : Int)))
  (Tree.br (decide (Int.toNat (i : Int) * 1 + 0 + 1 ≤ List.length l))
  (Tree.br (decide (List.getD l (Int.toNat (i : Int) * 1 + 0 + 0) (0 : Int) < (1 : Int)))
  (Tree.ret
  (Ex.ret,
  St.mk
  [jk, jk, AV.int IntKind.i64 true (0 : Int), jk, jk, jk, jk, jk, jk, jk, jk, jk, jk, jk, jk, jk, jk, jk, jk, jk, jk, jk,
  jk, jk, jk, jk]
  [some (Blk.mk (3) false false true (Data.ints IntKind.i64 l))]))
  (Tree.br (decide (List.getD l (Int.toNat (i : Int) * 1 + 0 + 0) (0 : Int) > (16 : Int)))
  (Tree.ret
  (Ex.ret,
  St.mk
  [jk, jk, AV.int IntKind.i64 true (0 : Int), jk, jk, jk, jk, jk, jk, jk, jk, jk, jk, jk, jk, jk, jk, jk, jk, jk, jk, jk,
  jk, jk, jk, jk]
  [some (Blk.mk (3) false false true (Data.ints IntKind.i64 l))]))
  (Tree.ret
  (Ex.norm,
  St.mk
  [jk, jk, jk, AV.int IntKind.i64 false (IntKind.wrap IntKind.i64 (sumI (List.take i l) + List.getD l (Int.toNat (i : Int) * 1 + 0 + 0) (0 : Int))), jk, jk,
  AV.sl zl (Ref.mk (0) (0) (0) (0)) false (List.length l) Cap.any, AV.int IntKind.i64 false ((List.length l) : Int), AV.int IntKind.i64 false (IntKind.wrap IntKind.i64 ((i : Int) + (1 : Int))),
  jk, jk, jk, jk, jk, jk, jk, jk, jk, jk, jk, jk, jk, jk, jk, jk, jk]
  [some (Blk.mk (3) false false true (Data.ints IntKind.i64 l))]))))
  Tree.fail)
  Tree.fail)
  (Tree.ret
  (Ex.exit (0),
  St.mk
  [jk, jk, jk, AV.int IntKind.i64 false (sumI (List.take i l)), jk, jk, jk, jk, jk, jk, jk, jk, jk, jk, jk, jk, jk, jk, jk, jk,
  jk, jk, jk, jk, jk, jk]
  [some (Blk.mk (3) false false true (Data.ints IntKind.i64 l))])) : Tree (Ex × St)).Sat (Post hdsize_0 ressize_0 musize_0 ⟨zl, l, i⟩ ex r) := by
  simp only [oksize_0, outsize_0, Tree.runs] at hok hr
  obtain ⟨hs, hz, hi, ha⟩ := hok
  have hsum := sum_take ha
  have hsum2 : (0 : Int) ≤ sumI (l.take i) ∧ sumI (l.take i) ≤ 16 * (i : Int) := ⟨hsum.1, by have := hsum.2; rw [List.length_take] at this; omega⟩
  refine Tree.Sat.br (fun h1 => ?_) (fun h1 => ?_)
  · (try simp only [decide_eq_true_eq, decide_eq_false_iff_not, Bool.not_eq_true', Bool.not_eq_false', beq_iff_eq, beq_eq_false_iff_ne, Int.not_lt, Int.not_le, ge_iff_le, gt_iff_lt, ne_eq, Bool.false_eq_true, Bool.true_eq_false, not_true_eq_false, not_false_eq_true, Bool.and_eq_true, Bool.not_eq_eq_eq_not, Bool.not_true, Bool.not_false, bne_iff_ne, bne_eq_false_iff_eq, Int.toNat_natCast, Nat.mul_one, Nat.add_zero, Nat.zero_add, List.take_length, List.drop_zero] at h1)
    all_goals
      refine Tree.Sat.br (fun h2 => ?_) (fun h2 => ?_)
      · (try simp only [decide_eq_true_eq, decide_eq_false_iff_not, Bool.not_eq_true', Bool.not_eq_false', beq_iff_eq, beq_eq_false_iff_ne, Int.not_lt, Int.not_le, ge_iff_le, gt_iff_lt, ne_eq, Bool.false_eq_true, Bool.true_eq_false, not_true_eq_false, not_false_eq_true, Bool.and_eq_true, Bool.not_eq_eq_eq_not, Bool.not_true, Bool.not_false, bne_iff_ne, bne_eq_false_iff_eq, Int.toNat_natCast, Nat.mul_one, Nat.add_zero, Nat.zero_add, List.take_length, List.drop_zero] at h2)
        all_goals
          refine Tree.Sat.br (fun h3 => ?_) (fun h3 => ?_)
          · (try simp only [decide_eq_true_eq, decide_eq_false_iff_not, Bool.not_eq_true', Bool.not_eq_false', beq_iff_eq, beq_eq_false_iff_ne, Int.not_lt, Int.not_le, ge_iff_le, gt_iff_lt, ne_eq, Bool.false_eq_true, Bool.true_eq_false, not_true_eq_false, not_false_eq_true, Bool.and_eq_true, Bool.not_eq_eq_eq_not, Bool.not_true, Bool.not_false, bne_iff_ne, bne_eq_false_iff_eq, Int.toNat_natCast, Nat.mul_one, Nat.add_zero, Nat.zero_add, List.take_length, List.drop_zero] at h3)
            all_goals
              refine Tree.Sat.br (fun h4 => ?_) (fun h4 => ?_)
              · (try simp only [decide_eq_true_eq, decide_eq_false_iff_not, Bool.not_eq_true', Bool.not_eq_false', beq_iff_eq, beq_eq_false_iff_ne, Int.not_lt, Int.not_le, ge_iff_le, gt_iff_lt, ne_eq, Bool.false_eq_true, Bool.true_eq_false, not_true_eq_false, not_false_eq_true, Bool.and_eq_true, Bool.not_eq_eq_eq_not, Bool.not_true, Bool.not_false, bne_iff_ne, bne_eq_false_iff_eq, Int.toNat_natCast, Nat.mul_one, Nat.add_zero, Nat.zero_add, List.take_length, List.drop_zero] at h4)
                all_goals
                  refine Tree.Sat.ret ?_
                  first
                    | (
                      have hq := hr.1 (any_hit (i := i) (by omega) (by simp only [badV, Bool.or_eq_true, decide_eq_true_eq]; omega))
                      simp only [Prod.mk.injEq] at hq
                      obtain ⟨rfl, rfl⟩ := hq
                      refine .ret rfl ?_
                      constructor <;> simp only [AV.leL, AV.le, Mem.le, Mem.leP, Blk.le, Blk.pad, Data.le, Data.size, Cap.le, and_true, true_and, and_self, true_implies, implies_true, imp_self, List.length_nil] <;> (repeat' with_reducible refine And.intro ?_ ?_) <;> (try simp only [Int.toNat_natCast, Nat.mul_one, Nat.add_zero, Nat.zero_add]) <;> done)
                    | (
                      have hq := hr.2 (by rw [List.take_of_length_le (by omega)] at ha; exact ha)
                      simp only [Prod.mk.injEq] at hq
                      obtain ⟨rfl, rfl⟩ := hq
                      refine .exit rfl ?_
                      constructor <;> simp only [AV.leL, AV.le, Mem.le, Mem.leP, Blk.le, Blk.pad, Data.le, Data.size, Cap.le, and_true, true_and, and_self, true_implies, implies_true, imp_self, List.length_nil] <;> (repeat' with_reducible refine And.intro ?_ ?_) <;> (try simp only [Int.toNat_natCast, Nat.mul_one, Nat.add_zero, Nat.zero_add]) <;> rw [List.take_of_length_le (by omega)])
              · (try simp only [decide_eq_true_eq, decide_eq_false_iff_not, Bool.not_eq_true', Bool.not_eq_false', beq_iff_eq, beq_eq_false_iff_ne, Int.not_lt, Int.not_le, ge_iff_le, gt_iff_lt, ne_eq, Bool.false_eq_true, Bool.true_eq_false, not_true_eq_false, not_false_eq_true, Bool.and_eq_true, Bool.not_eq_eq_eq_not, Bool.not_true, Bool.not_false, bne_iff_ne, bne_eq_false_iff_eq, Int.toNat_natCast, Nat.mul_one, Nat.add_zero, Nat.zero_add, List.take_length, List.drop_zero] at h4)
                all_goals
                  refine Tree.Sat.br (fun h5 => ?_) (fun h5 => ?_)
                  · (try simp only [decide_eq_true_eq, decide_eq_false_iff_not, Bool.not_eq_true', Bool.not_eq_false', beq_iff_eq, beq_eq_false_iff_ne, Int.not_lt, Int.not_le, ge_iff_le, gt_iff_lt, ne_eq, Bool.false_eq_true, Bool.true_eq_false, not_true_eq_false, not_false_eq_true, Bool.and_eq_true, Bool.not_eq_eq_eq_not, Bool.not_true, Bool.not_false, bne_iff_ne, bne_eq_false_iff_eq, Int.toNat_natCast, Nat.mul_one, Nat.add_zero, Nat.zero_add, List.take_length, List.drop_zero] at h5)
                    all_goals
                      refine Tree.Sat.ret ?_
                      first
                        | (
                          have hq := hr.1 (any_hit (i := i) (by omega) (by simp only [badV, Bool.or_eq_true, decide_eq_true_eq]; omega))
                          simp only [Prod.mk.injEq] at hq
                          obtain ⟨rfl, rfl⟩ := hq
                          refine .ret rfl ?_
                          constructor <;> simp only [AV.leL, AV.le, Mem.le, Mem.leP, Blk.le, Blk.pad, Data.le, Data.size, Cap.le, and_true, true_and, and_self, true_implies, implies_true, imp_self, List.length_nil] <;> (repeat' with_reducible refine And.intro ?_ ?_) <;> (try simp only [Int.toNat_natCast, Nat.mul_one, Nat.add_zero, Nat.zero_add]) <;> done)
                        | (
                          have hq := hr.2 (by rw [List.take_of_length_le (by omega)] at ha; exact ha)
                          simp only [Prod.mk.injEq] at hq
                          obtain ⟨rfl, rfl⟩ := hq
                          refine .exit rfl ?_
                          constructor <;> simp only [AV.leL, AV.le, Mem.le, Mem.leP, Blk.le, Blk.pad, Data.le, Data.size, Cap.le, and_true, true_and, and_self, true_implies, implies_true, imp_self, List.length_nil] <;> (repeat' with_reducible refine And.intro ?_ ?_) <;> (try simp only [Int.toNat_natCast, Nat.mul_one, Nat.add_zero, Nat.zero_add]) <;> rw [List.take_of_length_le (by omega)])
                  · (try simp only [decide_eq_true_eq, decide_eq_false_iff_not, Bool.not_eq_true', Bool.not_eq_false', beq_iff_eq, beq_eq_false_iff_ne, Int.not_lt, Int.not_le, ge_iff_le, gt_iff_lt, ne_eq, Bool.false_eq_true, Bool.true_eq_false, not_true_eq_false, not_false_eq_true, Bool.and_eq_true, Bool.not_eq_eq_eq_not, Bool.not_true, Bool.not_false, bne_iff_ne, bne_eq_false_iff_eq, Int.toNat_natCast, Nat.mul_one, Nat.add_zero, Nat.zero_add, List.take_length, List.drop_zero] at h5)
                    all_goals
                      refine Tree.Sat.ret ?_
                      refine .norm ⟨zl, l, i + 1⟩ ?_ ?_ ⟨?_, ?_⟩
                      · constructor <;> simp only [hdsize_0, AV.leL, AV.le, Mem.le, Mem.leP, Blk.le, Blk.pad, Data.le, Data.size, Cap.le, and_true, true_and, and_self, true_implies, implies_true, imp_self, List.length_nil] <;> (repeat' with_reducible refine And.intro ?_ ?_) <;> (try simp only [Int.toNat_natCast, Nat.mul_one, Nat.add_zero, Nat.zero_add]) <;> first | exact wadd1 (by omega) | exact sum_step (l := l) (i := i) (by omega) (by omega) (by omega)
                      · simp only [musize_0]; omega
                      · exact ⟨hs, hz, by omega, any_take_succ (by omega) ha (by simp only [badV, Bool.or_eq_false_iff, decide_eq_false_iff_not]; omega)⟩
                      · exact hr
          · (try simp only [decide_eq_true_eq, decide_eq_false_iff_not, Bool.not_eq_true', Bool.not_eq_false', beq_iff_eq, beq_eq_false_iff_ne, Int.not_lt, Int.not_le, ge_iff_le, gt_iff_lt, ne_eq, Bool.false_eq_true, Bool.true_eq_false, not_true_eq_false, not_false_eq_true, Bool.and_eq_true, Bool.not_eq_eq_eq_not, Bool.not_true, Bool.not_false, bne_iff_ne, bne_eq_false_iff_eq, Int.toNat_natCast, Nat.mul_one, Nat.add_zero, Nat.zero_add, List.take_length, List.drop_zero] at h3)
            all_goals
              exfalso
              first | omega | (simp only [w64] at *; omega) | (cases zl <;> simp_all; done) | (cases zl <;> simp_all <;> omega)
      · (try simp only [decide_eq_true_eq, decide_eq_false_iff_not, Bool.not_eq_true', Bool.not_eq_false', beq_iff_eq, beq_eq_false_iff_ne, Int.not_lt, Int.not_le, ge_iff_le, gt_iff_lt, ne_eq, Bool.false_eq_true, Bool.true_eq_false, not_true_eq_false, not_false_eq_true, Bool.and_eq_true, Bool.not_eq_eq_eq_not, Bool.not_true, Bool.not_false, bne_iff_ne, bne_eq_false_iff_eq, Int.toNat_natCast, Nat.mul_one, Nat.add_zero, Nat.zero_add, List.take_length, List.drop_zero] at h2)
        all_goals
          exfalso
          first | omega | (simp only [w64] at *; omega) | (cases zl <;> simp_all; done) | (cases zl <;> simp_all <;> omega)
  · (try simp only [decide_eq_true_eq, decide_eq_false_iff_not, Bool.not_eq_true', Bool.not_eq_false', beq_iff_eq, beq_eq_false_iff_ne, Int.not_lt, Int.not_le, ge_iff_le, gt_iff_lt, ne_eq, Bool.false_eq_true, Bool.true_eq_false, not_true_eq_false, not_false_eq_true, Bool.and_eq_true, Bool.not_eq_eq_eq_not, Bool.not_true, Bool.not_false, bne_iff_ne, bne_eq_false_iff_eq, Int.toNat_natCast, Nat.mul_one, Nat.add_zero, Nat.zero_add, List.take_length, List.drop_zero] at h1)
    all_goals
      refine Tree.Sat.ret ?_
      first
        | (
          have hq := hr.1 (any_hit (i := i) (by omega) (by simp only [badV, Bool.or_eq_true, decide_eq_true_eq]; omega))
          simp only [Prod.mk.injEq] at hq
          obtain ⟨rfl, rfl⟩ := hq
          refine .ret rfl ?_
          constructor <;> simp only [AV.leL, AV.le, Mem.le, Mem.leP, Blk.le, Blk.pad, Data.le, Data.size, Cap.le, and_true, true_and, and_self, true_implies, implies_true, imp_self, List.length_nil] <;> (repeat' with_reducible refine And.intro ?_ ?_) <;> (try simp only [Int.toNat_natCast, Nat.mul_one, Nat.add_zero, Nat.zero_add]) <;> done)
        | (
          have hq := hr.2 (by rw [List.take_of_length_le (by omega)] at ha; exact ha)
          simp only [Prod.mk.injEq] at hq
          obtain ⟨rfl, rfl⟩ := hq
          refine .exit rfl ?_
          constructor <;> simp only [AV.leL, AV.le, Mem.le, Mem.leP, Blk.le, Blk.pad, Data.le, Data.size, Cap.le, and_true, true_and, and_self, true_implies, implies_true, imp_self, List.length_nil] <;> (repeat' with_reducible refine And.intro ?_ ?_) <;> (try simp only [Int.toNat_natCast, Nat.mul_one, Nat.add_zero, Nat.zero_add]) <;> rw [List.take_of_length_le (by omega)])
set_option maxHeartbeats 2000000 in
set_option maxRecDepth 100000 in
theorem loopsize_0 (hall : AllOk Try.prog 0 (fun _ => none) tab15) : LoopOk (mkL Try.prog 0 (fun _ => none) tab15 rowssize) 23 1 (bodyAt Try.prog 23 0) := by
  have hkey : Code.key (bodyAt Try.prog 23 0) = 3 := by kernel_rfl
  have hin : loopsIn (bodyAt Try.prog 23 0) = [] := by kernel_rfl
  have hrow : lookL rowssize 23 (Code.key (bodyAt Try.prog 23 0)) = some rowsize_0 := by rw [hkey]; rfl
  refine loop_rowP (X := Xsize_0) (row := rowsize_0) hall mix hrow (fun b hb _ => by rw [hin] at hb; cases hb) Usize_0 hdsize_0 ressize_0 musize_0 (fun st ex r h => ?_) (fun x ex r hr => ?_)
  · have h' : (anssize_0 st).runs (ex, r) := h
    unfold anssize_0 at h'
    split at h'
    · obtain ⟨q1, q2⟩ := Tree.chk_runs h'
      exact ⟨_, q1, q2⟩
    · exact h'.elim
  · obtain ⟨zl, l, i⟩ := x
    have := stepsize_0 zl l i ex r hr.1 hr.2
    rw [← tLsize_0] at this
    (try rw [show rowsize_0.tidy = Tsize_0 from rfl])
    exact this
theorem loopssize (hall : AllOk Try.prog 0 (fun _ => none) tab15) : ∀ i, i < (loopsAt Try.prog 23).length → LoopOk (mkL Try.prog 0 (fun _ => none) tab15 rowssize) 23 1 (bodyAt Try.prog 23 i) := by
  intro i hi
  have hlen : (loopsAt Try.prog 23).length = 1 := by kernel_rfl
  rw [hlen] at hi
  obtain rfl : i = 0 := by omega
  · exact loopsize_0 hall
set_option maxRecDepth 100000 in
theorem tsize (zl : Bool) (l : List Int) : evBody (mkL Try.prog 0 (fun _ => none) tab15 rowssize) (evCall (mkC Try.prog 0 (fun _ => none) tab15) 50) 23 [.sl zl ⟨0, 0, 0, 0⟩ false l.length .any] [some ⟨3, false, false, true, .ints .i64 l⟩] =
  Tree.chk
  (St.le
  (St.mk
  [jk, jk, jk, AV.int IntKind.i64 true (0 : Int), jk, jk, AV.sl zl (Ref.mk (0) (0) (0) (0)) false (List.length l) Cap.any, AV.int IntKind.i64 false ((List.length l) : Int),
  AV.int IntKind.i64 true (0 : Int), jk, jk, jk, jk, jk, jk, jk, jk, jk, jk, jk, jk, jk, jk, jk, jk, jk]
  [some (Blk.mk (3) false false true (Data.ints IntKind.i64 l))])
  (St.mk
  [jk, jk, jk, AV.int IntKind.i64 false (sumI (List.take (Int.toNat (0 : Int)) l)), jk, jk, AV.sl zl (Ref.mk (0) (0) (0) (0)) false (List.length l) Cap.any,
  AV.int IntKind.i64 false ((List.length l) : Int), AV.int IntKind.i64 false (0 : Int), jk, jk, jk, jk, jk, jk, jk, jk, jk, jk, jk, jk, jk, jk, jk, jk,
  jk]
  [some (Blk.mk (3) false false true (Data.ints IntKind.i64 l))]))
  (Tree.chk (oksize_0 (Xsize_0.mk zl l (Int.toNat (0 : Int))))
  (Tree.br (List.any l badV) (Tree.ret (AV.int IntKind.i64 true (0 : Int), [some (Blk.mk (3) false false true (Data.ints IntKind.i64 l))]))
  (Tree.br true
  (Tree.ret
  (AV.int IntKind.i64 false (IntKind.wrap IntKind.i64 (Int.tdiv (IntKind.wrap IntKind.i64 (IntKind.wrap IntKind.i64 (sumI l + (16 : Int)) - (1 : Int))) (16 : Int))),
  [some (Blk.mk (3) false false true (Data.ints IntKind.i64 l))]))
  Tree.fail))) := by kernel_rfl
set_option maxRecDepth 100000 in
theorem gsize (zl : Bool) (l : List Int) (hw : l.length ≤ 1000000 ∧ (zl = true → l = [])) : (Tree.chk
  (St.le
  (St.mk
  [jk, jk, jk, AV.int IntKind.i64 true (0 : Int), jk, jk, AV.sl zl (Ref.mk (0) (0) (0) (0)) false (List.length l) Cap.any, AV.int IntKind.i64 false ((List.length l) : Int),
  AV.int IntKind.i64 true (0 : Int), jk, jk, jk, jk, jk, jk, jk, jk, jk, jk, jk, jk, jk, jk, jk, jk, jk]
  [some (Blk.mk (3) false false true (Data.ints IntKind.i64 l))])
  (St.mk
  [jk, jk, jk, AV.int IntKind.i64 false (sumI (List.take (Int.toNat (0 : Int)) l)), jk, jk, AV.sl zl (Ref.mk (0) (0) (0) (0)) false (List.length l) Cap.any,
  AV.int IntKind.i64 false ((List.length l) : Int), AV.int IntKind.i64 false (0 : Int), jk, jk, jk, jk, jk, jk, jk, jk, jk, jk, jk, jk, jk, jk, jk, jk,
  jk]
  [some (Blk.mk (3) false false true (Data.ints IntKind.i64 l))]))
  (Tree.chk (oksize_0 (Xsize_0.mk zl l (Int.toNat (0 : Int))))
  (Tree.br (List.any l badV) (Tree.ret (AV.int IntKind.i64 true (0 : Int), [some (Blk.mk (3) false false true (Data.ints IntKind.i64 l))]))
  (Tree.br true
  (Tree.ret
  (AV.int IntKind.i64 false (IntKind.wrap IntKind.i64 (Int.tdiv (IntKind.wrap IntKind.i64 (IntKind.wrap IntKind.i64 (sumI l + (16 : Int)) - (1 : Int))) (16 : Int))),
  [some (Blk.mk (3) false false true (Data.ints IntKind.i64 l))]))
  Tree.fail))) : Tree (AV × Mem)).GivesP (.int .i64 false (sizeZ l)) ([some ⟨3, false, false, true, .ints .i64 l⟩]) := by
  refine Tree.GivesP.chk (by first | (simp only [and_self]; done) | (constructor <;> simp only [hdsize_0, Int.toNat_zero, Int.cast_ofNat_Int, AV.leL, AV.le, Mem.le, Mem.leP, Blk.le, Blk.pad, Data.le, Data.size, Cap.le, and_true, true_and, and_self, true_implies, implies_true, imp_self, List.length_nil] <;> (try simp only [List.take_zero]) <;> (try rfl))) ?_
  refine Tree.GivesP.chk (by first | (simp only [and_self]; done) | (exact ⟨hw.1, hw.2, Nat.zero_le _, rfl⟩)) ?_
  refine Tree.GivesP.br (fun h1 => ?_) (fun h1 => ?_)
  · (try simp only [decide_eq_true_eq, decide_eq_false_iff_not, Bool.not_eq_true', Bool.not_eq_false', beq_iff_eq, beq_eq_false_iff_ne, Int.not_lt, Int.not_le, ge_iff_le, gt_iff_lt, ne_eq, Bool.false_eq_true, Bool.true_eq_false, not_true_eq_false, not_false_eq_true, Bool.and_eq_true, Bool.not_eq_eq_eq_not, Bool.not_true, Bool.not_false, bne_iff_ne, bne_eq_false_iff_eq, Int.toNat_natCast, Nat.mul_one, Nat.add_zero, Nat.zero_add, List.take_length, List.drop_zero] at h1)
    all_goals
      refine Tree.GivesP.ret ?_ ?_
      · simp only [AV.le, sizeZ, true_and, h1, if_true]
      · simp only [AV.leL, AV.le, Mem.le, Mem.leP, Blk.le, Blk.pad, Data.le, Data.size, Cap.le, and_true, true_and, and_self, true_implies, implies_true, imp_self, List.length_nil]
  · (try simp only [decide_eq_true_eq, decide_eq_false_iff_not, Bool.not_eq_true', Bool.not_eq_false', beq_iff_eq, beq_eq_false_iff_ne, Int.not_lt, Int.not_le, ge_iff_le, gt_iff_lt, ne_eq, Bool.false_eq_true, Bool.true_eq_false, not_true_eq_false, not_false_eq_true, Bool.and_eq_true, Bool.not_eq_eq_eq_not, Bool.not_true, Bool.not_false, bne_iff_ne, bne_eq_false_iff_eq, Int.toNat_natCast, Nat.mul_one, Nat.add_zero, Nat.zero_add, List.take_length, List.drop_zero] at h1)
    all_goals
      refine Tree.GivesP.br (fun h2 => ?_) (fun h2 => ?_)
      · (try simp only [decide_eq_true_eq, decide_eq_false_iff_not, Bool.not_eq_true', Bool.not_eq_false', beq_iff_eq, beq_eq_false_iff_ne, Int.not_lt, Int.not_le, ge_iff_le, gt_iff_lt, ne_eq, Bool.false_eq_true, Bool.true_eq_false, not_true_eq_false, not_false_eq_true, Bool.and_eq_true, Bool.not_eq_eq_eq_not, Bool.not_true, Bool.not_false, bne_iff_ne, bne_eq_false_iff_eq, Int.toNat_natCast, Nat.mul_one, Nat.add_zero, Nat.zero_add, List.take_length, List.drop_zero] at h2)
        all_goals
          refine Tree.GivesP.ret ?_ ?_
          · simp only [AV.le, sizeZ, true_and, h1, Bool.false_eq_true, if_false]; exact size_fin h1 hw.1
          · simp only [AV.leL, AV.le, Mem.le, Mem.leP, Blk.le, Blk.pad, Data.le, Data.size, Cap.le, and_true, true_and, and_self, true_implies, implies_true, imp_self, List.length_nil]
      · (try simp only [decide_eq_true_eq, decide_eq_false_iff_not, Bool.not_eq_true', Bool.not_eq_false', beq_iff_eq, beq_eq_false_iff_ne, Int.not_lt, Int.not_le, ge_iff_le, gt_iff_lt, ne_eq, Bool.false_eq_true, Bool.true_eq_false, not_true_eq_false, not_false_eq_true, Bool.and_eq_true, Bool.not_eq_eq_eq_not, Bool.not_true, Bool.not_false, bne_iff_ne, bne_eq_false_iff_eq, Int.toNat_natCast, Nat.mul_one, Nat.add_zero, Nat.zero_add, List.take_length, List.drop_zero] at h2)
        all_goals
          exfalso
          omega
theorem ssize (hall : AllOk Try.prog 0 (fun _ => none) tab15) (zl : Bool) (l : List Int) (hw : l.length ≤ 1000000 ∧ (zl = true → l = [])) : SoundAt (mkC Try.prog 0 (fun _ => none) []) 23 [.sl zl ⟨0, 0, 0, 0⟩ false l.length .any] [some ⟨3, false, false, true, .ints .i64 l⟩] (.int .i64 false (sizeZ l), [some ⟨3, false, false, true, .ints .i64 l⟩]) := sound_loopsP hall mix (loopssize hall) (tsize zl l) (gsize zl l hw)
theorem Fsize_ok (hall : AllOk Try.prog 0 (fun _ => none) tab15) : PureF Try.prog 3 23 Fsize := by
  intro xs c v news h hc
  unfold Fsize at h
  split at h
  · rename_i zl l
    cases h
    refine ⟨(by intro b hb; cases hb), SoundAt.flags (ssize hall zl l hc) ?_⟩
    simp [PA.avs, AV.le, AV.leL, Cap.le]
  · cases h
end Go.Proofs.Ytnkjblmlchbfkaa.Rig
