/- A reckoner over Go's operations: loops, as a user has them. -/
import Derived.Test.YtonhkbgielilbaaR23
namespace Go.Proofs.Ytonhkbgielilbaa.Rig
open Go
/-- All that a reckoning may come to is so. -/
def Tree.Sat {α : Type} (Q : α → Prop) : Tree α → Prop
  | .ret a => Q a
  | .br b t e => (b = true → t.Sat Q) ∧ (b = false → e.Sat Q)
  | .chk p t => p ∧ t.Sat Q
  | .fail => False
theorem Tree.Sat.runs {α : Type} {Q : α → Prop} : ∀ {t : Tree α}, t.Sat Q → ∃ r, t.runs r ∧ Q r
  | .ret a, h => ⟨a, rfl, h⟩
  | .br b t e, h => by
    cases b
    · obtain ⟨r, h1, h2⟩ := (h.2 rfl).runs
      exact ⟨r, ⟨fun hb => (by cases hb), fun _ => h1⟩, h2⟩
    · obtain ⟨r, h1, h2⟩ := (h.1 rfl).runs
      exact ⟨r, ⟨fun _ => h1, fun hb => (by cases hb)⟩, h2⟩
  | .chk p t, h => by
    obtain ⟨r, h1, h2⟩ := h.2.runs
    exact ⟨r, ⟨h.1, h1⟩, h2⟩
theorem Tree.Sat.br {α : Type} {Q : α → Prop} {b : Bool} {t e : Tree α} (h : b = true → t.Sat Q) (h' : b = false → e.Sat Q) : (Tree.br b t e).Sat Q := ⟨h, h'⟩
theorem Tree.Sat.chk {α : Type} {Q : α → Prop} {p : Prop} {t : Tree α} (h : p) (h' : t.Sat Q) : (Tree.chk p t).Sat Q := ⟨h, h'⟩
theorem Tree.Sat.ret {α : Type} {Q : α → Prop} {a : α} (h : Q a) : (Tree.ret a).Sat Q := h
/-- A function's loops. -/
def loopsAt (P : Program) (f : FuncId) : List Code := match P.funcs[f]? with | some fn => (match fn.body with | some c => loopsIn c | none => []) | none => []
def bodyAt (P : Program) (f : FuncId) (i : Nat) : Code := (loopsAt P f).getD i .skip
structure LoopRow where
  f : FuncId
  key : Nat
  tidy : Tidy
  ans : St → Tree (Ex × St)
def lookL : List LoopRow → FuncId → Nat → Option LoopRow
  | [], _, _ => none
  | r :: l, f, k => match Nat.beq f r.f && Nat.beq k r.key with | true => some r | false => lookL l f k
/-- A table, and what is known of loops. -/
def mkL (P : Program) (ng : Nat) (gl : Nat → Option Nat) (l : List (FuncId × Ent)) (ls : List LoopRow) : Ctx :=
  { P := P, ng := ng, gl := gl, call := look l, keep := fun f k => (lookL ls f k).map LoopRow.tidy, loop := fun f k st => match lookL ls f k with | some r => r.ans st | none => .fail }
section
variable {P : Program} {ng : Nat} {gl : Nat → Option Nat}
theorem loopOk_of {X : Type} {C : Ctx} {callF : FuncId → List AV → Mem → Tree (AV × Mem)} (hC : CallOk C callF) (hmix : C.P.follows .mixedOrders = true) {f : FuncId} {body : Code} {lo : Nat}
    (inner : ∀ b ∈ loopsIn body, (C.keep f (Code.key b)).isSome = true → LoopOk C f lo b)
    (T : Tidy) (U : Ex → Tidy) (hd : X → St) (resT : X → Tree (Ex × St)) (μ : X → Nat)
    (hL : ∀ st ex r, (C.loop f (Code.key body) st).runs (ex, r) → ∃ x, st.le (hd x) ∧ (resT x).runs (ex, r))
    (step : ∀ x ex r, (resT x).runs (ex, r) → (evCode C callF f lo fuelC body (hd x)).Sat fun p => match p.1 with
      | .norm => ∃ x', Brings lo T p.2 (hd x') ∧ μ x' < μ x ∧ (resT x').runs (ex, r)
      | e => ex = e ∧ Brings lo (U e) p.2 r) : LoopOk C f lo body := by
  intro st ex st' h σ0 M0 w0 ds σ a w hlo hf Q hQ
  subst hlo
  obtain ⟨x, h1, h2⟩ := hL st ex st' h
  refine loop_ok hC hmix fuelC inner T U hd (fun x ex r => (resT x).runs (ex, r)) μ (fun x ex r hr => ?_) h2 (hf.le h1) hQ
  obtain ⟨⟨ex1, s⟩, g1, g2⟩ := (step x ex r hr).runs
  exact ⟨ex1, s, g1, g2⟩
def tidied (T : Tidy) (U : Ex → Tidy) (lo : Nat) (t : Tree (Ex × St)) : Tree (Ex × St) :=
  t.bind fun p => match (match p.1 with | .norm => T | e => U e).go lo p.2 with | some s => .ret (p.1, s) | none => .fail
theorem Tree.Sat.of_bind {α β : Type} {Q : β → Prop} {k : α → Tree β} : ∀ {t : Tree α}, (t.bind k).Sat Q → t.Sat fun a => (k a).Sat Q
  | .ret a, h => h
  | .br b t e, h => ⟨fun hb => (h.1 hb).of_bind, fun hb => (h.2 hb).of_bind⟩
  | .chk p t, h => ⟨h.1, h.2.of_bind⟩
  | .fail, h => h.elim
theorem Tree.Sat.mono {α : Type} {Q R : α → Prop} (hQ : ∀ a, Q a → R a) : ∀ {t : Tree α}, t.Sat Q → t.Sat R
  | .ret a, h => hQ a h
  | .br b t e, h => ⟨fun hb => (h.1 hb).mono hQ, fun hb => (h.2 hb).mono hQ⟩
  | .chk p t, h => ⟨h.1, h.2.mono hQ⟩
  | .fail, h => h.elim
/-- A loop, where each round is told behind its tidying. -/
theorem loopOk_tidied {X : Type} {C : Ctx} {callF : FuncId → List AV → Mem → Tree (AV × Mem)} (hC : CallOk C callF) (hmix : C.P.follows .mixedOrders = true) {f : FuncId} {body : Code} {lo : Nat}
    (inner : ∀ b ∈ loopsIn body, (C.keep f (Code.key b)).isSome = true → LoopOk C f lo b)
    (T : Tidy) (U : Ex → Tidy) (hd : X → St) (resT : X → Tree (Ex × St)) (μ : X → Nat)
    (hL : ∀ st ex r, (C.loop f (Code.key body) st).runs (ex, r) → ∃ x, st.le (hd x) ∧ (resT x).runs (ex, r))
    (step : ∀ x ex r, (resT x).runs (ex, r) → (tidied T U lo (evCode C callF f lo fuelC body (hd x))).Sat fun p => match p.1 with
      | .norm => ∃ x', p.2.le (hd x') ∧ μ x' < μ x ∧ (resT x').runs (ex, r)
      | e => ex = e ∧ p.2.le r) : LoopOk C f lo body := by
  refine loopOk_of hC hmix inner T U hd resT μ hL fun x ex r hr => ((step x ex r hr).of_bind).mono fun p hp => ?_
  obtain ⟨e, s⟩ := p
  dsimp only at hp
  split at hp
  · rename_i s' hs
    simp only [Tree.Sat] at hp
    cases e with
    | norm =>
      dsimp only at hp hs ⊢
      obtain ⟨x', h1, h2, h3⟩ := hp
      exact ⟨x', ⟨s', hs, h1⟩, h2, h3⟩
    | exit id => exact ⟨hp.1, s', hs, hp.2⟩
    | ret => exact ⟨hp.1, s', hs, hp.2⟩
  · exact hp.elim
theorem sound_loops {l : List (FuncId × Ent)} {ls : List LoopRow} (hA : AllOk P ng gl l) (hmix : P.follows .mixedOrders = true) {f : FuncId} {args : List AV} {M : Mem}
    (hL : ∀ i, i < (loopsAt P f).length → LoopOk (mkL P ng gl l ls) f M.length (bodyAt P f i)) {T : Tree (AV × Mem)}
    (hT : evBody (mkL P ng gl l ls) (evCall (mkC P ng gl l) 50) f args M = T) {v : AV} {M' : Mem} (h : T.Gives v M') : SoundAt (mkC P ng gl []) f args M (v, M') := by
  refine SoundAt.of_body (C := mkL P ng gl l ls) (callF := evCall (mkC P ng gl l) 50) (call_ok (tab_ok hA) hmix (fun _ _ => rfl) 50) hmix (fun fn c hfn hc b hb _ => ?_) hT h
  obtain ⟨i, hi, rfl⟩ := List.mem_iff_getElem.1 hb
  have e : loopsAt P f = loopsIn c := by
    unfold loopsAt
    rw [show P.funcs[f]? = some fn from hfn]
    simp only [hc]
  have := hL i (by rw [e]; exact hi)
  unfold bodyAt at this
  rw [e, List.getD_eq_getElem?_getD, List.getElem?_eq_getElem hi] at this
  exact this
theorem loop_row {X : Type} {l : List (FuncId × Ent)} {ls : List LoopRow} (hA : AllOk P ng gl l) (hmix : P.follows .mixedOrders = true) {f : FuncId} {body : Code} {lo : Nat} {row : LoopRow} (hrow : lookL ls f (Code.key body) = some row)
    (inner : ∀ b ∈ loopsIn body, ((mkL P ng gl l ls).keep f (Code.key b)).isSome = true → LoopOk (mkL P ng gl l ls) f lo b)
    (U : Ex → Tidy) (hd : X → St) (resT : X → Tree (Ex × St)) (μ : X → Nat)
    (hL : ∀ st ex r, (row.ans st).runs (ex, r) → ∃ x, st.le (hd x) ∧ (resT x).runs (ex, r))
    (step : ∀ x ex r, (resT x).runs (ex, r) → (tidied row.tidy U lo (evCode (mkL P ng gl l ls) (evCall (mkC P ng gl l) 50) f lo fuelC body (hd x))).Sat fun p => match p.1 with
      | .norm => ∃ x', p.2.le (hd x') ∧ μ x' < μ x ∧ (resT x').runs (ex, r)
      | e => ex = e ∧ p.2.le r) : LoopOk (mkL P ng gl l ls) f lo body :=
  loopOk_tidied (C := mkL P ng gl l ls) (callF := evCall (mkC P ng gl l) 50) (call_ok (tab_ok hA) hmix (fun _ _ => rfl) 50) hmix inner row.tidy U hd resT μ
    (fun st ex r h => hL st ex r (by
      have e : (mkL P ng gl l ls).loop f (Code.key body) st = row.ans st := by
        show (match lookL ls f (Code.key body) with | some r => r.ans st | none => .fail) = _
        rw [hrow]
      rw [e] at h
      exact h)) step
theorem callOk_of {l : List (FuncId × Ent)} {ls : List LoopRow} (hA : AllOk P ng gl l) (hmix : P.follows .mixedOrders = true) : CallOk (mkL P ng gl l ls) (evCall (mkC P ng gl l) 50) :=
  call_ok (tab_ok hA) hmix (fun _ _ => rfl) 50
end
end Go.Proofs.Ytonhkbgielilbaa.Rig
