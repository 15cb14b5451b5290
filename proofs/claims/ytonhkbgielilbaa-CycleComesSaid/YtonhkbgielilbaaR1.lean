/- A reckoner over Go's operations: its values, memory and steps. -/
import Derived.Test.YtonhkbgielilbaaProg
import Derived.Calls
import Derived.Orders
import Derived.StillTail
import Derived.Deep.MidRow
import Derived.Laws.AppendOwn
import Derived.Laws.OwnMore
import Derived.Laws.MakeOwn
import Derived.Laws.CopyOwn
import Derived.Laws.StructEq
import Derived.Laws.Tables
import Derived.ProofKit
import Derived.Scope
namespace Go.Proofs.Ytonhkbgielilbaa.Rig
open Go

/-- What is known of a slice's capacity. -/
inductive Cap where | exact | own | any

/-- A place: block, row, the row's width, cell. -/
structure Ref where
  id : Nat
  row : Nat
  w : Nat
  off : Nat
def Ref.pos (r : Ref) : Nat := r.row * r.w + r.off

inductive AV where
  | junk
  | bool (c b : Bool)
  | int (k : IntKind) (c : Bool) (n : Int)
  | nilp
  | ptr (r : Ref)
  | sl (z : Bool) (r : Ref) (c : Bool) (len : Nat) (m : Cap)
  | fn (f : Fn) (first caps : List AV)
  | nilfn
  | agg (cs : List AV)
  | tup (cs : List AV)
deriving Inhabited

inductive Data where
  | cells (l : List AV)
  | ints (k : IntKind) (l : List Int)
  | tab (sz n : Nat) (f : Nat → List AV)

structure Blk where
  e : TypeId
  rw : Bool
  virt : Bool
  row : Bool
  d : Data

abbrev Mem := List (Option Blk)

inductive Tree (α : Type) where
  | ret (a : α)
  | br (b : Bool) (t e : Tree α)
  | chk (p : Prop) (t : Tree α)
  | fail

namespace Tree
variable {α β : Type}
def bind : Tree α → (α → Tree β) → Tree β
  | ret a, k => k a
  | br b t e, k => br b (t.bind k) (e.bind k)
  | chk p t, k => chk p (t.bind k)
  | fail, _ => fail
def runs : Tree α → α → Prop
  | ret a, x => a = x
  | br b t e, x => (b = true → t.runs x) ∧ (b = false → e.runs x)
  | chk p t, x => p ∧ t.runs x
  | fail, _ => False
def sat (t : Tree α) (Q : α → Prop) : Prop := ∃ x, t.runs x ∧ Q x
/-- A test: known, or not. -/
def ifB (c b : Bool) (x y : Tree α) : Tree α :=
  match c with
  | true => (match b with | true => x | false => y)
  | false => .br b x y
def need (c b : Bool) (x : Tree α) : Tree α := ifB c b x .fail
def ofOpt (o : Option α) : Tree α := match o with | some a => .ret a | none => .fail
end Tree

inductive Ex where | norm | exit (id : Nat) | ret

structure St where
  env : List AV
  mem : Mem

/-! ### values -/
def ofCell : Value → AV
  | .bool b => .bool true b
  | .int k n => .int k true n
  | .pointer none => .nilp
  | .slice none 0 0 => .sl true ⟨0, 0, 0, 0⟩ true 0 .exact
  | .nilFunc => .nilfn
  | _ => .junk
def ofVal : Value → AV
  | .agg cs => .agg (cs.toList.map ofCell)
  | v => ofCell v
def AV.parts : AV → List AV
  | .agg cs => cs
  | v => [v]

mutual
def AV.refs : AV → List Nat
  | .ptr r => [r.id]
  | .sl z r c _ _ => match c, z with | true, true => [] | _, _ => [r.id]
  | .fn _ a b => AV.refsL a ++ AV.refsL b
  | .agg cs => AV.refsL cs
  | .tup cs => AV.refsL cs
  | _ => []
def AV.refsL : List AV → List Nat
  | [] => []
  | a :: l => a.refs ++ AV.refsL l
end
mutual
def AV.ren (f : Nat → Option Nat) : AV → AV
  | .ptr r => match f r.id with | some j => .ptr { r with id := j } | none => .junk
  | .sl z r c len m => match c, z with
    | true, true => .sl true r true len m
    | _, _ => match f r.id with | some j => .sl z { r with id := j } c len m | none => .junk
  | .fn g a b => .fn g (AV.renL f a) (AV.renL f b)
  | .agg cs => .agg (AV.renL f cs)
  | .tup cs => .tup (AV.renL f cs)
  | v => v
def AV.renL (f : Nat → Option Nat) : List AV → List AV
  | [] => []
  | a :: l => a.ren f :: AV.renL f l
end

/-! ### memory -/
def Data.size : Data → Nat
  | .cells l => l.length
  | .ints _ l => l.length
  | .tab sz n _ => n * sz
def Data.get? : Data → Nat → Option AV
  | .cells l, i => l[i]?
  | .ints k l, i => (l[i]?).map (.int k false)
  | .tab sz n f, i => if i < n * sz then (f (i / sz))[i % sz]? else none
def Data.refs : Data → List Nat
  | .cells l => AV.refsL l
  | _ => []
def Data.ren (g : Nat → Option Nat) : Data → Data
  | .cells l => .cells (AV.renL g l)
  | .ints k l => .ints k l
  | .tab sz n f => .tab sz n fun i => AV.renL g (f i)
def Blk.ren (g : Nat → Option Nat) (b : Blk) : Blk := { b with d := b.d.ren g }
def Mem.at (M : Mem) (i : Nat) : Option Blk := (M[i]?).join

/-- Whole numbers of one kind. -/
def intsOf (k : IntKind) : List AV → Option (List Int)
  | [] => some []
  | .int k' _ n :: l => match decide (k' = k) with | true => (intsOf k l).map (n :: ·) | false => none
  | _ => none
def kindOf : List AV → Option IntKind
  | .int k _ _ :: _ => some k
  | _ => none
def Data.intList : Data → Option (IntKind × List Int)
  | .ints k l => some (k, l)
  | .cells l => (kindOf l).bind fun k => (intsOf k l).map fun ns => (k, ns)
  | .tab _ _ _ => none

/-- n cells from a place on. -/
def Data.read (d : Data) (r : Ref) (n : Nat) : Tree (List AV) :=
  match d with
  | .cells l => match r.w with
    | 0 => (match decide (r.off + n ≤ l.length) with | true => .ret ((l.drop r.off).take n) | false => .fail)
    | _ + 1 => match (kindOf l).bind fun k => (intsOf k l).map fun ns => (k, ns) with
      | some (k, ns) => .br (decide (r.pos + n ≤ l.length)) (.ret ((List.range n).map fun j => .int k false (ns.getD (r.pos + j) 0))) .fail
      | none => .fail
  | .ints k l => .br (decide (r.pos + n ≤ l.length)) (.ret ((List.range n).map fun j => .int k false (l.getD (r.pos + j) 0))) .fail
  | .tab sz m f => match r.w with
    | 0 => .br (decide (r.off / sz < m)) (match decide (r.off % sz + n ≤ (f (r.off / sz)).length ∧ (f (r.off / sz)).length = sz) with | true => .ret (((f (r.off / sz)).drop (r.off % sz)).take n) | false => .fail) .fail
    | w + 1 => match decide (w + 1 = sz ∧ r.off + n ≤ (f r.row).length ∧ (f r.row).length = sz) with
      | true => .br (decide (r.row < m)) (.ret (((f r.row).drop r.off).take n)) .fail
      | false => .fail
/-- cells put at a place. -/
def Data.write (d : Data) (r : Ref) (vs : List AV) : Tree Data :=
  match d with
  | .cells l => match r.w with
    | 0 => (match decide (r.off + vs.length ≤ l.length) with | true => .ret (.cells (l.take r.off ++ (vs ++ l.drop (r.off + vs.length)))) | false => .fail)
    | _ + 1 => match (kindOf l).bind fun k => (intsOf k l).bind fun ns => (intsOf k vs).map fun ms => (k, ns, ms) with
      | some (k, ns, ms) => .br (decide (r.pos + vs.length ≤ l.length)) (.ret (.cells ((List.range l.length).map fun j => .int k false (bif decide (r.pos ≤ j ∧ j < r.pos + vs.length) then ms.getD (j - r.pos) 0 else ns.getD j 0)))) .fail
      | none => .fail
  | .ints k l => match intsOf k vs with
    | some [n] => .br (decide (r.pos < l.length)) (.ret (.ints k (l.set r.pos n))) .fail
    | _ => .fail
  | .tab _ _ _ => .fail
/-- cells behind others. -/
def Data.append : Data → Data → Option Data
  | .cells l, .cells m => some (.cells (l ++ m))
  | .ints k l, .ints k' m => match decide (k' = k) with | true => some (.ints k (l ++ m)) | false => none
  | .ints k l, .cells m => (intsOf k m).map fun m' => .ints k (l ++ m')
  | .cells l, .ints k m => (intsOf k l).map fun l' => .ints k (l' ++ m)
  | .tab sz n f, .cells m => match decide (m.length = sz ∧ 0 < sz) with | true => some (.tab sz (n + 1) fun i => bif decide (i < n) then f i else m) | false => none
  | _, _ => none
/-- len cells from a place on, as a piece of its own. -/
def Data.piece (d : Data) (r : Ref) (c : Bool) (n : Nat) : Option Data :=
  match d with
  | .cells l => match r.w, c with
    | 0, true => (match decide (r.off + n ≤ l.length) with | true => some (.cells ((l.drop r.off).take n)) | false => none)
    | _, _ => (kindOf l).bind fun k => (intsOf k l).map fun ns => .ints k ((ns.drop r.pos).take n)
  | .ints k l => some (.ints k ((l.drop r.pos).take n))
  | .tab sz m f => match r.w, r.off, r.row with
    | 0, 0, _ => match decide (0 < sz) with | true => some (.tab sz (min m (n / sz)) f) | false => none
    | _, _, _ => none

/-! ### renumbering -/
def idxOf (ks : List Nat) (i : Nat) : Option Nat := ks.findIdx? (· == i)
def nodup : List Nat → Bool
  | [] => true
  | a :: l => !l.contains a && nodup l
def reach (M : Mem) : Nat → List Nat → List Nat → List Nat
  | 0, _, seen => seen
  | _ + 1, [], seen => seen
  | n + 1, i :: todo, seen =>
    match seen.contains i with
    | true => reach M n todo seen
    | false => match M.at i with
      | some b => reach M n (todo ++ b.d.refs) (seen ++ [i])
      | none => reach M n todo seen
def fuelR : Nat := 400
/-- The blocks ks of M, as a memory of their own. -/
def Mem.sub (M : Mem) (ks : List Nat) : Mem := ks.map fun k => (M.at k).map (Blk.ren (idxOf ks))
/-- What became of them, put back. -/
def Mem.back (M : Mem) (ks : List Nat) (M' : Mem) : Mem :=
  let g : Nat → Option Nat := fun i => match decide (i < ks.length) with | true => ks[i]? | false => some (M.length + (i - ks.length))
  ((List.range M.length).map fun i => match idxOf ks i with
    | some j => (M'.at j).map (Blk.ren g)
    | none => M.at i) ++ (M'.drop ks.length).map fun b => b.map (Blk.ren g)
def backRen (M : Mem) (ks : List Nat) : Nat → Option Nat := fun i => match decide (i < ks.length) with | true => ks[i]? | false => some (M.length + (i - ks.length))
def Mem.freeze (M : Mem) : Mem := M.map fun b => b.map fun b => { b with rw := false }
/-- Of the blocks from lo on just those that are reached, in order. -/
def keepIds (M : Mem) (lo : Nat) (roots : List Nat) : List Nat :=
  List.range lo ++ (reach M fuelR (roots ++ (M.take lo).flatMap fun b => match b with | some b => b.d.refs | none => []) []).filter fun i => !decide (i < lo)

/-! ### the program's tables -/
/-- What is done to a state at a loop's head, or behind it: nil slices get blocks, slots are let go, blocks are renumbered. -/
structure Tidy where
  mats : List (Nat × TypeId × Data)
  keep : List Nat

structure Ctx where
  P : Program
  ng : Nat
  gl : Nat → Option Nat
  call : FuncId → List AV → Mem → Option (Tree (AV × Mem))
  keep : FuncId → Nat → Option Tidy
  loop : FuncId → Nat → St → Tree (Ex × St)
def szT (P : Program) (t : TypeId) : Option Nat := (P.info? t).map (·.size)
def zeroT (P : Program) (t : TypeId) : Option Value := (P.info? t).bind (·.zero)
def aggT (P : Program) (t : TypeId) : Option Bool :=
  match P.underlying t with
  | some (.struct _) => some true
  | some (.array _ _) => some true
  | some _ => some false
  | none => none
/-- A part of a value's cells. -/
def partV (P : Program) (t : TypeId) (cs : List AV) (off : Nat) : Option AV :=
  (aggT P t).bind fun a => match a with
    | true => (szT P t).map fun n => .agg ((cs.drop off).take n)
    | false => cs[off]?
def glob (C : Ctx) (g : Nat) : AV := match C.gl g with | some i => .ptr ⟨i, 0, 0, 0⟩ | none => .junk
def opnd (C : Ctx) (env : List AV) : Operand → AV
  | .tmp t => env.getD t .junk
  | .const v => ofVal v
  | .global g => glob C g
  | .func f => .fn (.func f) [] []

/-! ### operations on numbers -/
def intBin (op : BinOp) (k : IntKind) (c : Bool) (a b : Int) : Tree AV :=
  match op with
  | .add => .ret (.int k c (k.wrap (a + b)))
  | .sub => .ret (.int k c (k.wrap (a - b)))
  | .mul => .ret (.int k c (k.wrap (a * b)))
  | .quo => .need c (!decide (b = 0)) (.ret (.int k c (k.wrap (a.tdiv b))))
  | .rem => .need c (!decide (b = 0)) (.ret (.int k c (a.tmod b)))
  | .and => .ret (.int k c (k.wrap (BitVec.ofInt k.bits a &&& BitVec.ofInt k.bits b).toNat))
  | .or => .ret (.int k c (k.wrap (BitVec.ofInt k.bits a ||| BitVec.ofInt k.bits b).toNat))
  | .xor => .ret (.int k c (k.wrap (BitVec.ofInt k.bits a ^^^ BitVec.ofInt k.bits b).toNat))
  | .andNot => .ret (.int k c (k.wrap (BitVec.ofInt k.bits a &&& ~~~BitVec.ofInt k.bits b).toNat))
  | .eql => .ret (.bool c (a == b))
  | .neq => .ret (.bool c (a != b))
  | .lss => .ret (.bool c (decide (a < b)))
  | .leq => .ret (.bool c (decide (a ≤ b)))
  | .gtr => .ret (.bool c (decide (a > b)))
  | .geq => .ret (.bool c (decide (a ≥ b)))
  | _ => .fail
def shiftBin (op : BinOp) (k : IntKind) (c d : Bool) (a y : Int) : Tree AV :=
  match op with
  | .shl => .need d (!decide (y < 0)) (.ret (.int k (c && d) (k.wrap (a * 2 ^ (min y.toNat k.bits)))))
  | .shr => .need d (!decide (y < 0)) (.ret (.int k (c && d) (a.fdiv (2 ^ (min y.toNat k.bits)))))
  | _ => .fail
/-- '==' by type: is it known, and which. -/
def eqT (P : Program) : Nat → TypeId → AV → AV → Option (Bool × Bool)
  | 0, _, _, _ => none
  | d + 1, t, x, y =>
    match P.underlying t, x, y with
    | some .bool, .bool c a, .bool c' b => some (c && c', a == b)
    | some (.int _), .int k c a, .int k' c' b => match decide (k = k') with | true => some (c && c', a == b) | false => none
    | some (.struct fs), .agg xs, .agg ys => match P.stoodInHeld t with
      | true => none
      | false => fs.toList.foldr (fun f acc => acc.bind fun (c, b) => match decide (f.name = "_") with
          | true => some (c, b)
          | false => (partV P f.type xs f.offset).bind fun u => (partV P f.type ys f.offset).bind fun v => (eqT P d f.type u v).map fun (c', b') => (c' && c, b' && b)) (some (true, true))
    | some (.array n e), .agg xs, .agg ys => (szT P e).bind fun s =>
        (List.range n).foldr (fun i acc => acc.bind fun (c, b) => (partV P e xs (i * s)).bind fun u => (partV P e ys (i * s)).bind fun v => (eqT P d e u v).map fun (c', b') => (c' && c, b' && b)) (some (true, true))
    | _, _, _ => none
def eqAV (P : Program) (t : TypeId) (x y : AV) : Option (Bool × Bool) :=
  match P.underlying t, x, y with
  | some (.pointer _), .ptr _, .nilp => some (true, false)
  | some (.pointer _), .nilp, .ptr _ => some (true, false)
  | some (.pointer _), .nilp, .nilp => some (true, true)
  | some (.func _ _ _), .fn _ _ _, .nilfn => some (true, false)
  | some (.func _ _ _), .nilfn, .nilfn => some (true, true)
  | some (.slice _), .sl z _ c _ _, .sl true _ true _ _ => some (c, z)
  | some .bool, .bool c a, .bool d b => some (c && d, a == b)
  | some (.struct _), .agg xs, .agg ys => match P.eqGuardType P.depth t with | false => eqT P 60 t (.agg xs) (.agg ys) | true => none
  | some (.array _ _), .agg xs, .agg ys => match P.eqGuardType P.depth t with | false => eqT P 60 t (.agg xs) (.agg ys) | true => none
  | _, _, _ => none
def binAV (P : Program) (op : BinOp) (t : TypeId) (x y : AV) : Tree AV :=
  match op, x, y with
  | .shl, .int k c a, .int _ d b => shiftBin .shl k c d a b
  | .shr, .int k c a, .int _ d b => shiftBin .shr k c d a b
  | op, .int k c a, .int k' d b => match decide (k = k') with | true => intBin op k (c && d) a b | false => .fail
  | .eql, x, y => match eqAV P t x y with | some (c, b) => .ret (.bool c b) | none => .fail
  | .neq, x, y => match eqAV P t x y with | some (c, b) => .ret (.bool c (!b)) | none => .fail
  | _, _, _ => .fail
def unAV (op : UnOp) (x : AV) : Tree AV :=
  match op, x with
  | .neg, .int k c n => .ret (.int k c (k.wrap (0 - n)))
  | .xor, .int k c n => .ret (.int k c (k.wrap (BitVec.ofInt k.bits (if k.signed then -1 else k.max) ^^^ BitVec.ofInt k.bits n).toNat))
  | .not, .bool c b => .ret (.bool c (!b))
  | _, _ => .fail
def convAV (P : Program) (d : TypeId) (x : AV) : Tree AV :=
  match P.underlying d, x with
  | some (.int k), .int _ c n => .ret (.int k c (k.wrap n))
  | _, _ => .fail
/-- The lowest, the greatest, of some. -/
def minAV : AV → List AV → Tree AV
  | v, [] => .ret v
  | .int k c x, .int _ d y :: l => minAV (.int k (c && d) (if y < x then y else x)) l
  | _, _ => .fail
def maxAV : AV → List AV → Tree AV
  | v, [] => .ret v
  | .int k c x, .int _ d y :: l => maxAV (.int k (c && d) (if y > x then y else x)) l
  | _, _ => .fail

/-! ### places -/
def Ref.idx (r : Ref) (c : Bool) (i sz : Nat) : Option Ref :=
  match c with
  | true => some { r with off := r.off + i * sz }
  | false => match r.w with
    | 0 => some { r with row := i, w := sz }
    | w + 1 => match decide (w + 1 = sz) with | true => some { r with row := r.row + i } | false => none
def fieldOf (P : Program) (s : TypeId) (f : Nat) : Option Field :=
  match P.underlying s with
  | some (.struct fs) => fs[f]?
  | _ => none
def fieldAddrAV (P : Program) (s : TypeId) (x : AV) (f : Nat) : Tree AV :=
  match x, fieldOf P s f with
  | .ptr r, some fd => match szT P fd.type with
    | some (_ + 1) => .ret (.ptr { r with off := r.off + fd.offset })
    | _ => .fail
  | _, _ => .fail
def fieldAV (P : Program) (s : TypeId) (x : AV) (f : Nat) : Tree AV :=
  match x, fieldOf P s f with
  | .agg cs, some fd => .ofOpt (partV P fd.type cs fd.offset)
  | _, _ => .fail
def indexAddrAV (P : Program) (t : TypeId) (x i : AV) : Tree AV :=
  match P.underlying t, x, i with
  | some (.array len e), .ptr r, .int _ c n => match szT P e with
    | some s => .need c (decide (0 ≤ n ∧ n < len)) (match r.idx c n.toNat s with | some r' => .ret (.ptr r') | none => .fail)
    | none => .fail
  | some (.slice e), .sl z r d len _, .int _ c n => match szT P e with
    | some s => .need (c && d) (!z && decide (0 ≤ n ∧ n < len)) (match r.idx c n.toNat s with | some r' => .ret (.ptr r') | none => .fail)
    | none => .fail
  | _, _, _ => .fail
def indexAV (P : Program) (t : TypeId) (x i : AV) : Tree AV :=
  match P.underlying t, x, i with
  | some (.array len e), .agg cs, .int _ c n => match szT P e with
    | some s => .need c (decide (0 ≤ n ∧ n < len)) (match c with
      | true => .ofOpt (partV P e cs (n.toNat * s))
      | false => match aggT P e, s, (kindOf cs).bind fun k => (intsOf k cs).map fun ns => (k, ns) with
        | some false, 1, some (k, ns) => .need false (decide (n.toNat < cs.length)) (.ret (.int k false (ns.getD n.toNat 0)))
        | _, _, _ => .fail)
    | none => .fail
  | _, _, _ => .fail
def optNat (d : Nat) : Option AV → Option (Bool × Int)
  | none => some (true, d)
  | some (.int _ c n) => some (c, n)
  | some _ => none
def sliceCap (hi : Option AV) (m : Cap) : Cap := match hi, m with | none, .exact => .exact | _, _ => .any
/-- x[lo:hi], x[lo:hi:max]: within the length. -/
def sliceAV (P : Program) (t : TypeId) (x : AV) (lo hi mx : Option AV) : Tree AV :=
  let go (z : Bool) (r : Ref) (d : Bool) (len : Nat) (e : TypeId) (m : Cap) : Tree AV :=
    match optNat 0 lo, optNat len hi, szT P e with
    | some (c1, l), some (c2, h), some s =>
      match mx, hi with
      | none, _ => .need (c1 && c2 && d) (decide (0 ≤ l ∧ l ≤ h ∧ h ≤ len)) (match r.idx c1 l.toNat s with
          | some r' => .ret (.sl z r' (c1 && c2 && d) (h.toNat - l.toNat) (sliceCap hi m))
          | none => .fail)
      | some (.int _ c3 q), some _ => .need (c1 && c2 && c3 && d) (decide (0 ≤ l ∧ l ≤ h ∧ h ≤ q ∧ q ≤ len)) (.need (c2 && c3) (decide (h = q)) (match r.idx c1 l.toNat s with
          | some r' => .ret (.sl z r' (c1 && c2 && d) (h.toNat - l.toNat) .exact)
          | none => .fail))
      | _, _ => .fail
    | _, _, _ => .fail
  match P.underlying t, x with
  | some (.slice e), .sl z r d len m => go z r d len e m
  | some (.array n e), .ptr r => go false r true n e .exact
  | some (.pointer a), .ptr r => match P.underlying a with
    | some (.array n e) => go false r true n e .exact
    | _ => .fail
  | _, _ => .fail

/-! ### values that are built -/
def AV.okv : AV → Bool
  | .junk => false
  | .tup _ => false
  | _ => true
def fillAV : List (Nat × Nat) → List AV → List (Nat × AV) → Option (List AV)
  | _, cells, [] => some cells
  | places, cells, (i, v) :: rest =>
    match places[i]? with
    | none => none
    | some (off, n) => match v.okv && decide (v.parts.length = n ∧ off + n ≤ cells.length) with
      | true => fillAV places (cells.take off ++ (v.parts ++ cells.drop (off + n))) rest
      | false => none
def placesT (P : Program) (t : TypeId) : Option (List (Nat × Nat)) :=
  match P.underlying t with
  | some (.struct fs) => fs.toList.mapM fun f => (P.info? f.type).map fun i => (f.offset, i.size)
  | some (.array n e) => (szT P e).map fun s => (List.range n).map fun i => (i * s, s)
  | _ => none
def buildAV (P : Program) (t : TypeId) (parts : List (Nat × AV)) : Tree AV :=
  match zeroT P t, placesT P t with
  | some (.agg z), some pl => match fillAV pl (z.toList.map ofCell) parts with | some cs => .ret (.agg cs) | none => .fail
  | _, _ => .fail
def newBlk (M : Mem) (b : Blk) (v : Ref → AV) : Tree (AV × Mem) := .ret (v ⟨M.length, 0, 0, 0⟩, M ++ [some b])
def zerosOf (z : List AV) (n : Nat) : List AV := (List.replicate n z).flatten
def buildSliceAV (P : Program) (t : TypeId) (len : Nat) (parts : List (Nat × AV)) (M : Mem) : Tree (AV × Mem) :=
  match P.underlying t with
  | some (.slice e) => match szT P e, zeroT P e with
    | some s, some z => match decide (len * s ≤ 65536 ∧ 0 < s ∧ z.cells.size = s) with
      | true => match fillAV ((List.range len).map fun i => (i * s, s)) (zerosOf (z.cells.toList.map ofCell) len) parts with
        | some cs => newBlk M ⟨e, true, false, true, .cells cs⟩ fun r => .sl false r true len .exact
        | none => .fail
      | false => .fail
    | _, _ => .fail
  | _ => .fail
def most48 : Int := 140737488355328
def makeSliceAV (P : Program) (t : TypeId) (l c : AV) (M : Mem) : Tree (AV × Mem) :=
  match P.underlying t, l, c with
  | some (.slice e), .int _ cl n, .int _ cc m => match P.info? e with
    | some i => match i.zero with
      | some z => match decide (z.cells.size = i.size ∧ 0 < i.size) with
        | true => .need (cl && cc) (decide (0 ≤ n ∧ n = m ∧ n ≤ most48 ∧ n * i.bytes ≤ most48)) (match cl, z with
          | true, _ => newBlk M ⟨e, true, false, true, .cells (zerosOf (z.cells.toList.map ofCell) n.toNat)⟩ fun r => .sl false r true n.toNat .exact
          | false, .int k x => newBlk M ⟨e, true, false, true, .ints k (List.replicate n.toNat x)⟩ fun r => .sl false r false n.toNat .exact
          | _, _ => .fail)
        | false => .fail
      | none => .fail
    | none => .fail
  | _, _, _ => .fail

/-! ### memory's operations -/
def loadAV (P : Program) (t : TypeId) (x : AV) (M : Mem) : Tree AV :=
  match x with
  | .ptr r => match M.at r.id, szT P t, aggT P t with
    | some b, some n, some a => match b.virt with
      | true => .fail
      | false => match a with
        | true => (b.d.read r n).bind fun l => .ret (.agg l)
        | false => (b.d.read r 1).bind fun l => match l with | [v] => .ret v | _ => .fail
    | _, _, _ => .fail
  | _ => .fail
def AV.one : AV → Bool
  | .agg _ => false
  | .tup _ => false
  | .junk => false
  | _ => true
def storeAV (P : Program) (t : TypeId) (x v : AV) (M : Mem) : Tree Mem :=
  match x with
  | .ptr r => match M.at r.id, szT P t with
    | some b, some n => match b.virt, b.rw, decide (v.parts.length = n), v.parts.all AV.one with
      | false, true, true, true => (b.d.write r v.parts).bind fun d => .ret (M.set r.id (some { b with d := d }))
      | _, _, _, _ => .fail
    | _, _ => .fail
  | _ => .fail
def Data.conc : Data → Bool
  | .cells _ => true
  | _ => false
def Data.ones : Data → Bool
  | .cells l => l.all AV.one
  | .ints _ _ => true
  | .tab _ _ _ => false
/-- What a slice holds, as a piece of its own. -/
def srcOf (M : Mem) (size : Nat) (z : Bool) (r : Ref) (c : Bool) (len : Nat) : Option Data :=
  match c, len with
  | true, 0 => some (.cells [])
  | _, _ => (M.at r.id).bind fun b => match b.virt with
    | true => none
    | false => b.d.piece r c (len * size)
/-- append(s, x...). -/
def appendAV (P : Program) (ts tx : TypeId) (s x : AV) (M : Mem) : Tree (AV × Mem) :=
  match s, x, decide (ts = tx), P.underlying ts with
  | .sl z r d len m, .sl z' r' d' len' _, true, some (.slice e) =>
    match P.info? e with
    | some i => match i.zero with
      | some zv => match decide (zv.cells.size = i.size ∧ 0 < i.size) with
        | true =>
          match srcOf M i.size z' r' d' len' with
          | none => .fail
          | some new =>
            let room : Bool := decide ((len + len' : Nat) ≤ most48 ∧ ((len + len') * i.bytes : Nat) ≤ most48)
            match new.ones with
            | false => .fail
            | true => match m with
            | .own => match r.w, r.off, M.at r.id with
              | 0, 0, some b => match b.rw, b.row, decide (b.e = e), b.d.append new with
                | true, true, true, some dn => .need (d && d') room (.need (d && d' && b.d.conc && new.conc) (decide (len * i.size = b.d.size ∧ new.size = len' * i.size) && (z == b.virt))
                    (.ret (.sl (z && decide (len' = 0)) ⟨M.length, 0, 0, 0⟩ (d && d') (len + len') .own, M.set r.id none ++ [some ⟨e, true, b.virt && decide (len' = 0), true, dn⟩])))
                | _, _, _, _ => .fail
              | _, _, _ => .fail
            | .exact =>
              match d', len' with
              | true, 0 => .ret (.sl z r d len m, M)
              | _, _ =>
                let old : Option Data := match d, len, new with
                  | true, 0, .ints k _ => some (.ints k [])
                  | true, 0, .tab sz _ _ => some (.tab sz 0 fun _ => [])
                  | _, _, _ => (srcOf M i.size z r d len).bind fun od => match od.ones with | true => some od | false => none
                match old with
                | none => .fail
                | some od => match od.append new with
                  | none => .fail
                  | some dn => .need (d && d') room (.need (d && d' && od.conc && new.conc) (decide (od.size = len * i.size ∧ new.size = len' * i.size))
                    (.ifB d' (decide (len' = 0)) (.ret (.sl z r d len m, M))
                      (.ret (.sl false ⟨M.length, 0, 0, 0⟩ (d && d') (len + len') .own, M ++ [some ⟨e, true, false, true, dn⟩]))))
            | .any => .fail
        | false => .fail
      | none => .fail
    | none => .fail
  | _, _, _, _ => .fail
def copyAV (P : Program) (td ts : TypeId) (x y : AV) (M : Mem) : Tree (AV × Mem) :=
  match x, y, P.underlying td with
  | .sl false r d len _, .sl _ r' d' len' _, some (.slice e) => match szT P e with
    | some 1 => match M.at r.id, M.at r'.id with
      | some b, some b' => match b.virt, b.rw, b'.virt with
        | false, true, false => match b.d, b'.d.intList, r.w with
          | .cells l, some (k, ns), 0 => match intsOf k l, d with
            | some ms, true => .need (d' && b'.d.conc) (decide (r.off + len ≤ l.length ∧ r'.pos + len' ≤ ns.length))
                (.ret (.int .i64 (d && d') (Nat.min len' len : Nat), M.set r.id (some { b with d := .cells ((List.range l.length).map fun j =>
                  .int k (d' && b'.d.conc) (bif decide (r.off ≤ j ∧ j < r.off + Nat.min len' len) then ns.getD (r'.pos + (j - r.off)) 0 else ms.getD j 0)) })))
            | _, _ => .fail
          | .ints k l, some (k', ns), _ => match decide (k = k') with
            | true => .need false (decide (r.pos + len ≤ l.length ∧ r'.pos + len' ≤ ns.length))
                (.ret (.int .i64 (d && d') (Nat.min len' len : Nat), M.set r.id (some { b with d := .ints k (l.take r.pos ++ (((ns.drop r'.pos).take (Nat.min len' len)) ++ l.drop (r.pos + Nat.min len' len))) })))
            | false => .fail
          | _, _, _ => .fail
        | _, _, _ => .fail
      | _, _ => .fail
    | _ => .fail
  | _, _, _ => .fail
def lenAV (P : Program) (t : TypeId) (x : AV) : Tree AV :=
  match P.underlying t, x with
  | some (.slice _), .sl _ _ c n _ => .ret (.int .i64 c n)
  | some (.array n _), _ => .ret (.int .i64 true n)
  | some (.pointer a), _ => match P.underlying a with
    | some (.array n _) => .ret (.int .i64 true n)
    | _ => .fail
  | _, _ => .fail

/-! ### calls -/
def callAt (C : Ctx) (callF : FuncId → List AV → Mem → Tree (AV × Mem)) (f : FuncId) (args : List AV) (M : Mem) : Tree (AV × Mem) :=
  let ks := List.range C.ng ++ (reach M fuelR (AV.refsL args) []).filter fun i => !decide (i < C.ng)
  match nodup ks && ks.all fun k => decide (k < M.length) with
  | true => (callF f (AV.renL (idxOf ks) args) (M.sub ks)).bind fun (v, M') => .ret (v.ren (backRen M ks), M.back ks M')
  | false => .fail
def opCall (C : Ctx) (callF : FuncId → List AV → Mem → Tree (AV × Mem)) (ρ : Operand → AV) (c : Call) (M : Mem) : Tree (AV × Mem) :=
  match c.callee with
  | .value f => match ρ f with
    | .fn (.func g) first caps => callAt C callF g (first ++ c.args.toList.map ρ ++ caps) M
    | _ => .fail
  | .builtin b => match b, c.args.toList, c.argTypes.toList with
    | .append, [s, x], [ts, tx] => appendAV C.P ts tx (ρ s) (ρ x) M
    | .copy, [x, y], [td, ts] => copyAV C.P td ts (ρ x) (ρ y) M
    | .len, [x], [t] => (lenAV C.P t (ρ x)).bind fun v => .ret (v, M)
    | .min, x :: l, _ => (minAV (ρ x) (l.map ρ)).bind fun v => .ret (v, M)
    | .max, x :: l, _ => (maxAV (ρ x) (l.map ρ)).bind fun v => .ret (v, M)
    | _, _, _ => .fail
  | .invoke _ _ => .fail

/-- One operation. -/
def evOp (C : Ctx) (callF : FuncId → List AV → Mem → Tree (AV × Mem)) (ρ : Operand → AV) (o : Op) (M : Mem) : Tree (AV × Mem) :=
  let pure (t : Tree AV) : Tree (AV × Mem) := t.bind fun v => .ret (v, M)
  match o with
  | .move x => .ret (ρ x, M)
  | .assign x => .ret (ρ x, M)
  | .pick c a b => match ρ c with
    | .bool k g => .ifB k g (.ret (ρ a, M)) (.ret (ρ b, M))
    | _ => .fail
  | .alloc t => match zeroT C.P t with
    | some z => match (ofVal z).okv with
      | true => newBlk M ⟨t, true, false, false, .cells (ofVal z).parts⟩ .ptr
      | false => .fail
    | none => .fail
  | .box t x => match (ρ x).okv with
    | true => newBlk M ⟨t, true, false, false, .cells (ρ x).parts⟩ .ptr
    | false => .fail
  | .build t ps => pure (buildAV C.P t (ps.toList.map fun p => (p.1, ρ p.2)))
  | .buildSlice t n ps => buildSliceAV C.P t n (ps.toList.map fun p => (p.1, ρ p.2)) M
  | .load t x => pure (loadAV C.P t (ρ x) M)
  | .store t x y => (storeAV C.P t (ρ x) (ρ y) M).bind fun M' => .ret (.junk, M')
  | .nilCheck x => match ρ x with
    | .ptr r => .ret (.ptr r, M)
    | .fn (.func g) a b => .ret (.fn (.func g) a b, M)
    | _ => .fail
  | .binOp op t x y _ => pure (binAV C.P op t (ρ x) (ρ y))
  | .unOp op _ x => pure (unAV op (ρ x))
  | .convert s d x => match C.P.underlying s with
    | some _ => pure (convAV C.P d (ρ x))
    | none => .fail
  | .makeFunc f a b => match f with
    | .func g => .ret (.fn (.func g) (a.toList.map ρ) (b.toList.map ρ), M)
    | _ => .fail
  | .makeSlice t l c => makeSliceAV C.P t (ρ l) (ρ c) M
  | .slice t x lo hi mx => pure (sliceAV C.P t (ρ x) (lo.map ρ) (hi.map ρ) (mx.map ρ))
  | .fieldAddr s x f => pure (fieldAddrAV C.P s (ρ x) f)
  | .field s x f => pure (fieldAV C.P s (ρ x) f)
  | .indexAddr t x i => pure (indexAddrAV C.P t (ρ x) (ρ i))
  | .index t x i => pure (indexAV C.P t (ρ x) (ρ i))
  | .extract x i => match ρ x with
    | .tup vs => pure (.ofOpt vs[i]?)
    | _ => .fail
  | .call c => opCall C callF ρ c M
  | _ => .fail

/-! ### reckoned at once -/
section
variable {β : Type}
def forceB (b : Bool) (k : Bool → β) : β := match b with | true => k true | false => k false
mutual
def forceV : AV → (AV → β) → β
  | .junk, k => k .junk
  | .bool c b, k => forceB c fun c => match c with | true => forceB b fun b => k (.bool true b) | false => k (.bool false b)
  | .int kd c n, k => forceB c fun c => k (.int kd c n)
  | .nilp, k => k .nilp
  | .ptr ⟨i, r, w, o⟩, k => k (.ptr ⟨i, r, w, o⟩)
  | .sl z ⟨i, r, w, o⟩ c l m, k => forceB c fun c => match c with | true => forceB z fun z => k (.sl z ⟨i, r, w, o⟩ true l m) | false => k (.sl z ⟨i, r, w, o⟩ false l m)
  | .fn f a b, k => forceL a fun a => forceL b fun b => k (.fn f a b)
  | .nilfn, k => k .nilfn
  | .agg cs, k => forceL cs fun cs => k (.agg cs)
  | .tup cs, k => forceL cs fun cs => k (.tup cs)
def forceL : List AV → (List AV → β) → β
  | [], k => k []
  | a :: l, k => forceV a fun a => forceL l fun l => k (a :: l)
end
def forceD : Data → (Data → β) → β
  | .cells l, k => forceL l fun l => k (.cells l)
  | .ints kd l, k => k (.ints kd l)
  | .tab sz n f, k => k (.tab sz n f)
def forceM : Mem → (Mem → β) → β
  | [], k => k []
  | none :: M, k => forceM M fun M => k (none :: M)
  | some ⟨e, rw, v, r, d⟩ :: M, k => forceB rw fun rw => forceB r fun r => forceD d fun d => forceM M fun M => k (some ⟨e, rw, v, r, d⟩ :: M)
theorem forceB_eq (b : Bool) (k : Bool → β) : forceB b k = k b := by cases b <;> rfl
mutual
theorem forceV_eq : ∀ (v : AV) (k : AV → β), forceV v k = k v
  | .junk, k => rfl
  | .bool c b, k => by cases c <;> simp [forceV, forceB_eq]
  | .int kd c n, k => by simp [forceV, forceB_eq]
  | .nilp, k => rfl
  | .ptr ⟨i, r, w, o⟩, k => rfl
  | .sl z ⟨i, r, w, o⟩ c l m, k => by cases c <;> simp [forceV, forceB_eq]
  | .fn f a b, k => by simp [forceV, forceL_eq a, forceL_eq b]
  | .nilfn, k => rfl
  | .agg cs, k => by simp [forceV, forceL_eq cs]
  | .tup cs, k => by simp [forceV, forceL_eq cs]
theorem forceL_eq : ∀ (l : List AV) (k : List AV → β), forceL l k = k l
  | [], k => rfl
  | a :: l, k => by simp [forceL, forceV_eq a, forceL_eq l]
end
theorem forceD_eq (d : Data) (k : Data → β) : forceD d k = k d := by cases d <;> simp [forceD, forceL_eq]
theorem forceM_eq : ∀ (M : Mem) (k : Mem → β), forceM M k = k M
  | [], k => rfl
  | none :: M, k => by simp [forceM, forceM_eq M]
  | some ⟨e, rw, v, r, d⟩ :: M, k => by simp [forceM, forceB_eq, forceD_eq, forceM_eq M]
def forceS (s : St) (k : St → β) : β := forceL s.env fun e => forceM s.mem fun m => k ⟨e, m⟩
theorem forceS_eq (s : St) (k : St → β) : forceS s k = k s := by simp [forceS, forceL_eq, forceM_eq]
end

def putV (env : List AV) (d : Option Tmp) (v : AV) : List AV := match d with | some d => env.set d v | none => env
/-- Where a guard stands, and what it must be. -/
def guardOf (ops : List Oper) (o : Oper) : Option (Option Nat × Bool) :=
  match o.guard with
  | none => none
  | some (j, want) => some ((ops[j]?).bind (·.dst), want)
/-- An operation, where its guard lets it. -/
def evStep (C : Ctx) (callF : FuncId → List AV → Mem → Tree (AV × Mem)) (ops : List Oper) (o : Oper) (see : Mem → Mem) (put : Mem → Mem → Mem) (st : St) : Tree St :=
  let run (env : List AV) : Tree St := (evOp C callF (opnd C env) o.op (see st.mem)).bind fun (v, M) => forceV v fun v => .ret ⟨putV env o.dst v, put st.mem M⟩
  match guardOf ops o with
  | none => run st.env
  | some (some g, want) => match st.env.getD g .junk with
    | .bool c b => .ifB c b
        (match want with | true => run (st.env.set g (.bool true true)) | false => .ret ⟨putV (st.env.set g (.bool true true)) o.dst (.tup []), st.mem⟩)
        (match want with | false => run (st.env.set g (.bool true false)) | true => .ret ⟨putV (st.env.set g (.bool true false)) o.dst (.tup []), st.mem⟩)
    | .tup [] => .ret ⟨putV st.env o.dst (.tup []), st.mem⟩
    | _ => .fail
  | some (none, _) => .fail
def evSeq (C : Ctx) (callF : FuncId → List AV → Mem → Tree (AV × Mem)) (ops : List Oper) : List Oper → St → Tree St
  | [], st => .ret st
  | o :: l, st => (evStep C callF ops o id (fun _ M => M) st).bind (evSeq C callF ops l)
end Go.Proofs.Ytonhkbgielilbaa.Rig
