/- A reckoner over Go's operations: regions, code, calls. -/
import Derived.Test.YtonhkbgielilbaaR1
namespace Go.Proofs.Ytonhkbgielilbaa.Rig
open Go

/-! ### a region that draws its order -/
def directs (o : Oper) : List Nat := o.after.toList.filterMap fun e => match Region.binds .any e with | true => some e.on | false => none
def predsOf (ops : List Oper) : List (List Nat) := ops.foldl (fun acc o => acc ++ [(directs o).flatMap fun k => k :: acc.getD k []]) []
def isLoud (o : Oper) : Bool :=
  match o.op with
  | .store .. => true
  | .call c => match c.callee with
    | .builtin .append => true
    | .builtin .copy => true
    | _ => false
  | _ => false
def headLen (ops : List Oper) : Nat := (ops.findIdx? isLoud).getD ops.length
def sees (ops : List Oper) (o : Oper) (t : Tmp) : Bool := (o.looksAt ops.toArray).contains t
/-- In the head each slot is put once, and looked at just behind it. -/
def headAt (ops : List Oper) (n j : Nat) (oj : Oper) : Bool :=
  (directs oj).all (fun k => decide (k < j)) &&
  (List.range n).all fun k => match ops[k]? with
    | none => true
    | some ok => match ok.dst with
      | none => true
      | some t => match decide (k = j) with
        | true => !sees ops oj t
        | false => !(oj.dst == some t) && (!sees ops oj t || (directs oj).contains k)
def headOk (ops : List Oper) (n : Nat) : Bool :=
  decide (n ≤ ops.length) && Region.noSelect ops.toArray && (List.range n).all fun j => match ops[j]? with
    | none => true
    | some oj => headAt ops n j oj
def listedTo (len n : Nat) : Array Bool := (List.range n).foldl (fun a i => a.setIfInBounds i true) (Array.replicate len false)
def tailOk (ops : List Oper) (n : Nat) : Bool :=
  match decide (n = ops.length) with
  | true => true
  | false => decide (n < ops.length) && Region.sinkB .any ops.toArray n && Region.chainB .any ops.toArray n && Region.seqB .any ops.toArray (ops.length - n) n (listedTo ops.length n)
def visible (m0 : Nat) (spans : List (Nat × Nat)) (ps : List Nat) (M : Mem) : Mem :=
  Mem.freeze ((List.range M.length).map fun i => match decide (i < m0) || ps.any (fun k => match spans[k]? with | some (a, b) => decide (a ≤ i ∧ i < b) | none => false) with
    | true => M.at i
    | false => none)
def blkNew (m : Nat) (b : Blk) : Bool :=
  b.rw && (match b.d with | .tab _ _ _ => false | d => d.refs.all fun i => decide (i < m))
def newOk (M : Mem) (m : Nat) (v : AV) : Bool :=
  v.refs.all (fun i => decide (i < M.length)) && (M.drop m).all fun b => match b with | some b => blkNew M.length b | none => true
structure HSt where
  st : St
  spans : List (Nat × Nat)
def evHead (C : Ctx) (callF : FuncId → List AV → Mem → Tree (AV × Mem)) (ops : List Oper) (m0 : Nat) : List Oper → List (List Nat) → HSt → Tree HSt
  | [], _, h => .ret h
  | o :: l, pl, h =>
    (evStep C callF ops o (visible m0 h.spans (pl.headD [])) (fun M M' => M ++ M'.drop M.length) h.st).bind fun st =>
      match newOk st.mem h.st.mem.length (match o.dst with | some d => st.env.getD d .junk | none => .junk) with
      | true => evHead C callF ops m0 l pl.tail ⟨st, h.spans ++ [(h.st.mem.length, st.mem.length)]⟩
      | false => .fail
/-- Where the tail begins: at the first that writes, or at the last of all. -/
def cutAt (ops : List Oper) : Nat := match headOk ops (headLen ops) && tailOk ops (headLen ops) with | true => headLen ops | false => min (headLen ops) (ops.length - 1)
def evRegion (C : Ctx) (callF : FuncId → List AV → Mem → Tree (AV × Mem)) (ops : List Oper) (draw : Bool) (st : St) : Tree St :=
  match draw with
  | false => evSeq C callF ops ops st
  | true =>
    let n := cutAt ops
    match headOk ops n && tailOk ops n with
    | true => (evHead C callF ops st.mem.length (ops.take n) (predsOf ops) ⟨st, []⟩).bind fun h => evSeq C callF ops (ops.drop n) h.st
    | false => .fail

/-! ### code -/
def Code.key : Code → Nat
  | .region id _ _ => id
  | .seq a _ => Code.key a
  | .block _ b => Code.key b
  | .scope b => Code.key b
  | .loop b => Code.key b
  | .cond _ a _ => Code.key a
  | _ => 0
/-- The bodies of a code's loops. -/
def loopsIn : Code → List Code
  | .seq a b => loopsIn a ++ loopsIn b
  | .cond _ a b => loopsIn a ++ loopsIn b
  | .block _ b => loopsIn b
  | .scope b => loopsIn b
  | .loop b => b :: loopsIn b
  | _ => []
def maskAt (ks : List Nat) (i : Nat) : List AV → List AV
  | [] => []
  | v :: l => (match ks.contains i with | true => v | false => .junk) :: maskAt ks (i + 1) l
def normSt (ks : List Nat) (lo : Nat) (st : St) : Option St :=
  let env := maskAt ks 0 st.env
  let ids := keepIds st.mem lo (AV.refsL env)
  match nodup ids with
  | true => some ⟨AV.renL (idxOf ids) env, st.mem.sub ids⟩
  | false => none
/-- A nil slice in a slot gets a block of its own, which is not there. -/
def matSt (t : Nat) (e : TypeId) (d : Data) (st : St) : Option St :=
  match st.env[t]?, decide (d.size = 0) with
  | some (.sl true _ true 0 _), true => some ⟨st.env.set t (.sl true ⟨st.mem.length, 0, 0, 0⟩ false 0 .own), st.mem ++ [some ⟨e, true, true, true, d⟩]⟩
  | _, _ => none
def Tidy.go (T : Tidy) (lo : Nat) (st : St) : Option St :=
  (T.mats.foldl (fun s m => s.bind (matSt m.1 m.2.1 m.2.2)) (some st)).bind (normSt T.keep lo)
def condSt (c : Operand) (b : Bool) (st : St) : St := match c with | .tmp t => ⟨st.env.set t (.bool true b), st.mem⟩ | _ => st
def evCode (C : Ctx) (callF : FuncId → List AV → Mem → Tree (AV × Mem)) (f : FuncId) (lo : Nat) : Nat → Code → St → Tree (Ex × St)
  | 0, _, _ => .fail
  | n + 1, c, st =>
    match c with
    | .skip => .ret (.norm, st)
    | .label _ => .ret (.norm, st)
    | .ret => .ret (.ret, st)
    | .exit id => .ret (.exit id, st)
    | .seq a b => (evCode C callF f lo n a st).bind fun (ex, st') => match ex with
      | .norm => evCode C callF f lo n b st'
      | e => .ret (e, st')
    | .cond x a b => match opnd C st.env x with
      | .bool k g => .ifB k g (evCode C callF f lo n a (condSt x true st)) (evCode C callF f lo n b (condSt x false st))
      | _ => .fail
    | .block id body => (evCode C callF f lo n body st).bind fun (ex, st') => match ex with
      | .exit id' => match decide (id' = id) with | true => .ret (.norm, st') | false => .ret (.exit id', st')
      | e => .ret (e, st')
    | .loop body => match C.keep f (Code.key body) with
      | some T => match T.go lo st with
        | some st' => C.loop f (Code.key body) st'
        | none => .fail
      | none => (evCode C callF f lo n body st).bind fun (ex, st') => match ex with
        | .norm => evCode C callF f lo n (.loop body) st'
        | e => .ret (e, st')
    | .region _ ops draw => (evRegion C callF ops.toList draw st).bind fun st' => .ret (.norm, st')
    | _ => .fail
def resAV (P : Program) (st : St) : ResultVar → Tree AV
  | .tmp t => .ret (st.env.getD t .junk)
  | .cell a t => loadAV P t (st.env.getD a .junk) st.mem
def resAll (P : Program) (st : St) : List ResultVar → Tree (List AV)
  | [] => .ret []
  | r :: l => (resAV P st r).bind fun v => (resAll P st l).bind fun vs => .ret (v :: vs)
def packRes : List AV → AV
  | [v] => v
  | vs => .tup vs
def finish (P : Program) (fn : Func) (lo : Nat) (st : St) : Tree (AV × Mem) :=
  (resAll P st fn.results.toList).bind fun vs =>
    let v := packRes vs
    let ids := keepIds st.mem lo v.refs
    match nodup ids with
    | true => .ret (v.ren (idxOf ids), st.mem.sub ids)
    | false => .fail
def fuelC : Nat := 1000000
def evBody (C : Ctx) (callF : FuncId → List AV → Mem → Tree (AV × Mem)) (f : FuncId) (args : List AV) (M : Mem) : Tree (AV × Mem) :=
  match C.P.funcs[f]? with
  | some fn => match fn.body with
    | some c => match decide (fn.name = "runtime.NumGoroutine") with
      | true => .fail
      | false => (evCode C callF f M.length fuelC c ⟨args ++ List.replicate (fn.ntmps - args.length) .junk, M⟩).bind fun (ex, st) => match ex with
        | .norm => finish C.P fn M.length st
        | .ret => finish C.P fn M.length st
        | .exit _ => .fail
    | none => .fail
  | none => .fail
def evCall (C : Ctx) : Nat → FuncId → List AV → Mem → Tree (AV × Mem)
  | 0, _, _, _ => .fail
  | n + 1, f, args, M => match C.call f args M with
    | some t => t
    | none => evBody C (evCall C n) f args M
end Go.Proofs.Ytonhkbgielilbaa.Rig
