/- A reckoner over Go's operations: each operation. -/
import Derived.Test.YtonhkbgielilbaaR12
namespace Go.Proofs.Ytonhkbgielilbaa.Rig
open Go
def Enters (P : Program) (f : FuncId) : Prop := ∃ fn c, P.funcs[f]? = some fn ∧ fn.body = some c ∧ (fn.name == "runtime.NumGoroutine") = false
def GlOk (C : Ctx) (σ : Sig) : Prop := ∀ g i, C.gl g = some i → i < C.ng ∧ ∃ x, σ i = some x ∧ x.blk = g ∧ x.off = 0
def Comes' (P : Program) (σ : Sig) (M : Mem) (w : World) (f : FuncId) (args : Array Value) (r : AV × Mem) : Prop :=
  Calls P f args w fun e w' => ∃ val σ', e = .returned val ∧ Rep σ' r.1 val ∧ Moved P σ M w σ' r.2 w'
def CallOk (C : Ctx) (callF : FuncId → List AV → Mem → Tree (AV × Mem)) : Prop :=
  ∀ f args M r, (callF f args M).runs r → ∀ σ w vals, RepL σ args vals → Rel C.P σ M w → GlOk C σ → C.ng ≤ M.length → Enters C.P f ∧ Comes' C.P σ M w f vals.toArray r
inductive OpDoes (P : Program) (σ : Sig) (M : Mem) (w : World) (s : Sem Next) (r : AV × Mem) : Prop where
  | value (val : Value) (w' : World) (σ' : Sig) (h1 : s.run P w = .ok (.value val) w') (h2 : Rep σ' r.1 val) (h3 : Moved P σ M w σ' r.2 w')
  | skip (w' : World) (σ' : Sig) (h1 : s.run P w = .ok .skip w') (h2 : Rep σ' r.1 undef) (h3 : Moved P σ M w σ' r.2 w')
  | enter (f : FuncId) (args : Array Value) (h1 : s.run P w = .ok (.enter f args) w) (h2 : Comes' P σ M w f args r)
section
variable {C : Ctx} {callF : FuncId → List AV → Mem → Tree (AV × Mem)} {σ : Sig} {M : Mem} {w : World}
theorem OpDoes.of {P : Program} {s : Sem Value} {r : AV × Mem} (h : Does P σ M w s r) : OpDoes P σ M w (do let x ← s; pure (.value x)) r := by
  obtain ⟨val, w', σ', h1, h2, h3⟩ := h
  exact .value val w' σ' (by simp [h1]) h2 h3
theorem OpDoes.ofPure {P : Program} {s : Sem Value} {t : Tree AV} {r : AV × Mem} (hr : Rel P σ M w) (h : (t.bind fun v => .ret (v, M)).runs r) (hs : ∀ v, t.runs v → Yld P σ w s v) : OpDoes P σ M w (do let x ← s; pure (.value x)) r := by
  obtain ⟨v, h1, h2⟩ := Tree.runs_bind h
  simp only [Tree.runs] at h2
  subst h2
  exact .of ((hs v h1).does hr)

theorem RepL.map {ρ : Operand → AV} {ev : Operand → Value} : ∀ {l : List Operand}, (∀ x ∈ l, Rep σ (ρ x) (ev x)) → RepL σ (l.map ρ) (l.map ev)
  | [], _ => RepL.nil
  | x :: l, h => RepL.cons (h x (by simp)) (RepL.map fun y hy => h y (by simp [hy]))
theorem PartsOk.map {ρ : Operand → AV} {ev : Operand → Value} {l : List (Nat × Operand)} (h : ∀ p ∈ l, Rep σ (ρ p.2) (ev p.2)) : PartsOk σ (l.map fun p => (p.1, ρ p.2)) (l.map fun p => (p.1, ev p.2)) := by
  refine ⟨by simp, fun i p q hp hq => ?_⟩
  simp only [List.getElem?_map, Option.map_eq_some_iff] at hp hq
  obtain ⟨a, ha, rfl⟩ := hp
  obtain ⟨b, hb, rfl⟩ := hq
  rw [ha] at hb; cases hb
  exact ⟨rfl, h a (List.mem_of_getElem? ha)⟩

theorem callAt_ok (hC : CallOk C callF) {f : FuncId} {args : List AV} {vals : List Value} {r : AV × Mem} (ha : RepL σ args vals) (hr : Rel C.P σ M w) (hg : GlOk C σ) (hng : C.ng ≤ M.length) (h : (callAt C callF f args M).runs r) :
    Enters C.P f ∧ Comes' C.P σ M w f vals.toArray r := by
  unfold callAt at h
  dsimp only at h
  split at h
  · rename_i hk
    simp only [Bool.and_eq_true] at hk
    have hnd := nodup_spec hk.1
    have hlt : ∀ k ∈ List.range C.ng ++ (reach M fuelR (AV.refsL args) []).filter fun i => !decide (i < C.ng), k < M.length := fun k hk' => by
      have := List.all_eq_true.1 hk.2 k hk'
      simpa using this
    generalize hks : List.range C.ng ++ (reach M fuelR (AV.refsL args) []).filter (fun i => !decide (i < C.ng)) = ks at *
    obtain ⟨⟨v, M'⟩, h1, h2⟩ := Tree.runs_bind h
    simp only [Tree.runs] at h2
    subst h2
    have hgl : GlOk C (subSig σ ks) := fun g i hgi => by
      obtain ⟨h1, x, h2, h3⟩ := hg g i hgi
      refine ⟨h1, x, ?_, h3⟩
      unfold subSig
      have : ks[i]? = some i := by
        rw [← hks, List.getElem?_append_left (by simpa using h1)]
        simp [h1]
      rw [this]; exact h2
    have hsl : (M.sub ks).length = ks.length := by simp [Mem.sub]
    have hng' : C.ng ≤ (M.sub ks).length := by rw [hsl, ← hks]; simp
    obtain ⟨he, hc⟩ := hC f _ _ _ h1 (subSig σ ks) w vals (ha.ren subSig_ren) (hr.sub hnd) hgl hng'
    refine ⟨he, hc.mono fun e w' hp => ?_⟩
    obtain ⟨val, σ2, rfl, hv, hm⟩ := hp
    obtain ⟨b1, b2⟩ := call_back hr hnd hlt hm
    exact ⟨val, _, rfl, b2 hv, b1⟩
  · exact h.elim

theorem run_callFunc {P : Program} {f : FuncId} (h : Enters P f) (args : Array Value) : (callFunc f args).run P w = .ok (.enter f args) w := by
  obtain ⟨fn, c, h1, h2, h3⟩ := h
  have h3' : (fn.name == "runtime.NumGoroutine") = false := h3
  simp [callFunc, h1, h2]
  intro hn
  rw [hn] at h3'
  simp at h3'
theorem opCall_ok (hC : CallOk C callF) {ρ : Operand → AV} {ev : Operand → Value} {c : Call} {ty : TypeId} {r : AV × Mem} (hρ : ∀ x ∈ c.operands, Rep σ (ρ x) (ev x)) (hr : Rel C.P σ M w) (hg : GlOk C σ) (hng : C.ng ≤ M.length)
    (h : (opCall C callF ρ c M).runs r) : OpDoes C.P σ M w (do let d ← resolve ev c ty; invoke d.target d.args) r := by
  unfold opCall at h
  cases hc : c.callee with
  | value f =>
    rw [hc] at h
    dsimp only at h
    have hf := hρ f (by simp [Call.operands, hc])
    have hargs : RepL σ (c.args.toList.map ρ) (c.args.toList.map ev) := RepL.map fun x hx => hρ x (by simp [Call.operands, hc]; right; simpa using hx)
    split at h
    · rename_i g first caps hfe
      rw [hfe] at hf
      simp only [Rep] at hf
      obtain ⟨x, y, hv, hx, hy⟩ := hf
      obtain ⟨he, hcs⟩ := callAt_ok hC ((hx.append hargs).append hy) hr hg hng h
      have hall : (x.toList ++ c.args.toList.map ev ++ y.toList).toArray = x ++ c.args.map ev ++ y := by
        apply Array.ext'; simp
      rw [hall] at hcs
      refine .enter g _ ?_ hcs
      simp [resolve, hc, hv, Deferred.ofValue, invoke, run_callFunc he]
    · exact h.elim
  | invoke a b => rw [hc] at h; exact h.elim
  | builtin b =>
    rw [hc] at h
    dsimp only at h
    have hop : ∀ x ∈ c.args.toList, Rep σ (ρ x) (ev x) := fun x hx => hρ x (by simp [Call.operands, hc]; simpa using hx)
    have hinv : ∀ (s : Sem Value), (∀ (consts : Array Bool) , builtin b c.argTypes ty consts (c.args.map ev) = (do pure (.value (← s)))) → (do let d ← resolve ev c ty; invoke d.target d.args) = (do let x ← s; pure (.value x)) := fun s hs => by
      simp only [resolve, hc, pure_bind, invoke]
      exact hs _
    split at h
    · rename_i s x ts tx hargs htys
      have e1 : c.args.map ev = #[ev s, ev x] := by apply Array.ext'; simp [hargs]
      have e2 : c.argTypes = #[ts, tx] := by apply Array.ext'; simp [htys]
      rw [hinv (Builtin.append_ #[ts, tx] ty #[ev s, ev x]) (fun _ => by rw [e1, e2]; rfl)]
      rw [hargs] at hop
      exact .of (appendAV_ok hr (hop s (by simp)) (hop x (by simp)) h)
    · rename_i x y td ts hargs htys
      have e1 : c.args.map ev = #[ev x, ev y] := by apply Array.ext'; simp [hargs]
      have e2 : c.argTypes = #[td, ts] := by apply Array.ext'; simp [htys]
      rw [hinv (Builtin.copy_ #[td, ts] ty #[ev x, ev y]) (fun _ => by rw [e1, e2]; rfl)]
      rw [hargs] at hop
      exact .of (copyAV_ok hr (hop x (by simp)) (hop y (by simp)) h)
    · rename_i x t hargs htys
      have e1 : c.args.map ev = #[ev x] := by apply Array.ext'; simp [hargs]
      have e2 : c.argTypes = #[t] := by apply Array.ext'; simp [htys]
      rw [hinv (Builtin.len_ #[t] ty #[ev x]) (fun _ => by rw [e1, e2]; rfl)]
      rw [hargs] at hop
      exact .ofPure hr h fun v hv => lenAV_ok hv (hop x (by simp))
    · rename_i tys x l hargs
      rw [hargs] at hop
      have hl : RepL σ (l.map ρ) (l.map ev) := RepL.map fun y hy => hop y (by simp [hy])
      rw [hinv ((l.map ev).foldlM Builtin.min2 (ev x)) (fun _ => by
        show (do pure (Next.value (← Builtin.min_ c.argTypes ty (c.args.map ev)))) = _
        unfold Builtin.min_
        rw [Array.toList_map, hargs]; rfl)]
      exact .ofPure hr h fun v hv => minAV_ok hv (hop x (by simp)) hl
    · rename_i tys x l hargs
      rw [hargs] at hop
      have hl : RepL σ (l.map ρ) (l.map ev) := RepL.map fun y hy => hop y (by simp [hy])
      rw [hinv ((l.map ev).foldlM Builtin.max2 (ev x)) (fun _ => by
        show (do pure (Next.value (← Builtin.max_ c.argTypes ty (c.args.map ev)))) = _
        unfold Builtin.max_
        rw [Array.toList_map, hargs]; rfl)]
      exact .ofPure hr h fun v hv => maxAV_ok hv (hop x (by simp)) hl
    · exact h.elim

theorem opt_rep {ρ : Operand → AV} {ev : Operand → Value} {o : Option Operand} (h : ∀ x, o = some x → Rep σ (ρ x) (ev x)) : (∀ x, o.map ρ = some x → ∃ v, o.map ev = some v ∧ Rep σ x v) ∧ (o.map ρ = none → o.map ev = none) := by
  cases o with
  | none => exact ⟨fun x hx => (by cases hx), fun _ => rfl⟩
  | some y => exact ⟨fun x hx => (by cases hx; exact ⟨_, rfl, h y rfl⟩), fun hx => (by cases hx)⟩
set_option maxHeartbeats 400000 in
theorem evOp_ok (hC : CallOk C callF) {ρ : Operand → AV} {ev : Operand → Value} {o : Oper} {r : AV × Mem} (hρ : ∀ x ∈ o.op.operands, Rep σ (ρ x) (ev x)) (hr : Rel C.P σ M w) (hg : GlOk C σ) (hng : C.ng ≤ M.length)
    (h : (evOp C callF ρ o.op M).runs r) : OpDoes C.P σ M w (execOp ev o) r := by
  unfold execOp
  generalize o.op = op at *
  generalize o.type = ty
  unfold evOp at h
  dsimp only at h ⊢
  cases op with
  | move x =>
    simp only [Tree.runs] at h; subst h
    exact .value _ w σ rfl (hρ x (by simp [Op.operands])) (Moved.refl hr)
  | assign x =>
    simp only [Tree.runs] at h; subst h
    exact .value _ w σ rfl (hρ x (by simp [Op.operands])) (Moved.refl hr)
  | pick c a b =>
    try dsimp only at h
    try dsimp only
    have h1 := hρ c (by simp [Op.operands])
    split at h
    · rename_i k g hc
      rw [hc] at h1
      simp only [Rep] at h1
      rcases Tree.runs_ifB h with ⟨hgt, h2⟩ | ⟨hgt, h2⟩
      · simp only [Tree.runs] at h2; subst h2; subst hgt
        exact .value (ev a) w σ (by simp [h1, asBool]) (hρ a (by simp [Op.operands])) (Moved.refl hr)
      · simp only [Tree.runs] at h2; subst h2; subst hgt
        exact .value (ev b) w σ (by simp [h1, asBool]) (hρ b (by simp [Op.operands])) (Moved.refl hr)
    · exact h.elim
  | alloc t =>
    try dsimp only at h ⊢
    split at h
    · rename_i z hz
      split at h
      · rename_i hk
        simp only [newBlk, Tree.runs] at h; subst h
        exact .of (alloc_ok hr hz hk)
      · exact h.elim
    · exact h.elim
  | box t x =>
    try dsimp only at h
    try dsimp only
    split at h
    · rename_i hk
      simp only [newBlk, Tree.runs] at h; subst h
      exact .of (box_ok hr (hρ x (by simp [Op.operands])) hk)
    · exact h.elim
  | build t ps =>
    have hp : PartsOk σ (ps.toList.map fun p => (p.1, ρ p.2)) (ps.toList.map fun p => (p.1, ev p.2)) := PartsOk.map fun p hp => hρ p.2 (by simp only [Op.operands]; simp only [List.mem_toArray, List.mem_map]; exact ⟨p, hp, rfl⟩)
    have he : (ps.map fun (i, x) => (i, ev x)) = (ps.toList.map fun p => (p.1, ev p.2)).toArray := by apply Array.ext'; simp
    try dsimp only at h
    try dsimp only
    rw [he]
    exact .ofPure hr h fun v hv => buildAV_ok hv hp
  | buildSlice t n ps =>
    have hp : PartsOk σ (ps.toList.map fun p => (p.1, ρ p.2)) (ps.toList.map fun p => (p.1, ev p.2)) := PartsOk.map fun p hp => hρ p.2 (by simp only [Op.operands]; simp only [List.mem_toArray, List.mem_map]; exact ⟨p, hp, rfl⟩)
    have he : (ps.map fun (i, x) => (i, ev x)) = (ps.toList.map fun p => (p.1, ev p.2)).toArray := by apply Array.ext'; simp
    try dsimp only at h
    try dsimp only
    rw [he]
    exact .of (buildSliceAV_ok hr hp h)
  | load t x => exact .ofPure hr h fun v hv => loadAV_ok hv (hρ x (by simp [Op.operands])) hr
  | store t x y =>
    obtain ⟨M', h1, h2⟩ := Tree.runs_bind h
    simp only [Tree.runs] at h2; subst h2
    obtain ⟨w', h3, h4⟩ := storeAV_ok hr (hρ x (by simp [Op.operands])) (hρ y (by simp [Op.operands])) h1
    exact .skip w' σ (by simp [h3]) (by simp only [Rep]) h4
  | nilCheck x =>
    have hx := hρ x (by simp [Op.operands])
    try dsimp only at h
    try dsimp only
    split at h
    · rename_i q hq
      simp only [Tree.runs] at h; subst h
      rw [hq] at hx
      obtain ⟨y, h1, h2⟩ : ∃ y, σ q.id = some y ∧ ev x = .pointer (some (y.at q.pos)) := by simpa only [Rep] using hx
      exact .value _ w σ (by rw [h2]; rfl) (by simp only [Rep]; exact ⟨y, h1, rfl⟩) (Moved.refl hr)
    · rename_i g a b hq
      simp only [Tree.runs] at h; subst h
      rw [hq] at hx
      obtain ⟨y, z, h1, h2, h3⟩ : ∃ y z, ev x = .func (.func g) y z ∧ RepL σ a y.toList ∧ RepL σ b z.toList := by simpa only [Rep] using hx
      exact .value _ w σ (by rw [h1]; rfl) (by simp only [Rep]; exact ⟨y, z, rfl, h2, h3⟩) (Moved.refl hr)
    · exact h.elim
  | binOp op t x y yt => exact .ofPure hr h fun v hv => binAV_ok x y hv (hρ x (by simp [Op.operands])) (hρ y (by simp [Op.operands]))
  | unOp op t x => exact .ofPure hr h fun v hv => unAV_ok hv (hρ x (by simp [Op.operands]))
  | convert s d x =>
    dsimp only at h
    split at h
    · rename_i u hu
      exact .ofPure hr h fun v hv => convAV_ok (by rw [hu]; rfl) hv (hρ x (by simp [Op.operands]))
    · exact h.elim
  | makeFunc f a b =>
    try dsimp only at h
    try dsimp only
    split at h
    · rename_i g
      simp only [Tree.runs] at h; subst h
      refine .value (.func (.func g) (a.map ev) (b.map ev)) w σ (by simp [Instr.makeFunc]) ?_ (Moved.refl hr)
      simp only [Rep]
      refine ⟨_, _, rfl, ?_, ?_⟩
      · rw [Array.toList_map]; exact RepL.map fun x hx => hρ x (by simp [Op.operands]; left; simpa using hx)
      · rw [Array.toList_map]; exact RepL.map fun x hx => hρ x (by simp [Op.operands]; right; simpa using hx)
    · exact h.elim
  | makeSlice t l c => exact .of (makeSliceAV_ok hr (hρ l (by simp [Op.operands])) (hρ c (by simp [Op.operands])) h)
  | slice t x lo hi mx =>
    have h1 := opt_rep (σ := σ) (ρ := ρ) (ev := ev) (o := lo) fun y hy => hρ y (by subst hy; simp [Op.operands])
    have h2 := opt_rep (σ := σ) (ρ := ρ) (ev := ev) (o := hi) fun y hy => hρ y (by subst hy; simp [Op.operands])
    have h3 := opt_rep (σ := σ) (ρ := ρ) (ev := ev) (o := mx) fun y hy => hρ y (by subst hy; simp [Op.operands])
    exact .ofPure hr h fun v hv => sliceAV_ok hv (hρ x (by simp [Op.operands])) h1.1 h1.2 h2.1 h2.2 h3.1 h3.2
  | fieldAddr s x f => exact .ofPure hr h fun v hv => fieldAddrAV_ok hv (hρ x (by simp [Op.operands]))
  | field s x f => exact .ofPure hr h fun v hv => fieldAV_ok hv (hρ x (by simp [Op.operands]))
  | indexAddr t x i => exact .ofPure hr h fun v hv => indexAddrAV_ok hv (hρ x (by simp [Op.operands])) (hρ i (by simp [Op.operands]))
  | index t x i => exact .ofPure hr h fun v hv => indexAV_ok hv (hρ x (by simp [Op.operands])) (hρ i (by simp [Op.operands]))
  | extract x i =>
    have hx := hρ x (by simp [Op.operands])
    try dsimp only at h
    try dsimp only
    split at h
    · rename_i vs hvs
      rw [hvs] at hx
      simp only [Rep] at hx
      obtain ⟨X, h1, h2⟩ := hx
      refine .ofPure hr h fun v hv => ?_
      obtain ⟨u, h3, h4⟩ := h2.get (Tree.runs_ofOpt hv)
      have h3' : X[i]? = some u := by simpa using h3
      exact ⟨u, by rw [h1]; simp [Instr.extract, h3'], h4⟩
    · exact h.elim
  | call c => exact opCall_ok hC (fun x hx => hρ x (by simpa only [Op.operands] using hx)) hr hg hng h
  | _ => exact h.elim
end
end Go.Proofs.Ytonhkbgielilbaa.Rig
