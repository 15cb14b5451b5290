/- A reckoner over Go's operations: what holds between the steps of a drawn region. -/
import Derived.Test.YtonhkbgielilbaaR16
namespace Go.Proofs.Ytonhkbgielilbaa.Rig
open Go
structure Inv (C : Ctx) (ops : List Oper) (n : Nat) (σ0 : Sig) (st0 : St) (a0 : Act) (w0 : World) (E : Nat → List AV) (Ms : Nat → Mem) (listed : Array Bool) (a : Act) (w : World) (σ : Sig) : Prop where
  moved : Moved C.P σ0 st0.mem w0 σ (Ml st0.mem.length n Ms listed) w
  span : ∀ i x, st0.mem.length ≤ i → σ i = some x → ∃ k, k < n ∧ listed.getD k false = true ∧ (Ms k).length ≤ i ∧ i < (Ms (k + 1)).length
  keep : ∀ k, k < w0.heap.size → w.heap[k]? = w0.heap[k]?
  size : a.tmps.size = a0.tmps.size
  defers : a.defers = a0.defers
  envd : ∀ k o d, k < n → listed.getD k false = true → ops[k]? = some o → o.dst = some d → Rep (cut σ (Ms (k + 1)).length) ((E (k + 1)).getD d .junk) (a.tmps.getD d undef)
  envn : ∀ t, (∀ k o, k < n → ops[k]? = some o → o.dst ≠ some t) → a.tmps.getD t undef = a0.tmps.getD t undef
section
variable {C : Ctx} {callF : FuncId → List AV → Mem → Tree (AV × Mem)} {ops : List Oper} {n : Nat} {σ0 : Sig} {st0 : St} {a0 : Act} {w0 : World} {E : Nat → List AV} {Ms : Nat → Mem} {listed : Array Bool} {a : Act} {w : World} {σ : Sig}
theorem blkNew_refs {m : Nat} {b : Blk} (h : blkNew m b = true) : b.rw = true ∧ ∀ (j : Nat) a, b.d.get? j = some a → ∀ i ∈ a.refs, i < m := by
  unfold blkNew at h
  simp only [Bool.and_eq_true] at h
  refine ⟨h.1, fun j a hj i hi => ?_⟩
  have h2 := h.2
  cases hd : b.d with
  | cells l =>
    rw [hd] at h2 hj
    simp only [Data.refs, List.all_eq_true, decide_eq_true_eq] at h2
    refine h2 i ?_
    have ha : a ∈ l := List.mem_of_getElem? hj
    clear h2 hj hd
    induction l with
    | nil => cases ha
    | cons b l ih =>
      simp only [AV.refsL, List.mem_append]
      rcases List.mem_cons.1 ha with rfl | ha
      · exact .inl hi
      · exact .inr (ih ha)
  | ints k l =>
    rw [hd] at hj
    simp only [Data.get?, Option.map_eq_some_iff] at hj
    obtain ⟨m, _, rfl⟩ := hj
    simp [AV.refs] at hi
  | tab sz q f => rw [hd] at h2; cases h2
theorem newOk_blk {M : Mem} {m : Nat} {v : AV} (h : newOk M m v = true) {i : Nat} {b : Blk} (hi : m ≤ i) (hb : M.at i = some b) : blkNew M.length b = true := by
  unfold newOk at h
  simp only [Bool.and_eq_true, List.all_eq_true] at h
  have hlt := Mem.at_lt hb
  have hmem : (some b) ∈ M.drop m := by
    unfold Mem.at at hb
    cases hm : M[i]? with
    | none => rw [hm] at hb; cases hb
    | some o =>
      rw [hm] at hb
      simp only [Option.join_some] at hb
      subst hb
      exact List.mem_of_getElem? (i := i - m) (by rw [List.getElem?_drop, show m + (i - m) = i by omega]; exact hm)
  exact h.2 _ hmem
theorem newOk_val {M : Mem} {m : Nat} {v : AV} (h : newOk M m v = true) : ∀ i ∈ v.refs, i < M.length := by
  unfold newOk at h
  simp only [Bool.and_eq_true, List.all_eq_true, decide_eq_true_eq] at h
  exact h.1
theorem BlkOk.cut {P : Program} {x : Bl} {b : Blk} {m : Nat} {σ' : Sig} (h : BlkOk P σ w x b) (hr : ∀ (j : Nat) a, b.d.get? j = some a → ∀ i ∈ a.refs, i < m) (hs : ∀ i y, i < m → σ i = some y → σ' i = some y) : BlkOk P σ' w x b := by
  rcases h with h | ⟨h1, h2, h3⟩
  · exact .inl h
  · refine .inr ⟨h1, fun j a hj => ?_, h3⟩
    obtain ⟨v, h4, h5⟩ := h2 j a hj
    exact ⟨v, h4, h5.congr fun i hi y hy => hs i y (hr j a hj i hi) hy⟩
theorem bool_at {tmps : Array Value} {t : Tmp} {b : Bool} (h : tmps.getD t undef = .bool b) : tmps[t]? = some (.bool b) := by
  rw [Array.getD_eq_getD_getElem?] at h
  cases he : tmps[t]? with
  | none => rw [he] at h; simp [undef] at h
  | some v => rw [he] at h; simpa using h

theorem Inv.start (D : Dr C callF ops n st0 E Ms) (hs : StOk C σ0 st0 a0 w0) : Inv C ops n σ0 st0 a0 w0 E Ms (Array.replicate ops.length false) a0 w0 σ0 := by
  have hno : ∀ k, (Array.replicate ops.length false).getD k false = false := fun k => getD_replicate_false _ _
  have hm0 : st0.mem.length ≤ (Ms n).length := by have := D.mono (Nat.zero_le n) (Nat.le_refl n); rw [D.m0] at this; exact this
  have hat : ∀ {i b}, (Ml st0.mem.length n Ms (Array.replicate ops.length false)).at i = some b → st0.mem.at i = some b := fun {i b} h => by
    obtain ⟨hv, hb⟩ := Ml_at.1 h
    rcases hv with hv | ⟨k, _, hk, _⟩
    · rw [D.at_eq (Nat.zero_le n) (Nat.le_refl n) (by rw [D.m0]; exact hv), D.m0] at hb; exact hb
    · rw [hno k] at hk; cases hk
  refine ⟨⟨Ext.refl _, ⟨fun i hi => hs.rel.dom i (by simp [Ml] at hi; omega), fun i b hi => hs.rel.blk i b (hat hi), fun i j bi bj x y hi hj => hs.rel.sep i j bi bj x y (hat hi) (hat hj)⟩, Kept.refl _ _ _, fun _ _ => rfl, fun Q _ _ k _ ho => ?_, by simp [Ml]; omega⟩, fun i x hi hx => ?_, fun _ _ => rfl, rfl, rfl, fun k o d _ hk => ?_, fun _ _ => rfl⟩
  · obtain ⟨i, b, x, h1, h2⟩ := ho
    exact ⟨i, b, x, hat h1, h2⟩
  · rw [hs.rel.dom i hi] at hx; cases hx
  · rw [hno k] at hk; cases hk

theorem Inv.slot (D : Dr C callF ops n st0 E Ms) (hs : StOk C σ0 st0 a0 w0) (I : Inv C ops n σ0 st0 a0 w0 E Ms listed a w σ) {j : Nat} (hj : j ≤ n) (t : Tmp)
    (hsee : ∀ k o, k < n → ops[k]? = some o → o.dst = some t → k < j ∧ listed.getD k false = true) : Rep (cut σ (Ms j).length) ((E j).getD t .junk) (a.tmps.getD t undef) := by
  have hm0 : st0.mem.length ≤ (Ms j).length := by have := D.mono (Nat.zero_le j) hj; rw [D.m0] at this; exact this
  by_cases hd : ∃ k o, k < n ∧ ops[k]? = some o ∧ o.dst = some t
  · obtain ⟨k, o, hk, ho, ht⟩ := hd
    obtain ⟨hkj, hkl⟩ := hsee k o hk ho ht
    have h1 := I.envd k o t hk hkl ho ht
    have h2 := D.slot (t := t) (i := k + 1) j (by omega) hj fun k' o' hk1 hk2 ho' hd' => by
      have := ((D.dsts (j := k') (k := k) (by omega) ho' hk ho ht).2 (by omega)).1
      exact this hd'
    exact h2 _ _ (h1.mono (cut_mono (D.mono (by omega) hj) (Ext.refl _)))
  · have hno : ∀ k o, k < n → ops[k]? = some o → o.dst ≠ some t := fun k o hk ho ht => hd ⟨k, o, hk, ho, ht⟩
    have h2 := D.slot (t := t) (i := 0) j (Nat.zero_le _) hj fun k o _ hk ho => hno k o (by omega) ho
    rw [D.e0] at h2
    rw [I.envn t hno]
    have h3 := hs.env.getD t
    refine h2 _ _ (h3.congr fun i _ x hx => ?_)
    have hi : i < st0.mem.length := by
      rcases Nat.lt_or_ge i st0.mem.length with h | h
      · exact h
      · rw [hs.rel.dom i h] at hx; cases hx
    unfold cut
    rw [if_pos (by omega)]
    exact I.moved.ext i x hx

set_option maxHeartbeats 1000000 in
theorem Inv.step (hC : CallOk C callF) (D : Dr C callF ops n st0 E Ms) (hs : StOk C σ0 st0 a0 w0) (I : Inv C ops n σ0 st0 a0 w0 E Ms listed a w σ) {j : Nat} {o : Oper} (hj : j < n) (ho : ops[j]? = some o)
    (hun : listed.getD j false = false) (hjs : j < listed.size) (hdir : ∀ k ∈ directs o, listed.getD k false = true) (hpre : ∀ k ∈ (predsOf ops).getD j [], listed.getD k false = true) (Q : Exit → Act → World → Prop) :
    if Region.wanted o (yielded ops.toArray a.tmps) then o.wp C.P a w (fun a' w' => ∃ σ', Inv C ops n σ0 st0 a0 w0 E Ms (listed.setIfInBounds j true) a' w' σ') Q
    else ∃ σ', Inv C ops n σ0 st0 a0 w0 E Ms (listed.setIfInBounds j true) (a.put o.dst undef) w σ' := by
  have hS := D.step j o hj ho
  obtain ⟨env, run, hg, hc⟩ := evStep_cases hS.runs
  dsimp only at hg hc
  have hm0 : st0.mem.length ≤ (Ms j).length := by have := D.mono (Nat.zero_le j) (by omega); rw [D.m0] at this; exact this
  have hjn : (Ms j).length ≤ (Ms (j + 1)).length := D.mono (by omega) (by omega)
  have hjN : (Ms (j + 1)).length ≤ (Ms n).length := D.mono (by omega) (by omega)
  have hset : ∀ k, (listed.setIfInBounds j true).getD k false = true ↔ (k = j ∨ listed.getD k false = true) := fun k => by
    by_cases e : j = k
    · subst e
      simp [hjs]
    · rw [getD_set_ne false e]
      constructor
      · exact .inr
      · rintro (h | h)
        · omega
        · exact h
  -- what it looks at
  have hlook : ∀ t, sees ops o t = true → Rep (cut σ (Ms j).length) ((E j).getD t .junk) (a.tmps.getD t undef) := fun t ht => I.slot D hs (by omega) t fun k ok hk hok hd => by
    obtain ⟨h1, h2⟩ := D.dsts hj ho hk hok hd
    by_cases e : k = j
    · have := h1 e; rw [ht] at this; cases this
    · have h3 := (h2 e).2 ht
      exact ⟨D.lt hj ho k h3, hdir k h3⟩
  have hwant : Region.wanted o (yielded ops.toArray a.tmps) = run := by
    have hseeg : ∀ {g want}, guardOf ops o = some (some g, want) → sees ops o g = true := fun {g want} hg => by
        unfold guardOf at hg
        unfold sees Oper.looksAt
        cases hgd : o.guard with
        | none => rw [hgd] at hg; cases hg
        | some p =>
          obtain ⟨jj, wn⟩ := p
          rw [hgd] at hg
          simp only [Option.some.injEq, Prod.mk.injEq] at hg
          simp [hg.1]
    rcases hg with ⟨⟨hg, rfl⟩ | ⟨g, want, hg, hb, rfl⟩, _⟩ | ⟨g, want, c, b, hg, hb, _, rfl⟩
    · exact wanted_none hg
    · have h1 := hlook g (hseeg hg)
      rw [hb] at h1
      exact wanted_skip hg (rep_skip_eq h1)
    · have hsee : sees ops o g = true := by
        unfold guardOf at hg
        unfold sees Oper.looksAt
        cases hgd : o.guard with
        | none => rw [hgd] at hg; cases hg
        | some p =>
          obtain ⟨jj, wn⟩ := p
          rw [hgd] at hg
          simp only [Option.some.injEq, Prod.mk.injEq] at hg
          simp [hg.1]
      have h1 := hlook g hsee
      rw [hb] at h1
      simp only [Rep] at h1
      exact wanted_some hg (bool_at h1)
  -- what holds behind it, where memory is as it was in sight
  have fin : ∀ (v : AV) (val : Value) (w' : World) (σ' : Sig) (M' : Mem), E (j + 1) = putV env o.dst v → Ms (j + 1) = Ms j ++ M'.drop (Ms j).length → (Ms j).length ≤ M'.length → Rep σ' v val →
      Moved C.P (cut σ (Ms j).length) (visible st0.mem.length (spanAt Ms j) ((predsOf ops).getD j []) (Ms j)) w σ' M' w' →
      Inv C ops n σ0 st0 a0 w0 E Ms (listed.setIfInBounds j true) (a.put o.dst val) w' (fun i => if (Ms j).length ≤ i ∧ i < (Ms (j + 1)).length then σ' i else σ i) := by
    intro v val w' σ' M' hE hM hMl hv hm
    generalize hσ2 : (fun i => if (Ms j).length ≤ i ∧ i < (Ms (j + 1)).length then σ' i else σ i) = σ2
    have in_ : ∀ {i}, (Ms j).length ≤ i → i < (Ms (j + 1)).length → σ2 i = σ' i := fun h1 h2 => by subst hσ2; simp only; rw [if_pos ⟨h1, h2⟩]
    have out_ : ∀ {i}, ¬ ((Ms j).length ≤ i ∧ i < (Ms (j + 1)).length) → σ2 i = σ i := fun h => by subst hσ2; simp only; rw [if_neg h]
    have hML : M'.length = (Ms (j + 1)).length := by rw [hM]; simp; omega
    have hvl : (visible st0.mem.length (spanAt Ms j) ((predsOf ops).getD j []) (Ms j)).length = (Ms j).length := visible_len
    have hfree : ∀ i, (Ms j).length ≤ i → i < (Ms (j + 1)).length → σ i = none := fun i h1 h2 => by
      cases hx : σ i with
      | none => rfl
      | some x =>
        obtain ⟨k, hk, hkl, h3, h4⟩ := I.span i x (by omega) hx
        rcases Nat.lt_trichotomy k j with c | c | c
        · have := D.mono (i := k + 1) (j := j) (by omega) (by omega); omega
        · subst c; rw [hun] at hkl; cases hkl
        · have := D.mono (i := j + 1) (j := k) (by omega) (by omega); omega
    have hext : Ext σ σ2 := fun i x hx => by
      by_cases h : (Ms j).length ≤ i ∧ i < (Ms (j + 1)).length
      · rw [hfree i h.1 h.2] at hx; cases hx
      · rw [out_ h]; exact hx
    have hcut : ∀ {i y}, i < (Ms (j + 1)).length → σ' i = some y → σ2 i = some y := fun {i y} hi hy => by
      by_cases h : (Ms j).length ≤ i
      · rw [in_ h hi]; exact hy
      · rw [out_ (by omega)]
        have h1 := hm.agree i (by rw [hvl]; omega)
        rw [hy] at h1
        unfold cut at h1
        rw [if_pos (by omega)] at h1
        exact h1.symm
    have hwkeep : ∀ k, k < w.heap.size → w'.heap[k]? = w.heap[k]? := fun k hk => hm.kept.block k hk fun hf => by
      obtain ⟨i, b, x, h1, _, h3, _⟩ := hf
      obtain ⟨b0, _, rfl, _⟩ := visible_at h1
      cases h3
    have hw0 : w0.heap.size ≤ w.heap.size := I.moved.kept.size
    -- a block of its own
    have hown : ∀ {i b}, (Ms j).length ≤ i → i < (Ms (j + 1)).length → (Ms n).at i = some b → M'.at i = some b ∧ b.rw = true ∧ ∀ (q : Nat) a, b.d.get? q = some a → ∀ r ∈ a.refs, r < (Ms (j + 1)).length := fun {i b} h1 h2 hb => by
      rw [D.at_eq (i := j + 1) (by omega) (Nat.le_refl _) h2] at hb
      have hb' := hb
      rw [hM, Mem.at_append_right h1] at hb'
      have : M'.at i = some b := by
        unfold Mem.at at hb' ⊢
        rw [List.getElem?_drop] at hb'
        rwa [show (Ms j).length + (i - (Ms j).length) = i by omega] at hb'
      have hn := blkNew_refs (newOk_blk hS.new h1 hb)
      exact ⟨this, hn.1, hn.2⟩
    have hvis : ∀ {i}, isVis st0.mem.length n Ms (listed.setIfInBounds j true) i → isVis st0.mem.length n Ms listed i ∨ ((Ms j).length ≤ i ∧ i < (Ms (j + 1)).length) := fun {i} h => by
      rcases h with h | ⟨k, hk, hkl, h1, h2⟩
      · exact .inl (.inl h)
      · rcases (hset k).1 hkl with rfl | hkl
        · exact .inr ⟨h1, h2⟩
        · exact .inl (.inr ⟨k, hk, hkl, h1, h2⟩)
    have hnotboth : ∀ {i}, isVis st0.mem.length n Ms listed i → ¬ ((Ms j).length ≤ i ∧ i < (Ms (j + 1)).length) := fun {i} h hb => by
      rcases h with h | ⟨k, hk, hkl, h1, h2⟩
      · omega
      · rcases Nat.lt_trichotomy k j with c | c | c
        · have := D.mono (i := k + 1) (j := j) (by omega) (by omega); omega
        · subst c; rw [hun] at hkl; cases hkl
        · have := D.mono (i := j + 1) (j := k) (by omega) (by omega); omega
    have hfresh : ∀ {i b x}, (Ms j).length ≤ i → i < (Ms (j + 1)).length → (Ms n).at i = some b → b.virt = false → σ' i = some x → w.heap.size ≤ x.blk := fun {i b x} h1 h2 hb hvb hx => by
      obtain ⟨hb1, hb2, _⟩ := hown h1 h2 hb
      rcases Nat.lt_or_ge x.blk w.heap.size with h | h
      · obtain ⟨i', b', x', h3, _, h4, _⟩ := hm.occ (fun b => b.rw = true) (fun _ h => h) (fun _ _ h1 _ h2 => h1 h2) x.blk h ⟨i, b, x, hb1, hx, hb2, hvb, rfl⟩
        obtain ⟨b0, _, rfl, _⟩ := visible_at h3
        cases h4
      · exact h
    have hdead : ∀ {b : Blk} {x : Bl}, BlkOk C.P σ w x b → b.virt = false → w.heap.size ≤ x.blk → b.rw = false ∧ b.d.void := fun {b x} hok hvb hx => by
      have hno : ¬ (b.rw = true ∨ ¬ b.d.void) := fun h => by have := hok.lt hvb h; omega
      refine ⟨?_, ?_⟩
      · cases hq : b.rw with
        | false => rfl
        | true => exact absurd (.inl hq) hno
      · by_cases hq : b.d.void
        · exact hq
        · exact absurd (.inr hq) hno
    have hrel : Rel C.P σ2 (Ml st0.mem.length n Ms (listed.setIfInBounds j true)) w' := by
      refine ⟨fun i hi => ?_, fun i b hi => ?_, fun i i' bi bj x y hi hi' hne hx hy hrw hvi hvj hxy => ?_⟩
      · simp only [Ml, List.length_map, List.length_range] at hi
        rw [out_ (by omega)]
        exact I.moved.rel.dom i (by simpa [Ml] using hi)
      · obtain ⟨hv1, hb⟩ := Ml_at.1 hi
        rcases hvis hv1 with hv1 | ⟨h1, h2⟩
        · obtain ⟨x, hx, hok⟩ := I.moved.rel.blk i b (Ml_at.2 ⟨hv1, hb⟩)
          refine ⟨x, hext i x hx, ?_⟩
          by_cases hvb : b.virt = true
          · rcases hok with hok | hok
            · exact .inl hok
            · rw [hvb] at hok; cases hok.1
          · have hvb : b.virt = false := by simpa using hvb
            rcases Nat.lt_or_ge x.blk w.heap.size with h | h
            · exact (hok.congr fun _ => hwkeep _ h).mono hext
            · obtain ⟨q1, q2⟩ := hdead hok hvb h
              exact .inr ⟨hvb, Covers.empty q2, fun hr => by rw [q1] at hr; cases hr⟩
        · obtain ⟨hb1, _, hb3⟩ := hown h1 h2 hb
          obtain ⟨x, hx, hok⟩ := hm.rel.blk i b hb1
          exact ⟨x, by rw [in_ h1 h2]; exact hx, hok.cut hb3 fun r y hr hy => hcut hr hy⟩
      · obtain ⟨v1, b1⟩ := Ml_at.1 hi
        obtain ⟨v2, b2⟩ := Ml_at.1 hi'
        rcases hvis v1 with v1 | ⟨p1, p2⟩ <;> rcases hvis v2 with v2 | ⟨q1, q2⟩
        · rw [out_ (hnotboth v1)] at hx
          rw [out_ (hnotboth v2)] at hy
          exact I.moved.rel.sep i i' bi bj x y (Ml_at.2 ⟨v1, b1⟩) (Ml_at.2 ⟨v2, b2⟩) hne hx hy hrw hvi hvj hxy
        · rw [out_ (hnotboth v1)] at hx
          rw [in_ q1 q2] at hy
          have h1 := hfresh q1 q2 b2 hvj hy
          obtain ⟨z, hz, hok⟩ := I.moved.rel.blk i bi (Ml_at.2 ⟨v1, b1⟩)
          rw [hx] at hz; cases hz
          have := hok.lt hvi (.inl hrw)
          omega
        · rw [in_ p1 p2] at hx
          rw [out_ (hnotboth v2)] at hy
          have h1 := hfresh p1 p2 b1 hvi hx
          obtain ⟨z, hz, hok⟩ := I.moved.rel.blk i' bj (Ml_at.2 ⟨v2, b2⟩)
          rw [hy] at hz; cases hz
          exact hdead hok hvj (by omega)
        · rw [in_ p1 p2] at hx
          rw [in_ q1 q2] at hy
          exact hm.rel.sep i i' bi bj x y (hown p1 p2 b1).1 (hown q1 q2 b2).1 hne hx hy hrw hvi hvj hxy
    refine ⟨⟨I.moved.ext.trans hext, hrel, ⟨hm.kept.os.trans I.moved.kept.os, hm.kept.tape.trans I.moved.kept.tape, hm.kept.output.trans I.moved.kept.output, Nat.le_trans hw0 hm.kept.size, fun k hk _ => (hwkeep k (by omega)).trans (I.keep k hk)⟩, fun i hi => ?_, fun Q hQ hQ' k hk hocc => ?_, by simp [Ml]; omega⟩,
      fun i x hi hx => ?_, fun k hk => (hwkeep k (by omega)).trans (I.keep k hk), by rw [put_size]; exact I.size, by rw [put_defers]; exact I.defers, fun k ok d hk hkl hok hd => ?_, fun t ht => ?_⟩
    · rw [out_ (by omega)]; exact I.moved.agree i hi
    · obtain ⟨i, b, x, h1, h2, h3, h4, h5⟩ := hocc
      obtain ⟨v1, b1⟩ := Ml_at.1 h1
      rcases hvis v1 with v1 | ⟨p1, p2⟩
      · rw [out_ (hnotboth v1)] at h2
        exact I.moved.occ Q hQ hQ' k hk ⟨i, b, x, Ml_at.2 ⟨v1, b1⟩, h2, h3, h4, h5⟩
      · rw [in_ p1 p2] at h2
        have := hfresh p1 p2 b1 h4 h2
        omega
    · by_cases h : (Ms j).length ≤ i ∧ i < (Ms (j + 1)).length
      · exact ⟨j, hj, (hset j).2 (.inl rfl), h.1, h.2⟩
      · rw [out_ h] at hx
        obtain ⟨k, hk, hkl, h1, h2⟩ := I.span i x hi hx
        exact ⟨k, hk, (hset k).2 (.inr hkl), h1, h2⟩
    · rcases (hset k).1 hkl with hkj | hkl2
      · subst hkj
        rw [ho] at hok; cases hok
        rw [hE, hd]
        by_cases hlt : d < a.tmps.size
        · rw [put_self hlt]
          have hval := hS.new
          unfold dstAt at hval
          rw [hd] at hval
          dsimp only at hval
          rw [hE, hd] at hval
          rcases putV_self (env := env) (d := d) (v := v) with h | h
          · rw [h] at hval ⊢
            have hrefs := newOk_val hval
            exact hv.congr fun i hi x hx => by unfold cut; rw [if_pos (hrefs i hi)]; exact hcut (hrefs i hi) hx
          · rw [h]; simp only [Rep]
        · have hl : ¬ d < env.length := fun hd' => hlt (Nat.lt_of_lt_of_le hd' (by
            have h1 := D.elen k (by omega)
            have h2 := hg.len
            have h3 := hs.env.1
            have h4 := I.size
            omega))
          rw [show (putV env (some d) v).getD d .junk = .junk by
            simp only [putV]; rw [List.getD_eq_getElem?_getD, List.getElem?_eq_none (by simpa using hl)]; rfl]
          simp only [Rep]
      · have hkj : k ≠ j := fun e => by subst e; rw [hun] at hkl2; cases hkl2
        have hne : o.dst ≠ some d := ((D.dsts hj ho hk hok hd).2 hkj).1
        rw [put_ne hne]
        exact (I.envd k ok d hk hkl2 hok hd).mono (cut_mono (Nat.le_refl _) hext)
    · rw [put_ne (ht j o hj ho)]
      exact I.envn t ht
  have hvrel : Rel C.P (cut σ (Ms j).length) (visible st0.mem.length (spanAt Ms j) ((predsOf ops).getD j []) (Ms j)) w := by
    refine ⟨fun i hi => ?_, fun i b' hi => ?_, fun i i' bi bj x y hi hi' hne hx hy hrw => ?_⟩
    · rw [visible_len] at hi
      unfold cut
      rw [if_neg (by omega)]
    · obtain ⟨b, hb, rfl, hv⟩ := visible_at hi
      have hil := Mem.at_lt (M := Ms j) hb
      have hbn : (Ms n).at i = some b := by rw [D.at_eq (i := j) (by omega) (Nat.le_refl _) hil]; exact hb
      have hvis : isVis st0.mem.length n Ms listed i := by
        rcases hv with hv | ⟨k, hk, hkj, h1, h3⟩
        · exact .inl hv
        · exact .inr ⟨k, by omega, hpre k hk, h1, h3⟩
      obtain ⟨x, hx, hok⟩ := I.moved.rel.blk i b (Ml_at.2 ⟨hvis, hbn⟩)
      refine ⟨x, by unfold cut; rw [if_pos hil]; exact hx, ?_⟩
      have hok2 : BlkOk C.P (cut σ (Ms j).length) w x b := by
        rcases hv with hv | ⟨k, hk, hkj, h1, h3⟩
        · -- as it was ahead of the region
          have hb0 : st0.mem.at i = some b := by rw [D.at_eq (i := 0) (by omega) (by omega) (by rw [D.m0]; exact hv), D.m0] at hb; exact hb
          obtain ⟨x0, hx0, hok0⟩ := hs.rel.blk i b hb0
          have := I.moved.ext i x0 hx0
          rw [hx] at this; cases this
          rcases hok0 with hok0 | ⟨g1, g2, g3⟩
          · exact .inl hok0
          · rcases hok with hok | ⟨k1, k2, k3⟩
            · rw [g1] at hok; cases hok.1
            · refine .inr ⟨g1, fun q a' hq => ?_, k3⟩
              obtain ⟨u, hu, hru⟩ := g2 q a' hq
              have hblk := World.block_lt_of_cell? w0 _ hu
              refine ⟨u, ?_, hru.congr fun r _ y hy => ?_⟩
              · rw [World.cell?_of_block (w := w0) (I.keep _ hblk)]; exact hu
              · have hr' : r < st0.mem.length := by
                  rcases Nat.lt_or_ge r st0.mem.length with h | h
                  · exact h
                  · rw [hs.rel.dom r h] at hy; cases hy
                unfold cut
                rw [if_pos (by omega)]
                exact I.moved.ext r y hy
        · have hkn := D.mono (i := k + 1) (j := j) (by omega) (by omega)
          have hbk : (Ms (k + 1)).at i = some b := by rw [← D.at_eq (i := k + 1) (j := j) (by omega) (by omega) h3]; exact hb
          obtain ⟨ok, hok'⟩ := D.get (j := k) (by omega)
          have hn := blkNew_refs (newOk_blk (D.step k ok (by omega) hok').new h1 hbk)
          exact hok.cut hn.2 fun r y hr hy => by unfold cut; rw [if_pos (by omega)]; exact hy
      rcases hok2 with h | ⟨g1, g2, g3⟩
      · exact .inl h
      · exact .inr ⟨g1, g2, fun hr' => by cases hr'⟩
    · obtain ⟨b, _, rfl, _⟩ := visible_at hi
      cases hrw
  rw [hwant]
  rcases hc with ⟨rfl, v, M', hr, h2⟩ | ⟨rfl, h2⟩
  · -- it runs
    rw [if_pos rfl]
    have hE : E (j + 1) = putV env o.dst v := congrArg St.env h2
    have hM : Ms (j + 1) = Ms j ++ M'.drop (Ms j).length := congrArg St.mem h2
    have hgl : GlOk C (cut σ (Ms j).length) := fun g i hgi => by
      obtain ⟨h1, x, h3, h4⟩ := hs.gl g i hgi
      refine ⟨h1, x, ?_, h4⟩
      unfold cut
      have := hs.ng
      rw [if_pos (by omega)]
      exact I.moved.ext i x h3
    refine (evOp_ok hC (ev := a.eval) (fun x hx => ?_) hvrel hgl (by rw [visible_len]; have := hs.ng; omega) hr).wp fun val σ' w' hv hm => ⟨_, fin v val w' σ' M' hE hM (by have := hm.len; rwa [visible_len] at this) hv hm⟩
    -- its operands
    cases x with
    | tmp t =>
      have hsee : sees ops o t = true := by
        unfold sees Oper.looksAt
        simp only [List.contains_eq_mem, decide_eq_true_eq, List.mem_append]
        left
        exact List.mem_filterMap.2 ⟨.tmp t, by simpa using hx, rfl⟩
      exact hg.imp t _ _ (hlook t hsee)
    | const v => exact Rep.ofVal v
    | func f => simp only [Rig.opnd, Act.eval, Rep]; exact ⟨#[], #[], rfl, RepL.nil, RepL.nil⟩
    | global g =>
      simp only [Rig.opnd, Act.eval, glob]
      split
      · rename_i i hi
        obtain ⟨_, x, h1, h3, h4⟩ := hgl g i hi
        simp only [Rep, pos0]
        exact ⟨x, h1, by rw [at0 x h4, h3]⟩
      · simp only [Rep]
  · -- it is passed over
    rw [if_neg (by simp)]
    have hE : E (j + 1) = putV env o.dst (.tup []) := congrArg St.env h2
    have hM : Ms (j + 1) = Ms j := congrArg St.mem h2
    exact ⟨_, fin (.tup []) undef w _ _ hE (by rw [hM, List.drop_eq_nil_of_le (by rw [visible_len]; exact Nat.le_refl _), List.append_nil]) (by rw [visible_len]; exact Nat.le_refl _) rep_skip (Moved.refl hvrel)⟩
end
end Go.Proofs.Ytonhkbgielilbaa.Rig
