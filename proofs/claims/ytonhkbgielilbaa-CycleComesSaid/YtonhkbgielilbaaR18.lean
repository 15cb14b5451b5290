/- A reckoner over Go's operations: regions. -/
import Derived.Test.YtonhkbgielilbaaR17
namespace Go.Proofs.Ytonhkbgielilbaa.Rig
open Go
section
variable {C : Ctx} {callF : FuncId → List AV → Mem → Tree (AV × Mem)} {ops : List Oper} {n : Nat} {σ0 : Sig} {st0 : St} {a0 : Act} {w0 : World} {E : Nat → List AV} {Ms : Nat → Mem} {listed : Array Bool} {a : Act} {w : World} {σ : Sig}
def cnt (listed : Array Bool) : Nat := listed.toList.count false
theorem cnt_set {i : Nat} (hi : i < listed.size) (h : listed.getD i false = false) : cnt listed = cnt (listed.setIfInBounds i true) + 1 := by
  have hg : listed.toList[i]'(by simpa using hi) = false := by
    simp [hi] at h
    simpa using h
  have hpos : 0 < listed.toList.count false := List.count_pos_iff.2 (by rw [← hg]; exact List.getElem_mem _)
  unfold cnt
  rw [Array.toList_setIfInBounds, List.count_set (by simpa using hi), hg, if_pos (show (false == false) = true from rfl), if_neg (show ¬ (true == false) = true by decide)]
  omega
theorem between (L : Nat → Nat) : ∀ (n i : Nat), L 0 ≤ i → i < L n → ∃ k, k < n ∧ L k ≤ i ∧ i < L (k + 1)
  | 0, i, h0, h1 => by omega
  | n + 1, i, h0, h1 => by
    by_cases h : i < L n
    · obtain ⟨k, hk, h2⟩ := between L n i h0 h; exact ⟨k, by omega, h2⟩
    · exact ⟨n, by omega, by omega, h1⟩
theorem Ml_all (D : Dr C callF ops n st0 E Ms) (hall : ∀ k, k < n → listed.getD k false = true) : Ml st0.mem.length n Ms listed = Ms n := by
  apply List.ext_getElem?
  intro i
  by_cases hi : i < (Ms n).length
  · have hv : isVis st0.mem.length n Ms listed i := by
      by_cases h0 : i < st0.mem.length
      · exact .inl h0
      · obtain ⟨k, hk, h1, h2⟩ := between (fun k => (Ms k).length) n i (by simp only [D.m0]; omega) hi
        exact .inr ⟨k, hk, hall k hk, h1, h2⟩
    unfold Ml
    rw [List.getElem?_map, List.getElem?_eq_getElem (by simpa using hi), List.getElem?_eq_getElem hi]
    simp only [List.getElem_range, Option.map_some, if_pos hv, Mem.at, List.getElem?_eq_getElem hi, Option.join_some]
  · rw [List.getElem?_eq_none (by simp [Ml]; omega), List.getElem?_eq_none (by omega)]
theorem Inv.fin (hC : CallOk C callF) (D : Dr C callF ops n st0 E Ms) (hs : StOk C σ0 st0 a0 w0) (I : Inv C ops n σ0 st0 a0 w0 E Ms listed a w σ) (hall : ∀ k, k < n → listed.getD k false = true) {st' : St} (h : (evSeq C callF ops (ops.drop n) ⟨E n, Ms n⟩).runs st') {Q : Exit → Act → World → Prop}
    (hQ : ∀ σ' a' w', Went C σ0 st0 a0 w0 σ' st' a' w' → Q .normal a' w') : wpList C.P ops.toArray Q (ops.drop n) a w := by
  have hm := I.moved
  rw [Ml_all D hall] at hm
  have hlen : (E n).length = st0.env.length := D.elen n (Nat.le_refl _)
  have hst : StOk C σ ⟨E n, Ms n⟩ a w := by
    refine ⟨⟨by rw [hlen, I.size]; exact hs.env.1, fun t v hv => ?_⟩, hm.rel, hs.gl.mono hm.ext, Nat.le_trans hs.ng hm.len⟩
    have h1 := I.slot D hs (Nat.le_refl n) t fun k o hk _ _ => ⟨hk, hall k hk⟩
    rw [List.getD_eq_getElem?_getD, hv] at h1
    exact h1.mono (cut_ext _ _)
  exact seq_ok hC _ h hst fun σ' a' w' g => hQ σ' a' w' ((⟨hst, hm, I.defers, hlen⟩ : Went C σ0 st0 a0 w0 σ ⟨E n, Ms n⟩ a w).trans g)

theorem listed_eq {len n : Nat} (hn : n ≤ len) (hs : listed.size = len) (h1 : ∀ k, k < n → listed.getD k false = true) (h2 : ∀ k, n ≤ k → k < len → listed.getD k true = false) : listed = listedTo len n := by
  have key : ∀ m, m ≤ len → (listedTo len m).size = len ∧ ∀ k, (listedTo len m)[k]? = if k < m then some true else if k < len then some false else none := by
    intro m
    induction m with
    | zero => intro _; exact ⟨by simp [listedTo], fun k => by simp [listedTo, Array.getElem?_replicate]⟩
    | succ m ih =>
      intro hm
      obtain ⟨i1, i2⟩ := ih (by omega)
      have : listedTo len (m + 1) = (listedTo len m).setIfInBounds m true := by
        unfold listedTo; rw [List.range_succ, List.foldl_append]; rfl
      rw [this]
      refine ⟨by simpa using i1, fun k => ?_⟩
      by_cases e : m = k
      · subst e
        rw [Array.getElem?_setIfInBounds_self_of_lt (by omega), if_pos (by omega)]
      · rw [Array.getElem?_setIfInBounds_ne e, i2 k]
        by_cases c : k < m
        · rw [if_pos c, if_pos (by omega)]
        · rw [if_neg c, if_neg (show ¬ k < m + 1 by omega)]
  apply Array.ext_getElem?
  intro k
  rw [(key n hn).2 k]
  by_cases c : k < n
  · rw [if_pos c]
    have := h1 k c
    have hk : k < listed.size := by omega
    simp [hk] at this
    rw [Array.getElem?_eq_getElem hk, this]
  · rw [if_neg c]
    by_cases c2 : k < len
    · rw [if_pos c2]
      have := h2 k (by omega) c2
      have hk : k < listed.size := by omega
      simp [hk] at this
      rw [Array.getElem?_eq_getElem hk, this]
    · rw [if_neg c2, Array.getElem?_eq_none (by omega)]
theorem any_head (hC : CallOk C callF) (D : Dr C callF ops n st0 E Ms) (hs : StOk C σ0 st0 a0 w0) (ht : tailOk ops n = true) {st' : St} (h : (evSeq C callF ops (ops.drop n) ⟨E n, Ms n⟩).runs st') {Q : Exit → Act → World → Prop}
    (hQ : ∀ σ' a' w', Went C σ0 st0 a0 w0 σ' st' a' w' → Q .normal a' w') : ∀ (fuel : Nat) (listed : Array Bool) (a : Act) (w : World) (σ : Sig), HeadInv .any ops.toArray n listed → Inv C ops n σ0 st0 a0 w0 E Ms listed a w σ → cnt listed = fuel → wpAny C.P .any ops.toArray Q fuel listed a w := by
  have hsz : ops.toArray.size = ops.length := by simp
  intro fuel
  induction fuel with
  | zero =>
    intro listed a w σ hi I hc
    have hall : ∀ k, k < listed.size → listed.getD k false = true := fun k hk => by
      cases hg : listed.getD k false with
      | true => rfl
      | false => have := cnt_set hk hg; omega
    have hn : n = ops.length := by
      rcases Nat.lt_or_ge n ops.length with c | c
      · have h1 := hi.tail n (Nat.le_refl _) (by simpa using c)
        have h2 := hall n (by rw [hi.size, hsz]; exact c)
        rw [getD_both h1] at h2; cases h2
      · have := D.le; omega
    refine ⟨?_, ?_⟩
    · cases hr : Region.ready .any ops.toArray listed with
      | nil => rfl
      | cons j l =>
        have hj : j ∈ Region.ready .any ops.toArray listed := by rw [hr]; exact List.mem_cons_self
        obtain ⟨h1, o, h2, _⟩ := mem_ready.1 hj
        have hlt : j < listed.size := by
          rw [hi.size]; exact (Array.getElem?_eq_some_iff.1 h2).1
        have h3 := getD_both h1
        rw [hall j hlt] at h3; cases h3
    · have := I.fin hC D hs (fun k hk => hall k (by rw [hi.size, hsz]; omega)) h hQ
      rw [hn, List.drop_length] at this
      exact this
  | succ fuel ih =>
    intro listed a w σ hi I hc
    by_cases hall : ∀ k, k < n → listed.getD k false = true
    · -- the tail
      have hn : n < ops.length := by
        rcases Nat.lt_or_ge n ops.length with c | c
        · exact c
        · exfalso
          have hcz : cnt listed = 0 := by
            unfold cnt
            rw [List.count_eq_zero]
            intro hmem
            obtain ⟨k, hk, hg⟩ := List.mem_iff_getElem.1 hmem
            have hk' : k < listed.size := by simpa using hk
            have h1 := hall k (by have := hi.size; rw [hsz] at this; omega)
            simp [hk'] at h1
            simp at hg
            rw [h1] at hg; cases hg
          omega
      have hle := listed_eq (len := ops.length) D.le (by rw [hi.size, hsz]) hall fun k h1 h2 => hi.tail k h1 (by simpa using h2)
      unfold tailOk at ht
      rw [decide_eq_false (by omega)] at ht
      simp only [Bool.and_eq_true, decide_eq_true_eq] at ht
      have hfin := I.fin hC D hs hall h hQ
      have hcnt : cnt listed = (ops.drop n).length := by
        rw [List.length_drop]
        have hk : ∀ m, m ≤ ops.length → cnt (listedTo ops.length m) = ops.length - m := by
          intro m
          induction m with
          | zero => intro _; simp [cnt, listedTo]
          | succ m ihm =>
            intro hm
            have e : listedTo ops.length (m + 1) = (listedTo ops.length m).setIfInBounds m true := by
              unfold listedTo; rw [List.range_succ, List.foldl_append]; rfl
            have hs' : (listedTo ops.length m).size = ops.length ∧ (listedTo ops.length m).getD m false = false := by
              have : ∀ q, (listedTo ops.length q).size = ops.length := by
                intro q
                induction q with
                | zero => simp [listedTo]
                | succ q ihq =>
                  have e : listedTo ops.length (q + 1) = (listedTo ops.length q).setIfInBounds q true := by
                    unfold listedTo; rw [List.range_succ, List.foldl_append]; rfl
                  rw [e]; simpa using ihq
              refine ⟨this m, ?_⟩
              have hno : ∀ q, q ≤ m → (listedTo ops.length q).getD m false = false := by
                intro q
                induction q with
                | zero => intro _; unfold listedTo; exact getD_replicate_false _ _
                | succ q ihq =>
                  intro hq
                  have e : listedTo ops.length (q + 1) = (listedTo ops.length q).setIfInBounds q true := by
                    unfold listedTo; rw [List.range_succ, List.foldl_append]; rfl
                  rw [e, getD_set_ne false (by omega)]
                  exact ihq (by omega)
              exact hno m (Nat.le_refl _)
            have := cnt_set (listed := listedTo ops.length m) (i := m) (by rw [hs'.1]; omega) hs'.2
            rw [← e, ihm (by omega)] at this
            omega
        rw [hle]
        exact hk n D.le
      rw [← hc, hcnt]
      refine wpAny_of_seq (ops.drop n) n listed a w (fun j => by simp) ?_ hfin
      rw [List.length_drop, hle]
      exact ht.2
    · -- the head
      obtain ⟨j0, hj0⟩ := Classical.not_forall.1 hall
      have hj0n : j0 < n := Classical.byContradiction fun h => hj0 fun h' => absurd h' h
      have hj0u : listed.getD j0 false = false := by
        cases hg : listed.getD j0 false with
        | false => rfl
        | true => exact absurd (fun _ => hg) hj0
      have hsize : listed.size = ops.length := by rw [hi.size, hsz]
      -- the first of them is ready
      have first : ∀ d j, d + j = j0 → True := fun _ _ _ => trivial
      have hready : ∃ j ∈ Region.ready .any ops.toArray listed, j < n := by
        have : ∀ m, m < n → listed.getD m false = false → ∃ j ∈ Region.ready .any ops.toArray listed, j < n := by
          intro m
          induction m using Nat.strongRecOn with
          | _ m ihm =>
            intro hm hu
            by_cases hlow : ∃ k, k < m ∧ listed.getD k false = false
            · obtain ⟨k, hk, hku⟩ := hlow
              exact ihm k hk (by omega) hku
            · obtain ⟨o, ho⟩ := D.get hm
              have := D.le
              refine ⟨m, mem_ready.2 ⟨getD_in (by omega) hu, o, by simpa using ho, fun e he hb => ?_⟩, hm⟩
              have hlt := D.lt hm ho e.on (directs_of he hb)
              cases hg : listed.getD e.on false with
              | true => rfl
              | false => exact absurd ⟨e.on, hlt, hg⟩ hlow
        exact this j0 hj0n hj0u
      refine ⟨fun hr => ?_, fun i hir => ?_⟩
      · obtain ⟨j, hj, _⟩ := hready
        rw [hr] at hj; cases hj
      · obtain ⟨hiu, o, ho, hpre⟩ := mem_ready.1 hir
        have hilt : i < ops.length := by
          have := (Array.getElem?_eq_some_iff.1 ho).1
          simpa using this
        have hin : i < n := by
          rcases Nat.lt_or_ge i n with c | c
          · exact c
          · exfalso
            have hn : n < ops.length := by omega
            unfold tailOk at ht
            rw [decide_eq_false (by omega)] at ht
            simp only [Bool.and_eq_true, decide_eq_true_eq] at ht
            exact tail_waits ht.1.1.2 ht.1.2 (by simpa using hn) hi _ j0 rfl hj0n (getD_in (by omega) hj0u) i c hir
        have hol : ops[i]? = some o := by simpa using ho
        have hdir : ∀ k ∈ directs o, listed.getD k false = true := fun k hk => by
          obtain ⟨e, he, hb, rfl⟩ := directs_spec hk
          exact hpre e he hb
        have hpr := preds_listed (ops := ops) (n := n) (listed := listed) (fun j oj hoj hl k hk => by
          obtain ⟨e, he, hb, rfl⟩ := directs_spec hk
          exact hi.closed j oj (by simpa using hoj) hl e he hb) (fun j oj hj hoj => D.lt hj hoj) i hin o hol hdir
        have hst := I.step hC D hs hin hol (getD_both hiu) (by omega) hdir hpr Q
        have hcs := cnt_set (listed := listed) (i := i) (by omega) (getD_both hiu)
        have hi' := hi.set hir hin
        unfold wpOp
        rw [ho]
        dsimp only
        split
        · rename_i hw
          rw [if_pos hw] at hst
          refine .inl (Oper.wp_mono (fun a1 w1 hk => ?_) hst)
          obtain ⟨σ1, I1⟩ := hk
          exact ih _ a1 w1 σ1 hi' I1 (by omega)
        · rename_i hw
          rw [if_neg hw] at hst
          obtain ⟨σ1, I1⟩ := hst
          exact ih _ _ w σ1 hi' I1 (by omega)

theorem Rel.heap {P : Program} {M : Mem} {w' : World} (h : Rel P σ M w) (hh : w'.heap = w.heap) : Rel P σ M w' :=
  ⟨h.dom, fun i b hb => by
    obtain ⟨x, hx, hok⟩ := h.blk i b hb
    exact ⟨x, hx, hok.congr fun _ => by rw [hh]⟩, h.sep⟩
theorem region_ok (hC : CallOk C callF) (hmix : C.P.follows .mixedOrders = true) {id : Nat} {ops : Array Oper} {draw : Bool} {st st' : St} (h : (evRegion C callF ops.toList draw st).runs st') (hs : StOk C σ st a w) {Q : Exit → Act → World → Prop}
    (hQ : ∀ σ' a' w', Went C σ st a w σ' st' a' w' → Q .normal a' w') : (Code.region id ops draw).wp C.P Q a w := by
  cases draw
  · refine wp_region_list ?_
    have := seq_ok hC ops.toList h hs hQ
    simpa using this
  · unfold evRegion at h
    dsimp only at h
    split at h
    · rename_i hchk
      simp only [Bool.and_eq_true] at hchk
      obtain ⟨hh, h1, h2⟩ := Tree.runs_bind h
      have hdrew : StOk C σ st a w.drew := ⟨hs.env, hs.rel.heap rfl, hs.gl, hs.ng⟩
      obtain ⟨E, Ms, g1, g2, g3, g4⟩ := head_trace (predsOf ops.toList) (ops.toList.take (cutAt ops.toList)) 0 ⟨st, []⟩ hh (fun _ => st.env) (fun _ => st.mem) (by simpa using h1) rfl rfl rfl
      have hle : cutAt ops.toList ≤ ops.toList.length := by
        have := hchk.1
        simp only [headOk, Bool.and_eq_true, decide_eq_true_eq] at this
        exact this.1.1
      have hlt : (ops.toList.take (cutAt ops.toList)).length = cutAt ops.toList := by rw [List.length_take]; omega
      have hm0 : Ms 0 = st.mem := (g1 0 (Nat.le_refl _)).2
      have D : Dr C callF ops.toList (cutAt ops.toList) st E Ms := by
        refine ⟨(g1 0 (Nat.le_refl _)).1, hm0, fun j o hj ho => ?_, hchk.1⟩
        have := g4 j o (by rw [List.getElem?_take, if_pos hj]; exact ho)
        rwa [Nat.zero_add] at this
      have hend : hh.st = ⟨E (cutAt ops.toList), Ms (cutAt ops.toList)⟩ := by
        rw [hlt, Nat.zero_add] at g2 g3
        rw [g2, g3]
      rw [hend] at h2
      refine wp_region_any hmix ?_
      have hinv0 : HeadInv .any ops (cutAt ops.toList) (Array.replicate ops.size false) :=
        ⟨by simp, fun j oj _ hl => (by rw [getD_replicate_false] at hl; cases hl), fun t _ ht => getD_in (by simpa using ht) (getD_replicate_false _ _)⟩
      have hI := Inv.start (n := cutAt ops.toList) (E := E) (Ms := Ms) D hdrew
      have := any_head hC D hdrew hchk.2 h2 (Q := Q) (fun σ' a' w' g => hQ σ' a' w' ⟨g.ok, ⟨g.moved.ext, g.moved.rel, ⟨g.moved.kept.os, g.moved.kept.tape, g.moved.kept.output, g.moved.kept.size, g.moved.kept.block⟩, g.moved.agree, g.moved.occ, g.moved.len⟩, g.defers, g.len⟩)
        ops.size (Array.replicate ops.size false) a w.drew σ (by simpa using hinv0) (by simpa using hI) (by simp [cnt])
      simpa using this
    · exact h.elim
end
end Go.Proofs.Ytonhkbgielilbaa.Rig
