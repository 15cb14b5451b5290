/- A reckoner over Go's operations: a region that draws its order. -/
import Derived.Test.YtonhkbgielilbaaR14
namespace Go.Proofs.Ytonhkbgielilbaa.Rig
open Go
section
variable {C : Ctx} {callF : FuncId → List AV → Mem → Tree (AV × Mem)} {σ σ' : Sig} {st st' : St} {a a' : Act} {w w' : World}

def spanAt (Ms : Nat → Mem) (j : Nat) : List (Nat × Nat) := (List.range j).map fun i => ((Ms i).length, (Ms (i + 1)).length)
def headPut (M M' : Mem) : Mem := M ++ M'.drop M.length
def dstAt (o : Oper) (env : List AV) : AV := match o.dst with | some d => env.getD d .junk | none => .junk
/-- What one operation of the head came to, in the text's order. -/
structure HStep (C : Ctx) (callF : FuncId → List AV → Mem → Tree (AV × Mem)) (ops : List Oper) (m0 : Nat) (pl : List (List Nat)) (E : Nat → List AV) (Ms : Nat → Mem) (j : Nat) (o : Oper) : Prop where
  runs : (evStep C callF ops o (visible m0 (spanAt Ms j) (pl.getD j [])) headPut ⟨E j, Ms j⟩).runs ⟨E (j + 1), Ms (j + 1)⟩
  new : newOk (Ms (j + 1)) (Ms j).length (dstAt o (E (j + 1))) = true
theorem head_trace {ops : List Oper} {m0 : Nat} (pl : List (List Nat)) : ∀ (l : List Oper) (k : Nat) (h h' : HSt) (E : Nat → List AV) (Ms : Nat → Mem), (evHead C callF ops m0 l (pl.drop k) h).runs h' → E k = h.st.env → Ms k = h.st.mem → h.spans = spanAt Ms k →
    ∃ E' Ms', (∀ i, i ≤ k → E' i = E i ∧ Ms' i = Ms i) ∧ E' (k + l.length) = h'.st.env ∧ Ms' (k + l.length) = h'.st.mem ∧ ∀ j o, l[j]? = some o → HStep C callF ops m0 pl E' Ms' (k + j) o
  | [], k, h, h', E, Ms, hr, hE, hM, _ => by
    simp only [evHead, Tree.runs] at hr
    subst hr
    exact ⟨E, Ms, fun _ _ => ⟨rfl, rfl⟩, hE, hM, fun j o hj => by simp at hj⟩
  | o :: l, k, h, h', E, Ms, hr, hE, hM, hS => by
    simp only [evHead] at hr
    obtain ⟨st1, h1, h2⟩ := Tree.runs_bind hr
    split at h2
    · rename_i hn
      have hpl : (pl.drop k).tail = pl.drop (k + 1) := by simp
      rw [hpl] at h2
      have hhd : (pl.drop k).headD [] = pl.getD k [] := by
        rw [List.headD_eq_head?_getD, List.head?_drop, List.getD_eq_getElem?_getD]
      rw [hhd] at h1
      let E1 : Nat → List AV := fun i => if i ≤ k then E i else st1.env
      let M1 : Nat → Mem := fun i => if i ≤ k then Ms i else st1.mem
      have e1 : ∀ i, i ≤ k → E1 i = E i := fun i hi => by simp only [E1, if_pos hi]
      have m1 : ∀ i, i ≤ k → M1 i = Ms i := fun i hi => by simp only [M1, if_pos hi]
      have e2 : E1 (k + 1) = st1.env := by simp only [E1]; rw [if_neg (by omega)]
      have m2 : M1 (k + 1) = st1.mem := by simp only [M1]; rw [if_neg (by omega)]
      have hsp : spanAt M1 k = spanAt Ms k := by
        unfold spanAt
        apply List.map_congr_left
        intro i hi
        have hi := List.mem_range.1 hi
        rw [m1 i (by omega), m1 (i + 1) (by omega)]
      have hs1 : h.spans ++ [(h.st.mem.length, st1.mem.length)] = spanAt M1 (k + 1) := by
        rw [hS, ← hsp]
        unfold spanAt
        rw [List.range_succ, List.map_append]
        simp only [List.map_cons, List.map_nil]
        rw [m1 k (Nat.le_refl _), m2, hM]
      obtain ⟨E', Ms', g1, g2, g3, g4⟩ := head_trace pl l (k + 1) ⟨st1, h.spans ++ [(h.st.mem.length, st1.mem.length)]⟩ h' E1 M1 h2 e2 m2 hs1
      refine ⟨E', Ms', fun i hi => ⟨(g1 i (by omega)).1.trans (e1 i hi), (g1 i (by omega)).2.trans (m1 i hi)⟩, by simpa [Nat.add_assoc, Nat.add_comm 1] using g2, by simpa [Nat.add_assoc, Nat.add_comm 1] using g3, fun j p hj => ?_⟩
      cases j with
      | zero =>
        simp only [List.getElem?_cons_zero, Option.some.injEq] at hj
        subst hj
        have a1 : E' k = h.st.env := (g1 k (by omega)).1.trans ((e1 k (Nat.le_refl _)).trans hE)
        have a2 : Ms' k = h.st.mem := (g1 k (by omega)).2.trans ((m1 k (Nat.le_refl _)).trans hM)
        have a3 : E' (k + 1) = st1.env := (g1 (k + 1) (Nat.le_refl _)).1.trans e2
        have a4 : Ms' (k + 1) = st1.mem := (g1 (k + 1) (Nat.le_refl _)).2.trans m2
        have hsp' : spanAt Ms' k = h.spans := by
          rw [hS, ← hsp]
          unfold spanAt
          apply List.map_congr_left
          intro i hi
          have hi := List.mem_range.1 hi
          rw [(g1 i (by omega)).2, (g1 (i + 1) (by omega)).2]
        refine ⟨?_, ?_⟩
        · simp only [Nat.add_zero]
          rw [a1, a2, a3, a4, hsp']
          exact h1
        · simp only [Nat.add_zero]
          rw [a2, a3, a4]
          exact hn
      | succ j =>
        simp only [List.getElem?_cons_succ] at hj
        have := g4 j p hj
        rwa [show k + (j + 1) = k + 1 + j by omega]
    · exact h2.elim

theorem preds_mem : ∀ (l : List Oper) (acc : List (List Nat)) (i k : Nat), k ∈ (l.foldl (fun acc o => acc ++ [(directs o).flatMap fun k => k :: acc.getD k []]) acc).getD i [] → acc.length ≤ i →
    ∃ o, l[i - acc.length]? = some o ∧ ∃ d ∈ directs o, k = d ∨ k ∈ (l.foldl (fun acc o => acc ++ [(directs o).flatMap fun k => k :: acc.getD k []]) acc).getD d []
  | [], acc, i, k, hk, hi => by
    simp only [List.foldl_nil] at hk
    rw [List.getD_eq_getElem?_getD, List.getElem?_eq_none hi] at hk
    simp at hk
  | o :: l, acc, i, k, hk, hi => by
    have keep : ∀ (l : List Oper) (acc : List (List Nat)) (i : Nat), i < acc.length → (l.foldl (fun acc o => acc ++ [(directs o).flatMap fun k => k :: acc.getD k []]) acc).getD i [] = acc.getD i [] := by
      intro l
      induction l with
      | nil => intro acc i _; rfl
      | cons o l ih =>
        intro acc i hi
        simp only [List.foldl_cons]
        rw [ih _ i (by simp; omega)]
        simp only [List.getD_eq_getElem?_getD]
        rw [List.getElem?_append_left hi]
    simp only [List.foldl_cons] at hk ⊢
    by_cases he : i = acc.length
    · subst he
      refine ⟨o, by simp, ?_⟩
      rw [keep l _ acc.length (by simp)] at hk
      rw [List.getD_eq_getElem?_getD, List.getElem?_append_right (Nat.le_refl _)] at hk
      simp only [Nat.sub_self, List.getElem?_cons_zero, Option.getD_some, List.mem_flatMap, List.mem_cons] at hk
      obtain ⟨d, hd, hk⟩ := hk
      refine ⟨d, hd, hk.imp id fun hk => ?_⟩
      have hlt : d < acc.length := by
        rcases Nat.lt_or_ge d acc.length with h | h
        · exact h
        · rw [List.getD_eq_getElem?_getD, List.getElem?_eq_none h] at hk; simp at hk
      rw [keep l _ d (by simp; omega), List.getD_eq_getElem?_getD, List.getElem?_append_left hlt, ← List.getD_eq_getElem?_getD]
      exact hk
    · obtain ⟨o', h1, h2⟩ := preds_mem l _ i k hk (by simp; omega)
      refine ⟨o', ?_, h2⟩
      simp only [List.length_append, List.length_singleton] at h1
      rw [show i - acc.length = (i - (acc.length + 1)) + 1 by omega, List.getElem?_cons_succ]
      exact h1
theorem directs_spec {o : Oper} {k : Nat} (h : k ∈ directs o) : ∃ e ∈ o.after, Region.binds .any e = true ∧ e.on = k := by
  unfold directs at h
  obtain ⟨e, he, h2⟩ := List.mem_filterMap.1 h
  refine ⟨e, by simpa using he, ?_⟩
  split at h2
  · rename_i hb; cases h2; exact ⟨hb, rfl⟩
  · cases h2
theorem directs_of {o : Oper} {e : Edge} (he : e ∈ o.after) (hb : Region.binds .any e = true) : e.on ∈ directs o := by
  unfold directs
  exact List.mem_filterMap.2 ⟨e, by simpa using he, by rw [hb]⟩
/-- All that comes ahead has come. -/
theorem preds_listed {ops : List Oper} {n : Nat} {listed : Array Bool} (hclosed : ∀ j oj, ops[j]? = some oj → listed.getD j false = true → ∀ k ∈ directs oj, listed.getD k false = true)
    (hlt : ∀ j oj, j < n → ops[j]? = some oj → ∀ k ∈ directs oj, k < j) : ∀ (j : Nat), j < n → ∀ oj, ops[j]? = some oj → (∀ k ∈ directs oj, listed.getD k false = true) → ∀ k ∈ (predsOf ops).getD j [], listed.getD k false = true := by
  intro j
  induction j using Nat.strongRecOn with
  | _ j ih =>
    intro hj oj hoj hall k hk
    obtain ⟨o, h1, d, hd, h2⟩ := preds_mem ops [] j k hk (Nat.zero_le _)
    simp only [List.length_nil, Nat.sub_zero] at h1
    rw [hoj] at h1; cases h1
    rcases h2 with rfl | h2
    · exact hall k hd
    · have hdj := hlt j oj hj hoj d hd
      cases hod : ops[d]? with
      | none =>
        have : d < ops.length := by
          have := (List.getElem?_eq_some_iff.1 hoj).1
          omega
        rw [List.getElem?_eq_getElem this] at hod; cases hod
      | some od => exact ih d hdj (by omega) od hod (hclosed d od hod (hall d hd)) k h2
end
end Go.Proofs.Ytonhkbgielilbaa.Rig
