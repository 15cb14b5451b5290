/- A reckoner over Go's operations: a step of a region that draws its order. -/
import Derived.Test.YtonhkbgielilbaaR15
namespace Go.Proofs.Ytonhkbgielilbaa.Rig
open Go
def GEnv (ops : List Oper) (o : Oper) (env0 env : List AV) (run : Bool) : Prop :=
  ((guardOf ops o = none ∧ run = true ∨ ∃ g want, guardOf ops o = some (some g, want) ∧ env0.getD g .junk = .tup [] ∧ run = false) ∧ env = env0) ∨ ∃ g want c b, guardOf ops o = some (some g, want) ∧ env0.getD g .junk = .bool c b ∧ env = env0.set g (.bool true b) ∧ run = (b == want)
section
variable {C : Ctx} {callF : FuncId → List AV → Mem → Tree (AV × Mem)} {σ σ' : Sig} {st st' : St} {a a' : Act} {w w' : World}
theorem evStep_cases {ops : List Oper} {o : Oper} {see : Mem → Mem} {put : Mem → Mem → Mem} (h : (evStep C callF ops o see put st).runs st') :
    ∃ env run, GEnv ops o st.env env run ∧ ((run = true ∧ ∃ v M', (evOp C callF (opnd C env) o.op (see st.mem)).runs (v, M') ∧ st' = ⟨putV env o.dst v, put st.mem M'⟩) ∨ (run = false ∧ st' = ⟨putV env o.dst (.tup []), st.mem⟩)) := by
  have run : ∀ env, ((evOp C callF (opnd C env) o.op (see st.mem)).bind fun (v, M) => Tree.ret (⟨putV env o.dst v, put st.mem M⟩ : St)).runs st' → ∃ v M', (evOp C callF (opnd C env) o.op (see st.mem)).runs (v, M') ∧ st' = ⟨putV env o.dst v, put st.mem M'⟩ := by
    intro env hr
    obtain ⟨⟨v, M⟩, h1, h2⟩ := Tree.runs_bind hr
    simp only [Tree.runs] at h2
    exact ⟨v, M, h1, h2.symm⟩
  unfold evStep at h
  simp only [forceV_eq] at h
  split at h
  · rename_i hg
    exact ⟨_, true, .inl ⟨.inl ⟨hg, rfl⟩, rfl⟩, .inl ⟨rfl, run _ h⟩⟩
  · rename_i g want hg
    split at h
    · rename_i c b hb
      rcases Tree.runs_ifB h with ⟨rfl, h2⟩ | ⟨rfl, h2⟩
      · cases want
        · simp only [Tree.runs] at h2
          exact ⟨_, false, .inr ⟨g, false, c, true, hg, hb, rfl, rfl⟩, .inr ⟨rfl, h2.symm⟩⟩
        · exact ⟨_, true, .inr ⟨g, true, c, true, hg, hb, rfl, rfl⟩, .inl ⟨rfl, run _ h2⟩⟩
      · cases want
        · exact ⟨_, true, .inr ⟨g, false, c, false, hg, hb, rfl, rfl⟩, .inl ⟨rfl, run _ h2⟩⟩
        · simp only [Tree.runs] at h2
          exact ⟨_, false, .inr ⟨g, true, c, false, hg, hb, rfl, rfl⟩, .inr ⟨rfl, h2.symm⟩⟩
    · rename_i hb
      simp only [Tree.runs] at h
      exact ⟨_, false, .inl ⟨.inr ⟨g, want, hg, hb, rfl⟩, rfl⟩, .inr ⟨rfl, h.symm⟩⟩
    · exact h.elim
  · exact h.elim
theorem GEnv.imp {ops : List Oper} {o : Oper} {env0 env : List AV} {run : Bool} (h : GEnv ops o env0 env run) (t : Tmp) : Imp (env0.getD t .junk) (env.getD t .junk) := by
  rcases h with ⟨_, rfl⟩ | ⟨g, want, c, b, _, hb, rfl, _⟩
  · exact Imp.refl _
  · by_cases e : t = g
    · subst e
      rw [hb]
      intro σ v hv
      by_cases hlt : t < env0.length
      · rw [List.getD_eq_getElem?_getD, List.getElem?_set_self hlt]
        simpa only [Option.getD_some, Rep] using hv
      · rw [List.getD_eq_getElem?_getD, List.getElem?_eq_none (by simpa using hlt)]
        simp only [Option.getD_none, Rep]
    · rw [List.getD_eq_getElem?_getD, List.getD_eq_getElem?_getD, List.getElem?_set_ne (Ne.symm e)]
      exact Imp.refl _
theorem GEnv.len {ops : List Oper} {o : Oper} {env0 env : List AV} {run : Bool} (h : GEnv ops o env0 env run) : env.length = env0.length := by
  rcases h with ⟨_, rfl⟩ | ⟨g, want, c, b, _, hb, rfl, _⟩
  · rfl
  · simp
theorem putV_ne {env : List AV} {d : Option Tmp} {v : AV} {t : Tmp} (h : d ≠ some t) : (putV env d v).getD t .junk = env.getD t .junk := by
  cases d with
  | none => rfl
  | some d =>
    simp only [putV]
    rw [List.getD_eq_getElem?_getD, List.getElem?_set_ne (fun e => h (by rw [e])), ← List.getD_eq_getElem?_getD]
theorem putV_self {env : List AV} {d : Tmp} {v : AV} : (putV env (some d) v).getD d .junk = v ∨ (putV env (some d) v).getD d .junk = .junk := by
  simp only [putV]
  by_cases h : d < env.length
  · left; rw [List.getD_eq_getElem?_getD, List.getElem?_set_self h]; rfl
  · right; rw [List.getD_eq_getElem?_getD, List.getElem?_eq_none (by simpa using h)]; rfl
theorem put_ne {a : Act} {d : Option Tmp} {v : Value} {t : Tmp} (h : d ≠ some t) : (a.put d v).tmps.getD t undef = a.tmps.getD t undef := by
  cases d with
  | none => rfl
  | some d =>
    simp only [Act.put]
    rw [Array.getD_eq_getD_getElem?, Array.getElem?_setIfInBounds_ne (fun e => h (by rw [e])), ← Array.getD_eq_getD_getElem?]
theorem put_size (a : Act) (d : Option Tmp) (v : Value) : (a.put d v).tmps.size = a.tmps.size := by cases d <;> simp [Act.put]
theorem put_self {a : Act} {d : Tmp} {v : Value} (h : d < a.tmps.size) : (a.put (some d) v).tmps.getD d undef = v := by
  simp only [Act.put]
  rw [Array.getD_eq_getD_getElem?, Array.getElem?_setIfInBounds_self_of_lt h]; rfl

def cut (σ : Sig) (m : Nat) : Sig := fun i => if i < m then σ i else none
theorem cut_ext (σ : Sig) (m : Nat) : Ext (cut σ m) σ := fun i x h => by
  unfold cut at h
  split at h
  · exact h
  · cases h
theorem cut_mono {m m' : Nat} (h : m ≤ m') (he : Ext σ σ') : Ext (cut σ m) (cut σ' m') := fun i x hx => by
  unfold cut at hx ⊢
  split at hx
  · rw [if_pos (by omega)]; exact he i x hx
  · cases hx
theorem Rep.cut {v : AV} {val : Value} {m : Nat} (h : Rep σ v val) (hr : ∀ i ∈ v.refs, i < m) : Rep (cut σ m) v val := h.congr fun i hi x hx => by
  unfold Rig.cut; rw [if_pos (hr i hi)]; exact hx

/-- All that stays the same in a drawn region. -/
structure Dr (C : Ctx) (callF : FuncId → List AV → Mem → Tree (AV × Mem)) (ops : List Oper) (n : Nat) (st0 : St) (E : Nat → List AV) (Ms : Nat → Mem) : Prop where
  e0 : E 0 = st0.env
  m0 : Ms 0 = st0.mem
  step : ∀ j o, j < n → ops[j]? = some o → HStep C callF ops st0.mem.length (predsOf ops) E Ms j o
  head : headOk ops n = true
namespace Dr
variable {ops : List Oper} {n : Nat} {st0 : St} {E : Nat → List AV} {Ms : Nat → Mem}
theorem le (D : Dr C callF ops n st0 E Ms) : n ≤ ops.length := by
  have := D.head
  simp only [headOk, Bool.and_eq_true, decide_eq_true_eq] at this
  exact this.1.1
theorem get (D : Dr C callF ops n st0 E Ms) {j : Nat} (h : j < n) : ∃ o, ops[j]? = some o := ⟨_, List.getElem?_eq_getElem (Nat.lt_of_lt_of_le h D.le)⟩
theorem at_ (D : Dr C callF ops n st0 E Ms) {j : Nat} {o : Oper} (h : j < n) (ho : ops[j]? = some o) : headAt ops n j o = true := by
  have := D.head
  simp only [headOk, Bool.and_eq_true, List.all_eq_true, List.mem_range] at this
  have := this.2 j h
  rw [ho] at this
  exact this
theorem lt (D : Dr C callF ops n st0 E Ms) {j : Nat} {o : Oper} (h : j < n) (ho : ops[j]? = some o) : ∀ k ∈ directs o, k < j := fun k hk => by
  have := D.at_ h ho
  simp only [headAt, Bool.and_eq_true, List.all_eq_true] at this
  simpa using this.1 k hk
theorem dsts (D : Dr C callF ops n st0 E Ms) {j k : Nat} {o ok : Oper} {t : Tmp} (h : j < n) (ho : ops[j]? = some o) (hk : k < n) (hok : ops[k]? = some ok) (ht : ok.dst = some t) :
    (k = j → sees ops o t = false) ∧ (k ≠ j → o.dst ≠ some t ∧ (sees ops o t = true → k ∈ directs o)) := by
  have := D.at_ h ho
  simp only [headAt, Bool.and_eq_true, List.all_eq_true, List.mem_range] at this
  have := this.2 k hk
  rw [hok] at this
  dsimp only at this
  rw [ht] at this
  dsimp only at this
  refine ⟨fun e => ?_, fun e => ?_⟩
  · rw [decide_eq_true e] at this
    simpa using this
  · rw [decide_eq_false e] at this
    simp only [Bool.and_eq_true, Bool.not_eq_true', Bool.or_eq_true, beq_eq_false_iff_ne, ne_eq, List.contains_eq_mem, decide_eq_true_eq] at this
    refine ⟨this.1, fun hs => ?_⟩
    rcases this.2 with h2 | h2
    · rw [hs] at h2; cases h2
    · exact h2
theorem grow (D : Dr C callF ops n st0 E Ms) {j : Nat} (h : j < n) : ∃ ext, Ms (j + 1) = Ms j ++ ext := by
  obtain ⟨o, ho⟩ := D.get h
  obtain ⟨env, run, _, hc⟩ := evStep_cases (D.step j o h ho).runs
  rcases hc with ⟨_, v, M', _, h2⟩ | ⟨_, h2⟩
  · have := congrArg St.mem h2
    exact ⟨_, this⟩
  · have := congrArg St.mem h2
    exact ⟨[], by simpa using this⟩
theorem pre (D : Dr C callF ops n st0 E Ms) : ∀ (d j : Nat), j + d ≤ n → ∃ ext, Ms (j + d) = Ms j ++ ext := by
  intro d
  induction d with
  | zero => intro j _; exact ⟨[], by simp⟩
  | succ d ih =>
    intro j h
    obtain ⟨e1, h1⟩ := ih j (by omega)
    obtain ⟨e2, h2⟩ := D.grow (j := j + d) (by omega)
    exact ⟨e1 ++ e2, by rw [← Nat.add_assoc, h2, h1, List.append_assoc]⟩
theorem mono (D : Dr C callF ops n st0 E Ms) {i j : Nat} (hij : i ≤ j) (hj : j ≤ n) : (Ms i).length ≤ (Ms j).length := by
  obtain ⟨d, rfl⟩ := Nat.exists_eq_add_of_le hij
  obtain ⟨e, he⟩ := D.pre d i hj
  rw [he]; simp
theorem at_eq (D : Dr C callF ops n st0 E Ms) {i j p : Nat} (hij : i ≤ j) (hj : j ≤ n) (hp : p < (Ms i).length) : (Ms j).at p = (Ms i).at p := by
  obtain ⟨d, rfl⟩ := Nat.exists_eq_add_of_le hij
  obtain ⟨e, he⟩ := D.pre d i hj
  rw [he, Mem.at_append_left hp]
theorem elen (D : Dr C callF ops n st0 E Ms) : ∀ j, j ≤ n → (E j).length = st0.env.length := by
  intro j
  induction j with
  | zero => intro _; rw [D.e0]
  | succ j ih =>
    intro h
    obtain ⟨o, ho⟩ := D.get (j := j) (by omega)
    obtain ⟨env, run, hg, hc⟩ := evStep_cases (D.step j o (by omega) ho).runs
    have : (E (j + 1)).length = env.length := by
      rcases hc with ⟨_, v, M', _, h2⟩ | ⟨_, h2⟩
      · have h3 : E (j + 1) = putV env o.dst v := congrArg St.env h2
        rw [h3]; simp [putV_len]
      · have h3 : E (j + 1) = putV env o.dst (.tup []) := congrArg St.env h2
        rw [h3]; simp [putV_len]
    rw [this, hg.len]
    exact ih (by omega)
/-- What stands in a slot that is not put stays. -/
theorem slot (D : Dr C callF ops n st0 E Ms) {t : Tmp} {i : Nat} : ∀ j, i ≤ j → j ≤ n → (∀ k o, i ≤ k → k < j → ops[k]? = some o → o.dst ≠ some t) → Imp ((E i).getD t .junk) ((E j).getD t .junk) := by
  intro j
  induction j with
  | zero =>
    intro h _ _
    have e : i = 0 := by omega
    subst e
    exact Imp.refl _
  | succ j ih =>
    intro h hj hno
    by_cases e : i = j + 1
    · subst e; exact Imp.refl _
    · have h1 := ih (by omega) (by omega) fun k o hk hk' => hno k o hk (by omega)
      obtain ⟨o, ho⟩ := D.get (j := j) (by omega)
      obtain ⟨env, run, hg, hc⟩ := evStep_cases (D.step j o (by omega) ho).runs
      have h2 : (E (j + 1)).getD t .junk = env.getD t .junk := by
        rcases hc with ⟨_, v, M', _, h2⟩ | ⟨_, h2⟩
        · have h3 : E (j + 1) = putV env o.dst v := congrArg St.env h2
          rw [h3]; exact putV_ne (hno j o (by omega) (by omega) ho)
        · have h3 : E (j + 1) = putV env o.dst (.tup []) := congrArg St.env h2
          rw [h3]; exact putV_ne (hno j o (by omega) (by omega) ho)
      rw [h2]
      exact fun σ v hv => hg.imp t σ v (h1 σ v hv)
end Dr
def isVis (m0 n : Nat) (Ms : Nat → Mem) (listed : Array Bool) (i : Nat) : Prop := i < m0 ∨ ∃ k, k < n ∧ listed.getD k false = true ∧ (Ms k).length ≤ i ∧ i < (Ms (k + 1)).length
open Classical in
noncomputable def Ml (m0 n : Nat) (Ms : Nat → Mem) (listed : Array Bool) : Mem := (List.range (Ms n).length).map fun i => if isVis m0 n Ms listed i then (Ms n).at i else none
theorem Ml_at {m0 n : Nat} {Ms : Nat → Mem} {listed : Array Bool} {i : Nat} {b : Blk} : (Ml m0 n Ms listed).at i = some b ↔ isVis m0 n Ms listed i ∧ (Ms n).at i = some b := by
  unfold Ml Mem.at
  rw [List.getElem?_map]
  constructor
  · intro h
    cases hi : (List.range (Ms n).length)[i]? with
    | none => rw [hi] at h; cases h
    | some j =>
      have hlt := (List.getElem?_eq_some_iff.1 hi).1
      simp only [List.length_range] at hlt
      rw [hi] at h
      have : j = i := by
        have := (List.getElem?_eq_some_iff.1 hi).2
        simpa using this.symm
      subst this
      simp only [Option.map_some, Option.join_some] at h
      split at h
      · rename_i hv; exact ⟨hv, h⟩
      · cases h
  · rintro ⟨hv, h⟩
    have hlt : i < (Ms n).length := Mem.at_lt (M := Ms n) h
    rw [List.getElem?_eq_getElem (by simpa using hlt)]
    simp only [List.getElem_range, Option.map_some, Option.join_some, if_pos hv]
    exact h
theorem visible_at {m0 j : Nat} {Ms : Nat → Mem} {ps : List Nat} {M : Mem} {i : Nat} {b' : Blk} (h : (visible m0 (spanAt Ms j) ps M).at i = some b') :
    ∃ b, M.at i = some b ∧ b' = { b with rw := false } ∧ (i < m0 ∨ ∃ k ∈ ps, k < j ∧ (Ms k).length ≤ i ∧ i < (Ms (k + 1)).length) := by
  unfold visible Mem.freeze at h
  unfold Mem.at at h
  rw [List.getElem?_map, List.getElem?_map] at h
  cases hi : (List.range M.length)[i]? with
  | none => rw [hi] at h; cases h
  | some j' =>
    rw [hi] at h
    have : j' = i := by
      have := (List.getElem?_eq_some_iff.1 hi).2
      simpa using this.symm
    subst this
    simp only [Option.map_some, Option.join_some] at h
    split at h
    · rename_i hv
      obtain ⟨b, hb, rfl⟩ := Option.map_eq_some_iff.1 h
      refine ⟨b, hb, rfl, ?_⟩
      simp only [Bool.or_eq_true, decide_eq_true_eq, List.any_eq_true] at hv
      rcases hv with hv | ⟨k, hk, hv⟩
      · exact .inl hv
      · right
        refine ⟨k, hk, ?_⟩
        unfold spanAt at hv
        rw [List.getElem?_map] at hv
        cases hkr : (List.range j)[k]? with
        | none => rw [hkr] at hv; cases hv
        | some k' =>
          have hkl := (List.getElem?_eq_some_iff.1 hkr).1
          simp only [List.length_range] at hkl
          have : k' = k := by
            have := (List.getElem?_eq_some_iff.1 hkr).2
            simpa using this.symm
          subst this
          rw [hkr] at hv
          simp only [Option.map_some, decide_eq_true_eq] at hv
          exact ⟨hkl, hv⟩
    · cases h
theorem visible_len {m0 : Nat} {sp : List (Nat × Nat)} {ps : List Nat} {M : Mem} : (visible m0 sp ps M).length = M.length := by simp [visible, Mem.freeze]
end
end Go.Proofs.Ytonhkbgielilbaa.Rig
