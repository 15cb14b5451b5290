/- MExact: what is proved for the claim, part 2: functions' reckonings, and what they give. -/
import Derived.Test.YtonhkbgielilbaaMExact1
import Derived.OrdersHeld
import Derived.KernelRfl
import Derived.Below
set_option linter.unusedVariables false
set_option linter.unusedSimpArgs false
/- A reckoner over Go's operations: a region that draws its order. -/
namespace Go.Proofs.Ytonhkbgielilbaa.Rig
open Go
section
variable {C : Ctx} {callF : FuncId → List AV → Mem → Tree (AV × Mem)} {σ σ' : Sig} {st st' : St} {a a' : Act} {w w' : World}

def spanAt (Ms : Nat → Mem) (j : Nat) : List (Nat × Nat) := (List.range j).map fun i => ((Ms i).length, (Ms (i + 1)).length)
def headPut (M M' : Mem) : Mem := M ++ M'.drop M.length
def dstAt (o : Oper) (env : List AV) : AV := match o.dst with | some d => env.getD d .junk | none => .junk
/-- What one operation of the head came to, in the text's order. -/
structure HStep (C : Ctx) (callF : FuncId → List AV → Mem → Tree (AV × Mem)) (ops : List Oper) (m0 : Nat) (pl : List (List Nat)) (E : Nat → List AV) (Ms : Nat → Mem) (j : Nat) (o : Oper) : Prop where
  runs : (evStep C callF ops o (visible m0 (spanAt Ms j) (pl.getD j [])) headPut ⟨E j, Ms j⟩).runs ⟨E (j + 1), Ms (j + 1)⟩
  new : newOk (Ms (j + 1)) (Ms j).length (dstAt o (E (j + 1))) = true
theorem head_trace {ops : List Oper} {m0 : Nat} (pl : List (List Nat)) : ∀ (l : List Oper) (k : Nat) (h h' : HSt) (E : Nat → List AV) (Ms : Nat → Mem), (evHead C callF ops m0 l (pl.drop k) h).runs h' → E k = h.st.env → Ms k = h.st.mem → h.spans = spanAt Ms k →
    ∃ E' Ms', (∀ i, i ≤ k → E' i = E i ∧ Ms' i = Ms i) ∧ E' (k + l.length) = h'.st.env ∧ Ms' (k + l.length) = h'.st.mem ∧ ∀ j o, l[j]? = some o → HStep C callF ops m0 pl E' Ms' (k + j) o
  | [], k, h, h', E, Ms, hr, hE, hM, _ => by
    simp only [evHead, Tree.runs] at hr
    subst hr
    exact ⟨E, Ms, fun _ _ => ⟨rfl, rfl⟩, hE, hM, fun j o hj => by simp at hj⟩
  | o :: l, k, h, h', E, Ms, hr, hE, hM, hS => by
    simp only [evHead] at hr
    obtain ⟨st1, h1, h2⟩ := Tree.runs_bind hr
    split at h2
    · rename_i hn
      have hpl : (pl.drop k).tail = pl.drop (k + 1) := by simp
      rw [hpl] at h2
      have hhd : (pl.drop k).headD [] = pl.getD k [] := by
        rw [List.headD_eq_head?_getD, List.head?_drop, List.getD_eq_getElem?_getD]
      rw [hhd] at h1
      let E1 : Nat → List AV := fun i => if i ≤ k then E i else st1.env
      let M1 : Nat → Mem := fun i => if i ≤ k then Ms i else st1.mem
      have e1 : ∀ i, i ≤ k → E1 i = E i := fun i hi => by simp only [E1, if_pos hi]
      have m1 : ∀ i, i ≤ k → M1 i = Ms i := fun i hi => by simp only [M1, if_pos hi]
      have e2 : E1 (k + 1) = st1.env := by simp only [E1]; rw [if_neg (by omega)]
      have m2 : M1 (k + 1) = st1.mem := by simp only [M1]; rw [if_neg (by omega)]
      have hsp : spanAt M1 k = spanAt Ms k := by
        unfold spanAt
        apply List.map_congr_left
        intro i hi
        have hi := List.mem_range.1 hi
        rw [m1 i (by omega), m1 (i + 1) (by omega)]
      have hs1 : h.spans ++ [(h.st.mem.length, st1.mem.length)] = spanAt M1 (k + 1) := by
        rw [hS, ← hsp]
        unfold spanAt
        rw [List.range_succ, List.map_append]
        simp only [List.map_cons, List.map_nil]
        rw [m1 k (Nat.le_refl _), m2, hM]
      obtain ⟨E', Ms', g1, g2, g3, g4⟩ := head_trace pl l (k + 1) ⟨st1, h.spans ++ [(h.st.mem.length, st1.mem.length)]⟩ h' E1 M1 h2 e2 m2 hs1
      refine ⟨E', Ms', fun i hi => ⟨(g1 i (by omega)).1.trans (e1 i hi), (g1 i (by omega)).2.trans (m1 i hi)⟩, by simpa [Nat.add_assoc, Nat.add_comm 1] using g2, by simpa [Nat.add_assoc, Nat.add_comm 1] using g3, fun j p hj => ?_⟩
      cases j with
      | zero =>
        simp only [List.getElem?_cons_zero, Option.some.injEq] at hj
        subst hj
        have a1 : E' k = h.st.env := (g1 k (by omega)).1.trans ((e1 k (Nat.le_refl _)).trans hE)
        have a2 : Ms' k = h.st.mem := (g1 k (by omega)).2.trans ((m1 k (Nat.le_refl _)).trans hM)
        have a3 : E' (k + 1) = st1.env := (g1 (k + 1) (Nat.le_refl _)).1.trans e2
        have a4 : Ms' (k + 1) = st1.mem := (g1 (k + 1) (Nat.le_refl _)).2.trans m2
        have hsp' : spanAt Ms' k = h.spans := by
          rw [hS, ← hsp]
          unfold spanAt
          apply List.map_congr_left
          intro i hi
          have hi := List.mem_range.1 hi
          rw [(g1 i (by omega)).2, (g1 (i + 1) (by omega)).2]
        refine ⟨?_, ?_⟩
        · simp only [Nat.add_zero]
          rw [a1, a2, a3, a4, hsp']
          exact h1
        · simp only [Nat.add_zero]
          rw [a2, a3, a4]
          exact hn
      | succ j =>
        simp only [List.getElem?_cons_succ] at hj
        have := g4 j p hj
        rwa [show k + (j + 1) = k + 1 + j by omega]
    · exact h2.elim

theorem preds_mem : ∀ (l : List Oper) (acc : List (List Nat)) (i k : Nat), k ∈ (l.foldl (fun acc o => acc ++ [((directs o).flatMap fun k => k :: acc.getD k []).eraseDups]) acc).getD i [] → acc.length ≤ i →
    ∃ o, l[i - acc.length]? = some o ∧ ∃ d ∈ directs o, k = d ∨ k ∈ (l.foldl (fun acc o => acc ++ [((directs o).flatMap fun k => k :: acc.getD k []).eraseDups]) acc).getD d []
  | [], acc, i, k, hk, hi => by
    simp only [List.foldl_nil] at hk
    rw [List.getD_eq_getElem?_getD, List.getElem?_eq_none hi] at hk
    simp at hk
  | o :: l, acc, i, k, hk, hi => by
    have keep : ∀ (l : List Oper) (acc : List (List Nat)) (i : Nat), i < acc.length → (l.foldl (fun acc o => acc ++ [((directs o).flatMap fun k => k :: acc.getD k []).eraseDups]) acc).getD i [] = acc.getD i [] := by
      intro l
      induction l with
      | nil => intro acc i _; rfl
      | cons o l ih =>
        intro acc i hi
        simp only [List.foldl_cons]
        rw [ih _ i (by simp; omega)]
        simp only [List.getD_eq_getElem?_getD]
        rw [List.getElem?_append_left hi]
    simp only [List.foldl_cons] at hk ⊢
    by_cases he : i = acc.length
    · subst he
      refine ⟨o, by simp, ?_⟩
      rw [keep l _ acc.length (by simp)] at hk
      rw [List.getD_eq_getElem?_getD, List.getElem?_append_right (Nat.le_refl _)] at hk
      simp only [Nat.sub_self, List.getElem?_cons_zero, Option.getD_some, List.mem_eraseDups, List.mem_flatMap, List.mem_cons] at hk
      obtain ⟨d, hd, hk⟩ := hk
      refine ⟨d, hd, hk.imp id fun hk => ?_⟩
      have hlt : d < acc.length := by
        rcases Nat.lt_or_ge d acc.length with h | h
        · exact h
        · rw [List.getD_eq_getElem?_getD, List.getElem?_eq_none h] at hk; simp at hk
      rw [keep l _ d (by simp; omega), List.getD_eq_getElem?_getD, List.getElem?_append_left hlt, ← List.getD_eq_getElem?_getD]
      exact hk
    · obtain ⟨o', h1, h2⟩ := preds_mem l _ i k hk (by simp; omega)
      refine ⟨o', ?_, h2⟩
      simp only [List.length_append, List.length_singleton] at h1
      rw [show i - acc.length = (i - (acc.length + 1)) + 1 by omega, List.getElem?_cons_succ]
      exact h1
theorem directs_spec {o : Oper} {k : Nat} (h : k ∈ directs o) : ∃ e ∈ o.after, Region.binds .any e = true ∧ e.on = k := by
  unfold directs at h
  obtain ⟨e, he, h2⟩ := List.mem_filterMap.1 h
  refine ⟨e, by simpa using he, ?_⟩
  split at h2
  · rename_i hb; cases h2; exact ⟨hb, rfl⟩
  · cases h2
theorem directs_of {o : Oper} {e : Edge} (he : e ∈ o.after) (hb : Region.binds .any e = true) : e.on ∈ directs o := by
  unfold directs
  exact List.mem_filterMap.2 ⟨e, by simpa using he, by rw [hb]⟩
/-- All that comes ahead has come. -/
theorem preds_listed {ops : List Oper} {n : Nat} {listed : Array Bool} (hclosed : ∀ j oj, ops[j]? = some oj → listed.getD j false = true → ∀ k ∈ directs oj, listed.getD k false = true)
    (hlt : ∀ j oj, j < n → ops[j]? = some oj → ∀ k ∈ directs oj, k < j) : ∀ (j : Nat), j < n → ∀ oj, ops[j]? = some oj → (∀ k ∈ directs oj, listed.getD k false = true) → ∀ k ∈ (predsOf ops).getD j [], listed.getD k false = true := by
  intro j
  induction j using Nat.strongRecOn with
  | _ j ih =>
    intro hj oj hoj hall k hk
    obtain ⟨o, h1, d, hd, h2⟩ := preds_mem ops [] j k hk (Nat.zero_le _)
    simp only [List.length_nil, Nat.sub_zero] at h1
    rw [hoj] at h1; cases h1
    rcases h2 with rfl | h2
    · exact hall k hd
    · have hdj := hlt j oj hj hoj d hd
      cases hod : ops[d]? with
      | none =>
        have : d < ops.length := by
          have := (List.getElem?_eq_some_iff.1 hoj).1
          omega
        rw [List.getElem?_eq_getElem this] at hod; cases hod
      | some od => exact ih d hdj (by omega) od hod (hclosed d od hod (hall d hd)) k h2
end
end Go.Proofs.Ytonhkbgielilbaa.Rig

/- A reckoner over Go's operations: a step of a region that draws its order. -/
namespace Go.Proofs.Ytonhkbgielilbaa.Rig
open Go
def GEnv (ops : List Oper) (o : Oper) (env0 env : List AV) (run : Bool) : Prop :=
  ((guardOf ops o = none ∧ run = true ∨ ∃ g want, guardOf ops o = some (some g, want) ∧ env0.getD g .junk = .tup [] ∧ run = false) ∧ env = env0) ∨ ∃ g want c b, guardOf ops o = some (some g, want) ∧ env0.getD g .junk = .bool c b ∧ env = env0.set g (.bool true b) ∧ run = (b == want)
section
variable {C : Ctx} {callF : FuncId → List AV → Mem → Tree (AV × Mem)} {σ σ' : Sig} {st st' : St} {a a' : Act} {w w' : World}
theorem evStep_cases {ops : List Oper} {o : Oper} {see : Mem → Mem} {put : Mem → Mem → Mem} (h : (evStep C callF ops o see put st).runs st') :
    ∃ env run, GEnv ops o st.env env run ∧ ((run = true ∧ ∃ v M', (evOp C callF (opnd C env) o.op (see st.mem)).runs (v, M') ∧ st' = ⟨putV env o.dst v, put st.mem M'⟩) ∨ (run = false ∧ st' = ⟨putV env o.dst (.tup []), st.mem⟩)) := by
  have run : ∀ env, ((evOp C callF (opnd C env) o.op (see st.mem)).bind fun (v, M) => Tree.ret (⟨putV env o.dst v, put st.mem M⟩ : St)).runs st' → ∃ v M', (evOp C callF (opnd C env) o.op (see st.mem)).runs (v, M') ∧ st' = ⟨putV env o.dst v, put st.mem M'⟩ := by
    intro env hr
    obtain ⟨⟨v, M⟩, h1, h2⟩ := Tree.runs_bind hr
    simp only [Tree.runs] at h2
    exact ⟨v, M, h1, h2.symm⟩
  unfold evStep at h
  simp only [forceV_eq] at h
  split at h
  · rename_i hg
    exact ⟨_, true, .inl ⟨.inl ⟨hg, rfl⟩, rfl⟩, .inl ⟨rfl, run _ h⟩⟩
  · rename_i g want hg
    split at h
    · rename_i c b hb
      rcases Tree.runs_ifB h with ⟨rfl, h2⟩ | ⟨rfl, h2⟩
      · cases want
        · simp only [Tree.runs] at h2
          exact ⟨_, false, .inr ⟨g, false, c, true, hg, hb, rfl, rfl⟩, .inr ⟨rfl, h2.symm⟩⟩
        · exact ⟨_, true, .inr ⟨g, true, c, true, hg, hb, rfl, rfl⟩, .inl ⟨rfl, run _ h2⟩⟩
      · cases want
        · exact ⟨_, true, .inr ⟨g, false, c, false, hg, hb, rfl, rfl⟩, .inl ⟨rfl, run _ h2⟩⟩
        · simp only [Tree.runs] at h2
          exact ⟨_, false, .inr ⟨g, true, c, false, hg, hb, rfl, rfl⟩, .inr ⟨rfl, h2.symm⟩⟩
    · rename_i hb
      simp only [Tree.runs] at h
      exact ⟨_, false, .inl ⟨.inr ⟨g, want, hg, hb, rfl⟩, rfl⟩, .inr ⟨rfl, h.symm⟩⟩
    · exact h.elim
  · exact h.elim
theorem GEnv.imp {ops : List Oper} {o : Oper} {env0 env : List AV} {run : Bool} (h : GEnv ops o env0 env run) (t : Tmp) : Imp (env0.getD t .junk) (env.getD t .junk) := by
  rcases h with ⟨_, rfl⟩ | ⟨g, want, c, b, _, hb, rfl, _⟩
  · exact Imp.refl _
  · by_cases e : t = g
    · subst e
      rw [hb]
      intro σ v hv
      by_cases hlt : t < env0.length
      · rw [List.getD_eq_getElem?_getD, List.getElem?_set_self hlt]
        simpa only [Option.getD_some, Rep] using hv
      · rw [List.getD_eq_getElem?_getD, List.getElem?_eq_none (by simpa using hlt)]
        simp only [Option.getD_none, Rep]
    · rw [List.getD_eq_getElem?_getD, List.getD_eq_getElem?_getD, List.getElem?_set_ne (Ne.symm e)]
      exact Imp.refl _
theorem GEnv.len {ops : List Oper} {o : Oper} {env0 env : List AV} {run : Bool} (h : GEnv ops o env0 env run) : env.length = env0.length := by
  rcases h with ⟨_, rfl⟩ | ⟨g, want, c, b, _, hb, rfl, _⟩
  · rfl
  · simp
theorem putV_ne {env : List AV} {d : Option Tmp} {v : AV} {t : Tmp} (h : d ≠ some t) : (putV env d v).getD t .junk = env.getD t .junk := by
  cases d with
  | none => rfl
  | some d =>
    simp only [putV]
    rw [List.getD_eq_getElem?_getD, List.getElem?_set_ne (fun e => h (by rw [e])), ← List.getD_eq_getElem?_getD]
theorem putV_self {env : List AV} {d : Tmp} {v : AV} : (putV env (some d) v).getD d .junk = v ∨ (putV env (some d) v).getD d .junk = .junk := by
  simp only [putV]
  by_cases h : d < env.length
  · left; rw [List.getD_eq_getElem?_getD, List.getElem?_set_self h]; rfl
  · right; rw [List.getD_eq_getElem?_getD, List.getElem?_eq_none (by simpa using h)]; rfl
theorem put_ne {a : Act} {d : Option Tmp} {v : Value} {t : Tmp} (h : d ≠ some t) : (a.put d v).tmps.getD t undef = a.tmps.getD t undef := by
  cases d with
  | none => rfl
  | some d =>
    simp only [Act.put]
    rw [Array.getD_eq_getD_getElem?, Array.getElem?_setIfInBounds_ne (fun e => h (by rw [e])), ← Array.getD_eq_getD_getElem?]
theorem put_size (a : Act) (d : Option Tmp) (v : Value) : (a.put d v).tmps.size = a.tmps.size := by cases d <;> simp [Act.put]
theorem put_self {a : Act} {d : Tmp} {v : Value} (h : d < a.tmps.size) : (a.put (some d) v).tmps.getD d undef = v := by
  simp only [Act.put]
  rw [Array.getD_eq_getD_getElem?, Array.getElem?_setIfInBounds_self_of_lt h]; rfl

def cut (σ : Sig) (m : Nat) : Sig := fun i => if i < m then σ i else none
theorem cut_ext (σ : Sig) (m : Nat) : Ext (cut σ m) σ := fun i x h => by
  unfold cut at h
  split at h
  · exact h
  · cases h
theorem cut_mono {m m' : Nat} (h : m ≤ m') (he : Ext σ σ') : Ext (cut σ m) (cut σ' m') := fun i x hx => by
  unfold cut at hx ⊢
  split at hx
  · rw [if_pos (by omega)]; exact he i x hx
  · cases hx
theorem Rep.cut {v : AV} {val : Value} {m : Nat} (h : Rep σ v val) (hr : ∀ i ∈ v.refs, i < m) : Rep (cut σ m) v val := h.congr fun i hi x hx => by
  unfold Rig.cut; rw [if_pos (hr i hi)]; exact hx

/-- All that stays the same in a drawn region. -/
structure Dr (C : Ctx) (callF : FuncId → List AV → Mem → Tree (AV × Mem)) (ops : List Oper) (n : Nat) (st0 : St) (E : Nat → List AV) (Ms : Nat → Mem) : Prop where
  e0 : E 0 = st0.env
  m0 : Ms 0 = st0.mem
  step : ∀ j o, j < n → ops[j]? = some o → HStep C callF ops st0.mem.length (predsOf ops) E Ms j o
  head : headOk ops n = true
namespace Dr
variable {ops : List Oper} {n : Nat} {st0 : St} {E : Nat → List AV} {Ms : Nat → Mem}
theorem le (D : Dr C callF ops n st0 E Ms) : n ≤ ops.length := by
  have := D.head
  simp only [headOk, Bool.and_eq_true, decide_eq_true_eq] at this
  exact this.1.1
theorem get (D : Dr C callF ops n st0 E Ms) {j : Nat} (h : j < n) : ∃ o, ops[j]? = some o := ⟨_, List.getElem?_eq_getElem (Nat.lt_of_lt_of_le h D.le)⟩
theorem at_ (D : Dr C callF ops n st0 E Ms) {j : Nat} {o : Oper} (h : j < n) (ho : ops[j]? = some o) : headAt ops n j o = true := by
  have := D.head
  simp only [headOk, Bool.and_eq_true, List.all_eq_true, List.mem_range] at this
  have := this.2 j h
  rw [ho] at this
  exact this
theorem lt (D : Dr C callF ops n st0 E Ms) {j : Nat} {o : Oper} (h : j < n) (ho : ops[j]? = some o) : ∀ k ∈ directs o, k < j := fun k hk => by
  have := D.at_ h ho
  simp only [headAt, Bool.and_eq_true, List.all_eq_true] at this
  simpa using this.1 k hk
theorem dsts (D : Dr C callF ops n st0 E Ms) {j k : Nat} {o ok : Oper} {t : Tmp} (h : j < n) (ho : ops[j]? = some o) (hk : k < n) (hok : ops[k]? = some ok) (ht : ok.dst = some t) :
    (k = j → sees ops o t = false) ∧ (k ≠ j → o.dst ≠ some t ∧ (sees ops o t = true → k ∈ directs o)) := by
  have := D.at_ h ho
  simp only [headAt, Bool.and_eq_true, List.all_eq_true, List.mem_range] at this
  have := this.2 k hk
  rw [hok] at this
  dsimp only at this
  rw [ht] at this
  dsimp only at this
  refine ⟨fun e => ?_, fun e => ?_⟩
  · rw [decide_eq_true e] at this
    simpa using this
  · rw [decide_eq_false e] at this
    simp only [Bool.and_eq_true, Bool.not_eq_true', Bool.or_eq_true, beq_eq_false_iff_ne, ne_eq, List.contains_eq_mem, decide_eq_true_eq] at this
    refine ⟨this.1, fun hs => ?_⟩
    rcases this.2 with h2 | h2
    · rw [hs] at h2; cases h2
    · exact h2
theorem grow (D : Dr C callF ops n st0 E Ms) {j : Nat} (h : j < n) : ∃ ext, Ms (j + 1) = Ms j ++ ext := by
  obtain ⟨o, ho⟩ := D.get h
  obtain ⟨env, run, _, hc⟩ := evStep_cases (D.step j o h ho).runs
  rcases hc with ⟨_, v, M', _, h2⟩ | ⟨_, h2⟩
  · have := congrArg St.mem h2
    exact ⟨_, this⟩
  · have := congrArg St.mem h2
    exact ⟨[], by simpa using this⟩
theorem pre (D : Dr C callF ops n st0 E Ms) : ∀ (d j : Nat), j + d ≤ n → ∃ ext, Ms (j + d) = Ms j ++ ext := by
  intro d
  induction d with
  | zero => intro j _; exact ⟨[], by simp⟩
  | succ d ih =>
    intro j h
    obtain ⟨e1, h1⟩ := ih j (by omega)
    obtain ⟨e2, h2⟩ := D.grow (j := j + d) (by omega)
    exact ⟨e1 ++ e2, by rw [← Nat.add_assoc, h2, h1, List.append_assoc]⟩
theorem mono (D : Dr C callF ops n st0 E Ms) {i j : Nat} (hij : i ≤ j) (hj : j ≤ n) : (Ms i).length ≤ (Ms j).length := by
  obtain ⟨d, rfl⟩ := Nat.exists_eq_add_of_le hij
  obtain ⟨e, he⟩ := D.pre d i hj
  rw [he]; simp
theorem at_eq (D : Dr C callF ops n st0 E Ms) {i j p : Nat} (hij : i ≤ j) (hj : j ≤ n) (hp : p < (Ms i).length) : (Ms j).at p = (Ms i).at p := by
  obtain ⟨d, rfl⟩ := Nat.exists_eq_add_of_le hij
  obtain ⟨e, he⟩ := D.pre d i hj
  rw [he, Mem.at_append_left hp]
theorem elen (D : Dr C callF ops n st0 E Ms) : ∀ j, j ≤ n → (E j).length = st0.env.length := by
  intro j
  induction j with
  | zero => intro _; rw [D.e0]
  | succ j ih =>
    intro h
    obtain ⟨o, ho⟩ := D.get (j := j) (by omega)
    obtain ⟨env, run, hg, hc⟩ := evStep_cases (D.step j o (by omega) ho).runs
    have : (E (j + 1)).length = env.length := by
      rcases hc with ⟨_, v, M', _, h2⟩ | ⟨_, h2⟩
      · have h3 : E (j + 1) = putV env o.dst v := congrArg St.env h2
        rw [h3]; simp [putV_len]
      · have h3 : E (j + 1) = putV env o.dst (.tup []) := congrArg St.env h2
        rw [h3]; simp [putV_len]
    rw [this, hg.len]
    exact ih (by omega)
/-- What stands in a slot that is not put stays. -/
theorem slot (D : Dr C callF ops n st0 E Ms) {t : Tmp} {i : Nat} : ∀ j, i ≤ j → j ≤ n → (∀ k o, i ≤ k → k < j → ops[k]? = some o → o.dst ≠ some t) → Imp ((E i).getD t .junk) ((E j).getD t .junk) := by
  intro j
  induction j with
  | zero =>
    intro h _ _
    have e : i = 0 := by omega
    subst e
    exact Imp.refl _
  | succ j ih =>
    intro h hj hno
    by_cases e : i = j + 1
    · subst e; exact Imp.refl _
    · have h1 := ih (by omega) (by omega) fun k o hk hk' => hno k o hk (by omega)
      obtain ⟨o, ho⟩ := D.get (j := j) (by omega)
      obtain ⟨env, run, hg, hc⟩ := evStep_cases (D.step j o (by omega) ho).runs
      have h2 : (E (j + 1)).getD t .junk = env.getD t .junk := by
        rcases hc with ⟨_, v, M', _, h2⟩ | ⟨_, h2⟩
        · have h3 : E (j + 1) = putV env o.dst v := congrArg St.env h2
          rw [h3]; exact putV_ne (hno j o (by omega) (by omega) ho)
        · have h3 : E (j + 1) = putV env o.dst (.tup []) := congrArg St.env h2
          rw [h3]; exact putV_ne (hno j o (by omega) (by omega) ho)
      rw [h2]
      exact fun σ v hv => hg.imp t σ v (h1 σ v hv)
end Dr
def isVis (m0 n : Nat) (Ms : Nat → Mem) (listed : Array Bool) (i : Nat) : Prop := i < m0 ∨ ∃ k, k < n ∧ listed.getD k false = true ∧ (Ms k).length ≤ i ∧ i < (Ms (k + 1)).length
open Classical in
noncomputable def Ml (m0 n : Nat) (Ms : Nat → Mem) (listed : Array Bool) : Mem := (List.range (Ms n).length).map fun i => if isVis m0 n Ms listed i then (Ms n).at i else none
theorem Ml_at {m0 n : Nat} {Ms : Nat → Mem} {listed : Array Bool} {i : Nat} {b : Blk} : (Ml m0 n Ms listed).at i = some b ↔ isVis m0 n Ms listed i ∧ (Ms n).at i = some b := by
  unfold Ml Mem.at
  rw [List.getElem?_map]
  constructor
  · intro h
    cases hi : (List.range (Ms n).length)[i]? with
    | none => rw [hi] at h; cases h
    | some j =>
      have hlt := (List.getElem?_eq_some_iff.1 hi).1
      simp only [List.length_range] at hlt
      rw [hi] at h
      have : j = i := by
        have := (List.getElem?_eq_some_iff.1 hi).2
        simpa using this.symm
      subst this
      simp only [Option.map_some, Option.join_some] at h
      split at h
      · rename_i hv; exact ⟨hv, h⟩
      · cases h
  · rintro ⟨hv, h⟩
    have hlt : i < (Ms n).length := Mem.at_lt (M := Ms n) h
    rw [List.getElem?_eq_getElem (by simpa using hlt)]
    simp only [List.getElem_range, Option.map_some, Option.join_some, if_pos hv]
    exact h
theorem visible_at {m0 j : Nat} {Ms : Nat → Mem} {ps : List Nat} {M : Mem} {i : Nat} {b' : Blk} (h : (visible m0 (spanAt Ms j) ps M).at i = some b') :
    ∃ b, M.at i = some b ∧ b' = { b with rw := false } ∧ (i < m0 ∨ ∃ k ∈ ps, k < j ∧ (Ms k).length ≤ i ∧ i < (Ms (k + 1)).length) := by
  unfold visible Mem.freeze at h
  unfold Mem.at at h
  rw [List.getElem?_map, List.getElem?_map] at h
  cases hi : (List.range M.length)[i]? with
  | none => rw [hi] at h; cases h
  | some j' =>
    rw [hi] at h
    have : j' = i := by
      have := (List.getElem?_eq_some_iff.1 hi).2
      simpa using this.symm
    subst this
    simp only [Option.map_some, Option.join_some] at h
    split at h
    · rename_i hv
      obtain ⟨b, hb, rfl⟩ := Option.map_eq_some_iff.1 h
      refine ⟨b, hb, rfl, ?_⟩
      simp only [Bool.or_eq_true, decide_eq_true_eq, List.any_eq_true] at hv
      rcases hv with hv | ⟨k, hk, hv⟩
      · exact .inl hv
      · right
        refine ⟨k, hk, ?_⟩
        unfold spanAt at hv
        rw [List.getElem?_map] at hv
        cases hkr : (List.range j)[k]? with
        | none => rw [hkr] at hv; cases hv
        | some k' =>
          have hkl := (List.getElem?_eq_some_iff.1 hkr).1
          simp only [List.length_range] at hkl
          have : k' = k := by
            have := (List.getElem?_eq_some_iff.1 hkr).2
            simpa using this.symm
          subst this
          rw [hkr] at hv
          simp only [Option.map_some, decide_eq_true_eq] at hv
          exact ⟨hkl, hv⟩
    · cases h
theorem visible_len {m0 : Nat} {sp : List (Nat × Nat)} {ps : List Nat} {M : Mem} : (visible m0 sp ps M).length = M.length := by simp [visible, Mem.freeze]
end
end Go.Proofs.Ytonhkbgielilbaa.Rig

/- A reckoner over Go's operations: what holds between the steps of a drawn region. -/
namespace Go.Proofs.Ytonhkbgielilbaa.Rig
open Go
structure Inv (C : Ctx) (ops : List Oper) (n : Nat) (σ0 : Sig) (st0 : St) (a0 : Act) (w0 : World) (E : Nat → List AV) (Ms : Nat → Mem) (listed : Array Bool) (a : Act) (w : World) (σ : Sig) : Prop where
  moved : Moved C.P σ0 st0.mem w0 σ (Ml st0.mem.length n Ms listed) w
  span : ∀ i x, st0.mem.length ≤ i → σ i = some x → ∃ k, k < n ∧ listed.getD k false = true ∧ (Ms k).length ≤ i ∧ i < (Ms (k + 1)).length
  keep : ∀ k, k < w0.heap.size → w.heap[k]? = w0.heap[k]?
  size : a.tmps.size = a0.tmps.size
  defers : a.defers = a0.defers
  envd : ∀ k o d, k < n → listed.getD k false = true → ops[k]? = some o → o.dst = some d → Rep (cut σ (Ms (k + 1)).length) ((E (k + 1)).getD d .junk) (a.tmps.getD d undef)
  envn : ∀ t, (∀ k o, k < n → ops[k]? = some o → o.dst ≠ some t) → a.tmps.getD t undef = a0.tmps.getD t undef
section
variable {C : Ctx} {callF : FuncId → List AV → Mem → Tree (AV × Mem)} {ops : List Oper} {n : Nat} {σ0 : Sig} {st0 : St} {a0 : Act} {w0 : World} {E : Nat → List AV} {Ms : Nat → Mem} {listed : Array Bool} {a : Act} {w : World} {σ : Sig}
theorem blkNew_refs {m : Nat} {b : Blk} (h : blkNew m b = true) : b.rw = true ∧ ∀ (j : Nat) a, b.d.get? j = some a → ∀ i ∈ a.refs, i < m := by
  unfold blkNew at h
  simp only [Bool.and_eq_true] at h
  refine ⟨h.1, fun j a hj i hi => ?_⟩
  have h2 := h.2
  cases hd : b.d with
  | cells l =>
    rw [hd] at h2 hj
    simp only [Data.refs, List.all_eq_true, decide_eq_true_eq] at h2
    refine h2 i ?_
    have ha : a ∈ l := List.mem_of_getElem? hj
    clear h2 hj hd
    induction l with
    | nil => cases ha
    | cons b l ih =>
      simp only [AV.refsL, List.mem_append]
      rcases List.mem_cons.1 ha with rfl | ha
      · exact .inl hi
      · exact .inr (ih ha)
  | ints k l =>
    rw [hd] at hj
    simp only [Data.get?, Option.map_eq_some_iff] at hj
    obtain ⟨m, _, rfl⟩ := hj
    simp [AV.refs] at hi
  | tab sz q f => rw [hd] at h2; cases h2
theorem newOk_blk {M : Mem} {m : Nat} {v : AV} (h : newOk M m v = true) {i : Nat} {b : Blk} (hi : m ≤ i) (hb : M.at i = some b) : blkNew M.length b = true := by
  unfold newOk at h
  simp only [Bool.and_eq_true, List.all_eq_true] at h
  have hlt := Mem.at_lt hb
  have hmem : (some b) ∈ M.drop m := by
    unfold Mem.at at hb
    cases hm : M[i]? with
    | none => rw [hm] at hb; cases hb
    | some o =>
      rw [hm] at hb
      simp only [Option.join_some] at hb
      subst hb
      exact List.mem_of_getElem? (i := i - m) (by rw [List.getElem?_drop, show m + (i - m) = i by omega]; exact hm)
  exact h.2 _ hmem
theorem newOk_val {M : Mem} {m : Nat} {v : AV} (h : newOk M m v = true) : ∀ i ∈ v.refs, i < M.length := by
  unfold newOk at h
  simp only [Bool.and_eq_true, List.all_eq_true, decide_eq_true_eq] at h
  exact h.1
theorem BlkOk.cut {P : Program} {x : Bl} {b : Blk} {m : Nat} {σ' : Sig} (h : BlkOk P σ w x b) (hr : ∀ (j : Nat) a, b.d.get? j = some a → ∀ i ∈ a.refs, i < m) (hs : ∀ i y, i < m → σ i = some y → σ' i = some y) : BlkOk P σ' w x b := by
  rcases h with h | ⟨h1, h2, h3⟩
  · exact .inl h
  · refine .inr ⟨h1, fun j a hj => ?_, h3⟩
    obtain ⟨v, h4, h5⟩ := h2 j a hj
    exact ⟨v, h4, h5.congr fun i hi y hy => hs i y (hr j a hj i hi) hy⟩
theorem bool_at {tmps : Array Value} {t : Tmp} {b : Bool} (h : tmps.getD t undef = .bool b) : tmps[t]? = some (.bool b) := by
  rw [Array.getD_eq_getD_getElem?] at h
  cases he : tmps[t]? with
  | none => rw [he] at h; simp [undef] at h
  | some v => rw [he] at h; simpa using h

theorem Inv.start (D : Dr C callF ops n st0 E Ms) (hs : StOk C σ0 st0 a0 w0) : Inv C ops n σ0 st0 a0 w0 E Ms (Array.replicate ops.length false) a0 w0 σ0 := by
  have hno : ∀ k, (Array.replicate ops.length false).getD k false = false := fun k => getD_replicate_false _ _
  have hm0 : st0.mem.length ≤ (Ms n).length := by have := D.mono (Nat.zero_le n) (Nat.le_refl n); rw [D.m0] at this; exact this
  have hat : ∀ {i b}, (Ml st0.mem.length n Ms (Array.replicate ops.length false)).at i = some b → st0.mem.at i = some b := fun {i b} h => by
    obtain ⟨hv, hb⟩ := Ml_at.1 h
    rcases hv with hv | ⟨k, _, hk, _⟩
    · rw [D.at_eq (Nat.zero_le n) (Nat.le_refl n) (by rw [D.m0]; exact hv), D.m0] at hb; exact hb
    · rw [hno k] at hk; cases hk
  refine ⟨⟨Ext.refl _, ⟨fun i hi => hs.rel.dom i (by simp [Ml] at hi; omega), fun i b hi => hs.rel.blk i b (hat hi), fun i j bi bj x y hi hj => hs.rel.sep i j bi bj x y (hat hi) (hat hj)⟩, Kept.refl _ _ _, fun _ _ => rfl, fun Q _ _ k _ ho => ?_, by simp [Ml]; omega⟩, fun i x hi hx => ?_, fun _ _ => rfl, rfl, rfl, fun k o d _ hk => ?_, fun _ _ => rfl⟩
  · obtain ⟨i, b, x, h1, h2⟩ := ho
    exact ⟨i, b, x, hat h1, h2⟩
  · rw [hs.rel.dom i hi] at hx; cases hx
  · rw [hno k] at hk; cases hk

theorem Inv.slot (D : Dr C callF ops n st0 E Ms) (hs : StOk C σ0 st0 a0 w0) (I : Inv C ops n σ0 st0 a0 w0 E Ms listed a w σ) {j : Nat} (hj : j ≤ n) (t : Tmp)
    (hsee : ∀ k o, k < n → ops[k]? = some o → o.dst = some t → k < j ∧ listed.getD k false = true) : Rep (cut σ (Ms j).length) ((E j).getD t .junk) (a.tmps.getD t undef) := by
  have hm0 : st0.mem.length ≤ (Ms j).length := by have := D.mono (Nat.zero_le j) hj; rw [D.m0] at this; exact this
  by_cases hd : ∃ k o, k < n ∧ ops[k]? = some o ∧ o.dst = some t
  · obtain ⟨k, o, hk, ho, ht⟩ := hd
    obtain ⟨hkj, hkl⟩ := hsee k o hk ho ht
    have h1 := I.envd k o t hk hkl ho ht
    have h2 := D.slot (t := t) (i := k + 1) j (by omega) hj fun k' o' hk1 hk2 ho' hd' => by
      have := ((D.dsts (j := k') (k := k) (by omega) ho' hk ho ht).2 (by omega)).1
      exact this hd'
    exact h2 _ _ (h1.mono (cut_mono (D.mono (by omega) hj) (Ext.refl _)))
  · have hno : ∀ k o, k < n → ops[k]? = some o → o.dst ≠ some t := fun k o hk ho ht => hd ⟨k, o, hk, ho, ht⟩
    have h2 := D.slot (t := t) (i := 0) j (Nat.zero_le _) hj fun k o _ hk ho => hno k o (by omega) ho
    rw [D.e0] at h2
    rw [I.envn t hno]
    have h3 := hs.env.getD t
    refine h2 _ _ (h3.congr fun i _ x hx => ?_)
    have hi : i < st0.mem.length := by
      rcases Nat.lt_or_ge i st0.mem.length with h | h
      · exact h
      · rw [hs.rel.dom i h] at hx; cases hx
    unfold cut
    rw [if_pos (by omega)]
    exact I.moved.ext i x hx

set_option maxHeartbeats 1000000 in
theorem Inv.step (hC : CallOk C callF) (D : Dr C callF ops n st0 E Ms) (hs : StOk C σ0 st0 a0 w0) (I : Inv C ops n σ0 st0 a0 w0 E Ms listed a w σ) {j : Nat} {o : Oper} (hj : j < n) (ho : ops[j]? = some o)
    (hun : listed.getD j false = false) (hjs : j < listed.size) (hdir : ∀ k ∈ directs o, listed.getD k false = true) (hpre : ∀ k ∈ (predsOf ops).getD j [], listed.getD k false = true) (Q : Exit → Act → World → Prop) :
    if Region.wanted o (yielded ops.toArray a.tmps) then o.wp C.P a w (fun a' w' => ∃ σ', Inv C ops n σ0 st0 a0 w0 E Ms (listed.setIfInBounds j true) a' w' σ') Q
    else ∃ σ', Inv C ops n σ0 st0 a0 w0 E Ms (listed.setIfInBounds j true) (a.put o.dst undef) w σ' := by
  have hS := D.step j o hj ho
  obtain ⟨env, run, hg, hc⟩ := evStep_cases hS.runs
  dsimp only at hg hc
  have hm0 : st0.mem.length ≤ (Ms j).length := by have := D.mono (Nat.zero_le j) (by omega); rw [D.m0] at this; exact this
  have hjn : (Ms j).length ≤ (Ms (j + 1)).length := D.mono (by omega) (by omega)
  have hjN : (Ms (j + 1)).length ≤ (Ms n).length := D.mono (by omega) (by omega)
  have hset : ∀ k, (listed.setIfInBounds j true).getD k false = true ↔ (k = j ∨ listed.getD k false = true) := fun k => by
    by_cases e : j = k
    · subst e
      simp [hjs]
    · rw [getD_set_ne false e]
      constructor
      · exact .inr
      · rintro (h | h)
        · omega
        · exact h
  -- what it looks at
  have hlook : ∀ t, sees ops o t = true → Rep (cut σ (Ms j).length) ((E j).getD t .junk) (a.tmps.getD t undef) := fun t ht => I.slot D hs (by omega) t fun k ok hk hok hd => by
    obtain ⟨h1, h2⟩ := D.dsts hj ho hk hok hd
    by_cases e : k = j
    · have := h1 e; rw [ht] at this; cases this
    · have h3 := (h2 e).2 ht
      exact ⟨D.lt hj ho k h3, hdir k h3⟩
  have hwant : Region.wanted o (yielded ops.toArray a.tmps) = run := by
    have hseeg : ∀ {g want}, guardOf ops o = some (some g, want) → sees ops o g = true := fun {g want} hg => by
        unfold guardOf at hg
        unfold sees Oper.looksAt
        cases hgd : o.guard with
        | none => rw [hgd] at hg; cases hg
        | some p =>
          obtain ⟨jj, wn⟩ := p
          rw [hgd] at hg
          simp only [Option.some.injEq, Prod.mk.injEq] at hg
          simp [hg.1]
    rcases hg with ⟨⟨hg, rfl⟩ | ⟨g, want, hg, hb, rfl⟩, _⟩ | ⟨g, want, c, b, hg, hb, _, rfl⟩
    · exact wanted_none hg
    · have h1 := hlook g (hseeg hg)
      rw [hb] at h1
      exact wanted_skip hg (rep_skip_eq h1)
    · have hsee : sees ops o g = true := by
        unfold guardOf at hg
        unfold sees Oper.looksAt
        cases hgd : o.guard with
        | none => rw [hgd] at hg; cases hg
        | some p =>
          obtain ⟨jj, wn⟩ := p
          rw [hgd] at hg
          simp only [Option.some.injEq, Prod.mk.injEq] at hg
          simp [hg.1]
      have h1 := hlook g hsee
      rw [hb] at h1
      simp only [Rep] at h1
      exact wanted_some hg (bool_at h1)
  -- what holds behind it, where memory is as it was in sight
  have fin : ∀ (v : AV) (val : Value) (w' : World) (σ' : Sig) (M' : Mem), E (j + 1) = putV env o.dst v → Ms (j + 1) = Ms j ++ M'.drop (Ms j).length → (Ms j).length ≤ M'.length → Rep σ' v val →
      Moved C.P (cut σ (Ms j).length) (visible st0.mem.length (spanAt Ms j) ((predsOf ops).getD j []) (Ms j)) w σ' M' w' →
      Inv C ops n σ0 st0 a0 w0 E Ms (listed.setIfInBounds j true) (a.put o.dst val) w' (fun i => if (Ms j).length ≤ i ∧ i < (Ms (j + 1)).length then σ' i else σ i) := by
    intro v val w' σ' M' hE hM hMl hv hm
    generalize hσ2 : (fun i => if (Ms j).length ≤ i ∧ i < (Ms (j + 1)).length then σ' i else σ i) = σ2
    have in_ : ∀ {i}, (Ms j).length ≤ i → i < (Ms (j + 1)).length → σ2 i = σ' i := fun h1 h2 => by subst hσ2; simp only; rw [if_pos ⟨h1, h2⟩]
    have out_ : ∀ {i}, ¬ ((Ms j).length ≤ i ∧ i < (Ms (j + 1)).length) → σ2 i = σ i := fun h => by subst hσ2; simp only; rw [if_neg h]
    have hML : M'.length = (Ms (j + 1)).length := by rw [hM]; simp; omega
    have hvl : (visible st0.mem.length (spanAt Ms j) ((predsOf ops).getD j []) (Ms j)).length = (Ms j).length := visible_len
    have hfree : ∀ i, (Ms j).length ≤ i → i < (Ms (j + 1)).length → σ i = none := fun i h1 h2 => by
      cases hx : σ i with
      | none => rfl
      | some x =>
        obtain ⟨k, hk, hkl, h3, h4⟩ := I.span i x (by omega) hx
        rcases Nat.lt_trichotomy k j with c | c | c
        · have := D.mono (i := k + 1) (j := j) (by omega) (by omega); omega
        · subst c; rw [hun] at hkl; cases hkl
        · have := D.mono (i := j + 1) (j := k) (by omega) (by omega); omega
    have hext : Ext σ σ2 := fun i x hx => by
      by_cases h : (Ms j).length ≤ i ∧ i < (Ms (j + 1)).length
      · rw [hfree i h.1 h.2] at hx; cases hx
      · rw [out_ h]; exact hx
    have hcut : ∀ {i y}, i < (Ms (j + 1)).length → σ' i = some y → σ2 i = some y := fun {i y} hi hy => by
      by_cases h : (Ms j).length ≤ i
      · rw [in_ h hi]; exact hy
      · rw [out_ (by omega)]
        have h1 := hm.agree i (by rw [hvl]; omega)
        rw [hy] at h1
        unfold cut at h1
        rw [if_pos (by omega)] at h1
        exact h1.symm
    have hwkeep : ∀ k, k < w.heap.size → w'.heap[k]? = w.heap[k]? := fun k hk => hm.kept.block k hk fun hf => by
      obtain ⟨i, b, x, h1, _, h3, _⟩ := hf
      obtain ⟨b0, _, rfl, _⟩ := visible_at h1
      cases h3
    have hw0 : w0.heap.size ≤ w.heap.size := I.moved.kept.size
    -- a block of its own
    have hown : ∀ {i b}, (Ms j).length ≤ i → i < (Ms (j + 1)).length → (Ms n).at i = some b → M'.at i = some b ∧ b.rw = true ∧ ∀ (q : Nat) a, b.d.get? q = some a → ∀ r ∈ a.refs, r < (Ms (j + 1)).length := fun {i b} h1 h2 hb => by
      rw [D.at_eq (i := j + 1) (by omega) (Nat.le_refl _) h2] at hb
      have hb' := hb
      rw [hM, Mem.at_append_right h1] at hb'
      have : M'.at i = some b := by
        unfold Mem.at at hb' ⊢
        rw [List.getElem?_drop] at hb'
        rwa [show (Ms j).length + (i - (Ms j).length) = i by omega] at hb'
      have hn := blkNew_refs (newOk_blk hS.new h1 hb)
      exact ⟨this, hn.1, hn.2⟩
    have hvis : ∀ {i}, isVis st0.mem.length n Ms (listed.setIfInBounds j true) i → isVis st0.mem.length n Ms listed i ∨ ((Ms j).length ≤ i ∧ i < (Ms (j + 1)).length) := fun {i} h => by
      rcases h with h | ⟨k, hk, hkl, h1, h2⟩
      · exact .inl (.inl h)
      · rcases (hset k).1 hkl with rfl | hkl
        · exact .inr ⟨h1, h2⟩
        · exact .inl (.inr ⟨k, hk, hkl, h1, h2⟩)
    have hnotboth : ∀ {i}, isVis st0.mem.length n Ms listed i → ¬ ((Ms j).length ≤ i ∧ i < (Ms (j + 1)).length) := fun {i} h hb => by
      rcases h with h | ⟨k, hk, hkl, h1, h2⟩
      · omega
      · rcases Nat.lt_trichotomy k j with c | c | c
        · have := D.mono (i := k + 1) (j := j) (by omega) (by omega); omega
        · subst c; rw [hun] at hkl; cases hkl
        · have := D.mono (i := j + 1) (j := k) (by omega) (by omega); omega
    have hfresh : ∀ {i b x}, (Ms j).length ≤ i → i < (Ms (j + 1)).length → (Ms n).at i = some b → b.virt = false → σ' i = some x → w.heap.size ≤ x.blk := fun {i b x} h1 h2 hb hvb hx => by
      obtain ⟨hb1, hb2, _⟩ := hown h1 h2 hb
      rcases Nat.lt_or_ge x.blk w.heap.size with h | h
      · obtain ⟨i', b', x', h3, _, h4, _⟩ := hm.occ (fun b => b.rw = true) (fun _ h => h) (fun _ _ h1 _ h2 => h1 h2) x.blk h ⟨i, b, x, hb1, hx, hb2, hvb, rfl⟩
        obtain ⟨b0, _, rfl, _⟩ := visible_at h3
        cases h4
      · exact h
    have hdead : ∀ {b : Blk} {x : Bl}, BlkOk C.P σ w x b → b.virt = false → w.heap.size ≤ x.blk → b.rw = false ∧ b.d.void := fun {b x} hok hvb hx => by
      have hno : ¬ (b.rw = true ∨ ¬ b.d.void) := fun h => by have := hok.lt hvb h; omega
      refine ⟨?_, ?_⟩
      · cases hq : b.rw with
        | false => rfl
        | true => exact absurd (.inl hq) hno
      · by_cases hq : b.d.void
        · exact hq
        · exact absurd (.inr hq) hno
    have hrel : Rel C.P σ2 (Ml st0.mem.length n Ms (listed.setIfInBounds j true)) w' := by
      refine ⟨fun i hi => ?_, fun i b hi => ?_, fun i i' bi bj x y hi hi' hne hx hy hrw hvi hvj hxy => ?_⟩
      · simp only [Ml, List.length_map, List.length_range] at hi
        rw [out_ (by omega)]
        exact I.moved.rel.dom i (by simpa [Ml] using hi)
      · obtain ⟨hv1, hb⟩ := Ml_at.1 hi
        rcases hvis hv1 with hv1 | ⟨h1, h2⟩
        · obtain ⟨x, hx, hok⟩ := I.moved.rel.blk i b (Ml_at.2 ⟨hv1, hb⟩)
          refine ⟨x, hext i x hx, ?_⟩
          by_cases hvb : b.virt = true
          · rcases hok with hok | hok
            · exact .inl hok
            · rw [hvb] at hok; cases hok.1
          · have hvb : b.virt = false := by simpa using hvb
            rcases Nat.lt_or_ge x.blk w.heap.size with h | h
            · exact (hok.congr fun _ => hwkeep _ h).mono hext
            · obtain ⟨q1, q2⟩ := hdead hok hvb h
              exact .inr ⟨hvb, Covers.empty q2, fun hr => by rw [q1] at hr; cases hr⟩
        · obtain ⟨hb1, _, hb3⟩ := hown h1 h2 hb
          obtain ⟨x, hx, hok⟩ := hm.rel.blk i b hb1
          exact ⟨x, by rw [in_ h1 h2]; exact hx, hok.cut hb3 fun r y hr hy => hcut hr hy⟩
      · obtain ⟨v1, b1⟩ := Ml_at.1 hi
        obtain ⟨v2, b2⟩ := Ml_at.1 hi'
        rcases hvis v1 with v1 | ⟨p1, p2⟩ <;> rcases hvis v2 with v2 | ⟨q1, q2⟩
        · rw [out_ (hnotboth v1)] at hx
          rw [out_ (hnotboth v2)] at hy
          exact I.moved.rel.sep i i' bi bj x y (Ml_at.2 ⟨v1, b1⟩) (Ml_at.2 ⟨v2, b2⟩) hne hx hy hrw hvi hvj hxy
        · rw [out_ (hnotboth v1)] at hx
          rw [in_ q1 q2] at hy
          have h1 := hfresh q1 q2 b2 hvj hy
          obtain ⟨z, hz, hok⟩ := I.moved.rel.blk i bi (Ml_at.2 ⟨v1, b1⟩)
          rw [hx] at hz; cases hz
          have := hok.lt hvi (.inl hrw)
          omega
        · rw [in_ p1 p2] at hx
          rw [out_ (hnotboth v2)] at hy
          have h1 := hfresh p1 p2 b1 hvi hx
          obtain ⟨z, hz, hok⟩ := I.moved.rel.blk i' bj (Ml_at.2 ⟨v2, b2⟩)
          rw [hy] at hz; cases hz
          exact hdead hok hvj (by omega)
        · rw [in_ p1 p2] at hx
          rw [in_ q1 q2] at hy
          exact hm.rel.sep i i' bi bj x y (hown p1 p2 b1).1 (hown q1 q2 b2).1 hne hx hy hrw hvi hvj hxy
    refine ⟨⟨I.moved.ext.trans hext, hrel, ⟨hm.kept.os.trans I.moved.kept.os, hm.kept.tape.trans I.moved.kept.tape, hm.kept.output.trans I.moved.kept.output, Nat.le_trans hw0 hm.kept.size, fun k hk _ => (hwkeep k (by omega)).trans (I.keep k hk)⟩, fun i hi => ?_, fun Q hQ hQ' k hk hocc => ?_, by simp [Ml]; omega⟩,
      fun i x hi hx => ?_, fun k hk => (hwkeep k (by omega)).trans (I.keep k hk), by rw [put_size]; exact I.size, by rw [put_defers]; exact I.defers, fun k ok d hk hkl hok hd => ?_, fun t ht => ?_⟩
    · rw [out_ (by omega)]; exact I.moved.agree i hi
    · obtain ⟨i, b, x, h1, h2, h3, h4, h5⟩ := hocc
      obtain ⟨v1, b1⟩ := Ml_at.1 h1
      rcases hvis v1 with v1 | ⟨p1, p2⟩
      · rw [out_ (hnotboth v1)] at h2
        exact I.moved.occ Q hQ hQ' k hk ⟨i, b, x, Ml_at.2 ⟨v1, b1⟩, h2, h3, h4, h5⟩
      · rw [in_ p1 p2] at h2
        have := hfresh p1 p2 b1 h4 h2
        omega
    · by_cases h : (Ms j).length ≤ i ∧ i < (Ms (j + 1)).length
      · exact ⟨j, hj, (hset j).2 (.inl rfl), h.1, h.2⟩
      · rw [out_ h] at hx
        obtain ⟨k, hk, hkl, h1, h2⟩ := I.span i x hi hx
        exact ⟨k, hk, (hset k).2 (.inr hkl), h1, h2⟩
    · rcases (hset k).1 hkl with hkj | hkl2
      · subst hkj
        rw [ho] at hok; cases hok
        rw [hE, hd]
        by_cases hlt : d < a.tmps.size
        · rw [put_self hlt]
          have hval := hS.new
          unfold dstAt at hval
          rw [hd] at hval
          dsimp only at hval
          rw [hE, hd] at hval
          rcases putV_self (env := env) (d := d) (v := v) with h | h
          · rw [h] at hval ⊢
            have hrefs := newOk_val hval
            exact hv.congr fun i hi x hx => by unfold cut; rw [if_pos (hrefs i hi)]; exact hcut (hrefs i hi) hx
          · rw [h]; simp only [Rep]
        · have hl : ¬ d < env.length := fun hd' => hlt (Nat.lt_of_lt_of_le hd' (by
            have h1 := D.elen k (by omega)
            have h2 := hg.len
            have h3 := hs.env.1
            have h4 := I.size
            omega))
          rw [show (putV env (some d) v).getD d .junk = .junk by
            simp only [putV]; rw [List.getD_eq_getElem?_getD, List.getElem?_eq_none (by simpa using hl)]; rfl]
          simp only [Rep]
      · have hkj : k ≠ j := fun e => by subst e; rw [hun] at hkl2; cases hkl2
        have hne : o.dst ≠ some d := ((D.dsts hj ho hk hok hd).2 hkj).1
        rw [put_ne hne]
        exact (I.envd k ok d hk hkl2 hok hd).mono (cut_mono (Nat.le_refl _) hext)
    · rw [put_ne (ht j o hj ho)]
      exact I.envn t ht
  have hvrel : Rel C.P (cut σ (Ms j).length) (visible st0.mem.length (spanAt Ms j) ((predsOf ops).getD j []) (Ms j)) w := by
    refine ⟨fun i hi => ?_, fun i b' hi => ?_, fun i i' bi bj x y hi hi' hne hx hy hrw => ?_⟩
    · rw [visible_len] at hi
      unfold cut
      rw [if_neg (by omega)]
    · obtain ⟨b, hb, rfl, hv⟩ := visible_at hi
      have hil := Mem.at_lt (M := Ms j) hb
      have hbn : (Ms n).at i = some b := by rw [D.at_eq (i := j) (by omega) (Nat.le_refl _) hil]; exact hb
      have hvis : isVis st0.mem.length n Ms listed i := by
        rcases hv with hv | ⟨k, hk, hkj, h1, h3⟩
        · exact .inl hv
        · exact .inr ⟨k, by omega, hpre k hk, h1, h3⟩
      obtain ⟨x, hx, hok⟩ := I.moved.rel.blk i b (Ml_at.2 ⟨hvis, hbn⟩)
      refine ⟨x, by unfold cut; rw [if_pos hil]; exact hx, ?_⟩
      have hok2 : BlkOk C.P (cut σ (Ms j).length) w x b := by
        rcases hv with hv | ⟨k, hk, hkj, h1, h3⟩
        · -- as it was ahead of the region
          have hb0 : st0.mem.at i = some b := by rw [D.at_eq (i := 0) (by omega) (by omega) (by rw [D.m0]; exact hv), D.m0] at hb; exact hb
          obtain ⟨x0, hx0, hok0⟩ := hs.rel.blk i b hb0
          have := I.moved.ext i x0 hx0
          rw [hx] at this; cases this
          rcases hok0 with hok0 | ⟨g1, g2, g3⟩
          · exact .inl hok0
          · rcases hok with hok | ⟨k1, k2, k3⟩
            · rw [g1] at hok; cases hok.1
            · refine .inr ⟨g1, fun q a' hq => ?_, k3⟩
              obtain ⟨u, hu, hru⟩ := g2 q a' hq
              have hblk := World.block_lt_of_cell? w0 _ hu
              refine ⟨u, ?_, hru.congr fun r _ y hy => ?_⟩
              · rw [World.cell?_of_block (w := w0) (I.keep _ hblk)]; exact hu
              · have hr' : r < st0.mem.length := by
                  rcases Nat.lt_or_ge r st0.mem.length with h | h
                  · exact h
                  · rw [hs.rel.dom r h] at hy; cases hy
                unfold cut
                rw [if_pos (by omega)]
                exact I.moved.ext r y hy
        · have hkn := D.mono (i := k + 1) (j := j) (by omega) (by omega)
          have hbk : (Ms (k + 1)).at i = some b := by rw [← D.at_eq (i := k + 1) (j := j) (by omega) (by omega) h3]; exact hb
          obtain ⟨ok, hok'⟩ := D.get (j := k) (by omega)
          have hn := blkNew_refs (newOk_blk (D.step k ok (by omega) hok').new h1 hbk)
          exact hok.cut hn.2 fun r y hr hy => by unfold cut; rw [if_pos (by omega)]; exact hy
      rcases hok2 with h | ⟨g1, g2, g3⟩
      · exact .inl h
      · exact .inr ⟨g1, g2, fun hr' => by cases hr'⟩
    · obtain ⟨b, _, rfl, _⟩ := visible_at hi
      cases hrw
  rw [hwant]
  rcases hc with ⟨rfl, v, M', hr, h2⟩ | ⟨rfl, h2⟩
  · -- it runs
    rw [if_pos rfl]
    have hE : E (j + 1) = putV env o.dst v := congrArg St.env h2
    have hM : Ms (j + 1) = Ms j ++ M'.drop (Ms j).length := congrArg St.mem h2
    have hgl : GlOk C (cut σ (Ms j).length) := fun g i hgi => by
      obtain ⟨h1, x, h3, h4⟩ := hs.gl g i hgi
      refine ⟨h1, x, ?_, h4⟩
      unfold cut
      have := hs.ng
      rw [if_pos (by omega)]
      exact I.moved.ext i x h3
    refine (evOp_ok hC (ev := a.eval) (fun x hx => ?_) hvrel hgl (by rw [visible_len]; have := hs.ng; omega) hr).wp fun val σ' w' hv hm => ⟨_, fin v val w' σ' M' hE hM (by have := hm.len; rwa [visible_len] at this) hv hm⟩
    -- its operands
    cases x with
    | tmp t =>
      have hsee : sees ops o t = true := by
        unfold sees Oper.looksAt
        simp only [List.contains_eq_mem, decide_eq_true_eq, List.mem_append]
        left
        exact List.mem_filterMap.2 ⟨.tmp t, by simpa using hx, rfl⟩
      exact hg.imp t _ _ (hlook t hsee)
    | const v => exact Rep.ofVal v
    | func f => simp only [Rig.opnd, Act.eval, Rep]; exact ⟨#[], #[], rfl, RepL.nil, RepL.nil⟩
    | global g =>
      simp only [Rig.opnd, Act.eval, glob]
      split
      · rename_i i hi
        obtain ⟨_, x, h1, h3, h4⟩ := hgl g i hi
        simp only [Rep, pos0]
        exact ⟨x, h1, by rw [at0 x h4, h3]⟩
      · simp only [Rep]
  · -- it is passed over
    rw [if_neg (by simp)]
    have hE : E (j + 1) = putV env o.dst (.tup []) := congrArg St.env h2
    have hM : Ms (j + 1) = Ms j := congrArg St.mem h2
    exact ⟨_, fin (.tup []) undef w _ _ hE (by rw [hM, List.drop_eq_nil_of_le (by rw [visible_len]; exact Nat.le_refl _), List.append_nil]) (by rw [visible_len]; exact Nat.le_refl _) rep_skip (Moved.refl hvrel)⟩
end
end Go.Proofs.Ytonhkbgielilbaa.Rig

/- A reckoner over Go's operations: regions. -/
namespace Go.Proofs.Ytonhkbgielilbaa.Rig
open Go
section
variable {C : Ctx} {callF : FuncId → List AV → Mem → Tree (AV × Mem)} {ops : List Oper} {n : Nat} {σ0 : Sig} {st0 : St} {a0 : Act} {w0 : World} {E : Nat → List AV} {Ms : Nat → Mem} {listed : Array Bool} {a : Act} {w : World} {σ : Sig}
def cnt (listed : Array Bool) : Nat := listed.toList.count false
theorem cnt_set {i : Nat} (hi : i < listed.size) (h : listed.getD i false = false) : cnt listed = cnt (listed.setIfInBounds i true) + 1 := by
  have hg : listed.toList[i]'(by simpa using hi) = false := by
    simp [hi] at h
    simpa using h
  have hpos : 0 < listed.toList.count false := List.count_pos_iff.2 (by rw [← hg]; exact List.getElem_mem _)
  unfold cnt
  rw [Array.toList_setIfInBounds, List.count_set (by simpa using hi), hg, if_pos (show (false == false) = true from rfl), if_neg (show ¬ (true == false) = true by decide)]
  omega
theorem between (L : Nat → Nat) : ∀ (n i : Nat), L 0 ≤ i → i < L n → ∃ k, k < n ∧ L k ≤ i ∧ i < L (k + 1)
  | 0, i, h0, h1 => by omega
  | n + 1, i, h0, h1 => by
    by_cases h : i < L n
    · obtain ⟨k, hk, h2⟩ := between L n i h0 h; exact ⟨k, by omega, h2⟩
    · exact ⟨n, by omega, by omega, h1⟩
theorem Ml_all (D : Dr C callF ops n st0 E Ms) (hall : ∀ k, k < n → listed.getD k false = true) : Ml st0.mem.length n Ms listed = Ms n := by
  apply List.ext_getElem?
  intro i
  by_cases hi : i < (Ms n).length
  · have hv : isVis st0.mem.length n Ms listed i := by
      by_cases h0 : i < st0.mem.length
      · exact .inl h0
      · obtain ⟨k, hk, h1, h2⟩ := between (fun k => (Ms k).length) n i (by simp only [D.m0]; omega) hi
        exact .inr ⟨k, hk, hall k hk, h1, h2⟩
    unfold Ml
    rw [List.getElem?_map, List.getElem?_eq_getElem (by simpa using hi), List.getElem?_eq_getElem hi]
    simp only [List.getElem_range, Option.map_some, if_pos hv, Mem.at, List.getElem?_eq_getElem hi, Option.join_some]
  · rw [List.getElem?_eq_none (by simp [Ml]; omega), List.getElem?_eq_none (by omega)]
theorem Inv.done (D : Dr C callF ops n st0 E Ms) (hs : StOk C σ0 st0 a0 w0) (I : Inv C ops n σ0 st0 a0 w0 E Ms listed a w σ) (hall : ∀ k, k < n → listed.getD k false = true) : Went C σ0 st0 a0 w0 σ ⟨E n, Ms n⟩ a w := by
  have hm := I.moved
  rw [Ml_all D hall] at hm
  have hlen : (E n).length = st0.env.length := D.elen n (Nat.le_refl _)
  refine ⟨⟨⟨by rw [hlen, I.size]; exact hs.env.1, fun t v hv => ?_⟩, hm.rel, hs.gl.mono hm.ext, Nat.le_trans hs.ng hm.len⟩, hm, I.defers, hlen⟩
  have h1 := I.slot D hs (Nat.le_refl n) t fun k o hk _ _ => ⟨hk, hall k hk⟩
  rw [List.getD_eq_getElem?_getD, hv] at h1
  exact h1.mono (cut_ext _ _)

theorem listed_eq {len n : Nat} (hn : n ≤ len) (hs : listed.size = len) (h1 : ∀ k, k < n → listed.getD k false = true) (h2 : ∀ k, n ≤ k → k < len → listed.getD k true = false) : listed = listedTo len n := by
  have key : ∀ m, m ≤ len → (listedTo len m).size = len ∧ ∀ k, (listedTo len m)[k]? = if k < m then some true else if k < len then some false else none := by
    intro m
    induction m with
    | zero => intro _; exact ⟨by simp [listedTo], fun k => by simp [listedTo, Array.getElem?_replicate]⟩
    | succ m ih =>
      intro hm
      obtain ⟨i1, i2⟩ := ih (by omega)
      have : listedTo len (m + 1) = (listedTo len m).setIfInBounds m true := by
        unfold listedTo; rw [List.range_succ, List.foldl_append]; rfl
      rw [this]
      refine ⟨by simpa using i1, fun k => ?_⟩
      by_cases e : m = k
      · subst e
        rw [Array.getElem?_setIfInBounds_self_of_lt (by omega), if_pos (by omega)]
      · rw [Array.getElem?_setIfInBounds_ne e, i2 k]
        by_cases c : k < m
        · rw [if_pos c, if_pos (by omega)]
        · rw [if_neg c, if_neg (show ¬ k < m + 1 by omega)]
  apply Array.ext_getElem?
  intro k
  rw [(key n hn).2 k]
  by_cases c : k < n
  · rw [if_pos c]
    have := h1 k c
    have hk : k < listed.size := by omega
    simp [hk] at this
    rw [Array.getElem?_eq_getElem hk, this]
  · rw [if_neg c]
    by_cases c2 : k < len
    · rw [if_pos c2]
      have := h2 k (by omega) c2
      have hk : k < listed.size := by omega
      simp [hk] at this
      rw [Array.getElem?_eq_getElem hk, this]
    · rw [if_neg c2, Array.getElem?_eq_none (by omega)]
/-! ### quiet operations -/
mutual
theorem Rep.det {σ : Sig} : ∀ {v : AV} {x y : Value}, v.det = true → Rep σ v x → Rep σ v y → x = y
  | .junk, _, _, h, _, _ => by simp only [AV.det] at h; cases h
  | .bool _ _, _, _, _, h1, h2 => by simp only [Rep] at h1 h2; rw [h1, h2]
  | .int _ _ _, _, _, _, h1, h2 => by simp only [Rep] at h1 h2; rw [h1, h2]
  | .nilp, _, _, _, h1, h2 => by simp only [Rep] at h1 h2; rw [h1, h2]
  | .nilfn, _, _, _, h1, h2 => by simp only [Rep] at h1 h2; rw [h1, h2]
  | .ptr r, _, _, _, h1, h2 => by
    simp only [Rep] at h1 h2
    obtain ⟨x, e1, rfl⟩ := h1
    obtain ⟨y, e2, rfl⟩ := h2
    rw [e1] at e2; cases e2; rfl
  | .sl _ _ _ _ _, _, _, h, _, _ => by simp only [AV.det] at h; cases h
  | .fn f a b, _, _, h, h1, h2 => by
    simp only [AV.det, Bool.and_eq_true] at h
    simp only [Rep] at h1 h2
    obtain ⟨x, y, rfl, g1, g2⟩ := h1
    obtain ⟨x', y', rfl, g3, g4⟩ := h2
    rw [Array.toList_inj.1 (RepL.det h.1 g1 g3), Array.toList_inj.1 (RepL.det h.2 g2 g4)]
  | .agg cs, _, _, h, h1, h2 => by
    simp only [AV.det] at h
    simp only [Rep] at h1 h2
    obtain ⟨x, rfl, g1⟩ := h1
    obtain ⟨x', rfl, g3⟩ := h2
    rw [Array.toList_inj.1 (RepL.det h g1 g3)]
  | .tup cs, _, _, h, h1, h2 => by
    simp only [AV.det] at h
    simp only [Rep] at h1 h2
    obtain ⟨x, rfl, g1⟩ := h1
    obtain ⟨x', rfl, g3⟩ := h2
    rw [Array.toList_inj.1 (RepL.det h g1 g3)]
theorem RepL.det {σ : Sig} : ∀ {l : List AV} {xs ys : List Value}, AV.detL l = true → RepL σ l xs → RepL σ l ys → xs = ys
  | [], _, _, _, h1, h2 => by simp only [RepL] at h1 h2; rw [h1, h2]
  | a :: l, _, _, h, h1, h2 => by
    simp only [AV.detL, Bool.and_eq_true] at h
    simp only [RepL] at h1 h2
    obtain ⟨v, r, rfl, g1, g2⟩ := h1
    obtain ⟨v', r', rfl, g3, g4⟩ := h2
    rw [Rep.det h.1 g1 g3, RepL.det h.2 g2 g4]
end
/-- What it comes to, in whatever world. -/
def Comes2 (P : Program) (σ : Sig) (s : Sem Next) (v : AV) (d : Bool) : Prop :=
  (∀ w, ∃ val, Rep σ v val ∧ s.run P w = .ok (.value val) w) ∧ (d = true → ∃ val, Rep σ v val ∧ ∀ w, s.run P w = .ok (.value val) w)
theorem Comes2.ofPure {P : Program} {σ : Sig} {M : Mem} {s : Sem Value} {t : Tree AV} {r : AV × Mem} (h : (t.bind fun v => .ret (v, M)).runs r) (hs : ∀ w v, t.runs v → Yld P σ w s v) : r.2 = M ∧ Comes2 P σ (do let x ← s; pure (.value x)) r.1 false := by
  obtain ⟨v, h1, h2⟩ := Tree.runs_bind h
  simp only [Tree.runs] at h2
  subst h2
  refine ⟨rfl, fun w => ?_, fun h => (by cases h)⟩
  obtain ⟨val, g1, g2⟩ := hs w v h1
  exact ⟨val, g2, by simp [g1]⟩
theorem Comes2.direct {P : Program} {σ : Sig} {s : Sem Next} {v : AV} {val : Value} (hv : Rep σ v val) (h : ∀ w, s.run P w = .ok (.value val) w) : Comes2 P σ s v true :=
  ⟨fun w => ⟨val, hv, h w⟩, fun _ => ⟨val, hv, h⟩⟩
theorem quiet_ok {C : Ctx} {callF : FuncId → List AV → Mem → Tree (AV × Mem)} {σ : Sig} {M : Mem} {ρ : Operand → AV} {ev : Operand → Value} {o : Oper} {r : AV × Mem} (hq : quietK o.op = true) (hρ : ∀ x ∈ o.op.operands, Rep σ (ρ x) (ev x))
    (h : (evOp C callF ρ o.op M).runs r) : r.2 = M ∧ Comes2 C.P σ (execOp ev o) r.1 (directK o.op) := by
  unfold execOp
  generalize o.op = op at *
  generalize o.type = ty
  unfold evOp at h
  dsimp only at h ⊢
  cases op with
  | move x =>
    simp only [Tree.runs] at h; subst h
    exact ⟨rfl, .direct (hρ x (by simp [Op.operands])) fun w => rfl⟩
  | assign x =>
    simp only [Tree.runs] at h; subst h
    exact ⟨rfl, .direct (hρ x (by simp [Op.operands])) fun w => rfl⟩
  | pick c a b =>
    try dsimp only at h
    try dsimp only
    have h1 := hρ c (by simp [Op.operands])
    split at h
    · rename_i k g hc
      rw [hc] at h1
      simp only [Rep] at h1
      rcases Tree.runs_ifB h with ⟨hgt, h2⟩ | ⟨hgt, h2⟩
      · simp only [Tree.runs] at h2; subst h2; subst hgt
        exact ⟨rfl, .direct (hρ a (by simp [Op.operands])) fun w => by simp [h1, asBool]⟩
      · simp only [Tree.runs] at h2; subst h2; subst hgt
        exact ⟨rfl, .direct (hρ b (by simp [Op.operands])) fun w => by simp [h1, asBool]⟩
    · exact h.elim
  | build t ps =>
    have hp : PartsOk σ (ps.toList.map fun p => (p.1, ρ p.2)) (ps.toList.map fun p => (p.1, ev p.2)) := PartsOk.map fun p hp => hρ p.2 (by simp only [Op.operands]; simp only [List.mem_toArray, List.mem_map]; exact ⟨p, hp, rfl⟩)
    have he : (ps.map fun (i, x) => (i, ev x)) = (ps.toList.map fun p => (p.1, ev p.2)).toArray := by apply Array.ext'; simp
    try dsimp only at h
    try dsimp only
    rw [he]
    exact Comes2.ofPure h fun w v hv => buildAV_ok hv hp
  | nilCheck x =>
    have hx := hρ x (by simp [Op.operands])
    try dsimp only at h
    try dsimp only
    split at h
    · rename_i q hq
      simp only [Tree.runs] at h; subst h
      rw [hq] at hx
      obtain ⟨y, h1, h2⟩ : ∃ y, σ q.id = some y ∧ ev x = .pointer (some (y.at q.pos)) := by simpa only [Rep] using hx
      exact ⟨rfl, .direct (val := .pointer (some (y.at q.pos))) (by simp only [Rep]; exact ⟨y, h1, rfl⟩) fun w => by rw [h2]; rfl⟩
    · rename_i g a b hq
      simp only [Tree.runs] at h; subst h
      rw [hq] at hx
      obtain ⟨y, z, h1, h2, h3⟩ : ∃ y z, ev x = .func (.func g) y z ∧ RepL σ a y.toList ∧ RepL σ b z.toList := by simpa only [Rep] using hx
      exact ⟨rfl, .direct (val := .func (.func g) y z) (by simp only [Rep]; exact ⟨y, z, rfl, h2, h3⟩) fun w => by rw [h1]; rfl⟩
    · exact h.elim
  | binOp op t x y yt => exact Comes2.ofPure h fun w v hv => binAV_ok x y hv (hρ x (by simp [Op.operands])) (hρ y (by simp [Op.operands]))
  | unOp op t x => exact Comes2.ofPure h fun w v hv => unAV_ok hv (hρ x (by simp [Op.operands]))
  | convert s d x =>
    dsimp only at h
    split at h
    · rename_i u hu
      exact Comes2.ofPure h fun w v hv => convAV_ok (by rw [hu]; rfl) hv (hρ x (by simp [Op.operands]))
    · exact h.elim
  | slice t x lo hi mx =>
    have h1 := opt_rep (σ := σ) (ρ := ρ) (ev := ev) (o := lo) fun y hy => hρ y (by subst hy; simp [Op.operands])
    have h2 := opt_rep (σ := σ) (ρ := ρ) (ev := ev) (o := hi) fun y hy => hρ y (by subst hy; simp [Op.operands])
    have h3 := opt_rep (σ := σ) (ρ := ρ) (ev := ev) (o := mx) fun y hy => hρ y (by subst hy; simp [Op.operands])
    obtain ⟨v, g1, g2⟩ := Tree.runs_bind h
    simp only [Tree.runs] at g2
    subst g2
    obtain ⟨val, h4, h5⟩ := sliceAV_all g1 (hρ x (by simp [Op.operands])) h1.1 h1.2 h2.1 h2.2 h3.1 h3.2
    exact ⟨rfl, .direct h5 fun w => by simp [h4]⟩
  | fieldAddr s x f => exact Comes2.ofPure h fun w v hv => fieldAddrAV_ok hv (hρ x (by simp [Op.operands]))
  | field s x f => exact Comes2.ofPure h fun w v hv => fieldAV_ok hv (hρ x (by simp [Op.operands]))
  | indexAddr t x i => exact Comes2.ofPure h fun w v hv => indexAddrAV_ok hv (hρ x (by simp [Op.operands])) (hρ i (by simp [Op.operands]))
  | index t x i => exact Comes2.ofPure h fun w v hv => indexAV_ok hv (hρ x (by simp [Op.operands])) (hρ i (by simp [Op.operands]))
  | extract x i =>
    have hx := hρ x (by simp [Op.operands])
    try dsimp only at h
    try dsimp only
    split at h
    · rename_i vs hvs
      rw [hvs] at hx
      simp only [Rep] at hx
      obtain ⟨X, h1, h2⟩ := hx
      obtain ⟨v, g1, g2⟩ := Tree.runs_bind h
      simp only [Tree.runs] at g2
      subst g2
      obtain ⟨u, h3, h4⟩ := h2.get (Tree.runs_ofOpt g1)
      have h3' : X[i]? = some u := by simpa using h3
      exact ⟨rfl, .direct h4 fun w => by rw [h1]; simp [Instr.extract, h3']⟩
    · exact h.elim
  | _ => cases hq
theorem sees_guard {ops : List Oper} {o : Oper} {g : Nat} {want : Bool} (hg : guardOf ops o = some (some g, want)) : sees ops o g = true := by
  unfold guardOf at hg
  unfold sees Oper.looksAt
  cases hgd : o.guard with
  | none => rw [hgd] at hg; cases hg
  | some p =>
    obtain ⟨jj, wn⟩ := p
    rw [hgd] at hg
    simp only [Option.some.injEq, Prod.mk.injEq] at hg
    simp [hg.1]
theorem sees_tmp {ops : List Oper} {o : Oper} {t : Tmp} (h : Operand.tmp t ∈ o.op.operands) : sees ops o t = true := by
  unfold sees Oper.looksAt
  simp only [List.contains_eq_mem, decide_eq_true_eq, List.mem_append]
  left
  exact List.mem_filterMap.2 ⟨.tmp t, by simpa using h, rfl⟩
theorem GEnv.wanted {ops : List Oper} {o : Oper} {env0 env : List AV} {run : Bool} {σ : Sig} {a : Act} (hg : GEnv ops o env0 env run) (hlook : ∀ t, sees ops o t = true → Rep σ (env0.getD t .junk) (a.tmps.getD t undef)) : Region.wanted o (yielded ops.toArray a.tmps) = run := by
  rcases hg with ⟨⟨hg, rfl⟩ | ⟨g, want, hg, hb, rfl⟩, _⟩ | ⟨g, want, c, b, hg, hb, _, rfl⟩
  · exact wanted_none hg
  · have h1 := hlook g (sees_guard hg)
    rw [hb] at h1
    exact wanted_skip hg (rep_skip_eq h1)
  · have h1 := hlook g (sees_guard hg)
    rw [hb] at h1
    simp only [Rep] at h1
    exact wanted_some hg (bool_at h1)
theorem GEnv.oprs {C : Ctx} {ops : List Oper} {o : Oper} {env0 env : List AV} {run : Bool} {σ : Sig} {a : Act} (hg : GEnv ops o env0 env run) (hgl : GlOk C σ) (hlook : ∀ t, sees ops o t = true → Rep σ (env0.getD t .junk) (a.tmps.getD t undef)) :
    ∀ x ∈ o.op.operands, Rep σ (opnd C env x) (a.eval x) := fun x hx => by
  cases x with
  | tmp t => exact hg.imp t _ _ (hlook t (sees_tmp hx))
  | const v => exact Rep.ofVal v
  | func f => simp only [Rig.opnd, Act.eval, Rep]; exact ⟨#[], #[], rfl, RepL.nil, RepL.nil⟩
  | global g =>
    simp only [Rig.opnd, Act.eval, glob]
    split
    · rename_i i hi
      obtain ⟨_, x, h1, h3, h4⟩ := hgl g i hi
      simp only [Rep, pos0]
      exact ⟨x, h1, by rw [at0 x h4, h3]⟩
    · simp only [Rep]
/-- A quiet operation, once its slots stand, comes to the same whenever it is done. -/
theorem quiet_yields {C : Ctx} {callF : FuncId → List AV → Mem → Tree (AV × Mem)} {ops : List Oper} {o : Oper} {env0 env : List AV} {run : Bool} {σ : Sig} {a : Act} {M M' : Mem} {v : AV} (hq : quietK o.op = true) (hg : GEnv ops o env0 env run) (hgl : GlOk C σ)
    (hlook : ∀ t, sees ops o t = true → Rep σ (env0.getD t .junk) (a.tmps.getD t undef)) (hc : run = true → (evOp C callF (opnd C env) o.op M).runs (v, M')) (hd : run = true → directK o.op = true ∨ ∃ v', Imp v v' ∧ v'.det = true) :
    ∃ val, Yields C.P ops.toArray o val a := by
  have hw := hg.wanted hlook
  cases run with
  | false => exact ⟨undef, .inr ⟨hw, rfl⟩⟩
  | true =>
    obtain ⟨_, h1, h2⟩ := quiet_ok hq (hg.oprs hgl hlook) (hc rfl)
    rcases hd rfl with hd | ⟨v', h3, h4⟩
    · obtain ⟨val, _, h5⟩ := h2 hd
      exact ⟨val, .inl ⟨hw, h5⟩⟩
    · obtain ⟨val, g1, _⟩ := h1 default
      refine ⟨val, .inl ⟨hw, fun w => ?_⟩⟩
      obtain ⟨val', g2, g3⟩ := h1 w
      rw [Rep.det h4 (h3 _ _ g1) (h3 _ _ g2)]
      exact g3
theorem of_yields {P : Program} {ops : Array Oper} {o : Oper} {a : Act} {w : World} {v : Value} {K : Act → World → Prop} {Q : Exit → Act → World → Prop} (hy : Yields P ops o v a)
    (h : if Region.wanted o (yielded ops a.tmps) then o.wp P a w K Q else K (a.put o.dst undef) w) : K (a.put o.dst v) w := by
  rcases hy with ⟨hw, hv⟩ | ⟨hw, rfl⟩
  · rw [if_pos hw] at h
    unfold Oper.wp at h
    rw [hv w] at h
    exact h
  · rw [hw, if_neg (by simp)] at h
    exact h
theorem stays_or {o : Oper} {env : List AV} (h : stays o env = true) : directK o.op = true ∨ ∃ d, o.dst = some d ∧ (env.getD d .junk).det = true := by
  unfold stays at h
  simp only [Bool.or_eq_true] at h
  rcases h with h | h
  · exact .inl h
  · right
    split at h
    · rename_i d hd; exact ⟨d, hd, h⟩
    · cases h
theorem quietAt_op {ops : List Oper} {k : Nat} {o : Oper} (h : quietAt ops k = true) (ho : ops[k]? = some o) : quietK o.op = true := by
  unfold quietAt at h
  rw [ho] at h
  exact h
/-- The rest, as it was planned. -/
theorem plan_ok (hC : CallOk C callF) {ops : List Oper} (hsel : Region.noSelect ops.toArray = true) {Q : Exit → Act → World → Prop} (hP : ∀ c a w, ¬ Q (.panic c) a w) : ∀ (fuel : Nat) (listed : Array Bool) (plan : List (Nat × Bool)) {σ : Sig} {st st' : St} {a : Act} {w : World},
    planT ops fuel listed = some plan → (evPlan C callF ops plan st).runs st' → StOk C σ st a w → (∀ σ' a' w', Went C σ st a w σ' st' a' w' → Q .normal a' w') → wpAny C.P .any ops.toArray Q fuel listed a w := by
  intro fuel
  induction fuel with
  | zero =>
    intro listed plan σ st st' a w hp hr hs hQ
    unfold planT at hp
    split at hp
    · rename_i hrd
      cases hp
      simp only [evPlan, Tree.runs] at hr
      subst hr
      exact ⟨hrd, hQ σ a w (Went.refl hs)⟩
    · cases hp
  | succ fuel ih =>
    intro listed plan σ st st' a w hp hr hs hQ
    have goon : ∀ (k : Nat) (q : Bool) (pl : List (Nat × Bool)) (o : Oper) (st1 : St), plan = (k, q) :: pl → ops[k]? = some o → (evPlan C callF ops plan st).runs st' → ∃ st1, (evStep C callF ops o id (fun _ M => M) st).runs st1 ∧ (q = true → stays o st1.env = true) ∧ (evPlan C callF ops pl st1).runs st' := by
      intro k q pl o st1 he ho hr
      subst he
      simp only [evPlan, ho] at hr
      obtain ⟨st1, h1, h2⟩ := Tree.runs_bind hr
      split at h2
      · rename_i hst
        refine ⟨st1, h1, fun hq => ?_, h2⟩
        subst hq
        simpa using hst
      · exact h2.elim
    unfold planT at hp
    split at hp
    · -- just one may come
      rename_i k hrd
      obtain ⟨pl, hpl, rfl⟩ := Option.map_eq_some_iff.1 hp
      refine ⟨fun h0 => (by rw [hrd] at h0; cases h0), fun i hi => ?_⟩
      have hik : i = k := by rw [hrd] at hi; simpa using hi
      subst hik
      obtain ⟨_, o, ho, _⟩ := mem_ready.1 hi
      have hol : ops[i]? = some o := by simpa using ho
      obtain ⟨st1, h1, _, h2⟩ := goon i false pl o st rfl hol hr
      have hst := step_ok hC h1 hs Q
      unfold wpOp
      rw [ho]
      dsimp only
      split
      · rename_i hw
        rw [if_pos hw] at hst
        refine .inl (Oper.wp_mono (fun a1 w1 hk => ?_) hst)
        obtain ⟨σ1, g⟩ := hk
        exact ih _ pl hpl h2 g.ok fun σ' a' w' k => hQ σ' a' w' (g.trans k)
      · rename_i hw
        rw [if_neg hw] at hst
        obtain ⟨σ1, g⟩ := hst
        exact ih _ pl hpl h2 g.ok fun σ' a' w' k => hQ σ' a' w' (g.trans k)
    · -- a quiet one
      split at hp
      · rename_i k hf
        obtain ⟨pl, hpl, rfl⟩ := Option.map_eq_some_iff.1 hp
        have hmem := List.mem_of_find?_eq_some hf
        have hkq := List.find?_some hf
        simp only [Bool.and_eq_true] at hkq
        obtain ⟨_, o, ho, _⟩ := mem_ready.1 hmem
        have hol : ops[k]? = some o := by simpa using ho
        obtain ⟨st1, h1, hstay, h2⟩ := goon k true pl o st rfl hol hr
        have hst := step_ok hC h1 hs Q
        obtain ⟨env, run, hg, hc⟩ := evStep_cases h1
        have hlook : ∀ t, sees ops o t = true → Rep σ (st.env.getD t .junk) (a.tmps.getD t undef) := fun t _ => hs.env.getD t
        have hqk := quietAt_op hkq.1 hol
        have hy : ∃ val, Yields C.P ops.toArray o val a := by
          rcases hc with ⟨hrun, v, M', h3, h4⟩ | ⟨hrun, h4⟩
          · refine quiet_yields hqk hg hs.gl hlook (fun _ => h3) fun _ => ?_
            rcases stays_or (hstay rfl) with h5 | ⟨d, hd, h5⟩
            · exact .inl h5
            · refine .inr ⟨_, ?_, h5⟩
              rw [h4, hd]
              rcases putV_self (env := env) (d := d) (v := v) with h6 | h6
              · rw [h6]; exact Imp.refl v
              · exact fun σ x _ => by rw [h6]; simp only [Rep]
          · exact quiet_yields (callF := callF) (v := .junk) (M := []) (M' := []) hqk hg hs.gl hlook (fun h => by rw [hrun] at h; cases h) (fun h => by rw [hrun] at h; cases h)
        obtain ⟨val, hy⟩ := hy
        have hst' : ∃ σ', Went C σ st a w σ' st1 (a.put o.dst val) w := of_yields hy hst
        obtain ⟨σ1, g⟩ := hst'
        refine wpAny_first ho (Region.noSelect_spec hsel) (fun c a w h => absurd h (hP c _ w)) fuel listed a w (Region.free_spec ho hkq.2) hmem hy ?_
        exact ih _ pl hpl h2 g.ok fun σ' a' w' k => hQ σ' a' w' (g.trans k)
      · cases hp
theorem cnt_to {len : Nat} : ∀ m, m ≤ len → cnt (listedTo len m) = len - m := by
  intro m
  induction m with
  | zero => intro _; simp [cnt, listedTo]
  | succ m ihm =>
    intro hm
    have e : listedTo len (m + 1) = (listedTo len m).setIfInBounds m true := by
      unfold listedTo; rw [List.range_succ, List.foldl_append]; rfl
    have hsz : ∀ q, (listedTo len q).size = len := by
      intro q
      induction q with
      | zero => simp [listedTo]
      | succ q ihq =>
        have e : listedTo len (q + 1) = (listedTo len q).setIfInBounds q true := by
          unfold listedTo; rw [List.range_succ, List.foldl_append]; rfl
        rw [e]; simpa using ihq
    have hno : ∀ q, q ≤ m → (listedTo len q).getD m false = false := by
      intro q
      induction q with
      | zero => intro _; unfold listedTo; exact getD_replicate_false _ _
      | succ q ihq =>
        intro hq
        have e : listedTo len (q + 1) = (listedTo len q).setIfInBounds q true := by
          unfold listedTo; rw [List.range_succ, List.foldl_append]; rfl
        rw [e, getD_set_ne false (by omega)]
        exact ihq (by omega)
    have := cnt_set (listed := listedTo len m) (i := m) (by rw [hsz]; omega) (hno m (Nat.le_refl _))
    rw [← e, ihm (by omega)] at this
    omega
theorem any_head (hC : CallOk C callF) (D : Dr C callF ops n st0 E Ms) (hs : StOk C σ0 st0 a0 w0) (ht : tailOk ops n = true) {plan : List (Nat × Bool)} (hpl : planOf ops n = some plan) {st' : St} (hfl : floatsStay ops n (E n) = true) (h : (evPlan C callF ops plan ⟨E n, Ms n⟩).runs st') {Q : Exit → Act → World → Prop} (hP : ∀ c a w, ¬ Q (.panic c) a w)
    (hQ : ∀ σ' a' w', Went C σ0 st0 a0 w0 σ' st' a' w' → Q .normal a' w') : ∀ (fuel : Nat) (listed : Array Bool) (a : Act) (w : World) (σ : Sig), HeadInv .any ops.toArray n listed → Inv C ops n σ0 st0 a0 w0 E Ms listed a w σ → cnt listed = fuel → wpAny C.P .any ops.toArray Q fuel listed a w := by
  have hsz : ops.toArray.size = ops.length := by simp
  have hsel : Region.noSelect ops.toArray = true := by
    have := D.head
    simp only [headOk, Bool.and_eq_true] at this
    exact this.1.2
  have all : ∀ (fuel : Nat) (listed : Array Bool) (a : Act) (w : World) (σ : Sig), HeadInv .any ops.toArray n listed → Inv C ops n σ0 st0 a0 w0 E Ms listed a w σ → cnt listed = fuel → (∀ k, k < n → listed.getD k false = true) → wpAny C.P .any ops.toArray Q fuel listed a w := by
    intro fuel listed a w σ hi I hc hall
    have hle := listed_eq (len := ops.length) D.le (by rw [hi.size, hsz]) hall fun k h1 h2 => hi.tail k h1 (by simpa using h2)
    have hg := I.done D hs hall
    have hfu : ops.length - n = fuel := by rw [← hc, hle, cnt_to n D.le]
    unfold planOf at hpl
    rw [← hle, hfu] at hpl
    exact plan_ok hC hsel hP fuel listed plan hpl h hg.ok fun σ' a' w' k => hQ σ' a' w' (hg.trans k)
  intro fuel
  induction fuel with
  | zero =>
    intro listed a w σ hi I hc
    refine all 0 listed a w σ hi I hc fun k hk => ?_
    cases hg : listed.getD k false with
    | true => rfl
    | false => have := cnt_set (by have := D.le; rw [hi.size, hsz]; omega) hg; omega
  | succ fuel ih =>
    intro listed a w σ hi I hc
    by_cases hall : ∀ k, k < n → listed.getD k false = true
    · exact all _ listed a w σ hi I hc hall
    · -- the head
      obtain ⟨j0, hj0⟩ := Classical.not_forall.1 hall
      have hj0n : j0 < n := Classical.byContradiction fun h => hj0 fun h' => absurd h' h
      have hj0u : listed.getD j0 false = false := by
        cases hg : listed.getD j0 false with
        | false => rfl
        | true => exact absurd (fun _ => hg) hj0
      have hsize : listed.size = ops.length := by rw [hi.size, hsz]
      have hDle := D.le
      have hclosed : ∀ j oj, ops[j]? = some oj → listed.getD j false = true → ∀ k ∈ directs oj, listed.getD k false = true := fun j oj hoj hl k hk => by
        obtain ⟨e, he, hb, rfl⟩ := directs_spec hk
        exact hi.closed j oj (by simpa using hoj) hl e he hb
      -- the first of them is ready
      have hready : ∃ j ∈ Region.ready .any ops.toArray listed, j < n ∧ listed.getD j false = false := by
        have : ∀ m, m < n → listed.getD m false = false → ∃ j ∈ Region.ready .any ops.toArray listed, j < n ∧ listed.getD j false = false := by
          intro m
          induction m using Nat.strongRecOn with
          | _ m ihm =>
            intro hm hu
            by_cases hlow : ∃ k, k < m ∧ listed.getD k false = false
            · obtain ⟨k, hk, hku⟩ := hlow
              exact ihm k hk (by omega) hku
            · obtain ⟨o, ho⟩ := D.get hm
              refine ⟨m, mem_ready.2 ⟨getD_in (by omega) hu, o, by simpa using ho, fun e he hb => ?_⟩, hm, hu⟩
              have hlt := D.lt hm ho e.on (directs_of he hb)
              cases hg : listed.getD e.on false with
              | true => rfl
              | false => exact absurd ⟨e.on, hlt, hg⟩ hlow
        exact this j0 hj0n hj0u
      -- one of the head, done now
      have step1 : ∀ i o, i ∈ Region.ready .any ops.toArray listed → i < n → ops[i]? = some o → if Region.wanted o (yielded ops.toArray a.tmps) then o.wp C.P a w (fun a' w' => ∃ σ', Inv C ops n σ0 st0 a0 w0 E Ms (listed.setIfInBounds i true) a' w' σ') Q else ∃ σ', Inv C ops n σ0 st0 a0 w0 E Ms (listed.setIfInBounds i true) (a.put o.dst undef) w σ' := by
        intro i o hir hin hol
        obtain ⟨hiu, o', ho', hpre⟩ := mem_ready.1 hir
        have : o' = o := Option.some.inj (ho'.symm.trans (by simpa using hol))
        subst this
        have hdir : ∀ k ∈ directs o', listed.getD k false = true := fun k hk => by
          obtain ⟨e, he, hb, rfl⟩ := directs_spec hk
          exact hpre e he hb
        exact I.step hC D hs hin hol (getD_both hiu) (by omega) hdir (preds_listed hclosed (fun j oj hj hoj => D.lt hj hoj) i hin o' hol hdir) Q
      by_cases htl : ∃ t ∈ Region.ready .any ops.toArray listed, n ≤ t
      · -- the tail might begin: a quiet one is done first
        obtain ⟨t, htr, hnt⟩ := htl
        obtain ⟨_, ot, hot, hpret⟩ := mem_ready.1 htr
        have htlt : t < ops.length := by
          have := (Array.getElem?_eq_some_iff.1 hot).1
          simpa using this
        unfold tailOk at ht
        rw [decide_eq_false (show ¬ n = ops.length by omega), decide_eq_false (show ¬ n = 0 by omega), Bool.or_false] at ht
        dsimp only at ht
        simp only [Bool.and_eq_true, decide_eq_true_eq, List.all_eq_true, List.mem_range] at ht
        obtain ⟨⟨⟨hn, ht1⟩, ht2⟩, ht3⟩ := ht
        have hlt : ∀ j oj, j < ops.length → ops[j]? = some oj → ∀ k ∈ directs oj, k < j := fun j oj hj hoj k hk => by
          have := ht2 j hj
          rw [hoj] at this
          simp only [List.all_eq_true, decide_eq_true_eq] at this
          exact this k hk
        have hdirt : ∀ k ∈ directs ot, listed.getD k false = true := fun k hk => by
          obtain ⟨e, he, hb, rfl⟩ := directs_spec hk
          exact hpret e he hb
        have hpt := preds_listed hclosed hlt t htlt ot (by simpa using hot) hdirt
        have htn : t = n := by
          rcases Nat.lt_or_ge n t with hnt' | hnt'
          · have h1 := ht1 t htlt
            simp only [Bool.or_eq_true, decide_eq_true_eq, List.contains_eq_mem] at h1
            rcases h1 with h1 | h1
            · omega
            · have h2 := hpt n h1
              rw [getD_both (hi.tail n (Nat.le_refl _) (by simpa using hn))] at h2
              cases h2
          · omega
        subst htn
        obtain ⟨k, hkr, hkn, hku⟩ := hready
        obtain ⟨_, o, ho, hprek⟩ := mem_ready.1 hkr
        have hol : ops[k]? = some o := by simpa using ho
        have hnp : ¬ k ∈ (predsOf ops).getD t [] := fun h => by
          rw [hpt k h] at hku; cases hku
        have h3 := ht3 k hkn
        simp only [Bool.or_eq_true, List.contains_eq_mem, decide_eq_true_eq, Bool.and_eq_true] at h3
        have h3 := h3.resolve_left hnp
        have hqk := quietAt_op h3.1 hol
        have hdirk : ∀ j ∈ directs o, listed.getD j false = true := fun j hj => by
          obtain ⟨e, he, hb, rfl⟩ := directs_spec hj
          exact hprek e he hb
        have hpk := preds_listed hclosed hlt k (by omega) o hol hdirk
        have hst := step1 k o hkr hkn hol
        have hS := D.step k o hkn hol
        obtain ⟨env, run, hg, hc⟩ := evStep_cases hS.runs
        dsimp only at hg hc
        have hlook : ∀ t, sees ops o t = true → Rep (cut σ (Ms k).length) ((E k).getD t .junk) (a.tmps.getD t undef) := fun t ht => I.slot D hs (by omega) t fun q oq hq hoq hd => by
          obtain ⟨g1, g2⟩ := D.dsts hkn hol hq hoq hd
          by_cases e : q = k
          · have := g1 e; rw [ht] at this; cases this
          · have h3 := (g2 e).2 ht
            exact ⟨D.lt hkn hol q h3, hdirk q h3⟩
        have hgl : GlOk C (cut σ (Ms k).length) := fun g i hgi => by
          obtain ⟨h1, x, h3, h4⟩ := hs.gl g i hgi
          refine ⟨h1, x, ?_, h4⟩
          unfold cut
          have := hs.ng
          have hm0 : st0.mem.length ≤ (Ms k).length := by have := D.mono (Nat.zero_le k) (by omega); rw [D.m0] at this; exact this
          rw [if_pos (by omega)]
          exact I.moved.ext i x h3
        have hy : ∃ val, Yields C.P ops.toArray o val a := by
          rcases hc with ⟨hrun, v, M', h5, h4⟩ | ⟨hrun, h4⟩
          · refine quiet_yields hqk hg hgl hlook (fun _ => h5) fun _ => ?_
            unfold floatsStay at hfl
            rw [decide_eq_true hn] at hfl
            simp only [List.all_eq_true, List.mem_range, Bool.or_eq_true, List.contains_eq_mem, decide_eq_true_eq] at hfl
            have hf := (hfl k hkn).resolve_left hnp
            rw [hol] at hf
            rcases stays_or hf with h6 | ⟨d, hd, h6⟩
            · exact .inl h6
            · refine .inr ⟨_, ?_, h6⟩
              have hE : E (k + 1) = putV env o.dst v := congrArg St.env h4
              have h7 := D.slot (t := d) (i := k + 1) t (by omega) (Nat.le_refl _) fun q oq hq1 hq2 hoq hdq => ((D.dsts (j := q) (k := k) (by omega) hoq hkn hol hd).2 (by omega)).1 hdq
              rw [hE, hd] at h7
              rcases putV_self (env := env) (d := d) (v := v) with h8 | h8
              · rw [h8] at h7; exact h7
              · rw [h8] at h7; exact fun σ x _ => h7 σ x (by simp only [Rep])
          · exact quiet_yields (callF := callF) (v := .junk) (M := []) (M' := []) hqk hg hgl hlook (fun h => by rw [hrun] at h; cases h) (fun h => by rw [hrun] at h; cases h)
        obtain ⟨val, hy⟩ := hy
        have hst' : ∃ σ', Inv C ops t σ0 st0 a0 w0 E Ms (listed.setIfInBounds k true) (a.put o.dst val) w σ' := of_yields hy hst
        obtain ⟨σ1, I1⟩ := hst'
        refine wpAny_first ho (Region.noSelect_spec hsel) (fun c a w h => absurd h (hP c _ w)) fuel listed a w (fun j oj hoj hjk hju hno => ?_) hkr hy ?_
        · have hjl : j < ops.length := by
            have := (Array.getElem?_eq_some_iff.1 hoj).1
            simpa using this
          have h9 := h3.2
          unfold apartAll at h9
          rw [hol] at h9
          simp only [List.all_eq_true, List.mem_range] at h9
          have h9 := h9 j hjl
          rw [show ops[j]? = some oj by simpa using hoj] at h9
          simp only [Bool.or_eq_true, decide_eq_true_eq, List.contains_eq_mem] at h9
          rcases h9 with (h9 | h9) | h9 | h9
          · exact absurd h9 hjk
          · have := hpk j h9
            rw [getD_both hju] at this; cases this
          · obtain ⟨e, he, hb⟩ := Array.any_eq_true'.1 h9
            simp only [Bool.and_eq_true, beq_iff_eq] at hb
            exact absurd hb.2 (hno e he hb.1)
          · exact h9
        · exact ih _ _ w σ1 (hi.set hkr hkn) I1 (by have := cnt_set (listed := listed) (i := k) (by omega) hku; omega)
      · refine ⟨fun hr => ?_, fun i hir => ?_⟩
        · obtain ⟨j, hj, _⟩ := hready
          rw [hr] at hj; cases hj
        · obtain ⟨hiu, o, ho, hpre⟩ := mem_ready.1 hir
          have hilt : i < ops.length := by
            have := (Array.getElem?_eq_some_iff.1 ho).1
            simpa using this
          have hin : i < n := by
            rcases Nat.lt_or_ge i n with c | c
            · exact c
            · exact absurd ⟨i, hir, c⟩ htl
          have hol : ops[i]? = some o := by simpa using ho
          have hst := step1 i o hir hin hol
          have hcs := cnt_set (listed := listed) (i := i) (by omega) (getD_both hiu)
          have hi' := hi.set hir hin
          unfold wpOp
          rw [ho]
          dsimp only
          split
          · rename_i hw
            rw [if_pos hw] at hst
            refine .inl (Oper.wp_mono (fun a1 w1 hk => ?_) hst)
            obtain ⟨σ1, I1⟩ := hk
            exact ih _ a1 w1 σ1 hi' I1 (by omega)
          · rename_i hw
            rw [if_neg hw] at hst
            obtain ⟨σ1, I1⟩ := hst
            exact ih _ _ w σ1 hi' I1 (by omega)

theorem Rel.heap {P : Program} {M : Mem} {w' : World} (h : Rel P σ M w) (hh : w'.heap = w.heap) : Rel P σ M w' :=
  ⟨h.dom, fun i b hb => by
    obtain ⟨x, hx, hok⟩ := h.blk i b hb
    exact ⟨x, hx, hok.congr fun _ => by rw [hh]⟩, h.sep⟩
/-! ### loads that may come late -/
def SH (C : Ctx) (σ0 : Sig) (M0 : Mem) (B : List Nat) (w : World) : Prop := ∃ σ1 M1, Rel C.P σ1 M1 w ∧ (∀ i, i < M0.length → σ1 i = σ0 i) ∧ ∀ i, B.contains i = true → M1.at i = M0.at i
theorem pure_mem {t : Tree AV} {M : Mem} {r : AV × Mem} (h : (t.bind fun v => .ret (v, M)).runs r) : r.2 = M := by
  obtain ⟨v, _, h2⟩ := Tree.runs_bind h
  simp only [Tree.runs] at h2
  rw [← h2]
theorem store_at {P : Program} {t : TypeId} {r : Ref} {v : AV} {M M' : Mem} {i : Nat} (h : (storeAV P t (.ptr r) v M).runs M') (hi : i ≠ r.id) : M'.at i = M.at i := by
  unfold storeAV at h
  dsimp only at h
  split at h
  · split at h
    · obtain ⟨d, _, h2⟩ := Tree.runs_bind h
      simp only [Tree.runs] at h2
      subst h2
      unfold Mem.at
      rw [List.getElem?_set_ne (by omega)]
    · exact h.elim
  · exact h.elim
theorem step_keeps {σ : Sig} {st st' : St} {a : Act} {w : World} {ops : List Oper} {o : Oper} {B : List Nat} (hs : StOk C σ st a w) (h : (evStep C callF ops o id (fun _ M => M) st).runs st') (hk : keepsB B o (opnd C st'.env) = true) (i : Nat) (hi : B.contains i = true) : st'.mem.at i = st.mem.at i := by
  obtain ⟨env, run, hg, hc⟩ := evStep_cases h
  rcases hc with ⟨_, v, M', h3, rfl⟩ | ⟨_, rfl⟩
  · show Mem.at M' i = st.mem.at i
    unfold keepsB at hk
    simp only [Bool.or_eq_true] at hk
    rcases hk with hq | hk
    · have := (quiet_ok (σ := σ) hq (hg.oprs hs.gl fun t _ => hs.env.getD t) h3).1
      rw [show M' = st.mem from this]
    · split at hk
      · rename_i t x ho
        rw [ho] at h3
        unfold evOp at h3
        dsimp only at h3
        rw [show M' = st.mem from pure_mem h3]
      · rename_i t x y ho
        rw [ho] at h3
        unfold evOp at h3
        dsimp only at h3
        simp only [Bool.and_eq_true] at hk
        have hd : o.dst = none := by simpa using hk.2
        rw [hd] at hk
        obtain ⟨M2, g1, g2⟩ := Tree.runs_bind h3
        simp only [Tree.runs, Prod.mk.injEq] at g2
        obtain ⟨_, rfl⟩ := g2
        have hk1 := hk.1
        split at hk1
        · rename_i r hx
          have hx' : opnd C env x = .ptr r := hx
          rw [hx'] at g1
          exact store_at g1 fun hir => by subst hir; rw [hi] at hk1; cases hk1
        · cases hk1
      · cases hk
  · rfl
theorem load_yields {σ : Sig} {st : St} {a : Act} {w : World} {ops : List Oper} {o : Oper} {B : List Nat} {σ0 : Sig} {M0 : Mem} {env : List AV} {run : Bool} {v : AV} {M' : Mem} {ty : TypeId} {x : Operand} {r : Ref} (ho : o.op = .load ty x) (hg : GEnv ops o st.env env run) (hs : StOk C σ st a w)
    (hag : ∀ i, i < M0.length → σ i = σ0 i) (hB : ∀ i, B.contains i = true → st.mem.at i = M0.at i)
    (hc : run = true → (evOp C callF (opnd C env) o.op st.mem).runs (v, M')) (hx : run = true → opnd C env x = .ptr r) (hr : B.contains r.id = true) (hr0 : r.id < M0.length) (hd : run = true → ∃ v', Imp v v' ∧ v'.det = true ∧ v.refs = []) :
    ∃ val, YieldsIf C.P ops.toArray (SH C σ0 M0 B) o val a := by
  have hlook : ∀ t, sees ops o t = true → Rep σ (st.env.getD t .junk) (a.tmps.getD t undef) := fun t _ => hs.env.getD t
  have hw := hg.wanted hlook
  cases run with
  | false => exact ⟨undef, .inr ⟨hw, rfl⟩⟩
  | true =>
    have hop := hg.oprs hs.gl hlook x (by rw [ho]; simp [Op.operands])
    rw [hx rfl] at hop
    have h3 := hc rfl
    rw [ho] at h3
    unfold evOp at h3
    dsimp only at h3
    rw [hx rfl] at h3
    obtain ⟨v1, g1, g2⟩ := Tree.runs_bind h3
    simp only [Tree.runs, Prod.mk.injEq] at g2
    obtain ⟨rfl, rfl⟩ := g2
    obtain ⟨v', hi, hdet, hrf⟩ := hd rfl
    have key : ∀ w1, SH C σ0 M0 B w1 → ∃ val, (Instr.loadAt ty (a.eval x)).run C.P w1 = .ok val w1 ∧ Rep σ v1 val := by
      rintro w1 ⟨σ1, M1, k1, k2, k3⟩
      have hop1 : Rep σ1 (.ptr r) (a.eval x) := hop.congr fun i hi' y hy => by
        simp only [AV.refs, List.mem_singleton] at hi'
        subst hi'
        rw [k2 _ hr0, ← hag _ hr0]; exact hy
      have g1' : (loadAV C.P ty (.ptr r) M1).runs v1 := by
        unfold loadAV at g1 ⊢
        dsimp only at g1 ⊢
        rw [k3 _ hr, ← hB _ hr]
        exact g1
      obtain ⟨val, e1, e2⟩ := loadAV_ok g1' hop1 k1
      exact ⟨val, e1, e2.congr fun i hi' => by rw [hrf] at hi'; cases hi'⟩
    obtain ⟨val, _, r1⟩ := key w ⟨σ, st.mem, hs.rel, hag, hB⟩
    refine ⟨val, .inl ⟨hw, fun w1 hw1 => ?_⟩⟩
    obtain ⟨val2, e1, e2⟩ := key w1 hw1
    rw [Rep.det hdet (hi _ _ r1) (hi _ _ e2)]
    unfold execOp
    rw [ho]
    dsimp only
    simp [e1]
theorem held_ok (hC : CallOk C callF) {ops : List Oper} {B : List Nat} {σ0 : Sig} {M0 : Mem} (hsel : Region.noSelect ops.toArray = true) {Q : Exit → Act → World → Prop} (hP : ∀ c a w, ¬ Q (.panic c) a w) : ∀ (fuel : Nat) (listed : Array Bool) (plan : List (Nat × Nat)) {σ : Sig} {st st' : St} {a : Act} {w : World},
    heldT ops fuel listed = some plan → (evHeld C callF ops B M0.length plan st).runs st' → StOk C σ st a w → (∀ i, i < M0.length → σ i = σ0 i) → M0.length ≤ st.mem.length → (∀ i, B.contains i = true → st.mem.at i = M0.at i) →
    (∀ σ' a' w', Went C σ st a w σ' st' a' w' → Q .normal a' w') → wpAnyH C.P .any ops.toArray Q (SH C σ0 M0 B) fuel listed a w := by
  intro fuel
  induction fuel with
  | zero =>
    intro listed plan σ st st' a w hp hr hs hag hlen hB hQ
    unfold heldT at hp
    split at hp
    · rename_i hrd
      cases hp
      simp only [evHeld, Tree.runs] at hr
      subst hr
      exact ⟨hrd, hQ σ a w (Went.refl hs)⟩
    · cases hp
  | succ fuel ih =>
    intro listed plan σ st st' a w hp hr hs hag hlen hB hQ
    have goon : ∀ (k q : Nat) (pl : List (Nat × Nat)) (o : Oper), plan = (k, q) :: pl → ops[k]? = some o → ∃ st1, (evStep C callF ops o id (fun _ M => M) st).runs st1 ∧ heldCk C B M0.length o q st1 = true ∧ (evHeld C callF ops B M0.length pl st1).runs st' := by
      intro k q pl o he ho
      subst he
      simp only [evHeld, ho] at hr
      obtain ⟨st1, h1, h2⟩ := Tree.runs_bind hr
      split at h2
      · rename_i hst; exact ⟨st1, h1, hst, h2⟩
      · exact h2.elim
    have next : ∀ {k q : Nat} {pl : List (Nat × Nat)} {o : Oper} {st1 : St} {σ1 : Sig} {a1 : Act} {w1 : World}, (evStep C callF ops o id (fun _ M => M) st).runs st1 → heldCk C B M0.length o q st1 = true → Went C σ st a w σ1 st1 a1 w1 →
        (∀ i, i < M0.length → σ1 i = σ0 i) ∧ M0.length ≤ st1.mem.length ∧ (∀ i, B.contains i = true → st1.mem.at i = M0.at i) := by
      intro k q pl o st1 σ1 a1 w1 h1 hck g
      simp only [heldCk, Bool.and_eq_true] at hck
      refine ⟨fun i hi => by rw [g.moved.agree i (by omega)]; exact hag i hi, Nat.le_trans hlen g.moved.len, fun i hi => ?_⟩
      rw [step_keeps hs h1 hck.1 i hi]; exact hB i hi
    unfold heldT at hp
    split at hp
    · -- just one may come
      rename_i k hrd
      obtain ⟨pl, hpl, rfl⟩ := Option.map_eq_some_iff.1 hp
      refine ⟨fun h0 => (by rw [hrd] at h0; cases h0), fun i hi => ?_⟩
      have hik : i = k := by rw [hrd] at hi; simpa using hi
      subst hik
      obtain ⟨_, o, ho, _⟩ := mem_ready.1 hi
      have hol : ops[i]? = some o := by simpa using ho
      obtain ⟨st1, h1, hck, h2⟩ := goon i 0 pl o rfl hol
      have hst := step_ok hC h1 hs Q
      have fin : ∀ σ1 a1 w1, Went C σ st a w σ1 st1 a1 w1 → SH C σ0 M0 B w1 ∧ wpAnyH C.P .any ops.toArray Q (SH C σ0 M0 B) fuel (listed.setIfInBounds i true) a1 w1 := fun σ1 a1 w1 g => by
        obtain ⟨n1, n2, n3⟩ := next (k := i) (pl := pl) h1 hck g
        exact ⟨⟨σ1, st1.mem, g.ok.rel, n1, n3⟩, ih _ pl hpl h2 g.ok n1 n2 n3 fun σ' a' w' k => hQ σ' a' w' (g.trans k)⟩
      unfold wpOp
      rw [ho]
      dsimp only
      split
      · rename_i hw
        rw [if_pos hw] at hst
        refine .inl (Oper.wp_mono (fun a1 w1 hk => ?_) hst)
        obtain ⟨σ1, g⟩ := hk
        exact fin σ1 a1 w1 g
      · rename_i hw
        rw [if_neg hw] at hst
        obtain ⟨σ1, g⟩ := hst
        exact fin σ1 _ w g
    · -- a quiet one, or a load
      split at hp
      · rename_i k hf
        obtain ⟨pl, hpl, rfl⟩ := Option.map_eq_some_iff.1 hp
        have hmem := List.mem_of_find?_eq_some hf
        have hkq := List.find?_some hf
        simp only [Bool.and_eq_true] at hkq
        obtain ⟨_, o, ho, _⟩ := mem_ready.1 hmem
        have hol : ops[k]? = some o := by simpa using ho
        obtain ⟨st1, h1, hck, h2⟩ := goon k _ pl o rfl hol
        have hst := step_ok hC h1 hs Q
        obtain ⟨env, run, hg, hc⟩ := evStep_cases h1
        have hlook : ∀ t, sees ops o t = true → Rep σ (st.env.getD t .junk) (a.tmps.getD t undef) := fun t _ => hs.env.getD t
        have hck2 := hck
        simp only [heldCk, Bool.and_eq_true] at hck2
        have hSw : SH C σ0 M0 B w := ⟨σ, st.mem, hs.rel, hag, hB⟩
        have hy : ∃ val, YieldsIf C.P ops.toArray (SH C σ0 M0 B) o val a := by
          cases hqa : quietAt ops k with
          | true =>
            rw [hqa] at hck2
            have hqk := quietAt_op hqa hol
            have hy : ∃ val, Yields C.P ops.toArray o val a := by
              rcases hc with ⟨hrun, v, M', h3, h4⟩ | ⟨hrun, h4⟩
              · refine quiet_yields hqk hg hs.gl hlook (fun _ => h3) fun _ => ?_
                rcases stays_or hck2.2 with h5 | ⟨d, hd, h5⟩
                · exact .inl h5
                · refine .inr ⟨_, ?_, h5⟩
                  rw [h4, hd]
                  rcases putV_self (env := env) (d := d) (v := v) with h6 | h6
                  · rw [h6]; exact Imp.refl v
                  · exact fun σ x _ => by rw [h6]; simp only [Rep]
              · exact quiet_yields (callF := callF) (v := .junk) (M := []) (M' := []) hqk hg hs.gl hlook (fun h => by rw [hrun] at h; cases h) (fun h => by rw [hrun] at h; cases h)
            obtain ⟨val, hv⟩ := hy
            exact ⟨val, hv.yieldsIf⟩
          | false =>
            rw [hqa] at hck2
            have h5 : heldLd C B M0.length o st1 = true := hck2.2
            unfold heldLd at h5
            split at h5
            · rename_i ty t d hop hdst
              simp only [Bool.and_eq_true, decide_eq_true_eq] at h5
              obtain ⟨⟨⟨h6, h7⟩, h8⟩, h9⟩ := h5
              split at h7
              · rename_i r hxr
                simp only [Bool.and_eq_true, decide_eq_true_eq] at h7
                rcases hc with ⟨hrun, v, M', h3, h4⟩ | ⟨hrun, h4⟩
                · rw [h4, hdst] at h8 h9 hxr
                  have hxe : opnd C env (.tmp t) = .ptr r := by
                    show env.getD t .junk = _
                    rw [← hxr]; exact (putV_ne (fun h => h6 (Option.some.inj h).symm)).symm
                  have hself : (putV env (some d) v).getD d .junk = v := by
                    rcases putV_self (env := env) (d := d) (v := v) with k | k
                    · exact k
                    · rw [k] at h8; cases h8
                  rw [hself] at h8 h9
                  exact load_yields hop hg hs hag hB (fun _ => h3) (fun _ => hxe) h7.1 h7.2 (fun _ => ⟨v, Imp.refl v, h8, by simpa using h9⟩)
                · exact ⟨undef, .inr ⟨by have := hg.wanted hlook; rw [hrun] at this; exact this, rfl⟩⟩
              · cases h7
            · cases h5
        obtain ⟨val, hy⟩ := hy
        have hst' : ∃ σ', Went C σ st a w σ' st1 (a.put o.dst val) w := by
          rcases hy with ⟨hw, hv⟩ | ⟨hw, rfl⟩
          · rw [if_pos hw] at hst
            unfold Oper.wp at hst
            rw [hv w hSw] at hst
            exact hst
          · rw [hw, if_neg (by simp)] at hst
            exact hst
        obtain ⟨σ1, g⟩ := hst'
        obtain ⟨n1, n2, n3⟩ := next (k := k) (pl := pl) h1 hck g
        refine wpAnyH_first ho (Region.noSelect_spec hsel) (fun c a w h => absurd h (hP c _ w)) fuel listed a w (Region.free_spec ho hkq.2) hmem hy hSw ?_
        exact ih _ pl hpl h2 g.ok n1 n2 n3 fun σ' a' w' k => hQ σ' a' w' (g.trans k)
      · cases hp
theorem region_ok (hC : CallOk C callF) (hmix : C.P.follows .mixedOrders = true) {id : Nat} {ops : Array Oper} {draw : Bool} {st st' : St} (h : (evRegion C callF ops.toList draw st).runs st') (hs : StOk C σ st a w) {Q : Exit → Act → World → Prop}
    (hQ : ∀ σ' a' w', Went C σ st a w σ' st' a' w' → Q .normal a' w') : (Code.region id ops draw).wp C.P Q a w := by
  cases draw
  · refine wp_region_list ?_
    have := seq_ok hC ops.toList h hs hQ
    simpa using this
  · unfold evRegion at h
    dsimp only at h
    split at h
    · rename_i n hfind
      split at h
      · rename_i plan hplan
        have hchk := List.find?_some hfind
        simp only [cutOk, Bool.and_eq_true] at hchk
        obtain ⟨hh, h1, h2⟩ := Tree.runs_bind h
        split at h2
        · rename_i hfl
          have hdrew : StOk C σ st a w.drew := ⟨hs.env, hs.rel.heap rfl, hs.gl, hs.ng⟩
          obtain ⟨E, Ms, g1, g2, g3, g4⟩ := head_trace (predsOf ops.toList) (ops.toList.take n) 0 ⟨st, []⟩ hh (fun _ => st.env) (fun _ => st.mem) (by simpa using h1) rfl rfl rfl
          have hle : n ≤ ops.toList.length := by
            have := hchk.2
            simp only [headOk, Bool.and_eq_true, decide_eq_true_eq] at this
            exact this.1.1
          have hlt : (ops.toList.take n).length = n := by rw [List.length_take]; omega
          have hm0 : Ms 0 = st.mem := (g1 0 (Nat.le_refl _)).2
          have D : Dr C callF ops.toList n st E Ms := by
            refine ⟨(g1 0 (Nat.le_refl _)).1, hm0, fun j o hj ho => ?_, hchk.2⟩
            have := g4 j o (by rw [List.getElem?_take, if_pos hj]; exact ho)
            rwa [Nat.zero_add] at this
          have hend : hh.st = ⟨E n, Ms n⟩ := by
            rw [hlt, Nat.zero_add] at g2 g3
            rw [g2, g3]
          rw [hend] at h2 hfl
          refine wp_mono (Q := fun e a w => e = .normal ∧ Q .normal a w) (wp_region_any hmix ?_) (fun e a w he => by obtain ⟨rfl, he⟩ := he; exact he)
          have hinv0 : HeadInv .any ops n (Array.replicate ops.size false) :=
            ⟨by simp, fun j oj _ hl => (by rw [getD_replicate_false] at hl; cases hl), fun t _ ht => getD_in (by simpa using ht) (getD_replicate_false _ _)⟩
          have hI := Inv.start (n := n) (E := E) (Ms := Ms) D hdrew
          have := any_head hC D hdrew hchk.1.1.2 hplan hfl h2 (Q := fun e a w => e = .normal ∧ Q .normal a w) (fun c a w h => by cases h.1) (fun σ' a' w' g => ⟨rfl, hQ σ' a' w' ⟨g.ok, ⟨g.moved.ext, g.moved.rel, ⟨g.moved.kept.os, g.moved.kept.tape, g.moved.kept.output, g.moved.kept.size, g.moved.kept.block⟩, g.moved.agree, g.moved.occ, g.moved.len⟩, g.defers, g.len⟩⟩)
            ops.size (Array.replicate ops.size false) a w.drew σ (by simpa using hinv0) (by simpa using hI) (by simp [cnt])
          simpa using this
        · exact h2.elim
      · exact h.elim
    · split at h
      · rename_i plan hplan
        have hdrew : StOk C σ st a w.drew := ⟨hs.env, hs.rel.heap rfl, hs.gl, hs.ng⟩
        unfold heldPlan at hplan
        split at hplan
        · rename_i hsel
          refine wp_mono (Q := fun e a w => e = .normal ∧ Q .normal a w) (wp_region_held (S := SH C σ st.mem (heldB ops.toList st.env)) hmix ?_) (fun e a w he => by obtain ⟨rfl, he⟩ := he; exact he)
          have := held_ok hC (σ0 := σ) (M0 := st.mem) (Q := fun e a w => e = .normal ∧ Q .normal a w) (by simpa using hsel) (fun c a w h => by cases h.1) _ _ plan hplan h hdrew (fun _ _ => rfl) (Nat.le_refl _) (fun _ _ => rfl)
            (fun σ' a' w' g => ⟨rfl, hQ σ' a' w' ⟨g.ok, ⟨g.moved.ext, g.moved.rel, ⟨g.moved.kept.os, g.moved.kept.tape, g.moved.kept.output, g.moved.kept.size, g.moved.kept.block⟩, g.moved.agree, g.moved.occ, g.moved.len⟩, g.defers, g.len⟩⟩)
          simpa using this
        · cases hplan
      · exact h.elim
end
end Go.Proofs.Ytonhkbgielilbaa.Rig

/- A reckoner over Go's operations: code, and calls of functions. -/
namespace Go.Proofs.Ytonhkbgielilbaa.Rig
open Go
/-- Where a function's body stands, seen from where it was entered. -/
structure Fr (C : Ctx) (σ0 : Sig) (M0 : Mem) (w0 : World) (ds : List Deferred) (σ : Sig) (st : St) (a : Act) (w : World) : Prop where
  moved : Moved C.P σ0 M0 w0 σ st.mem w
  ok : StOk C σ st a w
  defers : a.defers = ds
  dom0 : ∀ i, M0.length ≤ i → σ0 i = none
  gl0 : GlOk C σ0
  ng0 : C.ng ≤ M0.length
def Ex.out : Ex → Exit
  | .norm => .normal
  | .exit id => .exit id
  | .ret => .ret
/-- What a loop's answer is worth. -/
def LoopOk (C : Ctx) (f : FuncId) (lo : Nat) (body : Code) : Prop :=
  ∀ st ex st', (C.loop f (Code.key body) st).runs (ex, st') → ∀ (σ0 : Sig) (M0 : Mem) (w0 : World) (ds : List Deferred) (σ : Sig) (a : Act) (w : World), M0.length = lo → Fr C σ0 M0 w0 ds σ st a w →
    ∀ Q : Exit → Act → World → Prop, (∀ σ' a' w', Fr C σ0 M0 w0 ds σ' st' a' w' → Q ex.out a' w') → (Code.loop body).wp C.P Q a w
section
variable {C : Ctx} {callF : FuncId → List AV → Mem → Tree (AV × Mem)} {σ0 : Sig} {M0 : Mem} {w0 : World} {ds : List Deferred} {σ : Sig} {st st' : St} {a : Act} {w : World}
theorem Fr.went {σ' : Sig} {a' : Act} {w' : World} (h : Fr C σ0 M0 w0 ds σ st a w) (g : Went C σ st a w σ' st' a' w') : Fr C σ0 M0 w0 ds σ' st' a' w' :=
  ⟨h.moved.trans g.moved, g.ok, g.defers.trans h.defers, h.dom0, h.gl0, h.ng0⟩
theorem maskAt_get (ks : List Nat) : ∀ (l : List AV) (i t : Nat) v, (maskAt ks i l)[t]? = some v → v = .junk ∨ l[t]? = some v
  | [], i, t, v, h => by simp [maskAt] at h
  | u :: l, i, t, v, h => by
    cases t with
    | zero =>
      simp only [maskAt, List.getElem?_cons_zero, Option.some.injEq] at h
      split at h
      · right; rw [← h]; rfl
      · left; exact h.symm
    | succ t => simpa [maskAt] using maskAt_get ks l (i + 1) t v (by simpa [maskAt] using h)
theorem maskAt_len (ks : List Nat) : ∀ (l : List AV) (i : Nat), (maskAt ks i l).length = l.length
  | [], i => rfl
  | u :: l, i => by simp [maskAt, maskAt_len ks l]
theorem EnvOk.mask {env : List AV} {tmps : Array Value} (h : EnvOk σ env tmps) (ks : List Nat) : EnvOk σ (maskAt ks 0 env) tmps :=
  ⟨by rw [maskAt_len]; exact h.1, fun t v hv => by
    rcases maskAt_get ks env 0 t v hv with rfl | hv
    · simp only [Rep]
    · exact h.2 t v hv⟩
theorem keepIds_pre {M : Mem} {lo : Nat} {roots : List Nat} {i : Nat} (hi : i < lo) : (keepIds M lo roots)[i]? = some i := by
  unfold keepIds
  rw [List.getElem?_append_left (by simpa using hi)]
  simp [hi]
/-- Of the blocks just those of a list are kept. -/
theorem Fr.sub (h : Fr C σ0 M0 w0 ds σ st a w) {roots : List Nat} (hnd : nodup (keepIds st.mem M0.length roots) = true) {env : List AV} (he : EnvOk σ env a.tmps) :
    Fr C σ0 M0 w0 ds (subSig σ (keepIds st.mem M0.length roots)) ⟨AV.renL (idxOf (keepIds st.mem M0.length roots)) env, st.mem.sub (keepIds st.mem M0.length roots)⟩ a w := by
  generalize hks : keepIds st.mem M0.length roots = ks at *
  have hpre : ∀ i, i < M0.length → ks[i]? = some i := fun i hi => by rw [← hks]; exact keepIds_pre hi
  have hag : ∀ i, i < M0.length → subSig σ ks i = σ i := fun i hi => by unfold subSig; rw [hpre i hi]; rfl
  have hlen : M0.length ≤ ks.length := by
    rcases Nat.lt_or_ge ks.length M0.length with c | c
    · have := hpre ks.length c
      rw [List.getElem?_eq_none (Nat.le_refl _)] at this; cases this
    · exact c
  have hrel := h.ok.rel.sub (nodup_spec hnd)
  have hext : Ext σ0 (subSig σ ks) := fun i x hx => by
    have hi : i < M0.length := by
      rcases Nat.lt_or_ge i M0.length with c | c
      · exact c
      · rw [h.dom0 i c] at hx; cases hx
    rw [hag i hi]
    exact h.moved.ext i x hx
  refine ⟨⟨hext, hrel, h.moved.kept, fun i hi => (hag i hi).trans (h.moved.agree i hi), fun Q hQ hQ' k hk ho => ?_, by simpa [Mem.sub] using hlen⟩, ⟨⟨by rw [AV.renL_eq, List.length_map]; exact he.1, fun t v hv => ?_⟩, hrel, h.gl0.mono hext, Nat.le_trans h.ng0 (by simpa [Mem.sub] using hlen)⟩, h.defers, h.dom0, h.gl0, h.ng0⟩
  · obtain ⟨i, _, b, x, c1, c2, c3, c4, c5⟩ := occ_sub (fun b g => hQ'.ren) ho
    exact h.moved.occ Q hQ hQ' k hk ⟨i, b, x, c1, c2, c3, c4, c5⟩
  · rw [AV.renL_eq, List.getElem?_map, Option.map_eq_some_iff] at hv
    obtain ⟨u, hu, rfl⟩ := hv
    exact (he.2 t u hu).ren subSig_ren
theorem Fr.norm (h : Fr C σ0 M0 w0 ds σ st a w) {ks : List Nat} (hn : normSt ks M0.length st = some st') : ∃ σ', Fr C σ0 M0 w0 ds σ' st' a w := by
  unfold normSt at hn
  dsimp only at hn
  split at hn
  · rename_i hnd
    cases hn
    exact ⟨_, h.sub hnd (h.ok.env.mask ks)⟩
  · cases hn
theorem Fr.mat {C : Ctx} {σ0 : Sig} {M0 : Mem} {w0 : World} {ds : List Deferred} {st st' : St} {a : Act} {w : World} (h : Fr C σ0 M0 w0 ds σ st a w) {t : Nat} {e : TypeId} {d : Data} (hm : matSt t e d st = some st') : ∃ σ', Fr C σ0 M0 w0 ds σ' st' a w := by
  unfold matSt at hm
  split at hm
  · rename_i z r c n m ht hd
    split at hm
    rotate_left
    · cases hm; exact ⟨_, h⟩
    have hd : d.size = 0 := by simpa using hd
    cases hm
    have hr := h.ok.rel
    have hadd := hr.add (w' := w) ⟨e, true, true, true, d⟩ ⟨w.heap.size, 0, 0⟩ (.inl ⟨rfl, hd⟩) (fun j bj y hj hy hvj hyb => by
      obtain ⟨y', hy', hok⟩ := hr.blk j bj hj
      rw [hy] at hy'; cases hy'
      have hno : ¬ (bj.rw = true ∨ ¬ bj.d.void) := fun h => by
        have := hok.lt hvj h
        simp only at hyb
        omega
      refine ⟨?_, .inr rfl⟩
      cases hq : bj.rw with
      | false => rfl
      | true => exact absurd (.inl hq) hno) (.inl rfl) (fun _ _ _ => rfl) (fun h => absurd h (Nat.lt_irrefl _))
    have hext : Ext σ (upd σ st.mem.length ⟨w.heap.size, 0, 0⟩) := upd_ext (hr.dom _ (Nat.le_refl _))
    have hmov : Moved C.P σ st.mem w (upd σ st.mem.length ⟨w.heap.size, 0, 0⟩) (st.mem ++ [some ⟨e, true, true, true, d⟩]) w := by
      refine ⟨hext, hadd, Kept.refl _ _ _, fun i hi => by unfold upd; rw [if_neg (by omega)], fun Q hQ hQ' k hk hf => ?_, by simp⟩
      obtain ⟨j, c, y, hj, hy, c1, c2, c3⟩ := hf
      by_cases hlt : j < st.mem.length
      · rw [Mem.at_append_left hlt] at hj
        unfold upd at hy
        rw [if_neg (by omega)] at hy
        exact ⟨j, c, y, hj, hy, c1, c2, c3⟩
      · rw [Mem.at_append_right (by omega), Mem.at_one] at hj
        split at hj
        · cases hj; cases c2
        · cases hj
    refine ⟨_, ⟨h.moved.trans hmov, ⟨(h.ok.env.mono hext).set_same ?_, hmov.rel, h.ok.gl.mono hext, Nat.le_trans h.ok.ng hmov.len⟩, h.defers, h.dom0, h.gl0, h.ng0⟩⟩
    have h1 := h.ok.env.2 t _ ht
    simp only [Rep] at h1 ⊢
    exact ⟨h1.1, fun hh => (by cases hh)⟩
  · cases hm; exact ⟨_, h⟩
theorem Fr.mats (l : List (Nat × TypeId × Data)) : ∀ {o : Option St}, (∀ s, o = some s → ∃ σ', Fr C σ0 M0 w0 ds σ' s a w) → ∀ s, l.foldl (fun s m => s.bind (matSt m.1 m.2.1 m.2.2)) o = some s → ∃ σ', Fr C σ0 M0 w0 ds σ' s a w := by
  induction l with
  | nil => intro o ho s hs; exact ho s hs
  | cons m l ih =>
    intro o ho s hs
    simp only [List.foldl_cons] at hs
    refine ih (fun s1 h1 => ?_) s hs
    obtain ⟨s0, h2, h3⟩ := Option.bind_eq_some_iff.1 h1
    obtain ⟨σ1, h4⟩ := ho s0 h2
    exact h4.mat h3
theorem Fr.tidy (h : Fr C σ0 M0 w0 ds σ st a w) {T : Tidy} (ht : T.go M0.length st = some st') : ∃ σ', Fr C σ0 M0 w0 ds σ' st' a w := by
  obtain ⟨s, h1, h2⟩ := Option.bind_eq_some_iff.1 ht
  obtain ⟨σ1, h3⟩ := Fr.mats T.mats (o := some st) (fun s hs => by cases hs; exact ⟨σ, h⟩) s h1
  exact h3.norm h2
theorem Fr.cond (h : Fr C σ0 M0 w0 ds σ st a w) {x : Operand} {c b : Bool} (hx : opnd C st.env x = .bool c b) : Fr C σ0 M0 w0 ds σ (condSt x b st) a w := by
  have hr := h.ok.opnd x
  rw [hx] at hr
  simp only [Rep] at hr
  cases x with
  | tmp t =>
    refine ⟨h.moved, ⟨h.ok.env.set_same ?_, h.ok.rel, h.ok.gl, h.ok.ng⟩, h.defers, h.dom0, h.gl0, h.ng0⟩
    simp only [Rep]
    exact hr
  | _ => exact h
/-- A loop, its rounds counted from outside. -/
theorem loop_idx {P : Program} {c : Code} {Q : Exit → Act → World → Prop} (I : Nat → Act → World → Prop) (round : ∀ m a w, I m a w → c.wp P (Exit.then (fun a' w' => ∃ m', m' < m ∧ I m' a' w') Q) a w) {m : Nat} {a : Act} {w : World} (h0 : I m a w) : (Code.loop c).wp P Q a w := by
  intro b k cs
  have key : ∀ n a w, I n a w → ∃ e a' w', Q e a' w' ∧ Arrives P (lone (b.at a (.code c :: .inLoop c :: k)) cs w) b k cs e a' w' := by
    intro n
    induction n using Nat.strongRecOn with
    | _ n ih =>
      intro a w hI
      obtain ⟨e, a1, w1, hq, harr⟩ := round n a w hI b (.inLoop c :: k) cs
      have pass : e ≠ .normal → Q e a1 w1 → ∃ e a' w', Q e a' w' ∧ Arrives P (lone (b.at a (.code c :: .inLoop c :: k)) cs w) b k cs e a' w' := fun hne hq => ⟨e, a1, w1, hq, .pass (x := .inLoop c) rfl (fun _ _ => .inl hne) harr⟩
      cases e with
      | normal =>
        obtain ⟨m', hlt, hI1⟩ := hq
        obtain ⟨e2, a2, w2, hq2, harr2⟩ := ih m' hlt a1 w1 hI1
        exact ⟨e2, a2, w2, hq2, .of_steps (Steps.trans harr (.one step_inLoop)) harr2⟩
      | _ => exact pass (by simp) hq
  obtain ⟨e, a', w', hq, harr⟩ := key m a w h0
  exact ⟨e, a', w', hq, .of_steps (.one step_loop) harr⟩
theorem code_ok (hC : CallOk C callF) (hmix : C.P.follows .mixedOrders = true) {f : FuncId} : ∀ (n : Nat) (c : Code) {st : St} {ex : Ex} {st' : St} {σ : Sig} {a : Act} {w : World}, (∀ b ∈ loopsIn c, (C.keep f (Code.key b)).isSome = true → LoopOk C f M0.length b) →
    (evCode C callF f M0.length n c st).runs (ex, st') → Fr C σ0 M0 w0 ds σ st a w → ∀ Q : Exit → Act → World → Prop, (∀ σ' a' w', Fr C σ0 M0 w0 ds σ' st' a' w' → Q ex.out a' w') → c.wp C.P Q a w := by
  intro n
  induction n using Nat.strongRecOn with
  | _ n0 ihs =>
    intro c st ex st' σ a w hL h hf Q hQ
    cases n0 with
    | zero => exact h.elim
    | succ n =>
    have ih := ihs n (Nat.lt_succ_self n)
    cases c with
    | skip => simp only [evCode, Tree.runs] at h; cases h; exact wp_skip (hQ σ a w hf)
    | label l => simp only [evCode, Tree.runs] at h; cases h; exact wp_label (hQ σ a w hf)
    | ret => simp only [evCode, Tree.runs] at h; cases h; exact wp_ret (hQ σ a w hf)
    | exit id => simp only [evCode, Tree.runs] at h; cases h; exact wp_exit (hQ σ a w hf)
    | seq x y =>
      simp only [evCode] at h
      obtain ⟨⟨ex1, st1⟩, h1, h2⟩ := Tree.runs_bind h
      refine wp_seq (ih x (fun b hb => hL b (by simp [loopsIn, hb])) h1 hf _ fun σ1 a1 w1 g => ?_)
      cases ex1 with
      | norm => exact ih y (fun b hb => hL b (by simp [loopsIn, hb])) h2 g Q hQ
      | exit id => simp only [Tree.runs] at h2; cases h2; exact hQ σ1 a1 w1 g
      | ret => simp only [Tree.runs] at h2; cases h2; exact hQ σ1 a1 w1 g
    | cond x y z =>
      simp only [evCode] at h
      split at h
      · rename_i k g hx
        have hr := hf.ok.opnd x
        rw [hx] at hr
        simp only [Rep] at hr
        rcases Tree.runs_ifB h with ⟨hg, h2⟩ | ⟨hg, h2⟩
        · subst hg
          exact wp_cond_true hr (ih y (fun b hb => hL b (by simp [loopsIn, hb])) h2 (hf.cond hx) Q hQ)
        · subst hg
          exact wp_cond_false hr (ih z (fun b hb => hL b (by simp [loopsIn, hb])) h2 (hf.cond hx) Q hQ)
      · exact h.elim
    | block id body =>
      simp only [evCode] at h
      obtain ⟨⟨ex1, st1⟩, h1, h2⟩ := Tree.runs_bind h
      refine wp_block (ih body (fun b hb => hL b (by simpa [loopsIn] using hb)) h1 hf _ fun σ1 a1 w1 g => ?_)
      cases ex1 with
      | norm => simp only [Tree.runs] at h2; cases h2; exact hQ σ1 a1 w1 g
      | ret => simp only [Tree.runs] at h2; cases h2; exact hQ σ1 a1 w1 g
      | exit id' =>
        dsimp only at h2
        split at h2
        · rename_i he
          have he : id' = id := by simpa using he
          simp only [Tree.runs] at h2; cases h2
          simp only [Ex.out, Exit.inBlock, he, if_true]
          exact hQ σ1 a1 w1 g
        · rename_i he
          have he : ¬ id' = id := by simpa using he
          simp only [Tree.runs] at h2; cases h2
          simp only [Ex.out, Exit.inBlock, he, if_false]
          exact hQ σ1 a1 w1 g
    | loop body =>
      simp only [evCode] at h
      split at h
      · rename_i ks hk
        split at h
        · rename_i st1 hn
          obtain ⟨σ1, h1⟩ := hf.tidy hn
          exact hL body (by simp [loopsIn]) (by rw [hk]; rfl) st1 ex st' h σ0 M0 w0 ds σ1 a w rfl h1 Q hQ
        · exact h.elim
      · rename_i hk
        have hunroll : ∀ m, m ≤ n → ∀ (st : St), (evCode C callF f M0.length (m + 1) (.loop body) st).runs (ex, st') → ∃ ex1 st1, (evCode C callF f M0.length m body st).runs (ex1, st1) ∧ ((ex1 = .norm ∧ (evCode C callF f M0.length m (.loop body) st1).runs (ex, st')) ∨ (ex1 ≠ .norm ∧ ex = ex1 ∧ st' = st1)) := by
          intro m _ st h
          simp only [evCode, hk] at h
          obtain ⟨⟨ex1, st1⟩, h1, h2⟩ := Tree.runs_bind h
          refine ⟨ex1, st1, h1, ?_⟩
          cases ex1 with
          | norm => exact .inl ⟨rfl, h2⟩
          | exit id => simp only [Tree.runs] at h2; cases h2; exact .inr ⟨by simp, rfl, rfl⟩
          | ret => simp only [Tree.runs] at h2; cases h2; exact .inr ⟨by simp, rfl, rfl⟩
        have hstart : (evCode C callF f M0.length (n + 1) (.loop body) st).runs (ex, st') := by simp only [evCode, hk]; exact h
        refine loop_idx (fun m a w => m ≤ n ∧ ∃ σ st, (evCode C callF f M0.length (m + 1) (.loop body) st).runs (ex, st') ∧ Fr C σ0 M0 w0 ds σ st a w) (fun m a w hI => ?_) (m := n) ⟨Nat.le_refl _, σ, st, hstart, hf⟩
        obtain ⟨hm, σ, st, hr, hf⟩ := hI
        obtain ⟨ex1, st1, h1, h2⟩ := hunroll m hm st hr
        refine ihs m (by omega) body (fun b hb => hL b (by simp [loopsIn, hb])) h1 hf _ fun σ1 a1 w1 g => ?_
        rcases h2 with ⟨rfl, h2⟩ | ⟨hne, rfl, rfl⟩
        · cases m with
          | zero => exact h2.elim
          | succ m => exact ⟨m, by omega, by omega, σ1, st1, h2, g⟩
        · cases ex with
          | norm => exact absurd rfl hne
          | exit id => exact hQ σ1 a1 w1 g
          | ret => exact hQ σ1 a1 w1 g
    | region id ops draw =>
      simp only [evCode] at h
      obtain ⟨st1, h1, h2⟩ := Tree.runs_bind h
      simp only [Tree.runs] at h2; cases h2
      exact region_ok hC hmix h1 hf.ok fun σ' a' w' g => hQ σ' a' w' (hf.went g)
    | _ => exact h.elim
end
end Go.Proofs.Ytonhkbgielilbaa.Rig

/- A reckoner over Go's operations: functions. -/
namespace Go.Proofs.Ytonhkbgielilbaa.Rig
open Go
def SoundAt (C : Ctx) (f : FuncId) (args : List AV) (M : Mem) (r : AV × Mem) : Prop :=
  ∀ σ w vals, RepL σ args vals → Rel C.P σ M w → GlOk C σ → C.ng ≤ M.length → Enters C.P f ∧ Comes' C.P σ M w f vals.toArray r
section
variable {C : Ctx} {callF : FuncId → List AV → Mem → Tree (AV × Mem)} {σ0 : Sig} {M0 : Mem} {w0 : World} {ds : List Deferred} {σ : Sig} {st st' : St} {a : Act} {w : World}
theorem loadAV_var {P : Program} {M : Mem} {t : TypeId} {x v : AV} {vx : Value} (h : (loadAV P t x M).runs v) (hx : Rep σ x vx) (hr : Rel P σ M w) : ∃ ad val, vx = .pointer (some ad) ∧ (loadVar t ad).run P w = .ok val w ∧ Rep σ v val := by
  obtain ⟨val, h1, h2⟩ := loadAV_ok h hx hr
  have : ∃ ad, vx = .pointer (some ad) := by
    unfold loadAV at h
    split at h
    · simp only [Rep] at hx
      obtain ⟨x, _, rfl⟩ := hx
      exact ⟨_, rfl⟩
    · exact h.elim
  obtain ⟨ad, rfl⟩ := this
  exact ⟨ad, val, rfl, by simpa [Instr.loadAt, Instr.sureAddr] using h1, h2⟩
def resSem (tmps : Array Value) : ResultVar → Sem Value
  | .tmp t => pure (tmps.getD t undef)
  | .cell ad t => do loadVar t (← asAddr (tmps.getD ad undef))
theorem results_eq (fn : Func) (tmps : Array Value) : results fn tmps = (do
    let vs ← fn.results.mapM (resSem tmps)
    pure (if h : vs.size = 1 then vs[0] else .tuple vs)) := by
  unfold results
  congr 1
theorem resAll_ok (hok : StOk C σ st a w) : ∀ (l : List ResultVar) {vs : List AV}, (resAll C.P st l).runs vs → ∃ vals, RepL σ vs vals ∧ (l.mapM (resSem a.tmps)).run C.P w = .ok vals w
  | [], vs, h => by
    simp only [resAll, Tree.runs] at h
    subst h
    exact ⟨[], RepL.nil, by simp⟩
  | r :: l, vs, h => by
    simp only [resAll] at h
    obtain ⟨v, h1, h2⟩ := Tree.runs_bind h
    obtain ⟨vs', h3, h4⟩ := Tree.runs_bind h2
    simp only [Tree.runs] at h4
    subst h4
    obtain ⟨vals, g1, g2⟩ := resAll_ok hok l h3
    cases r with
    | tmp t =>
      simp only [resAV, Tree.runs] at h1
      subst h1
      exact ⟨_, RepL.cons (hok.env.getD t) g1, by simp only [List.mapM_cons, Sem.run_bind, resSem, Sem.run_pure, Result.andThen_ok, g2]⟩
    | cell ad t =>
      simp only [resAV] at h1
      obtain ⟨p, val, e1, e2, e3⟩ := loadAV_var h1 (hok.env.getD ad) hok.rel
      exact ⟨_, RepL.cons e3 g1, by simp only [List.mapM_cons, Sem.run_bind, resSem, e1, asAddr, Sem.run_pure, Result.andThen_ok, e2, g2]⟩
theorem packRes_ok {vs : List AV} {vals : List Value} (h : RepL σ vs vals) : Rep σ (packRes vs) (if h : vals.toArray.size = 1 then vals.toArray[0] else .tuple vals.toArray) := by
  have hl := h.length
  cases vs with
  | nil =>
    simp only [RepL] at h
    subst h
    simp only [packRes, Rep]
    exact ⟨#[], rfl, RepL.nil⟩
  | cons v l =>
    cases l with
    | nil =>
      simp only [RepL] at h
      obtain ⟨u, r, rfl, h1, rfl⟩ := h
      simpa [packRes] using h1
    | cons v2 l =>
      have : ¬ vals.toArray.size = 1 := by simp at hl ⊢; omega
      rw [dif_neg this]
      simp only [packRes, Rep]
      exact ⟨_, rfl, h⟩
theorem finish_ok {fn : Func} (hf : Fr C σ0 M0 w0 [] σ st a w) {r : AV × Mem} (h : (finish C.P fn M0.length st).runs r) :
    a.defers = [] ∧ ∃ val σ', (results fn a.tmps).run C.P w = .ok val w ∧ Rep σ' r.1 val ∧ Moved C.P σ0 M0 w0 σ' r.2 w := by
  unfold finish at h
  obtain ⟨vs, h1, h2⟩ := Tree.runs_bind h
  dsimp only at h2
  split at h2
  · rename_i hnd
    simp only [Tree.runs] at h2
    subst h2
    obtain ⟨vals, g1, g2⟩ := resAll_ok hf.ok fn.results.toList h1
    have hs := hf.sub hnd (env := []) ⟨by simp, fun t v hv => by simp at hv⟩
    refine ⟨hf.defers, _, _, ?_, (packRes_ok g1).ren subSig_ren, hs.moved⟩
    rw [results_eq, Array.mapM_eq_mapM_toList]
    simp only [Sem.run_bind, Sem.run_map, g2, Result.andThen_ok, Sem.run_pure]
  · exact h2.elim
theorem body_ok (hC : CallOk C callF) (hmix : C.P.follows .mixedOrders = true) {f : FuncId} {args : List AV} {M : Mem} {r : AV × Mem} (hL : ∀ fn c, C.P.funcs[f]? = some fn → fn.body = some c → ∀ b ∈ loopsIn c, (C.keep f (Code.key b)).isSome = true → LoopOk C f M.length b)
    (h : (evBody C callF f args M).runs r) : SoundAt C f args M r := by
  intro σ w vals ha hr hg hng
  unfold evBody at h
  split at h
  · rename_i fn hfn
    split at h
    · rename_i c hc
      split at h
      · exact h.elim
      · rename_i hname
        have hname : ¬ fn.name = "runtime.NumGoroutine" := by simpa using hname
        obtain ⟨⟨ex, st'⟩, h1, h2⟩ := Tree.runs_bind h
        refine ⟨⟨fn, c, hfn, hc, by simpa using hname⟩, calls_of_wp hfn hc ?_⟩
        have hal := ha.length
        have hf : Fr C σ M w [] σ ⟨args ++ List.replicate (fn.ntmps - args.length) .junk, M⟩ { tmps := vals.toArray ++ Array.replicate (fn.ntmps - vals.toArray.size) undef, defers := [] } w := by
          refine ⟨Moved.refl hr, ⟨⟨by simp; omega, fun t v hv => ?_⟩, hr, hg, hng⟩, rfl, hr.dom, hg, hng⟩
          rw [Array.getD_eq_getD_getElem?]
          by_cases ht : t < args.length
          · rw [List.getElem?_append_left ht] at hv
            obtain ⟨u, hu, hru⟩ := ha.get hv
            rw [Array.getElem?_append_left (by simpa using (by omega))]
            simp only [List.getElem?_toArray, hu, Option.getD_some]
            exact hru
          · rw [List.getElem?_append_right (by omega)] at hv
            have := List.mem_of_getElem? hv
            rw [List.eq_of_mem_replicate this]
            simp only [Rep]
        refine code_ok hC hmix fuelC c (hL fn c hfn hc) h1 hf _ fun σ' a' w' g => ?_
        cases ex with
        | norm =>
          obtain ⟨d1, val, σ2, e1, e2, e3⟩ := finish_ok g h2
          exact ⟨d1, val, e1, val, σ2, rfl, e2, e3⟩
        | ret =>
          obtain ⟨d1, val, σ2, e1, e2, e3⟩ := finish_ok g h2
          exact ⟨d1, val, e1, val, σ2, rfl, e2, e3⟩
        | exit id => exact h2.elim
    · exact h.elim
  · exact h.elim
/-- What the table tells of calls is so. -/
def TabOk (C : Ctx) : Prop := ∀ f args M t, C.call f args M = some t → ∀ r, t.runs r → SoundAt C f args M r
theorem call_ok (hT : TabOk C) (hmix : C.P.follows .mixedOrders = true) (hK : ∀ f k, C.keep f k = none) : ∀ n, CallOk C (evCall C n)
  | 0, f, args, M, r, h => h.elim
  | n + 1, f, args, M, r, h => by
    unfold evCall at h
    split at h
    · rename_i t ht
      exact hT f args M t ht r h
    · exact body_ok (call_ok hT hmix hK n) hmix (fun _ _ _ _ b _ hb => by rw [hK] at hb; cases hb) h
end
end Go.Proofs.Ytonhkbgielilbaa.Rig

/- A reckoner over Go's operations: telling less of a state; loops. -/
namespace Go.Proofs.Ytonhkbgielilbaa.Rig
open Go
def Cap.le : Cap → Cap → Prop
  | _, .any => True
  | .exact, .exact => True
  | .own, .own => True
  | _, _ => False
mutual
def AV.le : AV → AV → Prop
  | _, .junk => True
  | .bool _ b, .bool _ b' => b = b'
  | .int k _ n, .int k' _ n' => k = k' ∧ n = n'
  | .nilp, .nilp => True
  | .ptr r, .ptr r' => r.id = r'.id ∧ r.pos = r'.pos
  | .sl z r _ len m, .sl z' r' _ len' m' => z = z' ∧ len = len' ∧ (z = false → r.id = r'.id ∧ r.pos = r'.pos ∧ m.le m')
  | .fn f a b, .fn f' a' b' => f = f' ∧ AV.leL a a' ∧ AV.leL b b'
  | .nilfn, .nilfn => True
  | .agg cs, .agg cs' => AV.leL cs cs'
  | .tup cs, .tup cs' => AV.leL cs cs'
  | _, _ => False
def AV.leL : List AV → List AV → Prop
  | [], [] => True
  | a :: l, b :: m => AV.le a b ∧ AV.leL l m
  | _, _ => False
end
def Data.le : Data → Data → Prop
  | .cells l, .cells l' => AV.leL l l'
  | .cells l, .ints k ns => intsOf k l = some ns
  | .ints k l, .ints k' l' => k = k' ∧ l = l'
  | .ints k l, .cells l' => AV.leL (l.map (.int k false)) l'
  | .tab sz n f, .tab sz' n' f' => sz = sz' ∧ n = n' ∧ ∀ i, i < n → AV.leL (f i) (f' i)
  | .cells l, .tab _ n _ => l.length = 0 ∧ n = 0
  | _, _ => False
def Blk.le (b b' : Blk) : Prop := b.e = b'.e ∧ (b'.rw = true → b.rw = true) ∧ b.virt = b'.virt ∧ (b'.row = true → b.row = true) ∧ b.d.le b'.d
def Mem.le : Mem → Mem → Prop
  | [], [] => True
  | _ :: M, none :: M' => Mem.le M M'
  | some b :: M, some b' :: M' => b.le b' ∧ Mem.le M M'
  | _, _ => False
def St.le (s t : St) : Prop := AV.leL s.env t.env ∧ Mem.le s.mem t.mem
section
variable {σ : Sig}
mutual
theorem AV.le.imp : ∀ {a b : AV}, a.le b → Imp a b := fun {a b} h σ v hv => by
  cases b with
  | junk => simp only [Rep]
  | bool c b' =>
    cases a <;> simp only [AV.le] at h
    subst h; simpa only [Rep] using hv
  | int k c n =>
    cases a <;> simp only [AV.le] at h
    obtain ⟨rfl, rfl⟩ := h; simpa only [Rep] using hv
  | nilp => cases a <;> simp only [AV.le] at h; exact hv
  | nilfn => cases a <;> simp only [AV.le] at h; exact hv
  | ptr r =>
    cases a <;> simp only [AV.le] at h
    simp only [Rep] at hv ⊢
    rw [← h.1, ← h.2]; exact hv
  | sl z r c len m =>
    cases a with
    | sl z1 r1 c1 len1 m1 =>
      simp only [AV.le] at h
      obtain ⟨rfl, rfl, h⟩ := h
      simp only [Rep] at hv ⊢
      refine ⟨hv.1, fun hz => ?_⟩
      obtain ⟨x, ad, cap, e1, e2, e3⟩ := hv.2 hz
      obtain ⟨h1, h2, h3⟩ := h hz
      refine ⟨x, ad, cap, by rw [← h1]; exact e1, e2, ?_⟩
      rw [← h2]
      have hadd := e3.addr
      cases m <;> cases m1 <;> simp only [Cap.le] at h3
      · exact e3
      · exact e3
      · exact ⟨e3.1, hadd⟩
      · exact ⟨e3.1, hadd⟩
      · exact e3
    | _ => simp only [AV.le] at h
  | fn f x y =>
    cases a <;> simp only [AV.le] at h
    obtain ⟨rfl, h1, h2⟩ := h
    simp only [Rep] at hv ⊢
    obtain ⟨p, q, e0, e1, e2⟩ := hv
    exact ⟨p, q, e0, AV.leL.imp h1 e1, AV.leL.imp h2 e2⟩
  | agg cs =>
    cases a <;> simp only [AV.le] at h
    simp only [Rep] at hv ⊢
    obtain ⟨p, e0, e1⟩ := hv
    exact ⟨p, e0, AV.leL.imp h e1⟩
  | tup cs =>
    cases a <;> simp only [AV.le] at h
    simp only [Rep] at hv ⊢
    obtain ⟨p, e0, e1⟩ := hv
    exact ⟨p, e0, AV.leL.imp h e1⟩
theorem AV.leL.imp {σ : Sig} : ∀ {l m : List AV} {vs : List Value}, AV.leL l m → RepL σ l vs → RepL σ m vs
  | [], [], vs, _, hr => hr
  | a :: l, b :: m, vs, h, hr => by
    simp only [AV.leL] at h
    simp only [RepL] at hr ⊢
    obtain ⟨v, r, e0, e1, e2⟩ := hr
    exact ⟨v, r, e0, AV.le.imp h.1 σ v e1, AV.leL.imp h.2 e2⟩
  | [], b :: m, vs, h, _ => by simp only [AV.leL] at h
  | a :: l, [], vs, h, _ => by simp only [AV.leL] at h
end
theorem AV.leL.get : ∀ {l m : List AV}, AV.leL l m → l.length = m.length ∧ ∀ (i : Nat) b, m[i]? = some b → ∃ a, l[i]? = some a ∧ Imp a b
  | [], [], _ => ⟨rfl, fun i b h => by simp at h⟩
  | a :: l, b :: m, h => by
    simp only [AV.leL] at h
    obtain ⟨h1, h2⟩ := AV.leL.get h.2
    refine ⟨by simp [h1], fun i c hc => ?_⟩
    cases i with
    | zero => simp at hc; subst hc; exact ⟨a, rfl, h.1.imp⟩
    | succ i => simpa using h2 i c (by simpa using hc)
  | [], b :: m, h => by simp only [AV.leL] at h
  | a :: l, [], h => by simp only [AV.leL] at h
theorem Data.le.get {d d' : Data} (h : d.le d') : d'.size = d.size ∧ ∀ (j : Nat) a, d'.get? j = some a → ∃ a', d.get? j = some a' ∧ Imp a' a := by
  cases d <;> cases d' <;> simp only [Data.le] at h
  case cells.cells l m =>
    obtain ⟨h1, h2⟩ := h.get
    exact ⟨h1.symm, h2⟩
  case cells.ints l k ns =>
    obtain ⟨h1, h2⟩ := intsOf_get h
    refine ⟨h1.symm, fun j a hj => ?_⟩
    simp only [Data.get?, Option.map_eq_some_iff] at hj
    obtain ⟨n, hn, rfl⟩ := hj
    obtain ⟨c, hc⟩ := h2 j n hn
    exact ⟨_, hc, Imp.int⟩
  case cells.tab l sz n f =>
    obtain ⟨h1, h2⟩ := h
    subst h2
    refine ⟨by simp [Data.size, h1], fun j a hj => ?_⟩
    simp [Data.get?] at hj
  case ints.ints k l k' l' =>
    obtain ⟨rfl, rfl⟩ := h
    exact ⟨rfl, fun j a hj => ⟨a, hj, Imp.refl a⟩⟩
  case ints.cells k l m =>
    obtain ⟨h1, h2⟩ := h.get
    refine ⟨by simpa [Data.size] using h1.symm, fun j a hj => ?_⟩
    obtain ⟨a', h3, h4⟩ := h2 j a hj
    exact ⟨a', by simpa [Data.get?] using h3, h4⟩
  case tab.tab sz n f sz' n' f' =>
    obtain ⟨rfl, rfl, h⟩ := h
    refine ⟨rfl, fun j a hj => ?_⟩
    simp only [Data.get?] at hj ⊢
    split at hj
    · rename_i hlt
      rw [if_pos hlt]
      have hsz : 0 < sz := by
        rcases Nat.eq_zero_or_pos sz with e | e
        · subst e; simp at hlt
        · exact e
      exact (h _ ((Nat.div_lt_iff_lt_mul hsz).2 hlt)).get.2 _ a hj
    · cases hj
theorem Data.le.void {d d' : Data} (h : d.le d') (hv : d.void) : d'.void := fun j => by
  cases hj : d'.get? j with
  | none => rfl
  | some a =>
    obtain ⟨a', h1, _⟩ := h.get.2 j a hj
    rw [hv j] at h1; cases h1
theorem Mem.le.at_ : ∀ {M M' : Mem}, Mem.le M M' → M.length = M'.length ∧ ∀ i b', M'.at i = some b' → ∃ b, M.at i = some b ∧ b.le b'
  | [], [], _ => ⟨rfl, fun i b h => by simp [Mem.at] at h⟩
  | o :: M, none :: M', h => by
    simp only [Mem.le] at h
    obtain ⟨h1, h2⟩ := h.at_
    refine ⟨by simp [h1], fun i b hb => ?_⟩
    cases i with
    | zero => simp [Mem.at] at hb
    | succ i => simpa [Mem.at] using h2 i b (by simpa [Mem.at] using hb)
  | some c :: M, some c' :: M', h => by
    simp only [Mem.le] at h
    obtain ⟨h1, h2⟩ := h.2.at_
    refine ⟨by simp [h1], fun i b hb => ?_⟩
    cases i with
    | zero => simp [Mem.at] at hb; subst hb; exact ⟨c, rfl, h.1⟩
    | succ i => simpa [Mem.at] using h2 i b (by simpa [Mem.at] using hb)
  | [], none :: M', h => by simp only [Mem.le] at h
  | [], some c' :: M', h => by simp only [Mem.le] at h
  | o :: M, [], h => by cases o <;> simp only [Mem.le] at h
  | none :: M, some c' :: M', h => by simp only [Mem.le] at h
theorem BlkOk.le {P : Program} {w : World} {x : Bl} {b b' : Blk} (h : BlkOk P σ w x b) (hl : b.le b') : BlkOk P σ w x b' := by
  obtain ⟨l1, l2, l3, l4, l5⟩ := hl
  obtain ⟨d1, d2⟩ := l5.get
  rcases h with ⟨h1, h2⟩ | ⟨h1, h2, h3⟩
  · exact .inl ⟨by rw [← l3]; exact h1, by rw [d1]; exact h2⟩
  · refine .inr ⟨by rw [← l3]; exact h1, fun j a hj => ?_, fun hr => ?_⟩
    · obtain ⟨a', e1, e2⟩ := d2 j a hj
      obtain ⟨v, e3, e4⟩ := h2 j a' e1
      exact ⟨v, e3, e2 _ _ e4⟩
    · obtain ⟨cur, c1, c2, c3, c4⟩ := h3 (l2 hr)
      exact ⟨cur, by rw [← l1]; exact c1, c2, by rw [d1]; exact c3, fun hq => by rw [← l1]; exact c4 (l4 hq)⟩
theorem Rel.le {P : Program} {w : World} {M M' : Mem} (h : Rel P σ M w) (hl : M.le M') : Rel P σ M' w := by
  obtain ⟨h1, h2⟩ := hl.at_
  refine ⟨fun i hi => h.dom i (by omega), fun i b' hi => ?_, fun i j bi bj x y hi hj hne hx hy hrw hvi hvj hxy => ?_⟩
  · obtain ⟨b, hb, hbl⟩ := h2 i b' hi
    obtain ⟨x, hx, hok⟩ := h.blk i b hb
    exact ⟨x, hx, hok.le hbl⟩
  · obtain ⟨b, hb, hbl⟩ := h2 i bi hi
    obtain ⟨c, hc, hcl⟩ := h2 j bj hj
    obtain ⟨e1, e2⟩ := h.sep i j b c x y hb hc hne hx hy (hbl.2.1 hrw) (by rw [hbl.2.2.1]; exact hvi) (by rw [hcl.2.2.1]; exact hvj) hxy
    refine ⟨?_, hcl.2.2.2.2.void e2⟩
    cases hq : bj.rw with
    | false => rfl
    | true => rw [hcl.2.1 hq] at e1; cases e1
theorem Moved.le {P : Program} {σ0 : Sig} {M0 M M' : Mem} {w0 w : World} (h : Moved P σ0 M0 w0 σ M w) (hl : M.le M') : Moved P σ0 M0 w0 σ M' w := by
  obtain ⟨h1, h2⟩ := hl.at_
  refine ⟨h.ext, h.rel.le hl, h.kept, h.agree, fun Q hQ hQ' k hk ho => ?_, by have := h.len; omega⟩
  obtain ⟨i, b', x, c1, c2, c3, c4, c5⟩ := ho
  obtain ⟨b, hb, hbl⟩ := h2 i b' c1
  exact h.occ Q hQ hQ' k hk ⟨i, b, x, hb, c2, hQ' b b' hbl.2.1 hbl.2.2.2.2.void c3, by rw [hbl.2.2.1]; exact c4, c5⟩
theorem Fr.le {C : Ctx} {σ0 : Sig} {M0 : Mem} {w0 : World} {ds : List Deferred} {st st' : St} {a : Act} {w : World} (h : Fr C σ0 M0 w0 ds σ st a w) (hl : st.le st') : Fr C σ0 M0 w0 ds σ st' a w := by
  have hm := h.moved.le hl.2
  obtain ⟨e1, e2⟩ := hl.1.get
  exact ⟨hm, ⟨⟨by rw [← e1]; exact h.ok.env.1, fun t v hv => by
    obtain ⟨u, hu, hi⟩ := e2 t v hv
    exact hi _ _ (h.ok.env.2 t u hu)⟩, hm.rel, h.ok.gl, by have := h.ok.ng; have := hl.2.at_.1; omega⟩, h.defers, h.dom0, h.gl0, h.ng0⟩

end

/-! ### a state made ready -/
section
variable {C : Ctx} {σ0 : Sig} {M0 : Mem} {w0 : World} {ds : List Deferred} {σ : Sig} {st st' : St} {a : Act} {w : World}
/-- The state st, made ready, tells at least what st' tells. -/
def Brings (lo : Nat) (T : Tidy) (st st' : St) : Prop := ∃ s, T.go lo st = some s ∧ s.le st'
theorem Fr.brings (h : Fr C σ0 M0 w0 ds σ st a w) {T : Tidy} (hb : Brings M0.length T st st') : ∃ σ', Fr C σ0 M0 w0 ds σ' st' a w := by
  obtain ⟨s, h1, h2⟩ := hb
  obtain ⟨σ1, h3⟩ := h.tidy h1
  exact ⟨σ1, h3.le h2⟩
/-- A LOOP, by its states x: 'hd x' stands at its head, 'res x' is what comes out of it. -/
theorem loop_ok {X : Type} {callF : FuncId → List AV → Mem → Tree (AV × Mem)} (hC : CallOk C callF) (hmix : C.P.follows .mixedOrders = true) {f : FuncId} {body : Code} (n : Nat) (hL : ∀ b ∈ loopsIn body, (C.keep f (Code.key b)).isSome = true → LoopOk C f M0.length b)
    (T : Tidy) (U : Ex → Tidy) (hd : X → St) (res : X → Ex → St → Prop) (μ : X → Nat)
    (step : ∀ x ex r, res x ex r → ∃ ex1 s, (evCode C callF f M0.length n body (hd x)).runs (ex1, s) ∧ match ex1 with
      | .norm => ∃ x', Brings M0.length T s (hd x') ∧ μ x' < μ x ∧ res x' ex r
      | e => ex = e ∧ Brings M0.length (U e) s r) {x : X} {ex : Ex} {r : St} (hr : res x ex r) (hf : Fr C σ0 M0 w0 ds σ (hd x) a w) {Q : Exit → Act → World → Prop}
    (hQ : ∀ σ' a' w', Fr C σ0 M0 w0 ds σ' r a' w' → Q ex.out a' w') : (Code.loop body).wp C.P Q a w := by
  refine loop_idx (fun m a w => ∃ x σ, μ x = m ∧ res x ex r ∧ Fr C σ0 M0 w0 ds σ (hd x) a w) (fun m a w hI => ?_) (m := μ x) ⟨x, σ, rfl, hr, hf⟩
  obtain ⟨x, σ, rfl, hr, hf⟩ := hI
  obtain ⟨ex1, s, h1, h2⟩ := step x ex r hr
  refine code_ok hC hmix n body hL h1 hf _ fun σ1 a1 w1 g => ?_
  cases ex1 with
  | norm =>
    obtain ⟨x', hb, hlt, hr'⟩ := h2
    obtain ⟨σ2, g2⟩ := g.brings hb
    exact ⟨μ x', hlt, x', σ2, rfl, hr', g2⟩
  | exit id =>
    obtain ⟨rfl, hb⟩ := h2
    obtain ⟨σ2, g2⟩ := g.brings hb
    exact hQ σ2 a1 w1 g2
  | ret =>
    obtain ⟨rfl, hb⟩ := h2
    obtain ⟨σ2, g2⟩ := g.brings hb
    exact hQ σ2 a1 w1 g2
end
end Go.Proofs.Ytonhkbgielilbaa.Rig

/- A reckoner over Go's operations: what its user needs. -/
namespace Go.Proofs.Ytonhkbgielilbaa.Rig
open Go
def Tree.Gives : Tree (AV × Mem) → AV → Mem → Prop
  | .ret a, v, M => a.1.le v ∧ Mem.le a.2 M
  | .br b t e, v, M => (b = true → t.Gives v M) ∧ (b = false → e.Gives v M)
  | .chk p t, v, M => p ∧ t.Gives v M
  | .fail, _, _ => False
theorem Tree.Gives.runs : ∀ {t : Tree (AV × Mem)} {v : AV} {M : Mem}, t.Gives v M → ∃ r, t.runs r ∧ r.1.le v ∧ Mem.le r.2 M
  | .ret a, v, M, h => ⟨a, rfl, h⟩
  | .br b t e, v, M, h => by
    cases b
    · obtain ⟨r, h1, h2⟩ := (h.2 rfl).runs
      exact ⟨r, ⟨fun hb => (by cases hb), fun _ => h1⟩, h2⟩
    · obtain ⟨r, h1, h2⟩ := (h.1 rfl).runs
      exact ⟨r, ⟨fun _ => h1, fun hb => (by cases hb)⟩, h2⟩
  | .chk p t, v, M, h => by
    obtain ⟨r, h1, h2⟩ := h.2.runs
    exact ⟨r, ⟨h.1, h1⟩, h2⟩
theorem SoundAt.le {C : Ctx} {f : FuncId} {args : List AV} {M : Mem} {r : AV × Mem} (h : SoundAt C f args M r) {v : AV} {M' : Mem} (h1 : r.1.le v) (h2 : Mem.le r.2 M') : SoundAt C f args M (v, M') := by
  intro σ w vals ha hr hg hng
  obtain ⟨he, hc⟩ := h σ w vals ha hr hg hng
  refine ⟨he, hc.mono fun e w' hp => ?_⟩
  obtain ⟨val, σ', rfl, h3, h4⟩ := hp
  exact ⟨val, σ', rfl, h1.imp _ _ h3, h4.le h2⟩
/-- Out of what the reckoning of a body gives. -/
theorem SoundAt.of_body {C : Ctx} {callF : FuncId → List AV → Mem → Tree (AV × Mem)} (hC : CallOk C callF) (hmix : C.P.follows .mixedOrders = true) {f : FuncId} {args : List AV} {M : Mem}
    (hL : ∀ fn c, C.P.funcs[f]? = some fn → fn.body = some c → ∀ b ∈ loopsIn c, (C.keep f (Code.key b)).isSome = true → LoopOk C f M.length b) {T : Tree (AV × Mem)} (hT : evBody C callF f args M = T) {v : AV} {M' : Mem} (h : T.Gives v M') : SoundAt C f args M (v, M') := by
  obtain ⟨r, h1, h2, h3⟩ := h.runs
  exact (body_ok hC hmix hL (by rw [hT]; exact h1)).le h2 h3
theorem w64 (n : Int) : IntKind.i64.wrap n = (n + 9223372036854775808) % 18446744073709551616 - 9223372036854775808 := by
  simp [IntKind.wrap, IntKind.bits, IntKind.signed]
  split <;> omega
theorem w64_id {n : Int} (h : -9223372036854775808 ≤ n) (h' : n ≤ 9223372036854775807) : IntKind.i64.wrap n = n := by rw [w64]; omega
theorem wu64 (n : Int) : IntKind.u64.wrap n = n % 18446744073709551616 := by
  simp [IntKind.wrap, IntKind.bits, IntKind.signed]
/-- At the top: nothing that was there is turned. -/
theorem SoundAt.top {C : Ctx} {f : FuncId} {args : List AV} {M : Mem} {M' : Mem} {c : Bool} (h : SoundAt C f args M (.bool c true, M')) (hro : ∀ i b, M.at i = some b → b.rw = false) {σ : Sig} {w : World} {vals : List Value}
    (ha : RepL σ args vals) (hr : Rel C.P σ M w) (hg : GlOk C σ) (hng : C.ng ≤ M.length) : Calls C.P f vals.toArray w fun e w' => e = .returned (.bool true) ∧ RowKit.Below w.heap.size w w' := by
  refine (h σ w vals ha hr hg hng).2.mono fun e w' hp => ?_
  obtain ⟨val, σ', rfl, hv, hm⟩ := hp
  simp only [Rep] at hv
  subst hv
  refine ⟨rfl, hm.kept.os, hm.kept.tape, hm.kept.output, hm.kept.size, fun k hk => hm.kept.block k hk fun hf => ?_⟩
  obtain ⟨i, b, x, h1, _, h3, _⟩ := hf
  rw [hro i b h1] at h3; cases h3
theorem Rel.empty (P : Program) (w : World) : Rel P (fun _ => none) [] w := ⟨fun _ _ => rfl, fun i b h => by simp [Mem.at] at h, fun i j bi bj x y h => by simp [Mem.at] at h⟩
theorem SoundAt.top0 {C : Ctx} {f : FuncId} {args : List AV} {c : Bool} (h : SoundAt C f args [] (.bool c true, [])) (hgl : ∀ g, C.gl g = none) (hng : C.ng = 0) {w : World} {vals : List Value} (ha : RepL (fun _ => none) args vals) :
    Calls C.P f vals.toArray w fun e w' => e = .returned (.bool true) ∧ RowKit.Below w.heap.size w w' :=
  h.top (fun i b h => by simp [Mem.at] at h) ha (Rel.empty C.P w) (fun g i h => by rw [hgl] at h; cases h) (by rw [hng]; exact Nat.zero_le _)
theorem wf64 {n : Int} (h : (Lit.int .i64 n).wf = true) : -9223372036854775808 ≤ n ∧ n ≤ 9223372036854775807 := by
  simp [Lit.wf, IntKind.min, IntKind.max, IntKind.signed, IntKind.bits] at h
  omega
theorem wfu64 {n : Int} (h : (Lit.int .u64 n).wf = true) : 0 ≤ n ∧ n ≤ 18446744073709551615 := by
  simp [Lit.wf, IntKind.min, IntKind.max, IntKind.signed, IntKind.bits] at h
  omega
end Go.Proofs.Ytonhkbgielilbaa.Rig

/- A reckoner over Go's operations: tables of what is known of functions. -/
namespace Go.Proofs.Ytonhkbgielilbaa.Rig
open Go
abbrev Ent := List AV → Mem → Option (Tree (AV × Mem))
def look : List (FuncId × Ent) → FuncId → Ent
  | [], _, _, _ => none
  | (g, e) :: l, f, a, M => match Nat.beq f g with | true => e a M | false => look l f a M
def mkC (P : Program) (ng : Nat) (gl : Nat → Option Nat) (l : List (FuncId × Ent)) : Ctx :=
  { P := P, ng := ng, gl := gl, call := look l, keep := fun _ _ => none, loop := fun _ _ _ => .fail }
def EntOk (P : Program) (ng : Nat) (gl : Nat → Option Nat) (f : FuncId) (e : Ent) : Prop :=
  ∀ args M t, e args M = some t → ∀ r, t.runs r → SoundAt (mkC P ng gl []) f args M r
def AllOk (P : Program) (ng : Nat) (gl : Nat → Option Nat) : List (FuncId × Ent) → Prop
  | [] => True
  | p :: l => EntOk P ng gl p.1 p.2 ∧ AllOk P ng gl l
section
variable {P : Program} {ng : Nat} {gl : Nat → Option Nat}
theorem tab_ok : ∀ {l : List (FuncId × Ent)}, AllOk P ng gl l → TabOk (mkC P ng gl l)
  | [], _, f, args, M, t, h, r, hr => by cases h
  | (g, e) :: l, hl, f, args, M, t, h, r, hr => by
    have h' : (match Nat.beq f g with | true => e args M | false => look l f args M) = some t := h
    cases hb : Nat.beq f g
    · rw [hb] at h'
      exact tab_ok hl.2 f args M t h' r hr
    · rw [hb] at h'
      have := Nat.eq_of_beq_eq_true hb
      subst this
      exact hl.1 args M t h' r hr
theorem sound_of {l : List (FuncId × Ent)} (hA : AllOk P ng gl l) (hmix : P.follows .mixedOrders = true) {f : FuncId} {args : List AV} {M : Mem} {T : Tree (AV × Mem)}
    (hT : evBody (mkC P ng gl l) (evCall (mkC P ng gl l) 50) f args M = T) {v : AV} {M' : Mem} (h : T.Gives v M') : SoundAt (mkC P ng gl []) f args M (v, M') :=
  SoundAt.of_body (C := mkC P ng gl l) (call_ok (tab_ok hA) hmix (fun _ _ => rfl) 50) hmix (fun _ _ _ _ b _ hb => by cases hb) hT h
theorem leL_rep {σ : Sig} : ∀ {us bs : List AV} {vals : List Value}, AV.leL us bs → RepL σ us vals → RepL σ bs vals
  | [], [], _, _, h => h
  | [], _ :: _, _, h, _ => by simp only [AV.leL] at h
  | _ :: _, [], _, h, _ => by simp only [AV.leL] at h
  | a :: us, b :: bs, vals, h, hr => by
    simp only [AV.leL] at h
    simp only [RepL] at hr
    obtain ⟨u, r, rfl, h1, h2⟩ := hr
    simp only [RepL]
    exact ⟨u, r, rfl, h.1.imp _ _ h1, leL_rep h.2 h2⟩
theorem SoundAt.flags {C : Ctx} {f : FuncId} {us bs : List AV} {M : Mem} {r : AV × Mem} (h : SoundAt C f bs M r) (hl : AV.leL us bs) : SoundAt C f us M r :=
  fun σ w vals ha hr hg hng => h σ w vals (leL_rep hl ha) hr hg hng
end
theorem Cap.le_refl (m : Cap) : m.le m := by cases m <;> trivial
mutual
theorem AV.le_refl : ∀ a : AV, a.le a
  | .junk => by simp only [AV.le]
  | .bool _ _ => by simp only [AV.le]
  | .int _ _ _ => by simp only [AV.le, and_self]
  | .nilp => by simp only [AV.le]
  | .ptr _ => by simp only [AV.le, and_self]
  | .sl _ _ _ _ m => by unfold AV.le; exact ⟨rfl, rfl, fun _ => ⟨rfl, rfl, Cap.le_refl m⟩⟩
  | .fn _ a b => by unfold AV.le; exact ⟨rfl, AV.leL_refl a, AV.leL_refl b⟩
  | .nilfn => by simp only [AV.le]
  | .agg cs => by simp only [AV.le]; exact AV.leL_refl cs
  | .tup cs => by simp only [AV.le]; exact AV.leL_refl cs
theorem AV.leL_refl : ∀ l : List AV, AV.leL l l
  | [] => by simp only [AV.leL]
  | a :: l => by simp only [AV.leL]; exact ⟨AV.le_refl a, AV.leL_refl l⟩
end
theorem Data.le_refl (d : Data) : d.le d := by
  cases d with
  | cells l => simp only [Data.le]; exact AV.leL_refl l
  | ints k l => simp only [Data.le, and_self]
  | tab sz n f => unfold Data.le; exact ⟨rfl, rfl, fun i _ => AV.leL_refl _⟩
theorem Blk.le_refl (b : Blk) : b.le b := ⟨rfl, id, rfl, id, Data.le_refl _⟩
theorem Mem.le_refl : ∀ M : Mem, Mem.le M M
  | [] => by simp only [Mem.le]
  | none :: M => by simp only [Mem.le]; exact Mem.le_refl M
  | some b :: M => by simp only [Mem.le]; exact ⟨Blk.le_refl b, Mem.le_refl M⟩
theorem Tree.Gives.br {b : Bool} {t e : Tree (AV × Mem)} {v : AV} {M : Mem} (h : b = true → t.Gives v M) (h' : b = false → e.Gives v M) : (Tree.br b t e).Gives v M := ⟨h, h'⟩
theorem Tree.Gives.chk {p : Prop} {t : Tree (AV × Mem)} {v : AV} {M : Mem} (h : p) (h' : t.Gives v M) : (Tree.chk p t).Gives v M := ⟨h, h'⟩
theorem Tree.Gives.ret {a v : AV} {M M' : Mem} (h : a.le v) (h' : Mem.le M M') : (Tree.ret (a, M)).Gives v M' := ⟨h, h'⟩
end Go.Proofs.Ytonhkbgielilbaa.Rig

/- A reckoner over Go's operations: loops, as a user has them. -/
namespace Go.Proofs.Ytonhkbgielilbaa.Rig
open Go
/-- All that a reckoning may come to is so. -/
def Tree.Sat {α : Type} (Q : α → Prop) : Tree α → Prop
  | .ret a => Q a
  | .br b t e => (b = true → t.Sat Q) ∧ (b = false → e.Sat Q)
  | .chk p t => p ∧ t.Sat Q
  | .fail => False
theorem Tree.Sat.runs {α : Type} {Q : α → Prop} : ∀ {t : Tree α}, t.Sat Q → ∃ r, t.runs r ∧ Q r
  | .ret a, h => ⟨a, rfl, h⟩
  | .br b t e, h => by
    cases b
    · obtain ⟨r, h1, h2⟩ := (h.2 rfl).runs
      exact ⟨r, ⟨fun hb => (by cases hb), fun _ => h1⟩, h2⟩
    · obtain ⟨r, h1, h2⟩ := (h.1 rfl).runs
      exact ⟨r, ⟨fun _ => h1, fun hb => (by cases hb)⟩, h2⟩
  | .chk p t, h => by
    obtain ⟨r, h1, h2⟩ := h.2.runs
    exact ⟨r, ⟨h.1, h1⟩, h2⟩
theorem Tree.Sat.br {α : Type} {Q : α → Prop} {b : Bool} {t e : Tree α} (h : b = true → t.Sat Q) (h' : b = false → e.Sat Q) : (Tree.br b t e).Sat Q := ⟨h, h'⟩
theorem Tree.Sat.chk {α : Type} {Q : α → Prop} {p : Prop} {t : Tree α} (h : p) (h' : t.Sat Q) : (Tree.chk p t).Sat Q := ⟨h, h'⟩
theorem Tree.Sat.ret {α : Type} {Q : α → Prop} {a : α} (h : Q a) : (Tree.ret a).Sat Q := h
/-- A function's loops. -/
def loopsAt (P : Program) (f : FuncId) : List Code := match P.funcs[f]? with | some fn => (match fn.body with | some c => loopsIn c | none => []) | none => []
def bodyAt (P : Program) (f : FuncId) (i : Nat) : Code := (loopsAt P f).getD i .skip
structure LoopRow where
  f : FuncId
  key : Nat
  tidy : Tidy
  ans : St → Tree (Ex × St)
def lookL : List LoopRow → FuncId → Nat → Option LoopRow
  | [], _, _ => none
  | r :: l, f, k => match Nat.beq f r.f && Nat.beq k r.key with | true => some r | false => lookL l f k
/-- A table, and what is known of loops. -/
def mkL (P : Program) (ng : Nat) (gl : Nat → Option Nat) (l : List (FuncId × Ent)) (ls : List LoopRow) : Ctx :=
  { P := P, ng := ng, gl := gl, call := look l, keep := fun f k => (lookL ls f k).map LoopRow.tidy, loop := fun f k st => match lookL ls f k with | some r => r.ans st | none => .fail }
section
variable {P : Program} {ng : Nat} {gl : Nat → Option Nat}
theorem loopOk_of {X : Type} {C : Ctx} {callF : FuncId → List AV → Mem → Tree (AV × Mem)} (hC : CallOk C callF) (hmix : C.P.follows .mixedOrders = true) {f : FuncId} {body : Code} {lo : Nat}
    (inner : ∀ b ∈ loopsIn body, (C.keep f (Code.key b)).isSome = true → LoopOk C f lo b)
    (T : Tidy) (U : Ex → Tidy) (hd : X → St) (resT : X → Tree (Ex × St)) (μ : X → Nat)
    (hL : ∀ st ex r, (C.loop f (Code.key body) st).runs (ex, r) → ∃ x, st.le (hd x) ∧ (resT x).runs (ex, r))
    (step : ∀ x ex r, (resT x).runs (ex, r) → (evCode C callF f lo fuelC body (hd x)).Sat fun p => match p.1 with
      | .norm => ∃ x', Brings lo T p.2 (hd x') ∧ μ x' < μ x ∧ (resT x').runs (ex, r)
      | e => ex = e ∧ Brings lo (U e) p.2 r) : LoopOk C f lo body := by
  intro st ex st' h σ0 M0 w0 ds σ a w hlo hf Q hQ
  subst hlo
  obtain ⟨x, h1, h2⟩ := hL st ex st' h
  refine loop_ok hC hmix fuelC inner T U hd (fun x ex r => (resT x).runs (ex, r)) μ (fun x ex r hr => ?_) h2 (hf.le h1) hQ
  obtain ⟨⟨ex1, s⟩, g1, g2⟩ := (step x ex r hr).runs
  exact ⟨ex1, s, g1, g2⟩
def tidied (T : Tidy) (U : Ex → Tidy) (lo : Nat) (t : Tree (Ex × St)) : Tree (Ex × St) :=
  t.bind fun p => match (match p.1 with | .norm => T | e => U e).go lo p.2 with | some s => .ret (p.1, s) | none => .fail
theorem Tree.Sat.of_bind {α β : Type} {Q : β → Prop} {k : α → Tree β} : ∀ {t : Tree α}, (t.bind k).Sat Q → t.Sat fun a => (k a).Sat Q
  | .ret a, h => h
  | .br b t e, h => ⟨fun hb => (h.1 hb).of_bind, fun hb => (h.2 hb).of_bind⟩
  | .chk p t, h => ⟨h.1, h.2.of_bind⟩
  | .fail, h => h.elim
theorem Tree.Sat.mono {α : Type} {Q R : α → Prop} (hQ : ∀ a, Q a → R a) : ∀ {t : Tree α}, t.Sat Q → t.Sat R
  | .ret a, h => hQ a h
  | .br b t e, h => ⟨fun hb => (h.1 hb).mono hQ, fun hb => (h.2 hb).mono hQ⟩
  | .chk p t, h => ⟨h.1, h.2.mono hQ⟩
  | .fail, h => h.elim
/-- A loop, where each round is told behind its tidying. -/
theorem loopOk_tidied {X : Type} {C : Ctx} {callF : FuncId → List AV → Mem → Tree (AV × Mem)} (hC : CallOk C callF) (hmix : C.P.follows .mixedOrders = true) {f : FuncId} {body : Code} {lo : Nat}
    (inner : ∀ b ∈ loopsIn body, (C.keep f (Code.key b)).isSome = true → LoopOk C f lo b)
    (T : Tidy) (U : Ex → Tidy) (hd : X → St) (resT : X → Tree (Ex × St)) (μ : X → Nat)
    (hL : ∀ st ex r, (C.loop f (Code.key body) st).runs (ex, r) → ∃ x, st.le (hd x) ∧ (resT x).runs (ex, r))
    (step : ∀ x ex r, (resT x).runs (ex, r) → (tidied T U lo (evCode C callF f lo fuelC body (hd x))).Sat fun p => match p.1 with
      | .norm => ∃ x', p.2.le (hd x') ∧ μ x' < μ x ∧ (resT x').runs (ex, r)
      | e => ex = e ∧ p.2.le r) : LoopOk C f lo body := by
  refine loopOk_of hC hmix inner T U hd resT μ hL fun x ex r hr => ((step x ex r hr).of_bind).mono fun p hp => ?_
  obtain ⟨e, s⟩ := p
  dsimp only at hp
  split at hp
  · rename_i s' hs
    simp only [Tree.Sat] at hp
    cases e with
    | norm =>
      dsimp only at hp hs ⊢
      obtain ⟨x', h1, h2, h3⟩ := hp
      exact ⟨x', ⟨s', hs, h1⟩, h2, h3⟩
    | exit id => exact ⟨hp.1, s', hs, hp.2⟩
    | ret => exact ⟨hp.1, s', hs, hp.2⟩
  · exact hp.elim
theorem sound_loops {l : List (FuncId × Ent)} {ls : List LoopRow} (hA : AllOk P ng gl l) (hmix : P.follows .mixedOrders = true) {f : FuncId} {args : List AV} {M : Mem}
    (hL : ∀ i, i < (loopsAt P f).length → LoopOk (mkL P ng gl l ls) f M.length (bodyAt P f i)) {T : Tree (AV × Mem)}
    (hT : evBody (mkL P ng gl l ls) (evCall (mkC P ng gl l) 50) f args M = T) {v : AV} {M' : Mem} (h : T.Gives v M') : SoundAt (mkC P ng gl []) f args M (v, M') := by
  refine SoundAt.of_body (C := mkL P ng gl l ls) (callF := evCall (mkC P ng gl l) 50) (call_ok (tab_ok hA) hmix (fun _ _ => rfl) 50) hmix (fun fn c hfn hc b hb _ => ?_) hT h
  obtain ⟨i, hi, rfl⟩ := List.mem_iff_getElem.1 hb
  have e : loopsAt P f = loopsIn c := by
    unfold loopsAt
    rw [show P.funcs[f]? = some fn from hfn]
    simp only [hc]
  have := hL i (by rw [e]; exact hi)
  unfold bodyAt at this
  rw [e, List.getD_eq_getElem?_getD, List.getElem?_eq_getElem hi] at this
  exact this
theorem loop_row {X : Type} {l : List (FuncId × Ent)} {ls : List LoopRow} (hA : AllOk P ng gl l) (hmix : P.follows .mixedOrders = true) {f : FuncId} {body : Code} {lo : Nat} {row : LoopRow} (hrow : lookL ls f (Code.key body) = some row)
    (inner : ∀ b ∈ loopsIn body, ((mkL P ng gl l ls).keep f (Code.key b)).isSome = true → LoopOk (mkL P ng gl l ls) f lo b)
    (U : Ex → Tidy) (hd : X → St) (resT : X → Tree (Ex × St)) (μ : X → Nat)
    (hL : ∀ st ex r, (row.ans st).runs (ex, r) → ∃ x, st.le (hd x) ∧ (resT x).runs (ex, r))
    (step : ∀ x ex r, (resT x).runs (ex, r) → (tidied row.tidy U lo (evCode (mkL P ng gl l ls) (evCall (mkC P ng gl l) 50) f lo fuelC body (hd x))).Sat fun p => match p.1 with
      | .norm => ∃ x', p.2.le (hd x') ∧ μ x' < μ x ∧ (resT x').runs (ex, r)
      | e => ex = e ∧ p.2.le r) : LoopOk (mkL P ng gl l ls) f lo body :=
  loopOk_tidied (C := mkL P ng gl l ls) (callF := evCall (mkC P ng gl l) 50) (call_ok (tab_ok hA) hmix (fun _ _ => rfl) 50) hmix inner row.tidy U hd resT μ
    (fun st ex r h => hL st ex r (by
      have e : (mkL P ng gl l ls).loop f (Code.key body) st = row.ans st := by
        show (match lookL ls f (Code.key body) with | some r => r.ans st | none => .fail) = _
        rw [hrow]
      rw [e] at h
      exact h)) step
theorem callOk_of {l : List (FuncId × Ent)} {ls : List LoopRow} (hA : AllOk P ng gl l) (hmix : P.follows .mixedOrders = true) : CallOk (mkL P ng gl l ls) (evCall (mkC P ng gl l) 50) :=
  call_ok (tab_ok hA) hmix (fun _ _ => rfl) 50
end
end Go.Proofs.Ytonhkbgielilbaa.Rig

/- A reckoner over Go's operations: arguments that are rows. -/
namespace Go.Proofs.Ytonhkbgielilbaa.Rig
open Go
/-- What came in: blocks that are only read. -/
theorem rel_args {P : Program} {w : World} (bs : List Bl) (M : Mem) (hlen : bs.length = M.length) (h : ∀ i b, M.at i = some b → ∃ x, bs[i]? = some x ∧ b.rw = false ∧ ∀ σ, BlkOk P σ w x b) : Rel P (fun i => bs[i]?) M w := by
  refine ⟨fun i hi => by simp only [List.getElem?_eq_none_iff]; omega, fun i b hb => ?_, fun i j bi bj x y hi hj hne hx hy hrw => ?_⟩
  · obtain ⟨x, h1, _, h3⟩ := h i b hb
    exact ⟨x, h1, h3 _⟩
  · obtain ⟨_, _, h2, _⟩ := h i bi hi
    rw [h2] at hrw; cases hrw
theorem arg_ints {P : Program} {w : World} {k : IntKind} {a : Option Addr} {len cap : Nat} {zs : List Int} (e : TypeId)
    (h : (a = none ∧ len = 0 ∧ cap = 0 ∧ zs = []) ∨ ∃ x, a = some x ∧ len ≤ cap ∧ cap ≤ maxLen ∧ zs.length = cap ∧ (∀ i, i < zs.length → w.cell? (x.add i) = some (.int k (zs.getD i 0))) ∧ ∀ n ∈ zs, (Lit.int k n).wf = true) :
    ∃ (z : Bool) (l : List Int) (b : Bl), l.length = len ∧ (z = true → l = []) ∧ l.length ≤ maxLen ∧ (∀ n ∈ l, (Lit.int k n).wf = true) ∧
      (∀ (σ : Sig) i, σ i = some b → Rep σ (.sl z ⟨i, 0, 0, 0⟩ false l.length .any) (.slice a len cap)) ∧ ∀ σ, BlkOk P σ w b ⟨e, false, false, true, .ints k l⟩ := by
  rcases h with ⟨rfl, rfl, rfl, rfl⟩ | ⟨x, rfl, h1, h2, h3, h4, h5⟩
  · refine ⟨true, [], ⟨0, 0, 0⟩, rfl, fun _ => rfl, by simp, by simp, fun σ i hi => ?_, fun σ => .inr ⟨rfl, fun j a hj => by simp [Data.get?] at hj, fun h => (by cases h)⟩⟩
    simp [Rep]
  · have hl : (zs.take len).length = len := by rw [List.length_take]; omega
    have hcell : ∀ i, i < len → w.cell? (x.add i) = some (.int k ((zs.take len).getD i 0)) := fun i hi => by
      rw [h4 i (by omega), List.getD_eq_getElem?_getD, List.getD_eq_getElem?_getD, List.getElem?_take, if_pos hi]
    refine ⟨false, zs.take len, ⟨x.block, x.off, 0⟩, hl, fun h => (by cases h), by omega, fun n hn => h5 n (List.mem_of_mem_take hn), fun σ i hi => ?_, fun σ => .inr ⟨rfl, fun j a hj => ?_, fun h => (by cases h)⟩⟩
    · simp only [Rep]
      refine ⟨fun h => (by cases h), fun _ => ⟨_, x, cap, hi, by rw [hl], by omega, ?_⟩⟩
      by_cases h0 : len = 0
      · exact .inr (by rw [hl]; exact h0)
      · left
        have := hcell 0 (by omega)
        unfold World.cell? at this
        cases hs : x.spot with
        | none => cases x; simp only at hs; subst hs; rfl
        | some q =>
          exfalso
          simp only [Addr.add, if_true] at this
          rw [hs] at this
          split at this <;> simp at this
    · simp only [Data.get?, Option.map_eq_some_iff] at hj
      obtain ⟨n, hn, rfl⟩ := hj
      have hjl : j < len := by have := (List.getElem?_eq_some_iff.1 hn).1; omega
      refine ⟨.int k n, ?_, by simp only [Rep]⟩
      have := hcell j hjl
      rw [List.getD_eq_getElem?_getD, hn] at this
      simp only [Option.getD_some] at this
      rw [← this]
      unfold World.cell?
      have e1 : (x.add j).block = x.block := by unfold Addr.add; split <;> rfl
      have e2 : (x.add j).off = x.off + j := by unfold Addr.add; split <;> simp_all
      have e3 : (x.add j).spot = none := by
        unfold Addr.add
        split
        · rename_i hj0
          subst hj0
          unfold World.cell? at this
          cases hs : x.spot with
          | none => rfl
          | some q =>
            exfalso
            simp only [Addr.add, if_true] at this
            rw [hs] at this
            split at this <;> simp at this
        · rfl
      rw [e1, e2, e3]
      rfl
theorem cell_at {w : World} {x : Addr} {j : Nat} {v : Value} (h : w.cell? (x.add j) = some v) : w.cell? (Bl.at ⟨x.block, x.off, 0⟩ j) = some v ∧ (j = 0 → x.spot = none) := by
  have e1 : (x.add j).block = x.block := by unfold Addr.add; split <;> rfl
  have e2 : (x.add j).off = x.off + j := by unfold Addr.add; split <;> simp_all
  have e3 : (x.add j).spot = none := by
    unfold World.cell? at h
    cases hs : (x.add j).spot with
    | none => rfl
    | some q => rw [hs] at h; split at h <;> simp at h
  have e : x.add j = Bl.at ⟨x.block, x.off, 0⟩ j := by
    simp only [Bl.at]
    generalize x.add j = y at *
    cases y
    simp_all
  exact ⟨by rw [← e]; exact h, fun hj => by subst hj; simpa [Addr.add] using e3⟩
/-- A row of structs of two whole numbers that came in. -/
theorem arg_pairs {P : Program} {w : World} {a : Option Addr} {len cap : Nat} {c q : Nat → Int} (e : TypeId)
    (h : (a = none ∧ len = 0 ∧ cap = 0) ∨ ∃ x, a = some x ∧ len ≤ cap ∧ len ≤ maxLen ∧ ∀ i, i < len → w.cell? (x.add (i * 2)) = some (.int .i64 (c i)) ∧ w.cell? (x.add (i * 2 + 1)) = some (.int .i64 (q i)) ∧ (Lit.int .i64 (c i)).wf = true ∧ (Lit.int .i64 (q i)).wf = true) :
    ∃ (z : Bool) (b : Bl), (z = true → len = 0) ∧ len ≤ maxLen ∧ (∀ (σ : Sig) i, σ i = some b → Rep σ (.sl z ⟨i, 0, 0, 0⟩ false len .any) (.slice a len cap)) ∧
      ∀ σ, BlkOk P σ w b ⟨e, false, false, true, .tab 2 len fun i => [.int .i64 false (c i), .int .i64 false (q i)]⟩ := by
  rcases h with ⟨rfl, rfl, rfl⟩ | ⟨x, rfl, h1, h2, h4⟩
  · refine ⟨true, ⟨0, 0, 0⟩, fun _ => rfl, by simp, fun σ i hi => by simp [Rep], fun σ => .inr ⟨rfl, fun j a hj => by simp [Data.get?] at hj, fun h => (by cases h)⟩⟩
  · refine ⟨false, ⟨x.block, x.off, 0⟩, fun h => (by cases h), h2, fun σ i hi => ?_, fun σ => .inr ⟨rfl, fun j a hj => ?_, fun h => (by cases h)⟩⟩
    · simp only [Rep]
      refine ⟨fun h => (by cases h), fun _ => ⟨_, x, cap, hi, rfl, h1, ?_⟩⟩
      by_cases h0 : len = 0
      · exact .inr h0
      · left
        have := (cell_at (h4 0 (by omega)).1).2 (by omega)
        cases x; simp only at this; subst this; rfl
    · simp only [Data.get?] at hj
      split at hj
      · rename_i hlt
        have g := h4 (j / 2) (by omega)
        rcases (by omega : j % 2 = 0 ∨ j % 2 = 1) with hm | hm
        · rw [hm] at hj
          simp only [List.getElem?_cons_zero, Option.some.injEq] at hj
          subst hj
          refine ⟨.int .i64 (c (j / 2)), ?_, by simp only [Rep]⟩
          have := (cell_at g.1).1
          rwa [show j / 2 * 2 = j by omega] at this
        · rw [hm] at hj
          simp only [List.getElem?_cons_succ, List.getElem?_cons_zero, Option.some.injEq] at hj
          subst hj
          refine ⟨.int .i64 (q (j / 2)), ?_, by simp only [Rep]⟩
          have := (cell_at g.2.1).1
          rwa [show j / 2 * 2 + 1 = j by omega] at this
      · cases hj
end Go.Proofs.Ytonhkbgielilbaa.Rig

/- Words of the cycle. -/
namespace Go.Proofs.Ytonhkbgielilbaa.Rig
open Go
theorem mix : Try.prog.follows .mixedOrders = true := by kernel_rfl
theorem all0 : AllOk Try.prog 0 (fun _ => none) [] := trivial
def ok4 (th su cy ca : Int) : Bool := decide (0 ≤ th ∧ th ≤ 1125899906842624 ∧ 0 ≤ su ∧ su ≤ 999 ∧ 0 ≤ cy ∧ cy ≤ 2147483647 ∧ 1 ≤ ca ∧ ca ≤ 1125899906842624 ∧ th * 1000 + su ≤ 1125899906842624000)
def errZ (b : Bool) : Int := if b = true then 0 else 2
def selZ (b : Bool) (n : Int) : Int := if b = true then n else 0
theorem errZ_bne (b : Bool) : (errZ b != 0) = !b := by cases b <;> rfl
theorem errZ_beq (b : Bool) : (errZ b == 0) = b := by cases b <;> rfl
theorem b20 : ((2 : Int) != 0) = true := rfl
theorem b00 : ((0 : Int) != 0) = false := rfl
theorem errZ_t : errZ true = 0 := rfl
theorem errZ_f : errZ false = 2 := rfl
theorem selZ_t (n : Int) : selZ true n = n := rfl
theorem selZ_f (n : Int) : selZ false n = 0 := rfl
def sumZ (x y : Int) : Int := max (-1125899906842624000) (min 1125899906842624000 (x + y))
def sizeZ (n : Int) : Int := if n < 0 then (if n = -9223372036854775808 then 9223372036854775807 else -n) else n
theorem sizeZ_nonneg (n : Int) (h : -9223372036854775808 ≤ n) : 0 ≤ sizeZ n := by unfold sizeZ; split <;> (try split) <;> omega
def sok4 (th su cy ca a b : Int) : Bool := ok4 th su cy ca && decide (sizeZ a ≤ 2147483648 ∧ 1 ≤ b ∧ b ≤ 60000)
theorem sok4_iff {th su cy ca a b : Int} : sok4 th su cy ca a b = true ↔ ok4 th su cy ca = true ∧ sizeZ a ≤ 2147483648 ∧ 1 ≤ b ∧ b ≤ 60000 := by
  simp only [sok4, Bool.and_eq_true, decide_eq_true_eq]
theorem sok4_no {th su cy ca a b : Int} (hk : sok4 th su cy ca a b = false) (h1 : ok4 th su cy ca = true) (h2 : sizeZ a ≤ 2147483648) (h3 : 1 ≤ b) (h4 : b ≤ 60000) : False := by
  rw [sok4_iff.2 ⟨h1, h2, h3, h4⟩] at hk; cases hk
theorem step_facts {th su cy ca a b : Int} (hw : -9223372036854775808 ≤ a ∧ a ≤ 9223372036854775807) (h : sok4 th su cy ca a b = true) :
    IntKind.i64.wrap (IntKind.i64.wrap (th * 1000) + su) = th * 1000 + su ∧ IntKind.i64.wrap (sizeZ a * b) = sizeZ a * b ∧ 0 ≤ sizeZ a * b ∧ sizeZ a * b ≤ 128849018880000 ∧ 0 ≤ th * 1000 + su ∧ th * 1000 + su ≤ 1125899906842624000 ∧
    sumZ (th * 1000 + su) (sizeZ a * b) = min 1125899906842624000 (th * 1000 + su + sizeZ a * b) ∧ 0 ≤ min 1125899906842624000 (th * 1000 + su + sizeZ a * b) ∧ min 1125899906842624000 (th * 1000 + su + sizeZ a * b) ≤ 1125899906842624000 ∧ 1 ≤ ca ∧ ca ≤ 1125899906842624 := by
  obtain ⟨h1, h2, h3, h4⟩ := sok4_iff.1 h
  simp only [ok4, decide_eq_true_eq] at h1
  have h5 := sizeZ_nonneg a hw.1
  have h6 : 0 ≤ sizeZ a * b := Int.mul_nonneg h5 (by omega)
  have h7 : sizeZ a * b ≤ 2147483648 * 60000 := Int.mul_le_mul h2 h4 (by omega) (by omega)
  simp only [w64, sumZ]
  refine ⟨by omega, by omega, h6, by omega, by omega, by omega, by omega, by omega, by omega, by omega, by omega⟩
theorem div_facts {D c : Int} (h : 0 ≤ D) (h' : D ≤ 1125899906842624000) (hc : 1 ≤ c) : IntKind.i64.wrap (Int.tdiv D c) = D / c ∧ 0 ≤ D / c ∧ D / c ≤ D := by
  have h1 : 0 ≤ D / c := Int.ediv_nonneg h (by omega)
  have h2 : D / c ≤ D := Int.ediv_le_self c h
  rw [Int.tdiv_eq_ediv_of_nonneg h, w64]
  omega
theorem fin3 {T c : Int} (h : 0 ≤ T) (h' : T ≤ 1125899906842624000) (hc : 1 ≤ c) : IntKind.i64.wrap (Int.tdiv T 1000) = T / 1000 ∧ Int.tmod T 1000 = T % 1000 ∧ IntKind.i64.wrap (Int.tdiv (T / 1000) 2) = T / 1000 / 2 ∧ IntKind.i64.wrap (Int.tdiv (T / 1000 / 2) c) = T / 1000 / 2 / c := by
  have a1 := div_facts (c := 1000) h h' (by omega)
  have a2 := div_facts (c := 2) (D := T / 1000) (by omega) (by omega) (by omega)
  have a3 := div_facts (c := c) (D := T / 1000 / 2) (by omega) (by omega) hc
  exact ⟨a1.1, Int.tmod_eq_emod_of_nonneg h, a2.1, a3.1⟩
theorem ref_sum {P Q : Int} (h1 : 0 ≤ P) (h2 : P ≤ 1125899906842624000) (h3 : 0 ≤ Q) (h4 : Q ≤ 128849018880000) : (if 1125899906842624000 < IntKind.i64.wrap (P + Q) then 1125899906842624000 else IntKind.i64.wrap (P + Q)) = min 1125899906842624000 (P + Q) := by
  rw [w64]; split <;> omega
theorem sizeZ_iff {a : Int} (hw : -9223372036854775808 ≤ a ∧ a ≤ 9223372036854775807) : sizeZ a ≤ 2147483648 ↔ -2147483648 ≤ a ∧ a ≤ 2147483648 := by
  unfold sizeZ; (repeat' split) <;> omega
theorem pair_div {T c : Int} (hc : 1 ≤ c) (hc' : c ≤ 1125899906842624) (h : 0 ≤ T) (h' : T ≤ 1125899906842624000) : IntKind.i64.wrap (Int.tdiv T (IntKind.i64.wrap (2 * c))) = T / 2 / c := by
  rw [show IntKind.i64.wrap (2 * c) = 2 * c by rw [w64]; omega, (div_facts (c := 2 * c) h h' (by omega)).1, Int.ediv_ediv_of_nonneg (by omega)]
/-- how much is left till the next cycle. -/
def nextZ (ca th cy : Int) : Int := if min (1125899906842624 / (2 * ca)) 2147483647 ≤ cy then 1125899906842625 else max 0 ((cy + 1) * (2 * ca) - th)
theorem next_facts {ca : Int} (h : 1 ≤ ca) (h' : ca ≤ 1125899906842624) : IntKind.i64.wrap (2 * ca) = 2 * ca ∧ IntKind.i64.wrap (Int.tdiv 1125899906842624 (2 * ca)) = 1125899906842624 / (2 * ca) ∧ 0 ≤ 1125899906842624 / (2 * ca) ∧ 1125899906842624 / (2 * ca) ≤ 1125899906842624 := by
  have h1 := div_facts (D := 1125899906842624) (c := 2 * ca) (by omega) (by omega) (by omega)
  exact ⟨by rw [w64]; omega, h1.1, h1.2.1, h1.2.2⟩
theorem next_prod {ca cy th : Int} (h1 : 1 ≤ ca) (h2 : ca ≤ 1125899906842624) (h3 : 0 ≤ cy) (h4 : cy ≤ 2147483647) (h5 : 0 ≤ th) (h6 : th ≤ 1125899906842624) (hc : cy < min (1125899906842624 / (2 * ca)) 2147483647) :
    IntKind.i64.wrap (cy + 1) = cy + 1 ∧ IntKind.i64.wrap (IntKind.i64.wrap ((cy + 1) * (2 * ca)) - th) = (cy + 1) * (2 * ca) - th ∧ IntKind.i64.wrap (IntKind.i64.wrap (IntKind.i64.wrap ((cy + 1) * 2) * ca) - th) = (cy + 1) * (2 * ca) - th := by
  have e1 : IntKind.i64.wrap (cy + 1) = cy + 1 := by rw [w64]; omega
  have e2 : IntKind.i64.wrap ((cy + 1) * 2) = (cy + 1) * 2 := by rw [w64]; omega
  have e3 : (cy + 1) * (2 * ca) ≤ 1125899906842624 := Int.mul_le_of_le_ediv (by omega) (by omega)
  have e4 : 0 ≤ (cy + 1) * (2 * ca) := Int.mul_nonneg (by omega) (by omega)
  rw [e1, e2, Int.mul_assoc]
  generalize (cy + 1) * (2 * ca) = P at *
  refine ⟨rfl, ?_, ?_⟩ <;> rw [w64, w64] <;> omega
end Go.Proofs.Ytonhkbgielilbaa.Rig

/- What function 29 gives. -/
namespace Go.Proofs.Ytonhkbgielilbaa.Rig
open Go
set_option linter.unusedVariables false in
noncomputable def eworks : Ent := fun args M => match args, M with
  | [], [] => some (.ret (.bool true true, []))
  | _, _ => none
set_option maxRecDepth 100000 in
theorem tworks  : evBody (mkC Try.prog 0 (fun _ => none) []) (evCall (mkC Try.prog 0 (fun _ => none) []) 50) 29 [] [] =
  Tree.ret (AV.bool true true, []) := by kernel_rfl
set_option maxRecDepth 100000 in
theorem gworks  : (Tree.ret (AV.bool true true, []) : Tree (AV × Mem)).Gives (.bool true true) ([]) := by
  repeat' first
    | (refine Tree.Gives.br (fun h => ?_) (fun h => ?_) <;> (try simp only [decide_eq_true_eq, decide_eq_false_iff_not, Bool.not_eq_true', Bool.not_eq_false', beq_iff_eq, beq_eq_false_iff_ne, Int.not_lt, Int.not_le, ge_iff_le, gt_iff_lt, ne_eq, Bool.false_eq_true, Bool.true_eq_false, not_true_eq_false, not_false_eq_true] at h))
    | refine Tree.Gives.chk ?_ ?_
    | refine Tree.Gives.ret ?_ (by first | exact Mem.le_refl _ | (simp only [Mem.le, Blk.le, Data.le, AV.le, AV.leL, and_true, true_and]; done))
  all_goals first | (simp only [AV.le, AV.leL, and_true, true_and]; done) | skip
  skip
theorem sworks  : SoundAt (mkC Try.prog 0 (fun _ => none) []) 29 [] [] (.bool true true, []) := sound_of all0 mix (tworks ) (gworks )
theorem eworks_ok : EntOk Try.prog 0 (fun _ => none) 29 eworks := by
  intro args M t h r hr
  unfold eworks at h
  split at h
  · cases h
    cases hr
    refine SoundAt.flags (sworks ) ?_
    simp [AV.le, AV.leL, Cap.le]
  · cases h
theorem all1 : AllOk Try.prog 0 (fun _ => none) [(29, eworks)] := ⟨eworks_ok, all0⟩
end Go.Proofs.Ytonhkbgielilbaa.Rig

/- What function 43 gives. -/
namespace Go.Proofs.Ytonhkbgielilbaa.Rig
open Go
set_option linter.unusedVariables false in
noncomputable def eright : Ent := fun args M => match args, M with
  | [.agg [.int .i64 _ x0, .int .i64 _ x1, .int .i64 _ x2, .int .i64 _ x3, .int .i64 _ x4, .int .i64 _ x5, .int .i64 _ x6, .int .i64 _ x7, .int .i64 _ x8, .int .i64 _ x9, .int .i64 _ x10, .int .i64 _ x11, .int .i64 _ x12, .int .i64 _ x13, .int .i64 _ x14, .int .i64 _ x15, .int .i64 _ x16, .int .i64 _ x17, .int .i64 _ x18, .int .i64 _ x19, .int .i64 _ x20, .int .i64 _ x21, .int .i64 _ x22]], [] => some (.ret (.bool false (ok4 x11 x12 x13 x8), []))
  | _, _ => none
set_option maxRecDepth 100000 in
theorem tright (x0 x1 x2 x3 x4 x5 x6 x7 x8 x9 x10 x11 x12 x13 x14 x15 x16 x17 x18 x19 x20 x21 x22 : Int) : evBody (mkC Try.prog 0 (fun _ => none) [(29, eworks)]) (evCall (mkC Try.prog 0 (fun _ => none) [(29, eworks)]) 50) 43 [.agg [.int .i64 false x0, .int .i64 false x1, .int .i64 false x2, .int .i64 false x3, .int .i64 false x4, .int .i64 false x5, .int .i64 false x6, .int .i64 false x7, .int .i64 false x8, .int .i64 false x9, .int .i64 false x10, .int .i64 false x11, .int .i64 false x12, .int .i64 false x13, .int .i64 false x14, .int .i64 false x15, .int .i64 false x16, .int .i64 false x17, .int .i64 false x18, .int .i64 false x19, .int .i64 false x20, .int .i64 false x21, .int .i64 false x22]] [] =
  Tree.br (decide (x11 < (0 : Int))) (Tree.ret (AV.bool true false, []))
    (Tree.br (decide (x11 > (1125899906842624 : Int))) (Tree.ret (AV.bool true false, []))
      (Tree.br (decide (IntKind.wrap IntKind.i64 (x8 - (1 : Int)) < (0 : Int))) (Tree.ret (AV.bool true false, []))
        (Tree.br (decide (IntKind.wrap IntKind.i64 (x8 - (1 : Int)) > (1125899906842624 : Int))) (Tree.ret (AV.bool true false, []))
          (Tree.br (decide (x8 < (0 : Int))) (Tree.ret (AV.bool true false, []))
            (Tree.br (decide (x8 > (1125899906842624 : Int))) (Tree.ret (AV.bool true false, []))
              (Tree.br (decide (x12 < (0 : Int))) (Tree.ret (AV.bool true false, []))
                (Tree.br (decide (x12 > (999 : Int))) (Tree.ret (AV.bool true false, []))
                  (Tree.br (decide (x13 < (0 : Int))) (Tree.ret (AV.bool true false, []))
                    (Tree.br (decide (x13 > (2147483647 : Int))) (Tree.ret (AV.bool true false, []))
                      (Tree.ret (AV.bool false (decide (IntKind.wrap IntKind.i64 (IntKind.wrap IntKind.i64 (x11 * (1000 : Int)) + x12) ≤ (1125899906842624000 : Int))), []))))))))))) := by kernel_rfl
set_option maxRecDepth 100000 in
theorem gright (x0 x1 x2 x3 x4 x5 x6 x7 x8 x9 x10 x11 x12 x13 x14 x15 x16 x17 x18 x19 x20 x21 x22 : Int) : (Tree.br (decide (x11 < (0 : Int))) (Tree.ret (AV.bool true false, []))
    (Tree.br (decide (x11 > (1125899906842624 : Int))) (Tree.ret (AV.bool true false, []))
      (Tree.br (decide (IntKind.wrap IntKind.i64 (x8 - (1 : Int)) < (0 : Int))) (Tree.ret (AV.bool true false, []))
        (Tree.br (decide (IntKind.wrap IntKind.i64 (x8 - (1 : Int)) > (1125899906842624 : Int))) (Tree.ret (AV.bool true false, []))
          (Tree.br (decide (x8 < (0 : Int))) (Tree.ret (AV.bool true false, []))
            (Tree.br (decide (x8 > (1125899906842624 : Int))) (Tree.ret (AV.bool true false, []))
              (Tree.br (decide (x12 < (0 : Int))) (Tree.ret (AV.bool true false, []))
                (Tree.br (decide (x12 > (999 : Int))) (Tree.ret (AV.bool true false, []))
                  (Tree.br (decide (x13 < (0 : Int))) (Tree.ret (AV.bool true false, []))
                    (Tree.br (decide (x13 > (2147483647 : Int))) (Tree.ret (AV.bool true false, []))
                      (Tree.ret (AV.bool false (decide (IntKind.wrap IntKind.i64 (IntKind.wrap IntKind.i64 (x11 * (1000 : Int)) + x12) ≤ (1125899906842624000 : Int))), []))))))))))) : Tree (AV × Mem)).Gives (.bool false (ok4 x11 x12 x13 x8)) ([]) := by
  repeat' first
    | (refine Tree.Gives.br (fun h => ?_) (fun h => ?_) <;> (try simp only [decide_eq_true_eq, decide_eq_false_iff_not, Bool.not_eq_true', Bool.not_eq_false', beq_iff_eq, beq_eq_false_iff_ne, Int.not_lt, Int.not_le, ge_iff_le, gt_iff_lt, ne_eq, Bool.false_eq_true, Bool.true_eq_false, not_true_eq_false, not_false_eq_true] at h))
    | refine Tree.Gives.chk ?_ ?_
    | refine Tree.Gives.ret ?_ (by first | exact Mem.le_refl _ | (simp only [Mem.le, Blk.le, Data.le, AV.le, AV.leL, and_true, true_and]; done))
  all_goals first | (simp only [AV.le, AV.leL, and_true, true_and]; done) | skip
  all_goals (simp only [AV.le, ok4]; first | (symm; rw [decide_eq_false_iff_not]; (try simp only [w64] at *); omega) | (rw [decide_eq_decide]; (try simp only [w64] at *); omega))
theorem sright (x0 x1 x2 x3 x4 x5 x6 x7 x8 x9 x10 x11 x12 x13 x14 x15 x16 x17 x18 x19 x20 x21 x22 : Int) : SoundAt (mkC Try.prog 0 (fun _ => none) []) 43 [.agg [.int .i64 false x0, .int .i64 false x1, .int .i64 false x2, .int .i64 false x3, .int .i64 false x4, .int .i64 false x5, .int .i64 false x6, .int .i64 false x7, .int .i64 false x8, .int .i64 false x9, .int .i64 false x10, .int .i64 false x11, .int .i64 false x12, .int .i64 false x13, .int .i64 false x14, .int .i64 false x15, .int .i64 false x16, .int .i64 false x17, .int .i64 false x18, .int .i64 false x19, .int .i64 false x20, .int .i64 false x21, .int .i64 false x22]] [] (.bool false (ok4 x11 x12 x13 x8), []) := sound_of all1 mix (tright x0 x1 x2 x3 x4 x5 x6 x7 x8 x9 x10 x11 x12 x13 x14 x15 x16 x17 x18 x19 x20 x21 x22) (gright x0 x1 x2 x3 x4 x5 x6 x7 x8 x9 x10 x11 x12 x13 x14 x15 x16 x17 x18 x19 x20 x21 x22)
theorem eright_ok : EntOk Try.prog 0 (fun _ => none) 43 eright := by
  intro args M t h r hr
  unfold eright at h
  split at h
  · cases h
    cases hr
    rename_i _ x0 _ x1 _ x2 _ x3 _ x4 _ x5 _ x6 _ x7 _ x8 _ x9 _ x10 _ x11 _ x12 _ x13 _ x14 _ x15 _ x16 _ x17 _ x18 _ x19 _ x20 _ x21 _ x22
    refine SoundAt.flags (sright x0 x1 x2 x3 x4 x5 x6 x7 x8 x9 x10 x11 x12 x13 x14 x15 x16 x17 x18 x19 x20 x21 x22) ?_
    simp [AV.le, AV.leL, Cap.le]
  · cases h
theorem all2 : AllOk Try.prog 0 (fun _ => none) [(43, eright), (29, eworks)] := ⟨eright_ok, all1⟩
end Go.Proofs.Ytonhkbgielilbaa.Rig

/- What function 27 gives. -/
namespace Go.Proofs.Ytonhkbgielilbaa.Rig
open Go
set_option linter.unusedVariables false in
noncomputable def echk : Ent := fun args M => match args, M with
  | [.agg [.int .i64 _ x0, .int .i64 _ x1, .int .i64 _ x2, .int .i64 _ x3, .int .i64 _ x4, .int .i64 _ x5, .int .i64 _ x6, .int .i64 _ x7, .int .i64 _ x8, .int .i64 _ x9, .int .i64 _ x10, .int .i64 _ x11, .int .i64 _ x12, .int .i64 _ x13, .int .i64 _ x14, .int .i64 _ x15, .int .i64 _ x16, .int .i64 _ x17, .int .i64 _ x18, .int .i64 _ x19, .int .i64 _ x20, .int .i64 _ x21, .int .i64 _ x22]], [] => some (.ret (.int .i64 false (errZ (ok4 x11 x12 x13 x8)), []))
  | _, _ => none
set_option maxRecDepth 100000 in
theorem tchk (x0 x1 x2 x3 x4 x5 x6 x7 x8 x9 x10 x11 x12 x13 x14 x15 x16 x17 x18 x19 x20 x21 x22 : Int) : evBody (mkC Try.prog 0 (fun _ => none) [(43, eright), (29, eworks)]) (evCall (mkC Try.prog 0 (fun _ => none) [(43, eright), (29, eworks)]) 50) 27 [.agg [.int .i64 false x0, .int .i64 false x1, .int .i64 false x2, .int .i64 false x3, .int .i64 false x4, .int .i64 false x5, .int .i64 false x6, .int .i64 false x7, .int .i64 false x8, .int .i64 false x9, .int .i64 false x10, .int .i64 false x11, .int .i64 false x12, .int .i64 false x13, .int .i64 false x14, .int .i64 false x15, .int .i64 false x16, .int .i64 false x17, .int .i64 false x18, .int .i64 false x19, .int .i64 false x20, .int .i64 false x21, .int .i64 false x22]] [] =
  Tree.br (!ok4 x11 x12 x13 x8) (Tree.ret (AV.int IntKind.i64 true (2 : Int), [])) (Tree.ret (AV.int IntKind.i64 true (0 : Int), [])) := by kernel_rfl
set_option maxRecDepth 100000 in
theorem gchk (x0 x1 x2 x3 x4 x5 x6 x7 x8 x9 x10 x11 x12 x13 x14 x15 x16 x17 x18 x19 x20 x21 x22 : Int) : (Tree.br (!ok4 x11 x12 x13 x8) (Tree.ret (AV.int IntKind.i64 true (2 : Int), [])) (Tree.ret (AV.int IntKind.i64 true (0 : Int), [])) : Tree (AV × Mem)).Gives (.int .i64 false (errZ (ok4 x11 x12 x13 x8))) ([]) := by
  repeat' first
    | (refine Tree.Gives.br (fun h => ?_) (fun h => ?_) <;> (try simp only [decide_eq_true_eq, decide_eq_false_iff_not, Bool.not_eq_true', Bool.not_eq_false', beq_iff_eq, beq_eq_false_iff_ne, Int.not_lt, Int.not_le, ge_iff_le, gt_iff_lt, ne_eq, Bool.false_eq_true, Bool.true_eq_false, not_true_eq_false, not_false_eq_true] at h))
    | refine Tree.Gives.chk ?_ ?_
    | refine Tree.Gives.ret ?_ (by first | exact Mem.le_refl _ | (simp only [Mem.le, Blk.le, Data.le, AV.le, AV.leL, and_true, true_and]; done))
  all_goals first | (simp only [AV.le, AV.leL, and_true, true_and]; done) | skip
  all_goals simp_all [AV.le, errZ]
theorem schk (x0 x1 x2 x3 x4 x5 x6 x7 x8 x9 x10 x11 x12 x13 x14 x15 x16 x17 x18 x19 x20 x21 x22 : Int) : SoundAt (mkC Try.prog 0 (fun _ => none) []) 27 [.agg [.int .i64 false x0, .int .i64 false x1, .int .i64 false x2, .int .i64 false x3, .int .i64 false x4, .int .i64 false x5, .int .i64 false x6, .int .i64 false x7, .int .i64 false x8, .int .i64 false x9, .int .i64 false x10, .int .i64 false x11, .int .i64 false x12, .int .i64 false x13, .int .i64 false x14, .int .i64 false x15, .int .i64 false x16, .int .i64 false x17, .int .i64 false x18, .int .i64 false x19, .int .i64 false x20, .int .i64 false x21, .int .i64 false x22]] [] (.int .i64 false (errZ (ok4 x11 x12 x13 x8)), []) := sound_of all2 mix (tchk x0 x1 x2 x3 x4 x5 x6 x7 x8 x9 x10 x11 x12 x13 x14 x15 x16 x17 x18 x19 x20 x21 x22) (gchk x0 x1 x2 x3 x4 x5 x6 x7 x8 x9 x10 x11 x12 x13 x14 x15 x16 x17 x18 x19 x20 x21 x22)
theorem echk_ok : EntOk Try.prog 0 (fun _ => none) 27 echk := by
  intro args M t h r hr
  unfold echk at h
  split at h
  · cases h
    cases hr
    rename_i _ x0 _ x1 _ x2 _ x3 _ x4 _ x5 _ x6 _ x7 _ x8 _ x9 _ x10 _ x11 _ x12 _ x13 _ x14 _ x15 _ x16 _ x17 _ x18 _ x19 _ x20 _ x21 _ x22
    refine SoundAt.flags (schk x0 x1 x2 x3 x4 x5 x6 x7 x8 x9 x10 x11 x12 x13 x14 x15 x16 x17 x18 x19 x20 x21 x22) ?_
    simp [AV.le, AV.leL, Cap.le]
  · cases h
theorem all3 : AllOk Try.prog 0 (fun _ => none) [(27, echk), (43, eright), (29, eworks)] := ⟨echk_ok, all2⟩
end Go.Proofs.Ytonhkbgielilbaa.Rig

/- What function 41 gives. -/
namespace Go.Proofs.Ytonhkbgielilbaa.Rig
open Go
set_option linter.unusedVariables false in
noncomputable def esize : Ent := fun args M => match args, M with
  | [.int .i64 _ n], [] => some (.chk (-9223372036854775808 ≤ n ∧ n ≤ 9223372036854775807) (.ret (.int .i64 false (sizeZ n), [])))
  | _, _ => none
set_option maxRecDepth 100000 in
theorem tsize (n : Int) : evBody (mkC Try.prog 0 (fun _ => none) [(27, echk), (43, eright), (29, eworks)]) (evCall (mkC Try.prog 0 (fun _ => none) [(27, echk), (43, eright), (29, eworks)]) 50) 41 [.int .i64 false n] [] =
  Tree.br (decide (n < (0 : Int)))
    (Tree.br (decide (IntKind.wrap IntKind.i64 ((0 : Int) - n) < (0 : Int))) (Tree.ret (AV.int IntKind.i64 false (IntKind.wrap IntKind.i64 (IntKind.wrap IntKind.i64 ((0 : Int) - n) - (1 : Int))), []))
      (Tree.ret (AV.int IntKind.i64 false (IntKind.wrap IntKind.i64 ((0 : Int) - n)), [])))
    (Tree.ret (AV.int IntKind.i64 false n, [])) := by kernel_rfl
set_option maxRecDepth 100000 in
theorem gsize (n : Int) (hw : -9223372036854775808 ≤ n ∧ n ≤ 9223372036854775807) : (Tree.br (decide (n < (0 : Int)))
    (Tree.br (decide (IntKind.wrap IntKind.i64 ((0 : Int) - n) < (0 : Int))) (Tree.ret (AV.int IntKind.i64 false (IntKind.wrap IntKind.i64 (IntKind.wrap IntKind.i64 ((0 : Int) - n) - (1 : Int))), []))
      (Tree.ret (AV.int IntKind.i64 false (IntKind.wrap IntKind.i64 ((0 : Int) - n)), [])))
    (Tree.ret (AV.int IntKind.i64 false n, [])) : Tree (AV × Mem)).Gives (.int .i64 false (sizeZ n)) ([]) := by
  repeat' first
    | (refine Tree.Gives.br (fun h => ?_) (fun h => ?_) <;> (try simp only [decide_eq_true_eq, decide_eq_false_iff_not, Bool.not_eq_true', Bool.not_eq_false', beq_iff_eq, beq_eq_false_iff_ne, Int.not_lt, Int.not_le, ge_iff_le, gt_iff_lt, ne_eq, Bool.false_eq_true, Bool.true_eq_false, not_true_eq_false, not_false_eq_true] at h))
    | refine Tree.Gives.chk ?_ ?_
    | refine Tree.Gives.ret ?_ (by first | exact Mem.le_refl _ | (simp only [Mem.le, Blk.le, Data.le, AV.le, AV.leL, and_true, true_and]; done))
  all_goals first | (simp only [AV.le, AV.leL, and_true, true_and]; done) | skip
  all_goals ((try simp only [AV.le, true_and]); (try simp only [w64] at *); unfold sizeZ; split <;> (try split) <;> omega)
theorem ssize (n : Int) (hw : -9223372036854775808 ≤ n ∧ n ≤ 9223372036854775807) : SoundAt (mkC Try.prog 0 (fun _ => none) []) 41 [.int .i64 false n] [] (.int .i64 false (sizeZ n), []) := sound_of all3 mix (tsize n) (gsize n hw)
theorem esize_ok : EntOk Try.prog 0 (fun _ => none) 41 esize := by
  intro args M t h r hr
  unfold esize at h
  split at h
  · cases h
    obtain ⟨hw, rfl⟩ := hr
    rename_i _ n
    refine SoundAt.flags (ssize n hw) ?_
    simp [AV.le, AV.leL, Cap.le]
  · cases h
theorem all4 : AllOk Try.prog 0 (fun _ => none) [(41, esize), (27, echk), (43, eright), (29, eworks)] := ⟨esize_ok, all3⟩
end Go.Proofs.Ytonhkbgielilbaa.Rig

/- What function 36 gives. -/
namespace Go.Proofs.Ytonhkbgielilbaa.Rig
open Go
set_option linter.unusedVariables false in
noncomputable def esum : Ent := fun args M => match args, M with
  | [.int .i64 _ 1125899906842624000, .sl false ⟨0, 0, 0, 0⟩ true 2 .own], [some ⟨e, true, false, true, .cells [.int .i64 false x, .int .i64 false y]⟩] => some (.chk (-9223372036854775808 ≤ y ∧ y ≤ 9223372036854775807 ∧ 0 ≤ x ∧ x ≤ 1125899906842624000) (.ret (.tup [.int .i64 false (sumZ x y), .int .i64 false 0], [some ⟨e, true, false, true, .cells [.int .i64 false x, .int .i64 false y]⟩])))
  | _, _ => none
set_option maxRecDepth 100000 in
theorem tsum (e : TypeId) (x y : Int) : evBody (mkC Try.prog 0 (fun _ => none) [(41, esize), (27, echk), (43, eright), (29, eworks)]) (evCall (mkC Try.prog 0 (fun _ => none) [(41, esize), (27, echk), (43, eright), (29, eworks)]) 50) 36 [.int .i64 false 1125899906842624000, .sl false ⟨0, 0, 0, 0⟩ true 2 .own] [some ⟨e, true, false, true, .cells [.int .i64 false x, .int .i64 false y]⟩] =
  Tree.br false (Tree.ret (AV.tup [AV.int IntKind.i64 true (0 : Int), AV.int IntKind.i64 true (2 : Int)], [some (Blk.mk e true false true (Data.cells [AV.int IntKind.i64 false x, AV.int IntKind.i64 false y]))]))
    (Tree.br false (Tree.ret (AV.tup [AV.int IntKind.i64 true (0 : Int), AV.int IntKind.i64 true (2 : Int)], [some (Blk.mk e true false true (Data.cells [AV.int IntKind.i64 false x, AV.int IntKind.i64 false y]))]))
      (Tree.br (decide (x < (-1125899906842624000 : Int)))
        (Tree.br (decide (y < (0 : Int)))
          (Tree.ret (AV.tup [AV.int IntKind.i64 false (-1125899906842624000 : Int), AV.int IntKind.i64 true (0 : Int)], [some (Blk.mk e true false true (Data.cells [AV.int IntKind.i64 false x, AV.int IntKind.i64 false y]))]))
          (Tree.br (decide (y > (2251799813685248000 : Int)))
            (Tree.ret (AV.tup [AV.int IntKind.i64 false (1125899906842624000 : Int), AV.int IntKind.i64 true (0 : Int)], [some (Blk.mk e true false true (Data.cells [AV.int IntKind.i64 false x, AV.int IntKind.i64 false y]))]))
            (Tree.ret
              (AV.tup [AV.int IntKind.i64 false (IntKind.wrap IntKind.i64 ((-1125899906842624000 : Int) + y)), AV.int IntKind.i64 true (0 : Int)],
                [some (Blk.mk e true false true (Data.cells [AV.int IntKind.i64 false x, AV.int IntKind.i64 false y]))]))))
        (Tree.br (decide (x > (1125899906842624000 : Int)))
          (Tree.br (decide (y < (-2251799813685248000 : Int)))
            (Tree.ret (AV.tup [AV.int IntKind.i64 false (-1125899906842624000 : Int), AV.int IntKind.i64 true (0 : Int)], [some (Blk.mk e true false true (Data.cells [AV.int IntKind.i64 false x, AV.int IntKind.i64 false y]))]))
            (Tree.br (decide (y > (0 : Int)))
              (Tree.ret (AV.tup [AV.int IntKind.i64 false (1125899906842624000 : Int), AV.int IntKind.i64 true (0 : Int)], [some (Blk.mk e true false true (Data.cells [AV.int IntKind.i64 false x, AV.int IntKind.i64 false y]))]))
              (Tree.ret
                (AV.tup [AV.int IntKind.i64 false (IntKind.wrap IntKind.i64 ((1125899906842624000 : Int) + y)), AV.int IntKind.i64 true (0 : Int)],
                  [some (Blk.mk e true false true (Data.cells [AV.int IntKind.i64 false x, AV.int IntKind.i64 false y]))]))))
          (Tree.br (decide (y < IntKind.wrap IntKind.i64 ((-1125899906842624000 : Int) - IntKind.wrap IntKind.i64 ((0 : Int) + x))))
            (Tree.ret
              (AV.tup
                  [AV.int IntKind.i64 false (IntKind.wrap IntKind.i64 (IntKind.wrap IntKind.i64 ((0 : Int) + x) + IntKind.wrap IntKind.i64 ((-1125899906842624000 : Int) - IntKind.wrap IntKind.i64 ((0 : Int) + x)))),
                    AV.int IntKind.i64 true (0 : Int)],
                [some (Blk.mk e true false true (Data.cells [AV.int IntKind.i64 false x, AV.int IntKind.i64 false y]))]))
            (Tree.br (decide (y > IntKind.wrap IntKind.i64 ((1125899906842624000 : Int) - IntKind.wrap IntKind.i64 ((0 : Int) + x))))
              (Tree.ret
                (AV.tup
                    [AV.int IntKind.i64 false (IntKind.wrap IntKind.i64 (IntKind.wrap IntKind.i64 ((0 : Int) + x) + IntKind.wrap IntKind.i64 ((1125899906842624000 : Int) - IntKind.wrap IntKind.i64 ((0 : Int) + x)))),
                      AV.int IntKind.i64 true (0 : Int)],
                  [some (Blk.mk e true false true (Data.cells [AV.int IntKind.i64 false x, AV.int IntKind.i64 false y]))]))
              (Tree.ret
                (AV.tup [AV.int IntKind.i64 false (IntKind.wrap IntKind.i64 (IntKind.wrap IntKind.i64 ((0 : Int) + x) + y)), AV.int IntKind.i64 true (0 : Int)],
                  [some (Blk.mk e true false true (Data.cells [AV.int IntKind.i64 false x, AV.int IntKind.i64 false y]))]))))))) := by kernel_rfl
set_option maxRecDepth 100000 in
theorem gsum (e : TypeId) (x y : Int) (hw : -9223372036854775808 ≤ y ∧ y ≤ 9223372036854775807 ∧ 0 ≤ x ∧ x ≤ 1125899906842624000) : (Tree.br false (Tree.ret (AV.tup [AV.int IntKind.i64 true (0 : Int), AV.int IntKind.i64 true (2 : Int)], [some (Blk.mk e true false true (Data.cells [AV.int IntKind.i64 false x, AV.int IntKind.i64 false y]))]))
    (Tree.br false (Tree.ret (AV.tup [AV.int IntKind.i64 true (0 : Int), AV.int IntKind.i64 true (2 : Int)], [some (Blk.mk e true false true (Data.cells [AV.int IntKind.i64 false x, AV.int IntKind.i64 false y]))]))
      (Tree.br (decide (x < (-1125899906842624000 : Int)))
        (Tree.br (decide (y < (0 : Int)))
          (Tree.ret (AV.tup [AV.int IntKind.i64 false (-1125899906842624000 : Int), AV.int IntKind.i64 true (0 : Int)], [some (Blk.mk e true false true (Data.cells [AV.int IntKind.i64 false x, AV.int IntKind.i64 false y]))]))
          (Tree.br (decide (y > (2251799813685248000 : Int)))
            (Tree.ret (AV.tup [AV.int IntKind.i64 false (1125899906842624000 : Int), AV.int IntKind.i64 true (0 : Int)], [some (Blk.mk e true false true (Data.cells [AV.int IntKind.i64 false x, AV.int IntKind.i64 false y]))]))
            (Tree.ret
              (AV.tup [AV.int IntKind.i64 false (IntKind.wrap IntKind.i64 ((-1125899906842624000 : Int) + y)), AV.int IntKind.i64 true (0 : Int)],
                [some (Blk.mk e true false true (Data.cells [AV.int IntKind.i64 false x, AV.int IntKind.i64 false y]))]))))
        (Tree.br (decide (x > (1125899906842624000 : Int)))
          (Tree.br (decide (y < (-2251799813685248000 : Int)))
            (Tree.ret (AV.tup [AV.int IntKind.i64 false (-1125899906842624000 : Int), AV.int IntKind.i64 true (0 : Int)], [some (Blk.mk e true false true (Data.cells [AV.int IntKind.i64 false x, AV.int IntKind.i64 false y]))]))
            (Tree.br (decide (y > (0 : Int)))
              (Tree.ret (AV.tup [AV.int IntKind.i64 false (1125899906842624000 : Int), AV.int IntKind.i64 true (0 : Int)], [some (Blk.mk e true false true (Data.cells [AV.int IntKind.i64 false x, AV.int IntKind.i64 false y]))]))
              (Tree.ret
                (AV.tup [AV.int IntKind.i64 false (IntKind.wrap IntKind.i64 ((1125899906842624000 : Int) + y)), AV.int IntKind.i64 true (0 : Int)],
                  [some (Blk.mk e true false true (Data.cells [AV.int IntKind.i64 false x, AV.int IntKind.i64 false y]))]))))
          (Tree.br (decide (y < IntKind.wrap IntKind.i64 ((-1125899906842624000 : Int) - IntKind.wrap IntKind.i64 ((0 : Int) + x))))
            (Tree.ret
              (AV.tup
                  [AV.int IntKind.i64 false (IntKind.wrap IntKind.i64 (IntKind.wrap IntKind.i64 ((0 : Int) + x) + IntKind.wrap IntKind.i64 ((-1125899906842624000 : Int) - IntKind.wrap IntKind.i64 ((0 : Int) + x)))),
                    AV.int IntKind.i64 true (0 : Int)],
                [some (Blk.mk e true false true (Data.cells [AV.int IntKind.i64 false x, AV.int IntKind.i64 false y]))]))
            (Tree.br (decide (y > IntKind.wrap IntKind.i64 ((1125899906842624000 : Int) - IntKind.wrap IntKind.i64 ((0 : Int) + x))))
              (Tree.ret
                (AV.tup
                    [AV.int IntKind.i64 false (IntKind.wrap IntKind.i64 (IntKind.wrap IntKind.i64 ((0 : Int) + x) + IntKind.wrap IntKind.i64 ((1125899906842624000 : Int) - IntKind.wrap IntKind.i64 ((0 : Int) + x)))),
                      AV.int IntKind.i64 true (0 : Int)],
                  [some (Blk.mk e true false true (Data.cells [AV.int IntKind.i64 false x, AV.int IntKind.i64 false y]))]))
              (Tree.ret
                (AV.tup [AV.int IntKind.i64 false (IntKind.wrap IntKind.i64 (IntKind.wrap IntKind.i64 ((0 : Int) + x) + y)), AV.int IntKind.i64 true (0 : Int)],
                  [some (Blk.mk e true false true (Data.cells [AV.int IntKind.i64 false x, AV.int IntKind.i64 false y]))]))))))) : Tree (AV × Mem)).Gives (.tup [.int .i64 false (sumZ x y), .int .i64 false 0]) ([some ⟨e, true, false, true, .cells [.int .i64 false x, .int .i64 false y]⟩]) := by
  repeat' first
    | (refine Tree.Gives.br (fun h => ?_) (fun h => ?_) <;> (try simp only [decide_eq_true_eq, decide_eq_false_iff_not, Bool.not_eq_true', Bool.not_eq_false', beq_iff_eq, beq_eq_false_iff_ne, Int.not_lt, Int.not_le, ge_iff_le, gt_iff_lt, ne_eq, Bool.false_eq_true, Bool.true_eq_false, not_true_eq_false, not_false_eq_true, errZ_bne, errZ_beq] at h))
    | refine Tree.Gives.chk ?_ ?_
    | refine Tree.Gives.ret ?_ (by first | exact Mem.le_refl _ | (simp only [Mem.le, Blk.le, Data.le, AV.le, AV.leL, and_true, true_and]; done))
  all_goals first | (simp only [AV.le, AV.leL, and_true, true_and]; done) | skip
  all_goals (try simp only [AV.le, AV.leL, and_true, true_and])
  all_goals (try unfold sumZ; (try simp only [w64] at *); omega)
theorem ssum (e : TypeId) (x y : Int) (hw : -9223372036854775808 ≤ y ∧ y ≤ 9223372036854775807 ∧ 0 ≤ x ∧ x ≤ 1125899906842624000) : SoundAt (mkC Try.prog 0 (fun _ => none) []) 36 [.int .i64 false 1125899906842624000, .sl false ⟨0, 0, 0, 0⟩ true 2 .own] [some ⟨e, true, false, true, .cells [.int .i64 false x, .int .i64 false y]⟩] (.tup [.int .i64 false (sumZ x y), .int .i64 false 0], [some ⟨e, true, false, true, .cells [.int .i64 false x, .int .i64 false y]⟩]) := sound_of all4 mix (tsum e x y) (gsum e x y hw)
theorem esum_ok : EntOk Try.prog 0 (fun _ => none) 36 esum := by
  intro args M t h r hr
  unfold esum at h
  split at h
  · cases h
    obtain ⟨hw, rfl⟩ := hr
    rename_i _ e x y
    refine SoundAt.flags (ssum e x y hw) ?_
    simp [AV.le, AV.leL, Cap.le]
  · cases h
theorem all5 : AllOk Try.prog 0 (fun _ => none) [(36, esum), (41, esize), (27, echk), (43, eright), (29, eworks)] := ⟨esum_ok, all4⟩
end Go.Proofs.Ytonhkbgielilbaa.Rig

/- What function 23 gives. -/
namespace Go.Proofs.Ytonhkbgielilbaa.Rig
open Go
set_option linter.unusedVariables false in
noncomputable def estep : Ent := fun args M => match args, M with
  | [.agg [.int .i64 _ x0, .int .i64 _ x1, .int .i64 _ x2, .int .i64 _ x3, .int .i64 _ x4, .int .i64 _ x5, .int .i64 _ x6, .int .i64 _ x7, .int .i64 _ x8, .int .i64 _ x9, .int .i64 _ x10, .int .i64 _ x11, .int .i64 _ x12, .int .i64 _ x13, .int .i64 _ x14, .int .i64 _ x15, .int .i64 _ x16, .int .i64 _ x17, .int .i64 _ x18, .int .i64 _ x19, .int .i64 _ x20, .int .i64 _ x21, .int .i64 _ x22], .int .i64 _ a, .int .i64 _ b], [] => some (.chk (-9223372036854775808 ≤ a ∧ a ≤ 9223372036854775807) (.ret (.tup [.agg [.int .i64 false (selZ (sok4 x11 x12 x13 x8 a b) (x0)), .int .i64 false (selZ (sok4 x11 x12 x13 x8 a b) (x1)), .int .i64 false (selZ (sok4 x11 x12 x13 x8 a b) (x2)), .int .i64 false (selZ (sok4 x11 x12 x13 x8 a b) (x3)), .int .i64 false (selZ (sok4 x11 x12 x13 x8 a b) (x4)), .int .i64 false (selZ (sok4 x11 x12 x13 x8 a b) (x5)), .int .i64 false (selZ (sok4 x11 x12 x13 x8 a b) (x6)), .int .i64 false (selZ (sok4 x11 x12 x13 x8 a b) (x7)), .int .i64 false (selZ (sok4 x11 x12 x13 x8 a b) (x8)), .int .i64 false (selZ (sok4 x11 x12 x13 x8 a b) (x9)), .int .i64 false (selZ (sok4 x11 x12 x13 x8 a b) (x10)), .int .i64 false (selZ (sok4 x11 x12 x13 x8 a b) ((min 1125899906842624000 (x11 * 1000 + x12 + sizeZ a * b)) / 1000)), .int .i64 false (selZ (sok4 x11 x12 x13 x8 a b) ((min 1125899906842624000 (x11 * 1000 + x12 + sizeZ a * b)) % 1000)), .int .i64 false (selZ (sok4 x11 x12 x13 x8 a b) (max x13 (min ((min 1125899906842624000 (x11 * 1000 + x12 + sizeZ a * b)) / 1000 / 2 / x8) 2147483647))), .int .i64 false (selZ (sok4 x11 x12 x13 x8 a b) (x14)), .int .i64 false (selZ (sok4 x11 x12 x13 x8 a b) (x15)), .int .i64 false (selZ (sok4 x11 x12 x13 x8 a b) (x16)), .int .i64 false (selZ (sok4 x11 x12 x13 x8 a b) (x17)), .int .i64 false (selZ (sok4 x11 x12 x13 x8 a b) (x18)), .int .i64 false (selZ (sok4 x11 x12 x13 x8 a b) (x19)), .int .i64 false (selZ (sok4 x11 x12 x13 x8 a b) (x20)), .int .i64 false (selZ (sok4 x11 x12 x13 x8 a b) (x21)), .int .i64 false (selZ (sok4 x11 x12 x13 x8 a b) (x22))], .int .i64 false (errZ (sok4 x11 x12 x13 x8 a b))], [])))
  | _, _ => none
set_option maxRecDepth 100000 in
theorem tstep (x0 x1 x2 x3 x4 x5 x6 x7 x8 x9 x10 x11 x12 x13 x14 x15 x16 x17 x18 x19 x20 x21 x22 : Int) (a b : Int) : evBody (mkC Try.prog 0 (fun _ => none) [(36, esum), (41, esize), (27, echk), (43, eright), (29, eworks)]) (evCall (mkC Try.prog 0 (fun _ => none) [(36, esum), (41, esize), (27, echk), (43, eright), (29, eworks)]) 50) 23 [.agg [.int .i64 false x0, .int .i64 false x1, .int .i64 false x2, .int .i64 false x3, .int .i64 false x4, .int .i64 false x5, .int .i64 false x6, .int .i64 false x7, .int .i64 false x8, .int .i64 false x9, .int .i64 false x10, .int .i64 false x11, .int .i64 false x12, .int .i64 false x13, .int .i64 false x14, .int .i64 false x15, .int .i64 false x16, .int .i64 false x17, .int .i64 false x18, .int .i64 false x19, .int .i64 false x20, .int .i64 false x21, .int .i64 false x22], .int .i64 false a, .int .i64 false b] [] =
  Tree.chk ((-9223372036854775808 : Int) ≤ a ∧ a ≤ (9223372036854775807 : Int))
    (Tree.br (!ok4 x11 x12 x13 x8)
      (Tree.ret
        (AV.tup
            [AV.agg
                [AV.int IntKind.i64 true (0 : Int), AV.int IntKind.i64 true (0 : Int), AV.int IntKind.i64 true (0 : Int), AV.int IntKind.i64 true (0 : Int), AV.int IntKind.i64 true (0 : Int), AV.int IntKind.i64 true (0 : Int),
                  AV.int IntKind.i64 true (0 : Int), AV.int IntKind.i64 true (0 : Int), AV.int IntKind.i64 true (0 : Int), AV.int IntKind.i64 true (0 : Int), AV.int IntKind.i64 true (0 : Int), AV.int IntKind.i64 true (0 : Int),
                  AV.int IntKind.i64 true (0 : Int), AV.int IntKind.i64 true (0 : Int), AV.int IntKind.i64 true (0 : Int), AV.int IntKind.i64 true (0 : Int), AV.int IntKind.i64 true (0 : Int), AV.int IntKind.i64 true (0 : Int),
                  AV.int IntKind.i64 true (0 : Int), AV.int IntKind.i64 true (0 : Int), AV.int IntKind.i64 true (0 : Int), AV.int IntKind.i64 true (0 : Int), AV.int IntKind.i64 true (0 : Int)],
              AV.int IntKind.i64 true (2 : Int)],
          []))
      (Tree.br (decide (sizeZ a > (2147483648 : Int)))
        (Tree.ret
          (AV.tup
              [AV.agg
                  [AV.int IntKind.i64 true (0 : Int), AV.int IntKind.i64 true (0 : Int), AV.int IntKind.i64 true (0 : Int), AV.int IntKind.i64 true (0 : Int), AV.int IntKind.i64 true (0 : Int), AV.int IntKind.i64 true (0 : Int),
                    AV.int IntKind.i64 true (0 : Int), AV.int IntKind.i64 true (0 : Int), AV.int IntKind.i64 true (0 : Int), AV.int IntKind.i64 true (0 : Int), AV.int IntKind.i64 true (0 : Int), AV.int IntKind.i64 true (0 : Int),
                    AV.int IntKind.i64 true (0 : Int), AV.int IntKind.i64 true (0 : Int), AV.int IntKind.i64 true (0 : Int), AV.int IntKind.i64 true (0 : Int), AV.int IntKind.i64 true (0 : Int), AV.int IntKind.i64 true (0 : Int),
                    AV.int IntKind.i64 true (0 : Int), AV.int IntKind.i64 true (0 : Int), AV.int IntKind.i64 true (0 : Int), AV.int IntKind.i64 true (0 : Int), AV.int IntKind.i64 true (0 : Int)],
                AV.int IntKind.i64 true (2 : Int)],
            []))
        (Tree.br (decide (b < (1 : Int)))
          (Tree.ret
            (AV.tup
                [AV.agg
                    [AV.int IntKind.i64 true (0 : Int), AV.int IntKind.i64 true (0 : Int), AV.int IntKind.i64 true (0 : Int), AV.int IntKind.i64 true (0 : Int), AV.int IntKind.i64 true (0 : Int), AV.int IntKind.i64 true (0 : Int),
                      AV.int IntKind.i64 true (0 : Int), AV.int IntKind.i64 true (0 : Int), AV.int IntKind.i64 true (0 : Int), AV.int IntKind.i64 true (0 : Int), AV.int IntKind.i64 true (0 : Int), AV.int IntKind.i64 true (0 : Int),
                      AV.int IntKind.i64 true (0 : Int), AV.int IntKind.i64 true (0 : Int), AV.int IntKind.i64 true (0 : Int), AV.int IntKind.i64 true (0 : Int), AV.int IntKind.i64 true (0 : Int), AV.int IntKind.i64 true (0 : Int),
                      AV.int IntKind.i64 true (0 : Int), AV.int IntKind.i64 true (0 : Int), AV.int IntKind.i64 true (0 : Int), AV.int IntKind.i64 true (0 : Int), AV.int IntKind.i64 true (0 : Int)],
                  AV.int IntKind.i64 true (2 : Int)],
              []))
          (Tree.br (decide (b > (60000 : Int)))
            (Tree.ret
              (AV.tup
                  [AV.agg
                      [AV.int IntKind.i64 true (0 : Int), AV.int IntKind.i64 true (0 : Int), AV.int IntKind.i64 true (0 : Int), AV.int IntKind.i64 true (0 : Int), AV.int IntKind.i64 true (0 : Int), AV.int IntKind.i64 true (0 : Int),
                        AV.int IntKind.i64 true (0 : Int), AV.int IntKind.i64 true (0 : Int), AV.int IntKind.i64 true (0 : Int), AV.int IntKind.i64 true (0 : Int), AV.int IntKind.i64 true (0 : Int), AV.int IntKind.i64 true (0 : Int),
                        AV.int IntKind.i64 true (0 : Int), AV.int IntKind.i64 true (0 : Int), AV.int IntKind.i64 true (0 : Int), AV.int IntKind.i64 true (0 : Int), AV.int IntKind.i64 true (0 : Int), AV.int IntKind.i64 true (0 : Int),
                        AV.int IntKind.i64 true (0 : Int), AV.int IntKind.i64 true (0 : Int), AV.int IntKind.i64 true (0 : Int), AV.int IntKind.i64 true (0 : Int), AV.int IntKind.i64 true (0 : Int)],
                    AV.int IntKind.i64 true (2 : Int)],
                []))
            (Tree.chk
              ((-9223372036854775808 : Int) ≤ IntKind.wrap IntKind.i64 (sizeZ a * b) ∧
                IntKind.wrap IntKind.i64 (sizeZ a * b) ≤ (9223372036854775807 : Int) ∧
                  (0 : Int) ≤ IntKind.wrap IntKind.i64 (IntKind.wrap IntKind.i64 (x11 * (1000 : Int)) + x12) ∧ IntKind.wrap IntKind.i64 (IntKind.wrap IntKind.i64 (x11 * (1000 : Int)) + x12) ≤ (1125899906842624000 : Int))
              (Tree.br true
                (Tree.br true
                  (Tree.br true
                    (Tree.br (!decide (x8 = (0 : Int)))
                      (Tree.ret
                        (AV.tup
                            [AV.agg
                                [AV.int IntKind.i64 false x0, AV.int IntKind.i64 false x1, AV.int IntKind.i64 false x2, AV.int IntKind.i64 false x3, AV.int IntKind.i64 false x4, AV.int IntKind.i64 false x5,
                                  AV.int IntKind.i64 false x6, AV.int IntKind.i64 false x7, AV.int IntKind.i64 false x8, AV.int IntKind.i64 false x9, AV.int IntKind.i64 false x10,
                                  AV.int IntKind.i64 false
                                    (IntKind.wrap IntKind.i64 (Int.tdiv (sumZ (IntKind.wrap IntKind.i64 (IntKind.wrap IntKind.i64 (x11 * (1000 : Int)) + x12)) (IntKind.wrap IntKind.i64 (sizeZ a * b))) (1000 : Int))),
                                  AV.int IntKind.i64 false (Int.tmod (sumZ (IntKind.wrap IntKind.i64 (IntKind.wrap IntKind.i64 (x11 * (1000 : Int)) + x12)) (IntKind.wrap IntKind.i64 (sizeZ a * b))) (1000 : Int)),
                                  AV.int IntKind.i64 false
                                    (if
                                        (if
                                              (2147483647 : Int) <
                                                IntKind.wrap IntKind.i64
                                                  (Int.tdiv
                                                    (IntKind.wrap IntKind.i64
                                                      (Int.tdiv
                                                        (IntKind.wrap IntKind.i64
                                                          (Int.tdiv (sumZ (IntKind.wrap IntKind.i64 (IntKind.wrap IntKind.i64 (x11 * (1000 : Int)) + x12)) (IntKind.wrap IntKind.i64 (sizeZ a * b))) (1000 : Int)))
                                                        (2 : Int)))
                                                    x8) then
                                            (2147483647 : Int)
                                          else
                                            IntKind.wrap IntKind.i64
                                              (Int.tdiv
                                                (IntKind.wrap IntKind.i64
                                                  (Int.tdiv
                                                    (IntKind.wrap IntKind.i64
                                                      (Int.tdiv (sumZ (IntKind.wrap IntKind.i64 (IntKind.wrap IntKind.i64 (x11 * (1000 : Int)) + x12)) (IntKind.wrap IntKind.i64 (sizeZ a * b))) (1000 : Int)))
                                                    (2 : Int)))
                                                x8)) >
                                          x13 then
                                      if
                                          (2147483647 : Int) <
                                            IntKind.wrap IntKind.i64
                                              (Int.tdiv
                                                (IntKind.wrap IntKind.i64
                                                  (Int.tdiv
                                                    (IntKind.wrap IntKind.i64
                                                      (Int.tdiv (sumZ (IntKind.wrap IntKind.i64 (IntKind.wrap IntKind.i64 (x11 * (1000 : Int)) + x12)) (IntKind.wrap IntKind.i64 (sizeZ a * b))) (1000 : Int)))
                                                    (2 : Int)))
                                                x8) then
                                        (2147483647 : Int)
                                      else
                                        IntKind.wrap IntKind.i64
                                          (Int.tdiv
                                            (IntKind.wrap IntKind.i64
                                              (Int.tdiv
                                                (IntKind.wrap IntKind.i64 (Int.tdiv (sumZ (IntKind.wrap IntKind.i64 (IntKind.wrap IntKind.i64 (x11 * (1000 : Int)) + x12)) (IntKind.wrap IntKind.i64 (sizeZ a * b))) (1000 : Int)))
                                                (2 : Int)))
                                            x8)
                                    else x13),
                                  AV.int IntKind.i64 false x14, AV.int IntKind.i64 false x15, AV.int IntKind.i64 false x16, AV.int IntKind.i64 false x17, AV.int IntKind.i64 false x18, AV.int IntKind.i64 false x19,
                                  AV.int IntKind.i64 false x20, AV.int IntKind.i64 false x21, AV.int IntKind.i64 false x22],
                              AV.int IntKind.i64 true (0 : Int)],
                          []))
                      Tree.fail)
                    Tree.fail)
                  Tree.fail)
                Tree.fail)))))) := by kernel_rfl
set_option maxRecDepth 100000 in
theorem gstep (x0 x1 x2 x3 x4 x5 x6 x7 x8 x9 x10 x11 x12 x13 x14 x15 x16 x17 x18 x19 x20 x21 x22 : Int) (a b : Int) (hw : -9223372036854775808 ≤ a ∧ a ≤ 9223372036854775807) : (Tree.chk ((-9223372036854775808 : Int) ≤ a ∧ a ≤ (9223372036854775807 : Int))
    (Tree.br (!ok4 x11 x12 x13 x8)
      (Tree.ret
        (AV.tup
            [AV.agg
                [AV.int IntKind.i64 true (0 : Int), AV.int IntKind.i64 true (0 : Int), AV.int IntKind.i64 true (0 : Int), AV.int IntKind.i64 true (0 : Int), AV.int IntKind.i64 true (0 : Int), AV.int IntKind.i64 true (0 : Int),
                  AV.int IntKind.i64 true (0 : Int), AV.int IntKind.i64 true (0 : Int), AV.int IntKind.i64 true (0 : Int), AV.int IntKind.i64 true (0 : Int), AV.int IntKind.i64 true (0 : Int), AV.int IntKind.i64 true (0 : Int),
                  AV.int IntKind.i64 true (0 : Int), AV.int IntKind.i64 true (0 : Int), AV.int IntKind.i64 true (0 : Int), AV.int IntKind.i64 true (0 : Int), AV.int IntKind.i64 true (0 : Int), AV.int IntKind.i64 true (0 : Int),
                  AV.int IntKind.i64 true (0 : Int), AV.int IntKind.i64 true (0 : Int), AV.int IntKind.i64 true (0 : Int), AV.int IntKind.i64 true (0 : Int), AV.int IntKind.i64 true (0 : Int)],
              AV.int IntKind.i64 true (2 : Int)],
          []))
      (Tree.br (decide (sizeZ a > (2147483648 : Int)))
        (Tree.ret
          (AV.tup
              [AV.agg
                  [AV.int IntKind.i64 true (0 : Int), AV.int IntKind.i64 true (0 : Int), AV.int IntKind.i64 true (0 : Int), AV.int IntKind.i64 true (0 : Int), AV.int IntKind.i64 true (0 : Int), AV.int IntKind.i64 true (0 : Int),
                    AV.int IntKind.i64 true (0 : Int), AV.int IntKind.i64 true (0 : Int), AV.int IntKind.i64 true (0 : Int), AV.int IntKind.i64 true (0 : Int), AV.int IntKind.i64 true (0 : Int), AV.int IntKind.i64 true (0 : Int),
                    AV.int IntKind.i64 true (0 : Int), AV.int IntKind.i64 true (0 : Int), AV.int IntKind.i64 true (0 : Int), AV.int IntKind.i64 true (0 : Int), AV.int IntKind.i64 true (0 : Int), AV.int IntKind.i64 true (0 : Int),
                    AV.int IntKind.i64 true (0 : Int), AV.int IntKind.i64 true (0 : Int), AV.int IntKind.i64 true (0 : Int), AV.int IntKind.i64 true (0 : Int), AV.int IntKind.i64 true (0 : Int)],
                AV.int IntKind.i64 true (2 : Int)],
            []))
        (Tree.br (decide (b < (1 : Int)))
          (Tree.ret
            (AV.tup
                [AV.agg
                    [AV.int IntKind.i64 true (0 : Int), AV.int IntKind.i64 true (0 : Int), AV.int IntKind.i64 true (0 : Int), AV.int IntKind.i64 true (0 : Int), AV.int IntKind.i64 true (0 : Int), AV.int IntKind.i64 true (0 : Int),
                      AV.int IntKind.i64 true (0 : Int), AV.int IntKind.i64 true (0 : Int), AV.int IntKind.i64 true (0 : Int), AV.int IntKind.i64 true (0 : Int), AV.int IntKind.i64 true (0 : Int), AV.int IntKind.i64 true (0 : Int),
                      AV.int IntKind.i64 true (0 : Int), AV.int IntKind.i64 true (0 : Int), AV.int IntKind.i64 true (0 : Int), AV.int IntKind.i64 true (0 : Int), AV.int IntKind.i64 true (0 : Int), AV.int IntKind.i64 true (0 : Int),
                      AV.int IntKind.i64 true (0 : Int), AV.int IntKind.i64 true (0 : Int), AV.int IntKind.i64 true (0 : Int), AV.int IntKind.i64 true (0 : Int), AV.int IntKind.i64 true (0 : Int)],
                  AV.int IntKind.i64 true (2 : Int)],
              []))
          (Tree.br (decide (b > (60000 : Int)))
            (Tree.ret
              (AV.tup
                  [AV.agg
                      [AV.int IntKind.i64 true (0 : Int), AV.int IntKind.i64 true (0 : Int), AV.int IntKind.i64 true (0 : Int), AV.int IntKind.i64 true (0 : Int), AV.int IntKind.i64 true (0 : Int), AV.int IntKind.i64 true (0 : Int),
                        AV.int IntKind.i64 true (0 : Int), AV.int IntKind.i64 true (0 : Int), AV.int IntKind.i64 true (0 : Int), AV.int IntKind.i64 true (0 : Int), AV.int IntKind.i64 true (0 : Int), AV.int IntKind.i64 true (0 : Int),
                        AV.int IntKind.i64 true (0 : Int), AV.int IntKind.i64 true (0 : Int), AV.int IntKind.i64 true (0 : Int), AV.int IntKind.i64 true (0 : Int), AV.int IntKind.i64 true (0 : Int), AV.int IntKind.i64 true (0 : Int),
                        AV.int IntKind.i64 true (0 : Int), AV.int IntKind.i64 true (0 : Int), AV.int IntKind.i64 true (0 : Int), AV.int IntKind.i64 true (0 : Int), AV.int IntKind.i64 true (0 : Int)],
                    AV.int IntKind.i64 true (2 : Int)],
                []))
            (Tree.chk
              ((-9223372036854775808 : Int) ≤ IntKind.wrap IntKind.i64 (sizeZ a * b) ∧
                IntKind.wrap IntKind.i64 (sizeZ a * b) ≤ (9223372036854775807 : Int) ∧
                  (0 : Int) ≤ IntKind.wrap IntKind.i64 (IntKind.wrap IntKind.i64 (x11 * (1000 : Int)) + x12) ∧ IntKind.wrap IntKind.i64 (IntKind.wrap IntKind.i64 (x11 * (1000 : Int)) + x12) ≤ (1125899906842624000 : Int))
              (Tree.br true
                (Tree.br true
                  (Tree.br true
                    (Tree.br (!decide (x8 = (0 : Int)))
                      (Tree.ret
                        (AV.tup
                            [AV.agg
                                [AV.int IntKind.i64 false x0, AV.int IntKind.i64 false x1, AV.int IntKind.i64 false x2, AV.int IntKind.i64 false x3, AV.int IntKind.i64 false x4, AV.int IntKind.i64 false x5,
                                  AV.int IntKind.i64 false x6, AV.int IntKind.i64 false x7, AV.int IntKind.i64 false x8, AV.int IntKind.i64 false x9, AV.int IntKind.i64 false x10,
                                  AV.int IntKind.i64 false
                                    (IntKind.wrap IntKind.i64 (Int.tdiv (sumZ (IntKind.wrap IntKind.i64 (IntKind.wrap IntKind.i64 (x11 * (1000 : Int)) + x12)) (IntKind.wrap IntKind.i64 (sizeZ a * b))) (1000 : Int))),
                                  AV.int IntKind.i64 false (Int.tmod (sumZ (IntKind.wrap IntKind.i64 (IntKind.wrap IntKind.i64 (x11 * (1000 : Int)) + x12)) (IntKind.wrap IntKind.i64 (sizeZ a * b))) (1000 : Int)),
                                  AV.int IntKind.i64 false
                                    (if
                                        (if
                                              (2147483647 : Int) <
                                                IntKind.wrap IntKind.i64
                                                  (Int.tdiv
                                                    (IntKind.wrap IntKind.i64
                                                      (Int.tdiv
                                                        (IntKind.wrap IntKind.i64
                                                          (Int.tdiv (sumZ (IntKind.wrap IntKind.i64 (IntKind.wrap IntKind.i64 (x11 * (1000 : Int)) + x12)) (IntKind.wrap IntKind.i64 (sizeZ a * b))) (1000 : Int)))
                                                        (2 : Int)))
                                                    x8) then
                                            (2147483647 : Int)
                                          else
                                            IntKind.wrap IntKind.i64
                                              (Int.tdiv
                                                (IntKind.wrap IntKind.i64
                                                  (Int.tdiv
                                                    (IntKind.wrap IntKind.i64
                                                      (Int.tdiv (sumZ (IntKind.wrap IntKind.i64 (IntKind.wrap IntKind.i64 (x11 * (1000 : Int)) + x12)) (IntKind.wrap IntKind.i64 (sizeZ a * b))) (1000 : Int)))
                                                    (2 : Int)))
                                                x8)) >
                                          x13 then
                                      if
                                          (2147483647 : Int) <
                                            IntKind.wrap IntKind.i64
                                              (Int.tdiv
                                                (IntKind.wrap IntKind.i64
                                                  (Int.tdiv
                                                    (IntKind.wrap IntKind.i64
                                                      (Int.tdiv (sumZ (IntKind.wrap IntKind.i64 (IntKind.wrap IntKind.i64 (x11 * (1000 : Int)) + x12)) (IntKind.wrap IntKind.i64 (sizeZ a * b))) (1000 : Int)))
                                                    (2 : Int)))
                                                x8) then
                                        (2147483647 : Int)
                                      else
                                        IntKind.wrap IntKind.i64
                                          (Int.tdiv
                                            (IntKind.wrap IntKind.i64
                                              (Int.tdiv
                                                (IntKind.wrap IntKind.i64 (Int.tdiv (sumZ (IntKind.wrap IntKind.i64 (IntKind.wrap IntKind.i64 (x11 * (1000 : Int)) + x12)) (IntKind.wrap IntKind.i64 (sizeZ a * b))) (1000 : Int)))
                                                (2 : Int)))
                                            x8)
                                    else x13),
                                  AV.int IntKind.i64 false x14, AV.int IntKind.i64 false x15, AV.int IntKind.i64 false x16, AV.int IntKind.i64 false x17, AV.int IntKind.i64 false x18, AV.int IntKind.i64 false x19,
                                  AV.int IntKind.i64 false x20, AV.int IntKind.i64 false x21, AV.int IntKind.i64 false x22],
                              AV.int IntKind.i64 true (0 : Int)],
                          []))
                      Tree.fail)
                    Tree.fail)
                  Tree.fail)
                Tree.fail)))))) : Tree (AV × Mem)).Gives (.tup [.agg [.int .i64 false (selZ (sok4 x11 x12 x13 x8 a b) (x0)), .int .i64 false (selZ (sok4 x11 x12 x13 x8 a b) (x1)), .int .i64 false (selZ (sok4 x11 x12 x13 x8 a b) (x2)), .int .i64 false (selZ (sok4 x11 x12 x13 x8 a b) (x3)), .int .i64 false (selZ (sok4 x11 x12 x13 x8 a b) (x4)), .int .i64 false (selZ (sok4 x11 x12 x13 x8 a b) (x5)), .int .i64 false (selZ (sok4 x11 x12 x13 x8 a b) (x6)), .int .i64 false (selZ (sok4 x11 x12 x13 x8 a b) (x7)), .int .i64 false (selZ (sok4 x11 x12 x13 x8 a b) (x8)), .int .i64 false (selZ (sok4 x11 x12 x13 x8 a b) (x9)), .int .i64 false (selZ (sok4 x11 x12 x13 x8 a b) (x10)), .int .i64 false (selZ (sok4 x11 x12 x13 x8 a b) ((min 1125899906842624000 (x11 * 1000 + x12 + sizeZ a * b)) / 1000)), .int .i64 false (selZ (sok4 x11 x12 x13 x8 a b) ((min 1125899906842624000 (x11 * 1000 + x12 + sizeZ a * b)) % 1000)), .int .i64 false (selZ (sok4 x11 x12 x13 x8 a b) (max x13 (min ((min 1125899906842624000 (x11 * 1000 + x12 + sizeZ a * b)) / 1000 / 2 / x8) 2147483647))), .int .i64 false (selZ (sok4 x11 x12 x13 x8 a b) (x14)), .int .i64 false (selZ (sok4 x11 x12 x13 x8 a b) (x15)), .int .i64 false (selZ (sok4 x11 x12 x13 x8 a b) (x16)), .int .i64 false (selZ (sok4 x11 x12 x13 x8 a b) (x17)), .int .i64 false (selZ (sok4 x11 x12 x13 x8 a b) (x18)), .int .i64 false (selZ (sok4 x11 x12 x13 x8 a b) (x19)), .int .i64 false (selZ (sok4 x11 x12 x13 x8 a b) (x20)), .int .i64 false (selZ (sok4 x11 x12 x13 x8 a b) (x21)), .int .i64 false (selZ (sok4 x11 x12 x13 x8 a b) (x22))], .int .i64 false (errZ (sok4 x11 x12 x13 x8 a b))]) ([]) := by
  cases hk : sok4 x11 x12 x13 x8 a b
  · simp only [selZ_f, errZ_f]
    repeat' first
      | (refine Tree.Gives.br (fun h => ?_) (fun h => ?_) <;> (try simp only [decide_eq_true_eq, decide_eq_false_iff_not, Bool.not_eq_true', Bool.not_eq_false', beq_iff_eq, beq_eq_false_iff_ne, Int.not_lt, Int.not_le, ge_iff_le, gt_iff_lt, ne_eq, Bool.false_eq_true, Bool.true_eq_false, not_true_eq_false, not_false_eq_true, errZ_bne, errZ_beq] at h))
      | refine Tree.Gives.chk ?_ ?_
      | refine Tree.Gives.ret ?_ (by first | exact Mem.le_refl _ | (simp only [Mem.le, Blk.le, Data.le, AV.le, AV.leL, and_true, true_and]; done))
  
    all_goals first | exact hw | (simp only [AV.le, AV.leL, and_true, true_and]; done) | exact (sok4_no hk (by assumption) (by omega) (by omega) (by omega)).elim
  · simp only [selZ_t, errZ_t]
    obtain ⟨k1, k2, k3, k4⟩ := sok4_iff.1 hk
    obtain ⟨f1, f2, f3, f4, f5, f6, f7, f8, f9, f10, f11⟩ := step_facts hw hk
    obtain ⟨g1, g2, g3, g4⟩ := fin3 f8 f9 f10
    simp only [k1, f1, f2, f7, g1, g2, g3, g4, Bool.not_true]
    repeat' first
      | (refine Tree.Gives.br (fun h => ?_) (fun h => ?_) <;> (try simp only [decide_eq_true_eq, decide_eq_false_iff_not, Bool.not_eq_true', Bool.not_eq_false', beq_iff_eq, beq_eq_false_iff_ne, Int.not_lt, Int.not_le, ge_iff_le, gt_iff_lt, ne_eq, Bool.false_eq_true, Bool.true_eq_false, not_true_eq_false, not_false_eq_true, errZ_bne, errZ_beq] at h))
      | refine Tree.Gives.chk ?_ ?_
      | refine Tree.Gives.ret ?_ (by first | exact Mem.le_refl _ | (simp only [Mem.le, Blk.le, Data.le, AV.le, AV.leL, and_true, true_and]; done))
  
    all_goals first | omega | (simp only [AV.le, AV.leL, and_true, true_and]) | (exfalso; omega)
    all_goals (repeat' split) <;> omega
theorem sstep (x0 x1 x2 x3 x4 x5 x6 x7 x8 x9 x10 x11 x12 x13 x14 x15 x16 x17 x18 x19 x20 x21 x22 : Int) (a b : Int) (hw : -9223372036854775808 ≤ a ∧ a ≤ 9223372036854775807) : SoundAt (mkC Try.prog 0 (fun _ => none) []) 23 [.agg [.int .i64 false x0, .int .i64 false x1, .int .i64 false x2, .int .i64 false x3, .int .i64 false x4, .int .i64 false x5, .int .i64 false x6, .int .i64 false x7, .int .i64 false x8, .int .i64 false x9, .int .i64 false x10, .int .i64 false x11, .int .i64 false x12, .int .i64 false x13, .int .i64 false x14, .int .i64 false x15, .int .i64 false x16, .int .i64 false x17, .int .i64 false x18, .int .i64 false x19, .int .i64 false x20, .int .i64 false x21, .int .i64 false x22], .int .i64 false a, .int .i64 false b] [] (.tup [.agg [.int .i64 false (selZ (sok4 x11 x12 x13 x8 a b) (x0)), .int .i64 false (selZ (sok4 x11 x12 x13 x8 a b) (x1)), .int .i64 false (selZ (sok4 x11 x12 x13 x8 a b) (x2)), .int .i64 false (selZ (sok4 x11 x12 x13 x8 a b) (x3)), .int .i64 false (selZ (sok4 x11 x12 x13 x8 a b) (x4)), .int .i64 false (selZ (sok4 x11 x12 x13 x8 a b) (x5)), .int .i64 false (selZ (sok4 x11 x12 x13 x8 a b) (x6)), .int .i64 false (selZ (sok4 x11 x12 x13 x8 a b) (x7)), .int .i64 false (selZ (sok4 x11 x12 x13 x8 a b) (x8)), .int .i64 false (selZ (sok4 x11 x12 x13 x8 a b) (x9)), .int .i64 false (selZ (sok4 x11 x12 x13 x8 a b) (x10)), .int .i64 false (selZ (sok4 x11 x12 x13 x8 a b) ((min 1125899906842624000 (x11 * 1000 + x12 + sizeZ a * b)) / 1000)), .int .i64 false (selZ (sok4 x11 x12 x13 x8 a b) ((min 1125899906842624000 (x11 * 1000 + x12 + sizeZ a * b)) % 1000)), .int .i64 false (selZ (sok4 x11 x12 x13 x8 a b) (max x13 (min ((min 1125899906842624000 (x11 * 1000 + x12 + sizeZ a * b)) / 1000 / 2 / x8) 2147483647))), .int .i64 false (selZ (sok4 x11 x12 x13 x8 a b) (x14)), .int .i64 false (selZ (sok4 x11 x12 x13 x8 a b) (x15)), .int .i64 false (selZ (sok4 x11 x12 x13 x8 a b) (x16)), .int .i64 false (selZ (sok4 x11 x12 x13 x8 a b) (x17)), .int .i64 false (selZ (sok4 x11 x12 x13 x8 a b) (x18)), .int .i64 false (selZ (sok4 x11 x12 x13 x8 a b) (x19)), .int .i64 false (selZ (sok4 x11 x12 x13 x8 a b) (x20)), .int .i64 false (selZ (sok4 x11 x12 x13 x8 a b) (x21)), .int .i64 false (selZ (sok4 x11 x12 x13 x8 a b) (x22))], .int .i64 false (errZ (sok4 x11 x12 x13 x8 a b))], []) := sound_of all5 mix (tstep x0 x1 x2 x3 x4 x5 x6 x7 x8 x9 x10 x11 x12 x13 x14 x15 x16 x17 x18 x19 x20 x21 x22 a b) (gstep x0 x1 x2 x3 x4 x5 x6 x7 x8 x9 x10 x11 x12 x13 x14 x15 x16 x17 x18 x19 x20 x21 x22 a b hw)
theorem estep_ok : EntOk Try.prog 0 (fun _ => none) 23 estep := by
  intro args M t h r hr
  unfold estep at h
  split at h
  · cases h
    obtain ⟨hw, rfl⟩ := hr
    rename_i _ x0 _ x1 _ x2 _ x3 _ x4 _ x5 _ x6 _ x7 _ x8 _ x9 _ x10 _ x11 _ x12 _ x13 _ x14 _ x15 _ x16 _ x17 _ x18 _ x19 _ x20 _ x21 _ x22 _ a _ b
    refine SoundAt.flags (sstep x0 x1 x2 x3 x4 x5 x6 x7 x8 x9 x10 x11 x12 x13 x14 x15 x16 x17 x18 x19 x20 x21 x22 a b hw) ?_
    simp [AV.le, AV.leL, Cap.le]
  · cases h
theorem all6 : AllOk Try.prog 0 (fun _ => none) [(23, estep), (36, esum), (41, esize), (27, echk), (43, eright), (29, eworks)] := ⟨estep_ok, all5⟩
end Go.Proofs.Ytonhkbgielilbaa.Rig

/- What function 25 gives. -/
namespace Go.Proofs.Ytonhkbgielilbaa.Rig
open Go
set_option linter.unusedVariables false in
noncomputable def etotal : Ent := fun args M => match args, M with
  | [.agg [.int .i64 _ x0, .int .i64 _ x1, .int .i64 _ x2, .int .i64 _ x3, .int .i64 _ x4, .int .i64 _ x5, .int .i64 _ x6, .int .i64 _ x7, .int .i64 _ x8, .int .i64 _ x9, .int .i64 _ x10, .int .i64 _ x11, .int .i64 _ x12, .int .i64 _ x13, .int .i64 _ x14, .int .i64 _ x15, .int .i64 _ x16, .int .i64 _ x17, .int .i64 _ x18, .int .i64 _ x19, .int .i64 _ x20, .int .i64 _ x21, .int .i64 _ x22]], [] => some (.ret (.tup [.int .i64 false (selZ (ok4 x11 x12 x13 x8) (x11 * 1000 + x12)), .int .i64 false (errZ (ok4 x11 x12 x13 x8))], []))
  | _, _ => none
set_option maxRecDepth 100000 in
theorem ttotal (x0 x1 x2 x3 x4 x5 x6 x7 x8 x9 x10 x11 x12 x13 x14 x15 x16 x17 x18 x19 x20 x21 x22 : Int) : evBody (mkC Try.prog 0 (fun _ => none) [(23, estep), (36, esum), (41, esize), (27, echk), (43, eright), (29, eworks)]) (evCall (mkC Try.prog 0 (fun _ => none) [(23, estep), (36, esum), (41, esize), (27, echk), (43, eright), (29, eworks)]) 50) 25 [.agg [.int .i64 false x0, .int .i64 false x1, .int .i64 false x2, .int .i64 false x3, .int .i64 false x4, .int .i64 false x5, .int .i64 false x6, .int .i64 false x7, .int .i64 false x8, .int .i64 false x9, .int .i64 false x10, .int .i64 false x11, .int .i64 false x12, .int .i64 false x13, .int .i64 false x14, .int .i64 false x15, .int .i64 false x16, .int .i64 false x17, .int .i64 false x18, .int .i64 false x19, .int .i64 false x20, .int .i64 false x21, .int .i64 false x22]] [] =
  Tree.br (errZ (ok4 x11 x12 x13 x8) != (0 : Int)) (Tree.ret (AV.tup [AV.int IntKind.i64 true (0 : Int), AV.int IntKind.i64 false (errZ (ok4 x11 x12 x13 x8))], []))
    (Tree.ret (AV.tup [AV.int IntKind.i64 false (IntKind.wrap IntKind.i64 (IntKind.wrap IntKind.i64 (x11 * (1000 : Int)) + x12)), AV.int IntKind.i64 true (0 : Int)], [])) := by kernel_rfl
set_option maxRecDepth 100000 in
theorem gtotal (x0 x1 x2 x3 x4 x5 x6 x7 x8 x9 x10 x11 x12 x13 x14 x15 x16 x17 x18 x19 x20 x21 x22 : Int) : (Tree.br (errZ (ok4 x11 x12 x13 x8) != (0 : Int)) (Tree.ret (AV.tup [AV.int IntKind.i64 true (0 : Int), AV.int IntKind.i64 false (errZ (ok4 x11 x12 x13 x8))], []))
    (Tree.ret (AV.tup [AV.int IntKind.i64 false (IntKind.wrap IntKind.i64 (IntKind.wrap IntKind.i64 (x11 * (1000 : Int)) + x12)), AV.int IntKind.i64 true (0 : Int)], [])) : Tree (AV × Mem)).Gives (.tup [.int .i64 false (selZ (ok4 x11 x12 x13 x8) (x11 * 1000 + x12)), .int .i64 false (errZ (ok4 x11 x12 x13 x8))]) ([]) := by
  repeat' first
    | (refine Tree.Gives.br (fun h => ?_) (fun h => ?_) <;> (try simp only [decide_eq_true_eq, decide_eq_false_iff_not, Bool.not_eq_true', Bool.not_eq_false', beq_iff_eq, beq_eq_false_iff_ne, Int.not_lt, Int.not_le, ge_iff_le, gt_iff_lt, ne_eq, Bool.false_eq_true, Bool.true_eq_false, not_true_eq_false, not_false_eq_true, errZ_bne, errZ_beq] at h))
    | refine Tree.Gives.chk ?_ ?_
    | refine Tree.Gives.ret ?_ (by first | exact Mem.le_refl _ | (simp only [Mem.le, Blk.le, Data.le, AV.le, AV.leL, and_true, true_and]; done))
  all_goals first | (simp only [AV.le, AV.leL, and_true, true_and]; done) | skip
  all_goals (simp_all only [AV.le, AV.leL, errZ_t, errZ_f, selZ_t, selZ_f, and_true, true_and])
  all_goals (simp only [ok4, decide_eq_true_eq] at *; simp only [w64]; omega)
theorem stotal (x0 x1 x2 x3 x4 x5 x6 x7 x8 x9 x10 x11 x12 x13 x14 x15 x16 x17 x18 x19 x20 x21 x22 : Int) : SoundAt (mkC Try.prog 0 (fun _ => none) []) 25 [.agg [.int .i64 false x0, .int .i64 false x1, .int .i64 false x2, .int .i64 false x3, .int .i64 false x4, .int .i64 false x5, .int .i64 false x6, .int .i64 false x7, .int .i64 false x8, .int .i64 false x9, .int .i64 false x10, .int .i64 false x11, .int .i64 false x12, .int .i64 false x13, .int .i64 false x14, .int .i64 false x15, .int .i64 false x16, .int .i64 false x17, .int .i64 false x18, .int .i64 false x19, .int .i64 false x20, .int .i64 false x21, .int .i64 false x22]] [] (.tup [.int .i64 false (selZ (ok4 x11 x12 x13 x8) (x11 * 1000 + x12)), .int .i64 false (errZ (ok4 x11 x12 x13 x8))], []) := sound_of all6 mix (ttotal x0 x1 x2 x3 x4 x5 x6 x7 x8 x9 x10 x11 x12 x13 x14 x15 x16 x17 x18 x19 x20 x21 x22) (gtotal x0 x1 x2 x3 x4 x5 x6 x7 x8 x9 x10 x11 x12 x13 x14 x15 x16 x17 x18 x19 x20 x21 x22)
theorem etotal_ok : EntOk Try.prog 0 (fun _ => none) 25 etotal := by
  intro args M t h r hr
  unfold etotal at h
  split at h
  · cases h
    cases hr
    rename_i _ x0 _ x1 _ x2 _ x3 _ x4 _ x5 _ x6 _ x7 _ x8 _ x9 _ x10 _ x11 _ x12 _ x13 _ x14 _ x15 _ x16 _ x17 _ x18 _ x19 _ x20 _ x21 _ x22
    refine SoundAt.flags (stotal x0 x1 x2 x3 x4 x5 x6 x7 x8 x9 x10 x11 x12 x13 x14 x15 x16 x17 x18 x19 x20 x21 x22) ?_
    simp [AV.le, AV.leL, Cap.le]
  · cases h
theorem all7 : AllOk Try.prog 0 (fun _ => none) [(25, etotal), (23, estep), (36, esum), (41, esize), (27, echk), (43, eright), (29, eworks)] := ⟨etotal_ok, all6⟩
end Go.Proofs.Ytonhkbgielilbaa.Rig

/- What function 22 gives. -/
namespace Go.Proofs.Ytonhkbgielilbaa.Rig
open Go
def amongZ (a b : Int) : Int := (a % 18446744073709551616) % b
theorem amongZ_in {a b : Int} (h : 1 ≤ b) : 0 ≤ amongZ a b ∧ amongZ a b < b := ⟨Int.emod_nonneg _ (by omega), Int.emod_lt_of_pos _ (by omega)⟩
theorem among_eq {a b : Int} (h : 1 ≤ b ∧ b ≤ 9223372036854775807) : IntKind.i64.wrap (Int.tmod (IntKind.u64.wrap a) (IntKind.u64.wrap b)) = amongZ a b := by
  have h1 := amongZ_in (a := a) h.1
  have e : IntKind.u64.wrap b = b := by rw [wu64]; omega
  rw [e, wu64, Int.tmod_eq_emod_of_nonneg (by omega)]
  show IntKind.i64.wrap (amongZ a b) = _
  rw [w64]
  omega
set_option linter.unusedVariables false in
noncomputable def eamong : Ent := fun args M => match args, M with
  | [.int .i64 _ a, .int .i64 _ b], [] => some (.chk (1 ≤ b ∧ b ≤ 9223372036854775807) (.ret (.int .i64 false (amongZ a b), [])))
  | _, _ => none
set_option maxRecDepth 100000 in
theorem tamong (a b : Int) : evBody (mkC Try.prog 0 (fun _ => none) [(25, etotal), (23, estep), (36, esum), (41, esize), (27, echk), (43, eright), (29, eworks)]) (evCall (mkC Try.prog 0 (fun _ => none) [(25, etotal), (23, estep), (36, esum), (41, esize), (27, echk), (43, eright), (29, eworks)]) 50) 22 [.int .i64 false a, .int .i64 false b] [] =
  Tree.br (decide (b < (1 : Int))) (Tree.ret (AV.int IntKind.i64 true (0 : Int), []))
    (Tree.br (!decide (IntKind.wrap IntKind.u64 b = (0 : Int))) (Tree.ret (AV.int IntKind.i64 false (IntKind.wrap IntKind.i64 (Int.tmod (IntKind.wrap IntKind.u64 a) (IntKind.wrap IntKind.u64 b))), [])) Tree.fail) := by kernel_rfl
set_option maxRecDepth 100000 in
theorem gamong (a b : Int) (hw : 1 ≤ b ∧ b ≤ 9223372036854775807) : (Tree.br (decide (b < (1 : Int))) (Tree.ret (AV.int IntKind.i64 true (0 : Int), []))
    (Tree.br (!decide (IntKind.wrap IntKind.u64 b = (0 : Int))) (Tree.ret (AV.int IntKind.i64 false (IntKind.wrap IntKind.i64 (Int.tmod (IntKind.wrap IntKind.u64 a) (IntKind.wrap IntKind.u64 b))), [])) Tree.fail) : Tree (AV × Mem)).Gives (.int .i64 false (amongZ a b)) ([]) := by
  repeat' first
    | (refine Tree.Gives.br (fun h => ?_) (fun h => ?_) <;> (try simp only [decide_eq_true_eq, decide_eq_false_iff_not, Bool.not_eq_true', Bool.not_eq_false', beq_iff_eq, beq_eq_false_iff_ne, Int.not_lt, Int.not_le, ge_iff_le, gt_iff_lt, ne_eq, Bool.false_eq_true, Bool.true_eq_false, not_true_eq_false, not_false_eq_true, errZ_bne, errZ_beq] at h))
    | refine Tree.Gives.chk ?_ ?_
    | refine Tree.Gives.ret ?_ (by first | exact Mem.le_refl _ | (simp only [Mem.le, Blk.le, Data.le, AV.le, AV.leL, and_true, true_and]; done))
  all_goals first | (simp only [AV.le, AV.leL, and_true, true_and]; done) | skip
  all_goals first
    | (exfalso; omega)
    | (exfalso; simp only [wu64] at *; omega)
    | (simp only [AV.le, true_and]; exact among_eq hw)
theorem samong (a b : Int) (hw : 1 ≤ b ∧ b ≤ 9223372036854775807) : SoundAt (mkC Try.prog 0 (fun _ => none) []) 22 [.int .i64 false a, .int .i64 false b] [] (.int .i64 false (amongZ a b), []) := sound_of all7 mix (tamong a b) (gamong a b hw)
theorem eamong_ok : EntOk Try.prog 0 (fun _ => none) 22 eamong := by
  intro args M t h r hr
  unfold eamong at h
  split at h
  · cases h
    obtain ⟨hw, rfl⟩ := hr
    rename_i _ a _ b
    refine SoundAt.flags (samong a b hw) ?_
    simp [AV.le, AV.leL, Cap.le]
  · cases h
theorem all8 : AllOk Try.prog 0 (fun _ => none) [(22, eamong), (25, etotal), (23, estep), (36, esum), (41, esize), (27, echk), (43, eright), (29, eworks)] := ⟨eamong_ok, all7⟩
end Go.Proofs.Ytonhkbgielilbaa.Rig

/- A reckoner over Go's operations: functions over whole numbers and rows that are only read. -/
namespace Go.Proofs.Ytonhkbgielilbaa.Rig
open Go
/-! ### empty blocks behind the others -/
def Blk.pad (b : Blk) : Prop := b.d.size = 0 ∧ (b.virt = true ∨ b.rw = false)
def Mem.leP : Mem → Mem → Prop
  | [], [] => True
  | [], none :: M' => Mem.leP [] M'
  | [], some b' :: M' => b'.pad ∧ Mem.leP [] M'
  | _ :: M, none :: M' => Mem.leP M M'
  | some b :: M, some b' :: M' => b.le b' ∧ Mem.leP M M'
  | _ :: _, [] => False
  | none :: _, some _ :: _ => False
def padOr (o : Option Blk) : Prop := ∀ b, o = some b → b.pad
theorem Mem.leP_split : ∀ {M M' : Mem}, M.leP M' → ∃ M1 pads, M' = M1 ++ pads ∧ Mem.le M M1 ∧ ∀ o ∈ pads, padOr o
  | [], [], _ => ⟨[], [], rfl, by simp only [Mem.le], fun o h => by cases h⟩
  | [], none :: M', h => by
    simp only [Mem.leP] at h
    obtain ⟨M1, pads, rfl, h2, h3⟩ := Mem.leP_split h
    cases M1 with
    | nil => exact ⟨[], none :: pads, rfl, by simp only [Mem.le], fun o ho => by
        rcases List.mem_cons.1 ho with rfl | ho
        · intro b hb; cases hb
        · exact h3 o ho⟩
    | cons o M1 => cases o <;> simp only [Mem.le] at h2
  | [], some b :: M', h => by
    simp only [Mem.leP] at h
    obtain ⟨hb, h⟩ := h
    obtain ⟨M1, pads, rfl, h2, h3⟩ := Mem.leP_split h
    cases M1 with
    | nil => exact ⟨[], some b :: pads, rfl, by simp only [Mem.le], fun o ho => by
        rcases List.mem_cons.1 ho with rfl | ho
        · intro b' hb'; cases hb'; exact hb
        · exact h3 o ho⟩
    | cons o M1 => cases o <;> simp only [Mem.le] at h2
  | o :: M, none :: M', h => by
    simp only [Mem.leP] at h
    obtain ⟨M1, pads, rfl, h2, h3⟩ := Mem.leP_split h
    exact ⟨none :: M1, pads, rfl, by simp only [Mem.le]; exact h2, h3⟩
  | some c :: M, some b :: M', h => by
    simp only [Mem.leP] at h
    obtain ⟨hb, h⟩ := h
    obtain ⟨M1, pads, rfl, h2, h3⟩ := Mem.leP_split h
    exact ⟨some b :: M1, pads, rfl, by simp only [Mem.le]; exact ⟨hb, h2⟩, h3⟩
  | none :: M, some b :: M', h => by simp only [Mem.leP] at h
  | o :: M, [], h => by cases o <;> simp only [Mem.leP] at h
section
variable {P : Program} {σ0 σ : Sig} {M0 M M' : Mem} {w0 w : World}
theorem Rel.pad (h : Rel P σ M w) (o : Option Blk) (ho : padOr o) : Rel P (upd σ M.length ⟨w.heap.size, 0, 0⟩) (M ++ [o]) w := by
  have hext : Ext σ (upd σ M.length ⟨w.heap.size, 0, 0⟩) := upd_ext (h.dom _ (Nat.le_refl _))
  have split_at : ∀ {j bj}, Mem.at (M ++ [o]) j = some bj → (j < M.length ∧ M.at j = some bj) ∨ (j = M.length ∧ bj.pad) := by
    intro j bj hj
    by_cases hlt : j < M.length
    · rw [Mem.at_append_left hlt] at hj; exact .inl ⟨hlt, hj⟩
    · rw [Mem.at_append_right (by omega), Mem.at_one] at hj
      split at hj
      · exact .inr ⟨by omega, ho bj hj⟩
      · cases hj
  have old : ∀ {j : Nat} {y : Bl}, j < M.length → upd σ M.length ⟨w.heap.size, 0, 0⟩ j = some y → σ j = some y := by
    intro j y hlt hy
    unfold upd at hy
    rwa [if_neg (by omega)] at hy
  refine ⟨fun i hi => ?_, fun j bj hj => ?_, fun i j bi bj y z hi hj hne hy hz hrw hvi hvj hyz => ?_⟩
  · simp at hi
    unfold upd
    rw [if_neg (by omega)]
    exact h.dom i (by omega)
  · rcases split_at hj with ⟨hlt, hj⟩ | ⟨rfl, hp⟩
    · obtain ⟨z, hz, hok⟩ := h.blk j bj hj
      exact ⟨z, hext j z hz, hok.mono hext⟩
    · refine ⟨⟨w.heap.size, 0, 0⟩, by simp [upd], ?_⟩
      cases hv : bj.virt with
      | true => exact .inl ⟨hv, hp.1⟩
      | false => exact .inr ⟨hv, Covers.empty (Data.void_of_size hp.1), fun hr => by
          rcases hp.2 with h | h
          · rw [hv] at h; cases h
          · rw [h] at hr; cases hr⟩
  · rcases split_at hi with ⟨hli, hi2⟩ | ⟨rfl, hp⟩
    · rcases split_at hj with ⟨hlj, hj2⟩ | ⟨rfl, hq⟩
      · exact h.sep i j bi bj y z hi2 hj2 hne (old hli hy) (old hlj hz) hrw hvi hvj hyz
      · exact ⟨hq.2.resolve_left (by simp [hvj]), Data.void_of_size hq.1⟩
    · rw [hp.2.resolve_left (by simp [hvi])] at hrw; cases hrw
theorem Moved.pad (h : Moved P σ0 M0 w0 σ M w) (o : Option Blk) (ho : padOr o) : Moved P σ0 M0 w0 (upd σ M.length ⟨w.heap.size, 0, 0⟩) (M ++ [o]) w := by
  have hext : Ext σ (upd σ M.length ⟨w.heap.size, 0, 0⟩) := upd_ext (h.rel.dom _ (Nat.le_refl _))
  refine ⟨h.ext.trans hext, h.rel.pad o ho, h.kept, fun i hi => ?_, fun Q hQ hQ' k hk hocc => ?_, by have := h.len; simp; omega⟩
  · unfold upd
    rw [if_neg (by have := h.len; omega)]
    exact h.agree i hi
  · obtain ⟨i, b, x, h1, h2, h3, h4, h5⟩ := hocc
    by_cases hlt : i < M.length
    · rw [Mem.at_append_left hlt] at h1
      unfold upd at h2
      rw [if_neg (by omega)] at h2
      exact h.occ Q hQ hQ' k hk ⟨i, b, x, h1, h2, h3, h4, h5⟩
    · unfold upd at h2
      have := h.kept.size
      split at h2
      · cases h2
        simp only at h5
        omega
      · rw [h.rel.dom i (by omega)] at h2; cases h2
theorem Moved.pads : ∀ (pads : List (Option Blk)) {σ : Sig} {M : Mem}, (∀ o ∈ pads, padOr o) → Moved P σ0 M0 w0 σ M w → ∃ σ', Ext σ σ' ∧ Moved P σ0 M0 w0 σ' (M ++ pads) w
  | [], σ, M, _, h => ⟨σ, Ext.refl _, by simpa using h⟩
  | o :: pads, σ, M, hp, h => by
    have h1 := h.pad o (hp o (by simp))
    obtain ⟨σ', e, h2⟩ := Moved.pads pads (fun o ho => hp o (by simp [ho])) h1
    exact ⟨σ', (upd_ext (h.rel.dom _ (Nat.le_refl _))).trans e, by simpa using h2⟩
theorem Moved.leP (h : Moved P σ0 M0 w0 σ M w) (hl : M.leP M') : ∃ σ', Ext σ σ' ∧ Moved P σ0 M0 w0 σ' M' w := by
  obtain ⟨M1, pads, rfl, h1, h2⟩ := Mem.leP_split hl
  exact (h.le h1).pads pads h2
end
def Tree.GivesP : Tree (AV × Mem) → AV → Mem → Prop
  | .ret a, v, M => a.1.le v ∧ Mem.leP a.2 M
  | .br b t e, v, M => (b = true → t.GivesP v M) ∧ (b = false → e.GivesP v M)
  | .chk p t, v, M => p ∧ t.GivesP v M
  | .fail, _, _ => False
theorem Tree.GivesP.runs : ∀ {t : Tree (AV × Mem)} {v : AV} {M : Mem}, t.GivesP v M → ∃ r, t.runs r ∧ r.1.le v ∧ Mem.leP r.2 M
  | .ret a, v, M, h => ⟨a, rfl, h⟩
  | .br b t e, v, M, h => by
    cases b
    · obtain ⟨r, h1, h2⟩ := (h.2 rfl).runs
      exact ⟨r, ⟨fun hb => (by cases hb), fun _ => h1⟩, h2⟩
    · obtain ⟨r, h1, h2⟩ := (h.1 rfl).runs
      exact ⟨r, ⟨fun _ => h1, fun hb => (by cases hb)⟩, h2⟩
  | .chk p t, v, M, h => by
    obtain ⟨r, h1, h2⟩ := h.2.runs
    exact ⟨r, ⟨h.1, h1⟩, h2⟩
theorem Tree.GivesP.br {b : Bool} {t e : Tree (AV × Mem)} {v : AV} {M : Mem} (h : b = true → t.GivesP v M) (h' : b = false → e.GivesP v M) : (Tree.br b t e).GivesP v M := ⟨h, h'⟩
theorem Tree.GivesP.chk {p : Prop} {t : Tree (AV × Mem)} {v : AV} {M : Mem} (h : p) (h' : t.GivesP v M) : (Tree.chk p t).GivesP v M := ⟨h, h'⟩
theorem Tree.GivesP.ret {a v : AV} {M M' : Mem} (h : a.le v) (h' : Mem.leP M M') : (Tree.ret (a, M)).GivesP v M' := ⟨h, h'⟩
theorem SoundAt.leP {C : Ctx} {f : FuncId} {args : List AV} {M : Mem} {r : AV × Mem} (h : SoundAt C f args M r) {v : AV} {M' : Mem} (h1 : r.1.le v) (h2 : Mem.leP r.2 M') : SoundAt C f args M (v, M') := by
  intro σ w vals ha hr hg hng
  obtain ⟨he, hc⟩ := h σ w vals ha hr hg hng
  refine ⟨he, hc.mono fun e w' hp => ?_⟩
  obtain ⟨val, σ', rfl, h3, h4⟩ := hp
  obtain ⟨σ2, e2, h5⟩ := h4.leP h2
  exact ⟨val, σ2, rfl, (h1.imp _ _ h3).mono e2, h5⟩
theorem SoundAt.of_bodyP {C : Ctx} {callF : FuncId → List AV → Mem → Tree (AV × Mem)} (hC : CallOk C callF) (hmix : C.P.follows .mixedOrders = true) {f : FuncId} {args : List AV} {M : Mem}
    (hL : ∀ fn c, C.P.funcs[f]? = some fn → fn.body = some c → ∀ b ∈ loopsIn c, (C.keep f (Code.key b)).isSome = true → LoopOk C f M.length b) {T : Tree (AV × Mem)} (hT : evBody C callF f args M = T) {v : AV} {M' : Mem} (h : T.GivesP v M') : SoundAt C f args M (v, M') := by
  obtain ⟨r, h1, h2, h3⟩ := h.runs
  exact (body_ok hC hmix hL (by rw [hT]; exact h1)).leP h2 h3
section
variable {P : Program} {ng : Nat} {gl : Nat → Option Nat}
theorem sound_ofP {l : List (FuncId × Ent)} (hA : AllOk P ng gl l) (hmix : P.follows .mixedOrders = true) {f : FuncId} {args : List AV} {M : Mem} {T : Tree (AV × Mem)}
    (hT : evBody (mkC P ng gl l) (evCall (mkC P ng gl l) 50) f args M = T) {v : AV} {M' : Mem} (h : T.GivesP v M') : SoundAt (mkC P ng gl []) f args M (v, M') :=
  SoundAt.of_bodyP (C := mkC P ng gl l) (call_ok (tab_ok hA) hmix (fun _ _ => rfl) 50) hmix (fun _ _ _ _ b _ hb => by cases hb) hT h
theorem sound_loopsP {l : List (FuncId × Ent)} {ls : List LoopRow} (hA : AllOk P ng gl l) (hmix : P.follows .mixedOrders = true) {f : FuncId} {args : List AV} {M : Mem}
    (hL : ∀ i, i < (loopsAt P f).length → LoopOk (mkL P ng gl l ls) f M.length (bodyAt P f i)) {T : Tree (AV × Mem)}
    (hT : evBody (mkL P ng gl l ls) (evCall (mkC P ng gl l) 50) f args M = T) {v : AV} {M' : Mem} (h : T.GivesP v M') : SoundAt (mkC P ng gl []) f args M (v, M') := by
  refine SoundAt.of_bodyP (C := mkL P ng gl l ls) (callF := evCall (mkC P ng gl l) 50) (call_ok (tab_ok hA) hmix (fun _ _ => rfl) 50) hmix (fun fn c hfn hc b hb _ => ?_) hT h
  obtain ⟨i, hi, rfl⟩ := List.mem_iff_getElem.1 hb
  have e : loopsAt P f = loopsIn c := by
    unfold loopsAt
    rw [show P.funcs[f]? = some fn from hfn]
    simp only [hc]
  have := hL i (by rw [e]; exact hi)
  unfold bodyAt at this
  rw [e, List.getD_eq_getElem?_getD, List.getElem?_eq_getElem hi] at this
  exact this
end
/-! ### functions over values and rows -/
/-- An argument: a value without places, or a row of whole numbers that is only read. -/
inductive PA where
  | val (a : AV)
  | ints (z : Bool) (l : List Int)
  | fn1 (g : FuncId) (v : AV)
def PA.avs : Nat → List PA → List AV
  | _, [] => []
  | i, .val a :: l => a :: PA.avs i l
  | i, .ints z k :: l => .sl z ⟨i, 0, 0, 0⟩ false k.length .any :: PA.avs (i + 1) l
  | i, .fn1 g _ :: l => .fn (.func g) [] [.ptr ⟨i, 0, 0, 0⟩] :: PA.avs (i + 1) l
def PA.mems (e : TypeId) : List PA → Mem
  | [] => []
  | .val _ :: l => PA.mems e l
  | .ints _ k :: l => some ⟨e, false, false, true, .ints .i64 k⟩ :: PA.mems e l
  | .fn1 _ v :: l => some ⟨e, false, false, false, .cells [v]⟩ :: PA.mems e l
def AV.flat : AV → AV
  | .int k _ n => .int k false n
  | .bool _ b => .bool false b
  | a => a
theorem Rep.flat {σ : Sig} {a : AV} {v : Value} : Rep σ a.flat v ↔ Rep σ a v := by cases a <;> simp [AV.flat, Rep]
theorem AV.flat_refs {a : AV} (h : a.refs = []) : a.flat.refs = [] := by cases a <;> simp_all [AV.flat, AV.refs]
/-- A function literal with one variable that it sees. -/
def PA.ofFn (M : Mem) (f : Fn) (x y : List AV) : Option PA :=
  match f, x, y with
  | .func g, [], [.ptr r] => match M.at r.id with
    | some b => match b.virt, b.d with
      | false, .cells [v] => match decide (r.pos = 0 ∧ v.refs = []) with | true => some (.fn1 g v.flat) | false => none
      | _, _ => none
    | none => none
  | _, _, _ => none
theorem PA.ofFn_some {M : Mem} {f : Fn} {x y : List AV} {p : PA} (h : PA.ofFn M f x y = some p) : ∃ g r b v, f = .func g ∧ x = [] ∧ y = [.ptr r] ∧ M.at r.id = some b ∧ b.virt = false ∧ b.d = .cells [v] ∧ r.pos = 0 ∧ v.refs = [] ∧ p = .fn1 g v.flat := by
  unfold PA.ofFn at h
  split at h
  · rename_i g r
    split at h
    · rename_i b hb
      split at h
      · rename_i v h1 h2
        split at h
        · rename_i h3
          cases h
          obtain ⟨h4, h5⟩ := of_decide_eq_true h3
          exact ⟨g, r, b, v, rfl, rfl, rfl, hb, h1, h2, h4, h5, rfl⟩
        · cases h
      · cases h
    · cases h
  · cases h
/-- What an argument is, seen so; and what must hold of it. -/
def PA.of (M : Mem) : AV → Option (Prop × PA)
  | .sl z r c len m => match c && z with
    | true => some (len = 0, .ints true [])
    | false => match M.at r.id with
      | some b => match b.d.intList with
        | some (.i64, l) => some (r.pos + len ≤ l.length, .ints z ((l.drop r.pos).take len))
        | _ => none
      | none => none
  | .fn f x y => match PA.ofFn M f x y with
    | some p => some (True, p)
    | none => match (AV.fn f x y).refs with
      | [] => some (True, .val (.fn f x y))
      | _ => none
  | a => match a.refs with
    | [] => some (True, .val a)
    | _ => none
def PA.ofL (M : Mem) : List AV → Option (Prop × List PA)
  | [] => some (True, [])
  | a :: l => (PA.of M a).bind fun (c, x) => (PA.ofL M l).map fun (d, xs) => (c ∧ d, x :: xs)
/-- What a function tells: what must hold, its value (places from the arguments' number on), and the blocks that it makes. -/
abbrev PF := List PA → Option (Prop × AV × List Blk)
def PF.or (F G : PF) : PF := fun xs => match F xs with | some r => some r | none => G xs
def Blk.own (b : Blk) : Bool := match b.d with
  | .ints _ _ => true
  | .cells l => (AV.refsL l).isEmpty
  | .tab _ _ _ => false
def PureF (P : Program) (e : TypeId) (f : FuncId) (F : PF) : Prop :=
  ∀ xs c v news, F xs = some (c, v, news) → c → (∀ b ∈ news, b.rw = true ∨ b.d.size = 0) ∧ SoundAt (mkC P 0 (fun _ => none) []) f (PA.avs 0 xs) (PA.mems e xs) (v, PA.mems e xs ++ news.map some)
def pureRen (n m : Nat) : Nat → Option Nat := fun i => match decide (n ≤ i) with | true => some (m + (i - n)) | false => none
def pureEnt (e : TypeId) (F : PF) : Ent := fun args M =>
  (PA.ofL M args).bind fun (c, xs) => (F xs).bind fun (d, v, news) => match news.all Blk.own with
    | true => some (.chk (c ∧ d) (.ret (v.ren (pureRen (PA.mems e xs).length M.length), M ++ news.map some)))
    | false => none
section
variable {P : Program} {ng : Nat} {gl : Nat → Option Nat}
theorem RepL.take_drop_ints {k : IntKind} {l : List Int} {p n : Nat} (h : p + n ≤ l.length) : ((l.drop p).take n).length = n := by simp; omega
theorem PureF.or {e : TypeId} {f : FuncId} {F G : PF} (hF : PureF P e f F) (hG : PureF P e f G) : PureF P e f (F.or G) := fun xs c v news h hc => by
  unfold PF.or at h
  split at h
  · rename_i r hr
    cases h
    exact hF xs c v news hr hc
  · exact hG xs c v news h hc
/-- The rows as they came, seen from their first cell. -/
theorem PA.rep {σ : Sig} {M : Mem} {w : World} (e : TypeId) (hr : Rel P σ M w) : ∀ (args : List AV) {vals : List Value} {c : Prop} {xs : List PA}, PA.ofL M args = some (c, xs) → c → RepL σ args vals →
    ∃ bs : List Bl, bs.length = (PA.mems e xs).length ∧ (∀ i b, (PA.mems e xs).at i = some b → ∃ x, bs[i]? = some x ∧ b.rw = false ∧ (∀ σ', BlkOk P σ' w x b) ∧ b.virt = false ∧ ∀ k, x.blk = k → k < w.heap.size → ∃ j b0 y, M.at j = some b0 ∧ σ j = some y ∧ y.blk = k ∧ b0.virt = false ∧ (b0.d.void → b.d.void)) ∧
      ∀ (pre : List Bl) (σ' : Sig), (∀ i x, bs[i]? = some x → σ' (pre.length + i) = some x) → RepL σ' (PA.avs pre.length xs) vals
  | [], vals, c, xs, h, _, hv => by
    simp only [PA.ofL, Option.some.injEq, Prod.mk.injEq] at h
    obtain ⟨rfl, rfl⟩ := h
    exact ⟨[], rfl, fun i b hb => by simp [PA.mems, Mem.at] at hb, fun pre σ' _ => by simpa [PA.avs, RepL] using hv⟩
  | a :: args, vals, c, xs, h, hc, hv => by
    simp only [PA.ofL] at h
    obtain ⟨⟨c1, x1⟩, h1, h2⟩ := Option.bind_eq_some_iff.1 h
    obtain ⟨⟨c2, xs2⟩, h3, h4⟩ := Option.map_eq_some_iff.1 h2
    simp only [Prod.mk.injEq] at h4
    obtain ⟨rfl, rfl⟩ := h4
    simp only [RepL] at hv
    obtain ⟨v, vals', rfl, hv1, hv2⟩ := hv
    obtain ⟨bs, g1, g2, g3⟩ := PA.rep e hr args h3 hc.2 hv2
    have hval : ∀ (b : AV), b.refs = [] → x1 = .val b → Rep σ b v → ∃ bs : List Bl, bs.length = (PA.mems e (x1 :: xs2)).length ∧ (∀ i b, (PA.mems e (x1 :: xs2)).at i = some b → ∃ x, bs[i]? = some x ∧ b.rw = false ∧ (∀ σ', BlkOk P σ' w x b) ∧ b.virt = false ∧ ∀ k, x.blk = k → k < w.heap.size → ∃ j b0 y, M.at j = some b0 ∧ σ j = some y ∧ y.blk = k ∧ b0.virt = false ∧ (b0.d.void → b.d.void)) ∧
      ∀ (pre : List Bl) (σ' : Sig), (∀ i x, bs[i]? = some x → σ' (pre.length + i) = some x) → RepL σ' (PA.avs pre.length (x1 :: xs2)) (v :: vals') := by
      intro b hb hx hrep
      subst hx
      refine ⟨bs, by simpa [PA.mems] using g1, by simpa [PA.mems] using g2, fun pre σ' hp => ?_⟩
      simp only [PA.avs]
      exact RepL.cons (hrep.congr fun i hi => by rw [hb] at hi; cases hi) (g3 pre σ' hp)
    cases a with
    | fn f x y =>
      simp only [PA.of] at h1
      split at h1
      · rename_i p hp
        simp only [Option.some.injEq, Prod.mk.injEq] at h1
        obtain ⟨_, rfl⟩ := h1
        obtain ⟨g, r, b, u, rfl, rfl, rfl, q1, q2, q3, q4, q5, rfl⟩ := PA.ofFn_some hp
        obtain ⟨y, hy, hok⟩ := hr.blk _ b q1
        have hc' : Covers σ w y b.d := by
          rcases hok with hok | hok
          · rw [q2] at hok; cases hok.1
          · exact hok.2.1
        refine ⟨⟨y.blk, y.off, 0⟩ :: bs, by simp [PA.mems, g1], fun i b' hb => ?_, fun pre σ' hp => ?_⟩
        · cases i with
          | zero =>
            simp [PA.mems, Mem.at] at hb
            subst hb
            refine ⟨_, rfl, rfl, fun σ' => .inr ⟨rfl, fun j a hj => ?_, fun h => by cases h⟩, rfl, fun k hk _ => ⟨r.id, b, y, q1, hy, hk, q2, fun hv => by rw [q3] at hv; have := hv 0; simp [Data.get?] at this⟩⟩
            rw [q3] at hc'
            have hj0 : j = 0 ∧ a = u.flat := by
              simp only [Data.get?] at hj
              cases j with
              | zero => exact ⟨rfl, by simpa using hj.symm⟩
              | succ j => simp at hj
            obtain ⟨rfl, rfl⟩ := hj0
            obtain ⟨val, p1, p2⟩ := hc' 0 u rfl
            refine ⟨val, p1, (Rep.flat.2 p2).congr fun i hi => ?_⟩
            rw [AV.flat_refs q5] at hi; cases hi
          | succ i =>
            obtain ⟨z, p1, p2⟩ := g2 i b' (by simpa [PA.mems, Mem.at] using hb)
            exact ⟨z, by simpa using p1, p2⟩
        · simp only [PA.avs]
          refine RepL.cons ?_ ?_
          · simp only [Rep] at hv1 ⊢
            obtain ⟨X, Y, rfl, e1, e2⟩ := hv1
            refine ⟨X, Y, rfl, by simpa [RepL] using e1, ?_⟩
            simp only [RepL] at e2 ⊢
            obtain ⟨v1, r1, e3, e4, rfl⟩ := e2
            refine ⟨v1, [], e3, ?_, rfl⟩
            simp only [Rep] at e4 ⊢
            obtain ⟨z, e5, rfl⟩ := e4
            rw [hy] at e5; cases e5
            exact ⟨_, by have := hp 0 _ rfl; simpa using this, by rw [q4]; rfl⟩
          · have := g3 (pre ++ [⟨y.blk, y.off, 0⟩]) σ' (fun i z hz => by
              have := hp (i + 1) z (by simpa using hz)
              rw [← this]
              congr 1
              simp; omega)
            simpa using this
      · split at h1
        · rename_i hrf
          simp only [Option.some.injEq, Prod.mk.injEq] at h1
          exact hval _ hrf h1.2.symm hv1
        · cases h1
    | sl z r cc len m =>
      simp only [PA.of] at h1
      have hrow : ∀ (l : List Int) (x : Bl) (zz : Bool), x1 = .ints zz l → (∀ σ', BlkOk P σ' w x ⟨e, false, false, true, .ints .i64 l⟩) → (∀ k, x.blk = k → k < w.heap.size → ∃ j b0 y, M.at j = some b0 ∧ σ j = some y ∧ y.blk = k ∧ b0.virt = false ∧ (b0.d.void → (Data.ints .i64 l).void)) → (∀ (σ' : Sig) i, σ' i = some x → Rep σ' (.sl zz ⟨i, 0, 0, 0⟩ false l.length .any) v) →
          ∃ bs : List Bl, bs.length = (PA.mems e (x1 :: xs2)).length ∧ (∀ i b, (PA.mems e (x1 :: xs2)).at i = some b → ∃ x, bs[i]? = some x ∧ b.rw = false ∧ (∀ σ', BlkOk P σ' w x b) ∧ b.virt = false ∧ ∀ k, x.blk = k → k < w.heap.size → ∃ j b0 y, M.at j = some b0 ∧ σ j = some y ∧ y.blk = k ∧ b0.virt = false ∧ (b0.d.void → b.d.void)) ∧
      ∀ (pre : List Bl) (σ' : Sig), (∀ i x, bs[i]? = some x → σ' (pre.length + i) = some x) → RepL σ' (PA.avs pre.length (x1 :: xs2)) (v :: vals') := by
        intro l x zz hx hok hk hrep
        subst hx
        refine ⟨x :: bs, by simp [PA.mems, g1], fun i b hb => ?_, fun pre σ' hp => ?_⟩
        · cases i with
          | zero =>
            simp [PA.mems, Mem.at] at hb
            subst hb
            exact ⟨x, rfl, rfl, hok, rfl, hk⟩
          | succ i =>
            obtain ⟨y, q1, q2⟩ := g2 i b (by simpa [PA.mems, Mem.at] using hb)
            exact ⟨y, by simpa using q1, q2⟩
        · simp only [PA.avs]
          refine RepL.cons (hrep σ' _ (by have := hp 0 x rfl; simpa using this)) ?_
          have := g3 (pre ++ [x]) σ' (fun i y hy => by
            have := hp (i + 1) y (by simpa using hy)
            rw [← this]
            congr 1
            simp; omega)
          simpa using this
      split at h1
      · rename_i hcz
        simp only [Bool.and_eq_true] at hcz
        obtain ⟨rfl, rfl⟩ := hcz
        simp only [Option.some.injEq, Prod.mk.injEq] at h1
        obtain ⟨rfl, rfl⟩ := h1
        simp only [Rep] at hv1
        refine hrow [] ⟨w.heap.size, 0, 0⟩ true rfl (fun σ' => .inr ⟨rfl, Covers.empty (Data.void_of_size rfl), fun h => by cases h⟩) (fun k hk hlt => by simp only at hk; omega) (fun σ' i hi => ?_)
        simp only [Rep]
        exact ⟨fun _ => ⟨(hv1.1 trivial).1, rfl⟩, fun h => by cases h⟩
      · split at h1
        · rename_i b hb
          split at h1
          · rename_i l hil
            simp only [Option.some.injEq, Prod.mk.injEq] at h1
            obtain ⟨rfl, rfl⟩ := h1
            have hle : r.pos + len ≤ l.length := hc.1
            obtain ⟨y, hy, hok⟩ := hr.blk _ b hb
            have hc' : Covers σ w y b.d := hok.covers
            obtain ⟨i1, i2⟩ := intList_get hil
            have hlen : ((l.drop r.pos).take len).length = len := by simp; omega
            cases hvirt : b.virt with
            | true =>
              have hl0 : l = [] := by
                rcases hok with hok | hok
                · have := hok.2; rw [i1] at this; exact List.length_eq_zero_iff.1 this
                · rw [hvirt] at hok; cases hok.1
              subst hl0
              have hle0 : len = 0 := by simp at hle; omega
              subst hle0
              refine hrow [] ⟨w.heap.size, 0, 0⟩ z (by simp) (fun σ' => .inr ⟨rfl, Covers.empty (Data.void_of_size rfl), fun h => by cases h⟩) (fun k hk hlt => by simp only at hk; omega) (fun σ' i hi => ?_)
              simp only [Rep] at hv1 ⊢
              refine ⟨fun hz => ⟨(hv1.1 hz).1, rfl⟩, fun hz => ?_⟩
              obtain ⟨x, ad, cap, q1, q2, q3⟩ := hv1.2 hz
              exact ⟨_, ad, cap, hi, q2, Nat.zero_le _, .inr rfl⟩
            | false =>
            refine hrow ((l.drop r.pos).take len) ⟨y.blk, y.off + r.pos, 0⟩ z rfl (fun σ' => .inr ⟨rfl, fun j q hj => ?_, fun h => by cases h⟩) (fun k hk hlt => ⟨r.id, b, y, hb, hy, hk, hvirt, fun hvoid => ?_⟩) (fun σ' i hi => ?_)
            · simp only [Data.get?, Option.map_eq_some_iff] at hj
              obtain ⟨n, hn, rfl⟩ := hj
              have hjl : j < len := by have := (List.getElem?_eq_some_iff.1 hn).1; omega
              have hn' : l[r.pos + j]? = some n := by
                rw [List.getElem?_take, if_pos hjl, List.getElem?_drop] at hn
                exact hn
              obtain ⟨c', hg⟩ := i2 _ n hn'
              obtain ⟨u, hu, hru⟩ := hc' _ _ hg
              simp only [Rep] at hru
              subst hru
              refine ⟨.int .i64 n, ?_, by simp only [Rep]⟩
              simp only [Bl.at] at hu ⊢
              rwa [Nat.add_assoc]
            · have h0 : l = [] := by
                cases l with
                | nil => rfl
                | cons n l =>
                  obtain ⟨c', hg⟩ := i2 0 n rfl
                  rw [hvoid 0] at hg; cases hg
              subst h0
              exact Data.void_of_size (by simp [Data.size])
            · simp only [Rep] at hv1 ⊢
              rw [hlen]
              refine ⟨hv1.1, fun hz => ?_⟩
              obtain ⟨x, ad, cap, q1, q2, q3⟩ := hv1.2 hz
              rw [hy] at q1; cases q1
              have h4 := q3.addr
              refine ⟨_, ad, cap, hi, q2, ?_, ?_⟩
              · exact (show len ≤ cap by cases m <;> simp only [slOk] at q3 <;> exact q3.1)
              · rcases h4 with h4 | h4
                · left
                  rw [h4]
                  simp only [Bl.at, Ref.pos, Nat.zero_mul, Nat.add_zero]
                · exact .inr h4
          · cases h1
        · cases h1
    | _ =>
      simp only [PA.of] at h1
      split at h1
      · rename_i hrf
        simp only [Option.some.injEq, Prod.mk.injEq] at h1
        exact hval _ hrf h1.2.symm hv1
      · cases h1
theorem AV.refs_ren_pure {σ σ' : Sig} {n m : Nat} {v : AV} {val : Value} (h : Rep σ v val) (hs : ∀ i x, n ≤ i → σ i = some x → σ' (m + (i - n)) = some x) : Rep σ' (v.ren (pureRen n m)) val :=
  h.ren fun i j x hij hx => by
    unfold pureRen at hij
    split at hij
    · rename_i hd
      cases hij
      exact hs i x (of_decide_eq_true hd) hx
    · cases hij
theorem Blk.own_refs {b : Blk} (h : b.own = true) : ∀ (j : Nat) a, b.d.get? j = some a → a.refs = [] := by
  intro j a hj
  unfold Blk.own at h
  split at h
  · rename_i k l hd
    rw [hd] at hj
    simp only [Data.get?, Option.map_eq_some_iff] at hj
    obtain ⟨n, _, rfl⟩ := hj
    rfl
  · rename_i l hd
    rw [hd] at hj
    have ha : a ∈ l := List.mem_of_getElem? hj
    clear hj hd
    induction l with
    | nil => cases ha
    | cons b l ih =>
      simp only [AV.refsL, List.isEmpty_iff, List.append_eq_nil_iff] at h
      rcases List.mem_cons.1 ha with rfl | ha
      · exact h.1
      · exact ih (by simpa using h.2) ha
  · cases h
theorem loopOk_none {l : List (FuncId × Ent)} {ls : List LoopRow} {f : FuncId} {lo : Nat} {b : Code} (h : (lookL ls f (Code.key b)).isNone = true) : LoopOk (mkL P ng gl l ls) f lo b := by
  intro st ex st' hr
  have e : (mkL P ng gl l ls).loop f (Code.key b) st = .fail := by
    show (match lookL ls f (Code.key b) with | some r => r.ans st | none => .fail) = _
    rw [Option.isNone_iff_eq_none.1 h]
  rw [e] at hr
  exact hr.elim
theorem Tree.chk_runs {α : Type} {p : Prop} {t : Tree α} {x : α} (h : (Tree.chk p t).runs x) : p ∧ t.runs x := h
/-- What a round leaves. -/
inductive Post {X : Type} (hd : X → St) (resT : X → Tree (Ex × St)) (μ : X → Nat) (x : X) (ex : Ex) (r : St) : Ex × St → Prop
  | norm {s : St} (x' : X) (h1 : s.le (hd x')) (h2 : μ x' < μ x) (h3 : (resT x').runs (ex, r)) : Post hd resT μ x ex r (.norm, s)
  | ret {s : St} (h1 : ex = .ret) (h2 : s.le r) : Post hd resT μ x ex r (.ret, s)
  | exit {id : Nat} {s : St} (h1 : ex = .exit id) (h2 : s.le r) : Post hd resT μ x ex r (.exit id, s)
theorem loop_rowP {X : Type} {l : List (FuncId × Ent)} {ls : List LoopRow} (hA : AllOk P ng gl l) (hmix : P.follows .mixedOrders = true) {f : FuncId} {body : Code} {lo : Nat} {row : LoopRow} (hrow : lookL ls f (Code.key body) = some row)
    (inner : ∀ b ∈ loopsIn body, ((mkL P ng gl l ls).keep f (Code.key b)).isSome = true → LoopOk (mkL P ng gl l ls) f lo b)
    (U : Ex → Tidy) (hd : X → St) (resT : X → Tree (Ex × St)) (μ : X → Nat)
    (hL : ∀ st ex r, (row.ans st).runs (ex, r) → ∃ x, st.le (hd x) ∧ (resT x).runs (ex, r))
    (step : ∀ x ex r, (resT x).runs (ex, r) → (tidied row.tidy U lo (evCode (mkL P ng gl l ls) (evCall (mkC P ng gl l) 50) f lo fuelC body (hd x))).Sat (Post hd resT μ x ex r)) : LoopOk (mkL P ng gl l ls) f lo body :=
  loop_row hA hmix hrow inner U hd resT μ hL fun x ex r hr => (step x ex r hr).mono fun p hp => by
    cases hp with
    | norm x' h1 h2 h3 => exact ⟨x', h1, h2, h3⟩
    | ret h1 h2 => exact ⟨h1, h2⟩
    | exit h1 h2 => exact ⟨h1, h2⟩
theorem pureEnt_ok {e : TypeId} {f : FuncId} {F : PF} (hF : PureF P e f F) : EntOk P ng gl f (pureEnt e F) := by
  intro args M t ht r hr
  unfold pureEnt at ht
  obtain ⟨⟨c, xs⟩, h1, h2⟩ := Option.bind_eq_some_iff.1 ht
  obtain ⟨⟨d, v, news⟩, h3, h4⟩ := Option.bind_eq_some_iff.1 h2
  dsimp only at h4
  split at h4
  · rename_i hown
    cases h4
    obtain ⟨⟨hc, hd⟩, rfl⟩ := hr
    intro σ w vals ha hrel hg hng
    obtain ⟨bs, b1, b2, b3⟩ := PA.rep e hrel args h1 hc ha
    obtain ⟨hnews, hS⟩ := hF xs d v news h3 hd
    generalize hsig : (fun i => bs[i]? : Sig) = σ1
    generalize hMc : PA.mems e xs = Mc at *
    have hs1 : ∀ i, σ1 i = bs[i]? := fun i => by rw [← hsig]
    have hrep1 : RepL σ1 (PA.avs 0 xs) vals := b3 [] σ1 fun i x hx => by simpa [hs1] using hx
    have hrel1 : Rel P σ1 Mc w := by
      rw [← hsig]
      exact rel_args bs Mc b1 fun i b hb => by
        obtain ⟨x, q1, q2, q3, _⟩ := b2 i b hb
        exact ⟨x, q1, q2, q3⟩
    obtain ⟨hent, hcom⟩ := hS σ1 w vals hrep1 hrel1 (fun g i h => by cases h) (Nat.zero_le _)
    refine ⟨hent, hcom.mono fun en w' hp => ?_⟩
    obtain ⟨val, σ2, rfl, hv, hm⟩ := hp
    have hnofoot : ∀ k, ¬ foot σ1 Mc k := fun k hf => by
      obtain ⟨i, b, x, q1, _, q3, _⟩ := hf
      obtain ⟨_, _, q4, _⟩ := b2 i b q1
      rw [q4] at q3; cases q3
    have hkeep : ∀ k, k < w.heap.size → w'.heap[k]? = w.heap[k]? := fun k hk => hm.kept.block k hk (hnofoot k)
    generalize hs3 : (fun i => if i < M.length then σ i else σ2 (Mc.length + (i - M.length)) : Sig) = σ3
    have s3lo : ∀ i, i < M.length → σ3 i = σ i := fun i hi => by rw [← hs3]; simp only; rw [if_pos hi]
    have s3hi : ∀ i, M.length ≤ i → σ3 i = σ2 (Mc.length + (i - M.length)) := fun i hi => by rw [← hs3]; simp only; rw [if_neg (by omega)]
    have hext : Ext σ σ3 := fun i x hx => by
      rcases Nat.lt_or_ge i M.length with h | h
      · rw [s3lo i h]; exact hx
      · rw [hrel.dom i h] at hx; cases hx
    have hdead : ∀ {b : Blk} {x : Bl}, BlkOk P σ w x b → b.virt = false → w.heap.size ≤ x.blk → b.rw = false ∧ b.d.void := fun {b x} hok hvb hx => by
      have hno : ¬ (b.rw = true ∨ ¬ b.d.void) := fun h => by have := hok.lt hvb h; omega
      refine ⟨?_, ?_⟩
      · cases hq : b.rw with
        | false => rfl
        | true => exact absurd (.inl hq) hno
      · by_cases hq : b.d.void
        · exact hq
        · exact absurd (.inr hq) hno
    have hnew : ∀ {j b}, M.length ≤ j → (M ++ news.map some).at j = some b → (Mc ++ news.map some).at (Mc.length + (j - M.length)) = some b ∧ b ∈ news := fun {j b} hj hb => by
      rw [Mem.at_append_right hj] at hb
      refine ⟨by rw [Mem.at_append_right (by omega), Nat.add_sub_cancel_left]; exact hb, ?_⟩
      unfold Mem.at at hb
      cases hq : (news.map some)[j - M.length]? with
      | none => rw [hq] at hb; cases hb
      | some o =>
        rw [hq] at hb
        simp only [Option.join_some] at hb
        subst hb
        have := List.mem_of_getElem? hq
        simpa using this
    have hfresh : ∀ {j b x}, M.length ≤ j → (M ++ news.map some).at j = some b → b.virt = false → b.rw = true → σ3 j = some x → w.heap.size ≤ x.blk := fun {j b x} hj hb hvb hrw hx => by
      rcases Nat.lt_or_ge x.blk w.heap.size with h | h
      · rw [s3hi j hj] at hx
        exact absurd (hm.foot x.blk h ⟨_, b, x, (hnew hj hb).1, hx, hrw, hvb, rfl⟩) (hnofoot _)
      · exact h
    have hvoid : ∀ {j b}, M.length ≤ j → (M ++ news.map some).at j = some b → b.rw = false → b.d.void := fun {j b} hj hb hrw => by
      rcases hnews b (hnew hj hb).2 with h | h
      · rw [hrw] at h; cases h
      · exact Data.void_of_size h
    have hlt' : ∀ {i b}, (M ++ news.map some).at i = some b → i < M.length → M.at i = some b := fun {i b} hb hi => by rwa [Mem.at_append_left hi] at hb
    refine ⟨val, σ3, rfl, AV.refs_ren_pure hv fun i x hi hx => by rw [s3hi _ (by omega), show Mc.length + (M.length + (i - Mc.length) - M.length) = i by omega]; exact hx, ⟨hext, ⟨fun i hi => ?_, fun i b hb => ?_, fun i j bi bj x y hi hj hne hx hy hrw hvi hvj hxy => ?_⟩, ⟨hm.kept.os, hm.kept.tape, hm.kept.output, hm.kept.size, fun k hk _ => hkeep k hk⟩, s3lo, fun Q hQ hQ' k hk hocc => ?_, by simp⟩⟩
    · simp only [List.length_append, List.length_map] at hi
      rw [s3hi i (by omega)]
      exact hm.rel.dom _ (by simp; omega)
    · by_cases hlt : i < M.length
      · have hb := hlt' hb hlt
        obtain ⟨x, hx, hok⟩ := hrel.blk i b hb
        refine ⟨x, hext i x hx, ?_⟩
        by_cases hvb : b.virt = true
        · rcases hok with hok | hok
          · exact .inl hok
          · rw [hvb] at hok; cases hok.1
        · have hvb : b.virt = false := by simpa using hvb
          rcases Nat.lt_or_ge x.blk w.heap.size with h | h
          · exact (hok.congr fun _ => hkeep _ h).mono hext
          · obtain ⟨q1, q2⟩ := hdead hok hvb h
            exact .inr ⟨hvb, Covers.empty q2, fun hr => by rw [q1] at hr; cases hr⟩
      · obtain ⟨q1, q2⟩ := hnew (by omega) hb
        obtain ⟨x, hx, hok⟩ := hm.rel.blk _ b q1
        have hrf := Blk.own_refs (List.all_eq_true.1 hown b q2)
        refine ⟨x, by rw [s3hi i (by omega)]; exact hx, ?_⟩
        rcases hok with hok | ⟨k1, k2, k3⟩
        · exact .inl hok
        · refine .inr ⟨k1, fun j a hj => ?_, k3⟩
          obtain ⟨u, hu, hru⟩ := k2 j a hj
          exact ⟨u, hu, hru.congr fun i hi => by rw [hrf j a hj] at hi; cases hi⟩
    · by_cases hli : i < M.length
      · have hi' := hlt' hi hli
        rw [s3lo i hli] at hx
        by_cases hlj : j < M.length
        · rw [s3lo j hlj] at hy
          exact hrel.sep i j bi bj x y hi' (hlt' hj hlj) hne hx hy hrw hvi hvj hxy
        · cases hq : bj.rw with
          | true =>
            have h5 := hfresh (by omega) hj hvj hq hy
            obtain ⟨z, hz, hok⟩ := hrel.blk i bi hi'
            rw [hx] at hz; cases hz
            have := hok.lt hvi (.inl hrw)
            omega
          | false => exact ⟨rfl, hvoid (by omega) hj hq⟩
      · by_cases hlj : j < M.length
        · have h5 := hfresh (by omega) hi hvi hrw hx
          rw [s3lo j hlj] at hy
          have hj' := hlt' hj hlj
          obtain ⟨z, hz, hok⟩ := hrel.blk j bj hj'
          rw [hy] at hz; cases hz
          exact hdead hok hvj (by omega)
        · rw [s3hi i (by omega)] at hx
          rw [s3hi j (by omega)] at hy
          exact hm.rel.sep _ _ bi bj x y (hnew (by omega) hi).1 (hnew (by omega) hj).1 (by omega) hx hy hrw hvi hvj hxy
    · obtain ⟨i, b, x, h5, h6, h7, h8, h9⟩ := hocc
      by_cases hli : i < M.length
      · rw [s3lo i hli] at h6
        exact ⟨i, b, x, hlt' h5 hli, h6, h7, h8, h9⟩
      · rw [s3hi i (by omega)] at h6
        obtain ⟨i', b', x', k1, k2, k3, k4, k5⟩ := hm.occ Q hQ hQ' k hk ⟨_, b, x, (hnew (by omega) h5).1, h6, h7, h8, h9⟩
        obtain ⟨y, q1, q2, _, q4, q5⟩ := b2 i' b' k1
        rw [hs1, q1] at k2; cases k2
        obtain ⟨j, b0, z, p1, p2, p3, p4, p5⟩ := q5 k k5 hk
        exact ⟨j, b0, z, p1, p2, hQ' b0 b' (fun h => by rw [q2] at h; cases h) p5 k3, p4, p3⟩
  · cases h4
end
end Go.Proofs.Ytonhkbgielilbaa.Rig

/- DExact -/
namespace Go.Proofs.Ytonhkbgielilbaa.Rig
open Go
structure XCycleExact_0 where
  zl : Bool
  nl : Nat
  cl : Nat → Int
  ql : Nat → Int
  x0 : Int
  x1 : Int
  x2 : Int
  x3 : Int
  x4 : Int
  x5 : Int
  x6 : Int
  x7 : Int
  x8 : Int
  x9 : Int
  x10 : Int
  x11 : Int
  x12 : Int
  x13 : Int
  x14 : Int
  x15 : Int
  x16 : Int
  x17 : Int
  x18 : Int
  x19 : Int
  x20 : Int
  x21 : Int
  x22 : Int
  t : Int
  i : Nat
def hdCycleExact_0 : XCycleExact_0 → St
  | ⟨zl, nl, cl, ql, x0, x1, x2, x3, x4, x5, x6, x7, x8, x9, x10, x11, x12, x13, x14, x15, x16, x17, x18, x19, x20, x21, x22, t, i⟩ => ⟨[.junk, .sl zl ⟨0, 0, 0, 0⟩ false nl .any, .ptr ⟨1, 0, 0, 0⟩, .junk, .junk, .int .i64 false t, .junk, .int .i64 false (i : Int), .junk, .junk, .junk, .junk, .junk, .junk, .junk, .junk, .junk, .junk, .junk, .junk, .junk, .junk, .junk, .junk, .junk, .junk, .junk, .junk, .junk, .junk, .junk, .junk, .junk, .junk, .junk, .junk, .junk, .junk, .junk, .junk, .junk, .junk, .junk, .junk, .junk, .junk, .junk, .junk, .junk, .junk, .junk, .junk, .junk, .junk, .junk, .junk, .junk, .junk, .junk, .junk, .junk, .junk, .junk, .junk, .junk, .junk, .junk, .junk, .junk, .junk, .junk, .junk, .junk, .junk, .junk, .junk, .junk, .junk, .junk, .junk, .junk, .junk, .junk, .junk, .junk, .junk, .junk, .junk, .junk, .junk, .junk, .junk, .junk, .junk, .junk, .junk, .junk, .junk, .junk, .junk, .junk, .junk, .junk, .junk, .junk, .junk, .junk, .junk, .junk, .junk, .junk, .junk, .junk, .junk, .junk, .junk, .junk], [some ⟨42, false, false, true, .tab 2 nl fun i => [.int .i64 false (cl i), .int .i64 false (ql i)]⟩, some ⟨40, true, false, false, .cells [.int .i64 false x0, .int .i64 false x1, .int .i64 false x2, .int .i64 false x3, .int .i64 false x4, .int .i64 false x5, .int .i64 false x6, .int .i64 false x7, .int .i64 false x8, .int .i64 false x9, .int .i64 false x10, .int .i64 false x11, .int .i64 false x12, .int .i64 false x13, .int .i64 false x14, .int .i64 false x15, .int .i64 false x16, .int .i64 false x17, .int .i64 false x18, .int .i64 false x19, .int .i64 false x20, .int .i64 false x21, .int .i64 false x22]⟩]⟩
def okCycleExact_0 : XCycleExact_0 → Prop
  | ⟨zl, nl, cl, ql, x0, x1, x2, x3, x4, x5, x6, x7, x8, x9, x10, x11, x12, x13, x14, x15, x16, x17, x18, x19, x20, x21, x22, t, i⟩ => ok4 x11 x12 x13 x8 = true ∧ t = x11 * 1000 + x12 ∧ i ≤ nl ∧ nl ≤ 9223372036854775807 ∧ (zl = true → nl = 0)
set_option linter.unusedVariables false in
def outCycleExact_0 : XCycleExact_0 → Tree (Ex × St)
  | ⟨zl, nl, cl, ql, x0, x1, x2, x3, x4, x5, x6, x7, x8, x9, x10, x11, x12, x13, x14, x15, x16, x17, x18, x19, x20, x21, x22, t, i⟩ => .ret (.exit 0, ⟨[.junk, .junk, .junk, .junk, .junk, .junk, .junk, .junk, .junk, .junk, .junk, .junk, .junk, .junk, .junk, .junk, .junk, .junk, .junk, .junk, .junk, .junk, .junk, .junk, .junk, .junk, .junk, .junk, .junk, .junk, .junk, .junk, .junk, .junk, .junk, .junk, .junk, .junk, .junk, .junk, .junk, .junk, .junk, .junk, .junk, .junk, .junk, .junk, .junk, .junk, .junk, .junk, .junk, .junk, .junk, .junk, .junk, .junk, .junk, .junk, .junk, .junk, .junk, .junk, .junk, .junk, .junk, .junk, .junk, .junk, .junk, .junk, .junk, .junk, .junk, .junk, .junk, .junk, .junk, .junk, .junk, .junk, .junk, .junk, .junk, .junk, .junk, .junk, .junk, .junk, .junk, .junk, .junk, .junk, .junk, .junk, .junk, .junk, .junk, .junk, .junk, .junk, .junk, .junk, .junk, .junk, .junk, .junk, .junk, .junk, .junk, .junk, .junk, .junk, .junk, .junk, .junk], [some ⟨42, false, false, true, .tab 2 nl fun i => [.int .i64 false (cl i), .int .i64 false (ql i)]⟩]⟩)
def muCycleExact_0 : XCycleExact_0 → Nat
  | ⟨zl, nl, cl, ql, x0, x1, x2, x3, x4, x5, x6, x7, x8, x9, x10, x11, x12, x13, x14, x15, x16, x17, x18, x19, x20, x21, x22, t, i⟩ => nl - i
def resCycleExact_0 (x : XCycleExact_0) : Tree (Ex × St) := .chk (okCycleExact_0 x) (outCycleExact_0 x)
set_option linter.unusedVariables false in
def ansCycleExact_0 (st : St) : Tree (Ex × St) := match st.env.getD 1 .junk, st.env.getD 2 .junk, st.env.getD 5 .junk, st.env.getD 7 .junk, st.mem with
  | .sl zl _ _ nl _, _, .int _ _ t, .int _ _ i_, [some ⟨_, _, _, _, .tab _ _ f⟩, some ⟨_, _, _, _, .cells [.int _ _ x0, .int _ _ x1, .int _ _ x2, .int _ _ x3, .int _ _ x4, .int _ _ x5, .int _ _ x6, .int _ _ x7, .int _ _ x8, .int _ _ x9, .int _ _ x10, .int _ _ x11, .int _ _ x12, .int _ _ x13, .int _ _ x14, .int _ _ x15, .int _ _ x16, .int _ _ x17, .int _ _ x18, .int _ _ x19, .int _ _ x20, .int _ _ x21, .int _ _ x22]⟩] => .chk (st.le (hdCycleExact_0 ⟨zl, nl, (fun i => match f i with | [.int _ _ a, _] => a | _ => 0), (fun i => match f i with | [_, .int _ _ b] => b | _ => 0), x0, x1, x2, x3, x4, x5, x6, x7, x8, x9, x10, x11, x12, x13, x14, x15, x16, x17, x18, x19, x20, x21, x22, t, i_.toNat⟩)) (resCycleExact_0 ⟨zl, nl, (fun i => match f i with | [.int _ _ a, _] => a | _ => 0), (fun i => match f i with | [_, .int _ _ b] => b | _ => 0), x0, x1, x2, x3, x4, x5, x6, x7, x8, x9, x10, x11, x12, x13, x14, x15, x16, x17, x18, x19, x20, x21, x22, t, i_.toNat⟩)
  | _, _, _, _, _ => .fail
def TCycleExact_0 : Tidy := ⟨[], [1, 2, 5, 7]⟩
def UCycleExact_0 : Ex → Tidy
  | _ => ⟨[], []⟩
def rowCycleExact_0 : LoopRow := ⟨10, 7, TCycleExact_0, ansCycleExact_0⟩
def rowsCycleExact : List LoopRow := [rowCycleExact_0]
end Go.Proofs.Ytonhkbgielilbaa.Rig
