/- Plain facts on the printed functions of rest and its reference: what each answers. -/
import Derived.Test.YtonhkbgielilbaaPAllxF
import Derived.OpenShut
namespace Go.Proofs.Ytonhkbgielilbaa.RestL
open Go.RowKit Go.Proofs.Ytonhkbgielilbaa.PAll Go.Proofs.YtonhkbgielilbaaW.PrintWords Go.Proofs.YtonhkbgielilbaaW.PrintLast Go.Proofs.YtonhkbgielilbaaW.PrintMore

abbrev I64 (a : Int) : Prop := -9223372036854775808 ≤ a ∧ a ≤ 9223372036854775807
theorem i64 {a : Int} (h : (Lit.int .i64 a).wf = true) : I64 a := Go.bounds_i64 h
theorem w64 {n : Int} (h : I64 n) : wrap64 n = n := by unfold wrap64; omega

abbrev May (c s t : Int) : Prop := 0 ≤ c ∧ c ≤ 2147483648 ∧ 0 ≤ s ∧ s ≤ 2147483648 ∧ 0 < t
abbrev Un (a : Int) : Prop := -2147483648 ≤ a ∧ a ≤ 2147483648
abbrev Long (n : Int) : Prop := 0 ≤ n ∧ n ≤ 1125899906842624
abbrev Calm (c s t a u v : Int) : Prop := May c s t ∧ Un a ∧ Un u ∧ Un v ∧ (a.natAbs : Int) ≤ c ∧ (u.natAbs : Int) + v.natAbs ≤ s

theorem drop_at {xs : List Int} {i : Nat} (h : i < xs.length) : xs.drop i = rd xs (i : Int) :: xs.drop (i + 1) := by
  rw [List.drop_eq_getElem_cons h]
  simp [rd, List.getElem?_eq_getElem h]

theorem may_loop (xs : List Int) (c s t : Int) (hl : xs.length ≤ 9223372036854775807) (d : Nat) : ∀ (k i : Nat), i + d = xs.length → d < k →
    rest_limits_may.l0 k xs (xs.length : Int) (i : Int) c s t = some (decide ((∀ x ∈ xs.drop i, 0 ≤ x ∧ x ≤ 2147483648) ∧ 0 < t)) := by
  induction d with
  | zero =>
    intro k i hi hk
    obtain ⟨k, rfl⟩ : ∃ m, k = m + 1 := ⟨k - 1, by omega⟩
    simp only [rest_limits_may.l0]
    rw [if_neg (by omega), List.drop_eq_nil_of_le (by omega)]
    simp
  | succ d ih =>
    intro k i hi hk
    obtain ⟨k, rfl⟩ : ∃ m, k = m + 1 := ⟨k - 1, by omega⟩
    have hlt : i < xs.length := by omega
    have w : wrap64 ((i : Int) + 1) = ((i + 1 : Nat) : Int) := by rw [w64 (by omega)]; omega
    have go := ih k (i + 1) (by omega) (by omega)
    simp only [rest_limits_may.l0]
    rw [if_pos (by omega), if_pos (by omega), if_pos (by omega), w, go, drop_at hlt]
    by_cases h1 : rd xs (i : Int) < 0
    · rw [if_pos h1, decide_eq_false (fun h => by have := h.1 _ List.mem_cons_self; omega)]
    · rw [if_neg h1]
      by_cases h2 : rd xs (i : Int) > 2147483648
      · rw [if_pos h2, decide_eq_false (fun h => by have := h.1 _ List.mem_cons_self; omega)]
      · rw [if_neg h2]
        congr 1
        refine decide_eq_decide.2 ⟨fun h => ⟨fun x hx => ?_, h.2⟩, fun h => ⟨fun x hx => h.1 x (List.mem_cons_of_mem _ hx), h.2⟩⟩
        rcases List.mem_cons.1 hx with rfl | hx
        · omega
        · exact h.1 x hx

theorem may_f (c s t : Int) (k : Nat) (hk : 3 ≤ k) : rest_limits_may.f k c s t = some (decide (May c s t)) := by
  unfold rest_limits_may.f
  simp only [Option.bind_some]
  have h := may_loop [c, s] c s t (by simp) 2 k 0 rfl (by omega)
  rw [show ((0 : Nat) : Int) = 0 from rfl] at h
  rw [h]
  congr 1
  refine decide_eq_decide.2 ?_
  simp
  omega

theorem unit_loop (xs : List Int) (hl : xs.length ≤ 9223372036854775807) (d : Nat) : ∀ (k i : Nat), i + d = xs.length → d < k →
    rest_unit.l0 k xs (xs.length : Int) (i : Int) = some (decide (∀ x ∈ xs.drop i, Un x)) := by
  induction d with
  | zero =>
    intro k i hi hk
    obtain ⟨k, rfl⟩ : ∃ m, k = m + 1 := ⟨k - 1, by omega⟩
    simp only [rest_unit.l0]
    rw [if_neg (by omega), List.drop_eq_nil_of_le (by omega)]
    simp
  | succ d ih =>
    intro k i hi hk
    obtain ⟨k, rfl⟩ : ∃ m, k = m + 1 := ⟨k - 1, by omega⟩
    have hlt : i < xs.length := by omega
    have w : wrap64 ((i : Int) + 1) = ((i + 1 : Nat) : Int) := by rw [w64 (by omega)]; omega
    have go := ih k (i + 1) (by omega) (by omega)
    simp only [rest_unit.l0]
    rw [if_pos (by omega), if_pos (by omega), if_pos (by omega), w, go, drop_at hlt]
    by_cases h1 : rd xs (i : Int) < -2147483648
    · rw [if_pos h1, decide_eq_false (fun h => by have := h _ List.mem_cons_self; omega)]
    · rw [if_neg h1]
      by_cases h2 : rd xs (i : Int) > 2147483648
      · rw [if_pos h2, decide_eq_false (fun h => by have := h _ List.mem_cons_self; omega)]
      · rw [if_neg h2]
        congr 1
        refine decide_eq_decide.2 ⟨fun h x hx => ?_, fun h x hx => h x (List.mem_cons_of_mem _ hx)⟩
        rcases List.mem_cons.1 hx with rfl | hx
        · omega
        · exact h x hx

theorem unit_f (a u v : Int) (k : Nat) (hk : 4 ≤ k) : rest_unit.f k [a, u, v] = some (decide (Un a ∧ Un u ∧ Un v)) := by
  unfold rest_unit.f
  have h := unit_loop [a, u, v] (by simp) 3 k 0 rfl (by omega)
  rw [show ((0 : Nat) : Int) = 0 from rfl] at h
  rw [h]
  congr 1
  refine decide_eq_decide.2 ?_
  simp

theorem right_f (c s t r : Int) (k : Nat) (hk : 3 ≤ k) : rest_cell_right.f k c s t r = some (decide (May c s t ∧ Long r)) := by
  unfold rest_cell_right.f
  rw [may_f c s t k hk]
  simp only [Option.bind_some, decide_eq_true_eq]
  by_cases h : May c s t
  · rw [if_pos h]
    by_cases h2 : r ≥ 0
    · rw [if_pos h2]; congr 1; exact decide_eq_decide.2 ⟨fun h3 => ⟨h, h2, h3⟩, fun h3 => h3.2.2⟩
    · rw [if_neg h2, decide_eq_false (fun h3 => h2 h3.2.1)]
  · rw [if_neg h, decide_eq_false (fun h3 => h h3.1)]

theorem size_f (a : Int) (h : Un a) : fx_Size.f a = some (a.natAbs : Int) := by
  unfold fx_Size.f
  split
  · rw [w64 (by omega), if_neg (by omega)]; congr 1; omega
  · congr 1; omega
theorem refSize_f (a : Int) (h : Un a) : rheostatref03_Size.f a = some (a.natAbs : Int) := by
  unfold rheostatref03_Size.f
  rw [if_neg (by omega)]
  split
  · rw [w64 (by omega)]; congr 1; omega
  · congr 1; omega

theorem calm_f (b0 b1 b2 b3 b4 c s t a u v : Int) (k : Nat) (hk : 4 ≤ k) : rest_Calm.f k b0 b1 b2 b3 b4 c s t a u v = some (decide (Calm c s t a u v)) := by
  unfold rest_Calm.f rest_of.f
  simp only [Option.bind_some]
  rw [may_f c s t k (by omega)]
  simp only [Option.bind_some, decide_eq_true_eq]
  by_cases h1 : May c s t
  · rw [if_pos h1, unit_f a u v k hk]
    simp only [Option.bind_some, decide_eq_true_eq]
    by_cases h2 : Un a ∧ Un u ∧ Un v
    · rw [if_pos h2, size_f a h2.1, size_f u h2.2.1, size_f v h2.2.2]
      simp only [Option.bind_some]
      rw [w64 (by omega)]
      by_cases h3 : (a.natAbs : Int) ≤ c
      · rw [if_pos h3]; congr 1; exact decide_eq_decide.2 ⟨fun h4 => ⟨h1, h2.1, h2.2.1, h2.2.2, h3, h4⟩, fun h4 => h4.2.2.2.2.2⟩
      · rw [if_neg h3, decide_eq_false (fun h4 => h3 h4.2.2.2.2.1)]
    · rw [if_neg h2, decide_eq_false (fun h4 => h2 ⟨h4.2.1, h4.2.2.1, h4.2.2.2.1⟩)]
  · rw [if_neg h1, decide_eq_false (fun h4 => h1 h4.1)]

theorem cell_f (b0 b1 b2 b3 b4 c s t : Int) : rheostatref16_cell.f b0 b1 b2 b3 b4 c s t = some (decide (May c s t)) := by
  unfold rheostatref16_cell.f
  by_cases h1 : c ≥ 0
  · rw [if_pos h1]
    by_cases h2 : c ≤ 2147483648
    · rw [if_pos h2]
      by_cases h3 : s ≥ 0
      · rw [if_pos h3]
        by_cases h4 : s ≤ 2147483648
        · rw [if_pos h4]; congr 1; exact decide_eq_decide.2 (by unfold May; omega)
        · rw [if_neg h4, decide_eq_false (by unfold May; omega)]
      · rw [if_neg h3, decide_eq_false (by unfold May; omega)]
    · rw [if_neg h2, decide_eq_false (by unfold May; omega)]
  · rw [if_neg h1, decide_eq_false (by unfold May; omega)]
theorem refUnit_f (a : Int) : rheostatref16_unit.f a = some (decide (Un a)) := by
  unfold rheostatref16_unit.f
  by_cases h1 : a ≥ -2147483648
  · rw [if_pos h1]; congr 1; exact decide_eq_decide.2 (by unfold Un; omega)
  · rw [if_neg h1, decide_eq_false (by unfold Un; omega)]
theorem long_f (n : Int) : rheostatref16_long.f n = some (decide (Long n)) := by
  unfold rheostatref16_long.f
  by_cases h1 : n ≥ 0
  · rw [if_pos h1]; congr 1; exact decide_eq_decide.2 (by unfold Long; omega)
  · rw [if_neg h1, decide_eq_false (by unfold Long; omega)]

theorem refCalm_f (b0 b1 b2 b3 b4 c s t a u v : Int) (k : Nat) (hk : 1 ≤ k) : rheostatref16_Calm.f k b0 b1 b2 b3 b4 c s t a u v = some (decide (Calm c s t a u v)) := by
  obtain ⟨k, rfl⟩ : ∃ m, k = m + 1 := ⟨k - 1, by omega⟩
  unfold rheostatref16_Calm.f
  rw [cell_f, refUnit_f, refUnit_f, refUnit_f]
  simp only [Option.bind_some, decide_eq_true_eq, rheostatref16_Calm.j0, if_true]
  by_cases h1 : May c s t
  · rw [if_pos h1]
    by_cases h2 : Un a
    · rw [if_pos h2]
      by_cases h3 : Un u
      · rw [if_pos h3]
        by_cases h4 : Un v
        · rw [decide_eq_true h4, if_neg (by decide), refSize_f a h2, refSize_f u h3, refSize_f v h4]
          simp only [Option.bind_some]
          rw [w64 (by omega)]
          by_cases h5 : (a.natAbs : Int) ≤ c
          · rw [if_pos h5]; congr 1; exact decide_eq_decide.2 ⟨fun h6 => ⟨h1, h2, h3, h4, h5, h6⟩, fun h6 => h6.2.2.2.2.2⟩
          · rw [if_neg h5, decide_eq_false (fun h6 => h5 h6.2.2.2.2.1)]
        · rw [decide_eq_false h4, if_pos (by decide), decide_eq_false (fun h6 => h4 h6.2.2.2.1)]
      · rw [if_neg h3, decide_eq_false (fun h6 => h3 h6.2.2.1)]
    · rw [if_neg h2, decide_eq_false (fun h6 => h2 h6.2.1)]
  · rw [if_neg h1, decide_eq_false (fun h6 => h1 h6.1)]

abbrev Ok (c s t r a u v n : Int) : Prop := May c s t ∧ Long r ∧ Un a ∧ Un u ∧ Un v ∧ 1 ≤ n ∧ n ≤ 60000
def stepR (c s t r a u v n : Int) : Int × Int := if Ok c s t r a u v n then (if Calm c s t a u v then (if r + n ≤ 1125899906842624 then r + n else 1125899906842624, 0) else (0, 0)) else (0, 2)

theorem sum2_f (r n : Int) (hr : Long r) (hn : 1 ≤ n ∧ n ≤ 60000) (k : Nat) (hk : 3 ≤ k) : fx_Sum.f k 1125899906842624 [r, n] = some (if r + n ≤ 1125899906842624 then r + n else 1125899906842624, 0) := by
  obtain ⟨k, rfl⟩ : ∃ m, k = m + 1 + 1 + 1 := ⟨k - 3, by omega⟩
  have e0 : rd [r, n] 0 = r := rfl
  have e1 : rd [r, n] 1 = n := rfl
  have w1 : wrap64 (0 + 1) = 1 := by unfold wrap64; decide
  have w2 : wrap64 (1 + 1) = 2 := by unfold wrap64; decide
  have w3 : wrap64 (wrap64 (-1125899906842624) - 0) = -1125899906842624 := by unfold wrap64; decide
  have w4 : wrap64 (1125899906842624 - 0) = 1125899906842624 := by unfold wrap64; decide
  have w5 : wrap64 (0 + r) = r := by rw [w64 (by omega)]; omega
  have w6 : wrap64 (wrap64 (-1125899906842624) - r) = -1125899906842624 - r := by rw [w64 (n := -1125899906842624) (by omega), w64 (by omega)]
  have w7 : wrap64 (1125899906842624 - r) = 1125899906842624 - r := w64 (by omega)
  have f0 : fx_Between.f (-1125899906842624) 1125899906842624 r = some r := by unfold fx_Between.f; rw [if_neg (by omega), if_neg (by omega)]
  have f1 : fx_Between.f (-1125899906842624 - r) (1125899906842624 - r) n = some (if n > 1125899906842624 - r then 1125899906842624 - r else n) := by
    unfold fx_Between.f; rw [if_neg (by omega)]; split <;> rfl
  have l2 : (([r, n] : List Int).length : Int) = 2 := rfl
  unfold fx_Sum.f fx_bound.f
  rw [if_neg (by decide), if_neg (by decide)]
  simp only [Option.bind_some, if_true, l2]
  have s0 : fx_Sum.l0 (k + 1 + 1 + 1) 1125899906842624 0 [r, n] 2 0 = fx_Sum.l0 (k + 1 + 1) 1125899906842624 r [r, n] 2 1 := by
    rw [fx_Sum.l0.eq_2, if_pos (by decide), if_pos (by decide), l2, if_pos (by decide), e0, w3, w4, f0, w1]
    simp only [Option.bind_some, w5]
  have s1 : fx_Sum.l0 (k + 1 + 1) 1125899906842624 r [r, n] 2 1 = fx_Sum.l0 (k + 1) 1125899906842624 (if r + n ≤ 1125899906842624 then r + n else 1125899906842624) [r, n] 2 2 := by
    rw [fx_Sum.l0.eq_2, if_pos (by decide), if_pos (by decide), l2, if_pos (by decide), e1, w6, w7, f1, w2]
    simp only [Option.bind_some]
    congr 1
    split
    · rw [w64 (by omega), if_neg (by omega)]; omega
    · rw [w64 (by omega), if_pos (by omega)]
  rw [s0, s1, fx_Sum.l0.eq_2, if_neg (by decide)]

theorem step_f (b0 b1 b2 b3 b4 c s t r a u v n : Int) (k : Nat) (hk : 6 ≤ k) : rest_Step.f k b0 b1 b2 b3 b4 c s t r a u v n = some (stepR c s t r a u v n) := by
  obtain ⟨k, rfl⟩ : ∃ m, k = m + 1 := ⟨k - 1, by omega⟩
  unfold rest_Step.f rest_of.f stepR
  simp only [Option.bind_some]
  rw [right_f c s t r _ (by omega), unit_f a u v _ (by omega)]
  simp only [Option.bind_some, decide_eq_true_eq, rest_Step.j0, if_true]
  by_cases h1 : May c s t ∧ Long r
  · rw [if_pos h1]
    by_cases h2 : Un a ∧ Un u ∧ Un v
    · rw [if_pos h2]
      by_cases h3 : n < 1
      · rw [if_pos h3, if_neg (by unfold Ok; omega)]
      · rw [if_neg h3]
        by_cases h4 : n > 60000
        · rw [if_pos h4, if_neg (by unfold Ok; omega)]
        · rw [if_neg h4, if_pos (show Ok c s t r a u v n from ⟨h1.1, h1.2, h2.1, h2.2.1, h2.2.2, by omega, by omega⟩), calm_f _ _ _ _ _ c s t a u v _ (by omega)]
          simp only [Option.bind_some, decide_eq_true_eq]
          by_cases h5 : Calm c s t a u v
          · rw [if_pos h5, if_pos h5, sum2_f r n h1.2 (by omega) _ (by omega)]
            rfl
          · rw [if_neg h5, if_neg h5]
    · rw [if_neg h2, if_neg (fun h => h2 ⟨h.2.2.1, h.2.2.2.1, h.2.2.2.2.1⟩)]
  · rw [if_neg h1, if_neg (fun h => h1 ⟨h.1, h.2.1⟩)]

theorem refStep_f (b0 b1 b2 b3 b4 c s t r a u v n : Int) (k : Nat) (hk : 2 ≤ k) : rheostatref16_Step.f k b0 b1 b2 b3 b4 c s t r a u v n = some (stepR c s t r a u v n) := by
  obtain ⟨k, rfl⟩ : ∃ m, k = m + 1 := ⟨k - 1, by omega⟩
  unfold rheostatref16_Step.f stepR
  rw [cell_f, long_f, refUnit_f, refUnit_f, refUnit_f]
  simp only [Option.bind_some, decide_eq_true_eq, rheostatref16_Step.j0, if_true]
  by_cases h1 : May c s t
  · rw [if_pos h1]
    by_cases h1' : Long r
    · rw [if_pos h1']
      by_cases h2 : Un a
      · rw [if_pos h2]
        by_cases h2' : Un u
        · rw [if_pos h2']
          by_cases h2'' : Un v
          · rw [if_pos h2'']
            by_cases h3 : n < 1
            · rw [if_pos h3, if_neg (by unfold Ok; omega)]
            · rw [if_neg h3]
              by_cases h4 : n > 60000
              · rw [if_pos h4, if_neg (by unfold Ok; omega)]
              · rw [if_neg h4, if_pos (show Ok c s t r a u v n from ⟨h1, h1', h2, h2', h2'', by omega, by omega⟩), refCalm_f _ _ _ _ _ c s t a u v _ (by omega)]
                simp only [Option.bind_some, decide_eq_true_eq]
                by_cases h5 : Calm c s t a u v
                · rw [if_pos h5, if_pos h5, w64 (by omega)]
                  unfold mn
                  congr 2
                  split <;> split <;> omega
                · rw [if_neg h5, if_neg h5]
          · rw [if_neg h2'', if_neg (fun h => h2'' h.2.2.2.2.1)]
        · rw [if_neg h2', if_neg (fun h => h2' h.2.2.2.1)]
      · rw [if_neg h2, if_neg (fun h => h2 h.2.2.1)]
    · rw [if_neg h1', if_neg (fun h => h1' h.2.1)]
  · rw [if_neg h1, if_neg (fun h => h1 h.1)]

def isR (c s t r : Int) : Bool := decide ((May c s t ∧ Long r) ∧ t ≤ r)
theorem is_f (b0 b1 b2 b3 b4 c s t r : Int) (k : Nat) (hk : 3 ≤ k) : rest_Is.f k b0 b1 b2 b3 b4 c s t r = some (isR c s t r) := by
  unfold rest_Is.f rest_of.f isR
  simp only [Option.bind_some]
  rw [right_f c s t r _ (by omega)]
  simp only [Option.bind_some, decide_eq_true_eq]
  by_cases h1 : May c s t ∧ Long r
  · rw [if_pos h1]; congr 1; exact decide_eq_decide.2 ⟨fun h => ⟨h1, h⟩, fun h => h.2⟩
  · rw [if_neg h1, decide_eq_false (fun h => h1 h.1)]
theorem refIs_f (b0 b1 b2 b3 b4 c s t r : Int) : rheostatref16_Is.f b0 b1 b2 b3 b4 c s t r = some (isR c s t r) := by
  unfold rheostatref16_Is.f isR
  rw [cell_f, long_f]
  simp only [Option.bind_some, decide_eq_true_eq]
  by_cases h1 : May c s t
  · rw [if_pos h1]
    by_cases h2 : Long r
    · rw [if_pos h2]; congr 1; exact decide_eq_decide.2 ⟨fun h => ⟨⟨h1, h2⟩, h⟩, fun h => h.2⟩
    · rw [if_neg h2, decide_eq_false (fun h => h2 h.1.2)]
  · rw [if_neg h1, decide_eq_false (fun h => h1 h.1.1)]
def stillR (c s t r : Int) : Int × Int := if May c s t ∧ Long r then (if r < t then t - r else 0, 0) else (0, 2)
theorem mx0 (t r : Int) (hr : Long r) (ht : I64 t) (h0 : 0 < t) : mx 0 (wrap64 (t - r)) = if r < t then t - r else 0 := by
  rw [w64 (by omega)]; unfold mx; split <;> split <;> omega
theorem still_f (b0 b1 b2 b3 b4 c s t r : Int) (ht : I64 t) (k : Nat) (hk : 3 ≤ k) : rest_Still.f k b0 b1 b2 b3 b4 c s t r = some (stillR c s t r) := by
  unfold rest_Still.f rest_of.f stillR
  simp only [Option.bind_some]
  rw [right_f c s t r _ (by omega)]
  simp only [Option.bind_some, decide_eq_true_eq]
  by_cases h1 : May c s t ∧ Long r
  · rw [if_pos h1, if_pos h1, mx0 t r h1.2 ht h1.1.2.2.2.2]
  · rw [if_neg h1, if_neg h1]
theorem refStill_f (b0 b1 b2 b3 b4 c s t r : Int) (ht : I64 t) : rheostatref16_Still.f b0 b1 b2 b3 b4 c s t r = some (stillR c s t r) := by
  unfold rheostatref16_Still.f stillR
  rw [cell_f, long_f]
  simp only [Option.bind_some, decide_eq_true_eq]
  by_cases h1 : May c s t
  · rw [if_pos h1]
    by_cases h2 : Long r
    · rw [if_pos h2, if_pos ⟨h1, h2⟩, mx0 t r h2 ht h1.2.2.2.2]
    · rw [if_neg h2, if_neg (fun h => h2 h.2)]
  · rw [if_neg h1, if_neg (fun h => h1 h.1)]
theorem works_f (k : Nat) (hk : 10 ≤ k) : rheostatlaw16_works.f k = some true := at_rounds rheostatlaw16_works.mono hk (by decide +kernel)
end Go.Proofs.Ytonhkbgielilbaa.RestL
