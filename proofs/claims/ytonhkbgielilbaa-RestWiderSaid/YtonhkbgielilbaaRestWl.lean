/- Plain facts on the printed functions of rest and its reference: what each answers. -/
import Derived.Test.YtonhkbgielilbaaPRwxF
import Derived.OpenShut
namespace Go.Proofs.Ytonhkbgielilbaa.RestWl
open Go.RowKit Go.Proofs.Ytonhkbgielilbaa.PRw Go.Proofs.YtonhkbgielilbaaW.PrintWords Go.Proofs.YtonhkbgielilbaaW.PrintLast Go.Proofs.YtonhkbgielilbaaW.PrintMore

abbrev I64 (a : Int) : Prop := -9223372036854775808 ≤ a ∧ a ≤ 9223372036854775807
theorem i64 {a : Int} (h : (Lit.int .i64 a).wf = true) : I64 a := Go.bounds_i64 h
theorem w64 {n : Int} (h : I64 n) : wrap64 n = n := by unfold wrap64; omega

abbrev May (c s t : Int) : Prop := 0 ≤ c ∧ c ≤ 2147483648 ∧ 0 ≤ s ∧ s ≤ 2147483648 ∧ 0 < t
abbrev Un (a : Int) : Prop := -2147483648 ≤ a ∧ a ≤ 2147483648
abbrev Long (n : Int) : Prop := 0 ≤ n ∧ n ≤ 1125899906842624
abbrev Calm (c s t a u v : Int) : Prop := May c s t ∧ Un a ∧ Un u ∧ Un v ∧ (a.natAbs : Int) ≤ c ∧ (u.natAbs : Int) + v.natAbs ≤ s

theorem drop_at {xs : List Int} {i : Nat} (h : i < xs.length) : xs.drop i = rd xs (i : Int) :: xs.drop (i + 1) := by
  rw [List.drop_eq_getElem_cons h]
  simp [rd, List.getElem?_eq_getElem h]

theorem may_loop (xs : List Int) (c s t : Int) (hl : xs.length ≤ 9223372036854775807) (d : Nat) : ∀ (k i : Nat), i + d = xs.length → d < k →
    rest_limits_may.l0 k xs (xs.length : Int) (i : Int) c s t = some (decide ((∀ x ∈ xs.drop i, 0 ≤ x ∧ x ≤ 2147483648) ∧ 0 < t)) := by
  induction d with
  | zero =>
    intro k i hi hk
    obtain ⟨k, rfl⟩ : ∃ m, k = m + 1 := ⟨k - 1, by omega⟩
    simp only [rest_limits_may.l0]
    rw [if_neg (by omega), List.drop_eq_nil_of_le (by omega)]
    simp
  | succ d ih =>
    intro k i hi hk
    obtain ⟨k, rfl⟩ : ∃ m, k = m + 1 := ⟨k - 1, by omega⟩
    have hlt : i < xs.length := by omega
    have w : wrap64 ((i : Int) + 1) = ((i + 1 : Nat) : Int) := by rw [w64 (by omega)]; omega
    have go := ih k (i + 1) (by omega) (by omega)
    simp only [rest_limits_may.l0]
    rw [if_pos (by omega), if_pos (by omega), if_pos (by omega), w, go, drop_at hlt]
    by_cases h1 : rd xs (i : Int) < 0
    · rw [if_pos h1, decide_eq_false (fun h => by have := h.1 _ List.mem_cons_self; omega)]
    · rw [if_neg h1]
      by_cases h2 : rd xs (i : Int) > 2147483648
      · rw [if_pos h2, decide_eq_false (fun h => by have := h.1 _ List.mem_cons_self; omega)]
      · rw [if_neg h2]
        congr 1
        refine decide_eq_decide.2 ⟨fun h => ⟨fun x hx => ?_, h.2⟩, fun h => ⟨fun x hx => h.1 x (List.mem_cons_of_mem _ hx), h.2⟩⟩
        rcases List.mem_cons.1 hx with rfl | hx
        · omega
        · exact h.1 x hx

theorem may_f (c s t : Int) (k : Nat) (hk : 3 ≤ k) : rest_limits_may.f k c s t = some (decide (May c s t)) := by
  unfold rest_limits_may.f
  simp only [Option.bind_some]
  have h := may_loop [c, s] c s t (by simp) 2 k 0 rfl (by omega)
  rw [show ((0 : Nat) : Int) = 0 from rfl] at h
  rw [h]
  congr 1
  refine decide_eq_decide.2 ?_
  simp
  omega

theorem unit_loop (xs : List Int) (hl : xs.length ≤ 9223372036854775807) (d : Nat) : ∀ (k i : Nat), i + d = xs.length → d < k →
    rest_unit.l0 k xs (xs.length : Int) (i : Int) = some (decide (∀ x ∈ xs.drop i, Un x)) := by
  induction d with
  | zero =>
    intro k i hi hk
    obtain ⟨k, rfl⟩ : ∃ m, k = m + 1 := ⟨k - 1, by omega⟩
    simp only [rest_unit.l0]
    rw [if_neg (by omega), List.drop_eq_nil_of_le (by omega)]
    simp
  | succ d ih =>
    intro k i hi hk
    obtain ⟨k, rfl⟩ : ∃ m, k = m + 1 := ⟨k - 1, by omega⟩
    have hlt : i < xs.length := by omega
    have w : wrap64 ((i : Int) + 1) = ((i + 1 : Nat) : Int) := by rw [w64 (by omega)]; omega
    have go := ih k (i + 1) (by omega) (by omega)
    simp only [rest_unit.l0]
    rw [if_pos (by omega), if_pos (by omega), if_pos (by omega), w, go, drop_at hlt]
    by_cases h1 : rd xs (i : Int) < -2147483648
    · rw [if_pos h1, decide_eq_false (fun h => by have := h _ List.mem_cons_self; omega)]
    · rw [if_neg h1]
      by_cases h2 : rd xs (i : Int) > 2147483648
      · rw [if_pos h2, decide_eq_false (fun h => by have := h _ List.mem_cons_self; omega)]
      · rw [if_neg h2]
        congr 1
        refine decide_eq_decide.2 ⟨fun h x hx => ?_, fun h x hx => h x (List.mem_cons_of_mem _ hx)⟩
        rcases List.mem_cons.1 hx with rfl | hx
        · omega
        · exact h x hx

theorem unit_f (a u v : Int) (k : Nat) (hk : 4 ≤ k) : rest_unit.f k [a, u, v] = some (decide (Un a ∧ Un u ∧ Un v)) := by
  unfold rest_unit.f
  have h := unit_loop [a, u, v] (by simp) 3 k 0 rfl (by omega)
  rw [show ((0 : Nat) : Int) = 0 from rfl] at h
  rw [h]
  congr 1
  refine decide_eq_decide.2 ?_
  simp

theorem right_f (c s t r : Int) (k : Nat) (hk : 3 ≤ k) : rest_cell_right.f k c s t r = some (decide (May c s t ∧ Long r)) := by
  unfold rest_cell_right.f
  rw [may_f c s t k hk]
  simp only [Option.bind_some, decide_eq_true_eq]
  by_cases h : May c s t
  · rw [if_pos h]
    by_cases h2 : r ≥ 0
    · rw [if_pos h2]; congr 1; exact decide_eq_decide.2 ⟨fun h3 => ⟨h, h2, h3⟩, fun h3 => h3.2.2⟩
    · rw [if_neg h2, decide_eq_false (fun h3 => h2 h3.2.1)]
  · rw [if_neg h, decide_eq_false (fun h3 => h h3.1)]

theorem size_f (a : Int) (h : Un a) : fx_Size.f a = some (a.natAbs : Int) := by
  unfold fx_Size.f
  split
  · rw [w64 (by omega), if_neg (by omega)]; congr 1; omega
  · congr 1; omega
theorem calm_f (b0 b1 b2 b3 b4 c s t a u v : Int) (k : Nat) (hk : 4 ≤ k) : rest_Calm.f k b0 b1 b2 b3 b4 c s t a u v = some (decide (Calm c s t a u v)) := by
  unfold rest_Calm.f rest_of.f
  simp only [Option.bind_some]
  rw [may_f c s t k (by omega)]
  simp only [Option.bind_some, decide_eq_true_eq]
  by_cases h1 : May c s t
  · rw [if_pos h1, unit_f a u v k hk]
    simp only [Option.bind_some, decide_eq_true_eq]
    by_cases h2 : Un a ∧ Un u ∧ Un v
    · rw [if_pos h2, size_f a h2.1, size_f u h2.2.1, size_f v h2.2.2]
      simp only [Option.bind_some]
      rw [w64 (by omega)]
      by_cases h3 : (a.natAbs : Int) ≤ c
      · rw [if_pos h3]; congr 1; exact decide_eq_decide.2 ⟨fun h4 => ⟨h1, h2.1, h2.2.1, h2.2.2, h3, h4⟩, fun h4 => h4.2.2.2.2.2⟩
      · rw [if_neg h3, decide_eq_false (fun h4 => h3 h4.2.2.2.2.1)]
    · rw [if_neg h2, decide_eq_false (fun h4 => h2 ⟨h4.2.1, h4.2.2.1, h4.2.2.2.1⟩)]
  · rw [if_neg h1, decide_eq_false (fun h4 => h1 h4.1)]


theorem u64w (a : Int) : IntKind.u64.wrap a = a % 18446744073709551616 := by rw [IntKind.wrap_u64]
def amongZ (a n : Int) : Int := a % 18446744073709551616 % n
theorem amongZ_in (a n : Int) (h : 1 ≤ n) : 0 ≤ amongZ a n ∧ amongZ a n < n := ⟨Int.emod_nonneg _ (by omega), Int.emod_lt_of_pos _ (by omega)⟩
theorem among_f (a n : Int) (h : 1 ≤ n) (h2 : n ≤ 9223372036854775807) : rheostatbase_Among.f a n = some (amongZ a n) := by
  unfold rheostatbase_Among.f
  have e : IntKind.u64.wrap n = n := by rw [u64w]; omega
  rw [if_neg (by omega), e, if_neg (by omega), u64w, Int.tmod_eq_emod_of_nonneg (by omega)]
  have := amongZ_in a n h
  unfold amongZ at *
  rw [w64 (by unfold I64; omega)]
theorem works_f (k : Nat) (hk : 10 ≤ k) : rheostatlaw16_works.f k = some true := at_rounds rheostatlaw16_works.mono hk (by decide +kernel)
end Go.Proofs.Ytonhkbgielilbaa.RestWl
