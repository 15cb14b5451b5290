/- Behind just as many ticks of calm as are told it rests, and a tick earlier it does not. -/
import Derived.Test.YtonhkbgielilbaaStatRestStill
import Derived.Test.YtonhkbgielilbaaRestL
namespace Go.Proofs.Ytonhkbgielilbaa.Pure
open Go.RowKit Go.Proofs.Ytonhkbgielilbaa.PAll Go.Proofs.YtonhkbgielilbaaW.PrintWords Go.Proofs.YtonhkbgielilbaaW.PrintLast Go.Proofs.YtonhkbgielilbaaW.PrintMore Go.Proofs.Ytonhkbgielilbaa.RestL

theorem still (b0 b1 b2 b3 b4 c s t : Int) (hm : May c s t) (ht : I64 t) (d : Nat) : ∀ (k : Nat) (i at_ n : Int), i + d = 40 → 0 ≤ i → Long at_ → 1 ≤ n → at_ + n ≤ t → (t ≤ 1125899906842624 → at_ + n = t) → 2 * d + 20 ≤ k →
    rheostatlaw16_RestStill.l0 k n at_ i b0 b1 b2 b3 b4 c s t = some true := by
  have hc : RestL.Calm c s t 0 0 0 := ⟨hm, by omega, by omega, by omega, by omega, by omega⟩
  have step : ∀ (k : Nat) (at_ n : Int), 6 ≤ k → Long at_ → 1 ≤ n → n ≤ 60000 → rest_Step.f k b0 b1 b2 b3 b4 c s t at_ 0 0 0 n = some (if at_ + n ≤ 1125899906842624 then at_ + n else 1125899906842624, 0) := by
    intro k at_ n hk hl h1 h2
    rw [step_f _ _ _ _ _ c s t at_ 0 0 0 n k hk]
    unfold stepR
    rw [if_pos (show Ok c s t at_ 0 0 0 n from ⟨hm, hl, by omega, by omega, by omega, h1, h2⟩), if_pos hc]
  have fin : ∀ (k : Nat) (i at_ n : Int), 10 ≤ k → Long at_ → 1 ≤ n → at_ + n ≤ t → (t ≤ 1125899906842624 → at_ + n = t) → rheostatlaw16_RestStill.j2 (k + 1) n at_ i false b0 b1 b2 b3 b4 c s t = some true := by
    intro k i at_ n hk hl h1 h2 h3
    rw [rheostatlaw16_RestStill.j2.eq_2, if_neg (by decide)]
    by_cases h4 : n > 60000
    · rw [if_pos h4]
    · rw [if_neg h4, step k at_ n (by omega) hl h1 (by omega)]
      simp only [Option.bind_some]
      have last : (if True then (rest_Is.f k b0 b1 b2 b3 b4 c s t (if at_ + n ≤ 1125899906842624 then at_ + n else 1125899906842624)).bind fun t222 => (if t222 = true then (some true) else (some (decide (t > 1125899906842624)))) else some false) = some true := by
        rw [if_pos trivial, is_f _ _ _ _ _ c s t _ k (by omega)]
        simp only [Option.bind_some]
        by_cases h5 : t ≤ 1125899906842624
        · have e : isR c s t (if at_ + n ≤ 1125899906842624 then at_ + n else 1125899906842624) = true := by
            have := h3 h5
            unfold isR
            rw [if_pos (by omega)]
            exact decide_eq_true ⟨⟨hm, by omega⟩, by omega⟩
          rw [e, if_pos rfl]
        · have e : decide (t > 1125899906842624) = true := decide_eq_true (by omega)
          rw [e]
          cases isR c s t (if at_ + n ≤ 1125899906842624 then at_ + n else 1125899906842624) <;> rfl
      by_cases h6 : n > 1
      · rw [if_pos h6, w64 (n := n - 1) (by omega), step k at_ (n - 1) (by omega) hl (by omega) (by omega)]
        simp only [Option.bind_some]
        rw [is_f _ _ _ _ _ c s t _ k (by omega)]
        simp only [Option.bind_some]
        have e : isR c s t (if at_ + (n - 1) ≤ 1125899906842624 then at_ + (n - 1) else 1125899906842624) = false := by
          unfold isR
          refine decide_eq_false (fun h => ?_)
          have := h.2
          split at this <;> omega
        rw [e, if_neg (by decide)]
        exact last
      · rw [if_neg h6]
        exact last
  induction d with
  | zero =>
    intro k i at_ n hi h0 hl h1 h2 h3 hk
    obtain ⟨k, rfl⟩ : ∃ m, k = m + 1 + 1 := ⟨k - 2, by omega⟩
    rw [rheostatlaw16_RestStill.l0.eq_2, if_neg (by omega)]
    exact fin k i at_ n (by omega) hl h1 h2 h3
  | succ d ih =>
    intro k i at_ n hi h0 hl h1 h2 h3 hk
    obtain ⟨k, rfl⟩ : ∃ m, k = m + 1 + 1 := ⟨k - 2, by omega⟩
    rw [rheostatlaw16_RestStill.l0.eq_2, if_pos (by omega)]
    by_cases h4 : n > 60000
    · rw [decide_eq_true h4, rheostatlaw16_RestStill.j2.eq_2, if_pos rfl, step k at_ 60000 (by omega) hl (by omega) (by omega)]
      simp only [Option.bind_some]
      rw [is_f _ _ _ _ _ c s t _ k (by omega)]
      simp only [Option.bind_some]
      have e : isR c s t (if at_ + 60000 ≤ 1125899906842624 then at_ + 60000 else 1125899906842624) = false := by
        unfold isR
        refine decide_eq_false (fun h => ?_)
        have := h.2
        split at this <;> omega
      rw [e, if_neg (by decide), w64 (n := n - 60000) (by omega), w64 (n := i + 1) (by omega)]
      exact ih k (i + 1) _ (n - 60000) (by omega) (by omega) (by split <;> omega) (by omega) (by split <;> omega) (fun h => by have := h3 h; rw [if_pos (by omega)]; omega) (by omega)
    · rw [decide_eq_false h4]
      exact fin k i at_ n (by omega) hl h1 h2 h3

theorem RestStill : Stat.RestStill.Pure := by
  intro b0 b1 b2 b3 b4 c s t r _ _ _ _ _ _ _ ht _
  have ht := i64 ht
  refine ⟨200, ?_⟩
  unfold rheostatlaw16_RestStill.f
  rw [works_f 200 (by omega), still_f _ _ _ _ _ c s t r ht 200 (by omega)]
  simp only [Option.bind_some, if_true]
  unfold stillR
  by_cases h : May c s t ∧ Long r
  · rw [if_pos h]
    simp only [if_true]
    by_cases h2 : r < t
    · rw [if_pos h2, beq_eq_false_iff_ne.2 (by omega), rheostatlaw16_RestStill.j0.eq_2, if_neg (by decide)]
      exact still b0 b1 b2 b3 b4 c s t h.1 ht 40 199 0 r (t - r) (by omega) (by omega) h.2 (by omega) (by omega) (by omega) (by omega)
    · rw [if_neg h2, beq_self_eq_true, rheostatlaw16_RestStill.j0.eq_2, if_pos rfl, if_pos rfl, is_f _ _ _ _ _ c s t r 199 (by omega)]
      simp only [Option.bind_some]
      congr 1
      unfold isR
      exact decide_eq_true ⟨h, by omega⟩
  · rw [if_neg h]
    simp only
    rw [if_neg (by decide), rheostatlaw16_RestStill.j0.eq_2, if_pos rfl, if_neg (by decide), if_pos rfl]

end Go.Proofs.Ytonhkbgielilbaa.Pure
