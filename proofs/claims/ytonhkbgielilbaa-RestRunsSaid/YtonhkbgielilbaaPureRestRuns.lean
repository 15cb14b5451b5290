/- It rests just behind so many ticks of calm, one behind the other, whatever was ahead of them. -/
import Derived.Test.YtonhkbgielilbaaStatRestRuns
import Derived.Test.YtonhkbgielilbaaRestL
namespace Go.Proofs.Ytonhkbgielilbaa.Pure
open Go.RowKit Go.Proofs.Ytonhkbgielilbaa.PAll Go.Proofs.YtonhkbgielilbaaW.PrintWords Go.Proofs.YtonhkbgielilbaaW.PrintLast Go.Proofs.YtonhkbgielilbaaW.PrintMore Go.Proofs.Ytonhkbgielilbaa.RestL

theorem runs (b0 b1 b2 b3 b4 c s t : Int) (l : List S25) (hl : l.length ≤ 9223372036854775807) (d : Nat) : ∀ (k i : Nat) (n : Int), i + d = l.length → 0 ≤ n → n ≤ 60000 * i → 2 * d + 10 ≤ k →
    rheostatlaw16_RestRuns.l0 k l n n (i : Int) b0 b1 b2 b3 b4 c s t = some true := by
  induction d with
  | zero =>
    intro k i n hi h0 hn hk
    obtain ⟨k, rfl⟩ : ∃ m, k = m + 1 + 1 := ⟨k - 2, by omega⟩
    simp only [rheostatlaw16_RestRuns.l0, rheostatlaw16_RestRuns.j1]
    rw [if_neg (by omega), if_neg (by decide)]
  | succ d ih =>
    intro k i n hi h0 hn hk
    obtain ⟨k, rfl⟩ : ∃ m, k = m + 1 + 1 := ⟨k - 2, by omega⟩
    rw [rheostatlaw16_RestRuns.l0.eq_2, if_pos (by omega)]
    by_cases h100 : (i : Int) < 100
    · rw [decide_eq_true h100]
      have w : wrap64 ((i : Int) + 1) = ((i + 1 : Nat) : Int) := by rw [w64 (by omega)]; omega
      rw [rheostatlaw16_RestRuns.j1.eq_2, if_pos rfl, if_pos (by omega), if_pos (by omega)]
      generalize rd_T25 l (i : Int) = x
      rw [step_f _ _ _ _ _ c s t n x.f0 x.f1 x.f2 x.f3 k (by omega), refCalm_f _ _ _ _ _ c s t x.f0 x.f1 x.f2 k (by omega), w]
      simp only [Option.bind_some, decide_eq_true_eq]
      unfold stepR
      by_cases hok : Ok c s t n x.f0 x.f1 x.f2 x.f3
      · rw [if_pos hok]
        have hm := hok.1
        by_cases hc : RestL.Calm c s t x.f0 x.f1 x.f2
        · have hw : wrap64 (n + x.f3) = n + x.f3 := w64 (by omega)
          have hle : n + x.f3 ≤ 1125899906842624 := by omega
          simp only [if_pos hc, if_pos hle, hw, if_true, is_f _ _ _ _ _ c s t (n + x.f3) k (by omega), Option.bind_some]
          have e : (isR c s t (n + x.f3) != decide (n + x.f3 ≥ t)) = false := by
            unfold isR
            rw [bne_eq_false_iff_eq]
            exact decide_eq_decide.2 ⟨fun h => h.2, fun h => ⟨⟨hm, by omega⟩, h⟩⟩
          rw [e, if_neg (by decide)]
          exact ih k (i + 1) (n + x.f3) (by omega) (by omega) (by omega) (by omega)
        · simp only [if_neg hc, if_true, is_f _ _ _ _ _ c s t 0 k (by omega), Option.bind_some]
          have e : (isR c s t 0 != decide (0 ≥ t)) = false := by
            unfold isR
            rw [bne_eq_false_iff_eq]
            exact decide_eq_decide.2 ⟨fun h => h.2, fun h => ⟨⟨hm, by omega⟩, h⟩⟩
          rw [e, if_neg (by decide)]
          exact ih k (i + 1) 0 (by omega) (by omega) (by omega) (by omega)
      · rw [if_neg hok]
        rfl
    · rw [decide_eq_false h100, rheostatlaw16_RestRuns.j1.eq_2, if_neg (by decide)]

theorem RestRuns : Stat.RestRuns.Pure := by
  intro b0 b1 b2 b3 b4 c s t l _ _ _ _ _ _ _ _ hl _ _
  unfold maxLen at hl
  refine ⟨2 * l.length + 20, ?_⟩
  unfold rheostatlaw16_RestRuns.f
  rw [works_f _ (by omega)]
  simp only [Option.bind_some, if_true]
  exact runs b0 b1 b2 b3 b4 c s t l (by omega) l.length _ 0 0 (by omega) (by omega) (by omega) (by omega)

end Go.Proofs.Ytonhkbgielilbaa.Pure
