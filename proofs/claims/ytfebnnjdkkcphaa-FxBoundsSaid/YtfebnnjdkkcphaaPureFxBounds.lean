/- A clamped number, and a sum, is within its bound; clamping twice is clamping once; what is within stays. -/
import Derived.Test.YtfebnnjdkkcphaaPAllx
import Derived.Test.YtfebnnjdkkcphaaFxL
namespace Go.Proofs.Ytfebnnjdkkcphaa.Pure
open Go.RowKit Go.Proofs.Ytfebnnjdkkcphaa.PAll Go.Proofs.YtfebnnjdkkcphaaW.PrintWords Go.Proofs.YtfebnnjdkkcphaaW.PrintLast
open Go.Proofs.Ytfebnnjdkkcphaa.FxL Go.Proofs.Ytfebnnjdkkcphaa.Hand Go.Proofs.YtfebnnjdkkcphaaW.PrintMore

theorem FxBounds : rheostatlaw03_FxBounds.Pure := by
  intro b n l hb _ hl hl8 _
  have hm : mn (l.length : Int) 300 ≤ (l.length : Int) ∧ 0 ≤ mn (l.length : Int) 300 := by unfold mn; split <;> omega
  have ht : (l.take (mn (l.length : Int) 300).toNat).length ≤ 300 := by
    have := List.length_take_le (mn (l.length : Int) 300).toNat l
    have : mn (l.length : Int) 300 ≤ 300 := by unfold mn; split <;> omega
    omega
  generalize hxs : l.take (mn (l.length : Int) 300).toNat = xs at ht
  obtain ⟨k1, h1⟩ := sum_ev b xs (by omega)
  obtain ⟨k3, h3⟩ := works_ev
  refine ⟨k1 + k3, ?_⟩
  unfold rheostatlaw03_FxBounds.f
  simp only [h3 (k1 + k3) (by omega), Option.bind_some, if_true]
  rw [if_pos hm.2, if_pos hm.1, hxs]
  simp only [clamp_f, h1 (k1 + k3) (by omega), Option.bind_some, most_f]
  by_cases g1 : b < 1
  · rw [if_pos g1]
    have e1 : clampR b n = (0, 2) := by unfold clampR; rw [if_pos (.inl g1)]
    have e2 : sumR b xs = (0, 2) := by unfold sumR; rw [if_pos (.inl g1)]
    rw [e1, e2]
    decide
  · rw [if_neg g1]
    by_cases g2 : b > 2305843009213693952
    · rw [if_pos g2]
      have e1 : clampR b n = (0, 2) := by unfold clampR; rw [if_pos (.inr g2)]
      have e2 : sumR b xs = (0, 2) := by unfold sumR; rw [if_pos (.inr g2)]
      rw [e1, e2]
      decide
    · rw [if_neg g2]
      have e1 : ∀ m, clampR b m = (betweenZ (-b) b m, 0) := by intro m; unfold clampR; rw [if_neg (by omega)]
      have e2 : sumR b xs = (sumZ b 0 xs, 0) := by unfold sumR; rw [if_neg (by omega)]
      have e3 : wrap64 (-b) = -b := w64 (by unfold I64; omega)
      have e4 := sumZ_in b (by omega) xs 0 (by omega) (by omega)
      have e5 : -b ≤ betweenZ (-b) b n ∧ betweenZ (-b) b n ≤ b := by unfold betweenZ; repeat' (first | omega | split)
      have e6 : betweenZ (-b) b (betweenZ (-b) b n) = betweenZ (-b) b n := by
        generalize betweenZ (-b) b n = m at *
        unfold betweenZ
        rw [if_neg (by omega), if_neg (by omega)]
      simp only [e1, e2, e3]
      rw [if_pos trivial, if_pos trivial, if_pos e5.1, if_pos e5.2, if_pos e6]
      have e7 : decide (sumZ b 0 xs ≤ b) = true := decide_eq_true e4.2
      by_cases c1 : n < -b
      · rw [if_pos c1, if_pos e4.1, e7]
      · rw [if_neg c1]
        by_cases c2 : n > b
        · rw [if_pos c2, if_pos e4.1, e7]
        · rw [if_neg c2, if_pos (by unfold betweenZ; rw [if_neg c1, if_neg c2]), if_pos e4.1, e7]

end Go.Proofs.Ytfebnnjdkkcphaa.Pure
