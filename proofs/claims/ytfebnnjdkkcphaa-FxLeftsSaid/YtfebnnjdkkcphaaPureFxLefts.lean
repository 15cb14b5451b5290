/- A number is the divisor times its division, rounded down, and what is left. -/
import Derived.Test.YtfebnnjdkkcphaaPAllx
import Derived.Test.YtfebnnjdkkcphaaFxL
namespace Go.Proofs.Ytfebnnjdkkcphaa.Pure
open Go.RowKit Go.Proofs.Ytfebnnjdkkcphaa.PAll Go.Proofs.YtfebnnjdkkcphaaW.PrintWords Go.Proofs.YtfebnnjdkkcphaaW.PrintLast
open Go.Proofs.Ytfebnnjdkkcphaa.FxL Go.Proofs.Ytfebnnjdkkcphaa.Hand Go.Proofs.YtfebnnjdkkcphaaW.PrintMore

theorem FxLefts : rheostatlaw03_FxLefts.Pure := by
  intro a b ha hb
  obtain ⟨k3, h3⟩ := works_ev
  refine ⟨k3, ?_⟩
  unfold rheostatlaw03_FxLefts.f
  simp only [down_f a b (i64 ha) (i64 hb), left_f a b (i64 ha) (i64 hb), h3 k3 (by omega), Option.bind_some, if_true]
  by_cases h : b < 1
  · simp only [if_pos h]
    decide
  · simp only [if_neg h]
    have e2 := Int.emod_nonneg a (show b ≠ 0 by omega)
    have e3 := Int.emod_lt_of_pos a (show 0 < b by omega)
    rw [if_pos trivial, if_pos trivial, if_pos e2, if_pos e3]
    simp only [u64w]
    have e : (a / b % 18446744073709551616 * (b % 18446744073709551616) % 18446744073709551616 + a % b % 18446744073709551616) % 18446744073709551616 = a % 18446744073709551616 := by
      rw [← Int.mul_emod, ← Int.add_emod, Int.mul_comm, Int.mul_ediv_add_emod]
    rw [e, beq_self_eq_true]

end Go.Proofs.Ytfebnnjdkkcphaa.Pure
