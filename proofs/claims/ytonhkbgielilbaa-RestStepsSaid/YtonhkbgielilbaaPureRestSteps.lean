/- How long any cell has rested behind a step, and whether it is calm, is as the reference has it. -/
import Derived.Test.YtonhkbgielilbaaStatRestSteps
import Derived.Test.YtonhkbgielilbaaRestL
namespace Go.Proofs.Ytonhkbgielilbaa.Pure
open Go.RowKit Go.Proofs.Ytonhkbgielilbaa.PAll Go.Proofs.YtonhkbgielilbaaW.PrintWords Go.Proofs.YtonhkbgielilbaaW.PrintLast Go.Proofs.YtonhkbgielilbaaW.PrintMore Go.Proofs.Ytonhkbgielilbaa.RestL

theorem RestSteps : Stat.RestSteps.Pure := by
  intro b0 b1 b2 b3 b4 c s t r a u v n _ _ _ _ _ _ _ _ _ _ _ _ _
  refine ⟨20, ?_⟩
  unfold rheostatlaw16_RestSteps.f
  simp only [step_f _ _ _ _ _ c s t r a u v n 20 (by omega), refStep_f _ _ _ _ _ c s t r a u v n 20 (by omega), calm_f _ _ _ _ _ c s t a u v 20 (by omega), refCalm_f _ _ _ _ _ c s t a u v 20 (by omega), works_f 20 (by omega), Option.bind_some, if_true, beq_self_eq_true]

end Go.Proofs.Ytonhkbgielilbaa.Pure
