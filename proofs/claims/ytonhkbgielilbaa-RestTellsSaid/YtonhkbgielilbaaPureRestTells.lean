/- Whether any cell rests, and how long it must be calm yet, is as the reference has it. -/
import Derived.Test.YtonhkbgielilbaaStatRestTells
import Derived.Test.YtonhkbgielilbaaRestL
namespace Go.Proofs.Ytonhkbgielilbaa.Pure
open Go.RowKit Go.Proofs.Ytonhkbgielilbaa.PAll Go.Proofs.YtonhkbgielilbaaW.PrintWords Go.Proofs.YtonhkbgielilbaaW.PrintLast Go.Proofs.YtonhkbgielilbaaW.PrintMore Go.Proofs.Ytonhkbgielilbaa.RestL

theorem RestTells : Stat.RestTells.Pure := by
  intro b0 b1 b2 b3 b4 c s t r _ _ _ _ _ _ _ ht _
  refine ⟨20, ?_⟩
  unfold rheostatlaw16_RestTells.f
  simp only [still_f _ _ _ _ _ c s t r (i64 ht) 20 (by omega), refStill_f _ _ _ _ _ c s t r (i64 ht), is_f _ _ _ _ _ c s t r 20 (by omega), refIs_f, works_f 20 (by omega), Option.bind_some, if_true, beq_self_eq_true]

end Go.Proofs.Ytonhkbgielilbaa.Pure
