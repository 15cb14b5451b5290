/- The sum of any words, going on from any sum, is what the reference says. -/
import Derived.Test.YtfebnnjdkkcphaaDoorStatCrcTells
import Derived.Test.YtfebnnjdkkcphaaDoorCrcL
namespace Go.Proofs.YtfebnnjdkkcphaaDoor.Pure
open Go.RowKit Go.Proofs.YtfebnnjdkkcphaaDoor.Hand Go.Proofs.YtfebnnjdkkcphaaDoor.PAll Go.Proofs.YtfebnnjdkkcphaaDoorW.PrintWords Go.Proofs.YtfebnnjdkkcphaaDoorW.PrintLast Go.Proofs.YtfebnnjdkkcphaaDoorW.PrintMore Go.Proofs.YtfebnnjdkkcphaaDoor.CrcL
set_option linter.unusedVariables false

theorem CrcTells : Stat.CrcTells.Pure := by
  intro a l ha hl hl8 hw
  have hlen : (fewZ l).length ≤ 300 := by unfold fewZ; rw [List.length_take]; omega
  refine ⟨10000, ?_⟩
  unfold rheostatlaw02_CrcTells.f
  rw [few_f]
  simp only [Option.bind_some]
  rw [ints_f _ (by omega)]
  simp only [Option.bind_some, on_f, of_f, works_f]
  rw [refOn_f a (fewZ l) (by omega) 10000 (by omega), refOf_f (fewZ l) (by omega) 10000 (by omega), same_f _ _ (by omega) 10000 (by omega)]
  simp

end Go.Proofs.YtfebnnjdkkcphaaDoor.Pure
