/- Any number is divided, rounded down, to the nearest, to the nearest even one, and what is left is told, as the reference has it. -/
import Derived.Test.YtfebnnjdkkcphaaPAllx
import Derived.Test.YtfebnnjdkkcphaaFxL
namespace Go.Proofs.Ytfebnnjdkkcphaa.Pure
open Go.RowKit Go.Proofs.Ytfebnnjdkkcphaa.PAll Go.Proofs.YtfebnnjdkkcphaaW.PrintWords Go.Proofs.YtfebnnjdkkcphaaW.PrintLast
open Go.Proofs.Ytfebnnjdkkcphaa.FxL Go.Proofs.Ytfebnnjdkkcphaa.Hand Go.Proofs.YtfebnnjdkkcphaaW.PrintMore

theorem FxDivides : rheostatlaw03_FxDivides.Pure := by
  intro a b ha hb
  obtain ⟨k3, h3⟩ := works_ev
  refine ⟨k3, ?_⟩
  unfold rheostatlaw03_FxDivides.f
  simp only [down_f a b (i64 ha) (i64 hb), refDown_f a b (i64 ha) (i64 hb), near_f a b (i64 ha) (i64 hb), refNear_f a b (i64 ha) (i64 hb), even_f a b (i64 ha) (i64 hb), refEven_f a b (i64 ha) (i64 hb), left_f a b (i64 ha) (i64 hb), refLeft_f a b (i64 ha) (i64 hb), h3 k3 (by omega), Option.bind_some, if_true]

end Go.Proofs.Ytfebnnjdkkcphaa.Pure
