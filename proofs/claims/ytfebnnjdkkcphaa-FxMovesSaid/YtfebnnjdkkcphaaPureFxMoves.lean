/- Going towards a number, and a number's size, are as the reference has them, for every three whole numbers of 64 bits. -/
import Derived.Test.YtfebnnjdkkcphaaPAllx
import Derived.Test.YtfebnnjdkkcphaaFxL
namespace Go.Proofs.Ytfebnnjdkkcphaa.Pure
open Go.RowKit Go.Proofs.Ytfebnnjdkkcphaa.PAll Go.Proofs.YtfebnnjdkkcphaaW.PrintWords Go.Proofs.YtfebnnjdkkcphaaW.PrintLast
open Go.Proofs.Ytfebnnjdkkcphaa.FxL Go.Proofs.Ytfebnnjdkkcphaa.Hand Go.Proofs.YtfebnnjdkkcphaaW.PrintMore

theorem FxMoves : rheostatlaw03_FxMoves.Pure := by
  intro a b c ha hb hc
  obtain ⟨k1, h1⟩ := toward_ev a b c (i64 ha) (i64 hb) (i64 hc)
  obtain ⟨k2, h2⟩ := refToward_ev a b c (i64 ha) (i64 hb) (i64 hc)
  obtain ⟨k3, h3⟩ := works_ev
  refine ⟨k1 + k2 + k3, ?_⟩
  unfold rheostatlaw03_FxMoves.f
  simp only [h1 (k1 + k2 + k3) (by omega), h2 (k1 + k2 + k3) (by omega), h3 (k1 + k2 + k3) (by omega), size_f a (i64 ha), refSize_f a (i64 ha), Option.bind_some, if_true]

end Go.Proofs.Ytfebnnjdkkcphaa.Pure
