/- Any number is clamped, and any numbers are summed, as the reference has it. -/
import Derived.Test.YtfebnnjdkkcphaaPAllx
import Derived.Test.YtfebnnjdkkcphaaFxL
namespace Go.Proofs.Ytfebnnjdkkcphaa.Pure
open Go.RowKit Go.Proofs.Ytfebnnjdkkcphaa.PAll Go.Proofs.YtfebnnjdkkcphaaW.PrintWords Go.Proofs.YtfebnnjdkkcphaaW.PrintLast
open Go.Proofs.Ytfebnnjdkkcphaa.FxL Go.Proofs.Ytfebnnjdkkcphaa.Hand Go.Proofs.YtfebnnjdkkcphaaW.PrintMore

theorem FxClamps : rheostatlaw03_FxClamps.Pure := by
  intro a0 a1 a2 a3 l _ _ _ _ hl hl8 _
  have hm : mn (l.length : Int) 300 ≤ (l.length : Int) ∧ 0 ≤ mn (l.length : Int) 300 := by unfold mn; split <;> omega
  have ht : (l.take (mn (l.length : Int) 300).toNat).length ≤ 300 := by
    have := List.length_take_le (mn (l.length : Int) 300).toNat l
    have : mn (l.length : Int) 300 ≤ 300 := by unfold mn; split <;> omega
    omega
  generalize hxs : l.take (mn (l.length : Int) 300).toNat = xs at ht
  obtain ⟨k1, h1⟩ := sum_ev a0 xs (by omega)
  obtain ⟨k2, h2⟩ := refSum_ev a0 xs (by omega)
  obtain ⟨k3, h3⟩ := works_ev
  refine ⟨k1 + k2 + k3, ?_⟩
  unfold rheostatlaw03_FxClamps.f
  rw [if_pos hm.2, if_pos hm.1, hxs]
  simp only [clamp_f, refClamp_f, ints_f xs (by omega), between_f, refBetween_f, h1 (k1 + k2 + k3) (by omega), h2 (k1 + k2 + k3) (by omega), h3 (k1 + k2 + k3) (by omega), Option.bind_some, if_true]

end Go.Proofs.Ytfebnnjdkkcphaa.Pure
