/- Going on by pieces is as at once. -/
import Derived.Test.YtfebnnjdkkcphaaDoorStatCrcPieces
import Derived.Test.YtfebnnjdkkcphaaDoorCrcL
namespace Go.Proofs.YtfebnnjdkkcphaaDoor.Pure
open Go.RowKit Go.Proofs.YtfebnnjdkkcphaaDoor.Hand Go.Proofs.YtfebnnjdkkcphaaDoor.PAll Go.Proofs.YtfebnnjdkkcphaaDoorW.PrintWords Go.Proofs.YtfebnnjdkkcphaaDoorW.PrintLast Go.Proofs.YtfebnnjdkkcphaaDoorW.PrintMore Go.Proofs.YtfebnnjdkkcphaaDoor.CrcL
set_option linter.unusedVariables false

theorem onZ_append (s : Int) (a b : List Int) : onZ s (a ++ b) = onZ (onZ s a) b := by simp [onZ]
theorem pieces (x c : List Int) (hx : x.length ≤ 300) (hc : c.length ≤ 9223372036854775807) (d : Nat) : ∀ (k i done : Nat), i + d = c.length → done ≤ x.length → 2 * d + 5 ≤ k →
    rheostatlaw02_CrcPieces.l0 k x c (onZ 65535 (x.take done)) (done : Int) (i : Int) = some true := by
  have fin : ∀ (k i done : Nat), done ≤ x.length → rheostatlaw02_CrcPieces.j1 (k + 1) x c (onZ 65535 (x.take done)) (done : Int) (i : Int) false = some true := by
    intro k i done hd
    have hz := onZ_in (x.take done) 65535 (by omega) (by omega)
    rw [rheostatlaw02_CrcPieces.j1.eq_2, if_neg (by decide), if_pos (by omega), if_pos (by omega)]
    simp only [on_f, of_f, Option.bind_some, Int.toNat_natCast]
    rw [Int.emod_eq_of_lt hz.1 hz.2, ← onZ_append, List.take_append_drop]
    simp
  induction d with
  | zero =>
    intro k i done hi hd hk
    obtain ⟨k, rfl⟩ : ∃ m, k = m + 1 + 1 := ⟨k - 2, by omega⟩
    rw [rheostatlaw02_CrcPieces.l0.eq_2, if_neg (by omega)]
    exact fin k i done hd
  | succ d ih =>
    intro k i done hi hd hk
    obtain ⟨k, rfl⟩ : ∃ m, k = m + 1 + 1 := ⟨k - 2, by omega⟩
    rw [rheostatlaw02_CrcPieces.l0.eq_2, if_pos (by omega)]
    by_cases h : (i : Int) < 30
    · have hz := onZ_in (x.take done) 65535 (by omega) (by omega)
      have w : wrap64 ((i : Int) + 1) = ((i + 1 : Nat) : Int) := by rw [w64 (by omega)]; omega
      have w1 : wrap64 (wrap64 ((x.length : Int) - done) + 1) = (x.length : Int) - done + 1 := by rw [w64 (n := (x.length : Int) - done) (by omega), w64 (by omega)]
      have ha := amongZ_in (rd c (i : Int)) ((x.length : Int) - done + 1) (by omega)
      rw [decide_eq_true h, rheostatlaw02_CrcPieces.j1.eq_2, if_pos rfl, if_pos (by omega), if_pos (by omega), w1, among_f _ _ (by omega) (by omega)]
      simp only [Option.bind_some]
      generalize amongZ (rd c (i : Int)) ((x.length : Int) - done + 1) = t at *
      obtain ⟨m, rfl⟩ := Int.eq_ofNat_of_zero_le ha.1
      have w2 : wrap64 ((done : Int) + m) = ((done + m : Nat) : Int) := by rw [w64 (by omega)]; omega
      have g1 : (0 : Int) ≤ (done : Int) := Int.natCast_nonneg _
      have g2 : (done : Int) ≤ ((done + m : Nat) : Int) := by omega
      have g3 : ((done + m : Nat) : Int) ≤ (x.length : Int) := by omega
      rw [w2, if_pos g1, if_pos g2, if_pos g3]
      simp only [on_f, Option.bind_some, Int.toNat_natCast, w]
      have e : onZ (onZ 65535 (x.take done) % 65536) ((x.take (done + m)).drop done) = onZ 65535 (x.take (done + m)) := by
        rw [Int.emod_eq_of_lt hz.1 hz.2, ← onZ_append]
        congr 1
        have h1 : x.take done = (x.take (done + m)).take done := by rw [List.take_take, Nat.min_eq_left (by omega)]
        rw [h1, List.take_append_drop]
      rw [e]
      exact ih k (i + 1) (done + m) (by omega) (by omega) (by omega)
    · rw [decide_eq_false h]
      exact fin k i done hd
theorem CrcPieces : Stat.CrcPieces.Pure := by
  intro l c hl hl8 hw hc hc8 hcw
  unfold maxLen at hc
  have hlen : (fewZ l).length ≤ 300 := by unfold fewZ; rw [List.length_take]; omega
  refine ⟨2 * c.length + 10, ?_⟩
  unfold rheostatlaw02_CrcPieces.f
  rw [works_f, few_f]
  simp only [Option.bind_some, if_true]
  exact pieces (fewZ l) c hlen (by omega) c.length _ 0 0 (by omega) (by omega) (by omega)

end Go.Proofs.YtfebnnjdkkcphaaDoor.Pure
