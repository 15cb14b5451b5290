/- Going towards a number comes there in as many steps as there are, never beyond it, and stays. -/
import Derived.Test.YtfebnnjdkkcphaaPAllx
import Derived.Test.YtfebnnjdkkcphaaFxL
namespace Go.Proofs.Ytfebnnjdkkcphaa.Pure
open Go.RowKit Go.Proofs.Ytfebnnjdkkcphaa.PAll Go.Proofs.YtfebnnjdkkcphaaW.PrintWords Go.Proofs.YtfebnnjdkkcphaaW.PrintLast
open Go.Proofs.Ytfebnnjdkkcphaa.FxL Go.Proofs.Ytfebnnjdkkcphaa.Hand Go.Proofs.YtfebnnjdkkcphaaW.PrintMore

/-- how many steps are left. -/
def stepsZ (d s : Int) : Int := (d + s - 1) / s
theorem stepsZ_step (d s : Int) (hs : 1 ≤ s) (hd : 1 ≤ d) : stepsZ d s = (if d ≤ s then 0 else stepsZ (d - s) s) + 1 := by
  unfold stepsZ
  have e : d + s - 1 = (d - 1) + 1 * s := by omega
  rw [e, Int.add_mul_ediv_right _ _ (by omega)]
  by_cases h : d ≤ s
  · rw [if_pos h, Int.ediv_eq_zero_of_lt (by omega) (by omega)]
  · rw [if_neg h, show d - s + s - 1 = d - 1 by omega]
theorem stepsZ_zero (s : Int) (hs : 1 ≤ s) : stepsZ 0 s = 0 := by unfold stepsZ; exact Int.ediv_eq_zero_of_lt (by omega) (by omega)
theorem stepsZ_le (d s : Int) (hs : 1 ≤ s) (hd0 : 0 ≤ d) (hd : d ≤ 4000) : 0 ≤ stepsZ d s ∧ stepsZ d s ≤ 4000 := by
  unfold stepsZ
  have := (Int.ediv_lt_iff_lt_mul (a := d + s - 1) (b := 4001) (show 0 < s by omega)).2 (by omega)
  exact ⟨Int.ediv_nonneg (by omega) (by omega), by omega⟩

theorem comes (t s far : Int) (ht : -2000 ≤ t ∧ t ≤ 2000) (hs : 1 ≤ s ∧ s ≤ 300) (hf : 0 ≤ far ∧ far ≤ 4000) (d : Nat) :
    ∀ (x n : Int), -2000 ≤ x → x ≤ 2000 → 0 ≤ n → (x - t).natAbs = d → n + stepsZ d s = stepsZ far s → Ev (fun k => rheostatlaw03_FxComes.l0 k t s far n x) true := by
  induction d using Nat.strongRecOn with
  | _ d ih =>
  intro x n hx1 hx2 hn hd hsum
  have hle := stepsZ_le far s hs.1 hf.1 hf.2
  have hto := toward_ev x t s (by unfold I64; omega) (by unfold I64; omega) (by unfold I64; omega)
  by_cases hx : x = t
  · subst hx
    have hd0 : d = 0 := by omega
    subst hd0
    rw [show ((0 : Nat) : Int) = 0 from rfl, stepsZ_zero s hs.1] at hsum
    refine Ev.step (f := fun k => rheostatlaw03_FxComes.j1 k x s far n x false) (fun k => by simp only [rheostatlaw03_FxComes.l0]; rw [if_pos trivial]) ?_
    refine Ev.step (f := fun k => (fx_Toward.f k x x s).bind fun t129 => some (t129 == x)) (fun k => ?_) ?_
    · simp only [rheostatlaw03_FxComes.j1]
      rw [if_neg (by decide), if_neg (by omega), w64 (n := far + s) (by unfold I64; omega), w64 (n := far + s - 1) (by unfold I64; omega), Int.tdiv_eq_ediv_of_nonneg (by omega)]
      unfold stepsZ at hsum hle
      rw [w64 (by unfold I64; omega), if_pos (by omega)]
    · refine Ev.bind hto ?_
      have e : towardZ x x s = x := by unfold towardZ; rw [if_neg (by omega), if_pos (by omega), if_pos (by omega)]
      rw [e, beq_self_eq_true]
      exact Ev.now true
  · have hd1 : 1 ≤ (d : Int) := by omega
    have hst := stepsZ_step d s hs.1 hd1
    have hst2 := stepsZ_le (d - s) s hs.1
    have hlt : n < 5000 := by
      by_cases h : (d : Int) ≤ s
      · rw [if_pos h] at hst; omega
      · rw [if_neg h] at hst
        have : 0 ≤ stepsZ (d - s) s := Int.ediv_nonneg (by omega) (by omega)
        omega
    have hn4 : n ≤ 4000 := by
      have : 0 ≤ stepsZ d s := Int.ediv_nonneg (by omega) (by omega)
      omega
    refine Ev.step (f := fun k => rheostatlaw03_FxComes.j1 k t s far n x true) (fun k => by simp only [rheostatlaw03_FxComes.l0]; rw [if_neg hx, decide_eq_true hlt]) ?_
    refine Ev.step (f := fun k => (fx_Toward.f k x t s).bind fun y => if (mx (wrap64 (y - t)) (wrap64 (t - y))) = (mx 0 (wrap64 ((mx (wrap64 (x - t)) (wrap64 (t - x))) - s))) then (if y > (mx x t) then (some false) else (if y < (mn x t) then (some false) else (rheostatlaw03_FxComes.l0 k t s far (wrap64 (n + 1)) y))) else (some false)) (fun k => ?_) ?_
    · simp only [rheostatlaw03_FxComes.j1]
      rw [if_pos trivial]
    · refine Ev.bind hto ?_
      generalize hy : towardZ x t s = y
      have hyy : (x ≤ t ∧ (t - x ≤ s ∧ y = t ∨ s < t - x ∧ y = x + s)) ∨ (t < x ∧ (x - t ≤ s ∧ y = t ∨ s < x - t ∧ y = x - s)) := by
        unfold towardZ at hy
        rw [if_neg (by omega)] at hy
        by_cases c1 : x ≤ t
        · rw [if_pos c1] at hy
          by_cases c2 : t - x ≤ s
          · rw [if_pos c2] at hy; omega
          · rw [if_neg c2] at hy; omega
        · rw [if_neg c1] at hy
          by_cases c2 : x - t ≤ s
          · rw [if_pos c2] at hy; omega
          · rw [if_neg c2] at hy; omega
      have w1 : wrap64 (y - t) = y - t := w64 (by unfold I64; omega)
      have w2 : wrap64 (t - y) = t - y := w64 (by unfold I64; omega)
      have w3 : wrap64 (x - t) = x - t := w64 (by unfold I64; omega)
      have w4 : wrap64 (t - x) = t - x := w64 (by unfold I64; omega)
      have w5 : wrap64 (n + 1) = n + 1 := w64 (by unfold I64; omega)
      have m1 : mx (y - t) (t - y) = (y - t).natAbs := by unfold mx; split <;> omega
      have m2 : mx (x - t) (t - x) = d := by unfold mx; split <;> omega
      have w6 : wrap64 ((d : Int) - s) = d - s := w64 (by unfold I64; omega)
      have m3 : mx 0 ((d : Int) - s) = (y - t).natAbs := by unfold mx; split <;> omega
      have m4 : ¬ y > mx x t := by unfold mx; split <;> omega
      have m5 : ¬ y < mn x t := by unfold mn; split <;> omega
      simp only [w1, w2, w3, w4, w5, m1, m2, w6, m3, if_neg m4, if_neg m5, if_true]
      refine ih (y - t).natAbs (by omega) y (n + 1) (by omega) (by omega) (by omega) rfl ?_
      by_cases h : (d : Int) ≤ s
      · rw [if_pos h] at hst
        rw [show (((y - t).natAbs : Nat) : Int) = 0 by omega, stepsZ_zero s hs.1]
        omega
      · rw [if_neg h] at hst
        rw [show (((y - t).natAbs : Nat) : Int) = d - s by omega]
        omega

theorem FxComes : rheostatlaw03_FxComes.Pure := by
  intro a b c ha hb hc
  have h1 := amongZ_in a 4000 (by omega)
  have h2 := amongZ_in b 4000 (by omega)
  have h3 := amongZ_in c 300 (by omega)
  refine Ev.rounds (g := fun k => rheostatlaw03_FxComes.f k a b c) ?_
  unfold rheostatlaw03_FxComes.f
  refine Ev.bind works_ev ?_
  simp only [if_true, among_f a 4000 (by omega) (by omega), among_f b 4000 (by omega) (by omega), among_f c 300 (by omega) (by omega), Option.bind_some]
  generalize amongZ a 4000 = x at *
  generalize amongZ b 4000 = y at *
  generalize amongZ c 300 = z at *
  have w1 : wrap64 (x - 2000) = x - 2000 := w64 (by unfold I64; omega)
  have w2 : wrap64 (y - 2000) = y - 2000 := w64 (by unfold I64; omega)
  have w3 : wrap64 (1 + z) = 1 + z := w64 (by unfold I64; omega)
  have w4 : wrap64 (x - 2000 - (y - 2000)) = x - y := by rw [w64 (by unfold I64; omega)]; omega
  have w5 : wrap64 (y - 2000 - (x - 2000)) = y - x := by rw [w64 (by unfold I64; omega)]; omega
  have m1 : mx (x - y) (y - x) = (x - 2000 - (y - 2000)).natAbs := by unfold mx; split <;> omega
  simp only [w1, w2, w3, w4, w5, m1]
  exact comes (y - 2000) (1 + z) _ (by omega) (by omega) (by omega) _ (x - 2000) 0 (by omega) (by omega) (by omega) rfl (by omega)

end Go.Proofs.Ytfebnnjdkkcphaa.Pure
