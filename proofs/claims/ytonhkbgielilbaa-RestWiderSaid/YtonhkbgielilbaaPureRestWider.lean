/- A greater Calm, or Settle, is calm where a smaller one is. -/
import Derived.Test.YtonhkbgielilbaaStatRestWider
import Derived.Test.YtonhkbgielilbaaRestWl
namespace Go.Proofs.Ytonhkbgielilbaa.Pure
open Go.RowKit Go.Proofs.Ytonhkbgielilbaa.PRw Go.Proofs.YtonhkbgielilbaaW.PrintWords Go.Proofs.YtonhkbgielilbaaW.PrintLast Go.Proofs.YtonhkbgielilbaaW.PrintMore Go.Proofs.Ytonhkbgielilbaa.RestWl

theorem more (x m : Int) (h0 : 0 ≤ x) (h1 : x ≤ 2147483648) (m0 : 0 ≤ m) (m1 : m < 1000) : x ≤ mn 2147483648 (wrap64 (x.tmod 1099511627776 + m)) ∧ mn 2147483648 (wrap64 (x.tmod 1099511627776 + m)) ≤ 2147483648 := by
  have e : x.tmod 1099511627776 = x := by rw [Int.tmod_eq_emod_of_nonneg h0]; omega
  rw [e, w64 (by unfold I64; omega)]
  unfold mn
  split <;> omega

theorem RestWider : Stat.RestWider.Pure := by
  intro b0 b1 b2 b3 b4 c s t a u v n m1 m2 _ _ _ _ _ _ _ _ _ _ _ _ _ _
  refine ⟨20, ?_⟩
  unfold rheostatlaw16_RestWider.f
  rw [works_f 20 (by omega)]
  simp only [Option.bind_some, if_true]
  rw [among_f m1 1000 (by omega) (by omega), among_f m2 1000 (by omega) (by omega)]
  simp only [Option.bind_some]
  rw [calm_f _ _ _ _ _ _ _ _ _ _ _ 20 (by omega), calm_f _ _ _ _ _ _ _ _ _ _ _ 20 (by omega)]
  simp only [Option.bind_some, decide_eq_true_eq]
  by_cases h : RestWl.Calm c s t a u v
  · rw [if_pos h]
    have r1 := amongZ_in m1 1000 (by omega)
    have r2 := amongZ_in m2 1000 (by omega)
    have e1 := more c _ h.1.1 h.1.2.1 r1.1 r1.2
    have e2 := more s _ h.1.2.2.1 h.1.2.2.2.1 r2.1 r2.2
    unfold RestWl.Calm May at *
    congr 1
    rw [decide_eq_true_iff]
    omega
  · rw [if_neg h]

end Go.Proofs.Ytonhkbgielilbaa.Pure
