/- Words of the cycle. -/
import Derived.Test.YtonhkbgielilbaaR23
import Derived.KernelRfl
namespace Go.Proofs.Ytonhkbgielilbaa.Rig
open Go
theorem mix : Try.prog.follows .mixedOrders = true := by kernel_rfl
theorem all0 : AllOk Try.prog 0 (fun _ => none) [] := trivial
def ok4 (th su cy ca : Int) : Bool := decide (0 ≤ th ∧ th ≤ 1125899906842624 ∧ 0 ≤ su ∧ su ≤ 999 ∧ 0 ≤ cy ∧ cy ≤ 2147483647 ∧ 1 ≤ ca ∧ ca ≤ 1125899906842624 ∧ th * 1000 + su ≤ 1125899906842624000)
def errZ (b : Bool) : Int := if b = true then 0 else 2
def selZ (b : Bool) (n : Int) : Int := if b = true then n else 0
theorem errZ_bne (b : Bool) : (errZ b != 0) = !b := by cases b <;> rfl
theorem errZ_beq (b : Bool) : (errZ b == 0) = b := by cases b <;> rfl
theorem b20 : ((2 : Int) != 0) = true := rfl
theorem b00 : ((0 : Int) != 0) = false := rfl
theorem errZ_t : errZ true = 0 := rfl
theorem errZ_f : errZ false = 2 := rfl
theorem selZ_t (n : Int) : selZ true n = n := rfl
theorem selZ_f (n : Int) : selZ false n = 0 := rfl
def sumZ (x y : Int) : Int := max (-1125899906842624000) (min 1125899906842624000 (x + y))
def sizeZ (n : Int) : Int := if n < 0 then (if n = -9223372036854775808 then 9223372036854775807 else -n) else n
theorem sizeZ_nonneg (n : Int) (h : -9223372036854775808 ≤ n) : 0 ≤ sizeZ n := by unfold sizeZ; split <;> (try split) <;> omega
def sok4 (th su cy ca a b : Int) : Bool := ok4 th su cy ca && decide (sizeZ a ≤ 2147483648 ∧ 1 ≤ b ∧ b ≤ 60000)
theorem sok4_iff {th su cy ca a b : Int} : sok4 th su cy ca a b = true ↔ ok4 th su cy ca = true ∧ sizeZ a ≤ 2147483648 ∧ 1 ≤ b ∧ b ≤ 60000 := by
  simp only [sok4, Bool.and_eq_true, decide_eq_true_eq]
theorem sok4_no {th su cy ca a b : Int} (hk : sok4 th su cy ca a b = false) (h1 : ok4 th su cy ca = true) (h2 : sizeZ a ≤ 2147483648) (h3 : 1 ≤ b) (h4 : b ≤ 60000) : False := by
  rw [sok4_iff.2 ⟨h1, h2, h3, h4⟩] at hk; cases hk
theorem step_facts {th su cy ca a b : Int} (hw : -9223372036854775808 ≤ a ∧ a ≤ 9223372036854775807) (h : sok4 th su cy ca a b = true) :
    IntKind.i64.wrap (IntKind.i64.wrap (th * 1000) + su) = th * 1000 + su ∧ IntKind.i64.wrap (sizeZ a * b) = sizeZ a * b ∧ 0 ≤ sizeZ a * b ∧ sizeZ a * b ≤ 128849018880000 ∧ 0 ≤ th * 1000 + su ∧ th * 1000 + su ≤ 1125899906842624000 ∧
    sumZ (th * 1000 + su) (sizeZ a * b) = min 1125899906842624000 (th * 1000 + su + sizeZ a * b) ∧ 0 ≤ min 1125899906842624000 (th * 1000 + su + sizeZ a * b) ∧ min 1125899906842624000 (th * 1000 + su + sizeZ a * b) ≤ 1125899906842624000 ∧ 1 ≤ ca ∧ ca ≤ 1125899906842624 := by
  obtain ⟨h1, h2, h3, h4⟩ := sok4_iff.1 h
  simp only [ok4, decide_eq_true_eq] at h1
  have h5 := sizeZ_nonneg a hw.1
  have h6 : 0 ≤ sizeZ a * b := Int.mul_nonneg h5 (by omega)
  have h7 : sizeZ a * b ≤ 2147483648 * 60000 := Int.mul_le_mul h2 h4 (by omega) (by omega)
  simp only [w64, sumZ]
  refine ⟨by omega, by omega, h6, by omega, by omega, by omega, by omega, by omega, by omega, by omega, by omega⟩
theorem div_facts {D c : Int} (h : 0 ≤ D) (h' : D ≤ 1125899906842624000) (hc : 1 ≤ c) : IntKind.i64.wrap (Int.tdiv D c) = D / c ∧ 0 ≤ D / c ∧ D / c ≤ D := by
  have h1 : 0 ≤ D / c := Int.ediv_nonneg h (by omega)
  have h2 : D / c ≤ D := Int.ediv_le_self c h
  rw [Int.tdiv_eq_ediv_of_nonneg h, w64]
  omega
theorem fin3 {T c : Int} (h : 0 ≤ T) (h' : T ≤ 1125899906842624000) (hc : 1 ≤ c) : IntKind.i64.wrap (Int.tdiv T 1000) = T / 1000 ∧ Int.tmod T 1000 = T % 1000 ∧ IntKind.i64.wrap (Int.tdiv (T / 1000) 2) = T / 1000 / 2 ∧ IntKind.i64.wrap (Int.tdiv (T / 1000 / 2) c) = T / 1000 / 2 / c := by
  have a1 := div_facts (c := 1000) h h' (by omega)
  have a2 := div_facts (c := 2) (D := T / 1000) (by omega) (by omega) (by omega)
  have a3 := div_facts (c := c) (D := T / 1000 / 2) (by omega) (by omega) hc
  exact ⟨a1.1, Int.tmod_eq_emod_of_nonneg h, a2.1, a3.1⟩
theorem ref_sum {P Q : Int} (h1 : 0 ≤ P) (h2 : P ≤ 1125899906842624000) (h3 : 0 ≤ Q) (h4 : Q ≤ 128849018880000) : (if 1125899906842624000 < IntKind.i64.wrap (P + Q) then 1125899906842624000 else IntKind.i64.wrap (P + Q)) = min 1125899906842624000 (P + Q) := by
  rw [w64]; split <;> omega
theorem sizeZ_iff {a : Int} (hw : -9223372036854775808 ≤ a ∧ a ≤ 9223372036854775807) : sizeZ a ≤ 2147483648 ↔ -2147483648 ≤ a ∧ a ≤ 2147483648 := by
  unfold sizeZ; (repeat' split) <;> omega
theorem pair_div {T c : Int} (hc : 1 ≤ c) (hc' : c ≤ 1125899906842624) (h : 0 ≤ T) (h' : T ≤ 1125899906842624000) : IntKind.i64.wrap (Int.tdiv T (IntKind.i64.wrap (2 * c))) = T / 2 / c := by
  rw [show IntKind.i64.wrap (2 * c) = 2 * c by rw [w64]; omega, (div_facts (c := 2 * c) h h' (by omega)).1, Int.ediv_ediv_of_nonneg (by omega)]
/-- how much is left till the next cycle. -/
def nextZ (ca th cy : Int) : Int := if min (1125899906842624 / (2 * ca)) 2147483647 ≤ cy then 1125899906842625 else max 0 ((cy + 1) * (2 * ca) - th)
theorem next_facts {ca : Int} (h : 1 ≤ ca) (h' : ca ≤ 1125899906842624) : IntKind.i64.wrap (2 * ca) = 2 * ca ∧ IntKind.i64.wrap (Int.tdiv 1125899906842624 (2 * ca)) = 1125899906842624 / (2 * ca) ∧ 0 ≤ 1125899906842624 / (2 * ca) ∧ 1125899906842624 / (2 * ca) ≤ 1125899906842624 := by
  have h1 := div_facts (D := 1125899906842624) (c := 2 * ca) (by omega) (by omega) (by omega)
  exact ⟨by rw [w64]; omega, h1.1, h1.2.1, h1.2.2⟩
theorem next_prod {ca cy th : Int} (h1 : 1 ≤ ca) (h2 : ca ≤ 1125899906842624) (h3 : 0 ≤ cy) (h4 : cy ≤ 2147483647) (h5 : 0 ≤ th) (h6 : th ≤ 1125899906842624) (hc : cy < min (1125899906842624 / (2 * ca)) 2147483647) :
    IntKind.i64.wrap (cy + 1) = cy + 1 ∧ IntKind.i64.wrap (IntKind.i64.wrap ((cy + 1) * (2 * ca)) - th) = (cy + 1) * (2 * ca) - th ∧ IntKind.i64.wrap (IntKind.i64.wrap (IntKind.i64.wrap ((cy + 1) * 2) * ca) - th) = (cy + 1) * (2 * ca) - th := by
  have e1 : IntKind.i64.wrap (cy + 1) = cy + 1 := by rw [w64]; omega
  have e2 : IntKind.i64.wrap ((cy + 1) * 2) = (cy + 1) * 2 := by rw [w64]; omega
  have e3 : (cy + 1) * (2 * ca) ≤ 1125899906842624 := Int.mul_le_of_le_ediv (by omega) (by omega)
  have e4 : 0 ≤ (cy + 1) * (2 * ca) := Int.mul_nonneg (by omega) (by omega)
  rw [e1, e2, Int.mul_assoc]
  generalize (cy + 1) * (2 * ca) = P at *
  refine ⟨rfl, ?_, ?_⟩ <;> rw [w64, w64] <;> omega
end Go.Proofs.Ytonhkbgielilbaa.Rig
