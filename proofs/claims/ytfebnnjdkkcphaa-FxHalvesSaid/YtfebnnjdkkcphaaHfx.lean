import Derived.Test.YtfebnnjdkkcphaaProg
import Derived.WalkKit
import Derived.WalkSpells
import Derived.WalkLawsBesides
import Derived.RegionTactic
import Derived.ChangeAlike
import Derived.Deep.QuietTactic
import Derived.BigQuiet
import Derived.Lib.Hide
import Derived.Laws.BitsLemmas
import Derived.Test.YtfebnnjdkkcphaaWWords
namespace Go.Proofs.Ytfebnnjdkkcphaa.Hand
open Go.RowKit Go.Proofs.YtfebnnjdkkcphaaW.PrintWords

theorem tdiv_fix (a b : Int) (hb : 1 ≤ b) (hb2 : b ≤ 9223372036854775807) (h0 : -9223372036854775808 ≤ a) (h1 : a ≤ 9223372036854775807) (h : a.tmod b < 0) : wrap64 (a.tdiv b - 1) = a / b ∧ wrap64 (a.tmod b + b) = a % b := by
  have e1 := Int.tdiv_eq_ediv (a := a) (b := b)
  have e2 := Int.tmod_eq_emod (a := a) (b := b)
  have e3 := Int.emod_nonneg a (show b ≠ 0 by omega)
  have e4 := Int.emod_lt_of_pos a (show 0 < b by omega)
  have s1 : b.sign = 1 := Int.sign_eq_one_of_pos (by omega)
  have hn : ¬ (0 ≤ a ∨ b ∣ a) := by
    intro hh
    rw [if_pos hh] at e2
    omega
  rw [if_neg hn] at e1 e2
  have e6 : -9223372036854775808 ≤ a / b := (Int.le_ediv_iff_mul_le (show 0 < b by omega)).2 (by omega)
  have e8 : a / b < 0 := Int.ediv_neg_of_neg_of_pos (by omega) (by omega)
  have e9 : (b.natAbs : Int) = b := by omega
  rw [e9] at e2
  unfold wrap64
  rw [e1, e2, s1]
  constructor <;> omega

theorem tdiv_ok (a b : Int) (hb : 1 ≤ b) (h : 0 ≤ a.tmod b) : a.tdiv b = a / b ∧ a.tmod b = a % b := by
  have e1 := Int.tdiv_eq_ediv (a := a) (b := b)
  have e2 := Int.tmod_eq_emod (a := a) (b := b)
  have e4 := Int.emod_lt_of_pos a (show 0 < b by omega)
  by_cases hh : 0 ≤ a ∨ b ∣ a
  · rw [if_pos hh] at e1 e2
    constructor <;> omega
  · rw [if_neg hh] at e2
    omega

theorem ret2_eq {a b c d : Int} (h : a = b) (h2 : c = d) : Ending.returned (.tuple #[.int .i64 a, .int .i64 c]) = Ending.returned (.tuple #[.int .i64 b, .int .i64 d]) := by rw [h, h2]

theorem and_one_i64 (q : Int) : bits BinOp.and IntKind.i64 q 1 = q % 2 := by
  simp only [bits, BitVec.toNat_and, BitVec.toNat_ofInt, IntKind.wrap_i64]
  have : ((1 : Int) % ((2 : Nat) ^ IntKind.i64.bits : Nat)).toNat = 1 := by decide
  rw [this, Nat.and_one_is_mod]
  simp only [IntKind.bits]
  omega

def fx_Down.f (a b : Int) : Option (Int × Int) :=
  if -9223372036854775808 ≤ a ∧ a ≤ 9223372036854775807 ∧ b ≤ 9223372036854775807 then (if b < 1 then some (0, 2) else some (a / b, 0)) else none

set_option maxHeartbeats 400000 in
theorem down_low (a b : Int) (w : World) (hb : b < 1) :
    Calls Try.prog 24 #[.int .i64 a, .int .i64 b] w fun e w' => e = .returned (.tuple #[.int .i64 0, .int .i64 2]) ∧ Drawn0 w w' := by
  go_enter Try.func24, Try.ntmps24
  go_wp2
  go_ret2
  exact ⟨rfl, Drawn0.refl _⟩

set_option maxHeartbeats 400000 in
theorem down_pos (a b : Int) (w : World) (h0 : -9223372036854775808 ≤ a) (h1 : a ≤ 9223372036854775807) (hb : 1 ≤ b) (hb2 : b ≤ 9223372036854775807) :
    Calls Try.prog 24 #[.int .i64 a, .int .i64 b] w fun e w' => e = .returned (.tuple #[.int .i64 (a / b), .int .i64 0]) ∧ Drawn0 w w' := by
  go_enter Try.func24, Try.ntmps24
  go_wp2
  go_quiet (fail)
  go_wp2
  · have hm : a.tmod b < 0 := by assumption
    go_ret2
    exact ⟨ret2_eq (tdiv_fix a b hb hb2 h0 h1 hm).1 rfl, ⟨_, rfl⟩⟩
  · have hm : 0 ≤ a.tmod b := by assumption
    go_ret2
    exact ⟨ret2_eq (tdiv_ok a b hb hm).1 rfl, ⟨_, rfl⟩⟩

theorem fx_Down.calls (a b r1 r2 : Int) (w : World) (h : fx_Down.f a b = some (r1, r2)) :
    Calls Try.prog 24 #[.int .i64 a, .int .i64 b] w fun e w' => e = .returned (.tuple #[.int .i64 r1, .int .i64 r2]) ∧ Drawn0 w w' := by
  unfold fx_Down.f at h
  split at h
  · rename_i hr
    split at h
    · rename_i hb
      simp only [Option.some.injEq, Prod.mk.injEq] at h
      obtain ⟨rfl, rfl⟩ := h
      exact down_low a b w hb
    · simp only [Option.some.injEq, Prod.mk.injEq] at h
      obtain ⟨rfl, rfl⟩ := h
      exact down_pos a b w hr.1 hr.2.1 (by omega) hr.2.2
  · cases h

theorem cells2 (w : World) (x y : Value) (n : Nat) : (((w.alloc (.cells #[x] 3)).alloc (.cells #[y] 3)).drewN n).cell? ⟨w.heap.size, 0, none⟩ = some x ∧
   (((w.alloc (.cells #[x] 3)).alloc (.cells #[y] 3)).drewN n).cell? ⟨w.heap.size + 1, 0, none⟩ = some y := by
  constructor <;> simp [go_sem]

theorem cells1 (w : World) (x : Value) (n : Nat) : ((w.alloc (.cells #[x] 3)).drewN n).cell? ⟨w.heap.size, 0, none⟩ = some x := by
  simp [go_sem]

def nearUp (a b l : Int) : Bool := decide (b - l < l ∨ (l = b - l ∧ 0 < a))
def evenUp (q b l : Int) : Bool := decide (b - l < l ∨ (l = b - l ∧ q % 2 = 1))

set_option maxHeartbeats 400000 in
theorem near1 (q l a b : Int) (pa pb : Addr) (w : World) (hl : 0 ≤ l) (hlb : l < b) (hb2 : b ≤ 9223372036854775807)
   (ca : w.cell? pa = some (.int .i64 a)) (cb : w.cell? pb = some (.int .i64 b)) :
    Calls Try.prog 35 #[.int .i64 q, .int .i64 l, .pointer (some pb), .pointer (some pa)] w fun e w' => e = .returned (.bool (nearUp a b l)) ∧ Drawn0 w w' := by
  by_cases c1 : b - l < l
  · have hz : nearUp a b l = true := by unfold nearUp; simp; omega
    have HZ := Lib.hid hz; clear hz
    have d1 : decide (b - l < l) = true := by simp; omega
    go_enter Try.func35, Try.ntmps35
    go_wp2
    go_ret
    exact ⟨by rw [HZ.out]; rfl, Drawn0.refl _⟩
  · by_cases c2 : l = b - l
    · by_cases c3 : 0 < a
      · have hz : nearUp a b l = true := by unfold nearUp; simp; omega
        have HZ := Lib.hid hz; clear hz
        have d1 : decide (b - l < l) = false := by simp; omega
        have d2 : (l == b - l) = true := by simp; omega
        have d3 : decide (0 < a) = true := by simp; omega
        clear c2 c3
        go_enter Try.func35, Try.ntmps35
        go_wp2
        go_ret
        exact ⟨by rw [HZ.out]; rfl, Drawn0.refl _⟩
      · have hz : nearUp a b l = false := by unfold nearUp; simp; omega
        have HZ := Lib.hid hz; clear hz
        have d1 : decide (b - l < l) = false := by simp; omega
        have d2 : (l == b - l) = true := by simp; omega
        have d3 : decide (0 < a) = false := by simp; omega
        clear c2 c3
        go_enter Try.func35, Try.ntmps35
        go_wp2
        go_ret
        exact ⟨by rw [HZ.out]; rfl, Drawn0.refl _⟩
    · have hz : nearUp a b l = false := by unfold nearUp; simp; omega
      have HZ := Lib.hid hz; clear hz
      have d1 : decide (b - l < l) = false := by simp; omega
      have d2 : (l == b - l) = false := by simp; omega
      go_enter Try.func35, Try.ntmps35
      go_wp2
      go_ret
      exact ⟨by rw [HZ.out]; rfl, Drawn0.refl _⟩

def nearV (a b : Int) : Int := if nearUp a b (a % b) = true then a / b + 1 else a / b
theorem nearV_up (a b : Int) (hb : 1 ≤ b) (h0 : -9223372036854775808 ≤ a) (h1 : a ≤ 9223372036854775807) (h : nearUp a b (a % b) = true) : wrap64 (a / b + 1) = nearV a b := by
  unfold nearV
  rw [if_pos h]
  have hb2 : 2 ≤ b := by
    unfold nearUp at h
    simp only [decide_eq_true_eq] at h
    have := Int.emod_lt_of_pos a (show 0 < b by omega)
    have := Int.emod_nonneg a (show b ≠ 0 by omega)
    omega
  have e6 : -9223372036854775808 ≤ a / b := (Int.le_ediv_iff_mul_le (show 0 < b by omega)).2 (by omega)
  have e7 : a / b ≤ 4611686018427387904 := by
    have := (Int.ediv_lt_iff_lt_mul (a := a) (b := 4611686018427387905) (show 0 < b by omega)).2 (by omega)
    omega
  unfold wrap64
  omega

set_option maxHeartbeats 400000 in
theorem near_low (a b : Int) (w : World) (hb : b < 1) :
    Calls Try.prog 26 #[.int .i64 a, .int .i64 b] w fun e w' => e = .returned (.tuple #[.int .i64 0, .int .i64 2]) ∧ Below w.heap.size w w' := by
  go_enter Try.func26, Try.ntmps26
  go_wp2
  go_ret2
  exact ⟨rfl, below_alloc (below_alloc (Below.refl _ _) _) _⟩

set_option maxHeartbeats 400000 in
theorem near_pos (a b : Int) (w : World) (h0 : -9223372036854775808 ≤ a) (h1 : a ≤ 9223372036854775807) (hb : 1 ≤ b) (hb2 : b ≤ 9223372036854775807) :
    Calls Try.prog 26 #[.int .i64 a, .int .i64 b] w fun e w' => e = .returned (.tuple #[.int .i64 (nearV a b), .int .i64 0]) ∧ Below w.heap.size w w' := by
  by_cases hm : a.tmod b < 0
  · have hx := tdiv_fix a b hb hb2 h0 h1 hm
    have hl0 : 0 ≤ (wrap64 (a.tmod b + b)) := by rw [hx.2]; exact Int.emod_nonneg _ (by omega)
    have hl1 : (wrap64 (a.tmod b + b)) < b := by rw [hx.2]; exact Int.emod_lt_of_pos _ (by omega)
    have hn := near1 (wrap64 (a.tdiv b - 1)) (wrap64 (a.tmod b + b)) a b
    cases hu : nearUp a b (wrap64 (a.tmod b + b)) with
    | true =>
      rw [hu] at hn
      have hv : wrap64 ((wrap64 (a.tdiv b - 1)) + 1) = nearV a b := by
        rw [hx.1]
        exact nearV_up a b hb h0 h1 (by rw [hx.2] at hu; exact hu)
      have HN := Lib.hid hn; clear hn
      have HV := Lib.hid hv; clear hv
      have HX := Lib.hid hx; clear hx
      clear hu
      go_enter Try.func26, Try.ntmps26
      go_wp2
      go_quiet (fail)
      go_wp2_with (fail)
      refine (HN.out _ _ _ hl0 hl1 hb2 (cells2 _ _ _ _).1 (cells2 _ _ _ _).2).mono ?_
      rintro e w' ⟨rfl, ⟨nd, rfl⟩⟩
      go_wp2
      go_ret2
      exact ⟨ret2_eq HV.out rfl, pw_below_drewN (below_alloc (below_alloc (Below.refl _ _) _) _) _⟩
    | false =>
      rw [hu] at hn
      have hv : (wrap64 (a.tdiv b - 1)) = nearV a b := by
        rw [hx.1]
        unfold nearV
        rw [hx.2] at hu
        rw [if_neg (by rw [hu]; decide)]
      have HN := Lib.hid hn; clear hn
      have HV := Lib.hid hv; clear hv
      have HX := Lib.hid hx; clear hx
      clear hu
      go_enter Try.func26, Try.ntmps26
      go_wp2
      go_quiet (fail)
      go_wp2_with (fail)
      refine (HN.out _ _ _ hl0 hl1 hb2 (cells2 _ _ _ _).1 (cells2 _ _ _ _).2).mono ?_
      rintro e w' ⟨rfl, ⟨nd, rfl⟩⟩
      go_wp2
      go_ret2
      exact ⟨ret2_eq HV.out rfl, pw_below_drewN (below_alloc (below_alloc (Below.refl _ _) _) _) _⟩
  · have hx := tdiv_ok a b hb (by omega)
    have hl0 : 0 ≤ (a.tmod b) := by rw [hx.2]; exact Int.emod_nonneg _ (by omega)
    have hl1 : (a.tmod b) < b := by rw [hx.2]; exact Int.emod_lt_of_pos _ (by omega)
    have hn := near1 (a.tdiv b) (a.tmod b) a b
    cases hu : nearUp a b (a.tmod b) with
    | true =>
      rw [hu] at hn
      have hv : wrap64 ((a.tdiv b) + 1) = nearV a b := by
        rw [hx.1]
        exact nearV_up a b hb h0 h1 (by rw [hx.2] at hu; exact hu)
      have HN := Lib.hid hn; clear hn
      have HV := Lib.hid hv; clear hv
      have HX := Lib.hid hx; clear hx
      clear hu
      go_enter Try.func26, Try.ntmps26
      go_wp2
      go_quiet (fail)
      go_wp2_with (fail)
      refine (HN.out _ _ _ hl0 hl1 hb2 (cells2 _ _ _ _).1 (cells2 _ _ _ _).2).mono ?_
      rintro e w' ⟨rfl, ⟨nd, rfl⟩⟩
      go_wp2
      go_ret2
      exact ⟨ret2_eq HV.out rfl, pw_below_drewN (below_alloc (below_alloc (Below.refl _ _) _) _) _⟩
    | false =>
      rw [hu] at hn
      have hv : (a.tdiv b) = nearV a b := by
        rw [hx.1]
        unfold nearV
        rw [hx.2] at hu
        rw [if_neg (by rw [hu]; decide)]
      have HN := Lib.hid hn; clear hn
      have HV := Lib.hid hv; clear hv
      have HX := Lib.hid hx; clear hx
      clear hu
      go_enter Try.func26, Try.ntmps26
      go_wp2
      go_quiet (fail)
      go_wp2_with (fail)
      refine (HN.out _ _ _ hl0 hl1 hb2 (cells2 _ _ _ _).1 (cells2 _ _ _ _).2).mono ?_
      rintro e w' ⟨rfl, ⟨nd, rfl⟩⟩
      go_wp2
      go_ret2
      exact ⟨ret2_eq HV.out rfl, pw_below_drewN (below_alloc (below_alloc (Below.refl _ _) _) _) _⟩

def fx_Near.f (a b : Int) : Option (Int × Int) :=
  if -9223372036854775808 ≤ a ∧ a ≤ 9223372036854775807 ∧ b ≤ 9223372036854775807 then (if b < 1 then some (0, 2) else some (nearV a b, 0)) else none

theorem fx_Near.calls (a b r1 r2 : Int) (w : World) (h : fx_Near.f a b = some (r1, r2)) :
    Calls Try.prog 26 #[.int .i64 a, .int .i64 b] w fun e w' => e = .returned (.tuple #[.int .i64 r1, .int .i64 r2]) ∧ Below w.heap.size w w' := by
  unfold fx_Near.f at h
  split at h
  · rename_i hr
    split at h
    · rename_i hb
      simp only [Option.some.injEq, Prod.mk.injEq] at h
      obtain ⟨rfl, rfl⟩ := h
      exact near_low a b w hb
    · simp only [Option.some.injEq, Prod.mk.injEq] at h
      obtain ⟨rfl, rfl⟩ := h
      exact near_pos a b w hr.1 hr.2.1 (by omega) hr.2.2
  · cases h

set_option maxHeartbeats 400000 in
theorem even1 (q l b : Int) (pb : Addr) (w : World) (hl : 0 ≤ l) (hlb : l < b) (hb2 : b ≤ 9223372036854775807)
   (cb : w.cell? pb = some (.int .i64 b)) :
    Calls Try.prog 36 #[.int .i64 q, .int .i64 l, .pointer (some pb)] w fun e w' => e = .returned (.bool (evenUp q b l)) ∧ Drawn0 w w' := by
  have ha1 := and_one_i64 q
  by_cases c1 : b - l < l
  · have hz : evenUp q b l = true := by unfold evenUp; simp; omega
    have HZ := Lib.hid hz; clear hz
    have d1 : decide (b - l < l) = true := by simp; omega
    go_enter Try.func36, Try.ntmps36
    go_wp2
    go_ret
    exact ⟨by rw [HZ.out]; rfl, Drawn0.refl _⟩
  · by_cases c2 : l = b - l
    · by_cases c3 : q % 2 = 1
      · have hz : evenUp q b l = true := by unfold evenUp; simp; omega
        have HZ := Lib.hid hz; clear hz
        have d1 : decide (b - l < l) = false := by simp; omega
        have d2 : (l == b - l) = true := by simp; omega
        have d3 : (q % 2 == 1) = true := by simp; omega
        clear c2 c3
        go_enter Try.func36, Try.ntmps36
        go_wp2
        go_ret
        exact ⟨by rw [HZ.out]; rfl, Drawn0.refl _⟩
      · have hz : evenUp q b l = false := by unfold evenUp; simp; omega
        have HZ := Lib.hid hz; clear hz
        have d1 : decide (b - l < l) = false := by simp; omega
        have d2 : (l == b - l) = true := by simp; omega
        have d3 : (q % 2 == 1) = false := by simp; omega
        clear c2 c3
        go_enter Try.func36, Try.ntmps36
        go_wp2
        go_ret
        exact ⟨by rw [HZ.out]; rfl, Drawn0.refl _⟩
    · have hz : evenUp q b l = false := by unfold evenUp; simp; omega
      have HZ := Lib.hid hz; clear hz
      have d1 : decide (b - l < l) = false := by simp; omega
      have d2 : (l == b - l) = false := by simp; omega
      go_enter Try.func36, Try.ntmps36
      go_wp2
      go_ret
      exact ⟨by rw [HZ.out]; rfl, Drawn0.refl _⟩

def evenV (a b : Int) : Int := if evenUp (a / b) b (a % b) = true then a / b + 1 else a / b
theorem evenV_up (a b : Int) (hb : 1 ≤ b) (h0 : -9223372036854775808 ≤ a) (h1 : a ≤ 9223372036854775807) (h : evenUp (a / b) b (a % b) = true) : wrap64 (a / b + 1) = evenV a b := by
  unfold evenV
  rw [if_pos h]
  have hb2 : 2 ≤ b := by
    unfold evenUp at h
    simp only [decide_eq_true_eq] at h
    have := Int.emod_lt_of_pos a (show 0 < b by omega)
    have := Int.emod_nonneg a (show b ≠ 0 by omega)
    omega
  have e6 : -9223372036854775808 ≤ a / b := (Int.le_ediv_iff_mul_le (show 0 < b by omega)).2 (by omega)
  have e7 : a / b ≤ 4611686018427387904 := by
    have := (Int.ediv_lt_iff_lt_mul (a := a) (b := 4611686018427387905) (show 0 < b by omega)).2 (by omega)
    omega
  unfold wrap64
  omega

set_option maxHeartbeats 400000 in
theorem even_low (a b : Int) (w : World) (hb : b < 1) :
    Calls Try.prog 28 #[.int .i64 a, .int .i64 b] w fun e w' => e = .returned (.tuple #[.int .i64 0, .int .i64 2]) ∧ Below w.heap.size w w' := by
  go_enter Try.func28, Try.ntmps28
  go_wp2
  go_ret2
  exact ⟨rfl, below_alloc (Below.refl _ _) _⟩

set_option maxHeartbeats 400000 in
theorem even_pos (a b : Int) (w : World) (h0 : -9223372036854775808 ≤ a) (h1 : a ≤ 9223372036854775807) (hb : 1 ≤ b) (hb2 : b ≤ 9223372036854775807) :
    Calls Try.prog 28 #[.int .i64 a, .int .i64 b] w fun e w' => e = .returned (.tuple #[.int .i64 (evenV a b), .int .i64 0]) ∧ Below w.heap.size w w' := by
  by_cases hm : a.tmod b < 0
  · have hx := tdiv_fix a b hb hb2 h0 h1 hm
    have hl0 : 0 ≤ (wrap64 (a.tmod b + b)) := by rw [hx.2]; exact Int.emod_nonneg _ (by omega)
    have hl1 : (wrap64 (a.tmod b + b)) < b := by rw [hx.2]; exact Int.emod_lt_of_pos _ (by omega)
    have hn := even1 (wrap64 (a.tdiv b - 1)) (wrap64 (a.tmod b + b)) b
    cases hu : evenUp (wrap64 (a.tdiv b - 1)) b (wrap64 (a.tmod b + b)) with
    | true =>
      rw [hu] at hn
      have hv : wrap64 ((wrap64 (a.tdiv b - 1)) + 1) = evenV a b := by
        rw [hx.1]
        exact evenV_up a b hb h0 h1 (by rw [hx.2, hx.1] at hu; exact hu)
      have HN := Lib.hid hn; clear hn
      have HV := Lib.hid hv; clear hv
      have HX := Lib.hid hx; clear hx
      clear hu
      go_enter Try.func28, Try.ntmps28
      go_wp2
      go_quiet (fail)
      go_wp2_with (fail)
      refine (HN.out _ _ hl0 hl1 hb2 (cells1 _ _ _)).mono ?_
      rintro e w' ⟨rfl, ⟨nd, rfl⟩⟩
      go_wp2
      go_ret2
      exact ⟨ret2_eq HV.out rfl, pw_below_drewN (below_alloc (Below.refl _ _) _) _⟩
    | false =>
      rw [hu] at hn
      have hv : (wrap64 (a.tdiv b - 1)) = evenV a b := by
        rw [hx.1]
        unfold evenV
        rw [hx.2, hx.1] at hu
        rw [if_neg (by rw [hu]; decide)]
      have HN := Lib.hid hn; clear hn
      have HV := Lib.hid hv; clear hv
      have HX := Lib.hid hx; clear hx
      clear hu
      go_enter Try.func28, Try.ntmps28
      go_wp2
      go_quiet (fail)
      go_wp2_with (fail)
      refine (HN.out _ _ hl0 hl1 hb2 (cells1 _ _ _)).mono ?_
      rintro e w' ⟨rfl, ⟨nd, rfl⟩⟩
      go_wp2
      go_ret2
      exact ⟨ret2_eq HV.out rfl, pw_below_drewN (below_alloc (Below.refl _ _) _) _⟩
  · have hx := tdiv_ok a b hb (by omega)
    have hl0 : 0 ≤ (a.tmod b) := by rw [hx.2]; exact Int.emod_nonneg _ (by omega)
    have hl1 : (a.tmod b) < b := by rw [hx.2]; exact Int.emod_lt_of_pos _ (by omega)
    have hn := even1 (a.tdiv b) (a.tmod b) b
    cases hu : evenUp (a.tdiv b) b (a.tmod b) with
    | true =>
      rw [hu] at hn
      have hv : wrap64 ((a.tdiv b) + 1) = evenV a b := by
        rw [hx.1]
        exact evenV_up a b hb h0 h1 (by rw [hx.2, hx.1] at hu; exact hu)
      have HN := Lib.hid hn; clear hn
      have HV := Lib.hid hv; clear hv
      have HX := Lib.hid hx; clear hx
      clear hu
      go_enter Try.func28, Try.ntmps28
      go_wp2
      go_quiet (fail)
      go_wp2_with (fail)
      refine (HN.out _ _ hl0 hl1 hb2 (cells1 _ _ _)).mono ?_
      rintro e w' ⟨rfl, ⟨nd, rfl⟩⟩
      go_wp2
      go_ret2
      exact ⟨ret2_eq HV.out rfl, pw_below_drewN (below_alloc (Below.refl _ _) _) _⟩
    | false =>
      rw [hu] at hn
      have hv : (a.tdiv b) = evenV a b := by
        rw [hx.1]
        unfold evenV
        rw [hx.2, hx.1] at hu
        rw [if_neg (by rw [hu]; decide)]
      have HN := Lib.hid hn; clear hn
      have HV := Lib.hid hv; clear hv
      have HX := Lib.hid hx; clear hx
      clear hu
      go_enter Try.func28, Try.ntmps28
      go_wp2
      go_quiet (fail)
      go_wp2_with (fail)
      refine (HN.out _ _ hl0 hl1 hb2 (cells1 _ _ _)).mono ?_
      rintro e w' ⟨rfl, ⟨nd, rfl⟩⟩
      go_wp2
      go_ret2
      exact ⟨ret2_eq HV.out rfl, pw_below_drewN (below_alloc (Below.refl _ _) _) _⟩

def fx_Even.f (a b : Int) : Option (Int × Int) :=
  if -9223372036854775808 ≤ a ∧ a ≤ 9223372036854775807 ∧ b ≤ 9223372036854775807 then (if b < 1 then some (0, 2) else some (evenV a b, 0)) else none

theorem fx_Even.calls (a b r1 r2 : Int) (w : World) (h : fx_Even.f a b = some (r1, r2)) :
    Calls Try.prog 28 #[.int .i64 a, .int .i64 b] w fun e w' => e = .returned (.tuple #[.int .i64 r1, .int .i64 r2]) ∧ Below w.heap.size w w' := by
  unfold fx_Even.f at h
  split at h
  · rename_i hr
    split at h
    · rename_i hb
      simp only [Option.some.injEq, Prod.mk.injEq] at h
      obtain ⟨rfl, rfl⟩ := h
      exact even_low a b w hb
    · simp only [Option.some.injEq, Prod.mk.injEq] at h
      obtain ⟨rfl, rfl⟩ := h
      exact even_pos a b w hr.1 hr.2.1 (by omega) hr.2.2
  · cases h

end Go.Proofs.Ytfebnnjdkkcphaa.Hand
