/- MBack: what is proved for the claim, part 5: functions' reckonings, and what they give. -/
import Derived.Test.YtnkjblmlchbfkaaMBack4
import Derived.KernelRfl
set_option linter.unusedVariables false
set_option linter.unusedSimpArgs false
/- Qrget -/
namespace Go.Proofs.Ytnkjblmlchbfkaa.Rig
open Go
set_option maxRecDepth 100000 in
theorem tLrget_1 (k : Int) (zl : Bool) (l : List Int) (sign : Bool) (i : Nat) : tidied Trget_1 Urget_1 1 (evCode (mkL Try.prog 0 (fun _ => none) tab22 rowsrget) (evCall (mkC Try.prog 0 (fun _ => none) tab22) 50) 16 1 fuelC (bodyAt Try.prog 16 1) (hdrget_1 ⟨k, zl, l, sign, i⟩)) =
  Tree.br (decide ((i : Int) < k))
    (Tree.br (!zl && decide ((0 : Int) ≤ (i : Int) ∧ (i : Int) < ((List.length l) : Int)))
      (Tree.br (decide (Int.toNat (i : Int) * 1 + 0 + 1 ≤ List.length l))
        (Tree.ret
          (Ex.norm,
            St.mk
              [AV.int IntKind.i64 false k, AV.sl zl (Ref.mk (0) (0) (0) (0)) false (List.length l) Cap.any, AV.bool false sign, AV.junk, AV.junk, AV.junk, AV.junk, AV.junk, AV.junk,
                AV.int IntKind.u64 false
                  (IntKind.wrap IntKind.u64 (IntKind.wrap IntKind.u64 (valZ (List.take i l) * (65536 : Int)) + IntKind.wrap IntKind.u64 (List.getD l (Int.toNat (i : Int) * 1 + 0 + 0) (0 : Int)))),
                AV.int IntKind.i64 false (IntKind.wrap IntKind.i64 ((i : Int) + (1 : Int))), AV.junk, AV.junk, AV.junk, AV.junk, AV.junk, AV.junk, AV.junk, AV.junk, AV.junk, AV.junk, AV.junk, AV.junk, AV.junk, AV.junk, AV.junk, AV.junk, AV.junk,
                AV.junk, AV.junk, AV.junk, AV.junk, AV.junk, AV.junk, AV.junk, AV.junk, AV.junk, AV.junk, AV.junk, AV.junk, AV.junk, AV.junk, AV.junk, AV.junk, AV.junk, AV.junk, AV.junk, AV.junk, AV.junk, AV.junk, AV.junk, AV.junk, AV.junk,
                AV.junk, AV.junk, AV.junk, AV.junk, AV.junk, AV.junk, AV.junk, AV.junk, AV.junk, AV.junk, AV.junk, AV.junk, AV.junk, AV.junk, AV.junk, AV.junk, AV.junk, AV.junk, AV.junk, AV.junk, AV.junk, AV.junk, AV.junk, AV.junk, AV.junk,
                AV.junk, AV.junk, AV.junk, AV.junk]
              [some (Blk.mk (3) false false true (Data.ints IntKind.i64 l))]))
        Tree.fail)
      Tree.fail)
    (Tree.ret
      (Ex.exit (2),
        St.mk
          [AV.int IntKind.i64 false k, AV.sl zl (Ref.mk (0) (0) (0) (0)) false (List.length l) Cap.any, AV.bool false sign, AV.junk, AV.junk, AV.junk, AV.junk, AV.junk, AV.junk,
            AV.int IntKind.u64 false (valZ (List.take i l)), AV.junk, AV.junk, AV.junk, AV.junk, AV.junk, AV.junk, AV.junk, AV.junk, AV.junk, AV.junk, AV.junk, AV.junk, AV.junk, AV.junk, AV.junk, AV.junk, AV.junk, AV.junk, AV.junk,
            AV.junk, AV.junk, AV.junk, AV.junk, AV.junk, AV.junk, AV.junk, AV.junk, AV.junk, AV.junk, AV.junk, AV.junk, AV.junk, AV.junk, AV.junk, AV.junk, AV.junk, AV.junk, AV.junk, AV.junk, AV.junk, AV.junk, AV.junk, AV.junk, AV.junk,
            AV.junk, AV.junk, AV.junk, AV.junk, AV.junk, AV.junk, AV.junk, AV.junk, AV.junk, AV.junk, AV.junk, AV.junk, AV.junk, AV.junk, AV.junk, AV.junk, AV.junk, AV.junk, AV.junk, AV.junk, AV.junk, AV.junk, AV.junk, AV.junk, AV.junk,
            AV.junk, AV.junk, AV.junk]
          [some (Blk.mk (3) false false true (Data.ints IntKind.i64 l))])) := by kernel_rfl
set_option maxRecDepth 100000 in
theorem steprget_1 (k : Int) (zl : Bool) (l : List Int) (sign : Bool) (i : Nat) (ex : Ex) (r : St) (hok : okrget_1 ⟨k, zl, l, sign, i⟩) (hr : (outrget_1 ⟨k, zl, l, sign, i⟩).runs (ex, r)) : (Tree.br (decide ((i : Int) < k))
    (Tree.br (!zl && decide ((0 : Int) ≤ (i : Int) ∧ (i : Int) < ((List.length l) : Int)))
      (Tree.br (decide (Int.toNat (i : Int) * 1 + 0 + 1 ≤ List.length l))
        (Tree.ret
          (Ex.norm,
            St.mk
              [AV.int IntKind.i64 false k, AV.sl zl (Ref.mk (0) (0) (0) (0)) false (List.length l) Cap.any, AV.bool false sign, AV.junk, AV.junk, AV.junk, AV.junk, AV.junk, AV.junk,
                AV.int IntKind.u64 false
                  (IntKind.wrap IntKind.u64 (IntKind.wrap IntKind.u64 (valZ (List.take i l) * (65536 : Int)) + IntKind.wrap IntKind.u64 (List.getD l (Int.toNat (i : Int) * 1 + 0 + 0) (0 : Int)))),
                AV.int IntKind.i64 false (IntKind.wrap IntKind.i64 ((i : Int) + (1 : Int))), AV.junk, AV.junk, AV.junk, AV.junk, AV.junk, AV.junk, AV.junk, AV.junk, AV.junk, AV.junk, AV.junk, AV.junk, AV.junk, AV.junk, AV.junk, AV.junk, AV.junk,
                AV.junk, AV.junk, AV.junk, AV.junk, AV.junk, AV.junk, AV.junk, AV.junk, AV.junk, AV.junk, AV.junk, AV.junk, AV.junk, AV.junk, AV.junk, AV.junk, AV.junk, AV.junk, AV.junk, AV.junk, AV.junk, AV.junk, AV.junk, AV.junk, AV.junk,
                AV.junk, AV.junk, AV.junk, AV.junk, AV.junk, AV.junk, AV.junk, AV.junk, AV.junk, AV.junk, AV.junk, AV.junk, AV.junk, AV.junk, AV.junk, AV.junk, AV.junk, AV.junk, AV.junk, AV.junk, AV.junk, AV.junk, AV.junk, AV.junk, AV.junk,
                AV.junk, AV.junk, AV.junk, AV.junk]
              [some (Blk.mk (3) false false true (Data.ints IntKind.i64 l))]))
        Tree.fail)
      Tree.fail)
    (Tree.ret
      (Ex.exit (2),
        St.mk
          [AV.int IntKind.i64 false k, AV.sl zl (Ref.mk (0) (0) (0) (0)) false (List.length l) Cap.any, AV.bool false sign, AV.junk, AV.junk, AV.junk, AV.junk, AV.junk, AV.junk,
            AV.int IntKind.u64 false (valZ (List.take i l)), AV.junk, AV.junk, AV.junk, AV.junk, AV.junk, AV.junk, AV.junk, AV.junk, AV.junk, AV.junk, AV.junk, AV.junk, AV.junk, AV.junk, AV.junk, AV.junk, AV.junk, AV.junk, AV.junk,
            AV.junk, AV.junk, AV.junk, AV.junk, AV.junk, AV.junk, AV.junk, AV.junk, AV.junk, AV.junk, AV.junk, AV.junk, AV.junk, AV.junk, AV.junk, AV.junk, AV.junk, AV.junk, AV.junk, AV.junk, AV.junk, AV.junk, AV.junk, AV.junk, AV.junk,
            AV.junk, AV.junk, AV.junk, AV.junk, AV.junk, AV.junk, AV.junk, AV.junk, AV.junk, AV.junk, AV.junk, AV.junk, AV.junk, AV.junk, AV.junk, AV.junk, AV.junk, AV.junk, AV.junk, AV.junk, AV.junk, AV.junk, AV.junk, AV.junk, AV.junk,
            AV.junk, AV.junk, AV.junk]
          [some (Blk.mk (3) false false true (Data.ints IntKind.i64 l))])) : Tree (Ex × St)).Sat (Post hdrget_1 resrget_1 murget_1 ⟨k, zl, l, sign, i⟩ ex r) := by
  simp only [okrget_1, outrget_1, Tree.runs] at hok hr
  obtain ⟨h1k, h4k, hs, hz, hl, hi, hb⟩ := hok
  refine Tree.Sat.br (fun h1 => ?_) (fun h1 => ?_)
  · (try simp only [decide_eq_true_eq, decide_eq_false_iff_not, Bool.not_eq_true', Bool.not_eq_false', beq_iff_eq, beq_eq_false_iff_ne, Int.not_lt, Int.not_le, ge_iff_le, gt_iff_lt, ne_eq, Bool.false_eq_true, Bool.true_eq_false, not_true_eq_false, not_false_eq_true, Bool.and_eq_true, Bool.not_eq_eq_eq_not, Bool.not_true, Bool.not_false, bne_iff_ne, bne_eq_false_iff_eq, Int.toNat_natCast, Nat.mul_one, Nat.add_zero, Nat.zero_add, List.take_length, List.drop_zero] at h1)
    all_goals
      refine Tree.Sat.br (fun h2 => ?_) (fun h2 => ?_)
      · (try simp only [decide_eq_true_eq, decide_eq_false_iff_not, Bool.not_eq_true', Bool.not_eq_false', beq_iff_eq, beq_eq_false_iff_ne, Int.not_lt, Int.not_le, ge_iff_le, gt_iff_lt, ne_eq, Bool.false_eq_true, Bool.true_eq_false, not_true_eq_false, not_false_eq_true, Bool.and_eq_true, Bool.not_eq_eq_eq_not, Bool.not_true, Bool.not_false, bne_iff_ne, bne_eq_false_iff_eq, Int.toNat_natCast, Nat.mul_one, Nat.add_zero, Nat.zero_add, List.take_length, List.drop_zero] at h2)
        all_goals
          refine Tree.Sat.br (fun h3 => ?_) (fun h3 => ?_)
          · (try simp only [decide_eq_true_eq, decide_eq_false_iff_not, Bool.not_eq_true', Bool.not_eq_false', beq_iff_eq, beq_eq_false_iff_ne, Int.not_lt, Int.not_le, ge_iff_le, gt_iff_lt, ne_eq, Bool.false_eq_true, Bool.true_eq_false, not_true_eq_false, not_false_eq_true, Bool.and_eq_true, Bool.not_eq_eq_eq_not, Bool.not_true, Bool.not_false, bne_iff_ne, bne_eq_false_iff_eq, Int.toNat_natCast, Nat.mul_one, Nat.add_zero, Nat.zero_add, List.take_length, List.drop_zero] at h3)
            all_goals
              refine Tree.Sat.ret ?_
              refine .norm ⟨k, zl, l, sign, i + 1⟩ ?_ ?_ ⟨?_, ?_⟩
              · constructor <;> simp only [hdrget_1, AV.leL, AV.le, Mem.le, Mem.leP, Blk.le, Blk.pad, Data.le, Data.size, Cap.le, and_true, true_and, and_self, true_implies, implies_true, imp_self, List.length_nil] <;> (repeat' with_reducible refine And.intro ?_ ?_) <;> (try simp only [Int.toNat_natCast, Nat.mul_one, Nat.add_zero, Nat.zero_add]) <;> first | exact wadd1 (by omega) | exact val_stepR (by omega) (by omega) (any_take_le (by omega) hb)
              · simp only [murget_1]; omega
              · exact ⟨h1k, h4k, hs, hz, hl, by omega, hb⟩
              · exact hr
          · (try simp only [decide_eq_true_eq, decide_eq_false_iff_not, Bool.not_eq_true', Bool.not_eq_false', beq_iff_eq, beq_eq_false_iff_ne, Int.not_lt, Int.not_le, ge_iff_le, gt_iff_lt, ne_eq, Bool.false_eq_true, Bool.true_eq_false, not_true_eq_false, not_false_eq_true, Bool.and_eq_true, Bool.not_eq_eq_eq_not, Bool.not_true, Bool.not_false, bne_iff_ne, bne_eq_false_iff_eq, Int.toNat_natCast, Nat.mul_one, Nat.add_zero, Nat.zero_add, List.take_length, List.drop_zero] at h3)
            all_goals
              exfalso
              first | omega | (simp only [most48, Data.size, List.length_take, List.drop_zero, Bool.and_eq_true, decide_eq_true_eq, decide_eq_false_iff_not, Bool.and_eq_false_iff, Int.toNat_natCast] at *; omega) | (simp only [w64] at *; omega) | (simp only [most48] at *; omega) | (simp [Data.size, List.take_length] at *; done) | (cases zl <;> simp_all; done) | (cases zl <;> simp_all <;> omega)
      · (try simp only [decide_eq_true_eq, decide_eq_false_iff_not, Bool.not_eq_true', Bool.not_eq_false', beq_iff_eq, beq_eq_false_iff_ne, Int.not_lt, Int.not_le, ge_iff_le, gt_iff_lt, ne_eq, Bool.false_eq_true, Bool.true_eq_false, not_true_eq_false, not_false_eq_true, Bool.and_eq_true, Bool.not_eq_eq_eq_not, Bool.not_true, Bool.not_false, bne_iff_ne, bne_eq_false_iff_eq, Int.toNat_natCast, Nat.mul_one, Nat.add_zero, Nat.zero_add, List.take_length, List.drop_zero] at h2)
        all_goals
          exfalso
          first | omega | (simp only [most48, Data.size, List.length_take, List.drop_zero, Bool.and_eq_true, decide_eq_true_eq, decide_eq_false_iff_not, Bool.and_eq_false_iff, Int.toNat_natCast] at *; omega) | (simp only [w64] at *; omega) | (simp only [most48] at *; omega) | (simp [Data.size, List.take_length] at *; done) | (cases zl <;> simp_all; done) | (cases zl <;> simp_all <;> omega)
  · (try simp only [decide_eq_true_eq, decide_eq_false_iff_not, Bool.not_eq_true', Bool.not_eq_false', beq_iff_eq, beq_eq_false_iff_ne, Int.not_lt, Int.not_le, ge_iff_le, gt_iff_lt, ne_eq, Bool.false_eq_true, Bool.true_eq_false, not_true_eq_false, not_false_eq_true, Bool.and_eq_true, Bool.not_eq_eq_eq_not, Bool.not_true, Bool.not_false, bne_iff_ne, bne_eq_false_iff_eq, Int.toNat_natCast, Nat.mul_one, Nat.add_zero, Nat.zero_add, List.take_length, List.drop_zero] at h1)
    all_goals
      refine Tree.Sat.ret ?_
      have hq := hr
      simp only [Prod.mk.injEq] at hq
      obtain ⟨rfl, rfl⟩ := hq
      refine .exit rfl ?_
      constructor <;> simp only [AV.leL, AV.le, Mem.le, Mem.leP, Blk.le, Blk.pad, Data.le, Data.size, Cap.le, and_true, true_and, and_self, true_implies, implies_true, imp_self, List.length_nil] <;> (repeat' with_reducible refine And.intro ?_ ?_) <;> (try simp only [Int.toNat_natCast, Nat.mul_one, Nat.add_zero, Nat.zero_add]) <;> rw [show i = k.toNat by omega]
theorem looprget_1 (hall : AllOk Try.prog 0 (fun _ => none) tab22) : LoopOk (mkL Try.prog 0 (fun _ => none) tab22 rowsrget) 16 1 (bodyAt Try.prog 16 1) := by
  have hkey : Code.key (bodyAt Try.prog 16 1) = 12 := by kernel_rfl
  have hin : loopsIn (bodyAt Try.prog 16 1) = [] := by kernel_rfl
  have hrow : lookL rowsrget 16 (Code.key (bodyAt Try.prog 16 1)) = some rowrget_1 := by rw [hkey]; rfl
  refine loop_rowP (X := Xrget_1) (row := rowrget_1) hall mix hrow (fun b hb _ => by rw [hin] at hb; cases hb) Urget_1 hdrget_1 resrget_1 murget_1 (fun st ex r h => ?_) (fun x ex r hr => ?_)
  · have h' : (ansrget_1 st).runs (ex, r) := h
    unfold ansrget_1 at h'
    split at h'
    · obtain ⟨q1, q2⟩ := Tree.chk_runs h'
      exact ⟨_, q1, q2⟩
    · exact h'.elim
  · obtain ⟨k, zl, l, sign, i⟩ := x
    have := steprget_1 k zl l sign i ex r hr.1 hr.2
    rw [← tLrget_1] at this
    exact this
set_option maxRecDepth 100000 in
theorem tLrget_0 (k : Int) (zl : Bool) (l : List Int) (sign : Bool) (i : Nat) : tidied Trget_0 Urget_0 1 (evCode (mkL Try.prog 0 (fun _ => none) tab22 rowsrget) (evCall (mkC Try.prog 0 (fun _ => none) tab22) 50) 16 1 fuelC (bodyAt Try.prog 16 0) (hdrget_0 ⟨k, zl, l, sign, i⟩)) =
  Tree.br (decide ((i : Int) < ((List.length l) : Int)))
    (Tree.br (decide ((i : Int) < k))
      (Tree.br (!zl && decide ((0 : Int) ≤ (i : Int) ∧ (i : Int) < ((List.length l) : Int)))
        (Tree.br (decide (Int.toNat (i : Int) * 1 + 0 + 1 ≤ List.length l))
          (Tree.br (decide (List.getD l (Int.toNat (i : Int) * 1 + 0 + 0) (0 : Int) < (0 : Int)))
            (Tree.ret
              (Ex.ret,
                St.mk
                  [AV.junk, AV.junk, AV.junk, AV.junk, AV.junk, AV.junk, AV.int IntKind.i64 true (0 : Int), AV.int IntKind.i64 true (2 : Int), AV.junk, AV.junk, AV.junk, AV.junk, AV.junk, AV.junk, AV.junk, AV.junk, AV.junk, AV.junk, AV.junk,
                    AV.junk, AV.junk, AV.junk, AV.junk, AV.junk, AV.junk, AV.junk, AV.junk, AV.junk, AV.junk, AV.junk, AV.junk, AV.junk, AV.junk, AV.junk, AV.junk, AV.junk, AV.junk, AV.junk, AV.junk, AV.junk, AV.junk, AV.junk, AV.junk,
                    AV.junk, AV.junk, AV.junk, AV.junk, AV.junk, AV.junk, AV.junk, AV.junk, AV.junk, AV.junk, AV.junk, AV.junk, AV.junk, AV.junk, AV.junk, AV.junk, AV.junk, AV.junk, AV.junk, AV.junk, AV.junk, AV.junk, AV.junk, AV.junk,
                    AV.junk, AV.junk, AV.junk, AV.junk, AV.junk, AV.junk, AV.junk, AV.junk, AV.junk, AV.junk, AV.junk, AV.junk, AV.junk, AV.junk, AV.junk]
                  [some (Blk.mk (3) false false true (Data.ints IntKind.i64 l))]))
            (Tree.br (!zl && decide ((0 : Int) ≤ (i : Int) ∧ (i : Int) < ((List.length l) : Int)))
              (Tree.br (decide (Int.toNat (i : Int) * 1 + 0 + 1 ≤ List.length l))
                (Tree.br (decide (List.getD l (Int.toNat (i : Int) * 1 + 0 + 0) (0 : Int) > (65535 : Int)))
                  (Tree.ret
                    (Ex.ret,
                      St.mk
                        [AV.junk, AV.junk, AV.junk, AV.junk, AV.junk, AV.junk, AV.int IntKind.i64 true (0 : Int), AV.int IntKind.i64 true (2 : Int), AV.junk, AV.junk, AV.junk, AV.junk, AV.junk, AV.junk, AV.junk, AV.junk, AV.junk, AV.junk,
                          AV.junk, AV.junk, AV.junk, AV.junk, AV.junk, AV.junk, AV.junk, AV.junk, AV.junk, AV.junk, AV.junk, AV.junk, AV.junk, AV.junk, AV.junk, AV.junk, AV.junk, AV.junk, AV.junk, AV.junk, AV.junk, AV.junk, AV.junk, AV.junk,
                          AV.junk, AV.junk, AV.junk, AV.junk, AV.junk, AV.junk, AV.junk, AV.junk, AV.junk, AV.junk, AV.junk, AV.junk, AV.junk, AV.junk, AV.junk, AV.junk, AV.junk, AV.junk, AV.junk, AV.junk, AV.junk, AV.junk, AV.junk, AV.junk,
                          AV.junk, AV.junk, AV.junk, AV.junk, AV.junk, AV.junk, AV.junk, AV.junk, AV.junk, AV.junk, AV.junk, AV.junk, AV.junk, AV.junk, AV.junk, AV.junk]
                        [some (Blk.mk (3) false false true (Data.ints IntKind.i64 l))]))
                  (Tree.ret
                    (Ex.norm,
                      St.mk
                        [AV.int IntKind.i64 false k, AV.sl zl (Ref.mk (0) (0) (0) (0)) false (List.length l) Cap.any, AV.bool false sign, AV.junk, AV.junk, AV.junk, AV.junk, AV.junk,
                          AV.int IntKind.i64 false (IntKind.wrap IntKind.i64 ((i : Int) + (1 : Int))), AV.junk, AV.junk, AV.junk, AV.junk, AV.junk, AV.junk, AV.junk, AV.junk, AV.junk, AV.junk, AV.junk, AV.junk, AV.junk, AV.junk, AV.junk, AV.junk,
                          AV.junk, AV.junk, AV.junk, AV.junk, AV.junk, AV.junk, AV.junk, AV.junk, AV.junk, AV.junk, AV.junk, AV.junk, AV.junk, AV.junk, AV.junk, AV.junk, AV.junk, AV.junk, AV.junk, AV.junk, AV.junk, AV.junk, AV.junk, AV.junk,
                          AV.junk, AV.junk, AV.junk, AV.junk, AV.junk, AV.junk, AV.junk, AV.junk, AV.junk, AV.junk, AV.junk, AV.junk, AV.junk, AV.junk, AV.junk, AV.junk, AV.junk, AV.junk, AV.junk, AV.junk, AV.junk, AV.junk, AV.junk, AV.junk,
                          AV.junk, AV.junk, AV.junk, AV.junk, AV.junk, AV.junk, AV.junk, AV.junk, AV.junk]
                        [some (Blk.mk (3) false false true (Data.ints IntKind.i64 l))])))
                Tree.fail)
              Tree.fail))
          Tree.fail)
        Tree.fail)
      (Tree.ret
        (Ex.exit (0),
          St.mk
            [AV.int IntKind.i64 false k, AV.sl zl (Ref.mk (0) (0) (0) (0)) false (List.length l) Cap.any, AV.bool false sign, AV.junk, AV.junk, AV.junk, AV.junk, AV.junk, AV.junk, AV.junk, AV.junk,
              AV.junk, AV.junk, AV.junk, AV.junk, AV.junk, AV.junk, AV.junk, AV.junk, AV.junk, AV.junk, AV.junk, AV.junk, AV.junk, AV.junk, AV.junk, AV.junk, AV.junk, AV.junk, AV.junk, AV.junk, AV.junk, AV.junk, AV.junk, AV.junk, AV.junk,
              AV.junk, AV.junk, AV.junk, AV.junk, AV.junk, AV.junk, AV.junk, AV.junk, AV.junk, AV.junk, AV.junk, AV.junk, AV.junk, AV.junk, AV.junk, AV.junk, AV.junk, AV.junk, AV.junk, AV.junk, AV.junk, AV.junk, AV.junk, AV.junk, AV.junk,
              AV.junk, AV.junk, AV.junk, AV.junk, AV.junk, AV.junk, AV.junk, AV.junk, AV.junk, AV.junk, AV.junk, AV.junk, AV.junk, AV.junk, AV.junk, AV.junk, AV.junk, AV.junk, AV.junk, AV.junk, AV.junk]
            [some (Blk.mk (3) false false true (Data.ints IntKind.i64 l))])))
    (Tree.ret
      (Ex.exit (0),
        St.mk
          [AV.int IntKind.i64 false k, AV.sl zl (Ref.mk (0) (0) (0) (0)) false (List.length l) Cap.any, AV.bool false sign, AV.junk, AV.junk, AV.junk, AV.junk, AV.junk, AV.junk, AV.junk, AV.junk,
            AV.junk, AV.junk, AV.junk, AV.junk, AV.junk, AV.junk, AV.junk, AV.junk, AV.junk, AV.junk, AV.junk, AV.junk, AV.junk, AV.junk, AV.junk, AV.junk, AV.junk, AV.junk, AV.junk, AV.junk, AV.junk, AV.junk, AV.junk, AV.junk, AV.junk,
            AV.junk, AV.junk, AV.junk, AV.junk, AV.junk, AV.junk, AV.junk, AV.junk, AV.junk, AV.junk, AV.junk, AV.junk, AV.junk, AV.junk, AV.junk, AV.junk, AV.junk, AV.junk, AV.junk, AV.junk, AV.junk, AV.junk, AV.junk, AV.junk, AV.junk,
            AV.junk, AV.junk, AV.junk, AV.junk, AV.junk, AV.junk, AV.junk, AV.junk, AV.junk, AV.junk, AV.junk, AV.junk, AV.junk, AV.junk, AV.junk, AV.junk, AV.junk, AV.junk, AV.junk, AV.junk, AV.junk]
          [some (Blk.mk (3) false false true (Data.ints IntKind.i64 l))])) := by kernel_rfl
set_option maxRecDepth 100000 in
theorem steprget_0 (k : Int) (zl : Bool) (l : List Int) (sign : Bool) (i : Nat) (ex : Ex) (r : St) (hok : okrget_0 ⟨k, zl, l, sign, i⟩) (hr : (outrget_0 ⟨k, zl, l, sign, i⟩).runs (ex, r)) : (Tree.br (decide ((i : Int) < ((List.length l) : Int)))
    (Tree.br (decide ((i : Int) < k))
      (Tree.br (!zl && decide ((0 : Int) ≤ (i : Int) ∧ (i : Int) < ((List.length l) : Int)))
        (Tree.br (decide (Int.toNat (i : Int) * 1 + 0 + 1 ≤ List.length l))
          (Tree.br (decide (List.getD l (Int.toNat (i : Int) * 1 + 0 + 0) (0 : Int) < (0 : Int)))
            (Tree.ret
              (Ex.ret,
                St.mk
                  [AV.junk, AV.junk, AV.junk, AV.junk, AV.junk, AV.junk, AV.int IntKind.i64 true (0 : Int), AV.int IntKind.i64 true (2 : Int), AV.junk, AV.junk, AV.junk, AV.junk, AV.junk, AV.junk, AV.junk, AV.junk, AV.junk, AV.junk, AV.junk,
                    AV.junk, AV.junk, AV.junk, AV.junk, AV.junk, AV.junk, AV.junk, AV.junk, AV.junk, AV.junk, AV.junk, AV.junk, AV.junk, AV.junk, AV.junk, AV.junk, AV.junk, AV.junk, AV.junk, AV.junk, AV.junk, AV.junk, AV.junk, AV.junk,
                    AV.junk, AV.junk, AV.junk, AV.junk, AV.junk, AV.junk, AV.junk, AV.junk, AV.junk, AV.junk, AV.junk, AV.junk, AV.junk, AV.junk, AV.junk, AV.junk, AV.junk, AV.junk, AV.junk, AV.junk, AV.junk, AV.junk, AV.junk, AV.junk,
                    AV.junk, AV.junk, AV.junk, AV.junk, AV.junk, AV.junk, AV.junk, AV.junk, AV.junk, AV.junk, AV.junk, AV.junk, AV.junk, AV.junk, AV.junk]
                  [some (Blk.mk (3) false false true (Data.ints IntKind.i64 l))]))
            (Tree.br (!zl && decide ((0 : Int) ≤ (i : Int) ∧ (i : Int) < ((List.length l) : Int)))
              (Tree.br (decide (Int.toNat (i : Int) * 1 + 0 + 1 ≤ List.length l))
                (Tree.br (decide (List.getD l (Int.toNat (i : Int) * 1 + 0 + 0) (0 : Int) > (65535 : Int)))
                  (Tree.ret
                    (Ex.ret,
                      St.mk
                        [AV.junk, AV.junk, AV.junk, AV.junk, AV.junk, AV.junk, AV.int IntKind.i64 true (0 : Int), AV.int IntKind.i64 true (2 : Int), AV.junk, AV.junk, AV.junk, AV.junk, AV.junk, AV.junk, AV.junk, AV.junk, AV.junk, AV.junk,
                          AV.junk, AV.junk, AV.junk, AV.junk, AV.junk, AV.junk, AV.junk, AV.junk, AV.junk, AV.junk, AV.junk, AV.junk, AV.junk, AV.junk, AV.junk, AV.junk, AV.junk, AV.junk, AV.junk, AV.junk, AV.junk, AV.junk, AV.junk, AV.junk,
                          AV.junk, AV.junk, AV.junk, AV.junk, AV.junk, AV.junk, AV.junk, AV.junk, AV.junk, AV.junk, AV.junk, AV.junk, AV.junk, AV.junk, AV.junk, AV.junk, AV.junk, AV.junk, AV.junk, AV.junk, AV.junk, AV.junk, AV.junk, AV.junk,
                          AV.junk, AV.junk, AV.junk, AV.junk, AV.junk, AV.junk, AV.junk, AV.junk, AV.junk, AV.junk, AV.junk, AV.junk, AV.junk, AV.junk, AV.junk, AV.junk]
                        [some (Blk.mk (3) false false true (Data.ints IntKind.i64 l))]))
                  (Tree.ret
                    (Ex.norm,
                      St.mk
                        [AV.int IntKind.i64 false k, AV.sl zl (Ref.mk (0) (0) (0) (0)) false (List.length l) Cap.any, AV.bool false sign, AV.junk, AV.junk, AV.junk, AV.junk, AV.junk,
                          AV.int IntKind.i64 false (IntKind.wrap IntKind.i64 ((i : Int) + (1 : Int))), AV.junk, AV.junk, AV.junk, AV.junk, AV.junk, AV.junk, AV.junk, AV.junk, AV.junk, AV.junk, AV.junk, AV.junk, AV.junk, AV.junk, AV.junk, AV.junk,
                          AV.junk, AV.junk, AV.junk, AV.junk, AV.junk, AV.junk, AV.junk, AV.junk, AV.junk, AV.junk, AV.junk, AV.junk, AV.junk, AV.junk, AV.junk, AV.junk, AV.junk, AV.junk, AV.junk, AV.junk, AV.junk, AV.junk, AV.junk, AV.junk,
                          AV.junk, AV.junk, AV.junk, AV.junk, AV.junk, AV.junk, AV.junk, AV.junk, AV.junk, AV.junk, AV.junk, AV.junk, AV.junk, AV.junk, AV.junk, AV.junk, AV.junk, AV.junk, AV.junk, AV.junk, AV.junk, AV.junk, AV.junk, AV.junk,
                          AV.junk, AV.junk, AV.junk, AV.junk, AV.junk, AV.junk, AV.junk, AV.junk, AV.junk]
                        [some (Blk.mk (3) false false true (Data.ints IntKind.i64 l))])))
                Tree.fail)
              Tree.fail))
          Tree.fail)
        Tree.fail)
      (Tree.ret
        (Ex.exit (0),
          St.mk
            [AV.int IntKind.i64 false k, AV.sl zl (Ref.mk (0) (0) (0) (0)) false (List.length l) Cap.any, AV.bool false sign, AV.junk, AV.junk, AV.junk, AV.junk, AV.junk, AV.junk, AV.junk, AV.junk,
              AV.junk, AV.junk, AV.junk, AV.junk, AV.junk, AV.junk, AV.junk, AV.junk, AV.junk, AV.junk, AV.junk, AV.junk, AV.junk, AV.junk, AV.junk, AV.junk, AV.junk, AV.junk, AV.junk, AV.junk, AV.junk, AV.junk, AV.junk, AV.junk, AV.junk,
              AV.junk, AV.junk, AV.junk, AV.junk, AV.junk, AV.junk, AV.junk, AV.junk, AV.junk, AV.junk, AV.junk, AV.junk, AV.junk, AV.junk, AV.junk, AV.junk, AV.junk, AV.junk, AV.junk, AV.junk, AV.junk, AV.junk, AV.junk, AV.junk, AV.junk,
              AV.junk, AV.junk, AV.junk, AV.junk, AV.junk, AV.junk, AV.junk, AV.junk, AV.junk, AV.junk, AV.junk, AV.junk, AV.junk, AV.junk, AV.junk, AV.junk, AV.junk, AV.junk, AV.junk, AV.junk, AV.junk]
            [some (Blk.mk (3) false false true (Data.ints IntKind.i64 l))])))
    (Tree.ret
      (Ex.exit (0),
        St.mk
          [AV.int IntKind.i64 false k, AV.sl zl (Ref.mk (0) (0) (0) (0)) false (List.length l) Cap.any, AV.bool false sign, AV.junk, AV.junk, AV.junk, AV.junk, AV.junk, AV.junk, AV.junk, AV.junk,
            AV.junk, AV.junk, AV.junk, AV.junk, AV.junk, AV.junk, AV.junk, AV.junk, AV.junk, AV.junk, AV.junk, AV.junk, AV.junk, AV.junk, AV.junk, AV.junk, AV.junk, AV.junk, AV.junk, AV.junk, AV.junk, AV.junk, AV.junk, AV.junk, AV.junk,
            AV.junk, AV.junk, AV.junk, AV.junk, AV.junk, AV.junk, AV.junk, AV.junk, AV.junk, AV.junk, AV.junk, AV.junk, AV.junk, AV.junk, AV.junk, AV.junk, AV.junk, AV.junk, AV.junk, AV.junk, AV.junk, AV.junk, AV.junk, AV.junk, AV.junk,
            AV.junk, AV.junk, AV.junk, AV.junk, AV.junk, AV.junk, AV.junk, AV.junk, AV.junk, AV.junk, AV.junk, AV.junk, AV.junk, AV.junk, AV.junk, AV.junk, AV.junk, AV.junk, AV.junk, AV.junk, AV.junk]
          [some (Blk.mk (3) false false true (Data.ints IntKind.i64 l))])) : Tree (Ex × St)).Sat (Post hdrget_0 resrget_0 murget_0 ⟨k, zl, l, sign, i⟩ ex r) := by
  simp only [okrget_0, outrget_0, Tree.runs] at hok hr
  obtain ⟨h1k, h4k, hs, hz, hi, hik, ha⟩ := hok
  simp only [short] at hs
  refine Tree.Sat.br (fun h1 => ?_) (fun h1 => ?_)
  · (try simp only [decide_eq_true_eq, decide_eq_false_iff_not, Bool.not_eq_true', Bool.not_eq_false', beq_iff_eq, beq_eq_false_iff_ne, Int.not_lt, Int.not_le, ge_iff_le, gt_iff_lt, ne_eq, Bool.false_eq_true, Bool.true_eq_false, not_true_eq_false, not_false_eq_true, Bool.and_eq_true, Bool.not_eq_eq_eq_not, Bool.not_true, Bool.not_false, bne_iff_ne, bne_eq_false_iff_eq, Int.toNat_natCast, Nat.mul_one, Nat.add_zero, Nat.zero_add, List.take_length, List.drop_zero] at h1)
    all_goals
      refine Tree.Sat.br (fun h2 => ?_) (fun h2 => ?_)
      · (try simp only [decide_eq_true_eq, decide_eq_false_iff_not, Bool.not_eq_true', Bool.not_eq_false', beq_iff_eq, beq_eq_false_iff_ne, Int.not_lt, Int.not_le, ge_iff_le, gt_iff_lt, ne_eq, Bool.false_eq_true, Bool.true_eq_false, not_true_eq_false, not_false_eq_true, Bool.and_eq_true, Bool.not_eq_eq_eq_not, Bool.not_true, Bool.not_false, bne_iff_ne, bne_eq_false_iff_eq, Int.toNat_natCast, Nat.mul_one, Nat.add_zero, Nat.zero_add, List.take_length, List.drop_zero] at h2)
        all_goals
          refine Tree.Sat.br (fun h3 => ?_) (fun h3 => ?_)
          · (try simp only [decide_eq_true_eq, decide_eq_false_iff_not, Bool.not_eq_true', Bool.not_eq_false', beq_iff_eq, beq_eq_false_iff_ne, Int.not_lt, Int.not_le, ge_iff_le, gt_iff_lt, ne_eq, Bool.false_eq_true, Bool.true_eq_false, not_true_eq_false, not_false_eq_true, Bool.and_eq_true, Bool.not_eq_eq_eq_not, Bool.not_true, Bool.not_false, bne_iff_ne, bne_eq_false_iff_eq, Int.toNat_natCast, Nat.mul_one, Nat.add_zero, Nat.zero_add, List.take_length, List.drop_zero] at h3)
            all_goals
              refine Tree.Sat.br (fun h4 => ?_) (fun h4 => ?_)
              · (try simp only [decide_eq_true_eq, decide_eq_false_iff_not, Bool.not_eq_true', Bool.not_eq_false', beq_iff_eq, beq_eq_false_iff_ne, Int.not_lt, Int.not_le, ge_iff_le, gt_iff_lt, ne_eq, Bool.false_eq_true, Bool.true_eq_false, not_true_eq_false, not_false_eq_true, Bool.and_eq_true, Bool.not_eq_eq_eq_not, Bool.not_true, Bool.not_false, bne_iff_ne, bne_eq_false_iff_eq, Int.toNat_natCast, Nat.mul_one, Nat.add_zero, Nat.zero_add, List.take_length, List.drop_zero] at h4)
                all_goals
                  refine Tree.Sat.br (fun h5 => ?_) (fun h5 => ?_)
                  · (try simp only [decide_eq_true_eq, decide_eq_false_iff_not, Bool.not_eq_true', Bool.not_eq_false', beq_iff_eq, beq_eq_false_iff_ne, Int.not_lt, Int.not_le, ge_iff_le, gt_iff_lt, ne_eq, Bool.false_eq_true, Bool.true_eq_false, not_true_eq_false, not_false_eq_true, Bool.and_eq_true, Bool.not_eq_eq_eq_not, Bool.not_true, Bool.not_false, bne_iff_ne, bne_eq_false_iff_eq, Int.toNat_natCast, Nat.mul_one, Nat.add_zero, Nat.zero_add, List.take_length, List.drop_zero] at h5)
                    all_goals
                      refine Tree.Sat.ret ?_
                      have hq := hr.1 (any_hit_take (i := i) (by omega) (by omega) (by simp only [badW, Bool.or_eq_true, decide_eq_true_eq]; omega))
                      simp only [Prod.mk.injEq] at hq
                      obtain ⟨rfl, rfl⟩ := hq
                      refine .ret rfl ?_
                      constructor <;> simp only [AV.leL, AV.le, Mem.le, Mem.leP, Blk.le, Blk.pad, Data.le, Data.size, Cap.le, and_true, true_and, and_self, true_implies, implies_true, imp_self, List.length_nil] <;> (repeat' with_reducible refine And.intro ?_ ?_) <;> (try simp only [Int.toNat_natCast, Nat.mul_one, Nat.add_zero, Nat.zero_add]) <;> done
                  · (try simp only [decide_eq_true_eq, decide_eq_false_iff_not, Bool.not_eq_true', Bool.not_eq_false', beq_iff_eq, beq_eq_false_iff_ne, Int.not_lt, Int.not_le, ge_iff_le, gt_iff_lt, ne_eq, Bool.false_eq_true, Bool.true_eq_false, not_true_eq_false, not_false_eq_true, Bool.and_eq_true, Bool.not_eq_eq_eq_not, Bool.not_true, Bool.not_false, bne_iff_ne, bne_eq_false_iff_eq, Int.toNat_natCast, Nat.mul_one, Nat.add_zero, Nat.zero_add, List.take_length, List.drop_zero] at h5)
                    all_goals
                      refine Tree.Sat.br (fun h6 => ?_) (fun h6 => ?_)
                      · (try simp only [decide_eq_true_eq, decide_eq_false_iff_not, Bool.not_eq_true', Bool.not_eq_false', beq_iff_eq, beq_eq_false_iff_ne, Int.not_lt, Int.not_le, ge_iff_le, gt_iff_lt, ne_eq, Bool.false_eq_true, Bool.true_eq_false, not_true_eq_false, not_false_eq_true, Bool.and_eq_true, Bool.not_eq_eq_eq_not, Bool.not_true, Bool.not_false, bne_iff_ne, bne_eq_false_iff_eq, Int.toNat_natCast, Nat.mul_one, Nat.add_zero, Nat.zero_add, List.take_length, List.drop_zero] at h6)
                        all_goals
                          refine Tree.Sat.br (fun h7 => ?_) (fun h7 => ?_)
                          · (try simp only [decide_eq_true_eq, decide_eq_false_iff_not, Bool.not_eq_true', Bool.not_eq_false', beq_iff_eq, beq_eq_false_iff_ne, Int.not_lt, Int.not_le, ge_iff_le, gt_iff_lt, ne_eq, Bool.false_eq_true, Bool.true_eq_false, not_true_eq_false, not_false_eq_true, Bool.and_eq_true, Bool.not_eq_eq_eq_not, Bool.not_true, Bool.not_false, bne_iff_ne, bne_eq_false_iff_eq, Int.toNat_natCast, Nat.mul_one, Nat.add_zero, Nat.zero_add, List.take_length, List.drop_zero] at h7)
                            all_goals
                              refine Tree.Sat.br (fun h8 => ?_) (fun h8 => ?_)
                              · (try simp only [decide_eq_true_eq, decide_eq_false_iff_not, Bool.not_eq_true', Bool.not_eq_false', beq_iff_eq, beq_eq_false_iff_ne, Int.not_lt, Int.not_le, ge_iff_le, gt_iff_lt, ne_eq, Bool.false_eq_true, Bool.true_eq_false, not_true_eq_false, not_false_eq_true, Bool.and_eq_true, Bool.not_eq_eq_eq_not, Bool.not_true, Bool.not_false, bne_iff_ne, bne_eq_false_iff_eq, Int.toNat_natCast, Nat.mul_one, Nat.add_zero, Nat.zero_add, List.take_length, List.drop_zero] at h8)
                                all_goals
                                  refine Tree.Sat.ret ?_
                                  have hq := hr.1 (any_hit_take (i := i) (by omega) (by omega) (by simp only [badW, Bool.or_eq_true, decide_eq_true_eq]; omega))
                                  simp only [Prod.mk.injEq] at hq
                                  obtain ⟨rfl, rfl⟩ := hq
                                  refine .ret rfl ?_
                                  constructor <;> simp only [AV.leL, AV.le, Mem.le, Mem.leP, Blk.le, Blk.pad, Data.le, Data.size, Cap.le, and_true, true_and, and_self, true_implies, implies_true, imp_self, List.length_nil] <;> (repeat' with_reducible refine And.intro ?_ ?_) <;> (try simp only [Int.toNat_natCast, Nat.mul_one, Nat.add_zero, Nat.zero_add]) <;> done
                              · (try simp only [decide_eq_true_eq, decide_eq_false_iff_not, Bool.not_eq_true', Bool.not_eq_false', beq_iff_eq, beq_eq_false_iff_ne, Int.not_lt, Int.not_le, ge_iff_le, gt_iff_lt, ne_eq, Bool.false_eq_true, Bool.true_eq_false, not_true_eq_false, not_false_eq_true, Bool.and_eq_true, Bool.not_eq_eq_eq_not, Bool.not_true, Bool.not_false, bne_iff_ne, bne_eq_false_iff_eq, Int.toNat_natCast, Nat.mul_one, Nat.add_zero, Nat.zero_add, List.take_length, List.drop_zero] at h8)
                                all_goals
                                  refine Tree.Sat.ret ?_
                                  refine .norm ⟨k, zl, l, sign, i + 1⟩ ?_ ?_ ⟨?_, ?_⟩
                                  · constructor <;> simp only [hdrget_0, AV.leL, AV.le, Mem.le, Mem.leP, Blk.le, Blk.pad, Data.le, Data.size, Cap.le, and_true, true_and, and_self, true_implies, implies_true, imp_self, List.length_nil] <;> (repeat' with_reducible refine And.intro ?_ ?_) <;> (try simp only [Int.toNat_natCast, Nat.mul_one, Nat.add_zero, Nat.zero_add]) <;> first | exact wadd1 (by omega) | omega
                                  · simp only [murget_0]; omega
                                  · exact ⟨h1k, h4k, hs, hz, by omega, by omega, any_take_succ (by omega) ha (by simp only [badW, Bool.or_eq_false_iff, decide_eq_false_iff_not]; omega)⟩
                                  · exact hr
                          · (try simp only [decide_eq_true_eq, decide_eq_false_iff_not, Bool.not_eq_true', Bool.not_eq_false', beq_iff_eq, beq_eq_false_iff_ne, Int.not_lt, Int.not_le, ge_iff_le, gt_iff_lt, ne_eq, Bool.false_eq_true, Bool.true_eq_false, not_true_eq_false, not_false_eq_true, Bool.and_eq_true, Bool.not_eq_eq_eq_not, Bool.not_true, Bool.not_false, bne_iff_ne, bne_eq_false_iff_eq, Int.toNat_natCast, Nat.mul_one, Nat.add_zero, Nat.zero_add, List.take_length, List.drop_zero] at h7)
                            all_goals
                              exfalso
                              first | omega | (simp only [most48, Data.size, List.length_take, List.drop_zero, Bool.and_eq_true, decide_eq_true_eq, decide_eq_false_iff_not, Bool.and_eq_false_iff, Int.toNat_natCast] at *; omega) | (simp only [w64] at *; omega) | (simp only [most48] at *; omega) | (simp [Data.size, List.take_length] at *; done) | (cases zl <;> simp_all; done) | (cases zl <;> simp_all <;> omega)
                      · (try simp only [decide_eq_true_eq, decide_eq_false_iff_not, Bool.not_eq_true', Bool.not_eq_false', beq_iff_eq, beq_eq_false_iff_ne, Int.not_lt, Int.not_le, ge_iff_le, gt_iff_lt, ne_eq, Bool.false_eq_true, Bool.true_eq_false, not_true_eq_false, not_false_eq_true, Bool.and_eq_true, Bool.not_eq_eq_eq_not, Bool.not_true, Bool.not_false, bne_iff_ne, bne_eq_false_iff_eq, Int.toNat_natCast, Nat.mul_one, Nat.add_zero, Nat.zero_add, List.take_length, List.drop_zero] at h6)
                        all_goals
                          exfalso
                          first | omega | (simp only [most48, Data.size, List.length_take, List.drop_zero, Bool.and_eq_true, decide_eq_true_eq, decide_eq_false_iff_not, Bool.and_eq_false_iff, Int.toNat_natCast] at *; omega) | (simp only [w64] at *; omega) | (simp only [most48] at *; omega) | (simp [Data.size, List.take_length] at *; done) | (cases zl <;> simp_all; done) | (cases zl <;> simp_all <;> omega)
              · (try simp only [decide_eq_true_eq, decide_eq_false_iff_not, Bool.not_eq_true', Bool.not_eq_false', beq_iff_eq, beq_eq_false_iff_ne, Int.not_lt, Int.not_le, ge_iff_le, gt_iff_lt, ne_eq, Bool.false_eq_true, Bool.true_eq_false, not_true_eq_false, not_false_eq_true, Bool.and_eq_true, Bool.not_eq_eq_eq_not, Bool.not_true, Bool.not_false, bne_iff_ne, bne_eq_false_iff_eq, Int.toNat_natCast, Nat.mul_one, Nat.add_zero, Nat.zero_add, List.take_length, List.drop_zero] at h4)
                all_goals
                  exfalso
                  first | omega | (simp only [most48, Data.size, List.length_take, List.drop_zero, Bool.and_eq_true, decide_eq_true_eq, decide_eq_false_iff_not, Bool.and_eq_false_iff, Int.toNat_natCast] at *; omega) | (simp only [w64] at *; omega) | (simp only [most48] at *; omega) | (simp [Data.size, List.take_length] at *; done) | (cases zl <;> simp_all; done) | (cases zl <;> simp_all <;> omega)
          · (try simp only [decide_eq_true_eq, decide_eq_false_iff_not, Bool.not_eq_true', Bool.not_eq_false', beq_iff_eq, beq_eq_false_iff_ne, Int.not_lt, Int.not_le, ge_iff_le, gt_iff_lt, ne_eq, Bool.false_eq_true, Bool.true_eq_false, not_true_eq_false, not_false_eq_true, Bool.and_eq_true, Bool.not_eq_eq_eq_not, Bool.not_true, Bool.not_false, bne_iff_ne, bne_eq_false_iff_eq, Int.toNat_natCast, Nat.mul_one, Nat.add_zero, Nat.zero_add, List.take_length, List.drop_zero] at h3)
            all_goals
              exfalso
              first | omega | (simp only [most48, Data.size, List.length_take, List.drop_zero, Bool.and_eq_true, decide_eq_true_eq, decide_eq_false_iff_not, Bool.and_eq_false_iff, Int.toNat_natCast] at *; omega) | (simp only [w64] at *; omega) | (simp only [most48] at *; omega) | (simp [Data.size, List.take_length] at *; done) | (cases zl <;> simp_all; done) | (cases zl <;> simp_all <;> omega)
      · (try simp only [decide_eq_true_eq, decide_eq_false_iff_not, Bool.not_eq_true', Bool.not_eq_false', beq_iff_eq, beq_eq_false_iff_ne, Int.not_lt, Int.not_le, ge_iff_le, gt_iff_lt, ne_eq, Bool.false_eq_true, Bool.true_eq_false, not_true_eq_false, not_false_eq_true, Bool.and_eq_true, Bool.not_eq_eq_eq_not, Bool.not_true, Bool.not_false, bne_iff_ne, bne_eq_false_iff_eq, Int.toNat_natCast, Nat.mul_one, Nat.add_zero, Nat.zero_add, List.take_length, List.drop_zero] at h2)
        all_goals
          refine Tree.Sat.ret ?_
          have hq := hr.2 (by rw [show k.toNat = i by omega]; exact ha)
          simp only [Prod.mk.injEq] at hq
          obtain ⟨rfl, rfl⟩ := hq
          refine .exit rfl ?_
          constructor <;> simp only [AV.leL, AV.le, Mem.le, Mem.leP, Blk.le, Blk.pad, Data.le, Data.size, Cap.le, and_true, true_and, and_self, true_implies, implies_true, imp_self, List.length_nil] <;> (repeat' with_reducible refine And.intro ?_ ?_) <;> (try simp only [Int.toNat_natCast, Nat.mul_one, Nat.add_zero, Nat.zero_add]) <;> done
  · (try simp only [decide_eq_true_eq, decide_eq_false_iff_not, Bool.not_eq_true', Bool.not_eq_false', beq_iff_eq, beq_eq_false_iff_ne, Int.not_lt, Int.not_le, ge_iff_le, gt_iff_lt, ne_eq, Bool.false_eq_true, Bool.true_eq_false, not_true_eq_false, not_false_eq_true, Bool.and_eq_true, Bool.not_eq_eq_eq_not, Bool.not_true, Bool.not_false, bne_iff_ne, bne_eq_false_iff_eq, Int.toNat_natCast, Nat.mul_one, Nat.add_zero, Nat.zero_add, List.take_length, List.drop_zero] at h1)
    all_goals
      refine Tree.Sat.ret ?_
      have hq := hr.2 (by rw [List.take_of_length_le (by omega)] at ha ⊢; exact ha)
      simp only [Prod.mk.injEq] at hq
      obtain ⟨rfl, rfl⟩ := hq
      refine .exit rfl ?_
      constructor <;> simp only [AV.leL, AV.le, Mem.le, Mem.leP, Blk.le, Blk.pad, Data.le, Data.size, Cap.le, and_true, true_and, and_self, true_implies, implies_true, imp_self, List.length_nil] <;> (repeat' with_reducible refine And.intro ?_ ?_) <;> (try simp only [Int.toNat_natCast, Nat.mul_one, Nat.add_zero, Nat.zero_add]) <;> done
theorem looprget_0 (hall : AllOk Try.prog 0 (fun _ => none) tab22) : LoopOk (mkL Try.prog 0 (fun _ => none) tab22 rowsrget) 16 1 (bodyAt Try.prog 16 0) := by
  have hkey : Code.key (bodyAt Try.prog 16 0) = 4 := by kernel_rfl
  have hin : loopsIn (bodyAt Try.prog 16 0) = [] := by kernel_rfl
  have hrow : lookL rowsrget 16 (Code.key (bodyAt Try.prog 16 0)) = some rowrget_0 := by rw [hkey]; rfl
  refine loop_rowP (X := Xrget_0) (row := rowrget_0) hall mix hrow (fun b hb _ => by rw [hin] at hb; cases hb) Urget_0 hdrget_0 resrget_0 murget_0 (fun st ex r h => ?_) (fun x ex r hr => ?_)
  · have h' : (ansrget_0 st).runs (ex, r) := h
    unfold ansrget_0 at h'
    split at h'
    · obtain ⟨q1, q2⟩ := Tree.chk_runs h'
      exact ⟨_, q1, q2⟩
    · exact h'.elim
  · obtain ⟨k, zl, l, sign, i⟩ := x
    have := steprget_0 k zl l sign i ex r hr.1 hr.2
    rw [← tLrget_0] at this
    exact this
theorem loopsrget (hall : AllOk Try.prog 0 (fun _ => none) tab22) : ∀ i, i < (loopsAt Try.prog 16).length → LoopOk (mkL Try.prog 0 (fun _ => none) tab22 rowsrget) 16 1 (bodyAt Try.prog 16 i) := by
  intro i hi
  have hlen : (loopsAt Try.prog 16).length = 2 := by kernel_rfl
  rw [hlen] at hi
  obtain rfl | rfl : i = 0 ∨ i = 1 := by omega
  · exact looprget_0 hall
  · exact looprget_1 hall
set_option maxRecDepth 100000 in
theorem trget (k : Int) (zl : Bool) (l : List Int) (sign : Bool) : evBody (mkL Try.prog 0 (fun _ => none) tab22 rowsrget) (evCall (mkC Try.prog 0 (fun _ => none) tab22) 50) 16 [.int .i64 false k, .sl zl ⟨0, 0, 0, 0⟩ false l.length .any, .bool false sign] [some ⟨3, false, false, true, .ints .i64 l⟩] =
  Tree.br (decide (k < (1 : Int))) (Tree.ret (AV.tup [AV.int IntKind.i64 true (0 : Int), AV.int IntKind.i64 true (2 : Int)], [some (Blk.mk (3) false false true (Data.ints IntKind.i64 l))]))
    (Tree.br (decide (k > (4 : Int))) (Tree.ret (AV.tup [AV.int IntKind.i64 true (0 : Int), AV.int IntKind.i64 true (2 : Int)], [some (Blk.mk (3) false false true (Data.ints IntKind.i64 l))]))
      (Tree.chk
        (St.le
          (St.mk
            [AV.int IntKind.i64 false k, AV.sl zl (Ref.mk (0) (0) (0) (0)) false (List.length l) Cap.any, AV.bool false sign, AV.junk, AV.junk, AV.junk, AV.junk, AV.junk,
              AV.int IntKind.i64 true (0 : Int), AV.junk, AV.junk, AV.junk, AV.junk, AV.junk, AV.junk, AV.junk, AV.junk, AV.junk, AV.junk, AV.junk, AV.junk, AV.junk, AV.junk, AV.junk, AV.junk, AV.junk, AV.junk, AV.junk, AV.junk, AV.junk,
              AV.junk, AV.junk, AV.junk, AV.junk, AV.junk, AV.junk, AV.junk, AV.junk, AV.junk, AV.junk, AV.junk, AV.junk, AV.junk, AV.junk, AV.junk, AV.junk, AV.junk, AV.junk, AV.junk, AV.junk, AV.junk, AV.junk, AV.junk, AV.junk, AV.junk,
              AV.junk, AV.junk, AV.junk, AV.junk, AV.junk, AV.junk, AV.junk, AV.junk, AV.junk, AV.junk, AV.junk, AV.junk, AV.junk, AV.junk, AV.junk, AV.junk, AV.junk, AV.junk, AV.junk, AV.junk, AV.junk, AV.junk, AV.junk, AV.junk, AV.junk,
              AV.junk, AV.junk]
            [some (Blk.mk (3) false false true (Data.ints IntKind.i64 l))])
          (St.mk
            [AV.int IntKind.i64 false k, AV.sl zl (Ref.mk (0) (0) (0) (0)) false (List.length l) Cap.any, AV.bool false sign, AV.junk, AV.junk, AV.junk, AV.junk, AV.junk,
              AV.int IntKind.i64 false (0 : Int), AV.junk, AV.junk, AV.junk, AV.junk, AV.junk, AV.junk, AV.junk, AV.junk, AV.junk, AV.junk, AV.junk, AV.junk, AV.junk, AV.junk, AV.junk, AV.junk, AV.junk, AV.junk, AV.junk, AV.junk, AV.junk,
              AV.junk, AV.junk, AV.junk, AV.junk, AV.junk, AV.junk, AV.junk, AV.junk, AV.junk, AV.junk, AV.junk, AV.junk, AV.junk, AV.junk, AV.junk, AV.junk, AV.junk, AV.junk, AV.junk, AV.junk, AV.junk, AV.junk, AV.junk, AV.junk, AV.junk,
              AV.junk, AV.junk, AV.junk, AV.junk, AV.junk, AV.junk, AV.junk, AV.junk, AV.junk, AV.junk, AV.junk, AV.junk, AV.junk, AV.junk, AV.junk, AV.junk, AV.junk, AV.junk, AV.junk, AV.junk, AV.junk, AV.junk, AV.junk, AV.junk, AV.junk,
              AV.junk, AV.junk]
            [some (Blk.mk (3) false false true (Data.ints IntKind.i64 l))]))
        (Tree.chk (okrget_0 (Xrget_0.mk k zl l sign (Int.toNat (0 : Int))))
          (Tree.br (List.any (List.take (Int.toNat k) l) badW) (Tree.ret (AV.tup [AV.int IntKind.i64 true (0 : Int), AV.int IntKind.i64 true (2 : Int)], [some (Blk.mk (3) false false true (Data.ints IntKind.i64 l))]))
            (Tree.br (decide (((List.length l) : Int) < k)) (Tree.ret (AV.tup [AV.int IntKind.i64 true (0 : Int), AV.int IntKind.i64 true (7 : Int)], [some (Blk.mk (3) false false true (Data.ints IntKind.i64 l))]))
              (Tree.chk
                (St.le
                  (St.mk
                    [AV.int IntKind.i64 false k, AV.sl zl (Ref.mk (0) (0) (0) (0)) false (List.length l) Cap.any, AV.bool false sign, AV.junk, AV.junk, AV.junk, AV.junk, AV.junk, AV.junk,
                      AV.int IntKind.u64 true (0 : Int), AV.int IntKind.i64 true (0 : Int), AV.junk, AV.junk, AV.junk, AV.junk, AV.junk, AV.junk, AV.junk, AV.junk, AV.junk, AV.junk, AV.junk, AV.junk, AV.junk, AV.junk, AV.junk, AV.junk,
                      AV.junk, AV.junk, AV.junk, AV.junk, AV.junk, AV.junk, AV.junk, AV.junk, AV.junk, AV.junk, AV.junk, AV.junk, AV.junk, AV.junk, AV.junk, AV.junk, AV.junk, AV.junk, AV.junk, AV.junk, AV.junk, AV.junk, AV.junk, AV.junk,
                      AV.junk, AV.junk, AV.junk, AV.junk, AV.junk, AV.junk, AV.junk, AV.junk, AV.junk, AV.junk, AV.junk, AV.junk, AV.junk, AV.junk, AV.junk, AV.junk, AV.junk, AV.junk, AV.junk, AV.junk, AV.junk, AV.junk, AV.junk, AV.junk,
                      AV.junk, AV.junk, AV.junk, AV.junk, AV.junk, AV.junk, AV.junk]
                    [some (Blk.mk (3) false false true (Data.ints IntKind.i64 l))])
                  (St.mk
                    [AV.int IntKind.i64 false k, AV.sl zl (Ref.mk (0) (0) (0) (0)) false (List.length l) Cap.any, AV.bool false sign, AV.junk, AV.junk, AV.junk, AV.junk, AV.junk, AV.junk,
                      AV.int IntKind.u64 false (valZ (List.take (Int.toNat (0 : Int)) l)), AV.int IntKind.i64 false (0 : Int), AV.junk, AV.junk, AV.junk, AV.junk, AV.junk, AV.junk, AV.junk, AV.junk, AV.junk, AV.junk, AV.junk, AV.junk,
                      AV.junk, AV.junk, AV.junk, AV.junk, AV.junk, AV.junk, AV.junk, AV.junk, AV.junk, AV.junk, AV.junk, AV.junk, AV.junk, AV.junk, AV.junk, AV.junk, AV.junk, AV.junk, AV.junk, AV.junk, AV.junk, AV.junk, AV.junk, AV.junk,
                      AV.junk, AV.junk, AV.junk, AV.junk, AV.junk, AV.junk, AV.junk, AV.junk, AV.junk, AV.junk, AV.junk, AV.junk, AV.junk, AV.junk, AV.junk, AV.junk, AV.junk, AV.junk, AV.junk, AV.junk, AV.junk, AV.junk, AV.junk, AV.junk,
                      AV.junk, AV.junk, AV.junk, AV.junk, AV.junk, AV.junk, AV.junk, AV.junk, AV.junk, AV.junk, AV.junk]
                    [some (Blk.mk (3) false false true (Data.ints IntKind.i64 l))]))
                (Tree.chk (okrget_1 (Xrget_1.mk k zl l sign (Int.toNat (0 : Int))))
                  (Tree.br (k == (4 : Int))
                    (Tree.br (!sign)
                      (Tree.br (decide (IntKind.wrap IntKind.i64 (valZ (List.take (Int.toNat k) l)) < (0 : Int)))
                        (Tree.ret (AV.tup [AV.int IntKind.i64 true (0 : Int), AV.int IntKind.i64 true (3 : Int)], [some (Blk.mk (3) false false true (Data.ints IntKind.i64 l))]))
                        (Tree.ret
                          (AV.tup [AV.int IntKind.i64 false (IntKind.wrap IntKind.i64 (valZ (List.take (Int.toNat k) l))), AV.int IntKind.i64 true (0 : Int)], [some (Blk.mk (3) false false true (Data.ints IntKind.i64 l))])))
                      (Tree.ret
                        (AV.tup [AV.int IntKind.i64 false (IntKind.wrap IntKind.i64 (valZ (List.take (Int.toNat k) l))), AV.int IntKind.i64 true (0 : Int)], [some (Blk.mk (3) false false true (Data.ints IntKind.i64 l))])))
                    (Tree.br sign
                      (Tree.chk ((True ∧ True) ∧ (0 : Int) ≤ k ∧ k ≤ (3 : Int))
                        (Tree.br true
                          (Tree.br (decide (IntKind.wrap IntKind.i64 (valZ (List.take (Int.toNat k) l)) ≥ IntKind.wrap IntKind.i64 (Int.tdiv ((2 : Int) ^ (16 * Int.toNat k)) (2 : Int))))
                            (Tree.chk ((True ∧ True) ∧ (0 : Int) ≤ k ∧ k ≤ (3 : Int))
                              (Tree.ret
                                (AV.tup [AV.int IntKind.i64 false (IntKind.wrap IntKind.i64 (IntKind.wrap IntKind.i64 (valZ (List.take (Int.toNat k) l)) - (2 : Int) ^ (16 * Int.toNat k))), AV.int IntKind.i64 true (0 : Int)],
                                  [some (Blk.mk (3) false false true (Data.ints IntKind.i64 l))])))
                            (Tree.ret
                              (AV.tup [AV.int IntKind.i64 false (IntKind.wrap IntKind.i64 (valZ (List.take (Int.toNat k) l))), AV.int IntKind.i64 true (0 : Int)],
                                [some (Blk.mk (3) false false true (Data.ints IntKind.i64 l))])))
                          Tree.fail))
                      (Tree.ret
                        (AV.tup [AV.int IntKind.i64 false (IntKind.wrap IntKind.i64 (valZ (List.take (Int.toNat k) l))), AV.int IntKind.i64 true (0 : Int)],
                          [some (Blk.mk (3) false false true (Data.ints IntKind.i64 l))]))))))))))) := by kernel_rfl
set_option maxRecDepth 100000 in
theorem grget (k : Int) (zl : Bool) (l : List Int) (sign : Bool) (hw : short l ∧ (zl = true → l = [])) : (Tree.br (decide (k < (1 : Int))) (Tree.ret (AV.tup [AV.int IntKind.i64 true (0 : Int), AV.int IntKind.i64 true (2 : Int)], [some (Blk.mk (3) false false true (Data.ints IntKind.i64 l))]))
    (Tree.br (decide (k > (4 : Int))) (Tree.ret (AV.tup [AV.int IntKind.i64 true (0 : Int), AV.int IntKind.i64 true (2 : Int)], [some (Blk.mk (3) false false true (Data.ints IntKind.i64 l))]))
      (Tree.chk
        (St.le
          (St.mk
            [AV.int IntKind.i64 false k, AV.sl zl (Ref.mk (0) (0) (0) (0)) false (List.length l) Cap.any, AV.bool false sign, AV.junk, AV.junk, AV.junk, AV.junk, AV.junk,
              AV.int IntKind.i64 true (0 : Int), AV.junk, AV.junk, AV.junk, AV.junk, AV.junk, AV.junk, AV.junk, AV.junk, AV.junk, AV.junk, AV.junk, AV.junk, AV.junk, AV.junk, AV.junk, AV.junk, AV.junk, AV.junk, AV.junk, AV.junk, AV.junk,
              AV.junk, AV.junk, AV.junk, AV.junk, AV.junk, AV.junk, AV.junk, AV.junk, AV.junk, AV.junk, AV.junk, AV.junk, AV.junk, AV.junk, AV.junk, AV.junk, AV.junk, AV.junk, AV.junk, AV.junk, AV.junk, AV.junk, AV.junk, AV.junk, AV.junk,
              AV.junk, AV.junk, AV.junk, AV.junk, AV.junk, AV.junk, AV.junk, AV.junk, AV.junk, AV.junk, AV.junk, AV.junk, AV.junk, AV.junk, AV.junk, AV.junk, AV.junk, AV.junk, AV.junk, AV.junk, AV.junk, AV.junk, AV.junk, AV.junk, AV.junk,
              AV.junk, AV.junk]
            [some (Blk.mk (3) false false true (Data.ints IntKind.i64 l))])
          (St.mk
            [AV.int IntKind.i64 false k, AV.sl zl (Ref.mk (0) (0) (0) (0)) false (List.length l) Cap.any, AV.bool false sign, AV.junk, AV.junk, AV.junk, AV.junk, AV.junk,
              AV.int IntKind.i64 false (0 : Int), AV.junk, AV.junk, AV.junk, AV.junk, AV.junk, AV.junk, AV.junk, AV.junk, AV.junk, AV.junk, AV.junk, AV.junk, AV.junk, AV.junk, AV.junk, AV.junk, AV.junk, AV.junk, AV.junk, AV.junk, AV.junk,
              AV.junk, AV.junk, AV.junk, AV.junk, AV.junk, AV.junk, AV.junk, AV.junk, AV.junk, AV.junk, AV.junk, AV.junk, AV.junk, AV.junk, AV.junk, AV.junk, AV.junk, AV.junk, AV.junk, AV.junk, AV.junk, AV.junk, AV.junk, AV.junk, AV.junk,
              AV.junk, AV.junk, AV.junk, AV.junk, AV.junk, AV.junk, AV.junk, AV.junk, AV.junk, AV.junk, AV.junk, AV.junk, AV.junk, AV.junk, AV.junk, AV.junk, AV.junk, AV.junk, AV.junk, AV.junk, AV.junk, AV.junk, AV.junk, AV.junk, AV.junk,
              AV.junk, AV.junk]
            [some (Blk.mk (3) false false true (Data.ints IntKind.i64 l))]))
        (Tree.chk (okrget_0 (Xrget_0.mk k zl l sign (Int.toNat (0 : Int))))
          (Tree.br (List.any (List.take (Int.toNat k) l) badW) (Tree.ret (AV.tup [AV.int IntKind.i64 true (0 : Int), AV.int IntKind.i64 true (2 : Int)], [some (Blk.mk (3) false false true (Data.ints IntKind.i64 l))]))
            (Tree.br (decide (((List.length l) : Int) < k)) (Tree.ret (AV.tup [AV.int IntKind.i64 true (0 : Int), AV.int IntKind.i64 true (7 : Int)], [some (Blk.mk (3) false false true (Data.ints IntKind.i64 l))]))
              (Tree.chk
                (St.le
                  (St.mk
                    [AV.int IntKind.i64 false k, AV.sl zl (Ref.mk (0) (0) (0) (0)) false (List.length l) Cap.any, AV.bool false sign, AV.junk, AV.junk, AV.junk, AV.junk, AV.junk, AV.junk,
                      AV.int IntKind.u64 true (0 : Int), AV.int IntKind.i64 true (0 : Int), AV.junk, AV.junk, AV.junk, AV.junk, AV.junk, AV.junk, AV.junk, AV.junk, AV.junk, AV.junk, AV.junk, AV.junk, AV.junk, AV.junk, AV.junk, AV.junk,
                      AV.junk, AV.junk, AV.junk, AV.junk, AV.junk, AV.junk, AV.junk, AV.junk, AV.junk, AV.junk, AV.junk, AV.junk, AV.junk, AV.junk, AV.junk, AV.junk, AV.junk, AV.junk, AV.junk, AV.junk, AV.junk, AV.junk, AV.junk, AV.junk,
                      AV.junk, AV.junk, AV.junk, AV.junk, AV.junk, AV.junk, AV.junk, AV.junk, AV.junk, AV.junk, AV.junk, AV.junk, AV.junk, AV.junk, AV.junk, AV.junk, AV.junk, AV.junk, AV.junk, AV.junk, AV.junk, AV.junk, AV.junk, AV.junk,
                      AV.junk, AV.junk, AV.junk, AV.junk, AV.junk, AV.junk, AV.junk]
                    [some (Blk.mk (3) false false true (Data.ints IntKind.i64 l))])
                  (St.mk
                    [AV.int IntKind.i64 false k, AV.sl zl (Ref.mk (0) (0) (0) (0)) false (List.length l) Cap.any, AV.bool false sign, AV.junk, AV.junk, AV.junk, AV.junk, AV.junk, AV.junk,
                      AV.int IntKind.u64 false (valZ (List.take (Int.toNat (0 : Int)) l)), AV.int IntKind.i64 false (0 : Int), AV.junk, AV.junk, AV.junk, AV.junk, AV.junk, AV.junk, AV.junk, AV.junk, AV.junk, AV.junk, AV.junk, AV.junk,
                      AV.junk, AV.junk, AV.junk, AV.junk, AV.junk, AV.junk, AV.junk, AV.junk, AV.junk, AV.junk, AV.junk, AV.junk, AV.junk, AV.junk, AV.junk, AV.junk, AV.junk, AV.junk, AV.junk, AV.junk, AV.junk, AV.junk, AV.junk, AV.junk,
                      AV.junk, AV.junk, AV.junk, AV.junk, AV.junk, AV.junk, AV.junk, AV.junk, AV.junk, AV.junk, AV.junk, AV.junk, AV.junk, AV.junk, AV.junk, AV.junk, AV.junk, AV.junk, AV.junk, AV.junk, AV.junk, AV.junk, AV.junk, AV.junk,
                      AV.junk, AV.junk, AV.junk, AV.junk, AV.junk, AV.junk, AV.junk, AV.junk, AV.junk, AV.junk, AV.junk]
                    [some (Blk.mk (3) false false true (Data.ints IntKind.i64 l))]))
                (Tree.chk (okrget_1 (Xrget_1.mk k zl l sign (Int.toNat (0 : Int))))
                  (Tree.br (k == (4 : Int))
                    (Tree.br (!sign)
                      (Tree.br (decide (IntKind.wrap IntKind.i64 (valZ (List.take (Int.toNat k) l)) < (0 : Int)))
                        (Tree.ret (AV.tup [AV.int IntKind.i64 true (0 : Int), AV.int IntKind.i64 true (3 : Int)], [some (Blk.mk (3) false false true (Data.ints IntKind.i64 l))]))
                        (Tree.ret
                          (AV.tup [AV.int IntKind.i64 false (IntKind.wrap IntKind.i64 (valZ (List.take (Int.toNat k) l))), AV.int IntKind.i64 true (0 : Int)], [some (Blk.mk (3) false false true (Data.ints IntKind.i64 l))])))
                      (Tree.ret
                        (AV.tup [AV.int IntKind.i64 false (IntKind.wrap IntKind.i64 (valZ (List.take (Int.toNat k) l))), AV.int IntKind.i64 true (0 : Int)], [some (Blk.mk (3) false false true (Data.ints IntKind.i64 l))])))
                    (Tree.br sign
                      (Tree.chk ((True ∧ True) ∧ (0 : Int) ≤ k ∧ k ≤ (3 : Int))
                        (Tree.br true
                          (Tree.br (decide (IntKind.wrap IntKind.i64 (valZ (List.take (Int.toNat k) l)) ≥ IntKind.wrap IntKind.i64 (Int.tdiv ((2 : Int) ^ (16 * Int.toNat k)) (2 : Int))))
                            (Tree.chk ((True ∧ True) ∧ (0 : Int) ≤ k ∧ k ≤ (3 : Int))
                              (Tree.ret
                                (AV.tup [AV.int IntKind.i64 false (IntKind.wrap IntKind.i64 (IntKind.wrap IntKind.i64 (valZ (List.take (Int.toNat k) l)) - (2 : Int) ^ (16 * Int.toNat k))), AV.int IntKind.i64 true (0 : Int)],
                                  [some (Blk.mk (3) false false true (Data.ints IntKind.i64 l))])))
                            (Tree.ret
                              (AV.tup [AV.int IntKind.i64 false (IntKind.wrap IntKind.i64 (valZ (List.take (Int.toNat k) l))), AV.int IntKind.i64 true (0 : Int)],
                                [some (Blk.mk (3) false false true (Data.ints IntKind.i64 l))])))
                          Tree.fail))
                      (Tree.ret
                        (AV.tup [AV.int IntKind.i64 false (IntKind.wrap IntKind.i64 (valZ (List.take (Int.toNat k) l))), AV.int IntKind.i64 true (0 : Int)],
                          [some (Blk.mk (3) false false true (Data.ints IntKind.i64 l))]))))))))))) : Tree (AV × Mem)).GivesP (.tup [.int .i64 false (if sign = true then getV k l else gplV k l), .int .i64 false (if sign = true then rawE k l else gplE k l)]) ([some ⟨3, false, false, true, .ints .i64 l⟩]) := by
  refine Tree.GivesP.br (fun h1 => ?_) (fun h1 => ?_)
  · (try simp only [decide_eq_true_eq, decide_eq_false_iff_not, Bool.not_eq_true', Bool.not_eq_false', beq_iff_eq, beq_eq_false_iff_ne, Int.not_lt, Int.not_le, ge_iff_le, gt_iff_lt, ne_eq, Bool.false_eq_true, Bool.true_eq_false, not_true_eq_false, not_false_eq_true, Bool.and_eq_true, Bool.not_eq_eq_eq_not, Bool.not_true, Bool.not_false, bne_iff_ne, bne_eq_false_iff_eq, Int.toNat_natCast, Nat.mul_one, Nat.add_zero, Nat.zero_add, List.take_length, List.drop_zero] at h1)
    all_goals
      refine Tree.GivesP.ret ?_ ?_
      · have e : rawE k l = 2 := by simp only [rawE]; rw [if_neg (by simp [kOk]; omega)]
        have hb := rget_bad (sign := sign) (k := k) (l := l) (by rw [e]; decide)
        simp only [AV.le, AV.leL, true_and, and_true]; rw [hb.1, hb.2, e]; exact ⟨rfl, rfl⟩
      · simp only [AV.leL, AV.le, Mem.le, Mem.leP, Blk.le, Blk.pad, Data.le, Data.size, Cap.le, and_true, true_and, and_self, true_implies, implies_true, imp_self, List.length_nil]
  · (try simp only [decide_eq_true_eq, decide_eq_false_iff_not, Bool.not_eq_true', Bool.not_eq_false', beq_iff_eq, beq_eq_false_iff_ne, Int.not_lt, Int.not_le, ge_iff_le, gt_iff_lt, ne_eq, Bool.false_eq_true, Bool.true_eq_false, not_true_eq_false, not_false_eq_true, Bool.and_eq_true, Bool.not_eq_eq_eq_not, Bool.not_true, Bool.not_false, bne_iff_ne, bne_eq_false_iff_eq, Int.toNat_natCast, Nat.mul_one, Nat.add_zero, Nat.zero_add, List.take_length, List.drop_zero] at h1)
    all_goals
      refine Tree.GivesP.br (fun h2 => ?_) (fun h2 => ?_)
      · (try simp only [decide_eq_true_eq, decide_eq_false_iff_not, Bool.not_eq_true', Bool.not_eq_false', beq_iff_eq, beq_eq_false_iff_ne, Int.not_lt, Int.not_le, ge_iff_le, gt_iff_lt, ne_eq, Bool.false_eq_true, Bool.true_eq_false, not_true_eq_false, not_false_eq_true, Bool.and_eq_true, Bool.not_eq_eq_eq_not, Bool.not_true, Bool.not_false, bne_iff_ne, bne_eq_false_iff_eq, Int.toNat_natCast, Nat.mul_one, Nat.add_zero, Nat.zero_add, List.take_length, List.drop_zero] at h2)
        all_goals
          refine Tree.GivesP.ret ?_ ?_
          · have e : rawE k l = 2 := by simp only [rawE]; rw [if_neg (by simp [kOk]; omega)]
            have hb := rget_bad (sign := sign) (k := k) (l := l) (by rw [e]; decide)
            simp only [AV.le, AV.leL, true_and, and_true]; rw [hb.1, hb.2, e]; exact ⟨rfl, rfl⟩
          · simp only [AV.leL, AV.le, Mem.le, Mem.leP, Blk.le, Blk.pad, Data.le, Data.size, Cap.le, and_true, true_and, and_self, true_implies, implies_true, imp_self, List.length_nil]
      · (try simp only [decide_eq_true_eq, decide_eq_false_iff_not, Bool.not_eq_true', Bool.not_eq_false', beq_iff_eq, beq_eq_false_iff_ne, Int.not_lt, Int.not_le, ge_iff_le, gt_iff_lt, ne_eq, Bool.false_eq_true, Bool.true_eq_false, not_true_eq_false, not_false_eq_true, Bool.and_eq_true, Bool.not_eq_eq_eq_not, Bool.not_true, Bool.not_false, bne_iff_ne, bne_eq_false_iff_eq, Int.toNat_natCast, Nat.mul_one, Nat.add_zero, Nat.zero_add, List.take_length, List.drop_zero] at h2)
        all_goals
          refine Tree.GivesP.chk (by first | (simp only [and_self]; done) | (constructor <;> simp only [hdrget_0, Int.toNat_zero, Int.cast_ofNat_Int, AV.leL, AV.le, Mem.le, Mem.leP, Blk.le, Blk.pad, Data.le, Data.size, Cap.le, and_true, true_and, and_self, true_implies, implies_true, imp_self, List.length_nil] <;> (try simp only [List.take_zero]) <;> (try rfl))) ?_
          refine Tree.GivesP.chk (by first | (simp only [and_self]; done) | (exact ⟨by omega, by omega, hw.1, hw.2, Nat.zero_le _, Nat.zero_le _, rfl⟩)) ?_
          refine Tree.GivesP.br (fun h3 => ?_) (fun h3 => ?_)
          · (try simp only [decide_eq_true_eq, decide_eq_false_iff_not, Bool.not_eq_true', Bool.not_eq_false', beq_iff_eq, beq_eq_false_iff_ne, Int.not_lt, Int.not_le, ge_iff_le, gt_iff_lt, ne_eq, Bool.false_eq_true, Bool.true_eq_false, not_true_eq_false, not_false_eq_true, Bool.and_eq_true, Bool.not_eq_eq_eq_not, Bool.not_true, Bool.not_false, bne_iff_ne, bne_eq_false_iff_eq, Int.toNat_natCast, Nat.mul_one, Nat.add_zero, Nat.zero_add, List.take_length, List.drop_zero] at h3)
            all_goals
              refine Tree.GivesP.ret ?_ ?_
              · have e : rawE k l = 2 := by simp only [rawE, lookZ, h3, if_true]; rw [if_pos (by simp [kOk]; omega)]
                have hb := rget_bad (sign := sign) (k := k) (l := l) (by rw [e]; decide)
                simp only [AV.le, AV.leL, true_and, and_true]; rw [hb.1, hb.2, e]; exact ⟨rfl, rfl⟩
              · simp only [AV.leL, AV.le, Mem.le, Mem.leP, Blk.le, Blk.pad, Data.le, Data.size, Cap.le, and_true, true_and, and_self, true_implies, implies_true, imp_self, List.length_nil]
          · (try simp only [decide_eq_true_eq, decide_eq_false_iff_not, Bool.not_eq_true', Bool.not_eq_false', beq_iff_eq, beq_eq_false_iff_ne, Int.not_lt, Int.not_le, ge_iff_le, gt_iff_lt, ne_eq, Bool.false_eq_true, Bool.true_eq_false, not_true_eq_false, not_false_eq_true, Bool.and_eq_true, Bool.not_eq_eq_eq_not, Bool.not_true, Bool.not_false, bne_iff_ne, bne_eq_false_iff_eq, Int.toNat_natCast, Nat.mul_one, Nat.add_zero, Nat.zero_add, List.take_length, List.drop_zero] at h3)
            all_goals
              refine Tree.GivesP.br (fun h4 => ?_) (fun h4 => ?_)
              · (try simp only [decide_eq_true_eq, decide_eq_false_iff_not, Bool.not_eq_true', Bool.not_eq_false', beq_iff_eq, beq_eq_false_iff_ne, Int.not_lt, Int.not_le, ge_iff_le, gt_iff_lt, ne_eq, Bool.false_eq_true, Bool.true_eq_false, not_true_eq_false, not_false_eq_true, Bool.and_eq_true, Bool.not_eq_eq_eq_not, Bool.not_true, Bool.not_false, bne_iff_ne, bne_eq_false_iff_eq, Int.toNat_natCast, Nat.mul_one, Nat.add_zero, Nat.zero_add, List.take_length, List.drop_zero] at h4)
                all_goals
                  refine Tree.GivesP.ret ?_ ?_
                  · have e : rawE k l = 7 := by simp only [rawE, lookZ, h3]; rw [if_pos (by simp [kOk]; omega), if_neg (by simp), if_pos h4]
                    have hb := rget_bad (sign := sign) (k := k) (l := l) (by rw [e]; decide)
                    simp only [AV.le, AV.leL, true_and, and_true]; rw [hb.1, hb.2, e]; exact ⟨rfl, rfl⟩
                  · simp only [AV.leL, AV.le, Mem.le, Mem.leP, Blk.le, Blk.pad, Data.le, Data.size, Cap.le, and_true, true_and, and_self, true_implies, implies_true, imp_self, List.length_nil]
              · (try simp only [decide_eq_true_eq, decide_eq_false_iff_not, Bool.not_eq_true', Bool.not_eq_false', beq_iff_eq, beq_eq_false_iff_ne, Int.not_lt, Int.not_le, ge_iff_le, gt_iff_lt, ne_eq, Bool.false_eq_true, Bool.true_eq_false, not_true_eq_false, not_false_eq_true, Bool.and_eq_true, Bool.not_eq_eq_eq_not, Bool.not_true, Bool.not_false, bne_iff_ne, bne_eq_false_iff_eq, Int.toNat_natCast, Nat.mul_one, Nat.add_zero, Nat.zero_add, List.take_length, List.drop_zero] at h4)
                all_goals
                  refine Tree.GivesP.chk (by first | (simp only [and_self]; done) | (constructor <;> simp only [hdrget_1, Int.toNat_zero, Int.cast_ofNat_Int, AV.leL, AV.le, Mem.le, Mem.leP, Blk.le, Blk.pad, Data.le, Data.size, Cap.le, and_true, true_and, and_self, true_implies, implies_true, imp_self, List.length_nil] <;> (try simp only [List.take_zero]) <;> (try rfl))) ?_
                  refine Tree.GivesP.chk (by first | (simp only [and_self]; done) | (exact ⟨by omega, by omega, hw.1, hw.2, by omega, Nat.zero_le _, h3⟩)) ?_
                  refine Tree.GivesP.br (fun h5 => ?_) (fun h5 => ?_)
                  · (try simp only [decide_eq_true_eq, decide_eq_false_iff_not, Bool.not_eq_true', Bool.not_eq_false', beq_iff_eq, beq_eq_false_iff_ne, Int.not_lt, Int.not_le, ge_iff_le, gt_iff_lt, ne_eq, Bool.false_eq_true, Bool.true_eq_false, not_true_eq_false, not_false_eq_true, Bool.and_eq_true, Bool.not_eq_eq_eq_not, Bool.not_true, Bool.not_false, bne_iff_ne, bne_eq_false_iff_eq, Int.toNat_natCast, Nat.mul_one, Nat.add_zero, Nat.zero_add, List.take_length, List.drop_zero] at h5)
                    all_goals
                      refine Tree.GivesP.br (fun h6 => ?_) (fun h6 => ?_)
                      · (try simp only [decide_eq_true_eq, decide_eq_false_iff_not, Bool.not_eq_true', Bool.not_eq_false', beq_iff_eq, beq_eq_false_iff_ne, Int.not_lt, Int.not_le, ge_iff_le, gt_iff_lt, ne_eq, Bool.false_eq_true, Bool.true_eq_false, not_true_eq_false, not_false_eq_true, Bool.and_eq_true, Bool.not_eq_eq_eq_not, Bool.not_true, Bool.not_false, bne_iff_ne, bne_eq_false_iff_eq, Int.toNat_natCast, Nat.mul_one, Nat.add_zero, Nat.zero_add, List.take_length, List.drop_zero] at h6)
                        all_goals
                          refine Tree.GivesP.br (fun h7 => ?_) (fun h7 => ?_)
                          · (try simp only [decide_eq_true_eq, decide_eq_false_iff_not, Bool.not_eq_true', Bool.not_eq_false', beq_iff_eq, beq_eq_false_iff_ne, Int.not_lt, Int.not_le, ge_iff_le, gt_iff_lt, ne_eq, Bool.false_eq_true, Bool.true_eq_false, not_true_eq_false, not_false_eq_true, Bool.and_eq_true, Bool.not_eq_eq_eq_not, Bool.not_true, Bool.not_false, bne_iff_ne, bne_eq_false_iff_eq, Int.toNat_natCast, Nat.mul_one, Nat.add_zero, Nat.zero_add, List.take_length, List.drop_zero] at h7)
                            all_goals
                              refine Tree.GivesP.ret ?_ ?_
                              · have e : rawE k l = 0 := by
                                  simp only [rawE, lookZ, h3]; rw [if_pos (by simp [kOk]; omega), if_neg (by simp), if_neg (by omega)]
                                have ev : valZ (l.take k.toNat) = rawV k l := by rw [rawV, if_pos e]
                                obtain ⟨hb1, _, hb2⟩ := raw_facts k l
                                obtain ⟨hk1, hk4, hb3⟩ := hb2 e
                                simp only [AV.le, AV.leL, true_and, and_true, getV, gplV, gplE, e]
                                simp only [ev] at *
                                clear ev e hb2 h3
                                generalize rawV k l = x at *
                                rcases k_cases hk1 hk4 with rfl | rfl | rfl | rfl <;> cases sign <;> simp [w64] at * <;> (repeat' split) <;> omega
                              · simp only [AV.leL, AV.le, Mem.le, Mem.leP, Blk.le, Blk.pad, Data.le, Data.size, Cap.le, and_true, true_and, and_self, true_implies, implies_true, imp_self, List.length_nil]
                          · (try simp only [decide_eq_true_eq, decide_eq_false_iff_not, Bool.not_eq_true', Bool.not_eq_false', beq_iff_eq, beq_eq_false_iff_ne, Int.not_lt, Int.not_le, ge_iff_le, gt_iff_lt, ne_eq, Bool.false_eq_true, Bool.true_eq_false, not_true_eq_false, not_false_eq_true, Bool.and_eq_true, Bool.not_eq_eq_eq_not, Bool.not_true, Bool.not_false, bne_iff_ne, bne_eq_false_iff_eq, Int.toNat_natCast, Nat.mul_one, Nat.add_zero, Nat.zero_add, List.take_length, List.drop_zero] at h7)
                            all_goals
                              refine Tree.GivesP.ret ?_ ?_
                              · have e : rawE k l = 0 := by
                                  simp only [rawE, lookZ, h3]; rw [if_pos (by simp [kOk]; omega), if_neg (by simp), if_neg (by omega)]
                                have ev : valZ (l.take k.toNat) = rawV k l := by rw [rawV, if_pos e]
                                obtain ⟨hb1, _, hb2⟩ := raw_facts k l
                                obtain ⟨hk1, hk4, hb3⟩ := hb2 e
                                simp only [AV.le, AV.leL, true_and, and_true, getV, gplV, gplE, e]
                                simp only [ev] at *
                                clear ev e hb2 h3
                                generalize rawV k l = x at *
                                rcases k_cases hk1 hk4 with rfl | rfl | rfl | rfl <;> cases sign <;> simp [w64] at * <;> (repeat' split) <;> omega
                              · simp only [AV.leL, AV.le, Mem.le, Mem.leP, Blk.le, Blk.pad, Data.le, Data.size, Cap.le, and_true, true_and, and_self, true_implies, implies_true, imp_self, List.length_nil]
                      · (try simp only [decide_eq_true_eq, decide_eq_false_iff_not, Bool.not_eq_true', Bool.not_eq_false', beq_iff_eq, beq_eq_false_iff_ne, Int.not_lt, Int.not_le, ge_iff_le, gt_iff_lt, ne_eq, Bool.false_eq_true, Bool.true_eq_false, not_true_eq_false, not_false_eq_true, Bool.and_eq_true, Bool.not_eq_eq_eq_not, Bool.not_true, Bool.not_false, bne_iff_ne, bne_eq_false_iff_eq, Int.toNat_natCast, Nat.mul_one, Nat.add_zero, Nat.zero_add, List.take_length, List.drop_zero] at h6)
                        all_goals
                          refine Tree.GivesP.ret ?_ ?_
                          · have e : rawE k l = 0 := by
                              simp only [rawE, lookZ, h3]; rw [if_pos (by simp [kOk]; omega), if_neg (by simp), if_neg (by omega)]
                            have ev : valZ (l.take k.toNat) = rawV k l := by rw [rawV, if_pos e]
                            obtain ⟨hb1, _, hb2⟩ := raw_facts k l
                            obtain ⟨hk1, hk4, hb3⟩ := hb2 e
                            simp only [AV.le, AV.leL, true_and, and_true, getV, gplV, gplE, e]
                            simp only [ev] at *
                            clear ev e hb2 h3
                            generalize rawV k l = x at *
                            rcases k_cases hk1 hk4 with rfl | rfl | rfl | rfl <;> cases sign <;> simp [w64] at * <;> (repeat' split) <;> omega
                          · simp only [AV.leL, AV.le, Mem.le, Mem.leP, Blk.le, Blk.pad, Data.le, Data.size, Cap.le, and_true, true_and, and_self, true_implies, implies_true, imp_self, List.length_nil]
                  · (try simp only [decide_eq_true_eq, decide_eq_false_iff_not, Bool.not_eq_true', Bool.not_eq_false', beq_iff_eq, beq_eq_false_iff_ne, Int.not_lt, Int.not_le, ge_iff_le, gt_iff_lt, ne_eq, Bool.false_eq_true, Bool.true_eq_false, not_true_eq_false, not_false_eq_true, Bool.and_eq_true, Bool.not_eq_eq_eq_not, Bool.not_true, Bool.not_false, bne_iff_ne, bne_eq_false_iff_eq, Int.toNat_natCast, Nat.mul_one, Nat.add_zero, Nat.zero_add, List.take_length, List.drop_zero] at h5)
                    all_goals
                      refine Tree.GivesP.br (fun h6 => ?_) (fun h6 => ?_)
                      · (try simp only [decide_eq_true_eq, decide_eq_false_iff_not, Bool.not_eq_true', Bool.not_eq_false', beq_iff_eq, beq_eq_false_iff_ne, Int.not_lt, Int.not_le, ge_iff_le, gt_iff_lt, ne_eq, Bool.false_eq_true, Bool.true_eq_false, not_true_eq_false, not_false_eq_true, Bool.and_eq_true, Bool.not_eq_eq_eq_not, Bool.not_true, Bool.not_false, bne_iff_ne, bne_eq_false_iff_eq, Int.toNat_natCast, Nat.mul_one, Nat.add_zero, Nat.zero_add, List.take_length, List.drop_zero] at h6)
                        all_goals
                          refine Tree.GivesP.chk (by first | (simp only [and_self]; done) | (simp only [and_self, true_and]; omega)) ?_
                          refine Tree.GivesP.br (fun h7 => ?_) (fun h7 => ?_)
                          · (try simp only [decide_eq_true_eq, decide_eq_false_iff_not, Bool.not_eq_true', Bool.not_eq_false', beq_iff_eq, beq_eq_false_iff_ne, Int.not_lt, Int.not_le, ge_iff_le, gt_iff_lt, ne_eq, Bool.false_eq_true, Bool.true_eq_false, not_true_eq_false, not_false_eq_true, Bool.and_eq_true, Bool.not_eq_eq_eq_not, Bool.not_true, Bool.not_false, bne_iff_ne, bne_eq_false_iff_eq, Int.toNat_natCast, Nat.mul_one, Nat.add_zero, Nat.zero_add, List.take_length, List.drop_zero] at h7)
                            all_goals
                              refine Tree.GivesP.br (fun h8 => ?_) (fun h8 => ?_)
                              · (try simp only [decide_eq_true_eq, decide_eq_false_iff_not, Bool.not_eq_true', Bool.not_eq_false', beq_iff_eq, beq_eq_false_iff_ne, Int.not_lt, Int.not_le, ge_iff_le, gt_iff_lt, ne_eq, Bool.false_eq_true, Bool.true_eq_false, not_true_eq_false, not_false_eq_true, Bool.and_eq_true, Bool.not_eq_eq_eq_not, Bool.not_true, Bool.not_false, bne_iff_ne, bne_eq_false_iff_eq, Int.toNat_natCast, Nat.mul_one, Nat.add_zero, Nat.zero_add, List.take_length, List.drop_zero] at h8)
                                all_goals
                                  refine Tree.GivesP.chk (by first | (simp only [and_self]; done) | (simp only [and_self, true_and]; omega)) ?_
                                  refine Tree.GivesP.ret ?_ ?_
                                  · have e : rawE k l = 0 := by
                                      simp only [rawE, lookZ, h3]; rw [if_pos (by simp [kOk]; omega), if_neg (by simp), if_neg (by omega)]
                                    have ev : valZ (l.take k.toNat) = rawV k l := by rw [rawV, if_pos e]
                                    obtain ⟨hb1, _, hb2⟩ := raw_facts k l
                                    obtain ⟨hk1, hk4, hb3⟩ := hb2 e
                                    simp only [AV.le, AV.leL, true_and, and_true, getV, gplV, gplE, e]
                                    simp only [ev] at *
                                    clear ev e hb2 h3
                                    generalize rawV k l = x at *
                                    rcases k_cases hk1 hk4 with rfl | rfl | rfl | rfl <;> cases sign <;> simp [w64] at * <;> (repeat' split) <;> omega
                                  · simp only [AV.leL, AV.le, Mem.le, Mem.leP, Blk.le, Blk.pad, Data.le, Data.size, Cap.le, and_true, true_and, and_self, true_implies, implies_true, imp_self, List.length_nil]
                              · (try simp only [decide_eq_true_eq, decide_eq_false_iff_not, Bool.not_eq_true', Bool.not_eq_false', beq_iff_eq, beq_eq_false_iff_ne, Int.not_lt, Int.not_le, ge_iff_le, gt_iff_lt, ne_eq, Bool.false_eq_true, Bool.true_eq_false, not_true_eq_false, not_false_eq_true, Bool.and_eq_true, Bool.not_eq_eq_eq_not, Bool.not_true, Bool.not_false, bne_iff_ne, bne_eq_false_iff_eq, Int.toNat_natCast, Nat.mul_one, Nat.add_zero, Nat.zero_add, List.take_length, List.drop_zero] at h8)
                                all_goals
                                  refine Tree.GivesP.ret ?_ ?_
                                  · have e : rawE k l = 0 := by
                                      simp only [rawE, lookZ, h3]; rw [if_pos (by simp [kOk]; omega), if_neg (by simp), if_neg (by omega)]
                                    have ev : valZ (l.take k.toNat) = rawV k l := by rw [rawV, if_pos e]
                                    obtain ⟨hb1, _, hb2⟩ := raw_facts k l
                                    obtain ⟨hk1, hk4, hb3⟩ := hb2 e
                                    simp only [AV.le, AV.leL, true_and, and_true, getV, gplV, gplE, e]
                                    simp only [ev] at *
                                    clear ev e hb2 h3
                                    generalize rawV k l = x at *
                                    rcases k_cases hk1 hk4 with rfl | rfl | rfl | rfl <;> cases sign <;> simp [w64] at * <;> (repeat' split) <;> omega
                                  · simp only [AV.leL, AV.le, Mem.le, Mem.leP, Blk.le, Blk.pad, Data.le, Data.size, Cap.le, and_true, true_and, and_self, true_implies, implies_true, imp_self, List.length_nil]
                          · (try simp only [decide_eq_true_eq, decide_eq_false_iff_not, Bool.not_eq_true', Bool.not_eq_false', beq_iff_eq, beq_eq_false_iff_ne, Int.not_lt, Int.not_le, ge_iff_le, gt_iff_lt, ne_eq, Bool.false_eq_true, Bool.true_eq_false, not_true_eq_false, not_false_eq_true, Bool.and_eq_true, Bool.not_eq_eq_eq_not, Bool.not_true, Bool.not_false, bne_iff_ne, bne_eq_false_iff_eq, Int.toNat_natCast, Nat.mul_one, Nat.add_zero, Nat.zero_add, List.take_length, List.drop_zero] at h7)
                            all_goals
                              exfalso
                              simp_all
                      · (try simp only [decide_eq_true_eq, decide_eq_false_iff_not, Bool.not_eq_true', Bool.not_eq_false', beq_iff_eq, beq_eq_false_iff_ne, Int.not_lt, Int.not_le, ge_iff_le, gt_iff_lt, ne_eq, Bool.false_eq_true, Bool.true_eq_false, not_true_eq_false, not_false_eq_true, Bool.and_eq_true, Bool.not_eq_eq_eq_not, Bool.not_true, Bool.not_false, bne_iff_ne, bne_eq_false_iff_eq, Int.toNat_natCast, Nat.mul_one, Nat.add_zero, Nat.zero_add, List.take_length, List.drop_zero] at h6)
                        all_goals
                          refine Tree.GivesP.ret ?_ ?_
                          · have e : rawE k l = 0 := by
                              simp only [rawE, lookZ, h3]; rw [if_pos (by simp [kOk]; omega), if_neg (by simp), if_neg (by omega)]
                            have ev : valZ (l.take k.toNat) = rawV k l := by rw [rawV, if_pos e]
                            obtain ⟨hb1, _, hb2⟩ := raw_facts k l
                            obtain ⟨hk1, hk4, hb3⟩ := hb2 e
                            simp only [AV.le, AV.leL, true_and, and_true, getV, gplV, gplE, e]
                            simp only [ev] at *
                            clear ev e hb2 h3
                            generalize rawV k l = x at *
                            rcases k_cases hk1 hk4 with rfl | rfl | rfl | rfl <;> cases sign <;> simp [w64] at * <;> (repeat' split) <;> omega
                          · simp only [AV.leL, AV.le, Mem.le, Mem.leP, Blk.le, Blk.pad, Data.le, Data.size, Cap.le, and_true, true_and, and_self, true_implies, implies_true, imp_self, List.length_nil]
theorem srget (hall : AllOk Try.prog 0 (fun _ => none) tab22) (k : Int) (zl : Bool) (l : List Int) (sign : Bool) (hw : short l ∧ (zl = true → l = [])) : SoundAt (mkC Try.prog 0 (fun _ => none) []) 16 [.int .i64 false k, .sl zl ⟨0, 0, 0, 0⟩ false l.length .any, .bool false sign] [some ⟨3, false, false, true, .ints .i64 l⟩] (.tup [.int .i64 false (if sign = true then getV k l else gplV k l), .int .i64 false (if sign = true then rawE k l else gplE k l)], [some ⟨3, false, false, true, .ints .i64 l⟩]) := sound_loopsP hall mix (loopsrget hall) (trget k zl l sign) (grget k zl l sign hw)
theorem Frget_ok (hall : AllOk Try.prog 0 (fun _ => none) tab22) : PureF Try.prog 3 16 Frget := by
  intro xs c v news h hc
  unfold Frget at h
  split at h
  · rename_i _ k zl l _ sign
    cases h
    refine ⟨(by intro b hb; cases hb), SoundAt.flags (srget hall k zl l sign hc) ?_⟩
    simp [PA.avs, AV.le, AV.leL, Cap.le]
  · cases h
end Go.Proofs.Ytnkjblmlchbfkaa.Rig

/- Qsize -/
namespace Go.Proofs.Ytnkjblmlchbfkaa.Rig
open Go
set_option maxRecDepth 100000 in
theorem tLsize_0 (zl : Bool) (l : List Int) (i : Nat) : tidied Tsize_0 Usize_0 1 (evCode (mkL Try.prog 0 (fun _ => none) tab23 rowssize) (evCall (mkC Try.prog 0 (fun _ => none) tab23) 50) 23 1 fuelC (bodyAt Try.prog 23 0) (hdsize_0 ⟨zl, l, i⟩)) =
  Tree.br (decide ((i : Int) < ((List.length l) : Int)))
    (Tree.br (!zl && decide ((0 : Int) ≤ (i : Int) ∧ (i : Int) < ((List.length l) : Int)))
      (Tree.br (decide (Int.toNat (i : Int) * 1 + 0 + 1 ≤ List.length l))
        (Tree.br (decide (List.getD l (Int.toNat (i : Int) * 1 + 0 + 0) (0 : Int) < (1 : Int)))
          (Tree.ret
            (Ex.ret,
              St.mk
                [AV.junk, AV.junk, AV.int IntKind.i64 true (0 : Int), AV.junk, AV.junk, AV.junk, AV.junk, AV.junk, AV.junk, AV.junk, AV.junk, AV.junk, AV.junk, AV.junk, AV.junk, AV.junk, AV.junk, AV.junk, AV.junk, AV.junk, AV.junk, AV.junk,
                  AV.junk, AV.junk, AV.junk, AV.junk]
                [some (Blk.mk (3) false false true (Data.ints IntKind.i64 l))]))
          (Tree.br (decide (List.getD l (Int.toNat (i : Int) * 1 + 0 + 0) (0 : Int) > (16 : Int)))
            (Tree.ret
              (Ex.ret,
                St.mk
                  [AV.junk, AV.junk, AV.int IntKind.i64 true (0 : Int), AV.junk, AV.junk, AV.junk, AV.junk, AV.junk, AV.junk, AV.junk, AV.junk, AV.junk, AV.junk, AV.junk, AV.junk, AV.junk, AV.junk, AV.junk, AV.junk, AV.junk, AV.junk, AV.junk,
                    AV.junk, AV.junk, AV.junk, AV.junk]
                  [some (Blk.mk (3) false false true (Data.ints IntKind.i64 l))]))
            (Tree.ret
              (Ex.norm,
                St.mk
                  [AV.junk, AV.junk, AV.junk, AV.int IntKind.i64 false (IntKind.wrap IntKind.i64 (sumI (List.take i l) + List.getD l (Int.toNat (i : Int) * 1 + 0 + 0) (0 : Int))), AV.junk, AV.junk,
                    AV.sl zl (Ref.mk (0) (0) (0) (0)) false (List.length l) Cap.any, AV.int IntKind.i64 false ((List.length l) : Int), AV.int IntKind.i64 false (IntKind.wrap IntKind.i64 ((i : Int) + (1 : Int))),
                    AV.junk, AV.junk, AV.junk, AV.junk, AV.junk, AV.junk, AV.junk, AV.junk, AV.junk, AV.junk, AV.junk, AV.junk, AV.junk, AV.junk, AV.junk, AV.junk, AV.junk]
                  [some (Blk.mk (3) false false true (Data.ints IntKind.i64 l))]))))
        Tree.fail)
      Tree.fail)
    (Tree.ret
      (Ex.exit (0),
        St.mk
          [AV.junk, AV.junk, AV.junk, AV.int IntKind.i64 false (sumI (List.take i l)), AV.junk, AV.junk, AV.junk, AV.junk, AV.junk, AV.junk, AV.junk, AV.junk, AV.junk, AV.junk, AV.junk, AV.junk, AV.junk, AV.junk, AV.junk, AV.junk,
            AV.junk, AV.junk, AV.junk, AV.junk, AV.junk, AV.junk]
          [some (Blk.mk (3) false false true (Data.ints IntKind.i64 l))])) := by kernel_rfl
set_option maxRecDepth 100000 in
theorem stepsize_0 (zl : Bool) (l : List Int) (i : Nat) (ex : Ex) (r : St) (hok : oksize_0 ⟨zl, l, i⟩) (hr : (outsize_0 ⟨zl, l, i⟩).runs (ex, r)) : (Tree.br (decide ((i : Int) < ((List.length l) : Int)))
    (Tree.br (!zl && decide ((0 : Int) ≤ (i : Int) ∧ (i : Int) < ((List.length l) : Int)))
      (Tree.br (decide (Int.toNat (i : Int) * 1 + 0 + 1 ≤ List.length l))
        (Tree.br (decide (List.getD l (Int.toNat (i : Int) * 1 + 0 + 0) (0 : Int) < (1 : Int)))
          (Tree.ret
            (Ex.ret,
              St.mk
                [AV.junk, AV.junk, AV.int IntKind.i64 true (0 : Int), AV.junk, AV.junk, AV.junk, AV.junk, AV.junk, AV.junk, AV.junk, AV.junk, AV.junk, AV.junk, AV.junk, AV.junk, AV.junk, AV.junk, AV.junk, AV.junk, AV.junk, AV.junk, AV.junk,
                  AV.junk, AV.junk, AV.junk, AV.junk]
                [some (Blk.mk (3) false false true (Data.ints IntKind.i64 l))]))
          (Tree.br (decide (List.getD l (Int.toNat (i : Int) * 1 + 0 + 0) (0 : Int) > (16 : Int)))
            (Tree.ret
              (Ex.ret,
                St.mk
                  [AV.junk, AV.junk, AV.int IntKind.i64 true (0 : Int), AV.junk, AV.junk, AV.junk, AV.junk, AV.junk, AV.junk, AV.junk, AV.junk, AV.junk, AV.junk, AV.junk, AV.junk, AV.junk, AV.junk, AV.junk, AV.junk, AV.junk, AV.junk, AV.junk,
                    AV.junk, AV.junk, AV.junk, AV.junk]
                  [some (Blk.mk (3) false false true (Data.ints IntKind.i64 l))]))
            (Tree.ret
              (Ex.norm,
                St.mk
                  [AV.junk, AV.junk, AV.junk, AV.int IntKind.i64 false (IntKind.wrap IntKind.i64 (sumI (List.take i l) + List.getD l (Int.toNat (i : Int) * 1 + 0 + 0) (0 : Int))), AV.junk, AV.junk,
                    AV.sl zl (Ref.mk (0) (0) (0) (0)) false (List.length l) Cap.any, AV.int IntKind.i64 false ((List.length l) : Int), AV.int IntKind.i64 false (IntKind.wrap IntKind.i64 ((i : Int) + (1 : Int))),
                    AV.junk, AV.junk, AV.junk, AV.junk, AV.junk, AV.junk, AV.junk, AV.junk, AV.junk, AV.junk, AV.junk, AV.junk, AV.junk, AV.junk, AV.junk, AV.junk, AV.junk]
                  [some (Blk.mk (3) false false true (Data.ints IntKind.i64 l))]))))
        Tree.fail)
      Tree.fail)
    (Tree.ret
      (Ex.exit (0),
        St.mk
          [AV.junk, AV.junk, AV.junk, AV.int IntKind.i64 false (sumI (List.take i l)), AV.junk, AV.junk, AV.junk, AV.junk, AV.junk, AV.junk, AV.junk, AV.junk, AV.junk, AV.junk, AV.junk, AV.junk, AV.junk, AV.junk, AV.junk, AV.junk,
            AV.junk, AV.junk, AV.junk, AV.junk, AV.junk, AV.junk]
          [some (Blk.mk (3) false false true (Data.ints IntKind.i64 l))])) : Tree (Ex × St)).Sat (Post hdsize_0 ressize_0 musize_0 ⟨zl, l, i⟩ ex r) := by
  simp only [oksize_0, outsize_0, Tree.runs] at hok hr
  obtain ⟨hs, hz, hi, ha⟩ := hok
  have hsum := sum_take ha
  have hsum2 : (0 : Int) ≤ sumI (l.take i) ∧ sumI (l.take i) ≤ 16 * (i : Int) := ⟨hsum.1, by have := hsum.2; rw [List.length_take] at this; omega⟩
  refine Tree.Sat.br (fun h1 => ?_) (fun h1 => ?_)
  · (try simp only [decide_eq_true_eq, decide_eq_false_iff_not, Bool.not_eq_true', Bool.not_eq_false', beq_iff_eq, beq_eq_false_iff_ne, Int.not_lt, Int.not_le, ge_iff_le, gt_iff_lt, ne_eq, Bool.false_eq_true, Bool.true_eq_false, not_true_eq_false, not_false_eq_true, Bool.and_eq_true, Bool.not_eq_eq_eq_not, Bool.not_true, Bool.not_false, bne_iff_ne, bne_eq_false_iff_eq, Int.toNat_natCast, Nat.mul_one, Nat.add_zero, Nat.zero_add, List.take_length, List.drop_zero] at h1)
    all_goals
      refine Tree.Sat.br (fun h2 => ?_) (fun h2 => ?_)
      · (try simp only [decide_eq_true_eq, decide_eq_false_iff_not, Bool.not_eq_true', Bool.not_eq_false', beq_iff_eq, beq_eq_false_iff_ne, Int.not_lt, Int.not_le, ge_iff_le, gt_iff_lt, ne_eq, Bool.false_eq_true, Bool.true_eq_false, not_true_eq_false, not_false_eq_true, Bool.and_eq_true, Bool.not_eq_eq_eq_not, Bool.not_true, Bool.not_false, bne_iff_ne, bne_eq_false_iff_eq, Int.toNat_natCast, Nat.mul_one, Nat.add_zero, Nat.zero_add, List.take_length, List.drop_zero] at h2)
        all_goals
          refine Tree.Sat.br (fun h3 => ?_) (fun h3 => ?_)
          · (try simp only [decide_eq_true_eq, decide_eq_false_iff_not, Bool.not_eq_true', Bool.not_eq_false', beq_iff_eq, beq_eq_false_iff_ne, Int.not_lt, Int.not_le, ge_iff_le, gt_iff_lt, ne_eq, Bool.false_eq_true, Bool.true_eq_false, not_true_eq_false, not_false_eq_true, Bool.and_eq_true, Bool.not_eq_eq_eq_not, Bool.not_true, Bool.not_false, bne_iff_ne, bne_eq_false_iff_eq, Int.toNat_natCast, Nat.mul_one, Nat.add_zero, Nat.zero_add, List.take_length, List.drop_zero] at h3)
            all_goals
              refine Tree.Sat.br (fun h4 => ?_) (fun h4 => ?_)
              · (try simp only [decide_eq_true_eq, decide_eq_false_iff_not, Bool.not_eq_true', Bool.not_eq_false', beq_iff_eq, beq_eq_false_iff_ne, Int.not_lt, Int.not_le, ge_iff_le, gt_iff_lt, ne_eq, Bool.false_eq_true, Bool.true_eq_false, not_true_eq_false, not_false_eq_true, Bool.and_eq_true, Bool.not_eq_eq_eq_not, Bool.not_true, Bool.not_false, bne_iff_ne, bne_eq_false_iff_eq, Int.toNat_natCast, Nat.mul_one, Nat.add_zero, Nat.zero_add, List.take_length, List.drop_zero] at h4)
                all_goals
                  refine Tree.Sat.ret ?_
                  first
                    | (
                      have hq := hr.1 (any_hit (i := i) (by omega) (by simp only [badV, Bool.or_eq_true, decide_eq_true_eq]; omega))
                      simp only [Prod.mk.injEq] at hq
                      obtain ⟨rfl, rfl⟩ := hq
                      refine .ret rfl ?_
                      constructor <;> simp only [AV.leL, AV.le, Mem.le, Mem.leP, Blk.le, Blk.pad, Data.le, Data.size, Cap.le, and_true, true_and, and_self, true_implies, implies_true, imp_self, List.length_nil] <;> (repeat' with_reducible refine And.intro ?_ ?_) <;> (try simp only [Int.toNat_natCast, Nat.mul_one, Nat.add_zero, Nat.zero_add]) <;> done)
                    | (
                      have hq := hr.2 (by rw [List.take_of_length_le (by omega)] at ha; exact ha)
                      simp only [Prod.mk.injEq] at hq
                      obtain ⟨rfl, rfl⟩ := hq
                      refine .exit rfl ?_
                      constructor <;> simp only [AV.leL, AV.le, Mem.le, Mem.leP, Blk.le, Blk.pad, Data.le, Data.size, Cap.le, and_true, true_and, and_self, true_implies, implies_true, imp_self, List.length_nil] <;> (repeat' with_reducible refine And.intro ?_ ?_) <;> (try simp only [Int.toNat_natCast, Nat.mul_one, Nat.add_zero, Nat.zero_add]) <;> rw [List.take_of_length_le (by omega)])
              · (try simp only [decide_eq_true_eq, decide_eq_false_iff_not, Bool.not_eq_true', Bool.not_eq_false', beq_iff_eq, beq_eq_false_iff_ne, Int.not_lt, Int.not_le, ge_iff_le, gt_iff_lt, ne_eq, Bool.false_eq_true, Bool.true_eq_false, not_true_eq_false, not_false_eq_true, Bool.and_eq_true, Bool.not_eq_eq_eq_not, Bool.not_true, Bool.not_false, bne_iff_ne, bne_eq_false_iff_eq, Int.toNat_natCast, Nat.mul_one, Nat.add_zero, Nat.zero_add, List.take_length, List.drop_zero] at h4)
                all_goals
                  refine Tree.Sat.br (fun h5 => ?_) (fun h5 => ?_)
                  · (try simp only [decide_eq_true_eq, decide_eq_false_iff_not, Bool.not_eq_true', Bool.not_eq_false', beq_iff_eq, beq_eq_false_iff_ne, Int.not_lt, Int.not_le, ge_iff_le, gt_iff_lt, ne_eq, Bool.false_eq_true, Bool.true_eq_false, not_true_eq_false, not_false_eq_true, Bool.and_eq_true, Bool.not_eq_eq_eq_not, Bool.not_true, Bool.not_false, bne_iff_ne, bne_eq_false_iff_eq, Int.toNat_natCast, Nat.mul_one, Nat.add_zero, Nat.zero_add, List.take_length, List.drop_zero] at h5)
                    all_goals
                      refine Tree.Sat.ret ?_
                      first
                        | (
                          have hq := hr.1 (any_hit (i := i) (by omega) (by simp only [badV, Bool.or_eq_true, decide_eq_true_eq]; omega))
                          simp only [Prod.mk.injEq] at hq
                          obtain ⟨rfl, rfl⟩ := hq
                          refine .ret rfl ?_
                          constructor <;> simp only [AV.leL, AV.le, Mem.le, Mem.leP, Blk.le, Blk.pad, Data.le, Data.size, Cap.le, and_true, true_and, and_self, true_implies, implies_true, imp_self, List.length_nil] <;> (repeat' with_reducible refine And.intro ?_ ?_) <;> (try simp only [Int.toNat_natCast, Nat.mul_one, Nat.add_zero, Nat.zero_add]) <;> done)
                        | (
                          have hq := hr.2 (by rw [List.take_of_length_le (by omega)] at ha; exact ha)
                          simp only [Prod.mk.injEq] at hq
                          obtain ⟨rfl, rfl⟩ := hq
                          refine .exit rfl ?_
                          constructor <;> simp only [AV.leL, AV.le, Mem.le, Mem.leP, Blk.le, Blk.pad, Data.le, Data.size, Cap.le, and_true, true_and, and_self, true_implies, implies_true, imp_self, List.length_nil] <;> (repeat' with_reducible refine And.intro ?_ ?_) <;> (try simp only [Int.toNat_natCast, Nat.mul_one, Nat.add_zero, Nat.zero_add]) <;> rw [List.take_of_length_le (by omega)])
                  · (try simp only [decide_eq_true_eq, decide_eq_false_iff_not, Bool.not_eq_true', Bool.not_eq_false', beq_iff_eq, beq_eq_false_iff_ne, Int.not_lt, Int.not_le, ge_iff_le, gt_iff_lt, ne_eq, Bool.false_eq_true, Bool.true_eq_false, not_true_eq_false, not_false_eq_true, Bool.and_eq_true, Bool.not_eq_eq_eq_not, Bool.not_true, Bool.not_false, bne_iff_ne, bne_eq_false_iff_eq, Int.toNat_natCast, Nat.mul_one, Nat.add_zero, Nat.zero_add, List.take_length, List.drop_zero] at h5)
                    all_goals
                      refine Tree.Sat.ret ?_
                      refine .norm ⟨zl, l, i + 1⟩ ?_ ?_ ⟨?_, ?_⟩
                      · constructor <;> simp only [hdsize_0, AV.leL, AV.le, Mem.le, Mem.leP, Blk.le, Blk.pad, Data.le, Data.size, Cap.le, and_true, true_and, and_self, true_implies, implies_true, imp_self, List.length_nil] <;> (repeat' with_reducible refine And.intro ?_ ?_) <;> (try simp only [Int.toNat_natCast, Nat.mul_one, Nat.add_zero, Nat.zero_add]) <;> first | exact wadd1 (by omega) | exact sum_step (l := l) (i := i) (by omega) (by omega) (by omega)
                      · simp only [musize_0]; omega
                      · exact ⟨hs, hz, by omega, any_take_succ (by omega) ha (by simp only [badV, Bool.or_eq_false_iff, decide_eq_false_iff_not]; omega)⟩
                      · exact hr
          · (try simp only [decide_eq_true_eq, decide_eq_false_iff_not, Bool.not_eq_true', Bool.not_eq_false', beq_iff_eq, beq_eq_false_iff_ne, Int.not_lt, Int.not_le, ge_iff_le, gt_iff_lt, ne_eq, Bool.false_eq_true, Bool.true_eq_false, not_true_eq_false, not_false_eq_true, Bool.and_eq_true, Bool.not_eq_eq_eq_not, Bool.not_true, Bool.not_false, bne_iff_ne, bne_eq_false_iff_eq, Int.toNat_natCast, Nat.mul_one, Nat.add_zero, Nat.zero_add, List.take_length, List.drop_zero] at h3)
            all_goals
              exfalso
              first | omega | (simp only [w64] at *; omega) | (cases zl <;> simp_all; done) | (cases zl <;> simp_all <;> omega)
      · (try simp only [decide_eq_true_eq, decide_eq_false_iff_not, Bool.not_eq_true', Bool.not_eq_false', beq_iff_eq, beq_eq_false_iff_ne, Int.not_lt, Int.not_le, ge_iff_le, gt_iff_lt, ne_eq, Bool.false_eq_true, Bool.true_eq_false, not_true_eq_false, not_false_eq_true, Bool.and_eq_true, Bool.not_eq_eq_eq_not, Bool.not_true, Bool.not_false, bne_iff_ne, bne_eq_false_iff_eq, Int.toNat_natCast, Nat.mul_one, Nat.add_zero, Nat.zero_add, List.take_length, List.drop_zero] at h2)
        all_goals
          exfalso
          first | omega | (simp only [w64] at *; omega) | (cases zl <;> simp_all; done) | (cases zl <;> simp_all <;> omega)
  · (try simp only [decide_eq_true_eq, decide_eq_false_iff_not, Bool.not_eq_true', Bool.not_eq_false', beq_iff_eq, beq_eq_false_iff_ne, Int.not_lt, Int.not_le, ge_iff_le, gt_iff_lt, ne_eq, Bool.false_eq_true, Bool.true_eq_false, not_true_eq_false, not_false_eq_true, Bool.and_eq_true, Bool.not_eq_eq_eq_not, Bool.not_true, Bool.not_false, bne_iff_ne, bne_eq_false_iff_eq, Int.toNat_natCast, Nat.mul_one, Nat.add_zero, Nat.zero_add, List.take_length, List.drop_zero] at h1)
    all_goals
      refine Tree.Sat.ret ?_
      first
        | (
          have hq := hr.1 (any_hit (i := i) (by omega) (by simp only [badV, Bool.or_eq_true, decide_eq_true_eq]; omega))
          simp only [Prod.mk.injEq] at hq
          obtain ⟨rfl, rfl⟩ := hq
          refine .ret rfl ?_
          constructor <;> simp only [AV.leL, AV.le, Mem.le, Mem.leP, Blk.le, Blk.pad, Data.le, Data.size, Cap.le, and_true, true_and, and_self, true_implies, implies_true, imp_self, List.length_nil] <;> (repeat' with_reducible refine And.intro ?_ ?_) <;> (try simp only [Int.toNat_natCast, Nat.mul_one, Nat.add_zero, Nat.zero_add]) <;> done)
        | (
          have hq := hr.2 (by rw [List.take_of_length_le (by omega)] at ha; exact ha)
          simp only [Prod.mk.injEq] at hq
          obtain ⟨rfl, rfl⟩ := hq
          refine .exit rfl ?_
          constructor <;> simp only [AV.leL, AV.le, Mem.le, Mem.leP, Blk.le, Blk.pad, Data.le, Data.size, Cap.le, and_true, true_and, and_self, true_implies, implies_true, imp_self, List.length_nil] <;> (repeat' with_reducible refine And.intro ?_ ?_) <;> (try simp only [Int.toNat_natCast, Nat.mul_one, Nat.add_zero, Nat.zero_add]) <;> rw [List.take_of_length_le (by omega)])
theorem loopsize_0 (hall : AllOk Try.prog 0 (fun _ => none) tab23) : LoopOk (mkL Try.prog 0 (fun _ => none) tab23 rowssize) 23 1 (bodyAt Try.prog 23 0) := by
  have hkey : Code.key (bodyAt Try.prog 23 0) = 3 := by kernel_rfl
  have hin : loopsIn (bodyAt Try.prog 23 0) = [] := by kernel_rfl
  have hrow : lookL rowssize 23 (Code.key (bodyAt Try.prog 23 0)) = some rowsize_0 := by rw [hkey]; rfl
  refine loop_rowP (X := Xsize_0) (row := rowsize_0) hall mix hrow (fun b hb _ => by rw [hin] at hb; cases hb) Usize_0 hdsize_0 ressize_0 musize_0 (fun st ex r h => ?_) (fun x ex r hr => ?_)
  · have h' : (anssize_0 st).runs (ex, r) := h
    unfold anssize_0 at h'
    split at h'
    · obtain ⟨q1, q2⟩ := Tree.chk_runs h'
      exact ⟨_, q1, q2⟩
    · exact h'.elim
  · obtain ⟨zl, l, i⟩ := x
    have := stepsize_0 zl l i ex r hr.1 hr.2
    rw [← tLsize_0] at this
    exact this
theorem loopssize (hall : AllOk Try.prog 0 (fun _ => none) tab23) : ∀ i, i < (loopsAt Try.prog 23).length → LoopOk (mkL Try.prog 0 (fun _ => none) tab23 rowssize) 23 1 (bodyAt Try.prog 23 i) := by
  intro i hi
  have hlen : (loopsAt Try.prog 23).length = 1 := by kernel_rfl
  rw [hlen] at hi
  obtain rfl : i = 0 := by omega
  · exact loopsize_0 hall
set_option maxRecDepth 100000 in
theorem tsize (zl : Bool) (l : List Int) : evBody (mkL Try.prog 0 (fun _ => none) tab23 rowssize) (evCall (mkC Try.prog 0 (fun _ => none) tab23) 50) 23 [.sl zl ⟨0, 0, 0, 0⟩ false l.length .any] [some ⟨3, false, false, true, .ints .i64 l⟩] =
  Tree.chk
    (St.le
      (St.mk
        [AV.junk, AV.junk, AV.junk, AV.int IntKind.i64 true (0 : Int), AV.junk, AV.junk, AV.sl zl (Ref.mk (0) (0) (0) (0)) false (List.length l) Cap.any, AV.int IntKind.i64 false ((List.length l) : Int),
          AV.int IntKind.i64 true (0 : Int), AV.junk, AV.junk, AV.junk, AV.junk, AV.junk, AV.junk, AV.junk, AV.junk, AV.junk, AV.junk, AV.junk, AV.junk, AV.junk, AV.junk, AV.junk, AV.junk, AV.junk]
        [some (Blk.mk (3) false false true (Data.ints IntKind.i64 l))])
      (St.mk
        [AV.junk, AV.junk, AV.junk, AV.int IntKind.i64 false (sumI (List.take (Int.toNat (0 : Int)) l)), AV.junk, AV.junk, AV.sl zl (Ref.mk (0) (0) (0) (0)) false (List.length l) Cap.any,
          AV.int IntKind.i64 false ((List.length l) : Int), AV.int IntKind.i64 false (0 : Int), AV.junk, AV.junk, AV.junk, AV.junk, AV.junk, AV.junk, AV.junk, AV.junk, AV.junk, AV.junk, AV.junk, AV.junk, AV.junk, AV.junk, AV.junk, AV.junk,
          AV.junk]
        [some (Blk.mk (3) false false true (Data.ints IntKind.i64 l))]))
    (Tree.chk (oksize_0 (Xsize_0.mk zl l (Int.toNat (0 : Int))))
      (Tree.br (List.any l badV) (Tree.ret (AV.int IntKind.i64 true (0 : Int), [some (Blk.mk (3) false false true (Data.ints IntKind.i64 l))]))
        (Tree.br true
          (Tree.ret
            (AV.int IntKind.i64 false (IntKind.wrap IntKind.i64 (Int.tdiv (IntKind.wrap IntKind.i64 (IntKind.wrap IntKind.i64 (sumI l + (16 : Int)) - (1 : Int))) (16 : Int))),
              [some (Blk.mk (3) false false true (Data.ints IntKind.i64 l))]))
          Tree.fail))) := by kernel_rfl
set_option maxRecDepth 100000 in
theorem gsize (zl : Bool) (l : List Int) (hw : l.length ≤ 1000000 ∧ (zl = true → l = [])) : (Tree.chk
    (St.le
      (St.mk
        [AV.junk, AV.junk, AV.junk, AV.int IntKind.i64 true (0 : Int), AV.junk, AV.junk, AV.sl zl (Ref.mk (0) (0) (0) (0)) false (List.length l) Cap.any, AV.int IntKind.i64 false ((List.length l) : Int),
          AV.int IntKind.i64 true (0 : Int), AV.junk, AV.junk, AV.junk, AV.junk, AV.junk, AV.junk, AV.junk, AV.junk, AV.junk, AV.junk, AV.junk, AV.junk, AV.junk, AV.junk, AV.junk, AV.junk, AV.junk]
        [some (Blk.mk (3) false false true (Data.ints IntKind.i64 l))])
      (St.mk
        [AV.junk, AV.junk, AV.junk, AV.int IntKind.i64 false (sumI (List.take (Int.toNat (0 : Int)) l)), AV.junk, AV.junk, AV.sl zl (Ref.mk (0) (0) (0) (0)) false (List.length l) Cap.any,
          AV.int IntKind.i64 false ((List.length l) : Int), AV.int IntKind.i64 false (0 : Int), AV.junk, AV.junk, AV.junk, AV.junk, AV.junk, AV.junk, AV.junk, AV.junk, AV.junk, AV.junk, AV.junk, AV.junk, AV.junk, AV.junk, AV.junk, AV.junk,
          AV.junk]
        [some (Blk.mk (3) false false true (Data.ints IntKind.i64 l))]))
    (Tree.chk (oksize_0 (Xsize_0.mk zl l (Int.toNat (0 : Int))))
      (Tree.br (List.any l badV) (Tree.ret (AV.int IntKind.i64 true (0 : Int), [some (Blk.mk (3) false false true (Data.ints IntKind.i64 l))]))
        (Tree.br true
          (Tree.ret
            (AV.int IntKind.i64 false (IntKind.wrap IntKind.i64 (Int.tdiv (IntKind.wrap IntKind.i64 (IntKind.wrap IntKind.i64 (sumI l + (16 : Int)) - (1 : Int))) (16 : Int))),
              [some (Blk.mk (3) false false true (Data.ints IntKind.i64 l))]))
          Tree.fail))) : Tree (AV × Mem)).GivesP (.int .i64 false (sizeZ l)) ([some ⟨3, false, false, true, .ints .i64 l⟩]) := by
  refine Tree.GivesP.chk (by first | (simp only [and_self]; done) | (constructor <;> simp only [hdsize_0, Int.toNat_zero, Int.cast_ofNat_Int, AV.leL, AV.le, Mem.le, Mem.leP, Blk.le, Blk.pad, Data.le, Data.size, Cap.le, and_true, true_and, and_self, true_implies, implies_true, imp_self, List.length_nil] <;> (try simp only [List.take_zero]) <;> (try rfl))) ?_
  refine Tree.GivesP.chk (by first | (simp only [and_self]; done) | (exact ⟨hw.1, hw.2, Nat.zero_le _, rfl⟩)) ?_
  refine Tree.GivesP.br (fun h1 => ?_) (fun h1 => ?_)
  · (try simp only [decide_eq_true_eq, decide_eq_false_iff_not, Bool.not_eq_true', Bool.not_eq_false', beq_iff_eq, beq_eq_false_iff_ne, Int.not_lt, Int.not_le, ge_iff_le, gt_iff_lt, ne_eq, Bool.false_eq_true, Bool.true_eq_false, not_true_eq_false, not_false_eq_true, Bool.and_eq_true, Bool.not_eq_eq_eq_not, Bool.not_true, Bool.not_false, bne_iff_ne, bne_eq_false_iff_eq, Int.toNat_natCast, Nat.mul_one, Nat.add_zero, Nat.zero_add, List.take_length, List.drop_zero] at h1)
    all_goals
      refine Tree.GivesP.ret ?_ ?_
      · simp only [AV.le, sizeZ, true_and, h1, if_true]
      · simp only [AV.leL, AV.le, Mem.le, Mem.leP, Blk.le, Blk.pad, Data.le, Data.size, Cap.le, and_true, true_and, and_self, true_implies, implies_true, imp_self, List.length_nil]
  · (try simp only [decide_eq_true_eq, decide_eq_false_iff_not, Bool.not_eq_true', Bool.not_eq_false', beq_iff_eq, beq_eq_false_iff_ne, Int.not_lt, Int.not_le, ge_iff_le, gt_iff_lt, ne_eq, Bool.false_eq_true, Bool.true_eq_false, not_true_eq_false, not_false_eq_true, Bool.and_eq_true, Bool.not_eq_eq_eq_not, Bool.not_true, Bool.not_false, bne_iff_ne, bne_eq_false_iff_eq, Int.toNat_natCast, Nat.mul_one, Nat.add_zero, Nat.zero_add, List.take_length, List.drop_zero] at h1)
    all_goals
      refine Tree.GivesP.br (fun h2 => ?_) (fun h2 => ?_)
      · (try simp only [decide_eq_true_eq, decide_eq_false_iff_not, Bool.not_eq_true', Bool.not_eq_false', beq_iff_eq, beq_eq_false_iff_ne, Int.not_lt, Int.not_le, ge_iff_le, gt_iff_lt, ne_eq, Bool.false_eq_true, Bool.true_eq_false, not_true_eq_false, not_false_eq_true, Bool.and_eq_true, Bool.not_eq_eq_eq_not, Bool.not_true, Bool.not_false, bne_iff_ne, bne_eq_false_iff_eq, Int.toNat_natCast, Nat.mul_one, Nat.add_zero, Nat.zero_add, List.take_length, List.drop_zero] at h2)
        all_goals
          refine Tree.GivesP.ret ?_ ?_
          · simp only [AV.le, sizeZ, true_and, h1, Bool.false_eq_true, if_false]; exact size_fin h1 hw.1
          · simp only [AV.leL, AV.le, Mem.le, Mem.leP, Blk.le, Blk.pad, Data.le, Data.size, Cap.le, and_true, true_and, and_self, true_implies, implies_true, imp_self, List.length_nil]
      · (try simp only [decide_eq_true_eq, decide_eq_false_iff_not, Bool.not_eq_true', Bool.not_eq_false', beq_iff_eq, beq_eq_false_iff_ne, Int.not_lt, Int.not_le, ge_iff_le, gt_iff_lt, ne_eq, Bool.false_eq_true, Bool.true_eq_false, not_true_eq_false, not_false_eq_true, Bool.and_eq_true, Bool.not_eq_eq_eq_not, Bool.not_true, Bool.not_false, bne_iff_ne, bne_eq_false_iff_eq, Int.toNat_natCast, Nat.mul_one, Nat.add_zero, Nat.zero_add, List.take_length, List.drop_zero] at h2)
        all_goals
          exfalso
          omega
theorem ssize (hall : AllOk Try.prog 0 (fun _ => none) tab23) (zl : Bool) (l : List Int) (hw : l.length ≤ 1000000 ∧ (zl = true → l = [])) : SoundAt (mkC Try.prog 0 (fun _ => none) []) 23 [.sl zl ⟨0, 0, 0, 0⟩ false l.length .any] [some ⟨3, false, false, true, .ints .i64 l⟩] (.int .i64 false (sizeZ l), [some ⟨3, false, false, true, .ints .i64 l⟩]) := sound_loopsP hall mix (loopssize hall) (tsize zl l) (gsize zl l hw)
theorem Fsize_ok (hall : AllOk Try.prog 0 (fun _ => none) tab23) : PureF Try.prog 3 23 Fsize := by
  intro xs c v news h hc
  unfold Fsize at h
  split at h
  · rename_i zl l
    cases h
    refine ⟨(by intro b hb; cases hb), SoundAt.flags (ssize hall zl l hc) ?_⟩
    simp [PA.avs, AV.le, AV.leL, Cap.le]
  · cases h
end Go.Proofs.Ytnkjblmlchbfkaa.Rig

/- Qrsize -/
namespace Go.Proofs.Ytnkjblmlchbfkaa.Rig
open Go
set_option maxRecDepth 100000 in
theorem tLrsize_0 (zl : Bool) (l : List Int) (i : Nat) : tidied Trsize_0 Ursize_0 1 (evCode (mkL Try.prog 0 (fun _ => none) tab24 rowsrsize) (evCall (mkC Try.prog 0 (fun _ => none) tab24) 50) 24 1 fuelC (bodyAt Try.prog 24 0) (hdrsize_0 ⟨zl, l, i⟩)) =
  Tree.br (decide ((i : Int) < ((List.length l) : Int)))
    (Tree.br (!zl && decide ((0 : Int) ≤ (i : Int) ∧ (i : Int) < ((List.length l) : Int)))
      (Tree.br (decide (Int.toNat (i : Int) * 1 + 0 + 1 ≤ List.length l))
        (Tree.br (decide (List.getD l (Int.toNat (i : Int) * 1 + 0 + 0) (0 : Int) < (1 : Int)))
          (Tree.ret
            (Ex.ret,
              St.mk
                [AV.junk, AV.junk, AV.int IntKind.i64 true (0 : Int), AV.junk, AV.junk, AV.junk, AV.junk, AV.junk, AV.junk, AV.junk, AV.junk, AV.junk, AV.junk, AV.junk, AV.junk, AV.junk, AV.junk, AV.junk, AV.junk, AV.junk, AV.junk, AV.junk,
                  AV.junk, AV.junk, AV.junk, AV.junk, AV.junk, AV.junk, AV.junk, AV.junk, AV.junk, AV.junk]
                [some (Blk.mk (3) false false true (Data.ints IntKind.i64 l))]))
          (Tree.br (!zl && decide ((0 : Int) ≤ (i : Int) ∧ (i : Int) < ((List.length l) : Int)))
            (Tree.br (decide (Int.toNat (i : Int) * 1 + 0 + 1 ≤ List.length l))
              (Tree.br (decide (List.getD l (Int.toNat (i : Int) * 1 + 0 + 0) (0 : Int) > (16 : Int)))
                (Tree.ret
                  (Ex.ret,
                    St.mk
                      [AV.junk, AV.junk, AV.int IntKind.i64 true (0 : Int), AV.junk, AV.junk, AV.junk, AV.junk, AV.junk, AV.junk, AV.junk, AV.junk, AV.junk, AV.junk, AV.junk, AV.junk, AV.junk, AV.junk, AV.junk, AV.junk, AV.junk, AV.junk,
                        AV.junk, AV.junk, AV.junk, AV.junk, AV.junk, AV.junk, AV.junk, AV.junk, AV.junk, AV.junk, AV.junk]
                      [some (Blk.mk (3) false false true (Data.ints IntKind.i64 l))]))
                (Tree.br (!zl && decide ((0 : Int) ≤ (i : Int) ∧ (i : Int) < ((List.length l) : Int)))
                  (Tree.br (decide (Int.toNat (i : Int) * 1 + 0 + 1 ≤ List.length l))
                    (Tree.ret
                      (Ex.norm,
                        St.mk
                          [AV.sl zl (Ref.mk (0) (0) (0) (0)) false (List.length l) Cap.any, AV.junk, AV.junk,
                            AV.int IntKind.i64 false (IntKind.wrap IntKind.i64 (sumI (List.take i l) + List.getD l (Int.toNat (i : Int) * 1 + 0 + 0) (0 : Int))),
                            AV.int IntKind.i64 false (IntKind.wrap IntKind.i64 ((i : Int) + (1 : Int))), AV.junk, AV.junk, AV.junk, AV.junk, AV.junk, AV.junk, AV.junk, AV.junk, AV.junk, AV.junk, AV.junk, AV.junk, AV.junk, AV.junk, AV.junk,
                            AV.junk, AV.junk, AV.junk, AV.junk, AV.junk, AV.junk, AV.junk, AV.junk, AV.junk, AV.junk, AV.junk, AV.junk]
                          [some (Blk.mk (3) false false true (Data.ints IntKind.i64 l))]))
                    Tree.fail)
                  Tree.fail))
              Tree.fail)
            Tree.fail))
        Tree.fail)
      Tree.fail)
    (Tree.ret
      (Ex.exit (0),
        St.mk
          [AV.junk, AV.junk, AV.junk, AV.int IntKind.i64 false (sumI (List.take i l)), AV.junk, AV.junk, AV.junk, AV.junk, AV.junk, AV.junk, AV.junk, AV.junk, AV.junk, AV.junk, AV.junk, AV.junk, AV.junk, AV.junk, AV.junk, AV.junk,
            AV.junk, AV.junk, AV.junk, AV.junk, AV.junk, AV.junk, AV.junk, AV.junk, AV.junk, AV.junk, AV.junk, AV.junk]
          [some (Blk.mk (3) false false true (Data.ints IntKind.i64 l))])) := by kernel_rfl
set_option maxRecDepth 100000 in
theorem steprsize_0 (zl : Bool) (l : List Int) (i : Nat) (ex : Ex) (r : St) (hok : okrsize_0 ⟨zl, l, i⟩) (hr : (outrsize_0 ⟨zl, l, i⟩).runs (ex, r)) : (Tree.br (decide ((i : Int) < ((List.length l) : Int)))
    (Tree.br (!zl && decide ((0 : Int) ≤ (i : Int) ∧ (i : Int) < ((List.length l) : Int)))
      (Tree.br (decide (Int.toNat (i : Int) * 1 + 0 + 1 ≤ List.length l))
        (Tree.br (decide (List.getD l (Int.toNat (i : Int) * 1 + 0 + 0) (0 : Int) < (1 : Int)))
          (Tree.ret
            (Ex.ret,
              St.mk
                [AV.junk, AV.junk, AV.int IntKind.i64 true (0 : Int), AV.junk, AV.junk, AV.junk, AV.junk, AV.junk, AV.junk, AV.junk, AV.junk, AV.junk, AV.junk, AV.junk, AV.junk, AV.junk, AV.junk, AV.junk, AV.junk, AV.junk, AV.junk, AV.junk,
                  AV.junk, AV.junk, AV.junk, AV.junk, AV.junk, AV.junk, AV.junk, AV.junk, AV.junk, AV.junk]
                [some (Blk.mk (3) false false true (Data.ints IntKind.i64 l))]))
          (Tree.br (!zl && decide ((0 : Int) ≤ (i : Int) ∧ (i : Int) < ((List.length l) : Int)))
            (Tree.br (decide (Int.toNat (i : Int) * 1 + 0 + 1 ≤ List.length l))
              (Tree.br (decide (List.getD l (Int.toNat (i : Int) * 1 + 0 + 0) (0 : Int) > (16 : Int)))
                (Tree.ret
                  (Ex.ret,
                    St.mk
                      [AV.junk, AV.junk, AV.int IntKind.i64 true (0 : Int), AV.junk, AV.junk, AV.junk, AV.junk, AV.junk, AV.junk, AV.junk, AV.junk, AV.junk, AV.junk, AV.junk, AV.junk, AV.junk, AV.junk, AV.junk, AV.junk, AV.junk, AV.junk,
                        AV.junk, AV.junk, AV.junk, AV.junk, AV.junk, AV.junk, AV.junk, AV.junk, AV.junk, AV.junk, AV.junk]
                      [some (Blk.mk (3) false false true (Data.ints IntKind.i64 l))]))
                (Tree.br (!zl && decide ((0 : Int) ≤ (i : Int) ∧ (i : Int) < ((List.length l) : Int)))
                  (Tree.br (decide (Int.toNat (i : Int) * 1 + 0 + 1 ≤ List.length l))
                    (Tree.ret
                      (Ex.norm,
                        St.mk
                          [AV.sl zl (Ref.mk (0) (0) (0) (0)) false (List.length l) Cap.any, AV.junk, AV.junk,
                            AV.int IntKind.i64 false (IntKind.wrap IntKind.i64 (sumI (List.take i l) + List.getD l (Int.toNat (i : Int) * 1 + 0 + 0) (0 : Int))),
                            AV.int IntKind.i64 false (IntKind.wrap IntKind.i64 ((i : Int) + (1 : Int))), AV.junk, AV.junk, AV.junk, AV.junk, AV.junk, AV.junk, AV.junk, AV.junk, AV.junk, AV.junk, AV.junk, AV.junk, AV.junk, AV.junk, AV.junk,
                            AV.junk, AV.junk, AV.junk, AV.junk, AV.junk, AV.junk, AV.junk, AV.junk, AV.junk, AV.junk, AV.junk, AV.junk]
                          [some (Blk.mk (3) false false true (Data.ints IntKind.i64 l))]))
                    Tree.fail)
                  Tree.fail))
              Tree.fail)
            Tree.fail))
        Tree.fail)
      Tree.fail)
    (Tree.ret
      (Ex.exit (0),
        St.mk
          [AV.junk, AV.junk, AV.junk, AV.int IntKind.i64 false (sumI (List.take i l)), AV.junk, AV.junk, AV.junk, AV.junk, AV.junk, AV.junk, AV.junk, AV.junk, AV.junk, AV.junk, AV.junk, AV.junk, AV.junk, AV.junk, AV.junk, AV.junk,
            AV.junk, AV.junk, AV.junk, AV.junk, AV.junk, AV.junk, AV.junk, AV.junk, AV.junk, AV.junk, AV.junk, AV.junk]
          [some (Blk.mk (3) false false true (Data.ints IntKind.i64 l))])) : Tree (Ex × St)).Sat (Post hdrsize_0 resrsize_0 mursize_0 ⟨zl, l, i⟩ ex r) := by
  simp only [okrsize_0, outrsize_0, Tree.runs] at hok hr
  obtain ⟨hs, hz, hi, ha⟩ := hok
  have hsum := sum_take ha
  have hsum2 : (0 : Int) ≤ sumI (l.take i) ∧ sumI (l.take i) ≤ 16 * (i : Int) := ⟨hsum.1, by have := hsum.2; rw [List.length_take] at this; omega⟩
  refine Tree.Sat.br (fun h1 => ?_) (fun h1 => ?_)
  · (try simp only [decide_eq_true_eq, decide_eq_false_iff_not, Bool.not_eq_true', Bool.not_eq_false', beq_iff_eq, beq_eq_false_iff_ne, Int.not_lt, Int.not_le, ge_iff_le, gt_iff_lt, ne_eq, Bool.false_eq_true, Bool.true_eq_false, not_true_eq_false, not_false_eq_true, Bool.and_eq_true, Bool.not_eq_eq_eq_not, Bool.not_true, Bool.not_false, bne_iff_ne, bne_eq_false_iff_eq, Int.toNat_natCast, Nat.mul_one, Nat.add_zero, Nat.zero_add, List.take_length, List.drop_zero] at h1)
    all_goals
      refine Tree.Sat.br (fun h2 => ?_) (fun h2 => ?_)
      · (try simp only [decide_eq_true_eq, decide_eq_false_iff_not, Bool.not_eq_true', Bool.not_eq_false', beq_iff_eq, beq_eq_false_iff_ne, Int.not_lt, Int.not_le, ge_iff_le, gt_iff_lt, ne_eq, Bool.false_eq_true, Bool.true_eq_false, not_true_eq_false, not_false_eq_true, Bool.and_eq_true, Bool.not_eq_eq_eq_not, Bool.not_true, Bool.not_false, bne_iff_ne, bne_eq_false_iff_eq, Int.toNat_natCast, Nat.mul_one, Nat.add_zero, Nat.zero_add, List.take_length, List.drop_zero] at h2)
        all_goals
          refine Tree.Sat.br (fun h3 => ?_) (fun h3 => ?_)
          · (try simp only [decide_eq_true_eq, decide_eq_false_iff_not, Bool.not_eq_true', Bool.not_eq_false', beq_iff_eq, beq_eq_false_iff_ne, Int.not_lt, Int.not_le, ge_iff_le, gt_iff_lt, ne_eq, Bool.false_eq_true, Bool.true_eq_false, not_true_eq_false, not_false_eq_true, Bool.and_eq_true, Bool.not_eq_eq_eq_not, Bool.not_true, Bool.not_false, bne_iff_ne, bne_eq_false_iff_eq, Int.toNat_natCast, Nat.mul_one, Nat.add_zero, Nat.zero_add, List.take_length, List.drop_zero] at h3)
            all_goals
              refine Tree.Sat.br (fun h4 => ?_) (fun h4 => ?_)
              · (try simp only [decide_eq_true_eq, decide_eq_false_iff_not, Bool.not_eq_true', Bool.not_eq_false', beq_iff_eq, beq_eq_false_iff_ne, Int.not_lt, Int.not_le, ge_iff_le, gt_iff_lt, ne_eq, Bool.false_eq_true, Bool.true_eq_false, not_true_eq_false, not_false_eq_true, Bool.and_eq_true, Bool.not_eq_eq_eq_not, Bool.not_true, Bool.not_false, bne_iff_ne, bne_eq_false_iff_eq, Int.toNat_natCast, Nat.mul_one, Nat.add_zero, Nat.zero_add, List.take_length, List.drop_zero] at h4)
                all_goals
                  refine Tree.Sat.ret ?_
                  first
                    | (
                      have hq := hr.1 (any_hit (i := i) (by omega) (by simp only [badV, Bool.or_eq_true, decide_eq_true_eq]; omega))
                      simp only [Prod.mk.injEq] at hq
                      obtain ⟨rfl, rfl⟩ := hq
                      refine .ret rfl ?_
                      constructor <;> simp only [AV.leL, AV.le, Mem.le, Mem.leP, Blk.le, Blk.pad, Data.le, Data.size, Cap.le, and_true, true_and, and_self, true_implies, implies_true, imp_self, List.length_nil] <;> (repeat' with_reducible refine And.intro ?_ ?_) <;> (try simp only [Int.toNat_natCast, Nat.mul_one, Nat.add_zero, Nat.zero_add]) <;> done)
                    | (
                      have hq := hr.2 (by rw [List.take_of_length_le (by omega)] at ha; exact ha)
                      simp only [Prod.mk.injEq] at hq
                      obtain ⟨rfl, rfl⟩ := hq
                      refine .exit rfl ?_
                      constructor <;> simp only [AV.leL, AV.le, Mem.le, Mem.leP, Blk.le, Blk.pad, Data.le, Data.size, Cap.le, and_true, true_and, and_self, true_implies, implies_true, imp_self, List.length_nil] <;> (repeat' with_reducible refine And.intro ?_ ?_) <;> (try simp only [Int.toNat_natCast, Nat.mul_one, Nat.add_zero, Nat.zero_add]) <;> rw [List.take_of_length_le (by omega)])
              · (try simp only [decide_eq_true_eq, decide_eq_false_iff_not, Bool.not_eq_true', Bool.not_eq_false', beq_iff_eq, beq_eq_false_iff_ne, Int.not_lt, Int.not_le, ge_iff_le, gt_iff_lt, ne_eq, Bool.false_eq_true, Bool.true_eq_false, not_true_eq_false, not_false_eq_true, Bool.and_eq_true, Bool.not_eq_eq_eq_not, Bool.not_true, Bool.not_false, bne_iff_ne, bne_eq_false_iff_eq, Int.toNat_natCast, Nat.mul_one, Nat.add_zero, Nat.zero_add, List.take_length, List.drop_zero] at h4)
                all_goals
                  refine Tree.Sat.br (fun h5 => ?_) (fun h5 => ?_)
                  · (try simp only [decide_eq_true_eq, decide_eq_false_iff_not, Bool.not_eq_true', Bool.not_eq_false', beq_iff_eq, beq_eq_false_iff_ne, Int.not_lt, Int.not_le, ge_iff_le, gt_iff_lt, ne_eq, Bool.false_eq_true, Bool.true_eq_false, not_true_eq_false, not_false_eq_true, Bool.and_eq_true, Bool.not_eq_eq_eq_not, Bool.not_true, Bool.not_false, bne_iff_ne, bne_eq_false_iff_eq, Int.toNat_natCast, Nat.mul_one, Nat.add_zero, Nat.zero_add, List.take_length, List.drop_zero] at h5)
                    all_goals
                      refine Tree.Sat.br (fun h6 => ?_) (fun h6 => ?_)
                      · (try simp only [decide_eq_true_eq, decide_eq_false_iff_not, Bool.not_eq_true', Bool.not_eq_false', beq_iff_eq, beq_eq_false_iff_ne, Int.not_lt, Int.not_le, ge_iff_le, gt_iff_lt, ne_eq, Bool.false_eq_true, Bool.true_eq_false, not_true_eq_false, not_false_eq_true, Bool.and_eq_true, Bool.not_eq_eq_eq_not, Bool.not_true, Bool.not_false, bne_iff_ne, bne_eq_false_iff_eq, Int.toNat_natCast, Nat.mul_one, Nat.add_zero, Nat.zero_add, List.take_length, List.drop_zero] at h6)
                        all_goals
                          refine Tree.Sat.br (fun h7 => ?_) (fun h7 => ?_)
                          · (try simp only [decide_eq_true_eq, decide_eq_false_iff_not, Bool.not_eq_true', Bool.not_eq_false', beq_iff_eq, beq_eq_false_iff_ne, Int.not_lt, Int.not_le, ge_iff_le, gt_iff_lt, ne_eq, Bool.false_eq_true, Bool.true_eq_false, not_true_eq_false, not_false_eq_true, Bool.and_eq_true, Bool.not_eq_eq_eq_not, Bool.not_true, Bool.not_false, bne_iff_ne, bne_eq_false_iff_eq, Int.toNat_natCast, Nat.mul_one, Nat.add_zero, Nat.zero_add, List.take_length, List.drop_zero] at h7)
                            all_goals
                              refine Tree.Sat.ret ?_
                              first
                                | (
                                  have hq := hr.1 (any_hit (i := i) (by omega) (by simp only [badV, Bool.or_eq_true, decide_eq_true_eq]; omega))
                                  simp only [Prod.mk.injEq] at hq
                                  obtain ⟨rfl, rfl⟩ := hq
                                  refine .ret rfl ?_
                                  constructor <;> simp only [AV.leL, AV.le, Mem.le, Mem.leP, Blk.le, Blk.pad, Data.le, Data.size, Cap.le, and_true, true_and, and_self, true_implies, implies_true, imp_self, List.length_nil] <;> (repeat' with_reducible refine And.intro ?_ ?_) <;> (try simp only [Int.toNat_natCast, Nat.mul_one, Nat.add_zero, Nat.zero_add]) <;> done)
                                | (
                                  have hq := hr.2 (by rw [List.take_of_length_le (by omega)] at ha; exact ha)
                                  simp only [Prod.mk.injEq] at hq
                                  obtain ⟨rfl, rfl⟩ := hq
                                  refine .exit rfl ?_
                                  constructor <;> simp only [AV.leL, AV.le, Mem.le, Mem.leP, Blk.le, Blk.pad, Data.le, Data.size, Cap.le, and_true, true_and, and_self, true_implies, implies_true, imp_self, List.length_nil] <;> (repeat' with_reducible refine And.intro ?_ ?_) <;> (try simp only [Int.toNat_natCast, Nat.mul_one, Nat.add_zero, Nat.zero_add]) <;> rw [List.take_of_length_le (by omega)])
                          · (try simp only [decide_eq_true_eq, decide_eq_false_iff_not, Bool.not_eq_true', Bool.not_eq_false', beq_iff_eq, beq_eq_false_iff_ne, Int.not_lt, Int.not_le, ge_iff_le, gt_iff_lt, ne_eq, Bool.false_eq_true, Bool.true_eq_false, not_true_eq_false, not_false_eq_true, Bool.and_eq_true, Bool.not_eq_eq_eq_not, Bool.not_true, Bool.not_false, bne_iff_ne, bne_eq_false_iff_eq, Int.toNat_natCast, Nat.mul_one, Nat.add_zero, Nat.zero_add, List.take_length, List.drop_zero] at h7)
                            all_goals
                              refine Tree.Sat.br (fun h8 => ?_) (fun h8 => ?_)
                              · (try simp only [decide_eq_true_eq, decide_eq_false_iff_not, Bool.not_eq_true', Bool.not_eq_false', beq_iff_eq, beq_eq_false_iff_ne, Int.not_lt, Int.not_le, ge_iff_le, gt_iff_lt, ne_eq, Bool.false_eq_true, Bool.true_eq_false, not_true_eq_false, not_false_eq_true, Bool.and_eq_true, Bool.not_eq_eq_eq_not, Bool.not_true, Bool.not_false, bne_iff_ne, bne_eq_false_iff_eq, Int.toNat_natCast, Nat.mul_one, Nat.add_zero, Nat.zero_add, List.take_length, List.drop_zero] at h8)
                                all_goals
                                  refine Tree.Sat.br (fun h9 => ?_) (fun h9 => ?_)
                                  · (try simp only [decide_eq_true_eq, decide_eq_false_iff_not, Bool.not_eq_true', Bool.not_eq_false', beq_iff_eq, beq_eq_false_iff_ne, Int.not_lt, Int.not_le, ge_iff_le, gt_iff_lt, ne_eq, Bool.false_eq_true, Bool.true_eq_false, not_true_eq_false, not_false_eq_true, Bool.and_eq_true, Bool.not_eq_eq_eq_not, Bool.not_true, Bool.not_false, bne_iff_ne, bne_eq_false_iff_eq, Int.toNat_natCast, Nat.mul_one, Nat.add_zero, Nat.zero_add, List.take_length, List.drop_zero] at h9)
                                    all_goals
                                      refine Tree.Sat.ret ?_
                                      refine .norm ⟨zl, l, i + 1⟩ ?_ ?_ ⟨?_, ?_⟩
                                      · constructor <;> simp only [hdrsize_0, AV.leL, AV.le, Mem.le, Mem.leP, Blk.le, Blk.pad, Data.le, Data.size, Cap.le, and_true, true_and, and_self, true_implies, implies_true, imp_self, List.length_nil] <;> (repeat' with_reducible refine And.intro ?_ ?_) <;> (try simp only [Int.toNat_natCast, Nat.mul_one, Nat.add_zero, Nat.zero_add]) <;> first | exact wadd1 (by omega) | exact sum_step (l := l) (i := i) (by omega) (by omega) (by omega)
                                      · simp only [mursize_0]; omega
                                      · exact ⟨hs, hz, by omega, any_take_succ (by omega) ha (by simp only [badV, Bool.or_eq_false_iff, decide_eq_false_iff_not]; omega)⟩
                                      · exact hr
                                  · (try simp only [decide_eq_true_eq, decide_eq_false_iff_not, Bool.not_eq_true', Bool.not_eq_false', beq_iff_eq, beq_eq_false_iff_ne, Int.not_lt, Int.not_le, ge_iff_le, gt_iff_lt, ne_eq, Bool.false_eq_true, Bool.true_eq_false, not_true_eq_false, not_false_eq_true, Bool.and_eq_true, Bool.not_eq_eq_eq_not, Bool.not_true, Bool.not_false, bne_iff_ne, bne_eq_false_iff_eq, Int.toNat_natCast, Nat.mul_one, Nat.add_zero, Nat.zero_add, List.take_length, List.drop_zero] at h9)
                                    all_goals
                                      exfalso
                                      first | omega | (simp only [w64] at *; omega) | (cases zl <;> simp_all; done) | (cases zl <;> simp_all <;> omega)
                              · (try simp only [decide_eq_true_eq, decide_eq_false_iff_not, Bool.not_eq_true', Bool.not_eq_false', beq_iff_eq, beq_eq_false_iff_ne, Int.not_lt, Int.not_le, ge_iff_le, gt_iff_lt, ne_eq, Bool.false_eq_true, Bool.true_eq_false, not_true_eq_false, not_false_eq_true, Bool.and_eq_true, Bool.not_eq_eq_eq_not, Bool.not_true, Bool.not_false, bne_iff_ne, bne_eq_false_iff_eq, Int.toNat_natCast, Nat.mul_one, Nat.add_zero, Nat.zero_add, List.take_length, List.drop_zero] at h8)
                                all_goals
                                  exfalso
                                  first | omega | (simp only [w64] at *; omega) | (cases zl <;> simp_all; done) | (cases zl <;> simp_all <;> omega)
                      · (try simp only [decide_eq_true_eq, decide_eq_false_iff_not, Bool.not_eq_true', Bool.not_eq_false', beq_iff_eq, beq_eq_false_iff_ne, Int.not_lt, Int.not_le, ge_iff_le, gt_iff_lt, ne_eq, Bool.false_eq_true, Bool.true_eq_false, not_true_eq_false, not_false_eq_true, Bool.and_eq_true, Bool.not_eq_eq_eq_not, Bool.not_true, Bool.not_false, bne_iff_ne, bne_eq_false_iff_eq, Int.toNat_natCast, Nat.mul_one, Nat.add_zero, Nat.zero_add, List.take_length, List.drop_zero] at h6)
                        all_goals
                          exfalso
                          first | omega | (simp only [w64] at *; omega) | (cases zl <;> simp_all; done) | (cases zl <;> simp_all <;> omega)
                  · (try simp only [decide_eq_true_eq, decide_eq_false_iff_not, Bool.not_eq_true', Bool.not_eq_false', beq_iff_eq, beq_eq_false_iff_ne, Int.not_lt, Int.not_le, ge_iff_le, gt_iff_lt, ne_eq, Bool.false_eq_true, Bool.true_eq_false, not_true_eq_false, not_false_eq_true, Bool.and_eq_true, Bool.not_eq_eq_eq_not, Bool.not_true, Bool.not_false, bne_iff_ne, bne_eq_false_iff_eq, Int.toNat_natCast, Nat.mul_one, Nat.add_zero, Nat.zero_add, List.take_length, List.drop_zero] at h5)
                    all_goals
                      exfalso
                      first | omega | (simp only [w64] at *; omega) | (cases zl <;> simp_all; done) | (cases zl <;> simp_all <;> omega)
          · (try simp only [decide_eq_true_eq, decide_eq_false_iff_not, Bool.not_eq_true', Bool.not_eq_false', beq_iff_eq, beq_eq_false_iff_ne, Int.not_lt, Int.not_le, ge_iff_le, gt_iff_lt, ne_eq, Bool.false_eq_true, Bool.true_eq_false, not_true_eq_false, not_false_eq_true, Bool.and_eq_true, Bool.not_eq_eq_eq_not, Bool.not_true, Bool.not_false, bne_iff_ne, bne_eq_false_iff_eq, Int.toNat_natCast, Nat.mul_one, Nat.add_zero, Nat.zero_add, List.take_length, List.drop_zero] at h3)
            all_goals
              exfalso
              first | omega | (simp only [w64] at *; omega) | (cases zl <;> simp_all; done) | (cases zl <;> simp_all <;> omega)
      · (try simp only [decide_eq_true_eq, decide_eq_false_iff_not, Bool.not_eq_true', Bool.not_eq_false', beq_iff_eq, beq_eq_false_iff_ne, Int.not_lt, Int.not_le, ge_iff_le, gt_iff_lt, ne_eq, Bool.false_eq_true, Bool.true_eq_false, not_true_eq_false, not_false_eq_true, Bool.and_eq_true, Bool.not_eq_eq_eq_not, Bool.not_true, Bool.not_false, bne_iff_ne, bne_eq_false_iff_eq, Int.toNat_natCast, Nat.mul_one, Nat.add_zero, Nat.zero_add, List.take_length, List.drop_zero] at h2)
        all_goals
          exfalso
          first | omega | (simp only [w64] at *; omega) | (cases zl <;> simp_all; done) | (cases zl <;> simp_all <;> omega)
  · (try simp only [decide_eq_true_eq, decide_eq_false_iff_not, Bool.not_eq_true', Bool.not_eq_false', beq_iff_eq, beq_eq_false_iff_ne, Int.not_lt, Int.not_le, ge_iff_le, gt_iff_lt, ne_eq, Bool.false_eq_true, Bool.true_eq_false, not_true_eq_false, not_false_eq_true, Bool.and_eq_true, Bool.not_eq_eq_eq_not, Bool.not_true, Bool.not_false, bne_iff_ne, bne_eq_false_iff_eq, Int.toNat_natCast, Nat.mul_one, Nat.add_zero, Nat.zero_add, List.take_length, List.drop_zero] at h1)
    all_goals
      refine Tree.Sat.ret ?_
      first
        | (
          have hq := hr.1 (any_hit (i := i) (by omega) (by simp only [badV, Bool.or_eq_true, decide_eq_true_eq]; omega))
          simp only [Prod.mk.injEq] at hq
          obtain ⟨rfl, rfl⟩ := hq
          refine .ret rfl ?_
          constructor <;> simp only [AV.leL, AV.le, Mem.le, Mem.leP, Blk.le, Blk.pad, Data.le, Data.size, Cap.le, and_true, true_and, and_self, true_implies, implies_true, imp_self, List.length_nil] <;> (repeat' with_reducible refine And.intro ?_ ?_) <;> (try simp only [Int.toNat_natCast, Nat.mul_one, Nat.add_zero, Nat.zero_add]) <;> done)
        | (
          have hq := hr.2 (by rw [List.take_of_length_le (by omega)] at ha; exact ha)
          simp only [Prod.mk.injEq] at hq
          obtain ⟨rfl, rfl⟩ := hq
          refine .exit rfl ?_
          constructor <;> simp only [AV.leL, AV.le, Mem.le, Mem.leP, Blk.le, Blk.pad, Data.le, Data.size, Cap.le, and_true, true_and, and_self, true_implies, implies_true, imp_self, List.length_nil] <;> (repeat' with_reducible refine And.intro ?_ ?_) <;> (try simp only [Int.toNat_natCast, Nat.mul_one, Nat.add_zero, Nat.zero_add]) <;> rw [List.take_of_length_le (by omega)])
theorem looprsize_0 (hall : AllOk Try.prog 0 (fun _ => none) tab24) : LoopOk (mkL Try.prog 0 (fun _ => none) tab24 rowsrsize) 24 1 (bodyAt Try.prog 24 0) := by
  have hkey : Code.key (bodyAt Try.prog 24 0) = 3 := by kernel_rfl
  have hin : loopsIn (bodyAt Try.prog 24 0) = [] := by kernel_rfl
  have hrow : lookL rowsrsize 24 (Code.key (bodyAt Try.prog 24 0)) = some rowrsize_0 := by rw [hkey]; rfl
  refine loop_rowP (X := Xrsize_0) (row := rowrsize_0) hall mix hrow (fun b hb _ => by rw [hin] at hb; cases hb) Ursize_0 hdrsize_0 resrsize_0 mursize_0 (fun st ex r h => ?_) (fun x ex r hr => ?_)
  · have h' : (ansrsize_0 st).runs (ex, r) := h
    unfold ansrsize_0 at h'
    split at h'
    · obtain ⟨q1, q2⟩ := Tree.chk_runs h'
      exact ⟨_, q1, q2⟩
    · exact h'.elim
  · obtain ⟨zl, l, i⟩ := x
    have := steprsize_0 zl l i ex r hr.1 hr.2
    rw [← tLrsize_0] at this
    exact this
theorem loopsrsize (hall : AllOk Try.prog 0 (fun _ => none) tab24) : ∀ i, i < (loopsAt Try.prog 24).length → LoopOk (mkL Try.prog 0 (fun _ => none) tab24 rowsrsize) 24 1 (bodyAt Try.prog 24 i) := by
  intro i hi
  have hlen : (loopsAt Try.prog 24).length = 1 := by kernel_rfl
  rw [hlen] at hi
  obtain rfl : i = 0 := by omega
  · exact looprsize_0 hall
set_option maxRecDepth 100000 in
theorem trsize (zl : Bool) (l : List Int) : evBody (mkL Try.prog 0 (fun _ => none) tab24 rowsrsize) (evCall (mkC Try.prog 0 (fun _ => none) tab24) 50) 24 [.sl zl ⟨0, 0, 0, 0⟩ false l.length .any] [some ⟨3, false, false, true, .ints .i64 l⟩] =
  Tree.chk
    (St.le
      (St.mk
        [AV.sl zl (Ref.mk (0) (0) (0) (0)) false (List.length l) Cap.any, AV.junk, AV.junk, AV.int IntKind.i64 true (0 : Int), AV.int IntKind.i64 true (0 : Int), AV.junk, AV.junk, AV.junk, AV.junk,
          AV.junk, AV.junk, AV.junk, AV.junk, AV.junk, AV.junk, AV.junk, AV.junk, AV.junk, AV.junk, AV.junk, AV.junk, AV.junk, AV.junk, AV.junk, AV.junk, AV.junk, AV.junk, AV.junk, AV.junk, AV.junk, AV.junk, AV.junk]
        [some (Blk.mk (3) false false true (Data.ints IntKind.i64 l))])
      (St.mk
        [AV.sl zl (Ref.mk (0) (0) (0) (0)) false (List.length l) Cap.any, AV.junk, AV.junk, AV.int IntKind.i64 false (sumI (List.take (Int.toNat (0 : Int)) l)), AV.int IntKind.i64 false (0 : Int),
          AV.junk, AV.junk, AV.junk, AV.junk, AV.junk, AV.junk, AV.junk, AV.junk, AV.junk, AV.junk, AV.junk, AV.junk, AV.junk, AV.junk, AV.junk, AV.junk, AV.junk, AV.junk, AV.junk, AV.junk, AV.junk, AV.junk, AV.junk, AV.junk, AV.junk,
          AV.junk, AV.junk]
        [some (Blk.mk (3) false false true (Data.ints IntKind.i64 l))]))
    (Tree.chk (okrsize_0 (Xrsize_0.mk zl l (Int.toNat (0 : Int))))
      (Tree.br (List.any l badV) (Tree.ret (AV.int IntKind.i64 true (0 : Int), [some (Blk.mk (3) false false true (Data.ints IntKind.i64 l))]))
        (Tree.br true (Tree.ret (AV.int IntKind.i64 false (IntKind.wrap IntKind.i64 (Int.tdiv (IntKind.wrap IntKind.i64 (sumI l + (15 : Int))) (16 : Int))), [some (Blk.mk (3) false false true (Data.ints IntKind.i64 l))]))
          Tree.fail))) := by kernel_rfl
set_option maxRecDepth 100000 in
theorem grsize (zl : Bool) (l : List Int) (hw : l.length ≤ 1000000 ∧ (zl = true → l = [])) : (Tree.chk
    (St.le
      (St.mk
        [AV.sl zl (Ref.mk (0) (0) (0) (0)) false (List.length l) Cap.any, AV.junk, AV.junk, AV.int IntKind.i64 true (0 : Int), AV.int IntKind.i64 true (0 : Int), AV.junk, AV.junk, AV.junk, AV.junk,
          AV.junk, AV.junk, AV.junk, AV.junk, AV.junk, AV.junk, AV.junk, AV.junk, AV.junk, AV.junk, AV.junk, AV.junk, AV.junk, AV.junk, AV.junk, AV.junk, AV.junk, AV.junk, AV.junk, AV.junk, AV.junk, AV.junk, AV.junk]
        [some (Blk.mk (3) false false true (Data.ints IntKind.i64 l))])
      (St.mk
        [AV.sl zl (Ref.mk (0) (0) (0) (0)) false (List.length l) Cap.any, AV.junk, AV.junk, AV.int IntKind.i64 false (sumI (List.take (Int.toNat (0 : Int)) l)), AV.int IntKind.i64 false (0 : Int),
          AV.junk, AV.junk, AV.junk, AV.junk, AV.junk, AV.junk, AV.junk, AV.junk, AV.junk, AV.junk, AV.junk, AV.junk, AV.junk, AV.junk, AV.junk, AV.junk, AV.junk, AV.junk, AV.junk, AV.junk, AV.junk, AV.junk, AV.junk, AV.junk, AV.junk,
          AV.junk, AV.junk]
        [some (Blk.mk (3) false false true (Data.ints IntKind.i64 l))]))
    (Tree.chk (okrsize_0 (Xrsize_0.mk zl l (Int.toNat (0 : Int))))
      (Tree.br (List.any l badV) (Tree.ret (AV.int IntKind.i64 true (0 : Int), [some (Blk.mk (3) false false true (Data.ints IntKind.i64 l))]))
        (Tree.br true (Tree.ret (AV.int IntKind.i64 false (IntKind.wrap IntKind.i64 (Int.tdiv (IntKind.wrap IntKind.i64 (sumI l + (15 : Int))) (16 : Int))), [some (Blk.mk (3) false false true (Data.ints IntKind.i64 l))]))
          Tree.fail))) : Tree (AV × Mem)).GivesP (.int .i64 false (sizeZ l)) ([some ⟨3, false, false, true, .ints .i64 l⟩]) := by
  refine Tree.GivesP.chk (by first | (simp only [and_self]; done) | (constructor <;> simp only [hdrsize_0, Int.toNat_zero, Int.cast_ofNat_Int, AV.leL, AV.le, Mem.le, Mem.leP, Blk.le, Blk.pad, Data.le, Data.size, Cap.le, and_true, true_and, and_self, true_implies, implies_true, imp_self, List.length_nil] <;> (try simp only [List.take_zero]) <;> (try rfl))) ?_
  refine Tree.GivesP.chk (by first | (simp only [and_self]; done) | (exact ⟨hw.1, hw.2, Nat.zero_le _, rfl⟩)) ?_
  refine Tree.GivesP.br (fun h1 => ?_) (fun h1 => ?_)
  · (try simp only [decide_eq_true_eq, decide_eq_false_iff_not, Bool.not_eq_true', Bool.not_eq_false', beq_iff_eq, beq_eq_false_iff_ne, Int.not_lt, Int.not_le, ge_iff_le, gt_iff_lt, ne_eq, Bool.false_eq_true, Bool.true_eq_false, not_true_eq_false, not_false_eq_true, Bool.and_eq_true, Bool.not_eq_eq_eq_not, Bool.not_true, Bool.not_false, bne_iff_ne, bne_eq_false_iff_eq, Int.toNat_natCast, Nat.mul_one, Nat.add_zero, Nat.zero_add, List.take_length, List.drop_zero] at h1)
    all_goals
      refine Tree.GivesP.ret ?_ ?_
      · simp only [AV.le, sizeZ, true_and, h1, if_true]
      · simp only [AV.leL, AV.le, Mem.le, Mem.leP, Blk.le, Blk.pad, Data.le, Data.size, Cap.le, and_true, true_and, and_self, true_implies, implies_true, imp_self, List.length_nil]
  · (try simp only [decide_eq_true_eq, decide_eq_false_iff_not, Bool.not_eq_true', Bool.not_eq_false', beq_iff_eq, beq_eq_false_iff_ne, Int.not_lt, Int.not_le, ge_iff_le, gt_iff_lt, ne_eq, Bool.false_eq_true, Bool.true_eq_false, not_true_eq_false, not_false_eq_true, Bool.and_eq_true, Bool.not_eq_eq_eq_not, Bool.not_true, Bool.not_false, bne_iff_ne, bne_eq_false_iff_eq, Int.toNat_natCast, Nat.mul_one, Nat.add_zero, Nat.zero_add, List.take_length, List.drop_zero] at h1)
    all_goals
      refine Tree.GivesP.br (fun h2 => ?_) (fun h2 => ?_)
      · (try simp only [decide_eq_true_eq, decide_eq_false_iff_not, Bool.not_eq_true', Bool.not_eq_false', beq_iff_eq, beq_eq_false_iff_ne, Int.not_lt, Int.not_le, ge_iff_le, gt_iff_lt, ne_eq, Bool.false_eq_true, Bool.true_eq_false, not_true_eq_false, not_false_eq_true, Bool.and_eq_true, Bool.not_eq_eq_eq_not, Bool.not_true, Bool.not_false, bne_iff_ne, bne_eq_false_iff_eq, Int.toNat_natCast, Nat.mul_one, Nat.add_zero, Nat.zero_add, List.take_length, List.drop_zero] at h2)
        all_goals
          refine Tree.GivesP.ret ?_ ?_
          · simp only [AV.le, sizeZ, true_and, h1, Bool.false_eq_true, if_false]; exact size_finR h1 hw.1
          · simp only [AV.leL, AV.le, Mem.le, Mem.leP, Blk.le, Blk.pad, Data.le, Data.size, Cap.le, and_true, true_and, and_self, true_implies, implies_true, imp_self, List.length_nil]
      · (try simp only [decide_eq_true_eq, decide_eq_false_iff_not, Bool.not_eq_true', Bool.not_eq_false', beq_iff_eq, beq_eq_false_iff_ne, Int.not_lt, Int.not_le, ge_iff_le, gt_iff_lt, ne_eq, Bool.false_eq_true, Bool.true_eq_false, not_true_eq_false, not_false_eq_true, Bool.and_eq_true, Bool.not_eq_eq_eq_not, Bool.not_true, Bool.not_false, bne_iff_ne, bne_eq_false_iff_eq, Int.toNat_natCast, Nat.mul_one, Nat.add_zero, Nat.zero_add, List.take_length, List.drop_zero] at h2)
        all_goals
          exfalso
          omega
theorem srsize (hall : AllOk Try.prog 0 (fun _ => none) tab24) (zl : Bool) (l : List Int) (hw : l.length ≤ 1000000 ∧ (zl = true → l = [])) : SoundAt (mkC Try.prog 0 (fun _ => none) []) 24 [.sl zl ⟨0, 0, 0, 0⟩ false l.length .any] [some ⟨3, false, false, true, .ints .i64 l⟩] (.int .i64 false (sizeZ l), [some ⟨3, false, false, true, .ints .i64 l⟩]) := sound_loopsP hall mix (loopsrsize hall) (trsize zl l) (grsize zl l hw)
theorem Frsize_ok (hall : AllOk Try.prog 0 (fun _ => none) tab24) : PureF Try.prog 3 24 Frsize := by
  intro xs c v news h hc
  unfold Frsize at h
  split at h
  · rename_i zl l
    cases h
    refine ⟨(by intro b hb; cases hb), SoundAt.flags (srsize hall zl l hc) ?_⟩
    simp [PA.avs, AV.le, AV.leL, Cap.le]
  · cases h
end Go.Proofs.Ytnkjblmlchbfkaa.Rig

/- Qpower -/
namespace Go.Proofs.Ytnkjblmlchbfkaa.Rig
open Go
set_option maxRecDepth 100000 in
theorem tLpower_0 (n : Int) (i : Nat) : tidied Tpower_0 Upower_0 0 (evCode (mkL Try.prog 0 (fun _ => none) tab25 rowspower) (evCall (mkC Try.prog 0 (fun _ => none) tab25) 50) 33 0 fuelC (bodyAt Try.prog 33 0) (hdpower_0 ⟨n, i⟩)) =
  Tree.br (decide ((i : Int) < n))
    (Tree.ret
      (Ex.norm,
        St.mk
          [AV.int IntKind.i64 false n, AV.junk, AV.junk, AV.int IntKind.i64 false (IntKind.wrap IntKind.i64 ((2 : Int) * (2 : Int) ^ i)), AV.int IntKind.i64 false (IntKind.wrap IntKind.i64 ((i : Int) + (1 : Int))), AV.junk, AV.junk,
            AV.junk, AV.junk, AV.junk, AV.junk, AV.junk, AV.junk]
          []))
    (Tree.ret (Ex.exit (0), St.mk [AV.junk, AV.junk, AV.junk, AV.int IntKind.i64 false ((2 : Int) ^ i), AV.junk, AV.junk, AV.junk, AV.junk, AV.junk, AV.junk, AV.junk, AV.junk, AV.junk] [])) := by kernel_rfl
set_option maxRecDepth 100000 in
theorem steppower_0 (n : Int) (i : Nat) (ex : Ex) (r : St) (hok : okpower_0 ⟨n, i⟩) (hr : (outpower_0 ⟨n, i⟩).runs (ex, r)) : (Tree.br (decide ((i : Int) < n))
    (Tree.ret
      (Ex.norm,
        St.mk
          [AV.int IntKind.i64 false n, AV.junk, AV.junk, AV.int IntKind.i64 false (IntKind.wrap IntKind.i64 ((2 : Int) * (2 : Int) ^ i)), AV.int IntKind.i64 false (IntKind.wrap IntKind.i64 ((i : Int) + (1 : Int))), AV.junk, AV.junk,
            AV.junk, AV.junk, AV.junk, AV.junk, AV.junk, AV.junk]
          []))
    (Tree.ret (Ex.exit (0), St.mk [AV.junk, AV.junk, AV.junk, AV.int IntKind.i64 false ((2 : Int) ^ i), AV.junk, AV.junk, AV.junk, AV.junk, AV.junk, AV.junk, AV.junk, AV.junk, AV.junk] [])) : Tree (Ex × St)).Sat (Post hdpower_0 respower_0 mupower_0 ⟨n, i⟩ ex r) := by
  simp only [okpower_0, outpower_0, Tree.runs] at hok hr
  obtain ⟨h62, hi⟩ := hok
  refine Tree.Sat.br (fun h1 => ?_) (fun h1 => ?_)
  · (try simp only [decide_eq_true_eq, decide_eq_false_iff_not, Bool.not_eq_true', Bool.not_eq_false', beq_iff_eq, beq_eq_false_iff_ne, Int.not_lt, Int.not_le, ge_iff_le, gt_iff_lt, ne_eq, Bool.false_eq_true, Bool.true_eq_false, not_true_eq_false, not_false_eq_true, Bool.and_eq_true, Bool.not_eq_eq_eq_not, Bool.not_true, Bool.not_false, bne_iff_ne, bne_eq_false_iff_eq, Int.toNat_natCast, Nat.mul_one, Nat.add_zero, Nat.zero_add, List.take_length, List.drop_zero] at h1)
    all_goals
      refine Tree.Sat.ret ?_
      refine .norm ⟨n, i + 1⟩ ?_ ?_ ⟨?_, ?_⟩
      · constructor <;> simp only [hdpower_0, AV.leL, AV.le, Mem.le, Mem.leP, Blk.le, Blk.pad, Data.le, Data.size, Cap.le, and_true, true_and, and_self, true_implies, implies_true, imp_self, List.length_nil] <;> (repeat' with_reducible refine And.intro ?_ ?_) <;> (try simp only [Int.toNat_natCast, Nat.mul_one, Nat.add_zero, Nat.zero_add]) <;> first | exact wadd1 (by omega) | exact power_step (i := i) (by omega)
      · simp only [mupower_0]; omega
      · exact ⟨h62, by omega⟩
      · exact hr
  · (try simp only [decide_eq_true_eq, decide_eq_false_iff_not, Bool.not_eq_true', Bool.not_eq_false', beq_iff_eq, beq_eq_false_iff_ne, Int.not_lt, Int.not_le, ge_iff_le, gt_iff_lt, ne_eq, Bool.false_eq_true, Bool.true_eq_false, not_true_eq_false, not_false_eq_true, Bool.and_eq_true, Bool.not_eq_eq_eq_not, Bool.not_true, Bool.not_false, bne_iff_ne, bne_eq_false_iff_eq, Int.toNat_natCast, Nat.mul_one, Nat.add_zero, Nat.zero_add, List.take_length, List.drop_zero] at h1)
    all_goals
      refine Tree.Sat.ret ?_
      have hq := hr
      simp only [Prod.mk.injEq] at hq
      obtain ⟨rfl, rfl⟩ := hq
      refine .exit rfl ?_
      constructor <;> simp only [AV.leL, AV.le, Mem.le, Mem.leP, Blk.le, Blk.pad, Data.le, Data.size, Cap.le, and_true, true_and, and_self, true_implies, implies_true, imp_self, List.length_nil] <;> (repeat' with_reducible refine And.intro ?_ ?_) <;> (try simp only [Int.toNat_natCast, Nat.mul_one, Nat.add_zero, Nat.zero_add]) <;> rw [show i = n.toNat by omega]
theorem looppower_0 (hall : AllOk Try.prog 0 (fun _ => none) tab25) : LoopOk (mkL Try.prog 0 (fun _ => none) tab25 rowspower) 33 0 (bodyAt Try.prog 33 0) := by
  have hkey : Code.key (bodyAt Try.prog 33 0) = 3 := by kernel_rfl
  have hin : loopsIn (bodyAt Try.prog 33 0) = [] := by kernel_rfl
  have hrow : lookL rowspower 33 (Code.key (bodyAt Try.prog 33 0)) = some rowpower_0 := by rw [hkey]; rfl
  refine loop_rowP (X := Xpower_0) (row := rowpower_0) hall mix hrow (fun b hb _ => by rw [hin] at hb; cases hb) Upower_0 hdpower_0 respower_0 mupower_0 (fun st ex r h => ?_) (fun x ex r hr => ?_)
  · have h' : (anspower_0 st).runs (ex, r) := h
    unfold anspower_0 at h'
    split at h'
    · obtain ⟨q1, q2⟩ := Tree.chk_runs h'
      exact ⟨_, q1, q2⟩
    · exact h'.elim
  · obtain ⟨n, i⟩ := x
    have := steppower_0 n i ex r hr.1 hr.2
    rw [← tLpower_0] at this
    exact this
theorem loopspower (hall : AllOk Try.prog 0 (fun _ => none) tab25) : ∀ i, i < (loopsAt Try.prog 33).length → LoopOk (mkL Try.prog 0 (fun _ => none) tab25 rowspower) 33 0 (bodyAt Try.prog 33 i) := by
  intro i hi
  have hlen : (loopsAt Try.prog 33).length = 1 := by kernel_rfl
  rw [hlen] at hi
  obtain rfl : i = 0 := by omega
  · exact looppower_0 hall
set_option maxRecDepth 100000 in
theorem tpower (n : Int) : evBody (mkL Try.prog 0 (fun _ => none) tab25 rowspower) (evCall (mkC Try.prog 0 (fun _ => none) tab25) 50) 33 [.int .i64 false n] [] =
  Tree.chk
    (St.le (St.mk [AV.int IntKind.i64 false n, AV.junk, AV.junk, AV.int IntKind.i64 true (1 : Int), AV.int IntKind.i64 true (0 : Int), AV.junk, AV.junk, AV.junk, AV.junk, AV.junk, AV.junk, AV.junk, AV.junk] [])
      (St.mk [AV.int IntKind.i64 false n, AV.junk, AV.junk, AV.int IntKind.i64 false (1 : Int), AV.int IntKind.i64 false (0 : Int), AV.junk, AV.junk, AV.junk, AV.junk, AV.junk, AV.junk, AV.junk, AV.junk] []))
    (Tree.chk (okpower_0 (Xpower_0.mk n (Int.toNat (0 : Int)))) (Tree.ret (AV.int IntKind.i64 false ((2 : Int) ^ Int.toNat n), []))) := by kernel_rfl
set_option maxRecDepth 100000 in
theorem gpower (n : Int) (hw : n ≤ 62) : (Tree.chk
    (St.le (St.mk [AV.int IntKind.i64 false n, AV.junk, AV.junk, AV.int IntKind.i64 true (1 : Int), AV.int IntKind.i64 true (0 : Int), AV.junk, AV.junk, AV.junk, AV.junk, AV.junk, AV.junk, AV.junk, AV.junk] [])
      (St.mk [AV.int IntKind.i64 false n, AV.junk, AV.junk, AV.int IntKind.i64 false (1 : Int), AV.int IntKind.i64 false (0 : Int), AV.junk, AV.junk, AV.junk, AV.junk, AV.junk, AV.junk, AV.junk, AV.junk] []))
    (Tree.chk (okpower_0 (Xpower_0.mk n (Int.toNat (0 : Int)))) (Tree.ret (AV.int IntKind.i64 false ((2 : Int) ^ Int.toNat n), []))) : Tree (AV × Mem)).GivesP (.int .i64 false ((2 : Int) ^ n.toNat)) ([]) := by
  refine Tree.GivesP.chk (by first | (simp only [and_self]; done) | (constructor <;> simp only [hdpower_0, Int.toNat_zero, Int.cast_ofNat_Int, AV.leL, AV.le, Mem.le, Mem.leP, Blk.le, Blk.pad, Data.le, Data.size, Cap.le, and_true, true_and, and_self, true_implies, implies_true, imp_self, List.length_nil] <;> (try simp only [List.take_zero]) <;> (try rfl))) ?_
  refine Tree.GivesP.chk (by first | (simp only [and_self]; done) | (exact ⟨hw, Nat.zero_le _⟩)) ?_
  refine Tree.GivesP.ret ?_ ?_
  · simp only [AV.le, AV.leL, and_true, true_and, and_self]
  · simp only [AV.leL, AV.le, Mem.le, Mem.leP, Blk.le, Blk.pad, Data.le, Data.size, Cap.le, and_true, true_and, and_self, true_implies, implies_true, imp_self, List.length_nil]
theorem spower (hall : AllOk Try.prog 0 (fun _ => none) tab25) (n : Int) (hw : n ≤ 62) : SoundAt (mkC Try.prog 0 (fun _ => none) []) 33 [.int .i64 false n] [] (.int .i64 false ((2 : Int) ^ n.toNat), []) := sound_loopsP hall mix (loopspower hall) (tpower n) (gpower n hw)
theorem Fpower_ok (hall : AllOk Try.prog 0 (fun _ => none) tab25) : PureF Try.prog 3 33 Fpower := by
  intro xs c v news h hc
  unfold Fpower at h
  split at h
  · rename_i _ n
    cases h
    refine ⟨(by intro b hb; cases hb), SoundAt.flags (spower hall n hc) ?_⟩
    simp [PA.avs, AV.le, AV.leL, Cap.le]
  · cases h
end Go.Proofs.Ytnkjblmlchbfkaa.Rig

/- Qrmay -/
namespace Go.Proofs.Ytnkjblmlchbfkaa.Rig
open Go
set_option maxRecDepth 100000 in
theorem tLrmay_0 (zl : Bool) (l : List Int) (i : Nat) : tidied Trmay_0 Urmay_0 1 (evCode (mkL Try.prog 0 (fun _ => none) tab26 rowsrmay) (evCall (mkC Try.prog 0 (fun _ => none) tab26) 50) 32 1 fuelC (bodyAt Try.prog 32 0) (hdrmay_0 ⟨zl, l, i⟩)) =
  Tree.br (decide ((i : Int) < ((List.length l) : Int)))
    (Tree.br (!zl && decide ((0 : Int) ≤ (i : Int) ∧ (i : Int) < ((List.length l) : Int)))
      (Tree.br (decide (Int.toNat (i : Int) * 1 + 0 + 1 ≤ List.length l))
        (Tree.br (decide (List.getD l (Int.toNat (i : Int) * 1 + 0 + 0) (0 : Int) < (1 : Int)))
          (Tree.ret
            (Ex.ret,
              St.mk
                [AV.junk, AV.junk, AV.int IntKind.i64 true (2 : Int), AV.junk, AV.junk, AV.junk, AV.junk, AV.junk, AV.junk, AV.junk, AV.junk, AV.junk, AV.junk, AV.junk, AV.junk, AV.junk, AV.junk, AV.junk, AV.junk, AV.junk, AV.junk, AV.junk,
                  AV.junk, AV.junk, AV.junk]
                [some (Blk.mk (3) false false true (Data.ints IntKind.i64 l))]))
          (Tree.br (!zl && decide ((0 : Int) ≤ (i : Int) ∧ (i : Int) < ((List.length l) : Int)))
            (Tree.br (decide (Int.toNat (i : Int) * 1 + 0 + 1 ≤ List.length l))
              (Tree.br (decide (List.getD l (Int.toNat (i : Int) * 1 + 0 + 0) (0 : Int) > (16 : Int)))
                (Tree.ret
                  (Ex.ret,
                    St.mk
                      [AV.junk, AV.junk, AV.int IntKind.i64 true (2 : Int), AV.junk, AV.junk, AV.junk, AV.junk, AV.junk, AV.junk, AV.junk, AV.junk, AV.junk, AV.junk, AV.junk, AV.junk, AV.junk, AV.junk, AV.junk, AV.junk, AV.junk, AV.junk,
                        AV.junk, AV.junk, AV.junk, AV.junk]
                      [some (Blk.mk (3) false false true (Data.ints IntKind.i64 l))]))
                (Tree.ret
                  (Ex.norm,
                    St.mk
                      [AV.sl zl (Ref.mk (0) (0) (0) (0)) false (List.length l) Cap.any, AV.junk, AV.junk, AV.int IntKind.i64 false (IntKind.wrap IntKind.i64 ((i : Int) + (1 : Int))), AV.junk, AV.junk,
                        AV.junk, AV.junk, AV.junk, AV.junk, AV.junk, AV.junk, AV.junk, AV.junk, AV.junk, AV.junk, AV.junk, AV.junk, AV.junk, AV.junk, AV.junk, AV.junk, AV.junk, AV.junk, AV.junk]
                      [some (Blk.mk (3) false false true (Data.ints IntKind.i64 l))])))
              Tree.fail)
            Tree.fail))
        Tree.fail)
      Tree.fail)
    (Tree.ret
      (Ex.exit (0),
        St.mk [AV.junk, AV.junk, AV.junk, AV.junk, AV.junk, AV.junk, AV.junk, AV.junk, AV.junk, AV.junk, AV.junk, AV.junk, AV.junk, AV.junk, AV.junk, AV.junk, AV.junk, AV.junk, AV.junk, AV.junk, AV.junk, AV.junk, AV.junk, AV.junk, AV.junk]
          [some (Blk.mk (3) false false true (Data.ints IntKind.i64 l))])) := by kernel_rfl
set_option maxRecDepth 100000 in
theorem steprmay_0 (zl : Bool) (l : List Int) (i : Nat) (ex : Ex) (r : St) (hok : okrmay_0 ⟨zl, l, i⟩) (hr : (outrmay_0 ⟨zl, l, i⟩).runs (ex, r)) : (Tree.br (decide ((i : Int) < ((List.length l) : Int)))
    (Tree.br (!zl && decide ((0 : Int) ≤ (i : Int) ∧ (i : Int) < ((List.length l) : Int)))
      (Tree.br (decide (Int.toNat (i : Int) * 1 + 0 + 1 ≤ List.length l))
        (Tree.br (decide (List.getD l (Int.toNat (i : Int) * 1 + 0 + 0) (0 : Int) < (1 : Int)))
          (Tree.ret
            (Ex.ret,
              St.mk
                [AV.junk, AV.junk, AV.int IntKind.i64 true (2 : Int), AV.junk, AV.junk, AV.junk, AV.junk, AV.junk, AV.junk, AV.junk, AV.junk, AV.junk, AV.junk, AV.junk, AV.junk, AV.junk, AV.junk, AV.junk, AV.junk, AV.junk, AV.junk, AV.junk,
                  AV.junk, AV.junk, AV.junk]
                [some (Blk.mk (3) false false true (Data.ints IntKind.i64 l))]))
          (Tree.br (!zl && decide ((0 : Int) ≤ (i : Int) ∧ (i : Int) < ((List.length l) : Int)))
            (Tree.br (decide (Int.toNat (i : Int) * 1 + 0 + 1 ≤ List.length l))
              (Tree.br (decide (List.getD l (Int.toNat (i : Int) * 1 + 0 + 0) (0 : Int) > (16 : Int)))
                (Tree.ret
                  (Ex.ret,
                    St.mk
                      [AV.junk, AV.junk, AV.int IntKind.i64 true (2 : Int), AV.junk, AV.junk, AV.junk, AV.junk, AV.junk, AV.junk, AV.junk, AV.junk, AV.junk, AV.junk, AV.junk, AV.junk, AV.junk, AV.junk, AV.junk, AV.junk, AV.junk, AV.junk,
                        AV.junk, AV.junk, AV.junk, AV.junk]
                      [some (Blk.mk (3) false false true (Data.ints IntKind.i64 l))]))
                (Tree.ret
                  (Ex.norm,
                    St.mk
                      [AV.sl zl (Ref.mk (0) (0) (0) (0)) false (List.length l) Cap.any, AV.junk, AV.junk, AV.int IntKind.i64 false (IntKind.wrap IntKind.i64 ((i : Int) + (1 : Int))), AV.junk, AV.junk,
                        AV.junk, AV.junk, AV.junk, AV.junk, AV.junk, AV.junk, AV.junk, AV.junk, AV.junk, AV.junk, AV.junk, AV.junk, AV.junk, AV.junk, AV.junk, AV.junk, AV.junk, AV.junk, AV.junk]
                      [some (Blk.mk (3) false false true (Data.ints IntKind.i64 l))])))
              Tree.fail)
            Tree.fail))
        Tree.fail)
      Tree.fail)
    (Tree.ret
      (Ex.exit (0),
        St.mk [AV.junk, AV.junk, AV.junk, AV.junk, AV.junk, AV.junk, AV.junk, AV.junk, AV.junk, AV.junk, AV.junk, AV.junk, AV.junk, AV.junk, AV.junk, AV.junk, AV.junk, AV.junk, AV.junk, AV.junk, AV.junk, AV.junk, AV.junk, AV.junk, AV.junk]
          [some (Blk.mk (3) false false true (Data.ints IntKind.i64 l))])) : Tree (Ex × St)).Sat (Post hdrmay_0 resrmay_0 murmay_0 ⟨zl, l, i⟩ ex r) := by
  simp only [okrmay_0, outrmay_0, Tree.runs] at hok hr
  obtain ⟨hs, hz, hi, ha⟩ := hok
  refine Tree.Sat.br (fun h1 => ?_) (fun h1 => ?_)
  · (try simp only [decide_eq_true_eq, decide_eq_false_iff_not, Bool.not_eq_true', Bool.not_eq_false', beq_iff_eq, beq_eq_false_iff_ne, Int.not_lt, Int.not_le, ge_iff_le, gt_iff_lt, ne_eq, Bool.false_eq_true, Bool.true_eq_false, not_true_eq_false, not_false_eq_true, Bool.and_eq_true, Bool.not_eq_eq_eq_not, Bool.not_true, Bool.not_false, bne_iff_ne, bne_eq_false_iff_eq, Int.toNat_natCast, Nat.mul_one, Nat.add_zero, Nat.zero_add, List.take_length, List.drop_zero] at h1)
    all_goals
      refine Tree.Sat.br (fun h2 => ?_) (fun h2 => ?_)
      · (try simp only [decide_eq_true_eq, decide_eq_false_iff_not, Bool.not_eq_true', Bool.not_eq_false', beq_iff_eq, beq_eq_false_iff_ne, Int.not_lt, Int.not_le, ge_iff_le, gt_iff_lt, ne_eq, Bool.false_eq_true, Bool.true_eq_false, not_true_eq_false, not_false_eq_true, Bool.and_eq_true, Bool.not_eq_eq_eq_not, Bool.not_true, Bool.not_false, bne_iff_ne, bne_eq_false_iff_eq, Int.toNat_natCast, Nat.mul_one, Nat.add_zero, Nat.zero_add, List.take_length, List.drop_zero] at h2)
        all_goals
          refine Tree.Sat.br (fun h3 => ?_) (fun h3 => ?_)
          · (try simp only [decide_eq_true_eq, decide_eq_false_iff_not, Bool.not_eq_true', Bool.not_eq_false', beq_iff_eq, beq_eq_false_iff_ne, Int.not_lt, Int.not_le, ge_iff_le, gt_iff_lt, ne_eq, Bool.false_eq_true, Bool.true_eq_false, not_true_eq_false, not_false_eq_true, Bool.and_eq_true, Bool.not_eq_eq_eq_not, Bool.not_true, Bool.not_false, bne_iff_ne, bne_eq_false_iff_eq, Int.toNat_natCast, Nat.mul_one, Nat.add_zero, Nat.zero_add, List.take_length, List.drop_zero] at h3)
            all_goals
              refine Tree.Sat.br (fun h4 => ?_) (fun h4 => ?_)
              · (try simp only [decide_eq_true_eq, decide_eq_false_iff_not, Bool.not_eq_true', Bool.not_eq_false', beq_iff_eq, beq_eq_false_iff_ne, Int.not_lt, Int.not_le, ge_iff_le, gt_iff_lt, ne_eq, Bool.false_eq_true, Bool.true_eq_false, not_true_eq_false, not_false_eq_true, Bool.and_eq_true, Bool.not_eq_eq_eq_not, Bool.not_true, Bool.not_false, bne_iff_ne, bne_eq_false_iff_eq, Int.toNat_natCast, Nat.mul_one, Nat.add_zero, Nat.zero_add, List.take_length, List.drop_zero] at h4)
                all_goals
                  refine Tree.Sat.ret ?_
                  first
                    | (
                      have hq := hr.1 (any_hit (i := i) (by omega) (by simp only [badV, Bool.or_eq_true, decide_eq_true_eq]; omega))
                      simp only [Prod.mk.injEq] at hq
                      obtain ⟨rfl, rfl⟩ := hq
                      refine .ret rfl ?_
                      constructor <;> simp only [AV.leL, AV.le, Mem.le, Mem.leP, Blk.le, Blk.pad, Data.le, Data.size, Cap.le, and_true, true_and, and_self, true_implies, implies_true, imp_self, List.length_nil] <;> (repeat' with_reducible refine And.intro ?_ ?_) <;> (try simp only [Int.toNat_natCast, Nat.mul_one, Nat.add_zero, Nat.zero_add]) <;> done)
                    | (
                      have hq := hr.2 (by rw [List.take_of_length_le (by omega)] at ha; exact ha)
                      simp only [Prod.mk.injEq] at hq
                      obtain ⟨rfl, rfl⟩ := hq
                      refine .exit rfl ?_
                      constructor <;> simp only [AV.leL, AV.le, Mem.le, Mem.leP, Blk.le, Blk.pad, Data.le, Data.size, Cap.le, and_true, true_and, and_self, true_implies, implies_true, imp_self, List.length_nil] <;> (repeat' with_reducible refine And.intro ?_ ?_) <;> (try simp only [Int.toNat_natCast, Nat.mul_one, Nat.add_zero, Nat.zero_add]) <;> done)
              · (try simp only [decide_eq_true_eq, decide_eq_false_iff_not, Bool.not_eq_true', Bool.not_eq_false', beq_iff_eq, beq_eq_false_iff_ne, Int.not_lt, Int.not_le, ge_iff_le, gt_iff_lt, ne_eq, Bool.false_eq_true, Bool.true_eq_false, not_true_eq_false, not_false_eq_true, Bool.and_eq_true, Bool.not_eq_eq_eq_not, Bool.not_true, Bool.not_false, bne_iff_ne, bne_eq_false_iff_eq, Int.toNat_natCast, Nat.mul_one, Nat.add_zero, Nat.zero_add, List.take_length, List.drop_zero] at h4)
                all_goals
                  refine Tree.Sat.br (fun h5 => ?_) (fun h5 => ?_)
                  · (try simp only [decide_eq_true_eq, decide_eq_false_iff_not, Bool.not_eq_true', Bool.not_eq_false', beq_iff_eq, beq_eq_false_iff_ne, Int.not_lt, Int.not_le, ge_iff_le, gt_iff_lt, ne_eq, Bool.false_eq_true, Bool.true_eq_false, not_true_eq_false, not_false_eq_true, Bool.and_eq_true, Bool.not_eq_eq_eq_not, Bool.not_true, Bool.not_false, bne_iff_ne, bne_eq_false_iff_eq, Int.toNat_natCast, Nat.mul_one, Nat.add_zero, Nat.zero_add, List.take_length, List.drop_zero] at h5)
                    all_goals
                      refine Tree.Sat.br (fun h6 => ?_) (fun h6 => ?_)
                      · (try simp only [decide_eq_true_eq, decide_eq_false_iff_not, Bool.not_eq_true', Bool.not_eq_false', beq_iff_eq, beq_eq_false_iff_ne, Int.not_lt, Int.not_le, ge_iff_le, gt_iff_lt, ne_eq, Bool.false_eq_true, Bool.true_eq_false, not_true_eq_false, not_false_eq_true, Bool.and_eq_true, Bool.not_eq_eq_eq_not, Bool.not_true, Bool.not_false, bne_iff_ne, bne_eq_false_iff_eq, Int.toNat_natCast, Nat.mul_one, Nat.add_zero, Nat.zero_add, List.take_length, List.drop_zero] at h6)
                        all_goals
                          refine Tree.Sat.br (fun h7 => ?_) (fun h7 => ?_)
                          · (try simp only [decide_eq_true_eq, decide_eq_false_iff_not, Bool.not_eq_true', Bool.not_eq_false', beq_iff_eq, beq_eq_false_iff_ne, Int.not_lt, Int.not_le, ge_iff_le, gt_iff_lt, ne_eq, Bool.false_eq_true, Bool.true_eq_false, not_true_eq_false, not_false_eq_true, Bool.and_eq_true, Bool.not_eq_eq_eq_not, Bool.not_true, Bool.not_false, bne_iff_ne, bne_eq_false_iff_eq, Int.toNat_natCast, Nat.mul_one, Nat.add_zero, Nat.zero_add, List.take_length, List.drop_zero] at h7)
                            all_goals
                              refine Tree.Sat.ret ?_
                              first
                                | (
                                  have hq := hr.1 (any_hit (i := i) (by omega) (by simp only [badV, Bool.or_eq_true, decide_eq_true_eq]; omega))
                                  simp only [Prod.mk.injEq] at hq
                                  obtain ⟨rfl, rfl⟩ := hq
                                  refine .ret rfl ?_
                                  constructor <;> simp only [AV.leL, AV.le, Mem.le, Mem.leP, Blk.le, Blk.pad, Data.le, Data.size, Cap.le, and_true, true_and, and_self, true_implies, implies_true, imp_self, List.length_nil] <;> (repeat' with_reducible refine And.intro ?_ ?_) <;> (try simp only [Int.toNat_natCast, Nat.mul_one, Nat.add_zero, Nat.zero_add]) <;> done)
                                | (
                                  have hq := hr.2 (by rw [List.take_of_length_le (by omega)] at ha; exact ha)
                                  simp only [Prod.mk.injEq] at hq
                                  obtain ⟨rfl, rfl⟩ := hq
                                  refine .exit rfl ?_
                                  constructor <;> simp only [AV.leL, AV.le, Mem.le, Mem.leP, Blk.le, Blk.pad, Data.le, Data.size, Cap.le, and_true, true_and, and_self, true_implies, implies_true, imp_self, List.length_nil] <;> (repeat' with_reducible refine And.intro ?_ ?_) <;> (try simp only [Int.toNat_natCast, Nat.mul_one, Nat.add_zero, Nat.zero_add]) <;> done)
                          · (try simp only [decide_eq_true_eq, decide_eq_false_iff_not, Bool.not_eq_true', Bool.not_eq_false', beq_iff_eq, beq_eq_false_iff_ne, Int.not_lt, Int.not_le, ge_iff_le, gt_iff_lt, ne_eq, Bool.false_eq_true, Bool.true_eq_false, not_true_eq_false, not_false_eq_true, Bool.and_eq_true, Bool.not_eq_eq_eq_not, Bool.not_true, Bool.not_false, bne_iff_ne, bne_eq_false_iff_eq, Int.toNat_natCast, Nat.mul_one, Nat.add_zero, Nat.zero_add, List.take_length, List.drop_zero] at h7)
                            all_goals
                              refine Tree.Sat.ret ?_
                              refine .norm ⟨zl, l, i + 1⟩ ?_ ?_ ⟨?_, ?_⟩
                              · constructor <;> simp only [hdrmay_0, AV.leL, AV.le, Mem.le, Mem.leP, Blk.le, Blk.pad, Data.le, Data.size, Cap.le, and_true, true_and, and_self, true_implies, implies_true, imp_self, List.length_nil] <;> (repeat' with_reducible refine And.intro ?_ ?_) <;> (try simp only [Int.toNat_natCast, Nat.mul_one, Nat.add_zero, Nat.zero_add]) <;> first | exact wadd1 (by omega) | omega
                              · simp only [murmay_0]; omega
                              · exact ⟨hs, hz, by omega, any_take_succ (by omega) ha (by simp only [badV, Bool.or_eq_false_iff, decide_eq_false_iff_not]; omega)⟩
                              · exact hr
                      · (try simp only [decide_eq_true_eq, decide_eq_false_iff_not, Bool.not_eq_true', Bool.not_eq_false', beq_iff_eq, beq_eq_false_iff_ne, Int.not_lt, Int.not_le, ge_iff_le, gt_iff_lt, ne_eq, Bool.false_eq_true, Bool.true_eq_false, not_true_eq_false, not_false_eq_true, Bool.and_eq_true, Bool.not_eq_eq_eq_not, Bool.not_true, Bool.not_false, bne_iff_ne, bne_eq_false_iff_eq, Int.toNat_natCast, Nat.mul_one, Nat.add_zero, Nat.zero_add, List.take_length, List.drop_zero] at h6)
                        all_goals
                          exfalso
                          first | omega | (simp only [w64] at *; omega) | (cases zl <;> simp_all; done) | (cases zl <;> simp_all <;> omega)
                  · (try simp only [decide_eq_true_eq, decide_eq_false_iff_not, Bool.not_eq_true', Bool.not_eq_false', beq_iff_eq, beq_eq_false_iff_ne, Int.not_lt, Int.not_le, ge_iff_le, gt_iff_lt, ne_eq, Bool.false_eq_true, Bool.true_eq_false, not_true_eq_false, not_false_eq_true, Bool.and_eq_true, Bool.not_eq_eq_eq_not, Bool.not_true, Bool.not_false, bne_iff_ne, bne_eq_false_iff_eq, Int.toNat_natCast, Nat.mul_one, Nat.add_zero, Nat.zero_add, List.take_length, List.drop_zero] at h5)
                    all_goals
                      exfalso
                      first | omega | (simp only [w64] at *; omega) | (cases zl <;> simp_all; done) | (cases zl <;> simp_all <;> omega)
          · (try simp only [decide_eq_true_eq, decide_eq_false_iff_not, Bool.not_eq_true', Bool.not_eq_false', beq_iff_eq, beq_eq_false_iff_ne, Int.not_lt, Int.not_le, ge_iff_le, gt_iff_lt, ne_eq, Bool.false_eq_true, Bool.true_eq_false, not_true_eq_false, not_false_eq_true, Bool.and_eq_true, Bool.not_eq_eq_eq_not, Bool.not_true, Bool.not_false, bne_iff_ne, bne_eq_false_iff_eq, Int.toNat_natCast, Nat.mul_one, Nat.add_zero, Nat.zero_add, List.take_length, List.drop_zero] at h3)
            all_goals
              exfalso
              first | omega | (simp only [w64] at *; omega) | (cases zl <;> simp_all; done) | (cases zl <;> simp_all <;> omega)
      · (try simp only [decide_eq_true_eq, decide_eq_false_iff_not, Bool.not_eq_true', Bool.not_eq_false', beq_iff_eq, beq_eq_false_iff_ne, Int.not_lt, Int.not_le, ge_iff_le, gt_iff_lt, ne_eq, Bool.false_eq_true, Bool.true_eq_false, not_true_eq_false, not_false_eq_true, Bool.and_eq_true, Bool.not_eq_eq_eq_not, Bool.not_true, Bool.not_false, bne_iff_ne, bne_eq_false_iff_eq, Int.toNat_natCast, Nat.mul_one, Nat.add_zero, Nat.zero_add, List.take_length, List.drop_zero] at h2)
        all_goals
          exfalso
          first | omega | (simp only [w64] at *; omega) | (cases zl <;> simp_all; done) | (cases zl <;> simp_all <;> omega)
  · (try simp only [decide_eq_true_eq, decide_eq_false_iff_not, Bool.not_eq_true', Bool.not_eq_false', beq_iff_eq, beq_eq_false_iff_ne, Int.not_lt, Int.not_le, ge_iff_le, gt_iff_lt, ne_eq, Bool.false_eq_true, Bool.true_eq_false, not_true_eq_false, not_false_eq_true, Bool.and_eq_true, Bool.not_eq_eq_eq_not, Bool.not_true, Bool.not_false, bne_iff_ne, bne_eq_false_iff_eq, Int.toNat_natCast, Nat.mul_one, Nat.add_zero, Nat.zero_add, List.take_length, List.drop_zero] at h1)
    all_goals
      refine Tree.Sat.ret ?_
      first
        | (
          have hq := hr.1 (any_hit (i := i) (by omega) (by simp only [badV, Bool.or_eq_true, decide_eq_true_eq]; omega))
          simp only [Prod.mk.injEq] at hq
          obtain ⟨rfl, rfl⟩ := hq
          refine .ret rfl ?_
          constructor <;> simp only [AV.leL, AV.le, Mem.le, Mem.leP, Blk.le, Blk.pad, Data.le, Data.size, Cap.le, and_true, true_and, and_self, true_implies, implies_true, imp_self, List.length_nil] <;> (repeat' with_reducible refine And.intro ?_ ?_) <;> (try simp only [Int.toNat_natCast, Nat.mul_one, Nat.add_zero, Nat.zero_add]) <;> done)
        | (
          have hq := hr.2 (by rw [List.take_of_length_le (by omega)] at ha; exact ha)
          simp only [Prod.mk.injEq] at hq
          obtain ⟨rfl, rfl⟩ := hq
          refine .exit rfl ?_
          constructor <;> simp only [AV.leL, AV.le, Mem.le, Mem.leP, Blk.le, Blk.pad, Data.le, Data.size, Cap.le, and_true, true_and, and_self, true_implies, implies_true, imp_self, List.length_nil] <;> (repeat' with_reducible refine And.intro ?_ ?_) <;> (try simp only [Int.toNat_natCast, Nat.mul_one, Nat.add_zero, Nat.zero_add]) <;> done)
theorem looprmay_0 (hall : AllOk Try.prog 0 (fun _ => none) tab26) : LoopOk (mkL Try.prog 0 (fun _ => none) tab26 rowsrmay) 32 1 (bodyAt Try.prog 32 0) := by
  have hkey : Code.key (bodyAt Try.prog 32 0) = 4 := by kernel_rfl
  have hin : loopsIn (bodyAt Try.prog 32 0) = [] := by kernel_rfl
  have hrow : lookL rowsrmay 32 (Code.key (bodyAt Try.prog 32 0)) = some rowrmay_0 := by rw [hkey]; rfl
  refine loop_rowP (X := Xrmay_0) (row := rowrmay_0) hall mix hrow (fun b hb _ => by rw [hin] at hb; cases hb) Urmay_0 hdrmay_0 resrmay_0 murmay_0 (fun st ex r h => ?_) (fun x ex r hr => ?_)
  · have h' : (ansrmay_0 st).runs (ex, r) := h
    unfold ansrmay_0 at h'
    split at h'
    · obtain ⟨q1, q2⟩ := Tree.chk_runs h'
      exact ⟨_, q1, q2⟩
    · exact h'.elim
  · obtain ⟨zl, l, i⟩ := x
    have := steprmay_0 zl l i ex r hr.1 hr.2
    rw [← tLrmay_0] at this
    exact this
theorem loopsrmay (hall : AllOk Try.prog 0 (fun _ => none) tab26) : ∀ i, i < (loopsAt Try.prog 32).length → LoopOk (mkL Try.prog 0 (fun _ => none) tab26 rowsrmay) 32 1 (bodyAt Try.prog 32 i) := by
  intro i hi
  have hlen : (loopsAt Try.prog 32).length = 1 := by kernel_rfl
  rw [hlen] at hi
  obtain rfl : i = 0 := by omega
  · exact looprmay_0 hall
set_option maxRecDepth 100000 in
theorem trmay (zl : Bool) (l : List Int) : evBody (mkL Try.prog 0 (fun _ => none) tab26 rowsrmay) (evCall (mkC Try.prog 0 (fun _ => none) tab26) 50) 32 [.sl zl ⟨0, 0, 0, 0⟩ false l.length .any] [some ⟨3, false, false, true, .ints .i64 l⟩] =
  Tree.br (decide (((List.length l) : Int) > (256 : Int))) (Tree.ret (AV.int IntKind.i64 true (3 : Int), [some (Blk.mk (3) false false true (Data.ints IntKind.i64 l))]))
    (Tree.chk
      (St.le
        (St.mk
          [AV.sl zl (Ref.mk (0) (0) (0) (0)) false (List.length l) Cap.any, AV.junk, AV.junk, AV.int IntKind.i64 true (0 : Int), AV.junk, AV.junk, AV.junk, AV.junk, AV.junk, AV.junk, AV.junk, AV.junk,
            AV.junk, AV.junk, AV.junk, AV.junk, AV.junk, AV.junk, AV.junk, AV.junk, AV.junk, AV.junk, AV.junk, AV.junk, AV.junk]
          [some (Blk.mk (3) false false true (Data.ints IntKind.i64 l))])
        (St.mk
          [AV.sl zl (Ref.mk (0) (0) (0) (0)) false (List.length l) Cap.any, AV.junk, AV.junk, AV.int IntKind.i64 false (0 : Int), AV.junk, AV.junk, AV.junk, AV.junk, AV.junk, AV.junk, AV.junk, AV.junk,
            AV.junk, AV.junk, AV.junk, AV.junk, AV.junk, AV.junk, AV.junk, AV.junk, AV.junk, AV.junk, AV.junk, AV.junk, AV.junk]
          [some (Blk.mk (3) false false true (Data.ints IntKind.i64 l))]))
      (Tree.chk (okrmay_0 (Xrmay_0.mk zl l (Int.toNat (0 : Int))))
        (Tree.br (List.any l badV) (Tree.ret (AV.int IntKind.i64 true (2 : Int), [some (Blk.mk (3) false false true (Data.ints IntKind.i64 l))]))
          (Tree.ret (AV.int IntKind.i64 true (0 : Int), [some (Blk.mk (3) false false true (Data.ints IntKind.i64 l))]))))) := by kernel_rfl
set_option maxRecDepth 100000 in
theorem grmay (zl : Bool) (l : List Int) (hw : short l ∧ (zl = true → l = [])) : (Tree.br (decide (((List.length l) : Int) > (256 : Int))) (Tree.ret (AV.int IntKind.i64 true (3 : Int), [some (Blk.mk (3) false false true (Data.ints IntKind.i64 l))]))
    (Tree.chk
      (St.le
        (St.mk
          [AV.sl zl (Ref.mk (0) (0) (0) (0)) false (List.length l) Cap.any, AV.junk, AV.junk, AV.int IntKind.i64 true (0 : Int), AV.junk, AV.junk, AV.junk, AV.junk, AV.junk, AV.junk, AV.junk, AV.junk,
            AV.junk, AV.junk, AV.junk, AV.junk, AV.junk, AV.junk, AV.junk, AV.junk, AV.junk, AV.junk, AV.junk, AV.junk, AV.junk]
          [some (Blk.mk (3) false false true (Data.ints IntKind.i64 l))])
        (St.mk
          [AV.sl zl (Ref.mk (0) (0) (0) (0)) false (List.length l) Cap.any, AV.junk, AV.junk, AV.int IntKind.i64 false (0 : Int), AV.junk, AV.junk, AV.junk, AV.junk, AV.junk, AV.junk, AV.junk, AV.junk,
            AV.junk, AV.junk, AV.junk, AV.junk, AV.junk, AV.junk, AV.junk, AV.junk, AV.junk, AV.junk, AV.junk, AV.junk, AV.junk]
          [some (Blk.mk (3) false false true (Data.ints IntKind.i64 l))]))
      (Tree.chk (okrmay_0 (Xrmay_0.mk zl l (Int.toNat (0 : Int))))
        (Tree.br (List.any l badV) (Tree.ret (AV.int IntKind.i64 true (2 : Int), [some (Blk.mk (3) false false true (Data.ints IntKind.i64 l))]))
          (Tree.ret (AV.int IntKind.i64 true (0 : Int), [some (Blk.mk (3) false false true (Data.ints IntKind.i64 l))]))))) : Tree (AV × Mem)).GivesP (.int .i64 false (mayZ l)) ([some ⟨3, false, false, true, .ints .i64 l⟩]) := by
  refine Tree.GivesP.br (fun h1 => ?_) (fun h1 => ?_)
  · (try simp only [decide_eq_true_eq, decide_eq_false_iff_not, Bool.not_eq_true', Bool.not_eq_false', beq_iff_eq, beq_eq_false_iff_ne, Int.not_lt, Int.not_le, ge_iff_le, gt_iff_lt, ne_eq, Bool.false_eq_true, Bool.true_eq_false, not_true_eq_false, not_false_eq_true, Bool.and_eq_true, Bool.not_eq_eq_eq_not, Bool.not_true, Bool.not_false, bne_iff_ne, bne_eq_false_iff_eq, Int.toNat_natCast, Nat.mul_one, Nat.add_zero, Nat.zero_add, List.take_length, List.drop_zero] at h1)
    all_goals
      refine Tree.GivesP.ret ?_ ?_
      · simp only [AV.le, mayZ, true_and]; rw [if_pos h1]
      · simp only [AV.leL, AV.le, Mem.le, Mem.leP, Blk.le, Blk.pad, Data.le, Data.size, Cap.le, and_true, true_and, and_self, true_implies, implies_true, imp_self, List.length_nil]
  · (try simp only [decide_eq_true_eq, decide_eq_false_iff_not, Bool.not_eq_true', Bool.not_eq_false', beq_iff_eq, beq_eq_false_iff_ne, Int.not_lt, Int.not_le, ge_iff_le, gt_iff_lt, ne_eq, Bool.false_eq_true, Bool.true_eq_false, not_true_eq_false, not_false_eq_true, Bool.and_eq_true, Bool.not_eq_eq_eq_not, Bool.not_true, Bool.not_false, bne_iff_ne, bne_eq_false_iff_eq, Int.toNat_natCast, Nat.mul_one, Nat.add_zero, Nat.zero_add, List.take_length, List.drop_zero] at h1)
    all_goals
      refine Tree.GivesP.chk (by first | (simp only [and_self]; done) | (constructor <;> simp only [hdrmay_0, Int.toNat_zero, Int.cast_ofNat_Int, AV.leL, AV.le, Mem.le, Mem.leP, Blk.le, Blk.pad, Data.le, Data.size, Cap.le, and_true, true_and, and_self, true_implies, implies_true, imp_self, List.length_nil] <;> (try simp only [List.take_zero]) <;> (try rfl))) ?_
      refine Tree.GivesP.chk (by first | (simp only [and_self]; done) | (exact ⟨by omega, hw.2, Nat.zero_le _, rfl⟩)) ?_
      refine Tree.GivesP.br (fun h2 => ?_) (fun h2 => ?_)
      · (try simp only [decide_eq_true_eq, decide_eq_false_iff_not, Bool.not_eq_true', Bool.not_eq_false', beq_iff_eq, beq_eq_false_iff_ne, Int.not_lt, Int.not_le, ge_iff_le, gt_iff_lt, ne_eq, Bool.false_eq_true, Bool.true_eq_false, not_true_eq_false, not_false_eq_true, Bool.and_eq_true, Bool.not_eq_eq_eq_not, Bool.not_true, Bool.not_false, bne_iff_ne, bne_eq_false_iff_eq, Int.toNat_natCast, Nat.mul_one, Nat.add_zero, Nat.zero_add, List.take_length, List.drop_zero] at h2)
        all_goals
          refine Tree.GivesP.ret ?_ ?_
          · simp only [AV.le, mayZ, true_and, h2, if_true]; rw [if_neg (by omega)]
          · simp only [AV.leL, AV.le, Mem.le, Mem.leP, Blk.le, Blk.pad, Data.le, Data.size, Cap.le, and_true, true_and, and_self, true_implies, implies_true, imp_self, List.length_nil]
      · (try simp only [decide_eq_true_eq, decide_eq_false_iff_not, Bool.not_eq_true', Bool.not_eq_false', beq_iff_eq, beq_eq_false_iff_ne, Int.not_lt, Int.not_le, ge_iff_le, gt_iff_lt, ne_eq, Bool.false_eq_true, Bool.true_eq_false, not_true_eq_false, not_false_eq_true, Bool.and_eq_true, Bool.not_eq_eq_eq_not, Bool.not_true, Bool.not_false, bne_iff_ne, bne_eq_false_iff_eq, Int.toNat_natCast, Nat.mul_one, Nat.add_zero, Nat.zero_add, List.take_length, List.drop_zero] at h2)
        all_goals
          refine Tree.GivesP.ret ?_ ?_
          · simp only [AV.le, mayZ, true_and, h2, Bool.false_eq_true, if_false]; rw [if_neg (by omega)]
          · simp only [AV.leL, AV.le, Mem.le, Mem.leP, Blk.le, Blk.pad, Data.le, Data.size, Cap.le, and_true, true_and, and_self, true_implies, implies_true, imp_self, List.length_nil]
theorem srmay (hall : AllOk Try.prog 0 (fun _ => none) tab26) (zl : Bool) (l : List Int) (hw : short l ∧ (zl = true → l = [])) : SoundAt (mkC Try.prog 0 (fun _ => none) []) 32 [.sl zl ⟨0, 0, 0, 0⟩ false l.length .any] [some ⟨3, false, false, true, .ints .i64 l⟩] (.int .i64 false (mayZ l), [some ⟨3, false, false, true, .ints .i64 l⟩]) := sound_loopsP hall mix (loopsrmay hall) (trmay zl l) (grmay zl l hw)
theorem Frmay_ok (hall : AllOk Try.prog 0 (fun _ => none) tab26) : PureF Try.prog 3 32 Frmay := by
  intro xs c v news h hc
  unfold Frmay at h
  split at h
  · rename_i zl l
    cases h
    refine ⟨(by intro b hb; cases hb), SoundAt.flags (srmay hall zl l hc) ?_⟩
    simp [PA.avs, AV.le, AV.leL, Cap.le]
  · cases h
end Go.Proofs.Ytnkjblmlchbfkaa.Rig

/- Qamong -/
namespace Go.Proofs.Ytnkjblmlchbfkaa.Rig
open Go
set_option maxRecDepth 100000 in
theorem tamong (a : Int) (b : Int) : evBody (mkC Try.prog 0 (fun _ => none) tab27) (evCall (mkC Try.prog 0 (fun _ => none) tab27) 50) 18 [.int .i64 false a, .int .i64 false b] [] =
  Tree.br (decide (b < (1 : Int))) (Tree.ret (AV.int IntKind.i64 true (0 : Int), []))
    (Tree.br (!decide (IntKind.wrap IntKind.u64 b = (0 : Int))) (Tree.ret (AV.int IntKind.i64 false (IntKind.wrap IntKind.i64 (Int.tmod (IntKind.wrap IntKind.u64 a) (IntKind.wrap IntKind.u64 b))), [])) Tree.fail) := by kernel_rfl
set_option maxRecDepth 100000 in
theorem gamong (a : Int) (b : Int) (hw : 1 ≤ b ∧ b ≤ 9223372036854775807) : (Tree.br (decide (b < (1 : Int))) (Tree.ret (AV.int IntKind.i64 true (0 : Int), []))
    (Tree.br (!decide (IntKind.wrap IntKind.u64 b = (0 : Int))) (Tree.ret (AV.int IntKind.i64 false (IntKind.wrap IntKind.i64 (Int.tmod (IntKind.wrap IntKind.u64 a) (IntKind.wrap IntKind.u64 b))), [])) Tree.fail) : Tree (AV × Mem)).GivesP (.int .i64 false (amongZ a b)) ([]) := by
  refine Tree.GivesP.br (fun h1 => ?_) (fun h1 => ?_)
  · (try simp only [decide_eq_true_eq, decide_eq_false_iff_not, Bool.not_eq_true', Bool.not_eq_false', beq_iff_eq, beq_eq_false_iff_ne, Int.not_lt, Int.not_le, ge_iff_le, gt_iff_lt, ne_eq, Bool.false_eq_true, Bool.true_eq_false, not_true_eq_false, not_false_eq_true, Bool.and_eq_true, Bool.not_eq_eq_eq_not, Bool.not_true, Bool.not_false, bne_iff_ne, bne_eq_false_iff_eq, Int.toNat_natCast, Nat.mul_one, Nat.add_zero, Nat.zero_add, List.take_length, List.drop_zero] at h1)
    all_goals
      refine Tree.GivesP.ret ?_ ?_
      · first | (exfalso; omega) | (exfalso; simp only [wu64] at *; omega) | (simp only [AV.le, true_and]; exact among_eq hw)
      · simp only [AV.leL, AV.le, Mem.le, Mem.leP, Blk.le, Blk.pad, Data.le, Data.size, Cap.le, and_true, true_and, and_self, true_implies, implies_true, imp_self, List.length_nil]
  · (try simp only [decide_eq_true_eq, decide_eq_false_iff_not, Bool.not_eq_true', Bool.not_eq_false', beq_iff_eq, beq_eq_false_iff_ne, Int.not_lt, Int.not_le, ge_iff_le, gt_iff_lt, ne_eq, Bool.false_eq_true, Bool.true_eq_false, not_true_eq_false, not_false_eq_true, Bool.and_eq_true, Bool.not_eq_eq_eq_not, Bool.not_true, Bool.not_false, bne_iff_ne, bne_eq_false_iff_eq, Int.toNat_natCast, Nat.mul_one, Nat.add_zero, Nat.zero_add, List.take_length, List.drop_zero] at h1)
    all_goals
      refine Tree.GivesP.br (fun h2 => ?_) (fun h2 => ?_)
      · (try simp only [decide_eq_true_eq, decide_eq_false_iff_not, Bool.not_eq_true', Bool.not_eq_false', beq_iff_eq, beq_eq_false_iff_ne, Int.not_lt, Int.not_le, ge_iff_le, gt_iff_lt, ne_eq, Bool.false_eq_true, Bool.true_eq_false, not_true_eq_false, not_false_eq_true, Bool.and_eq_true, Bool.not_eq_eq_eq_not, Bool.not_true, Bool.not_false, bne_iff_ne, bne_eq_false_iff_eq, Int.toNat_natCast, Nat.mul_one, Nat.add_zero, Nat.zero_add, List.take_length, List.drop_zero] at h2)
        all_goals
          refine Tree.GivesP.ret ?_ ?_
          · first | (exfalso; omega) | (exfalso; simp only [wu64] at *; omega) | (simp only [AV.le, true_and]; exact among_eq hw)
          · simp only [AV.leL, AV.le, Mem.le, Mem.leP, Blk.le, Blk.pad, Data.le, Data.size, Cap.le, and_true, true_and, and_self, true_implies, implies_true, imp_self, List.length_nil]
      · (try simp only [decide_eq_true_eq, decide_eq_false_iff_not, Bool.not_eq_true', Bool.not_eq_false', beq_iff_eq, beq_eq_false_iff_ne, Int.not_lt, Int.not_le, ge_iff_le, gt_iff_lt, ne_eq, Bool.false_eq_true, Bool.true_eq_false, not_true_eq_false, not_false_eq_true, Bool.and_eq_true, Bool.not_eq_eq_eq_not, Bool.not_true, Bool.not_false, bne_iff_ne, bne_eq_false_iff_eq, Int.toNat_natCast, Nat.mul_one, Nat.add_zero, Nat.zero_add, List.take_length, List.drop_zero] at h2)
        all_goals
          exfalso
          first | omega | (simp only [wu64] at *; omega)
theorem samong (hall : AllOk Try.prog 0 (fun _ => none) tab27) (a : Int) (b : Int) (hw : 1 ≤ b ∧ b ≤ 9223372036854775807) : SoundAt (mkC Try.prog 0 (fun _ => none) []) 18 [.int .i64 false a, .int .i64 false b] [] (.int .i64 false (amongZ a b), []) := sound_ofP hall mix (tamong a b) (gamong a b hw)
theorem Famong_ok (hall : AllOk Try.prog 0 (fun _ => none) tab27) : PureF Try.prog 3 18 Famong := by
  intro xs c v news h hc
  unfold Famong at h
  split at h
  · rename_i _ a _ b
    cases h
    refine ⟨(by intro b hb; cases hb), SoundAt.flags (samong hall a b hc) ?_⟩
    simp [PA.avs, AV.le, AV.leL, Cap.le]
  · cases h
end Go.Proofs.Ytnkjblmlchbfkaa.Rig

/- Qworks -/
namespace Go.Proofs.Ytnkjblmlchbfkaa.Rig
open Go
set_option maxRecDepth 100000 in
theorem tworks  : evBody (mkC Try.prog 0 (fun _ => none) tab28) (evCall (mkC Try.prog 0 (fun _ => none) tab28) 50) 14 [] [] =
  Tree.chk
    ((True ∧ 0 + 1 ≤ List.length [(-2 : Int)] ∧ True) ∧
      List.length (List.take 1 (List.drop (0) [(-2 : Int)])) ≤ 100000 ∧ wf64L (List.take 1 (List.drop (0) [(-2 : Int)])) ∧ (false = true → List.take 1 (List.drop (0) [(-2 : Int)]) = []))
    (Tree.chk
      ((0 + 2 ≤ List.length [(4 : Int), (12 : Int)] ∧ True) ∧
        short (List.take 2 (List.drop (0) [(4 : Int), (12 : Int)])) ∧ (false = true → List.take 2 (List.drop (0) [(4 : Int), (12 : Int)]) = []))
      (Tree.br false
        (Tree.chk
          ((True ∧ 0 + List.length (putL true (2 : Int) (List.take 1 (List.drop (0) [(-2 : Int)]))) ≤ List.length (putL true (2 : Int) (List.take 1 (List.drop (0) [(-2 : Int)]))) ∧ True) ∧
            short (List.take (List.length (putL true (2 : Int) (List.take 1 (List.drop (0) [(-2 : Int)])))) (List.drop (0) (putL true (2 : Int) (List.take 1 (List.drop (0) [(-2 : Int)]))))) ∧
              (decide (putL true (2 : Int) (List.take 1 (List.drop (0) [(-2 : Int)])) = []) = true →
                List.take (List.length (putL true (2 : Int) (List.take 1 (List.drop (0) [(-2 : Int)])))) (List.drop (0) (putL true (2 : Int) (List.take 1 (List.drop (0) [(-2 : Int)])))) = []))
          (Tree.chk
            ((0 + List.length (putL true (2 : Int) (List.take 1 (List.drop (0) [(-2 : Int)]))) ≤ List.length (putL true (2 : Int) (List.take 1 (List.drop (0) [(-2 : Int)]))) ∧
                0 + 2 ≤ List.length [(65535 : Int), (65534 : Int)] ∧ True) ∧
              short (List.take (List.length (putL true (2 : Int) (List.take 1 (List.drop (0) [(-2 : Int)])))) (List.drop (0) (putL true (2 : Int) (List.take 1 (List.drop (0) [(-2 : Int)]))))) ∧
                (decide (putL true (2 : Int) (List.take 1 (List.drop (0) [(-2 : Int)])) = []) = true →
                    List.take (List.length (putL true (2 : Int) (List.take 1 (List.drop (0) [(-2 : Int)])))) (List.drop (0) (putL true (2 : Int) (List.take 1 (List.drop (0) [(-2 : Int)])))) = []) ∧
                  (false = true → List.take 2 (List.drop (0) [(65535 : Int), (65534 : Int)]) = []))
            (Tree.br true
              (Tree.br true
                (Tree.chk ((0 = 0 ∧ 0 + 1 ≤ List.length [(4098 : Int)] ∧ True) ∧ short [] ∧ (true = true → ([] : List Int) = []) ∧ (false = true → List.take 1 (List.drop (0) [(4098 : Int)]) = []))
                  (Tree.br false
                    (Tree.br true
                      (Tree.br true
                        (Tree.br true
                          (Tree.chk
                            ((0 + 3 ≤ List.length [(4 : Int), (12 : Int), (1 : Int)] ∧ True) ∧
                              List.length (List.take 3 (List.drop (0) [(4 : Int), (12 : Int), (1 : Int)])) ≤ 1000000 ∧
                                (false = true → List.take 3 (List.drop (0) [(4 : Int), (12 : Int), (1 : Int)]) = []))
                            (Tree.ret (AV.bool false true, [])))
                          (Tree.ret (AV.bool true false, [])))
                        (Tree.ret (AV.bool true false, [])))
                      (Tree.ret (AV.bool true false, [])))
                    (Tree.ret (AV.bool true false, []))))
                (Tree.ret (AV.bool true false, [])))
              (Tree.ret (AV.bool true false, [])))))
        (Tree.chk
          ((True ∧ 0 + List.length (putL true (2 : Int) (List.take 1 (List.drop (0) [(-2 : Int)]))) ≤ List.length (putL true (2 : Int) (List.take 1 (List.drop (0) [(-2 : Int)]))) ∧ True) ∧
            short (List.take (List.length (putL true (2 : Int) (List.take 1 (List.drop (0) [(-2 : Int)])))) (List.drop (0) (putL true (2 : Int) (List.take 1 (List.drop (0) [(-2 : Int)]))))) ∧
              (decide (putL true (2 : Int) (List.take 1 (List.drop (0) [(-2 : Int)])) = []) = true →
                List.take (List.length (putL true (2 : Int) (List.take 1 (List.drop (0) [(-2 : Int)])))) (List.drop (0) (putL true (2 : Int) (List.take 1 (List.drop (0) [(-2 : Int)])))) = []))
          (Tree.chk
            ((0 + List.length (putL true (2 : Int) (List.take 1 (List.drop (0) [(-2 : Int)]))) ≤ List.length (putL true (2 : Int) (List.take 1 (List.drop (0) [(-2 : Int)]))) ∧
                0 + 2 ≤ List.length [(65535 : Int), (65534 : Int)] ∧ True) ∧
              short (List.take (List.length (putL true (2 : Int) (List.take 1 (List.drop (0) [(-2 : Int)])))) (List.drop (0) (putL true (2 : Int) (List.take 1 (List.drop (0) [(-2 : Int)]))))) ∧
                (decide (putL true (2 : Int) (List.take 1 (List.drop (0) [(-2 : Int)])) = []) = true →
                    List.take (List.length (putL true (2 : Int) (List.take 1 (List.drop (0) [(-2 : Int)])))) (List.drop (0) (putL true (2 : Int) (List.take 1 (List.drop (0) [(-2 : Int)])))) = []) ∧
                  (false = true → List.take 2 (List.drop (0) [(65535 : Int), (65534 : Int)]) = []))
            (Tree.br true
              (Tree.br true
                (Tree.chk
                  ((0 + (0 + 1) ≤ List.length [(4098 : Int)] ∧ 0 + 1 ≤ List.length [(4098 : Int)] ∧ True) ∧
                    short (List.take (0 + 1) (List.drop (0) [(4098 : Int)])) ∧
                      (false = true → List.take (0 + 1) (List.drop (0) [(4098 : Int)]) = []) ∧ (false = true → List.take 1 (List.drop (0) [(4098 : Int)]) = []))
                  (Tree.br true
                    (Tree.br true
                      (Tree.br true
                        (Tree.chk
                          ((0 + 3 ≤ List.length [(4 : Int), (12 : Int), (1 : Int)] ∧ True) ∧
                            List.length (List.take 3 (List.drop (0) [(4 : Int), (12 : Int), (1 : Int)])) ≤ 1000000 ∧ (false = true → List.take 3 (List.drop (0) [(4 : Int), (12 : Int), (1 : Int)]) = []))
                          (Tree.ret (AV.bool false true, [])))
                        (Tree.ret (AV.bool true false, [])))
                      (Tree.ret (AV.bool true false, [])))
                    (Tree.ret (AV.bool true false, []))))
                (Tree.ret (AV.bool true false, [])))
              (Tree.ret (AV.bool true false, []))))))) := by kernel_rfl
set_option maxRecDepth 100000 in
theorem gworks  (hw : True) : (Tree.chk
    ((True ∧ 0 + 1 ≤ List.length [(-2 : Int)] ∧ True) ∧
      List.length (List.take 1 (List.drop (0) [(-2 : Int)])) ≤ 100000 ∧ wf64L (List.take 1 (List.drop (0) [(-2 : Int)])) ∧ (false = true → List.take 1 (List.drop (0) [(-2 : Int)]) = []))
    (Tree.chk
      ((0 + 2 ≤ List.length [(4 : Int), (12 : Int)] ∧ True) ∧
        short (List.take 2 (List.drop (0) [(4 : Int), (12 : Int)])) ∧ (false = true → List.take 2 (List.drop (0) [(4 : Int), (12 : Int)]) = []))
      (Tree.br false
        (Tree.chk
          ((True ∧ 0 + List.length (putL true (2 : Int) (List.take 1 (List.drop (0) [(-2 : Int)]))) ≤ List.length (putL true (2 : Int) (List.take 1 (List.drop (0) [(-2 : Int)]))) ∧ True) ∧
            short (List.take (List.length (putL true (2 : Int) (List.take 1 (List.drop (0) [(-2 : Int)])))) (List.drop (0) (putL true (2 : Int) (List.take 1 (List.drop (0) [(-2 : Int)]))))) ∧
              (decide (putL true (2 : Int) (List.take 1 (List.drop (0) [(-2 : Int)])) = []) = true →
                List.take (List.length (putL true (2 : Int) (List.take 1 (List.drop (0) [(-2 : Int)])))) (List.drop (0) (putL true (2 : Int) (List.take 1 (List.drop (0) [(-2 : Int)])))) = []))
          (Tree.chk
            ((0 + List.length (putL true (2 : Int) (List.take 1 (List.drop (0) [(-2 : Int)]))) ≤ List.length (putL true (2 : Int) (List.take 1 (List.drop (0) [(-2 : Int)]))) ∧
                0 + 2 ≤ List.length [(65535 : Int), (65534 : Int)] ∧ True) ∧
              short (List.take (List.length (putL true (2 : Int) (List.take 1 (List.drop (0) [(-2 : Int)])))) (List.drop (0) (putL true (2 : Int) (List.take 1 (List.drop (0) [(-2 : Int)]))))) ∧
                (decide (putL true (2 : Int) (List.take 1 (List.drop (0) [(-2 : Int)])) = []) = true →
                    List.take (List.length (putL true (2 : Int) (List.take 1 (List.drop (0) [(-2 : Int)])))) (List.drop (0) (putL true (2 : Int) (List.take 1 (List.drop (0) [(-2 : Int)])))) = []) ∧
                  (false = true → List.take 2 (List.drop (0) [(65535 : Int), (65534 : Int)]) = []))
            (Tree.br true
              (Tree.br true
                (Tree.chk ((0 = 0 ∧ 0 + 1 ≤ List.length [(4098 : Int)] ∧ True) ∧ short [] ∧ (true = true → ([] : List Int) = []) ∧ (false = true → List.take 1 (List.drop (0) [(4098 : Int)]) = []))
                  (Tree.br false
                    (Tree.br true
                      (Tree.br true
                        (Tree.br true
                          (Tree.chk
                            ((0 + 3 ≤ List.length [(4 : Int), (12 : Int), (1 : Int)] ∧ True) ∧
                              List.length (List.take 3 (List.drop (0) [(4 : Int), (12 : Int), (1 : Int)])) ≤ 1000000 ∧
                                (false = true → List.take 3 (List.drop (0) [(4 : Int), (12 : Int), (1 : Int)]) = []))
                            (Tree.ret (AV.bool false true, [])))
                          (Tree.ret (AV.bool true false, [])))
                        (Tree.ret (AV.bool true false, [])))
                      (Tree.ret (AV.bool true false, [])))
                    (Tree.ret (AV.bool true false, []))))
                (Tree.ret (AV.bool true false, [])))
              (Tree.ret (AV.bool true false, [])))))
        (Tree.chk
          ((True ∧ 0 + List.length (putL true (2 : Int) (List.take 1 (List.drop (0) [(-2 : Int)]))) ≤ List.length (putL true (2 : Int) (List.take 1 (List.drop (0) [(-2 : Int)]))) ∧ True) ∧
            short (List.take (List.length (putL true (2 : Int) (List.take 1 (List.drop (0) [(-2 : Int)])))) (List.drop (0) (putL true (2 : Int) (List.take 1 (List.drop (0) [(-2 : Int)]))))) ∧
              (decide (putL true (2 : Int) (List.take 1 (List.drop (0) [(-2 : Int)])) = []) = true →
                List.take (List.length (putL true (2 : Int) (List.take 1 (List.drop (0) [(-2 : Int)])))) (List.drop (0) (putL true (2 : Int) (List.take 1 (List.drop (0) [(-2 : Int)])))) = []))
          (Tree.chk
            ((0 + List.length (putL true (2 : Int) (List.take 1 (List.drop (0) [(-2 : Int)]))) ≤ List.length (putL true (2 : Int) (List.take 1 (List.drop (0) [(-2 : Int)]))) ∧
                0 + 2 ≤ List.length [(65535 : Int), (65534 : Int)] ∧ True) ∧
              short (List.take (List.length (putL true (2 : Int) (List.take 1 (List.drop (0) [(-2 : Int)])))) (List.drop (0) (putL true (2 : Int) (List.take 1 (List.drop (0) [(-2 : Int)]))))) ∧
                (decide (putL true (2 : Int) (List.take 1 (List.drop (0) [(-2 : Int)])) = []) = true →
                    List.take (List.length (putL true (2 : Int) (List.take 1 (List.drop (0) [(-2 : Int)])))) (List.drop (0) (putL true (2 : Int) (List.take 1 (List.drop (0) [(-2 : Int)])))) = []) ∧
                  (false = true → List.take 2 (List.drop (0) [(65535 : Int), (65534 : Int)]) = []))
            (Tree.br true
              (Tree.br true
                (Tree.chk
                  ((0 + (0 + 1) ≤ List.length [(4098 : Int)] ∧ 0 + 1 ≤ List.length [(4098 : Int)] ∧ True) ∧
                    short (List.take (0 + 1) (List.drop (0) [(4098 : Int)])) ∧
                      (false = true → List.take (0 + 1) (List.drop (0) [(4098 : Int)]) = []) ∧ (false = true → List.take 1 (List.drop (0) [(4098 : Int)]) = []))
                  (Tree.br true
                    (Tree.br true
                      (Tree.br true
                        (Tree.chk
                          ((0 + 3 ≤ List.length [(4 : Int), (12 : Int), (1 : Int)] ∧ True) ∧
                            List.length (List.take 3 (List.drop (0) [(4 : Int), (12 : Int), (1 : Int)])) ≤ 1000000 ∧ (false = true → List.take 3 (List.drop (0) [(4 : Int), (12 : Int), (1 : Int)]) = []))
                          (Tree.ret (AV.bool false true, [])))
                        (Tree.ret (AV.bool true false, [])))
                      (Tree.ret (AV.bool true false, [])))
                    (Tree.ret (AV.bool true false, []))))
                (Tree.ret (AV.bool true false, [])))
              (Tree.ret (AV.bool true false, []))))))) : Tree (AV × Mem)).GivesP (.bool false true) ([]) := by
  refine Tree.GivesP.chk (by first | (simp only [and_self]; done) | ((repeat' with_reducible refine And.intro ?_ ?_) <;> first | trivial | (intro n hn; simp at hn; omega) | (intro hh; cases hh; done) | (simp only [short]; decide +kernel) | decide +kernel | (intro hh; revert hh; decide +kernel))) ?_
  refine Tree.GivesP.chk (by first | (simp only [and_self]; done) | ((repeat' with_reducible refine And.intro ?_ ?_) <;> first | trivial | (intro n hn; simp at hn; omega) | (intro hh; cases hh; done) | (simp only [short]; decide +kernel) | decide +kernel | (intro hh; revert hh; decide +kernel))) ?_
  refine Tree.GivesP.br (fun h1 => ?_) (fun h1 => ?_)
  · (try simp only [decide_eq_true_eq, decide_eq_false_iff_not, Bool.not_eq_true', Bool.not_eq_false', beq_iff_eq, beq_eq_false_iff_ne, Int.not_lt, Int.not_le, ge_iff_le, gt_iff_lt, ne_eq, Bool.false_eq_true, Bool.true_eq_false, not_true_eq_false, not_false_eq_true, Bool.and_eq_true, Bool.not_eq_eq_eq_not, Bool.not_true, Bool.not_false, bne_iff_ne, bne_eq_false_iff_eq, Int.toNat_natCast, Nat.mul_one, Nat.add_zero, Nat.zero_add, List.take_length, List.drop_zero] at h1)
    all_goals
      refine Tree.GivesP.chk (by first | (simp only [and_self]; done) | ((repeat' with_reducible refine And.intro ?_ ?_) <;> first | trivial | (intro n hn; simp at hn; omega) | (intro hh; cases hh; done) | (simp only [short]; decide +kernel) | decide +kernel | (intro hh; revert hh; decide +kernel))) ?_
      refine Tree.GivesP.chk (by first | (simp only [and_self]; done) | ((repeat' with_reducible refine And.intro ?_ ?_) <;> first | trivial | (intro n hn; simp at hn; omega) | (intro hh; cases hh; done) | (simp only [short]; decide +kernel) | decide +kernel | (intro hh; revert hh; decide +kernel))) ?_
      refine Tree.GivesP.br (fun h2 => ?_) (fun h2 => ?_)
      · (try simp only [decide_eq_true_eq, decide_eq_false_iff_not, Bool.not_eq_true', Bool.not_eq_false', beq_iff_eq, beq_eq_false_iff_ne, Int.not_lt, Int.not_le, ge_iff_le, gt_iff_lt, ne_eq, Bool.false_eq_true, Bool.true_eq_false, not_true_eq_false, not_false_eq_true, Bool.and_eq_true, Bool.not_eq_eq_eq_not, Bool.not_true, Bool.not_false, bne_iff_ne, bne_eq_false_iff_eq, Int.toNat_natCast, Nat.mul_one, Nat.add_zero, Nat.zero_add, List.take_length, List.drop_zero] at h2)
        all_goals
          refine Tree.GivesP.br (fun h3 => ?_) (fun h3 => ?_)
          · (try simp only [decide_eq_true_eq, decide_eq_false_iff_not, Bool.not_eq_true', Bool.not_eq_false', beq_iff_eq, beq_eq_false_iff_ne, Int.not_lt, Int.not_le, ge_iff_le, gt_iff_lt, ne_eq, Bool.false_eq_true, Bool.true_eq_false, not_true_eq_false, not_false_eq_true, Bool.and_eq_true, Bool.not_eq_eq_eq_not, Bool.not_true, Bool.not_false, bne_iff_ne, bne_eq_false_iff_eq, Int.toNat_natCast, Nat.mul_one, Nat.add_zero, Nat.zero_add, List.take_length, List.drop_zero] at h3)
            all_goals
              refine Tree.GivesP.chk (by first | (simp only [and_self]; done) | ((repeat' with_reducible refine And.intro ?_ ?_) <;> first | trivial | (intro n hn; simp at hn; omega) | (intro hh; cases hh; done) | (simp only [short]; decide +kernel) | decide +kernel | (intro hh; revert hh; decide +kernel))) ?_
              refine Tree.GivesP.br (fun h4 => ?_) (fun h4 => ?_)
              · (try simp only [decide_eq_true_eq, decide_eq_false_iff_not, Bool.not_eq_true', Bool.not_eq_false', beq_iff_eq, beq_eq_false_iff_ne, Int.not_lt, Int.not_le, ge_iff_le, gt_iff_lt, ne_eq, Bool.false_eq_true, Bool.true_eq_false, not_true_eq_false, not_false_eq_true, Bool.and_eq_true, Bool.not_eq_eq_eq_not, Bool.not_true, Bool.not_false, bne_iff_ne, bne_eq_false_iff_eq, Int.toNat_natCast, Nat.mul_one, Nat.add_zero, Nat.zero_add, List.take_length, List.drop_zero] at h4)
                all_goals
                  refine Tree.GivesP.br (fun h5 => ?_) (fun h5 => ?_)
                  · (try simp only [decide_eq_true_eq, decide_eq_false_iff_not, Bool.not_eq_true', Bool.not_eq_false', beq_iff_eq, beq_eq_false_iff_ne, Int.not_lt, Int.not_le, ge_iff_le, gt_iff_lt, ne_eq, Bool.false_eq_true, Bool.true_eq_false, not_true_eq_false, not_false_eq_true, Bool.and_eq_true, Bool.not_eq_eq_eq_not, Bool.not_true, Bool.not_false, bne_iff_ne, bne_eq_false_iff_eq, Int.toNat_natCast, Nat.mul_one, Nat.add_zero, Nat.zero_add, List.take_length, List.drop_zero] at h5)
                    all_goals
                      refine Tree.GivesP.br (fun h6 => ?_) (fun h6 => ?_)
                      · (try simp only [decide_eq_true_eq, decide_eq_false_iff_not, Bool.not_eq_true', Bool.not_eq_false', beq_iff_eq, beq_eq_false_iff_ne, Int.not_lt, Int.not_le, ge_iff_le, gt_iff_lt, ne_eq, Bool.false_eq_true, Bool.true_eq_false, not_true_eq_false, not_false_eq_true, Bool.and_eq_true, Bool.not_eq_eq_eq_not, Bool.not_true, Bool.not_false, bne_iff_ne, bne_eq_false_iff_eq, Int.toNat_natCast, Nat.mul_one, Nat.add_zero, Nat.zero_add, List.take_length, List.drop_zero] at h6)
                        all_goals
                          refine Tree.GivesP.br (fun h7 => ?_) (fun h7 => ?_)
                          · (try simp only [decide_eq_true_eq, decide_eq_false_iff_not, Bool.not_eq_true', Bool.not_eq_false', beq_iff_eq, beq_eq_false_iff_ne, Int.not_lt, Int.not_le, ge_iff_le, gt_iff_lt, ne_eq, Bool.false_eq_true, Bool.true_eq_false, not_true_eq_false, not_false_eq_true, Bool.and_eq_true, Bool.not_eq_eq_eq_not, Bool.not_true, Bool.not_false, bne_iff_ne, bne_eq_false_iff_eq, Int.toNat_natCast, Nat.mul_one, Nat.add_zero, Nat.zero_add, List.take_length, List.drop_zero] at h7)
                            all_goals
                              refine Tree.GivesP.chk (by first | (simp only [and_self]; done) | ((repeat' with_reducible refine And.intro ?_ ?_) <;> first | trivial | (intro n hn; simp at hn; omega) | (intro hh; cases hh; done) | (simp only [short]; decide +kernel) | decide +kernel | (intro hh; revert hh; decide +kernel))) ?_
                              refine Tree.GivesP.ret ?_ ?_
                              · simp only [AV.le]
                              · simp only [AV.leL, AV.le, Mem.le, Mem.leP, Blk.le, Blk.pad, Data.le, Data.size, Cap.le, and_true, true_and, and_self, true_implies, implies_true, imp_self, List.length_nil]
                          · (try simp only [decide_eq_true_eq, decide_eq_false_iff_not, Bool.not_eq_true', Bool.not_eq_false', beq_iff_eq, beq_eq_false_iff_ne, Int.not_lt, Int.not_le, ge_iff_le, gt_iff_lt, ne_eq, Bool.false_eq_true, Bool.true_eq_false, not_true_eq_false, not_false_eq_true, Bool.and_eq_true, Bool.not_eq_eq_eq_not, Bool.not_true, Bool.not_false, bne_iff_ne, bne_eq_false_iff_eq, Int.toNat_natCast, Nat.mul_one, Nat.add_zero, Nat.zero_add, List.take_length, List.drop_zero] at h7)
                            all_goals
                              refine Tree.GivesP.ret ?_ ?_
                              · simp only [AV.le]
                              · simp only [AV.leL, AV.le, Mem.le, Mem.leP, Blk.le, Blk.pad, Data.le, Data.size, Cap.le, and_true, true_and, and_self, true_implies, implies_true, imp_self, List.length_nil]
                      · (try simp only [decide_eq_true_eq, decide_eq_false_iff_not, Bool.not_eq_true', Bool.not_eq_false', beq_iff_eq, beq_eq_false_iff_ne, Int.not_lt, Int.not_le, ge_iff_le, gt_iff_lt, ne_eq, Bool.false_eq_true, Bool.true_eq_false, not_true_eq_false, not_false_eq_true, Bool.and_eq_true, Bool.not_eq_eq_eq_not, Bool.not_true, Bool.not_false, bne_iff_ne, bne_eq_false_iff_eq, Int.toNat_natCast, Nat.mul_one, Nat.add_zero, Nat.zero_add, List.take_length, List.drop_zero] at h6)
                        all_goals
                          refine Tree.GivesP.ret ?_ ?_
                          · simp only [AV.le]
                          · simp only [AV.leL, AV.le, Mem.le, Mem.leP, Blk.le, Blk.pad, Data.le, Data.size, Cap.le, and_true, true_and, and_self, true_implies, implies_true, imp_self, List.length_nil]
                  · (try simp only [decide_eq_true_eq, decide_eq_false_iff_not, Bool.not_eq_true', Bool.not_eq_false', beq_iff_eq, beq_eq_false_iff_ne, Int.not_lt, Int.not_le, ge_iff_le, gt_iff_lt, ne_eq, Bool.false_eq_true, Bool.true_eq_false, not_true_eq_false, not_false_eq_true, Bool.and_eq_true, Bool.not_eq_eq_eq_not, Bool.not_true, Bool.not_false, bne_iff_ne, bne_eq_false_iff_eq, Int.toNat_natCast, Nat.mul_one, Nat.add_zero, Nat.zero_add, List.take_length, List.drop_zero] at h5)
                    all_goals
                      refine Tree.GivesP.ret ?_ ?_
                      · simp only [AV.le]
                      · simp only [AV.leL, AV.le, Mem.le, Mem.leP, Blk.le, Blk.pad, Data.le, Data.size, Cap.le, and_true, true_and, and_self, true_implies, implies_true, imp_self, List.length_nil]
              · (try simp only [decide_eq_true_eq, decide_eq_false_iff_not, Bool.not_eq_true', Bool.not_eq_false', beq_iff_eq, beq_eq_false_iff_ne, Int.not_lt, Int.not_le, ge_iff_le, gt_iff_lt, ne_eq, Bool.false_eq_true, Bool.true_eq_false, not_true_eq_false, not_false_eq_true, Bool.and_eq_true, Bool.not_eq_eq_eq_not, Bool.not_true, Bool.not_false, bne_iff_ne, bne_eq_false_iff_eq, Int.toNat_natCast, Nat.mul_one, Nat.add_zero, Nat.zero_add, List.take_length, List.drop_zero] at h4)
                all_goals
                  refine Tree.GivesP.ret ?_ ?_
                  · simp only [AV.le]
                  · simp only [AV.leL, AV.le, Mem.le, Mem.leP, Blk.le, Blk.pad, Data.le, Data.size, Cap.le, and_true, true_and, and_self, true_implies, implies_true, imp_self, List.length_nil]
          · (try simp only [decide_eq_true_eq, decide_eq_false_iff_not, Bool.not_eq_true', Bool.not_eq_false', beq_iff_eq, beq_eq_false_iff_ne, Int.not_lt, Int.not_le, ge_iff_le, gt_iff_lt, ne_eq, Bool.false_eq_true, Bool.true_eq_false, not_true_eq_false, not_false_eq_true, Bool.and_eq_true, Bool.not_eq_eq_eq_not, Bool.not_true, Bool.not_false, bne_iff_ne, bne_eq_false_iff_eq, Int.toNat_natCast, Nat.mul_one, Nat.add_zero, Nat.zero_add, List.take_length, List.drop_zero] at h3)
            all_goals
              refine Tree.GivesP.ret ?_ ?_
              · simp only [AV.le]
              · simp only [AV.leL, AV.le, Mem.le, Mem.leP, Blk.le, Blk.pad, Data.le, Data.size, Cap.le, and_true, true_and, and_self, true_implies, implies_true, imp_self, List.length_nil]
      · (try simp only [decide_eq_true_eq, decide_eq_false_iff_not, Bool.not_eq_true', Bool.not_eq_false', beq_iff_eq, beq_eq_false_iff_ne, Int.not_lt, Int.not_le, ge_iff_le, gt_iff_lt, ne_eq, Bool.false_eq_true, Bool.true_eq_false, not_true_eq_false, not_false_eq_true, Bool.and_eq_true, Bool.not_eq_eq_eq_not, Bool.not_true, Bool.not_false, bne_iff_ne, bne_eq_false_iff_eq, Int.toNat_natCast, Nat.mul_one, Nat.add_zero, Nat.zero_add, List.take_length, List.drop_zero] at h2)
        all_goals
          refine Tree.GivesP.ret ?_ ?_
          · simp only [AV.le]
          · simp only [AV.leL, AV.le, Mem.le, Mem.leP, Blk.le, Blk.pad, Data.le, Data.size, Cap.le, and_true, true_and, and_self, true_implies, implies_true, imp_self, List.length_nil]
  · (try simp only [decide_eq_true_eq, decide_eq_false_iff_not, Bool.not_eq_true', Bool.not_eq_false', beq_iff_eq, beq_eq_false_iff_ne, Int.not_lt, Int.not_le, ge_iff_le, gt_iff_lt, ne_eq, Bool.false_eq_true, Bool.true_eq_false, not_true_eq_false, not_false_eq_true, Bool.and_eq_true, Bool.not_eq_eq_eq_not, Bool.not_true, Bool.not_false, bne_iff_ne, bne_eq_false_iff_eq, Int.toNat_natCast, Nat.mul_one, Nat.add_zero, Nat.zero_add, List.take_length, List.drop_zero] at h1)
    all_goals
      refine Tree.GivesP.chk (by first | (simp only [and_self]; done) | ((repeat' with_reducible refine And.intro ?_ ?_) <;> first | trivial | (intro n hn; simp at hn; omega) | (intro hh; cases hh; done) | (simp only [short]; decide +kernel) | decide +kernel | (intro hh; revert hh; decide +kernel))) ?_
      refine Tree.GivesP.chk (by first | (simp only [and_self]; done) | ((repeat' with_reducible refine And.intro ?_ ?_) <;> first | trivial | (intro n hn; simp at hn; omega) | (intro hh; cases hh; done) | (simp only [short]; decide +kernel) | decide +kernel | (intro hh; revert hh; decide +kernel))) ?_
      refine Tree.GivesP.br (fun h2 => ?_) (fun h2 => ?_)
      · (try simp only [decide_eq_true_eq, decide_eq_false_iff_not, Bool.not_eq_true', Bool.not_eq_false', beq_iff_eq, beq_eq_false_iff_ne, Int.not_lt, Int.not_le, ge_iff_le, gt_iff_lt, ne_eq, Bool.false_eq_true, Bool.true_eq_false, not_true_eq_false, not_false_eq_true, Bool.and_eq_true, Bool.not_eq_eq_eq_not, Bool.not_true, Bool.not_false, bne_iff_ne, bne_eq_false_iff_eq, Int.toNat_natCast, Nat.mul_one, Nat.add_zero, Nat.zero_add, List.take_length, List.drop_zero] at h2)
        all_goals
          refine Tree.GivesP.br (fun h3 => ?_) (fun h3 => ?_)
          · (try simp only [decide_eq_true_eq, decide_eq_false_iff_not, Bool.not_eq_true', Bool.not_eq_false', beq_iff_eq, beq_eq_false_iff_ne, Int.not_lt, Int.not_le, ge_iff_le, gt_iff_lt, ne_eq, Bool.false_eq_true, Bool.true_eq_false, not_true_eq_false, not_false_eq_true, Bool.and_eq_true, Bool.not_eq_eq_eq_not, Bool.not_true, Bool.not_false, bne_iff_ne, bne_eq_false_iff_eq, Int.toNat_natCast, Nat.mul_one, Nat.add_zero, Nat.zero_add, List.take_length, List.drop_zero] at h3)
            all_goals
              refine Tree.GivesP.chk (by first | (simp only [and_self]; done) | ((repeat' with_reducible refine And.intro ?_ ?_) <;> first | trivial | (intro n hn; simp at hn; omega) | (intro hh; cases hh; done) | (simp only [short]; decide +kernel) | decide +kernel | (intro hh; revert hh; decide +kernel))) ?_
              refine Tree.GivesP.br (fun h4 => ?_) (fun h4 => ?_)
              · (try simp only [decide_eq_true_eq, decide_eq_false_iff_not, Bool.not_eq_true', Bool.not_eq_false', beq_iff_eq, beq_eq_false_iff_ne, Int.not_lt, Int.not_le, ge_iff_le, gt_iff_lt, ne_eq, Bool.false_eq_true, Bool.true_eq_false, not_true_eq_false, not_false_eq_true, Bool.and_eq_true, Bool.not_eq_eq_eq_not, Bool.not_true, Bool.not_false, bne_iff_ne, bne_eq_false_iff_eq, Int.toNat_natCast, Nat.mul_one, Nat.add_zero, Nat.zero_add, List.take_length, List.drop_zero] at h4)
                all_goals
                  refine Tree.GivesP.br (fun h5 => ?_) (fun h5 => ?_)
                  · (try simp only [decide_eq_true_eq, decide_eq_false_iff_not, Bool.not_eq_true', Bool.not_eq_false', beq_iff_eq, beq_eq_false_iff_ne, Int.not_lt, Int.not_le, ge_iff_le, gt_iff_lt, ne_eq, Bool.false_eq_true, Bool.true_eq_false, not_true_eq_false, not_false_eq_true, Bool.and_eq_true, Bool.not_eq_eq_eq_not, Bool.not_true, Bool.not_false, bne_iff_ne, bne_eq_false_iff_eq, Int.toNat_natCast, Nat.mul_one, Nat.add_zero, Nat.zero_add, List.take_length, List.drop_zero] at h5)
                    all_goals
                      refine Tree.GivesP.br (fun h6 => ?_) (fun h6 => ?_)
                      · (try simp only [decide_eq_true_eq, decide_eq_false_iff_not, Bool.not_eq_true', Bool.not_eq_false', beq_iff_eq, beq_eq_false_iff_ne, Int.not_lt, Int.not_le, ge_iff_le, gt_iff_lt, ne_eq, Bool.false_eq_true, Bool.true_eq_false, not_true_eq_false, not_false_eq_true, Bool.and_eq_true, Bool.not_eq_eq_eq_not, Bool.not_true, Bool.not_false, bne_iff_ne, bne_eq_false_iff_eq, Int.toNat_natCast, Nat.mul_one, Nat.add_zero, Nat.zero_add, List.take_length, List.drop_zero] at h6)
                        all_goals
                          refine Tree.GivesP.chk (by first | (simp only [and_self]; done) | ((repeat' with_reducible refine And.intro ?_ ?_) <;> first | trivial | (intro n hn; simp at hn; omega) | (intro hh; cases hh; done) | (simp only [short]; decide +kernel) | decide +kernel | (intro hh; revert hh; decide +kernel))) ?_
                          refine Tree.GivesP.ret ?_ ?_
                          · simp only [AV.le]
                          · simp only [AV.leL, AV.le, Mem.le, Mem.leP, Blk.le, Blk.pad, Data.le, Data.size, Cap.le, and_true, true_and, and_self, true_implies, implies_true, imp_self, List.length_nil]
                      · (try simp only [decide_eq_true_eq, decide_eq_false_iff_not, Bool.not_eq_true', Bool.not_eq_false', beq_iff_eq, beq_eq_false_iff_ne, Int.not_lt, Int.not_le, ge_iff_le, gt_iff_lt, ne_eq, Bool.false_eq_true, Bool.true_eq_false, not_true_eq_false, not_false_eq_true, Bool.and_eq_true, Bool.not_eq_eq_eq_not, Bool.not_true, Bool.not_false, bne_iff_ne, bne_eq_false_iff_eq, Int.toNat_natCast, Nat.mul_one, Nat.add_zero, Nat.zero_add, List.take_length, List.drop_zero] at h6)
                        all_goals
                          refine Tree.GivesP.ret ?_ ?_
                          · simp only [AV.le]
                          · simp only [AV.leL, AV.le, Mem.le, Mem.leP, Blk.le, Blk.pad, Data.le, Data.size, Cap.le, and_true, true_and, and_self, true_implies, implies_true, imp_self, List.length_nil]
                  · (try simp only [decide_eq_true_eq, decide_eq_false_iff_not, Bool.not_eq_true', Bool.not_eq_false', beq_iff_eq, beq_eq_false_iff_ne, Int.not_lt, Int.not_le, ge_iff_le, gt_iff_lt, ne_eq, Bool.false_eq_true, Bool.true_eq_false, not_true_eq_false, not_false_eq_true, Bool.and_eq_true, Bool.not_eq_eq_eq_not, Bool.not_true, Bool.not_false, bne_iff_ne, bne_eq_false_iff_eq, Int.toNat_natCast, Nat.mul_one, Nat.add_zero, Nat.zero_add, List.take_length, List.drop_zero] at h5)
                    all_goals
                      refine Tree.GivesP.ret ?_ ?_
                      · simp only [AV.le]
                      · simp only [AV.leL, AV.le, Mem.le, Mem.leP, Blk.le, Blk.pad, Data.le, Data.size, Cap.le, and_true, true_and, and_self, true_implies, implies_true, imp_self, List.length_nil]
              · (try simp only [decide_eq_true_eq, decide_eq_false_iff_not, Bool.not_eq_true', Bool.not_eq_false', beq_iff_eq, beq_eq_false_iff_ne, Int.not_lt, Int.not_le, ge_iff_le, gt_iff_lt, ne_eq, Bool.false_eq_true, Bool.true_eq_false, not_true_eq_false, not_false_eq_true, Bool.and_eq_true, Bool.not_eq_eq_eq_not, Bool.not_true, Bool.not_false, bne_iff_ne, bne_eq_false_iff_eq, Int.toNat_natCast, Nat.mul_one, Nat.add_zero, Nat.zero_add, List.take_length, List.drop_zero] at h4)
                all_goals
                  refine Tree.GivesP.ret ?_ ?_
                  · simp only [AV.le]
                  · simp only [AV.leL, AV.le, Mem.le, Mem.leP, Blk.le, Blk.pad, Data.le, Data.size, Cap.le, and_true, true_and, and_self, true_implies, implies_true, imp_self, List.length_nil]
          · (try simp only [decide_eq_true_eq, decide_eq_false_iff_not, Bool.not_eq_true', Bool.not_eq_false', beq_iff_eq, beq_eq_false_iff_ne, Int.not_lt, Int.not_le, ge_iff_le, gt_iff_lt, ne_eq, Bool.false_eq_true, Bool.true_eq_false, not_true_eq_false, not_false_eq_true, Bool.and_eq_true, Bool.not_eq_eq_eq_not, Bool.not_true, Bool.not_false, bne_iff_ne, bne_eq_false_iff_eq, Int.toNat_natCast, Nat.mul_one, Nat.add_zero, Nat.zero_add, List.take_length, List.drop_zero] at h3)
            all_goals
              refine Tree.GivesP.ret ?_ ?_
              · simp only [AV.le]
              · simp only [AV.leL, AV.le, Mem.le, Mem.leP, Blk.le, Blk.pad, Data.le, Data.size, Cap.le, and_true, true_and, and_self, true_implies, implies_true, imp_self, List.length_nil]
      · (try simp only [decide_eq_true_eq, decide_eq_false_iff_not, Bool.not_eq_true', Bool.not_eq_false', beq_iff_eq, beq_eq_false_iff_ne, Int.not_lt, Int.not_le, ge_iff_le, gt_iff_lt, ne_eq, Bool.false_eq_true, Bool.true_eq_false, not_true_eq_false, not_false_eq_true, Bool.and_eq_true, Bool.not_eq_eq_eq_not, Bool.not_true, Bool.not_false, bne_iff_ne, bne_eq_false_iff_eq, Int.toNat_natCast, Nat.mul_one, Nat.add_zero, Nat.zero_add, List.take_length, List.drop_zero] at h2)
        all_goals
          refine Tree.GivesP.ret ?_ ?_
          · simp only [AV.le]
          · simp only [AV.leL, AV.le, Mem.le, Mem.leP, Blk.le, Blk.pad, Data.le, Data.size, Cap.le, and_true, true_and, and_self, true_implies, implies_true, imp_self, List.length_nil]
theorem sworks (hall : AllOk Try.prog 0 (fun _ => none) tab28)  (hw : True) : SoundAt (mkC Try.prog 0 (fun _ => none) []) 14 [] [] (.bool false true, []) := sound_ofP hall mix (tworks ) (gworks  hw)
theorem Fworks_ok (hall : AllOk Try.prog 0 (fun _ => none) tab28) : PureF Try.prog 3 14 Fworks := by
  intro xs c v news h hc
  unfold Fworks at h
  split at h
  · skip
    cases h
    refine ⟨(by intro b hb; cases hb), SoundAt.flags (sworks hall  hc) ?_⟩
    simp [PA.avs, AV.le, AV.leL, Cap.le]
  · cases h
end Go.Proofs.Ytnkjblmlchbfkaa.Rig

/- All29 -/
namespace Go.Proofs.Ytnkjblmlchbfkaa.Rig
open Go
theorem Flook1_okx : PureF Try.prog 3 38 Flook1 := Flook1_ok all0
theorem all1 : AllOk Try.prog 0 (fun _ => none) tab1 := ⟨pureEnt_ok Flook1_okx, all0⟩
theorem Fmay1_okx : PureF Try.prog 3 36 Fmay1 := Fmay1_ok all1
theorem all2 : AllOk Try.prog 0 (fun _ => none) tab2 := ⟨pureEnt_ok Fmay1_okx, all1⟩
theorem Fidx38_okx : PureF Try.prog 3 39 Fidx38 := Fidx38_ok all2
theorem all3 : AllOk Try.prog 0 (fun _ => none) tab3 := ⟨pureEnt_ok Fidx38_okx, all2⟩
theorem Fidx36o_okx : PureF Try.prog 3 39 Fidx36o := PureF.or Fidx38_okx (Fidx36_ok all3)
theorem all4 : AllOk Try.prog 0 (fun _ => none) tab4 := ⟨pureEnt_ok Fidx36o_okx, all3⟩
theorem Fcon38_okx : PureF Try.prog 3 37 Fcon38 := Fcon38_ok all4
theorem all5 : AllOk Try.prog 0 (fun _ => none) tab5 := ⟨pureEnt_ok Fcon38_okx, all4⟩
theorem Fcon36o_okx : PureF Try.prog 3 37 Fcon36o := PureF.or Fcon38_okx (Fcon36_ok all5)
theorem all6 : AllOk Try.prog 0 (fun _ => none) tab6 := ⟨pureEnt_ok Fcon36o_okx, all5⟩
theorem Fwords_okx : PureF Try.prog 3 35 Fwords := Fwords_ok all6
theorem all7 : AllOk Try.prog 0 (fun _ => none) tab7 := ⟨pureEnt_ok Fwords_okx, all6⟩
theorem Famong0_okx : PureF Try.prog 3 18 Famong0 := Famong0_ok all7
theorem all8 : AllOk Try.prog 0 (fun _ => none) tab8 := ⟨pureEnt_ok Famong0_okx, all7⟩
theorem Flook_okx : PureF Try.prog 3 34 Flook := Flook_ok all8
theorem all9 : AllOk Try.prog 0 (fun _ => none) tab9 := ⟨pureEnt_ok Flook_okx, all8⟩
theorem Fmay_okx : PureF Try.prog 3 31 Fmay := Fmay_ok all9
theorem all10 : AllOk Try.prog 0 (fun _ => none) tab10 := ⟨pureEnt_ok Fmay_okx, all9⟩
theorem Fints_okx : PureF Try.prog 3 10 Fints := Fints_ok all10
theorem all11 : AllOk Try.prog 0 (fun _ => none) tab11 := ⟨pureEnt_ok Fints_okx, all10⟩
theorem Fsame_okx : PureF Try.prog 3 13 Fsame := Fsame_ok all11
theorem all12 : AllOk Try.prog 0 (fun _ => none) tab12 := ⟨pureEnt_ok Fsame_okx, all11⟩
theorem Fall26_okx : PureF Try.prog 3 25 Fall26 := Fall26_ok all12
theorem all13 : AllOk Try.prog 0 (fun _ => none) tab13 := ⟨pureEnt_ok Fall26_okx, all12⟩
theorem Fall28o_okx : PureF Try.prog 3 25 Fall28o := PureF.or Fall26_okx (Fall28_ok all13)
theorem all14 : AllOk Try.prog 0 (fun _ => none) tab14 := ⟨pureEnt_ok Fall28o_okx, all13⟩
theorem Fsigned_okx : PureF Try.prog 3 9 Fsigned := Fsigned_ok all14
theorem all15 : AllOk Try.prog 0 (fun _ => none) tab15 := ⟨pureEnt_ok Fsigned_okx, all14⟩
theorem Fplain_okx : PureF Try.prog 3 12 Fplain := Fplain_ok all15
theorem all16 : AllOk Try.prog 0 (fun _ => none) tab16 := ⟨pureEnt_ok Fplain_okx, all15⟩
theorem Ffull_okx : PureF Try.prog 3 30 Ffull := Ffull_ok all16
theorem all17 : AllOk Try.prog 0 (fun _ => none) tab17 := ⟨pureEnt_ok Ffull_okx, all16⟩
theorem Ffits_okx : PureF Try.prog 3 27 Ffits := Ffits_ok all17
theorem all18 : AllOk Try.prog 0 (fun _ => none) tab18 := ⟨pureEnt_ok Ffits_okx, all17⟩
theorem Frput_okx : PureF Try.prog 3 11 Frput := Frput_ok all18
theorem all19 : AllOk Try.prog 0 (fun _ => none) tab19 := ⟨pureEnt_ok Frput_okx, all18⟩
theorem Fraw_okx : PureF Try.prog 3 29 Fraw := Fraw_ok all19
theorem all20 : AllOk Try.prog 0 (fun _ => none) tab20 := ⟨pureEnt_ok Fraw_okx, all19⟩
theorem Fget_okx : PureF Try.prog 3 15 Fget := Fget_ok all20
theorem all21 : AllOk Try.prog 0 (fun _ => none) tab21 := ⟨pureEnt_ok Fget_okx, all20⟩
theorem Fgpl_okx : PureF Try.prog 3 17 Fgpl := Fgpl_ok all21
theorem all22 : AllOk Try.prog 0 (fun _ => none) tab22 := ⟨pureEnt_ok Fgpl_okx, all21⟩
theorem Frget_okx : PureF Try.prog 3 16 Frget := Frget_ok all22
theorem all23 : AllOk Try.prog 0 (fun _ => none) tab23 := ⟨pureEnt_ok Frget_okx, all22⟩
theorem Fsize_okx : PureF Try.prog 3 23 Fsize := Fsize_ok all23
theorem all24 : AllOk Try.prog 0 (fun _ => none) tab24 := ⟨pureEnt_ok Fsize_okx, all23⟩
theorem Frsize_okx : PureF Try.prog 3 24 Frsize := Frsize_ok all24
theorem all25 : AllOk Try.prog 0 (fun _ => none) tab25 := ⟨pureEnt_ok Frsize_okx, all24⟩
theorem Fpower_okx : PureF Try.prog 3 33 Fpower := Fpower_ok all25
theorem all26 : AllOk Try.prog 0 (fun _ => none) tab26 := ⟨pureEnt_ok Fpower_okx, all25⟩
theorem Frmay_okx : PureF Try.prog 3 32 Frmay := Frmay_ok all26
theorem all27 : AllOk Try.prog 0 (fun _ => none) tab27 := ⟨pureEnt_ok Frmay_okx, all26⟩
theorem Famong_okx : PureF Try.prog 3 18 Famong := Famong_ok all27
theorem all28 : AllOk Try.prog 0 (fun _ => none) tab28 := ⟨pureEnt_ok Famong_okx, all27⟩
theorem Fworks_okx : PureF Try.prog 3 14 Fworks := Fworks_ok all28
theorem all29 : AllOk Try.prog 0 (fun _ => none) tab29 := ⟨pureEnt_ok Fworks_okx, all28⟩
end Go.Proofs.Ytnkjblmlchbfkaa.Rig
