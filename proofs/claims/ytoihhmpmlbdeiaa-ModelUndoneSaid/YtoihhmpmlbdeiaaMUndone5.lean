/- MUndone: what is proved for the claim, part 5: functions' reckonings, and what they give. -/
import Derived.Test.YtoihhmpmlbdeiaaMUndone4
import Derived.KernelRfl
import Derived.Test.YtoihhmpmlbdeiaaRows
import Derived.WalkKit
import Derived.ProofKit
import Derived.OpenShut
import Derived.ShutString
import Derived.ChangeOld
import Derived.Below
import Derived.SizedLaws
import Derived.Test.YtoihhmpmlbdeiaaMUndoneLZ
set_option linter.unusedVariables false
set_option linter.unusedSimpArgs false
/- QModelUndone -/
namespace Go.Proofs.Ytoihhmpmlbdeiaa.Rig
open Go
set_option maxRecDepth 100000 in
theorem tModelUndone (R0 : Int) (R1 : Int) (R2 : Int) (T1 : Int) (T2 : Int) (Cm : Int) (Sl : Int) (Tk : Int) (u1 : Int) (u2 : Int) (I : Int) (v : Int) : evBody (mkC Try.prog 0 (fun _ => none) tab18) (evCall (mkC Try.prog 0 (fun _ => none) tab18) 50) 5 [.agg [.int .i64 false R0, .int .i64 false R1, .int .i64 false R2, .int .i64 false T1, .int .i64 false T2, .int .i64 false Cm, .int .i64 false Sl, .int .i64 false Tk], .int .i64 false u1, .int .i64 false u2, .int .i64 false I, .int .i64 false v] [] =
  Tree.chk (True ∧ True)
    (Tree.br false (Tree.ret (AV.bool true false, []))
      (Tree.chk
        ((True ∧ True ∧ True ∧ True ∧ True ∧ True) ∧
          (-9223372036854775808 : Int) ≤ R0 ∧
            R0 ≤ (9223372036854775807 : Int) ∧
              (-9223372036854775808 : Int) ≤ R1 ∧
                R1 ≤ (9223372036854775807 : Int) ∧
                  (-9223372036854775808 : Int) ≤ R2 ∧
                    R2 ≤ (9223372036854775807 : Int) ∧
                      (-9223372036854775808 : Int) ≤ T1 ∧
                        T1 ≤ (9223372036854775807 : Int) ∧
                          (-9223372036854775808 : Int) ≤ T2 ∧
                            T2 ≤ (9223372036854775807 : Int) ∧
                              (-9223372036854775808 : Int) ≤ Cm ∧
                                Cm ≤ (9223372036854775807 : Int) ∧
                                  (-9223372036854775808 : Int) ≤ Sl ∧
                                    Sl ≤ (9223372036854775807 : Int) ∧
                                      (-9223372036854775808 : Int) ≤ Tk ∧
                                        Tk ≤ (9223372036854775807 : Int) ∧
                                          (-9223372036854775808 : Int) ≤ u1 ∧
                                            u1 ≤ (9223372036854775807 : Int) ∧
                                              (-9223372036854775808 : Int) ≤ u2 ∧
                                                u2 ≤ (9223372036854775807 : Int) ∧ (-9223372036854775808 : Int) ≤ I ∧ I ≤ (9223372036854775807 : Int) ∧ (-9223372036854775808 : Int) ≤ v ∧ v ≤ (9223372036854775807 : Int))
        (Tree.br (myE R0 R1 R2 T1 T2 Cm Sl Tk u1 u2 I v != (0 : Int)) (Tree.ret (AV.bool false (teV R0 R1 R2 T1 T2 Cm Sl Tk u1 u2 I v == (0 : Int)), []))
          (Tree.chk
            ((True ∧ True ∧ True ∧ True ∧ True ∧ True) ∧
              (-9223372036854775808 : Int) ≤ R0 ∧
                R0 ≤ (9223372036854775807 : Int) ∧
                  (-9223372036854775808 : Int) ≤ R1 ∧
                    R1 ≤ (9223372036854775807 : Int) ∧
                      (-9223372036854775808 : Int) ≤ R2 ∧
                        R2 ≤ (9223372036854775807 : Int) ∧
                          (-9223372036854775808 : Int) ≤ T1 ∧
                            T1 ≤ (9223372036854775807 : Int) ∧
                              (-9223372036854775808 : Int) ≤ T2 ∧
                                T2 ≤ (9223372036854775807 : Int) ∧
                                  (-9223372036854775808 : Int) ≤ Cm ∧
                                    Cm ≤ (9223372036854775807 : Int) ∧
                                      (-9223372036854775808 : Int) ≤ Sl ∧
                                        Sl ≤ (9223372036854775807 : Int) ∧
                                          (-9223372036854775808 : Int) ≤ Tk ∧
                                            Tk ≤ (9223372036854775807 : Int) ∧
                                              (-9223372036854775808 : Int) ≤ u1 ∧
                                                u1 ≤ (9223372036854775807 : Int) ∧
                                                  (-9223372036854775808 : Int) ≤ u2 ∧
                                                    u2 ≤ (9223372036854775807 : Int) ∧
                                                      (-9223372036854775808 : Int) ≤ I ∧
                                                        I ≤ (9223372036854775807 : Int) ∧
                                                          (-9223372036854775808 : Int) ≤ teV R0 R1 R2 T1 T2 Cm Sl Tk u1 u2 I v ∧
                                                            teV R0 R1 R2 T1 T2 Cm Sl Tk u1 u2 I v ≤ (9223372036854775807 : Int))
            (Tree.chk
              ((True ∧ True ∧ True ∧ True ∧ True ∧ True) ∧
                (-9223372036854775808 : Int) ≤ R0 ∧
                  R0 ≤ (9223372036854775807 : Int) ∧
                    (-9223372036854775808 : Int) ≤ R1 ∧
                      R1 ≤ (9223372036854775807 : Int) ∧
                        (-9223372036854775808 : Int) ≤ R2 ∧
                          R2 ≤ (9223372036854775807 : Int) ∧
                            (-9223372036854775808 : Int) ≤ T1 ∧
                              T1 ≤ (9223372036854775807 : Int) ∧
                                (-9223372036854775808 : Int) ≤ T2 ∧
                                  T2 ≤ (9223372036854775807 : Int) ∧
                                    (-9223372036854775808 : Int) ≤ Cm ∧
                                      Cm ≤ (9223372036854775807 : Int) ∧
                                        (-9223372036854775808 : Int) ≤ Sl ∧
                                          Sl ≤ (9223372036854775807 : Int) ∧
                                            (-9223372036854775808 : Int) ≤ Tk ∧
                                              Tk ≤ (9223372036854775807 : Int) ∧
                                                (-9223372036854775808 : Int) ≤ (0 : Int) ∧
                                                  (0 : Int) ≤ (9223372036854775807 : Int) ∧
                                                    (-9223372036854775808 : Int) ≤ (0 : Int) ∧
                                                      (0 : Int) ≤ (9223372036854775807 : Int) ∧
                                                        (-9223372036854775808 : Int) ≤ (0 : Int) ∧ (0 : Int) ≤ (9223372036854775807 : Int) ∧ (-9223372036854775808 : Int) ≤ v ∧ v ≤ (9223372036854775807 : Int))
              (Tree.br (myE R0 R1 R2 T1 T2 Cm Sl Tk u1 u2 I (teV R0 R1 R2 T1 T2 Cm Sl Tk u1 u2 I v) == (0 : Int))
                (Tree.br (myE R0 R1 R2 T1 T2 Cm Sl Tk (0 : Int) (0 : Int) (0 : Int) v == (0 : Int))
                  (Tree.br (rsV R0 R1 R2 T1 T2 Cm Sl Tk (0 : Int) (0 : Int) (0 : Int) v == v)
                    (Tree.br (teV R0 R1 R2 T1 T2 Cm Sl Tk u1 u2 I v == (2147483648 : Int)) (Tree.ret (AV.bool true true, []))
                      (Tree.br (teV R0 R1 R2 T1 T2 Cm Sl Tk u1 u2 I v == (-2147483648 : Int)) (Tree.ret (AV.bool true true, []))
                        (Tree.ret (AV.bool false (rsV R0 R1 R2 T1 T2 Cm Sl Tk u1 u2 I (teV R0 R1 R2 T1 T2 Cm Sl Tk u1 u2 I v) == v), []))))
                    (Tree.ret (AV.bool true false, [])))
                  (Tree.ret (AV.bool true false, [])))
                (Tree.ret (AV.bool true false, [])))))))) := by kernel_rfl
set_option maxRecDepth 100000 in
theorem gModelUndone (R0 : Int) (R1 : Int) (R2 : Int) (T1 : Int) (T2 : Int) (Cm : Int) (Sl : Int) (Tk : Int) (u1 : Int) (u2 : Int) (I : Int) (v : Int) (hw : -9223372036854775808 ≤ R0 ∧ R0 ≤ 9223372036854775807 ∧ -9223372036854775808 ≤ R1 ∧ R1 ≤ 9223372036854775807 ∧ -9223372036854775808 ≤ R2 ∧ R2 ≤ 9223372036854775807 ∧ -9223372036854775808 ≤ T1 ∧ T1 ≤ 9223372036854775807 ∧ -9223372036854775808 ≤ T2 ∧ T2 ≤ 9223372036854775807 ∧ -9223372036854775808 ≤ Cm ∧ Cm ≤ 9223372036854775807 ∧ -9223372036854775808 ≤ Sl ∧ Sl ≤ 9223372036854775807 ∧ -9223372036854775808 ≤ Tk ∧ Tk ≤ 9223372036854775807 ∧ -9223372036854775808 ≤ u1 ∧ u1 ≤ 9223372036854775807 ∧ -9223372036854775808 ≤ u2 ∧ u2 ≤ 9223372036854775807 ∧ -9223372036854775808 ≤ I ∧ I ≤ 9223372036854775807 ∧ -9223372036854775808 ≤ v ∧ v ≤ 9223372036854775807) : (Tree.chk (True ∧ True)
    (Tree.br false (Tree.ret (AV.bool true false, []))
      (Tree.chk
        ((True ∧ True ∧ True ∧ True ∧ True ∧ True) ∧
          (-9223372036854775808 : Int) ≤ R0 ∧
            R0 ≤ (9223372036854775807 : Int) ∧
              (-9223372036854775808 : Int) ≤ R1 ∧
                R1 ≤ (9223372036854775807 : Int) ∧
                  (-9223372036854775808 : Int) ≤ R2 ∧
                    R2 ≤ (9223372036854775807 : Int) ∧
                      (-9223372036854775808 : Int) ≤ T1 ∧
                        T1 ≤ (9223372036854775807 : Int) ∧
                          (-9223372036854775808 : Int) ≤ T2 ∧
                            T2 ≤ (9223372036854775807 : Int) ∧
                              (-9223372036854775808 : Int) ≤ Cm ∧
                                Cm ≤ (9223372036854775807 : Int) ∧
                                  (-9223372036854775808 : Int) ≤ Sl ∧
                                    Sl ≤ (9223372036854775807 : Int) ∧
                                      (-9223372036854775808 : Int) ≤ Tk ∧
                                        Tk ≤ (9223372036854775807 : Int) ∧
                                          (-9223372036854775808 : Int) ≤ u1 ∧
                                            u1 ≤ (9223372036854775807 : Int) ∧
                                              (-9223372036854775808 : Int) ≤ u2 ∧
                                                u2 ≤ (9223372036854775807 : Int) ∧ (-9223372036854775808 : Int) ≤ I ∧ I ≤ (9223372036854775807 : Int) ∧ (-9223372036854775808 : Int) ≤ v ∧ v ≤ (9223372036854775807 : Int))
        (Tree.br (myE R0 R1 R2 T1 T2 Cm Sl Tk u1 u2 I v != (0 : Int)) (Tree.ret (AV.bool false (teV R0 R1 R2 T1 T2 Cm Sl Tk u1 u2 I v == (0 : Int)), []))
          (Tree.chk
            ((True ∧ True ∧ True ∧ True ∧ True ∧ True) ∧
              (-9223372036854775808 : Int) ≤ R0 ∧
                R0 ≤ (9223372036854775807 : Int) ∧
                  (-9223372036854775808 : Int) ≤ R1 ∧
                    R1 ≤ (9223372036854775807 : Int) ∧
                      (-9223372036854775808 : Int) ≤ R2 ∧
                        R2 ≤ (9223372036854775807 : Int) ∧
                          (-9223372036854775808 : Int) ≤ T1 ∧
                            T1 ≤ (9223372036854775807 : Int) ∧
                              (-9223372036854775808 : Int) ≤ T2 ∧
                                T2 ≤ (9223372036854775807 : Int) ∧
                                  (-9223372036854775808 : Int) ≤ Cm ∧
                                    Cm ≤ (9223372036854775807 : Int) ∧
                                      (-9223372036854775808 : Int) ≤ Sl ∧
                                        Sl ≤ (9223372036854775807 : Int) ∧
                                          (-9223372036854775808 : Int) ≤ Tk ∧
                                            Tk ≤ (9223372036854775807 : Int) ∧
                                              (-9223372036854775808 : Int) ≤ u1 ∧
                                                u1 ≤ (9223372036854775807 : Int) ∧
                                                  (-9223372036854775808 : Int) ≤ u2 ∧
                                                    u2 ≤ (9223372036854775807 : Int) ∧
                                                      (-9223372036854775808 : Int) ≤ I ∧
                                                        I ≤ (9223372036854775807 : Int) ∧
                                                          (-9223372036854775808 : Int) ≤ teV R0 R1 R2 T1 T2 Cm Sl Tk u1 u2 I v ∧
                                                            teV R0 R1 R2 T1 T2 Cm Sl Tk u1 u2 I v ≤ (9223372036854775807 : Int))
            (Tree.chk
              ((True ∧ True ∧ True ∧ True ∧ True ∧ True) ∧
                (-9223372036854775808 : Int) ≤ R0 ∧
                  R0 ≤ (9223372036854775807 : Int) ∧
                    (-9223372036854775808 : Int) ≤ R1 ∧
                      R1 ≤ (9223372036854775807 : Int) ∧
                        (-9223372036854775808 : Int) ≤ R2 ∧
                          R2 ≤ (9223372036854775807 : Int) ∧
                            (-9223372036854775808 : Int) ≤ T1 ∧
                              T1 ≤ (9223372036854775807 : Int) ∧
                                (-9223372036854775808 : Int) ≤ T2 ∧
                                  T2 ≤ (9223372036854775807 : Int) ∧
                                    (-9223372036854775808 : Int) ≤ Cm ∧
                                      Cm ≤ (9223372036854775807 : Int) ∧
                                        (-9223372036854775808 : Int) ≤ Sl ∧
                                          Sl ≤ (9223372036854775807 : Int) ∧
                                            (-9223372036854775808 : Int) ≤ Tk ∧
                                              Tk ≤ (9223372036854775807 : Int) ∧
                                                (-9223372036854775808 : Int) ≤ (0 : Int) ∧
                                                  (0 : Int) ≤ (9223372036854775807 : Int) ∧
                                                    (-9223372036854775808 : Int) ≤ (0 : Int) ∧
                                                      (0 : Int) ≤ (9223372036854775807 : Int) ∧
                                                        (-9223372036854775808 : Int) ≤ (0 : Int) ∧ (0 : Int) ≤ (9223372036854775807 : Int) ∧ (-9223372036854775808 : Int) ≤ v ∧ v ≤ (9223372036854775807 : Int))
              (Tree.br (myE R0 R1 R2 T1 T2 Cm Sl Tk u1 u2 I (teV R0 R1 R2 T1 T2 Cm Sl Tk u1 u2 I v) == (0 : Int))
                (Tree.br (myE R0 R1 R2 T1 T2 Cm Sl Tk (0 : Int) (0 : Int) (0 : Int) v == (0 : Int))
                  (Tree.br (rsV R0 R1 R2 T1 T2 Cm Sl Tk (0 : Int) (0 : Int) (0 : Int) v == v)
                    (Tree.br (teV R0 R1 R2 T1 T2 Cm Sl Tk u1 u2 I v == (2147483648 : Int)) (Tree.ret (AV.bool true true, []))
                      (Tree.br (teV R0 R1 R2 T1 T2 Cm Sl Tk u1 u2 I v == (-2147483648 : Int)) (Tree.ret (AV.bool true true, []))
                        (Tree.ret (AV.bool false (rsV R0 R1 R2 T1 T2 Cm Sl Tk u1 u2 I (teV R0 R1 R2 T1 T2 Cm Sl Tk u1 u2 I v) == v), []))))
                    (Tree.ret (AV.bool true false, [])))
                  (Tree.ret (AV.bool true false, [])))
                (Tree.ret (AV.bool true false, [])))))))) : Tree (AV × Mem)).GivesP (.bool false true) ([]) := by
  have ud := undone R0 R1 R2 T1 T2 Cm Sl Tk u1 u2 I v
  have tb := teV_ok R0 R1 R2 T1 T2 Cm Sl Tk u1 u2 I v
  refine Tree.GivesP.chk (by first | (simp only [and_self]; done) | ((repeat' with_reducible refine And.intro ?_ ?_) <;> first | trivial | omega | (simp only [ckE] at *; split at * <;> omega))) ?_
  refine Tree.GivesP.br (fun h1 => ?_) (fun h1 => ?_)
  · (try simp only [decide_eq_true_eq, decide_eq_false_iff_not, Bool.not_eq_true', Bool.not_eq_false', beq_iff_eq, beq_eq_false_iff_ne, Int.not_lt, Int.not_le, ge_iff_le, gt_iff_lt, ne_eq, Bool.false_eq_true, Bool.true_eq_false, not_true_eq_false, not_false_eq_true, Bool.and_eq_true, Bool.not_eq_eq_eq_not, Bool.not_true, Bool.not_false, bne_iff_ne, bne_eq_false_iff_eq, Int.toNat_natCast, Nat.mul_one, Nat.add_zero, Nat.zero_add, List.take_length, List.drop_zero] at h1)
    all_goals
      refine Tree.GivesP.ret ?_ ?_
      · first | (simp only [AV.le]; done) | (simp only [AV.le, beq_iff_eq]; omega) | (exfalso; omega)
      · simp only [AV.leL, AV.le, Mem.le, Mem.leP, Blk.le, Blk.pad, Data.le, Data.size, Cap.le, and_true, true_and, and_self, true_implies, implies_true, imp_self, List.length_nil]
  · (try simp only [decide_eq_true_eq, decide_eq_false_iff_not, Bool.not_eq_true', Bool.not_eq_false', beq_iff_eq, beq_eq_false_iff_ne, Int.not_lt, Int.not_le, ge_iff_le, gt_iff_lt, ne_eq, Bool.false_eq_true, Bool.true_eq_false, not_true_eq_false, not_false_eq_true, Bool.and_eq_true, Bool.not_eq_eq_eq_not, Bool.not_true, Bool.not_false, bne_iff_ne, bne_eq_false_iff_eq, Int.toNat_natCast, Nat.mul_one, Nat.add_zero, Nat.zero_add, List.take_length, List.drop_zero] at h1)
    all_goals
      refine Tree.GivesP.chk (by first | (simp only [and_self]; done) | ((repeat' with_reducible refine And.intro ?_ ?_) <;> first | trivial | omega | (simp only [ckE] at *; split at * <;> omega))) ?_
      refine Tree.GivesP.br (fun h2 => ?_) (fun h2 => ?_)
      · (try simp only [decide_eq_true_eq, decide_eq_false_iff_not, Bool.not_eq_true', Bool.not_eq_false', beq_iff_eq, beq_eq_false_iff_ne, Int.not_lt, Int.not_le, ge_iff_le, gt_iff_lt, ne_eq, Bool.false_eq_true, Bool.true_eq_false, not_true_eq_false, not_false_eq_true, Bool.and_eq_true, Bool.not_eq_eq_eq_not, Bool.not_true, Bool.not_false, bne_iff_ne, bne_eq_false_iff_eq, Int.toNat_natCast, Nat.mul_one, Nat.add_zero, Nat.zero_add, List.take_length, List.drop_zero] at h2)
        all_goals
          refine Tree.GivesP.ret ?_ ?_
          · first | (simp only [AV.le]; done) | (simp only [AV.le, beq_iff_eq]; omega) | (exfalso; omega)
          · simp only [AV.leL, AV.le, Mem.le, Mem.leP, Blk.le, Blk.pad, Data.le, Data.size, Cap.le, and_true, true_and, and_self, true_implies, implies_true, imp_self, List.length_nil]
      · (try simp only [decide_eq_true_eq, decide_eq_false_iff_not, Bool.not_eq_true', Bool.not_eq_false', beq_iff_eq, beq_eq_false_iff_ne, Int.not_lt, Int.not_le, ge_iff_le, gt_iff_lt, ne_eq, Bool.false_eq_true, Bool.true_eq_false, not_true_eq_false, not_false_eq_true, Bool.and_eq_true, Bool.not_eq_eq_eq_not, Bool.not_true, Bool.not_false, bne_iff_ne, bne_eq_false_iff_eq, Int.toNat_natCast, Nat.mul_one, Nat.add_zero, Nat.zero_add, List.take_length, List.drop_zero] at h2)
        all_goals
          refine Tree.GivesP.chk (by first | (simp only [and_self]; done) | ((repeat' with_reducible refine And.intro ?_ ?_) <;> first | trivial | omega | (simp only [ckE] at *; split at * <;> omega))) ?_
          refine Tree.GivesP.chk (by first | (simp only [and_self]; done) | ((repeat' with_reducible refine And.intro ?_ ?_) <;> first | trivial | omega | (simp only [ckE] at *; split at * <;> omega))) ?_
          refine Tree.GivesP.br (fun h3 => ?_) (fun h3 => ?_)
          · (try simp only [decide_eq_true_eq, decide_eq_false_iff_not, Bool.not_eq_true', Bool.not_eq_false', beq_iff_eq, beq_eq_false_iff_ne, Int.not_lt, Int.not_le, ge_iff_le, gt_iff_lt, ne_eq, Bool.false_eq_true, Bool.true_eq_false, not_true_eq_false, not_false_eq_true, Bool.and_eq_true, Bool.not_eq_eq_eq_not, Bool.not_true, Bool.not_false, bne_iff_ne, bne_eq_false_iff_eq, Int.toNat_natCast, Nat.mul_one, Nat.add_zero, Nat.zero_add, List.take_length, List.drop_zero] at h3)
            all_goals
              refine Tree.GivesP.br (fun h4 => ?_) (fun h4 => ?_)
              · (try simp only [decide_eq_true_eq, decide_eq_false_iff_not, Bool.not_eq_true', Bool.not_eq_false', beq_iff_eq, beq_eq_false_iff_ne, Int.not_lt, Int.not_le, ge_iff_le, gt_iff_lt, ne_eq, Bool.false_eq_true, Bool.true_eq_false, not_true_eq_false, not_false_eq_true, Bool.and_eq_true, Bool.not_eq_eq_eq_not, Bool.not_true, Bool.not_false, bne_iff_ne, bne_eq_false_iff_eq, Int.toNat_natCast, Nat.mul_one, Nat.add_zero, Nat.zero_add, List.take_length, List.drop_zero] at h4)
                all_goals
                  refine Tree.GivesP.br (fun h5 => ?_) (fun h5 => ?_)
                  · (try simp only [decide_eq_true_eq, decide_eq_false_iff_not, Bool.not_eq_true', Bool.not_eq_false', beq_iff_eq, beq_eq_false_iff_ne, Int.not_lt, Int.not_le, ge_iff_le, gt_iff_lt, ne_eq, Bool.false_eq_true, Bool.true_eq_false, not_true_eq_false, not_false_eq_true, Bool.and_eq_true, Bool.not_eq_eq_eq_not, Bool.not_true, Bool.not_false, bne_iff_ne, bne_eq_false_iff_eq, Int.toNat_natCast, Nat.mul_one, Nat.add_zero, Nat.zero_add, List.take_length, List.drop_zero] at h5)
                    all_goals
                      refine Tree.GivesP.br (fun h6 => ?_) (fun h6 => ?_)
                      · (try simp only [decide_eq_true_eq, decide_eq_false_iff_not, Bool.not_eq_true', Bool.not_eq_false', beq_iff_eq, beq_eq_false_iff_ne, Int.not_lt, Int.not_le, ge_iff_le, gt_iff_lt, ne_eq, Bool.false_eq_true, Bool.true_eq_false, not_true_eq_false, not_false_eq_true, Bool.and_eq_true, Bool.not_eq_eq_eq_not, Bool.not_true, Bool.not_false, bne_iff_ne, bne_eq_false_iff_eq, Int.toNat_natCast, Nat.mul_one, Nat.add_zero, Nat.zero_add, List.take_length, List.drop_zero] at h6)
                        all_goals
                          refine Tree.GivesP.ret ?_ ?_
                          · first | (simp only [AV.le]; done) | (simp only [AV.le, beq_iff_eq]; omega) | (exfalso; omega)
                          · simp only [AV.leL, AV.le, Mem.le, Mem.leP, Blk.le, Blk.pad, Data.le, Data.size, Cap.le, and_true, true_and, and_self, true_implies, implies_true, imp_self, List.length_nil]
                      · (try simp only [decide_eq_true_eq, decide_eq_false_iff_not, Bool.not_eq_true', Bool.not_eq_false', beq_iff_eq, beq_eq_false_iff_ne, Int.not_lt, Int.not_le, ge_iff_le, gt_iff_lt, ne_eq, Bool.false_eq_true, Bool.true_eq_false, not_true_eq_false, not_false_eq_true, Bool.and_eq_true, Bool.not_eq_eq_eq_not, Bool.not_true, Bool.not_false, bne_iff_ne, bne_eq_false_iff_eq, Int.toNat_natCast, Nat.mul_one, Nat.add_zero, Nat.zero_add, List.take_length, List.drop_zero] at h6)
                        all_goals
                          refine Tree.GivesP.br (fun h7 => ?_) (fun h7 => ?_)
                          · (try simp only [decide_eq_true_eq, decide_eq_false_iff_not, Bool.not_eq_true', Bool.not_eq_false', beq_iff_eq, beq_eq_false_iff_ne, Int.not_lt, Int.not_le, ge_iff_le, gt_iff_lt, ne_eq, Bool.false_eq_true, Bool.true_eq_false, not_true_eq_false, not_false_eq_true, Bool.and_eq_true, Bool.not_eq_eq_eq_not, Bool.not_true, Bool.not_false, bne_iff_ne, bne_eq_false_iff_eq, Int.toNat_natCast, Nat.mul_one, Nat.add_zero, Nat.zero_add, List.take_length, List.drop_zero] at h7)
                            all_goals
                              refine Tree.GivesP.ret ?_ ?_
                              · first | (simp only [AV.le]; done) | (simp only [AV.le, beq_iff_eq]; omega) | (exfalso; omega)
                              · simp only [AV.leL, AV.le, Mem.le, Mem.leP, Blk.le, Blk.pad, Data.le, Data.size, Cap.le, and_true, true_and, and_self, true_implies, implies_true, imp_self, List.length_nil]
                          · (try simp only [decide_eq_true_eq, decide_eq_false_iff_not, Bool.not_eq_true', Bool.not_eq_false', beq_iff_eq, beq_eq_false_iff_ne, Int.not_lt, Int.not_le, ge_iff_le, gt_iff_lt, ne_eq, Bool.false_eq_true, Bool.true_eq_false, not_true_eq_false, not_false_eq_true, Bool.and_eq_true, Bool.not_eq_eq_eq_not, Bool.not_true, Bool.not_false, bne_iff_ne, bne_eq_false_iff_eq, Int.toNat_natCast, Nat.mul_one, Nat.add_zero, Nat.zero_add, List.take_length, List.drop_zero] at h7)
                            all_goals
                              refine Tree.GivesP.ret ?_ ?_
                              · first | (simp only [AV.le]; done) | (simp only [AV.le, beq_iff_eq]; omega) | (exfalso; omega)
                              · simp only [AV.leL, AV.le, Mem.le, Mem.leP, Blk.le, Blk.pad, Data.le, Data.size, Cap.le, and_true, true_and, and_self, true_implies, implies_true, imp_self, List.length_nil]
                  · (try simp only [decide_eq_true_eq, decide_eq_false_iff_not, Bool.not_eq_true', Bool.not_eq_false', beq_iff_eq, beq_eq_false_iff_ne, Int.not_lt, Int.not_le, ge_iff_le, gt_iff_lt, ne_eq, Bool.false_eq_true, Bool.true_eq_false, not_true_eq_false, not_false_eq_true, Bool.and_eq_true, Bool.not_eq_eq_eq_not, Bool.not_true, Bool.not_false, bne_iff_ne, bne_eq_false_iff_eq, Int.toNat_natCast, Nat.mul_one, Nat.add_zero, Nat.zero_add, List.take_length, List.drop_zero] at h5)
                    all_goals
                      refine Tree.GivesP.ret ?_ ?_
                      · first | (simp only [AV.le]; done) | (simp only [AV.le, beq_iff_eq]; omega) | (exfalso; omega)
                      · simp only [AV.leL, AV.le, Mem.le, Mem.leP, Blk.le, Blk.pad, Data.le, Data.size, Cap.le, and_true, true_and, and_self, true_implies, implies_true, imp_self, List.length_nil]
              · (try simp only [decide_eq_true_eq, decide_eq_false_iff_not, Bool.not_eq_true', Bool.not_eq_false', beq_iff_eq, beq_eq_false_iff_ne, Int.not_lt, Int.not_le, ge_iff_le, gt_iff_lt, ne_eq, Bool.false_eq_true, Bool.true_eq_false, not_true_eq_false, not_false_eq_true, Bool.and_eq_true, Bool.not_eq_eq_eq_not, Bool.not_true, Bool.not_false, bne_iff_ne, bne_eq_false_iff_eq, Int.toNat_natCast, Nat.mul_one, Nat.add_zero, Nat.zero_add, List.take_length, List.drop_zero] at h4)
                all_goals
                  refine Tree.GivesP.ret ?_ ?_
                  · first | (simp only [AV.le]; done) | (simp only [AV.le, beq_iff_eq]; omega) | (exfalso; omega)
                  · simp only [AV.leL, AV.le, Mem.le, Mem.leP, Blk.le, Blk.pad, Data.le, Data.size, Cap.le, and_true, true_and, and_self, true_implies, implies_true, imp_self, List.length_nil]
          · (try simp only [decide_eq_true_eq, decide_eq_false_iff_not, Bool.not_eq_true', Bool.not_eq_false', beq_iff_eq, beq_eq_false_iff_ne, Int.not_lt, Int.not_le, ge_iff_le, gt_iff_lt, ne_eq, Bool.false_eq_true, Bool.true_eq_false, not_true_eq_false, not_false_eq_true, Bool.and_eq_true, Bool.not_eq_eq_eq_not, Bool.not_true, Bool.not_false, bne_iff_ne, bne_eq_false_iff_eq, Int.toNat_natCast, Nat.mul_one, Nat.add_zero, Nat.zero_add, List.take_length, List.drop_zero] at h3)
            all_goals
              refine Tree.GivesP.ret ?_ ?_
              · first | (simp only [AV.le]; done) | (simp only [AV.le, beq_iff_eq]; omega) | (exfalso; omega)
              · simp only [AV.leL, AV.le, Mem.le, Mem.leP, Blk.le, Blk.pad, Data.le, Data.size, Cap.le, and_true, true_and, and_self, true_implies, implies_true, imp_self, List.length_nil]
theorem sModelUndone (hall : AllOk Try.prog 0 (fun _ => none) tab18) (R0 : Int) (R1 : Int) (R2 : Int) (T1 : Int) (T2 : Int) (Cm : Int) (Sl : Int) (Tk : Int) (u1 : Int) (u2 : Int) (I : Int) (v : Int) (hw : -9223372036854775808 ≤ R0 ∧ R0 ≤ 9223372036854775807 ∧ -9223372036854775808 ≤ R1 ∧ R1 ≤ 9223372036854775807 ∧ -9223372036854775808 ≤ R2 ∧ R2 ≤ 9223372036854775807 ∧ -9223372036854775808 ≤ T1 ∧ T1 ≤ 9223372036854775807 ∧ -9223372036854775808 ≤ T2 ∧ T2 ≤ 9223372036854775807 ∧ -9223372036854775808 ≤ Cm ∧ Cm ≤ 9223372036854775807 ∧ -9223372036854775808 ≤ Sl ∧ Sl ≤ 9223372036854775807 ∧ -9223372036854775808 ≤ Tk ∧ Tk ≤ 9223372036854775807 ∧ -9223372036854775808 ≤ u1 ∧ u1 ≤ 9223372036854775807 ∧ -9223372036854775808 ≤ u2 ∧ u2 ≤ 9223372036854775807 ∧ -9223372036854775808 ≤ I ∧ I ≤ 9223372036854775807 ∧ -9223372036854775808 ≤ v ∧ v ≤ 9223372036854775807) : SoundAt (mkC Try.prog 0 (fun _ => none) []) 5 [.agg [.int .i64 false R0, .int .i64 false R1, .int .i64 false R2, .int .i64 false T1, .int .i64 false T2, .int .i64 false Cm, .int .i64 false Sl, .int .i64 false Tk], .int .i64 false u1, .int .i64 false u2, .int .i64 false I, .int .i64 false v] [] (.bool false true, []) := sound_ofP hall mix (tModelUndone R0 R1 R2 T1 T2 Cm Sl Tk u1 u2 I v) (gModelUndone R0 R1 R2 T1 T2 Cm Sl Tk u1 u2 I v hw)
end Go.Proofs.Ytoihhmpmlbdeiaa.Rig

/- The row of the law ModelUndone: whatever the input it gives true, and what came in stays. -/
namespace Go.Proofs.Ytoihhmpmlbdeiaa.modelUndone
open Go.ChangeShapes Go.WideShapes Go.ChangeAt Go.RowKit Go.Proofs.Ytoihhmpmlbdeiaa.Rig
open Go.ChangeMaps (open_string shut_string)
set_option linter.unusedVariables false

theorem own : ownKnob Try.prog.godebug = none := by kernel_rfl
theorem laidOut : laidOutB Try.prog = true := by kernel_rfl
theorem walk (a0_0 : Int) (a0_1 : Int) (a0_2 : Int) (a0_3 : Int) (a0_4 : Int) (a0_5 : Int) (a0_6 : Int) (a0_7 : Int) (a1 : Int) (a2 : Int) (a3 : Int) (a4 : Int) (w : World) (w0_0 : (Lit.int .i64 a0_0).wf = true) (w0_1 : (Lit.int .i64 a0_1).wf = true) (w0_2 : (Lit.int .i64 a0_2).wf = true) (w0_3 : (Lit.int .i64 a0_3).wf = true) (w0_4 : (Lit.int .i64 a0_4).wf = true) (w0_5 : (Lit.int .i64 a0_5).wf = true) (w0_6 : (Lit.int .i64 a0_6).wf = true) (w0_7 : (Lit.int .i64 a0_7).wf = true) (w1 : (Lit.int .i64 a1).wf = true) (w2 : (Lit.int .i64 a2).wf = true) (w3 : (Lit.int .i64 a3).wf = true) (w4 : (Lit.int .i64 a4).wf = true) :
    Calls Try.prog 5 #[.agg #[.int .i64 a0_0, .int .i64 a0_1, .int .i64 a0_2, .int .i64 a0_3, .int .i64 a0_4, .int .i64 a0_5, .int .i64 a0_6, .int .i64 a0_7], .int .i64 a1, .int .i64 a2, .int .i64 a3, .int .i64 a4] w fun e w' => e = .returned (.bool true) ∧ Below w.heap.size w w' := by
  have h := sModelUndone all18 a0_0 a0_1 a0_2 a0_3 a0_4 a0_5 a0_6 a0_7 a1 a2 a3 a4 ⟨(wf64 w0_0).1, (wf64 w0_0).2, (wf64 w0_1).1, (wf64 w0_1).2, (wf64 w0_2).1, (wf64 w0_2).2, (wf64 w0_3).1, (wf64 w0_3).2, (wf64 w0_4).1, (wf64 w0_4).2, (wf64 w0_5).1, (wf64 w0_5).2, (wf64 w0_6).1, (wf64 w0_6).2, (wf64 w0_7).1, (wf64 w0_7).2, (wf64 w1).1, (wf64 w1).2, (wf64 w2).1, (wf64 w2).2, (wf64 w3).1, (wf64 w3).2, (wf64 w4).1, (wf64 w4).2⟩
  refine SoundAt.top0 h (fun _ => rfl) rfl (vals := [.agg #[.int .i64 a0_0, .int .i64 a0_1, .int .i64 a0_2, .int .i64 a0_3, .int .i64 a0_4, .int .i64 a0_5, .int .i64 a0_6, .int .i64 a0_7], .int .i64 a1, .int .i64 a2, .int .i64 a3, .int .i64 a4]) ?_
  exact RepL.cons (by simp [RepL, Rep]) (RepL.cons (by simp [RepL, Rep]) (RepL.cons (by simp [RepL, Rep]) (RepL.cons (by simp [RepL, Rep]) (RepL.cons (by simp [RepL, Rep]) (RepL.nil)))))
theorem flat0 : Open.flat Try.prog 40 23 = some [3, 3, 3, 3, 3, 3, 3, 3] := by kernel_rfl
set_option maxRecDepth 100000 in
theorem lifted (os : Os) (started : os.Started) (H : Type) (enc : TypeId × Value → H) :
    ReturnsInHanded {} Try.checked os 5 .any (Rows.modelUndoneSpec.pre6 enc Try.prog Try.f5 Rows.modelUndoneRow.domain false) (Rows.modelUndoneSpec.post enc Try.prog Try.f5 false true false false) := by
  refine returnsInHanded_of_change_sized (C := Try.checked) own started (by kernel_rfl) Try.func5
    (ChangeSpec.witness6 (enc := enc) (C := Try.checked) false ⟨#[], #[.agg #[.int .i64 0, .int .i64 0, .int .i64 0, .int .i64 0, .int .i64 0, .int .i64 0, .int .i64 0, .int .i64 0], .int .i64 0, .int .i64 0, .int .i64 0, .int .i64 0], []⟩ 8 (by kernel_rfl) (by kernel_rfl) (by kernel_rfl) (by kernel_rfl)) ?_
  intro W base args ds gs before hval0 hW hcnd hsz0 _
  have hval : ∀ (j : Nat) t v, Try.f5.params[j]? = some t → args[j]? = some v → Value.okWide Try.prog W .any base t v := hval0
  have hW' := hW
  obtain ⟨p, q, hA0, hV, rfl, hfz, hnd⟩ := hW
  have hA : DataW.TrodAll enc Try.prog W 0 (fun _ => true) true Try.f5.params.toList args.toList ds p := hA0
  rw [Try.params5] at hA hval
  obtain ⟨v0, vs0, d0, ds0, p0, z0, hargs, rfl, rfl, h0, r0⟩ := trodAll_cons hA
  obtain ⟨v1, vs1, d1, ds1, p1, z1, rfl, rfl, rfl, h1, r1⟩ := trodAll_cons r0
  obtain ⟨v2, vs2, d2, ds2, p2, z2, rfl, rfl, rfl, h2, r2⟩ := trodAll_cons r1
  obtain ⟨v3, vs3, d3, ds3, p3, z3, rfl, rfl, rfl, h3, r3⟩ := trodAll_cons r2
  obtain ⟨v4, vs4, d4, ds4, p4, z4, rfl, rfl, rfl, h4, r4⟩ := trodAll_cons r3
  obtain ⟨rfl, rfl, rfl⟩ := trodAll_nil r4
  obtain rfl : args = #[v0, v1, v2, v3, v4] := by cases args; simp_all
  obtain ⟨rfl, rfl⟩ := trodVars_none hV
  obtain ⟨cs0, rfl, hs0⟩ := okWide_struct Try.underlying23 (hval 0 23 v0 rfl rfl)
  have q0_0 := Open.struct_cells 40 flat0 h0
  obtain ⟨cl0⟩ := cs0
  obtain ⟨cv0_0, cr0_0, ce0_0, ⟨cm0_0, cy0_0, ct0_0⟩, q0_1⟩ := q0_0
  obtain ⟨a0_0, ca0_0, _, w0_0⟩ := DataW.trod_int Try.underlying3 ct0_0
  simp only [List.cons.injEq, and_true] at ca0_0; subst ca0_0
  obtain ⟨cv0_1, cr0_1, ce0_1, ⟨cm0_1, cy0_1, ct0_1⟩, q0_2⟩ := q0_1
  obtain ⟨a0_1, ca0_1, _, w0_1⟩ := DataW.trod_int Try.underlying3 ct0_1
  simp only [List.cons.injEq, and_true] at ca0_1; subst ca0_1
  obtain ⟨cv0_2, cr0_2, ce0_2, ⟨cm0_2, cy0_2, ct0_2⟩, q0_3⟩ := q0_2
  obtain ⟨a0_2, ca0_2, _, w0_2⟩ := DataW.trod_int Try.underlying3 ct0_2
  simp only [List.cons.injEq, and_true] at ca0_2; subst ca0_2
  obtain ⟨cv0_3, cr0_3, ce0_3, ⟨cm0_3, cy0_3, ct0_3⟩, q0_4⟩ := q0_3
  obtain ⟨a0_3, ca0_3, _, w0_3⟩ := DataW.trod_int Try.underlying3 ct0_3
  simp only [List.cons.injEq, and_true] at ca0_3; subst ca0_3
  obtain ⟨cv0_4, cr0_4, ce0_4, ⟨cm0_4, cy0_4, ct0_4⟩, q0_5⟩ := q0_4
  obtain ⟨a0_4, ca0_4, _, w0_4⟩ := DataW.trod_int Try.underlying3 ct0_4
  simp only [List.cons.injEq, and_true] at ca0_4; subst ca0_4
  obtain ⟨cv0_5, cr0_5, ce0_5, ⟨cm0_5, cy0_5, ct0_5⟩, q0_6⟩ := q0_5
  obtain ⟨a0_5, ca0_5, _, w0_5⟩ := DataW.trod_int Try.underlying3 ct0_5
  simp only [List.cons.injEq, and_true] at ca0_5; subst ca0_5
  obtain ⟨cv0_6, cr0_6, ce0_6, ⟨cm0_6, cy0_6, ct0_6⟩, q0_7⟩ := q0_6
  obtain ⟨a0_6, ca0_6, _, w0_6⟩ := DataW.trod_int Try.underlying3 ct0_6
  simp only [List.cons.injEq, and_true] at ca0_6; subst ca0_6
  obtain ⟨cv0_7, cr0_7, ce0_7, ⟨cm0_7, cy0_7, ct0_7⟩, q0_8⟩ := q0_7
  obtain ⟨a0_7, ca0_7, _, w0_7⟩ := DataW.trod_int Try.underlying3 ct0_7
  simp only [List.cons.injEq, and_true] at ca0_7; subst ca0_7
  have qe0 : cr0_7 = [] := q0_8
  subst qe0
  subst ce0_7
  subst ce0_6
  subst ce0_5
  subst ce0_4
  subst ce0_3
  subst ce0_2
  subst ce0_1
  simp only at ce0_0
  subst ce0_0
  have k0 := h0
  have lt0 : ∀ x ∈ p0, x.block < W.heap.size := by obtain ⟨m, hm⟩ := k0; exact DataW.trod_lt m _ _ _ hm
  obtain ⟨a1, rfl, rfl, rfl, w1⟩ := open_int Try.underlying3 (hval 1 3 v1 rfl rfl) h1
  obtain ⟨a2, rfl, rfl, rfl, w2⟩ := open_int Try.underlying3 (hval 2 3 v2 rfl rfl) h2
  obtain ⟨a3, rfl, rfl, rfl, w3⟩ := open_int Try.underlying3 (hval 3 3 v3 rfl rfl) h3
  obtain ⟨a4, rfl, rfl, rfl, w4⟩ := open_int Try.underlying3 (hval 4 3 v4 rfl rfl) h4
  clear hA0 hval0 hsz0
  refine (walk a0_0 a0_1 a0_2 a0_3 a0_4 a0_5 a0_6 a0_7 a1 a2 a3 a4 W w0_0 w0_1 w0_2 w0_3 w0_4 w0_5 w0_6 w0_7 w1 w2 w3 w4).mono fun e W' ⟨he, bel⟩ => ?_
  subst he
  exact ⟨_, rfl, _, _, _, [], _, [], hW', trodAll_mk1 (shut_bool Try.underlying4 _), (trodAll_cons_mk (Below.trod laidOut (by kernel_rfl) (of_decide_eq_true (by kernel_rfl)) k0 bel lt0) (trodAll_cons_mk (shut_int Try.underlying3 w1) (trodAll_cons_mk (shut_int Try.underlying3 w2) (trodAll_cons_mk (shut_int Try.underlying3 w3) (trodAll_cons_mk (shut_int Try.underlying3 w4) trodAll_mk0))))), rfl, bel.frame _, fun h => by cases h⟩
theorem over : Rows.modelUndoneRow.holds Try.pinned (OpenSpec.ofChange Rows.modelUndoneSpec) :=
  OpenClaim.holds_of_wide 5 Try.f5 rfl rfl rfl rfl rfl rfl rfl ⟨rfl, rfl, rfl, rfl, rfl⟩ rfl rfl rfl rfl rfl (by kernel_rfl) Try.func5 (by kernel_rfl)
    (of_decide_eq_true (by kernel_rfl)) (by unfold Func.isWrapper; first | (rw [if_pos (by decide +kernel)]; kernel_rfl) | (rw [if_neg (by decide +kernel)]; exact ⟨rfl, rfl⟩))
    (fun os started H enc _ => lifted os started H enc)
theorem proved : Rows.ModelUndoneSaid := over
#print axioms proved
end Go.Proofs.Ytoihhmpmlbdeiaa.modelUndone
namespace Go.Proofs.Ytoihhmpmlbdeiaa
/-- The row, under a short name, for the claim. -/
theorem modelUndone_holds : Rows.ModelUndoneSaid := modelUndone.proved
end Go.Proofs.Ytoihhmpmlbdeiaa
