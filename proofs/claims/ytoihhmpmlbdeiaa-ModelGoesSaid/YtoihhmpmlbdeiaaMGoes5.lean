/- MGoes: what is proved for the claim, part 5: functions' reckonings, and what they give. -/
import Derived.Test.YtoihhmpmlbdeiaaMGoes4
import Derived.KernelRfl
import Derived.Test.YtoihhmpmlbdeiaaRows
import Derived.WalkKit
import Derived.ProofKit
import Derived.OpenShut
import Derived.ShutString
import Derived.ChangeOld
import Derived.Below
import Derived.SizedLaws
import Derived.Test.YtoihhmpmlbdeiaaMGoesLZ
set_option linter.unusedVariables false
set_option linter.unusedSimpArgs false
/- QModelGoes -/
namespace Go.Proofs.Ytoihhmpmlbdeiaa.Rig
open Go
set_option maxRecDepth 100000 in
theorem tLModelGoes_0 (I : Int) (n : Int) (u0 : Int) (i : Nat) : tidied TModelGoes_0 UModelGoes_0 0 (evCode (mkL Try.prog 0 (fun _ => none) tab18 rowsModelGoes) (evCall (mkC Try.prog 0 (fun _ => none) tab18) 50) 6 0 fuelC (bodyAt Try.prog 6 0) (hdModelGoes_0 ⟨I, n, u0, i⟩)) =
  Tree.br (decide ((i : Int) < (100 : Int)))
    (Tree.chk ((True ∧ True ∧ True) ∧ (1 : Int) ≤ (1000 : Int) ∧ (1000 : Int) ≤ (9223372036854775807 : Int))
      (Tree.chk
        ((True ∧ True ∧ True ∧ True ∧ True ∧ True) ∧
          (-9223372036854775808 : Int) ≤ goZ I ((1 : Int) + amongZ n (1000 : Int)) u0 i ∧
            goZ I ((1 : Int) + amongZ n (1000 : Int)) u0 i ≤ (9223372036854775807 : Int) ∧
              (-9223372036854775808 : Int) ≤ I ∧
                I ≤ (9223372036854775807 : Int) ∧
                  (-9223372036854775808 : Int) ≤ (20 : Int) ∧
                    (20 : Int) ≤ (9223372036854775807 : Int) ∧
                      (-9223372036854775808 : Int) ≤ (100 : Int) ∧
                        (100 : Int) ≤ (9223372036854775807 : Int) ∧
                          (-9223372036854775808 : Int) ≤ IntKind.wrap IntKind.i64 ((1 : Int) + amongZ n (1000 : Int)) ∧ IntKind.wrap IntKind.i64 ((1 : Int) + amongZ n (1000 : Int)) ≤ (9223372036854775807 : Int))
        (Tree.br (rlE (goZ I ((1 : Int) + amongZ n (1000 : Int)) u0 i) I (20 : Int) (100 : Int) (IntKind.wrap IntKind.i64 ((1 : Int) + amongZ n (1000 : Int))) != (0 : Int))
          (Tree.ret
            (Ex.ret,
              St.mk
                [AV.junk, AV.junk, AV.junk, AV.junk, AV.junk, AV.junk, AV.junk, AV.junk, AV.junk, AV.junk, AV.junk, AV.junk, AV.junk, AV.junk, AV.junk, AV.junk, AV.junk, AV.junk, AV.junk, AV.junk, AV.junk, AV.junk, AV.junk, AV.junk, AV.junk,
                  AV.junk, AV.junk, AV.junk, AV.junk, AV.junk, AV.junk, AV.junk, AV.junk, AV.junk, AV.junk, AV.junk, AV.junk, AV.junk, AV.junk, AV.junk, AV.junk, AV.junk, AV.junk, AV.junk, AV.junk, AV.junk, AV.junk, AV.junk, AV.junk, AV.junk,
                  AV.junk, AV.junk, AV.junk, AV.junk, AV.junk, AV.junk, AV.junk, AV.junk, AV.junk, AV.junk, AV.junk, AV.junk, AV.junk, AV.junk, AV.junk, AV.junk, AV.junk, AV.junk, AV.junk, AV.junk, AV.junk, AV.junk, AV.junk, AV.junk, AV.junk,
                  AV.junk, AV.junk, AV.junk, AV.junk, AV.junk, AV.junk, AV.junk, AV.junk, AV.junk, AV.junk, AV.junk, AV.junk, AV.junk, AV.junk, AV.junk]
                []))
          (Tree.br
            (decide
              ((if
                    IntKind.wrap IntKind.i64 (driveZ I (20 : Int) - rlV (goZ I ((1 : Int) + amongZ n (1000 : Int)) u0 i) I (20 : Int) (100 : Int) (IntKind.wrap IntKind.i64 ((1 : Int) + amongZ n (1000 : Int)))) >
                      IntKind.wrap IntKind.i64 (rlV (goZ I ((1 : Int) + amongZ n (1000 : Int)) u0 i) I (20 : Int) (100 : Int) (IntKind.wrap IntKind.i64 ((1 : Int) + amongZ n (1000 : Int))) - driveZ I (20 : Int)) then
                  IntKind.wrap IntKind.i64 (driveZ I (20 : Int) - rlV (goZ I ((1 : Int) + amongZ n (1000 : Int)) u0 i) I (20 : Int) (100 : Int) (IntKind.wrap IntKind.i64 ((1 : Int) + amongZ n (1000 : Int))))
                else IntKind.wrap IntKind.i64 (rlV (goZ I ((1 : Int) + amongZ n (1000 : Int)) u0 i) I (20 : Int) (100 : Int) (IntKind.wrap IntKind.i64 ((1 : Int) + amongZ n (1000 : Int))) - driveZ I (20 : Int))) >
                if
                    IntKind.wrap IntKind.i64 (driveZ I (20 : Int) - goZ I ((1 : Int) + amongZ n (1000 : Int)) u0 i) >
                      IntKind.wrap IntKind.i64 (goZ I ((1 : Int) + amongZ n (1000 : Int)) u0 i - driveZ I (20 : Int)) then
                  IntKind.wrap IntKind.i64 (driveZ I (20 : Int) - goZ I ((1 : Int) + amongZ n (1000 : Int)) u0 i)
                else IntKind.wrap IntKind.i64 (goZ I ((1 : Int) + amongZ n (1000 : Int)) u0 i - driveZ I (20 : Int))))
            (Tree.ret
              (Ex.ret,
                St.mk
                  [AV.junk, AV.junk, AV.junk, AV.junk, AV.junk, AV.junk, AV.junk, AV.junk, AV.junk, AV.junk, AV.junk, AV.junk, AV.junk, AV.junk, AV.junk, AV.junk, AV.junk, AV.junk, AV.junk, AV.junk, AV.junk, AV.junk, AV.junk, AV.junk,
                    AV.junk, AV.junk, AV.junk, AV.junk, AV.junk, AV.junk, AV.junk, AV.junk, AV.junk, AV.junk, AV.junk, AV.junk, AV.junk, AV.junk, AV.junk, AV.junk, AV.junk, AV.junk, AV.junk, AV.junk, AV.junk, AV.junk, AV.junk, AV.junk,
                    AV.junk, AV.junk, AV.junk, AV.junk, AV.junk, AV.junk, AV.junk, AV.junk, AV.junk, AV.junk, AV.junk, AV.junk, AV.junk, AV.junk, AV.junk, AV.junk, AV.junk, AV.junk, AV.junk, AV.junk, AV.junk, AV.junk, AV.junk, AV.junk,
                    AV.junk, AV.junk, AV.junk, AV.junk, AV.junk, AV.junk, AV.junk, AV.junk, AV.junk, AV.junk, AV.junk, AV.junk, AV.junk, AV.junk, AV.junk, AV.junk, AV.junk, AV.junk]
                  []))
            (Tree.ret
              (Ex.norm,
                St.mk
                  [AV.int IntKind.i64 false (rlV (goZ I ((1 : Int) + amongZ n (1000 : Int)) u0 i) I (20 : Int) (100 : Int) (IntKind.wrap IntKind.i64 ((1 : Int) + amongZ n (1000 : Int)))), AV.int IntKind.i64 false I,
                    AV.int IntKind.i64 false n, AV.junk, AV.junk, AV.junk, AV.junk, AV.ptr (Ref.mk (0) (0) (0) (0)), AV.int IntKind.i64 false (driveZ I (20 : Int)), AV.junk,
                    AV.int IntKind.i64 false (IntKind.wrap IntKind.i64 ((i : Int) + (1 : Int))), AV.junk, AV.junk, AV.junk, AV.junk, AV.junk, AV.junk, AV.junk, AV.junk, AV.junk, AV.junk, AV.junk, AV.junk, AV.junk, AV.junk, AV.junk, AV.junk,
                    AV.junk, AV.junk, AV.junk, AV.junk, AV.junk, AV.junk, AV.junk, AV.junk, AV.junk, AV.junk, AV.junk, AV.junk, AV.junk, AV.junk, AV.junk, AV.junk, AV.junk, AV.junk, AV.junk, AV.junk, AV.junk, AV.junk, AV.junk, AV.junk,
                    AV.junk, AV.junk, AV.junk, AV.junk, AV.junk, AV.junk, AV.junk, AV.junk, AV.junk, AV.junk, AV.junk, AV.junk, AV.junk, AV.junk, AV.junk, AV.junk, AV.junk, AV.junk, AV.junk, AV.junk, AV.junk, AV.junk, AV.junk, AV.junk,
                    AV.junk, AV.junk, AV.junk, AV.junk, AV.junk, AV.junk, AV.junk, AV.junk, AV.junk, AV.junk, AV.junk, AV.junk, AV.junk, AV.junk, AV.junk]
                  [some
                      (Blk.mk (23) true false false
                        (Data.cells
                          [AV.int IntKind.i64 false (50 : Int), AV.int IntKind.i64 false (20 : Int), AV.int IntKind.i64 false (30 : Int), AV.int IntKind.i64 false (100 : Int), AV.int IntKind.i64 false (1000 : Int),
                            AV.int IntKind.i64 false (0 : Int), AV.int IntKind.i64 false (0 : Int), AV.int IntKind.i64 false (10 : Int)]))]))))))
    (Tree.ret
      (Ex.exit (0),
        St.mk
          [AV.int IntKind.i64 false (goZ I ((1 : Int) + amongZ n (1000 : Int)) u0 i), AV.junk, AV.int IntKind.i64 false n, AV.junk, AV.junk, AV.junk, AV.junk, AV.ptr (Ref.mk (0) (0) (0) (0)),
            AV.int IntKind.i64 false (driveZ I (20 : Int)), AV.junk, AV.junk, AV.junk, AV.junk, AV.junk, AV.junk, AV.junk, AV.junk, AV.junk, AV.junk, AV.junk, AV.junk, AV.junk, AV.junk, AV.junk, AV.junk, AV.junk, AV.junk, AV.junk, AV.junk,
            AV.junk, AV.junk, AV.junk, AV.junk, AV.junk, AV.junk, AV.junk, AV.junk, AV.junk, AV.junk, AV.junk, AV.junk, AV.junk, AV.junk, AV.junk, AV.junk, AV.junk, AV.junk, AV.junk, AV.junk, AV.junk, AV.junk, AV.junk, AV.junk, AV.junk,
            AV.junk, AV.junk, AV.junk, AV.junk, AV.junk, AV.junk, AV.junk, AV.junk, AV.junk, AV.junk, AV.junk, AV.junk, AV.junk, AV.junk, AV.junk, AV.junk, AV.junk, AV.junk, AV.junk, AV.junk, AV.junk, AV.junk, AV.junk, AV.junk, AV.junk,
            AV.junk, AV.junk, AV.junk, AV.junk, AV.junk, AV.junk, AV.junk, AV.junk, AV.junk, AV.junk, AV.junk]
          [some
              (Blk.mk (23) true false false
                (Data.cells
                  [AV.int IntKind.i64 false (50 : Int), AV.int IntKind.i64 false (20 : Int), AV.int IntKind.i64 false (30 : Int), AV.int IntKind.i64 false (100 : Int), AV.int IntKind.i64 false (1000 : Int), AV.int IntKind.i64 false (0 : Int),
                    AV.int IntKind.i64 false (0 : Int), AV.int IntKind.i64 false (10 : Int)]))])) := by kernel_rfl
set_option maxRecDepth 100000 in
theorem stepModelGoes_0 (I : Int) (n : Int) (u0 : Int) (i : Nat) (ex : Ex) (r : St) (hok : okModelGoes_0 ⟨I, n, u0, i⟩) (hr : (outModelGoes_0 ⟨I, n, u0, i⟩).runs (ex, r)) : (Tree.br (decide ((i : Int) < (100 : Int)))
    (Tree.chk ((True ∧ True ∧ True) ∧ (1 : Int) ≤ (1000 : Int) ∧ (1000 : Int) ≤ (9223372036854775807 : Int))
      (Tree.chk
        ((True ∧ True ∧ True ∧ True ∧ True ∧ True) ∧
          (-9223372036854775808 : Int) ≤ goZ I ((1 : Int) + amongZ n (1000 : Int)) u0 i ∧
            goZ I ((1 : Int) + amongZ n (1000 : Int)) u0 i ≤ (9223372036854775807 : Int) ∧
              (-9223372036854775808 : Int) ≤ I ∧
                I ≤ (9223372036854775807 : Int) ∧
                  (-9223372036854775808 : Int) ≤ (20 : Int) ∧
                    (20 : Int) ≤ (9223372036854775807 : Int) ∧
                      (-9223372036854775808 : Int) ≤ (100 : Int) ∧
                        (100 : Int) ≤ (9223372036854775807 : Int) ∧
                          (-9223372036854775808 : Int) ≤ IntKind.wrap IntKind.i64 ((1 : Int) + amongZ n (1000 : Int)) ∧ IntKind.wrap IntKind.i64 ((1 : Int) + amongZ n (1000 : Int)) ≤ (9223372036854775807 : Int))
        (Tree.br (rlE (goZ I ((1 : Int) + amongZ n (1000 : Int)) u0 i) I (20 : Int) (100 : Int) (IntKind.wrap IntKind.i64 ((1 : Int) + amongZ n (1000 : Int))) != (0 : Int))
          (Tree.ret
            (Ex.ret,
              St.mk
                [AV.junk, AV.junk, AV.junk, AV.junk, AV.junk, AV.junk, AV.junk, AV.junk, AV.junk, AV.junk, AV.junk, AV.junk, AV.junk, AV.junk, AV.junk, AV.junk, AV.junk, AV.junk, AV.junk, AV.junk, AV.junk, AV.junk, AV.junk, AV.junk, AV.junk,
                  AV.junk, AV.junk, AV.junk, AV.junk, AV.junk, AV.junk, AV.junk, AV.junk, AV.junk, AV.junk, AV.junk, AV.junk, AV.junk, AV.junk, AV.junk, AV.junk, AV.junk, AV.junk, AV.junk, AV.junk, AV.junk, AV.junk, AV.junk, AV.junk, AV.junk,
                  AV.junk, AV.junk, AV.junk, AV.junk, AV.junk, AV.junk, AV.junk, AV.junk, AV.junk, AV.junk, AV.junk, AV.junk, AV.junk, AV.junk, AV.junk, AV.junk, AV.junk, AV.junk, AV.junk, AV.junk, AV.junk, AV.junk, AV.junk, AV.junk, AV.junk,
                  AV.junk, AV.junk, AV.junk, AV.junk, AV.junk, AV.junk, AV.junk, AV.junk, AV.junk, AV.junk, AV.junk, AV.junk, AV.junk, AV.junk, AV.junk]
                []))
          (Tree.br
            (decide
              ((if
                    IntKind.wrap IntKind.i64 (driveZ I (20 : Int) - rlV (goZ I ((1 : Int) + amongZ n (1000 : Int)) u0 i) I (20 : Int) (100 : Int) (IntKind.wrap IntKind.i64 ((1 : Int) + amongZ n (1000 : Int)))) >
                      IntKind.wrap IntKind.i64 (rlV (goZ I ((1 : Int) + amongZ n (1000 : Int)) u0 i) I (20 : Int) (100 : Int) (IntKind.wrap IntKind.i64 ((1 : Int) + amongZ n (1000 : Int))) - driveZ I (20 : Int)) then
                  IntKind.wrap IntKind.i64 (driveZ I (20 : Int) - rlV (goZ I ((1 : Int) + amongZ n (1000 : Int)) u0 i) I (20 : Int) (100 : Int) (IntKind.wrap IntKind.i64 ((1 : Int) + amongZ n (1000 : Int))))
                else IntKind.wrap IntKind.i64 (rlV (goZ I ((1 : Int) + amongZ n (1000 : Int)) u0 i) I (20 : Int) (100 : Int) (IntKind.wrap IntKind.i64 ((1 : Int) + amongZ n (1000 : Int))) - driveZ I (20 : Int))) >
                if
                    IntKind.wrap IntKind.i64 (driveZ I (20 : Int) - goZ I ((1 : Int) + amongZ n (1000 : Int)) u0 i) >
                      IntKind.wrap IntKind.i64 (goZ I ((1 : Int) + amongZ n (1000 : Int)) u0 i - driveZ I (20 : Int)) then
                  IntKind.wrap IntKind.i64 (driveZ I (20 : Int) - goZ I ((1 : Int) + amongZ n (1000 : Int)) u0 i)
                else IntKind.wrap IntKind.i64 (goZ I ((1 : Int) + amongZ n (1000 : Int)) u0 i - driveZ I (20 : Int))))
            (Tree.ret
              (Ex.ret,
                St.mk
                  [AV.junk, AV.junk, AV.junk, AV.junk, AV.junk, AV.junk, AV.junk, AV.junk, AV.junk, AV.junk, AV.junk, AV.junk, AV.junk, AV.junk, AV.junk, AV.junk, AV.junk, AV.junk, AV.junk, AV.junk, AV.junk, AV.junk, AV.junk, AV.junk,
                    AV.junk, AV.junk, AV.junk, AV.junk, AV.junk, AV.junk, AV.junk, AV.junk, AV.junk, AV.junk, AV.junk, AV.junk, AV.junk, AV.junk, AV.junk, AV.junk, AV.junk, AV.junk, AV.junk, AV.junk, AV.junk, AV.junk, AV.junk, AV.junk,
                    AV.junk, AV.junk, AV.junk, AV.junk, AV.junk, AV.junk, AV.junk, AV.junk, AV.junk, AV.junk, AV.junk, AV.junk, AV.junk, AV.junk, AV.junk, AV.junk, AV.junk, AV.junk, AV.junk, AV.junk, AV.junk, AV.junk, AV.junk, AV.junk,
                    AV.junk, AV.junk, AV.junk, AV.junk, AV.junk, AV.junk, AV.junk, AV.junk, AV.junk, AV.junk, AV.junk, AV.junk, AV.junk, AV.junk, AV.junk, AV.junk, AV.junk, AV.junk]
                  []))
            (Tree.ret
              (Ex.norm,
                St.mk
                  [AV.int IntKind.i64 false (rlV (goZ I ((1 : Int) + amongZ n (1000 : Int)) u0 i) I (20 : Int) (100 : Int) (IntKind.wrap IntKind.i64 ((1 : Int) + amongZ n (1000 : Int)))), AV.int IntKind.i64 false I,
                    AV.int IntKind.i64 false n, AV.junk, AV.junk, AV.junk, AV.junk, AV.ptr (Ref.mk (0) (0) (0) (0)), AV.int IntKind.i64 false (driveZ I (20 : Int)), AV.junk,
                    AV.int IntKind.i64 false (IntKind.wrap IntKind.i64 ((i : Int) + (1 : Int))), AV.junk, AV.junk, AV.junk, AV.junk, AV.junk, AV.junk, AV.junk, AV.junk, AV.junk, AV.junk, AV.junk, AV.junk, AV.junk, AV.junk, AV.junk, AV.junk,
                    AV.junk, AV.junk, AV.junk, AV.junk, AV.junk, AV.junk, AV.junk, AV.junk, AV.junk, AV.junk, AV.junk, AV.junk, AV.junk, AV.junk, AV.junk, AV.junk, AV.junk, AV.junk, AV.junk, AV.junk, AV.junk, AV.junk, AV.junk, AV.junk,
                    AV.junk, AV.junk, AV.junk, AV.junk, AV.junk, AV.junk, AV.junk, AV.junk, AV.junk, AV.junk, AV.junk, AV.junk, AV.junk, AV.junk, AV.junk, AV.junk, AV.junk, AV.junk, AV.junk, AV.junk, AV.junk, AV.junk, AV.junk, AV.junk,
                    AV.junk, AV.junk, AV.junk, AV.junk, AV.junk, AV.junk, AV.junk, AV.junk, AV.junk, AV.junk, AV.junk, AV.junk, AV.junk, AV.junk, AV.junk]
                  [some
                      (Blk.mk (23) true false false
                        (Data.cells
                          [AV.int IntKind.i64 false (50 : Int), AV.int IntKind.i64 false (20 : Int), AV.int IntKind.i64 false (30 : Int), AV.int IntKind.i64 false (100 : Int), AV.int IntKind.i64 false (1000 : Int),
                            AV.int IntKind.i64 false (0 : Int), AV.int IntKind.i64 false (0 : Int), AV.int IntKind.i64 false (10 : Int)]))]))))))
    (Tree.ret
      (Ex.exit (0),
        St.mk
          [AV.int IntKind.i64 false (goZ I ((1 : Int) + amongZ n (1000 : Int)) u0 i), AV.junk, AV.int IntKind.i64 false n, AV.junk, AV.junk, AV.junk, AV.junk, AV.ptr (Ref.mk (0) (0) (0) (0)),
            AV.int IntKind.i64 false (driveZ I (20 : Int)), AV.junk, AV.junk, AV.junk, AV.junk, AV.junk, AV.junk, AV.junk, AV.junk, AV.junk, AV.junk, AV.junk, AV.junk, AV.junk, AV.junk, AV.junk, AV.junk, AV.junk, AV.junk, AV.junk, AV.junk,
            AV.junk, AV.junk, AV.junk, AV.junk, AV.junk, AV.junk, AV.junk, AV.junk, AV.junk, AV.junk, AV.junk, AV.junk, AV.junk, AV.junk, AV.junk, AV.junk, AV.junk, AV.junk, AV.junk, AV.junk, AV.junk, AV.junk, AV.junk, AV.junk, AV.junk,
            AV.junk, AV.junk, AV.junk, AV.junk, AV.junk, AV.junk, AV.junk, AV.junk, AV.junk, AV.junk, AV.junk, AV.junk, AV.junk, AV.junk, AV.junk, AV.junk, AV.junk, AV.junk, AV.junk, AV.junk, AV.junk, AV.junk, AV.junk, AV.junk, AV.junk,
            AV.junk, AV.junk, AV.junk, AV.junk, AV.junk, AV.junk, AV.junk, AV.junk, AV.junk, AV.junk, AV.junk]
          [some
              (Blk.mk (23) true false false
                (Data.cells
                  [AV.int IntKind.i64 false (50 : Int), AV.int IntKind.i64 false (20 : Int), AV.int IntKind.i64 false (30 : Int), AV.int IntKind.i64 false (100 : Int), AV.int IntKind.i64 false (1000 : Int), AV.int IntKind.i64 false (0 : Int),
                    AV.int IntKind.i64 false (0 : Int), AV.int IntKind.i64 false (10 : Int)]))])) : Tree (Ex × St)).Sat (Post hdModelGoes_0 resModelGoes_0 muModelGoes_0 ⟨I, n, u0, i⟩ ex r) := by
  simp only [okModelGoes_0, outModelGoes_0, Tree.runs] at hok hr
  obtain ⟨i0, i1, u1, u2, n0, n1, hi⟩ := hok
  have am := amz (a := n) (b := 1000) (by omega)
  have ek : IntKind.i64.wrap (1 + amongZ n 1000) = 1 + amongZ n 1000 := by rw [w64]; omega
  simp only [ek]
  have gb := go_bound I (1 + amongZ n 1000) u0 (by omega) i
  have ds := drive_small i0 i1
  have hk : okRel (goZ I (1 + amongZ n 1000) u0 i) I 20 100 (1 + amongZ n 1000) := ⟨by omega, by omega, by omega, by omega⟩
  have e1 : rlE (goZ I (1 + amongZ n 1000) u0 i) I 20 100 (1 + amongZ n 1000) = 0 := by unfold rlE; rw [if_pos hk]
  have e2 := (rl_ok e1).2
  have rb := rel_between (u := goZ I (1 + amongZ n 1000) u0 i) (I := I) (r := 20) (tau := 100) (t := 1 + amongZ n 1000) (by omega) (by omega)
  refine Tree.Sat.br (fun h1 => ?_) (fun h1 => ?_)
  · (try simp only [decide_eq_true_eq, decide_eq_false_iff_not, Bool.not_eq_true', Bool.not_eq_false', beq_iff_eq, beq_eq_false_iff_ne, Int.not_lt, Int.not_le, ge_iff_le, gt_iff_lt, ne_eq, Bool.false_eq_true, Bool.true_eq_false, not_true_eq_false, not_false_eq_true, Bool.and_eq_true, Bool.not_eq_eq_eq_not, Bool.not_true, Bool.not_false, bne_iff_ne, bne_eq_false_iff_eq, Int.toNat_natCast, Nat.mul_one, Nat.add_zero, Nat.zero_add, List.take_length, List.drop_zero] at h1)
    all_goals
      refine Tree.Sat.chk (by first | (simp only [and_self]; done) | ((repeat' with_reducible refine And.intro ?_ ?_) <;> first | trivial | omega | (simp only [ckE] at *; split at * <;> omega))) ?_
      refine Tree.Sat.chk (by first | (simp only [and_self]; done) | ((repeat' with_reducible refine And.intro ?_ ?_) <;> first | trivial | omega | (simp only [ckE] at *; split at * <;> omega))) ?_
      refine Tree.Sat.br (fun h2 => ?_) (fun h2 => ?_)
      · (try simp only [decide_eq_true_eq, decide_eq_false_iff_not, Bool.not_eq_true', Bool.not_eq_false', beq_iff_eq, beq_eq_false_iff_ne, Int.not_lt, Int.not_le, ge_iff_le, gt_iff_lt, ne_eq, Bool.false_eq_true, Bool.true_eq_false, not_true_eq_false, not_false_eq_true, Bool.and_eq_true, Bool.not_eq_eq_eq_not, Bool.not_true, Bool.not_false, bne_iff_ne, bne_eq_false_iff_eq, Int.toNat_natCast, Nat.mul_one, Nat.add_zero, Nat.zero_add, List.take_length, List.drop_zero] at h2)
        all_goals
          refine Tree.Sat.ret ?_
          exfalso
          simp only [w64] at *
          omega
      · (try simp only [decide_eq_true_eq, decide_eq_false_iff_not, Bool.not_eq_true', Bool.not_eq_false', beq_iff_eq, beq_eq_false_iff_ne, Int.not_lt, Int.not_le, ge_iff_le, gt_iff_lt, ne_eq, Bool.false_eq_true, Bool.true_eq_false, not_true_eq_false, not_false_eq_true, Bool.and_eq_true, Bool.not_eq_eq_eq_not, Bool.not_true, Bool.not_false, bne_iff_ne, bne_eq_false_iff_eq, Int.toNat_natCast, Nat.mul_one, Nat.add_zero, Nat.zero_add, List.take_length, List.drop_zero] at h2)
        all_goals
          refine Tree.Sat.br (fun h3 => ?_) (fun h3 => ?_)
          · (try simp only [decide_eq_true_eq, decide_eq_false_iff_not, Bool.not_eq_true', Bool.not_eq_false', beq_iff_eq, beq_eq_false_iff_ne, Int.not_lt, Int.not_le, ge_iff_le, gt_iff_lt, ne_eq, Bool.false_eq_true, Bool.true_eq_false, not_true_eq_false, not_false_eq_true, Bool.and_eq_true, Bool.not_eq_eq_eq_not, Bool.not_true, Bool.not_false, bne_iff_ne, bne_eq_false_iff_eq, Int.toNat_natCast, Nat.mul_one, Nat.add_zero, Nat.zero_add, List.take_length, List.drop_zero] at h3)
            all_goals
              refine Tree.Sat.ret ?_
              exfalso
              simp only [w64] at *
              omega
          · (try simp only [decide_eq_true_eq, decide_eq_false_iff_not, Bool.not_eq_true', Bool.not_eq_false', beq_iff_eq, beq_eq_false_iff_ne, Int.not_lt, Int.not_le, ge_iff_le, gt_iff_lt, ne_eq, Bool.false_eq_true, Bool.true_eq_false, not_true_eq_false, not_false_eq_true, Bool.and_eq_true, Bool.not_eq_eq_eq_not, Bool.not_true, Bool.not_false, bne_iff_ne, bne_eq_false_iff_eq, Int.toNat_natCast, Nat.mul_one, Nat.add_zero, Nat.zero_add, List.take_length, List.drop_zero] at h3)
            all_goals
              refine Tree.Sat.ret ?_
              refine .norm ⟨I, n, u0, i + 1⟩ ?_ ?_ ⟨?_, ?_⟩
              · constructor <;> simp only [hdModelGoes_0, AV.leL, AV.le, Mem.le, Mem.leP, Blk.le, Blk.pad, Data.le, Data.size, Cap.le, and_true, true_and, and_self, true_implies, implies_true, imp_self, List.length_nil] <;> (repeat' with_reducible refine And.intro ?_ ?_) <;> (try simp only [Int.toNat_natCast, Nat.mul_one, Nat.add_zero, Nat.zero_add]) <;> first | exact wadd1 (by omega) | exact e2
              · simp only [muModelGoes_0]; omega
              · exact ⟨i0, i1, u1, u2, n0, n1, by omega⟩
              · exact hr
  · (try simp only [decide_eq_true_eq, decide_eq_false_iff_not, Bool.not_eq_true', Bool.not_eq_false', beq_iff_eq, beq_eq_false_iff_ne, Int.not_lt, Int.not_le, ge_iff_le, gt_iff_lt, ne_eq, Bool.false_eq_true, Bool.true_eq_false, not_true_eq_false, not_false_eq_true, Bool.and_eq_true, Bool.not_eq_eq_eq_not, Bool.not_true, Bool.not_false, bne_iff_ne, bne_eq_false_iff_eq, Int.toNat_natCast, Nat.mul_one, Nat.add_zero, Nat.zero_add, List.take_length, List.drop_zero] at h1)
    all_goals
      refine Tree.Sat.ret ?_
      have hq := hr
      simp only [Prod.mk.injEq] at hq
      obtain ⟨rfl, rfl⟩ := hq
      refine .exit rfl ?_
      constructor <;> simp only [AV.leL, AV.le, Mem.le, Mem.leP, Blk.le, Blk.pad, Data.le, Data.size, Cap.le, and_true, true_and, and_self, true_implies, implies_true, imp_self, List.length_nil] <;> (repeat' with_reducible refine And.intro ?_ ?_) <;> (try simp only [Int.toNat_natCast, Nat.mul_one, Nat.add_zero, Nat.zero_add]) <;> (rw [show i = 100 by omega])
set_option maxHeartbeats 2000000 in
set_option maxRecDepth 100000 in
theorem loopModelGoes_0 (hall : AllOk Try.prog 0 (fun _ => none) tab18) : LoopOk (mkL Try.prog 0 (fun _ => none) tab18 rowsModelGoes) 6 0 (bodyAt Try.prog 6 0) := by
  have hkey : Code.key (bodyAt Try.prog 6 0) = 7 := by kernel_rfl
  have hin : loopsIn (bodyAt Try.prog 6 0) = [] := by kernel_rfl
  have hrow : lookL rowsModelGoes 6 (Code.key (bodyAt Try.prog 6 0)) = some rowModelGoes_0 := by rw [hkey]; rfl
  refine loop_rowP (X := XModelGoes_0) (row := rowModelGoes_0) hall mix hrow (fun b hb _ => by rw [hin] at hb; cases hb) UModelGoes_0 hdModelGoes_0 resModelGoes_0 muModelGoes_0 (fun st ex r h => ?_) (fun x ex r hr => ?_)
  · have h' : (ansModelGoes_0 st).runs (ex, r) := h
    unfold ansModelGoes_0 at h'
    split at h'
    · obtain ⟨q1, q2⟩ := Tree.chk_runs h'
      exact ⟨_, q1, q2⟩
    · exact h'.elim
  · obtain ⟨I, n, u0, i⟩ := x
    have := stepModelGoes_0 I n u0 i ex r hr.1 hr.2
    rw [← tLModelGoes_0] at this
    (try rw [show rowModelGoes_0.tidy = TModelGoes_0 from rfl])
    exact this
theorem loopsModelGoes (hall : AllOk Try.prog 0 (fun _ => none) tab18) : ∀ i, i < (loopsAt Try.prog 6).length → LoopOk (mkL Try.prog 0 (fun _ => none) tab18 rowsModelGoes) 6 0 (bodyAt Try.prog 6 i) := by
  intro i hi
  have hlen : (loopsAt Try.prog 6).length = 1 := by kernel_rfl
  rw [hlen] at hi
  obtain rfl : i = 0 := by omega
  · exact loopModelGoes_0 hall
set_option maxRecDepth 100000 in
theorem tModelGoes (u : Int) (I : Int) (n : Int) : evBody (mkL Try.prog 0 (fun _ => none) tab18 rowsModelGoes) (evCall (mkC Try.prog 0 (fun _ => none) tab18) 50) 6 [.int .i64 false u, .int .i64 false I, .int .i64 false n] [] =
  Tree.chk (True ∧ True)
    (Tree.br false (Tree.ret (AV.bool true false, []))
      (Tree.chk ((True ∧ True ∧ True) ∧ (1 : Int) ≤ (2000000 : Int) ∧ (2000000 : Int) ≤ (9223372036854775807 : Int))
        (Tree.chk ((True ∧ True ∧ True) ∧ (1 : Int) ≤ (2000000 : Int) ∧ (2000000 : Int) ≤ (9223372036854775807 : Int))
          (Tree.chk
            ((True ∧ True ∧ True) ∧
              (-9223372036854775808 : Int) ≤ IntKind.wrap IntKind.i64 (amongZ I (2000000 : Int) - (1000000 : Int)) ∧
                IntKind.wrap IntKind.i64 (amongZ I (2000000 : Int) - (1000000 : Int)) ≤ (9223372036854775807 : Int) ∧ (-9223372036854775808 : Int) ≤ (20 : Int) ∧ (20 : Int) ≤ (9223372036854775807 : Int))
            (Tree.chk
              (St.le
                (St.mk
                  [AV.int IntKind.i64 false (IntKind.wrap IntKind.i64 (amongZ u (2000000 : Int) - (1000000 : Int))), AV.int IntKind.i64 false (IntKind.wrap IntKind.i64 (amongZ I (2000000 : Int) - (1000000 : Int))),
                    AV.int IntKind.i64 false n, AV.junk, AV.junk, AV.junk, AV.junk, AV.ptr (Ref.mk (0) (0) (0) (0)),
                    AV.int IntKind.i64 false (drV (IntKind.wrap IntKind.i64 (amongZ I (2000000 : Int) - (1000000 : Int))) (20 : Int)), AV.junk, AV.int IntKind.i64 true (0 : Int), AV.junk, AV.junk, AV.junk, AV.junk, AV.junk, AV.junk,
                    AV.junk, AV.junk, AV.junk, AV.junk, AV.junk, AV.junk, AV.junk, AV.junk, AV.junk, AV.junk, AV.junk, AV.junk, AV.junk, AV.junk, AV.junk, AV.junk, AV.junk, AV.junk, AV.junk, AV.junk, AV.junk, AV.junk, AV.junk, AV.junk,
                    AV.junk, AV.junk, AV.junk, AV.junk, AV.junk, AV.junk, AV.junk, AV.junk, AV.junk, AV.junk, AV.junk, AV.junk, AV.junk, AV.junk, AV.junk, AV.junk, AV.junk, AV.junk, AV.junk, AV.junk, AV.junk, AV.junk, AV.junk, AV.junk,
                    AV.junk, AV.junk, AV.junk, AV.junk, AV.junk, AV.junk, AV.junk, AV.junk, AV.junk, AV.junk, AV.junk, AV.junk, AV.junk, AV.junk, AV.junk, AV.junk, AV.junk, AV.junk, AV.junk, AV.junk, AV.junk, AV.junk, AV.junk, AV.junk,
                    AV.junk]
                  [some
                      (Blk.mk (23) true false false
                        (Data.cells
                          [AV.int IntKind.i64 true (50 : Int), AV.int IntKind.i64 true (20 : Int), AV.int IntKind.i64 true (30 : Int), AV.int IntKind.i64 true (100 : Int), AV.int IntKind.i64 true (1000 : Int),
                            AV.int IntKind.i64 true (0 : Int), AV.int IntKind.i64 true (0 : Int), AV.int IntKind.i64 true (10 : Int)]))])
                (St.mk
                  [AV.int IntKind.i64 false
                      (goZ (IntKind.wrap IntKind.i64 (amongZ I (2000000 : Int) - (1000000 : Int))) ((1 : Int) + amongZ n (1000 : Int)) (IntKind.wrap IntKind.i64 (amongZ u (2000000 : Int) - (1000000 : Int))) (Int.toNat (0 : Int))),
                    AV.int IntKind.i64 false (IntKind.wrap IntKind.i64 (amongZ I (2000000 : Int) - (1000000 : Int))), AV.int IntKind.i64 false n, AV.junk, AV.junk, AV.junk, AV.junk,
                    AV.ptr (Ref.mk (0) (0) (0) (0)), AV.int IntKind.i64 false (driveZ (IntKind.wrap IntKind.i64 (amongZ I (2000000 : Int) - (1000000 : Int))) (20 : Int)), AV.junk,
                    AV.int IntKind.i64 false (0 : Int), AV.junk, AV.junk, AV.junk, AV.junk, AV.junk, AV.junk, AV.junk, AV.junk, AV.junk, AV.junk, AV.junk, AV.junk, AV.junk, AV.junk, AV.junk, AV.junk, AV.junk, AV.junk, AV.junk, AV.junk,
                    AV.junk, AV.junk, AV.junk, AV.junk, AV.junk, AV.junk, AV.junk, AV.junk, AV.junk, AV.junk, AV.junk, AV.junk, AV.junk, AV.junk, AV.junk, AV.junk, AV.junk, AV.junk, AV.junk, AV.junk, AV.junk, AV.junk, AV.junk, AV.junk,
                    AV.junk, AV.junk, AV.junk, AV.junk, AV.junk, AV.junk, AV.junk, AV.junk, AV.junk, AV.junk, AV.junk, AV.junk, AV.junk, AV.junk, AV.junk, AV.junk, AV.junk, AV.junk, AV.junk, AV.junk, AV.junk, AV.junk, AV.junk, AV.junk,
                    AV.junk, AV.junk, AV.junk, AV.junk, AV.junk, AV.junk, AV.junk, AV.junk, AV.junk, AV.junk, AV.junk]
                  [some
                      (Blk.mk (23) true false false
                        (Data.cells
                          [AV.int IntKind.i64 false (50 : Int), AV.int IntKind.i64 false (20 : Int), AV.int IntKind.i64 false (30 : Int), AV.int IntKind.i64 false (100 : Int), AV.int IntKind.i64 false (1000 : Int),
                            AV.int IntKind.i64 false (0 : Int), AV.int IntKind.i64 false (0 : Int), AV.int IntKind.i64 false (10 : Int)]))]))
              (Tree.chk (okModelGoes_0 (XModelGoes_0.mk (IntKind.wrap IntKind.i64 (amongZ I (2000000 : Int) - (1000000 : Int))) n (IntKind.wrap IntKind.i64 (amongZ u (2000000 : Int) - (1000000 : Int))) (Int.toNat (0 : Int))))
                (Tree.chk ((True ∧ True ∧ True) ∧ (1 : Int) ≤ (1000 : Int) ∧ (1000 : Int) ≤ (9223372036854775807 : Int))
                  (Tree.br (decide (IntKind.wrap IntKind.i64 ((1 : Int) + amongZ n (1000 : Int)) < (100 : Int))) (Tree.ret (AV.bool true true, []))
                    (Tree.br (!decide (IntKind.wrap IntKind.i64 ((2 : Int) * IntKind.wrap IntKind.i64 ((1 : Int) + amongZ n (1000 : Int))) = (0 : Int)))
                      (Tree.ret
                        (AV.bool false
                            (decide
                              ((if
                                    IntKind.wrap IntKind.i64
                                        (driveZ (IntKind.wrap IntKind.i64 (amongZ I (2000000 : Int) - (1000000 : Int))) (20 : Int) -
                                          goZ (IntKind.wrap IntKind.i64 (amongZ I (2000000 : Int) - (1000000 : Int))) ((1 : Int) + amongZ n (1000 : Int)) (IntKind.wrap IntKind.i64 (amongZ u (2000000 : Int) - (1000000 : Int)))
                                            100) >
                                      IntKind.wrap IntKind.i64
                                        (goZ (IntKind.wrap IntKind.i64 (amongZ I (2000000 : Int) - (1000000 : Int))) ((1 : Int) + amongZ n (1000 : Int)) (IntKind.wrap IntKind.i64 (amongZ u (2000000 : Int) - (1000000 : Int)))
                                            100 -
                                          driveZ (IntKind.wrap IntKind.i64 (amongZ I (2000000 : Int) - (1000000 : Int))) (20 : Int)) then
                                  IntKind.wrap IntKind.i64
                                    (driveZ (IntKind.wrap IntKind.i64 (amongZ I (2000000 : Int) - (1000000 : Int))) (20 : Int) -
                                      goZ (IntKind.wrap IntKind.i64 (amongZ I (2000000 : Int) - (1000000 : Int))) ((1 : Int) + amongZ n (1000 : Int)) (IntKind.wrap IntKind.i64 (amongZ u (2000000 : Int) - (1000000 : Int)))
                                        100)
                                else
                                  IntKind.wrap IntKind.i64
                                    (goZ (IntKind.wrap IntKind.i64 (amongZ I (2000000 : Int) - (1000000 : Int))) ((1 : Int) + amongZ n (1000 : Int)) (IntKind.wrap IntKind.i64 (amongZ u (2000000 : Int) - (1000000 : Int)))
                                        100 -
                                      driveZ (IntKind.wrap IntKind.i64 (amongZ I (2000000 : Int) - (1000000 : Int))) (20 : Int))) ≤
                                IntKind.wrap IntKind.i64
                                  (IntKind.wrap IntKind.i64
                                      (Int.tdiv (IntKind.wrap IntKind.i64 ((100 : Int) + IntKind.wrap IntKind.i64 ((1 : Int) + amongZ n (1000 : Int))))
                                        (IntKind.wrap IntKind.i64 ((2 : Int) * IntKind.wrap IntKind.i64 ((1 : Int) + amongZ n (1000 : Int))))) +
                                    (1 : Int)))),
                          []))
                      Tree.fail))))))))) := by kernel_rfl
set_option maxRecDepth 100000 in
theorem gModelGoes (u : Int) (I : Int) (n : Int) (hw : -9223372036854775808 ≤ u ∧ u ≤ 9223372036854775807 ∧ -9223372036854775808 ≤ I ∧ I ≤ 9223372036854775807 ∧ -9223372036854775808 ≤ n ∧ n ≤ 9223372036854775807) : (Tree.chk (True ∧ True)
    (Tree.br false (Tree.ret (AV.bool true false, []))
      (Tree.chk ((True ∧ True ∧ True) ∧ (1 : Int) ≤ (2000000 : Int) ∧ (2000000 : Int) ≤ (9223372036854775807 : Int))
        (Tree.chk ((True ∧ True ∧ True) ∧ (1 : Int) ≤ (2000000 : Int) ∧ (2000000 : Int) ≤ (9223372036854775807 : Int))
          (Tree.chk
            ((True ∧ True ∧ True) ∧
              (-9223372036854775808 : Int) ≤ IntKind.wrap IntKind.i64 (amongZ I (2000000 : Int) - (1000000 : Int)) ∧
                IntKind.wrap IntKind.i64 (amongZ I (2000000 : Int) - (1000000 : Int)) ≤ (9223372036854775807 : Int) ∧ (-9223372036854775808 : Int) ≤ (20 : Int) ∧ (20 : Int) ≤ (9223372036854775807 : Int))
            (Tree.chk
              (St.le
                (St.mk
                  [AV.int IntKind.i64 false (IntKind.wrap IntKind.i64 (amongZ u (2000000 : Int) - (1000000 : Int))), AV.int IntKind.i64 false (IntKind.wrap IntKind.i64 (amongZ I (2000000 : Int) - (1000000 : Int))),
                    AV.int IntKind.i64 false n, AV.junk, AV.junk, AV.junk, AV.junk, AV.ptr (Ref.mk (0) (0) (0) (0)),
                    AV.int IntKind.i64 false (drV (IntKind.wrap IntKind.i64 (amongZ I (2000000 : Int) - (1000000 : Int))) (20 : Int)), AV.junk, AV.int IntKind.i64 true (0 : Int), AV.junk, AV.junk, AV.junk, AV.junk, AV.junk, AV.junk,
                    AV.junk, AV.junk, AV.junk, AV.junk, AV.junk, AV.junk, AV.junk, AV.junk, AV.junk, AV.junk, AV.junk, AV.junk, AV.junk, AV.junk, AV.junk, AV.junk, AV.junk, AV.junk, AV.junk, AV.junk, AV.junk, AV.junk, AV.junk, AV.junk,
                    AV.junk, AV.junk, AV.junk, AV.junk, AV.junk, AV.junk, AV.junk, AV.junk, AV.junk, AV.junk, AV.junk, AV.junk, AV.junk, AV.junk, AV.junk, AV.junk, AV.junk, AV.junk, AV.junk, AV.junk, AV.junk, AV.junk, AV.junk, AV.junk,
                    AV.junk, AV.junk, AV.junk, AV.junk, AV.junk, AV.junk, AV.junk, AV.junk, AV.junk, AV.junk, AV.junk, AV.junk, AV.junk, AV.junk, AV.junk, AV.junk, AV.junk, AV.junk, AV.junk, AV.junk, AV.junk, AV.junk, AV.junk, AV.junk,
                    AV.junk]
                  [some
                      (Blk.mk (23) true false false
                        (Data.cells
                          [AV.int IntKind.i64 true (50 : Int), AV.int IntKind.i64 true (20 : Int), AV.int IntKind.i64 true (30 : Int), AV.int IntKind.i64 true (100 : Int), AV.int IntKind.i64 true (1000 : Int),
                            AV.int IntKind.i64 true (0 : Int), AV.int IntKind.i64 true (0 : Int), AV.int IntKind.i64 true (10 : Int)]))])
                (St.mk
                  [AV.int IntKind.i64 false
                      (goZ (IntKind.wrap IntKind.i64 (amongZ I (2000000 : Int) - (1000000 : Int))) ((1 : Int) + amongZ n (1000 : Int)) (IntKind.wrap IntKind.i64 (amongZ u (2000000 : Int) - (1000000 : Int))) (Int.toNat (0 : Int))),
                    AV.int IntKind.i64 false (IntKind.wrap IntKind.i64 (amongZ I (2000000 : Int) - (1000000 : Int))), AV.int IntKind.i64 false n, AV.junk, AV.junk, AV.junk, AV.junk,
                    AV.ptr (Ref.mk (0) (0) (0) (0)), AV.int IntKind.i64 false (driveZ (IntKind.wrap IntKind.i64 (amongZ I (2000000 : Int) - (1000000 : Int))) (20 : Int)), AV.junk,
                    AV.int IntKind.i64 false (0 : Int), AV.junk, AV.junk, AV.junk, AV.junk, AV.junk, AV.junk, AV.junk, AV.junk, AV.junk, AV.junk, AV.junk, AV.junk, AV.junk, AV.junk, AV.junk, AV.junk, AV.junk, AV.junk, AV.junk, AV.junk,
                    AV.junk, AV.junk, AV.junk, AV.junk, AV.junk, AV.junk, AV.junk, AV.junk, AV.junk, AV.junk, AV.junk, AV.junk, AV.junk, AV.junk, AV.junk, AV.junk, AV.junk, AV.junk, AV.junk, AV.junk, AV.junk, AV.junk, AV.junk, AV.junk,
                    AV.junk, AV.junk, AV.junk, AV.junk, AV.junk, AV.junk, AV.junk, AV.junk, AV.junk, AV.junk, AV.junk, AV.junk, AV.junk, AV.junk, AV.junk, AV.junk, AV.junk, AV.junk, AV.junk, AV.junk, AV.junk, AV.junk, AV.junk, AV.junk,
                    AV.junk, AV.junk, AV.junk, AV.junk, AV.junk, AV.junk, AV.junk, AV.junk, AV.junk, AV.junk, AV.junk]
                  [some
                      (Blk.mk (23) true false false
                        (Data.cells
                          [AV.int IntKind.i64 false (50 : Int), AV.int IntKind.i64 false (20 : Int), AV.int IntKind.i64 false (30 : Int), AV.int IntKind.i64 false (100 : Int), AV.int IntKind.i64 false (1000 : Int),
                            AV.int IntKind.i64 false (0 : Int), AV.int IntKind.i64 false (0 : Int), AV.int IntKind.i64 false (10 : Int)]))]))
              (Tree.chk (okModelGoes_0 (XModelGoes_0.mk (IntKind.wrap IntKind.i64 (amongZ I (2000000 : Int) - (1000000 : Int))) n (IntKind.wrap IntKind.i64 (amongZ u (2000000 : Int) - (1000000 : Int))) (Int.toNat (0 : Int))))
                (Tree.chk ((True ∧ True ∧ True) ∧ (1 : Int) ≤ (1000 : Int) ∧ (1000 : Int) ≤ (9223372036854775807 : Int))
                  (Tree.br (decide (IntKind.wrap IntKind.i64 ((1 : Int) + amongZ n (1000 : Int)) < (100 : Int))) (Tree.ret (AV.bool true true, []))
                    (Tree.br (!decide (IntKind.wrap IntKind.i64 ((2 : Int) * IntKind.wrap IntKind.i64 ((1 : Int) + amongZ n (1000 : Int))) = (0 : Int)))
                      (Tree.ret
                        (AV.bool false
                            (decide
                              ((if
                                    IntKind.wrap IntKind.i64
                                        (driveZ (IntKind.wrap IntKind.i64 (amongZ I (2000000 : Int) - (1000000 : Int))) (20 : Int) -
                                          goZ (IntKind.wrap IntKind.i64 (amongZ I (2000000 : Int) - (1000000 : Int))) ((1 : Int) + amongZ n (1000 : Int)) (IntKind.wrap IntKind.i64 (amongZ u (2000000 : Int) - (1000000 : Int)))
                                            100) >
                                      IntKind.wrap IntKind.i64
                                        (goZ (IntKind.wrap IntKind.i64 (amongZ I (2000000 : Int) - (1000000 : Int))) ((1 : Int) + amongZ n (1000 : Int)) (IntKind.wrap IntKind.i64 (amongZ u (2000000 : Int) - (1000000 : Int)))
                                            100 -
                                          driveZ (IntKind.wrap IntKind.i64 (amongZ I (2000000 : Int) - (1000000 : Int))) (20 : Int)) then
                                  IntKind.wrap IntKind.i64
                                    (driveZ (IntKind.wrap IntKind.i64 (amongZ I (2000000 : Int) - (1000000 : Int))) (20 : Int) -
                                      goZ (IntKind.wrap IntKind.i64 (amongZ I (2000000 : Int) - (1000000 : Int))) ((1 : Int) + amongZ n (1000 : Int)) (IntKind.wrap IntKind.i64 (amongZ u (2000000 : Int) - (1000000 : Int)))
                                        100)
                                else
                                  IntKind.wrap IntKind.i64
                                    (goZ (IntKind.wrap IntKind.i64 (amongZ I (2000000 : Int) - (1000000 : Int))) ((1 : Int) + amongZ n (1000 : Int)) (IntKind.wrap IntKind.i64 (amongZ u (2000000 : Int) - (1000000 : Int)))
                                        100 -
                                      driveZ (IntKind.wrap IntKind.i64 (amongZ I (2000000 : Int) - (1000000 : Int))) (20 : Int))) ≤
                                IntKind.wrap IntKind.i64
                                  (IntKind.wrap IntKind.i64
                                      (Int.tdiv (IntKind.wrap IntKind.i64 ((100 : Int) + IntKind.wrap IntKind.i64 ((1 : Int) + amongZ n (1000 : Int))))
                                        (IntKind.wrap IntKind.i64 ((2 : Int) * IntKind.wrap IntKind.i64 ((1 : Int) + amongZ n (1000 : Int))))) +
                                    (1 : Int)))),
                          []))
                      Tree.fail))))))))) : Tree (AV × Mem)).GivesP (.bool false true) ([]) := by
  obtain ⟨a0, a1, b0, b1, n0, n1⟩ := hw
  have am := amz (a := n) (b := 1000) (by omega)
  have ek : IntKind.i64.wrap (1 + amongZ n 1000) = 1 + amongZ n 1000 := by rw [w64]; omega
  have au := amz (a := u) (b := 2000000) (by omega)
  have ai := amz (a := I) (b := 2000000) (by omega)
  have eu : IntKind.i64.wrap (amongZ u 2000000 - 1000000) = amongZ u 2000000 - 1000000 := by rw [w64]; omega
  have ei : IntKind.i64.wrap (amongZ I 2000000 - 1000000) = amongZ I 2000000 - 1000000 := by rw [w64]; omega
  simp only [ek, eu, ei]
  generalize hJ : amongZ I 2000000 - 1000000 = J at *
  generalize hV : amongZ u 2000000 - 1000000 = V at *
  generalize hKK : 1 + amongZ n 1000 = K at *
  have e5 : drV J 20 = driveZ J 20 := by
    rcases dr_cases J 20 with h | h
    · exact h.2.2
    · exfalso; have := h.1; unfold drE at this; rw [if_pos (by omega)] at this; cases this
  have ds := drive_small (I := J) (by omega) (by omega)
  have gb := go_bound J K V (by omega) 100
  have gf : 100 ≤ K → -1 ≤ driveZ J 20 - goZ J K V 100 ∧ driveZ J 20 - goZ J K V 100 ≤ 1 := fun h => go_final h (by omega) (by omega)
  have e3 : IntKind.i64.wrap (100 + K) = 100 + K := by rw [w64]; omega
  have e4 : IntKind.i64.wrap (2 * K) = 2 * K := by rw [w64]; omega
  have q0 : 0 ≤ Int.tdiv (100 + K) (2 * K) := Int.tdiv_nonneg (by omega) (by omega)
  have q1 : Int.tdiv (100 + K) (2 * K) ≤ 100 + K := Int.tdiv_le_self _ (by omega)
  simp only [e3, e4]
  generalize Int.tdiv (100 + K) (2 * K) = Q at *
  refine Tree.GivesP.chk (by first | (simp only [and_self]; done) | ((repeat' with_reducible refine And.intro ?_ ?_) <;> first | trivial | omega | (simp only [ckE] at *; split at * <;> omega))) ?_
  refine Tree.GivesP.br (fun h1 => ?_) (fun h1 => ?_)
  · (try simp only [decide_eq_true_eq, decide_eq_false_iff_not, Bool.not_eq_true', Bool.not_eq_false', beq_iff_eq, beq_eq_false_iff_ne, Int.not_lt, Int.not_le, ge_iff_le, gt_iff_lt, ne_eq, Bool.false_eq_true, Bool.true_eq_false, not_true_eq_false, not_false_eq_true, Bool.and_eq_true, Bool.not_eq_eq_eq_not, Bool.not_true, Bool.not_false, bne_iff_ne, bne_eq_false_iff_eq, Int.toNat_natCast, Nat.mul_one, Nat.add_zero, Nat.zero_add, List.take_length, List.drop_zero] at h1)
    all_goals
      refine Tree.GivesP.ret ?_ ?_
      · first | (simp only [AV.le]; done) | (simp only [AV.le, beq_iff_eq, decide_eq_true_eq]; (try simp only [w64] at *); omega) | (exfalso; omega)
      · simp only [AV.leL, AV.le, Mem.le, Mem.leP, Blk.le, Blk.pad, Data.le, Data.size, Cap.le, and_true, true_and, and_self, true_implies, implies_true, imp_self, List.length_nil]
  · (try simp only [decide_eq_true_eq, decide_eq_false_iff_not, Bool.not_eq_true', Bool.not_eq_false', beq_iff_eq, beq_eq_false_iff_ne, Int.not_lt, Int.not_le, ge_iff_le, gt_iff_lt, ne_eq, Bool.false_eq_true, Bool.true_eq_false, not_true_eq_false, not_false_eq_true, Bool.and_eq_true, Bool.not_eq_eq_eq_not, Bool.not_true, Bool.not_false, bne_iff_ne, bne_eq_false_iff_eq, Int.toNat_natCast, Nat.mul_one, Nat.add_zero, Nat.zero_add, List.take_length, List.drop_zero] at h1)
    all_goals
      refine Tree.GivesP.chk (by first | (simp only [and_self]; done) | ((repeat' with_reducible refine And.intro ?_ ?_) <;> first | trivial | omega | (simp only [ckE] at *; split at * <;> omega))) ?_
      refine Tree.GivesP.chk (by first | (simp only [and_self]; done) | ((repeat' with_reducible refine And.intro ?_ ?_) <;> first | trivial | omega | (simp only [ckE] at *; split at * <;> omega))) ?_
      refine Tree.GivesP.chk (by first | (simp only [and_self]; done) | ((repeat' with_reducible refine And.intro ?_ ?_) <;> first | trivial | omega | (simp only [ckE] at *; split at * <;> omega))) ?_
      refine Tree.GivesP.chk (by first | (simp only [and_self]; done) | (constructor <;> simp only [hdModelGoes_0, Int.toNat_zero, Int.cast_ofNat_Int, AV.leL, AV.le, Mem.le, Mem.leP, Blk.le, Blk.pad, Data.le, Data.size, Cap.le, and_true, true_and, and_self, true_implies, implies_true, imp_self, List.length_nil] <;> (repeat' with_reducible refine And.intro ?_ ?_) <;> first | rfl | trivial | omega)) ?_
      refine Tree.GivesP.chk (by first | (simp only [and_self]; done) | (exact ⟨by omega, by omega, by omega, by omega, n0, n1, Nat.zero_le _⟩)) ?_
      refine Tree.GivesP.chk (by first | (simp only [and_self]; done) | ((repeat' with_reducible refine And.intro ?_ ?_) <;> first | trivial | omega | (simp only [ckE] at *; split at * <;> omega))) ?_
      refine Tree.GivesP.br (fun h2 => ?_) (fun h2 => ?_)
      · (try simp only [decide_eq_true_eq, decide_eq_false_iff_not, Bool.not_eq_true', Bool.not_eq_false', beq_iff_eq, beq_eq_false_iff_ne, Int.not_lt, Int.not_le, ge_iff_le, gt_iff_lt, ne_eq, Bool.false_eq_true, Bool.true_eq_false, not_true_eq_false, not_false_eq_true, Bool.and_eq_true, Bool.not_eq_eq_eq_not, Bool.not_true, Bool.not_false, bne_iff_ne, bne_eq_false_iff_eq, Int.toNat_natCast, Nat.mul_one, Nat.add_zero, Nat.zero_add, List.take_length, List.drop_zero] at h2)
        all_goals
          refine Tree.GivesP.ret ?_ ?_
          · first | (simp only [AV.le]; done) | (simp only [AV.le, beq_iff_eq, decide_eq_true_eq]; (try simp only [w64] at *); omega) | (exfalso; omega)
          · simp only [AV.leL, AV.le, Mem.le, Mem.leP, Blk.le, Blk.pad, Data.le, Data.size, Cap.le, and_true, true_and, and_self, true_implies, implies_true, imp_self, List.length_nil]
      · (try simp only [decide_eq_true_eq, decide_eq_false_iff_not, Bool.not_eq_true', Bool.not_eq_false', beq_iff_eq, beq_eq_false_iff_ne, Int.not_lt, Int.not_le, ge_iff_le, gt_iff_lt, ne_eq, Bool.false_eq_true, Bool.true_eq_false, not_true_eq_false, not_false_eq_true, Bool.and_eq_true, Bool.not_eq_eq_eq_not, Bool.not_true, Bool.not_false, bne_iff_ne, bne_eq_false_iff_eq, Int.toNat_natCast, Nat.mul_one, Nat.add_zero, Nat.zero_add, List.take_length, List.drop_zero] at h2)
        all_goals
          refine Tree.GivesP.br (fun h3 => ?_) (fun h3 => ?_)
          · (try simp only [decide_eq_true_eq, decide_eq_false_iff_not, Bool.not_eq_true', Bool.not_eq_false', beq_iff_eq, beq_eq_false_iff_ne, Int.not_lt, Int.not_le, ge_iff_le, gt_iff_lt, ne_eq, Bool.false_eq_true, Bool.true_eq_false, not_true_eq_false, not_false_eq_true, Bool.and_eq_true, Bool.not_eq_eq_eq_not, Bool.not_true, Bool.not_false, bne_iff_ne, bne_eq_false_iff_eq, Int.toNat_natCast, Nat.mul_one, Nat.add_zero, Nat.zero_add, List.take_length, List.drop_zero] at h3)
            all_goals
              refine Tree.GivesP.ret ?_ ?_
              · first | (simp only [AV.le]; done) | (simp only [AV.le, beq_iff_eq, decide_eq_true_eq]; (try simp only [w64] at *); omega) | (exfalso; omega)
              · simp only [AV.leL, AV.le, Mem.le, Mem.leP, Blk.le, Blk.pad, Data.le, Data.size, Cap.le, and_true, true_and, and_self, true_implies, implies_true, imp_self, List.length_nil]
          · (try simp only [decide_eq_true_eq, decide_eq_false_iff_not, Bool.not_eq_true', Bool.not_eq_false', beq_iff_eq, beq_eq_false_iff_ne, Int.not_lt, Int.not_le, ge_iff_le, gt_iff_lt, ne_eq, Bool.false_eq_true, Bool.true_eq_false, not_true_eq_false, not_false_eq_true, Bool.and_eq_true, Bool.not_eq_eq_eq_not, Bool.not_true, Bool.not_false, bne_iff_ne, bne_eq_false_iff_eq, Int.toNat_natCast, Nat.mul_one, Nat.add_zero, Nat.zero_add, List.take_length, List.drop_zero] at h3)
            all_goals
              exfalso
              omega
theorem sModelGoes (hall : AllOk Try.prog 0 (fun _ => none) tab18) (u : Int) (I : Int) (n : Int) (hw : -9223372036854775808 ≤ u ∧ u ≤ 9223372036854775807 ∧ -9223372036854775808 ≤ I ∧ I ≤ 9223372036854775807 ∧ -9223372036854775808 ≤ n ∧ n ≤ 9223372036854775807) : SoundAt (mkC Try.prog 0 (fun _ => none) []) 6 [.int .i64 false u, .int .i64 false I, .int .i64 false n] [] (.bool false true, []) := sound_loopsP hall mix (loopsModelGoes hall) (tModelGoes u I n) (gModelGoes u I n hw)
end Go.Proofs.Ytoihhmpmlbdeiaa.Rig

/- The row of the law ModelGoes: whatever the input it gives true, and what came in stays. -/
namespace Go.Proofs.Ytoihhmpmlbdeiaa.modelGoes
open Go.ChangeShapes Go.WideShapes Go.ChangeAt Go.RowKit Go.Proofs.Ytoihhmpmlbdeiaa.Rig
open Go.ChangeMaps (open_string shut_string)
set_option linter.unusedVariables false

theorem own : ownKnob Try.prog.godebug = none := by kernel_rfl
theorem laidOut : laidOutB Try.prog = true := by kernel_rfl
theorem walk (a0 : Int) (a1 : Int) (a2 : Int) (w : World) (w0 : (Lit.int .i64 a0).wf = true) (w1 : (Lit.int .i64 a1).wf = true) (w2 : (Lit.int .i64 a2).wf = true) :
    Calls Try.prog 6 #[.int .i64 a0, .int .i64 a1, .int .i64 a2] w fun e w' => e = .returned (.bool true) ∧ Below w.heap.size w w' := by
  have h := sModelGoes all18 a0 a1 a2 ⟨(wf64 w0).1, (wf64 w0).2, (wf64 w1).1, (wf64 w1).2, (wf64 w2).1, (wf64 w2).2⟩
  refine SoundAt.top0 h (fun _ => rfl) rfl (vals := [.int .i64 a0, .int .i64 a1, .int .i64 a2]) ?_
  exact RepL.cons (by simp [RepL, Rep]) (RepL.cons (by simp [RepL, Rep]) (RepL.cons (by simp [RepL, Rep]) (RepL.nil)))
set_option maxRecDepth 100000 in
theorem lifted (os : Os) (started : os.Started) (H : Type) (enc : TypeId × Value → H) :
    ReturnsInHanded {} Try.checked os 6 .any (Rows.modelGoesSpec.pre6 enc Try.prog Try.f6 Rows.modelGoesRow.domain false) (Rows.modelGoesSpec.post enc Try.prog Try.f6 false true false false) := by
  refine returnsInHanded_of_change_sized (C := Try.checked) own started (by kernel_rfl) Try.func6
    (ChangeSpec.witness6 (enc := enc) (C := Try.checked) false ⟨#[], #[.int .i64 0, .int .i64 0, .int .i64 0], []⟩ 8 (by kernel_rfl) (by kernel_rfl) (by kernel_rfl) (by kernel_rfl)) ?_
  intro W base args ds gs before hval0 hW hcnd hsz0 _
  have hval : ∀ (j : Nat) t v, Try.f6.params[j]? = some t → args[j]? = some v → Value.okWide Try.prog W .any base t v := hval0
  have hW' := hW
  obtain ⟨p, q, hA0, hV, rfl, hfz, hnd⟩ := hW
  have hA : DataW.TrodAll enc Try.prog W 0 (fun _ => true) true Try.f6.params.toList args.toList ds p := hA0
  rw [Try.params6] at hA hval
  obtain ⟨v0, vs0, d0, ds0, p0, z0, hargs, rfl, rfl, h0, r0⟩ := trodAll_cons hA
  obtain ⟨v1, vs1, d1, ds1, p1, z1, rfl, rfl, rfl, h1, r1⟩ := trodAll_cons r0
  obtain ⟨v2, vs2, d2, ds2, p2, z2, rfl, rfl, rfl, h2, r2⟩ := trodAll_cons r1
  obtain ⟨rfl, rfl, rfl⟩ := trodAll_nil r2
  obtain rfl : args = #[v0, v1, v2] := by cases args; simp_all
  obtain ⟨rfl, rfl⟩ := trodVars_none hV
  obtain ⟨a0, rfl, rfl, rfl, w0⟩ := open_int Try.underlying3 (hval 0 3 v0 rfl rfl) h0
  obtain ⟨a1, rfl, rfl, rfl, w1⟩ := open_int Try.underlying3 (hval 1 3 v1 rfl rfl) h1
  obtain ⟨a2, rfl, rfl, rfl, w2⟩ := open_int Try.underlying3 (hval 2 3 v2 rfl rfl) h2
  clear hA0 hval0 hsz0
  refine (walk a0 a1 a2 W w0 w1 w2).mono fun e W' ⟨he, bel⟩ => ?_
  subst he
  exact ⟨_, rfl, _, _, _, [], _, [], hW', trodAll_mk1 (shut_bool Try.underlying4 _), (trodAll_cons_mk (shut_int Try.underlying3 w0) (trodAll_cons_mk (shut_int Try.underlying3 w1) (trodAll_cons_mk (shut_int Try.underlying3 w2) trodAll_mk0))), rfl, bel.frame _, fun h => by cases h⟩
theorem over : Rows.modelGoesRow.holds Try.pinned (OpenSpec.ofChange Rows.modelGoesSpec) :=
  OpenClaim.holds_of_wide 6 Try.f6 rfl rfl rfl rfl rfl rfl rfl ⟨rfl, rfl, rfl, rfl, rfl⟩ rfl rfl rfl rfl rfl (by kernel_rfl) Try.func6 (by kernel_rfl)
    (of_decide_eq_true (by kernel_rfl)) (by unfold Func.isWrapper; first | (rw [if_pos (by decide +kernel)]; kernel_rfl) | (rw [if_neg (by decide +kernel)]; exact ⟨rfl, rfl⟩))
    (fun os started H enc _ => lifted os started H enc)
theorem proved : Rows.ModelGoesSaid := over
#print axioms proved
end Go.Proofs.Ytoihhmpmlbdeiaa.modelGoes
namespace Go.Proofs.Ytoihhmpmlbdeiaa
/-- The row, under a short name, for the claim. -/
theorem modelGoes_holds : Rows.ModelGoesSaid := modelGoes.proved
end Go.Proofs.Ytoihhmpmlbdeiaa
