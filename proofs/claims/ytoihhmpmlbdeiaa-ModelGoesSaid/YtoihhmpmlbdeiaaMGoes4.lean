/- MGoes: what is proved for the claim, part 4: functions' reckonings, and what they give. -/
import Derived.Test.YtoihhmpmlbdeiaaMGoes3
import Derived.KernelRfl
import Derived.Test.YtoihhmpmlbdeiaaMGoesLZ
set_option linter.unusedVariables false
set_option linter.unusedSimpArgs false
/- Qmul -/
namespace Go.Proofs.Ytoihhmpmlbdeiaa.Rig
open Go
set_option maxRecDepth 100000 in
theorem tmul (a : Int) (b : Int) : evBody (mkC Try.prog 0 (fun _ => none) tab5) (evCall (mkC Try.prog 0 (fun _ => none) tab5) 50) 53 [.int .i64 false a, .int .i64 false b] [] =
  Tree.br (decide (a < (0 : Int)))
    (Tree.br (decide (b < (0 : Int)))
      (Tree.chk
        ((True ∧ True ∧ True) ∧
          (0 : Int) ≤ IntKind.wrap IntKind.u64 ((0 : Int) - IntKind.wrap IntKind.u64 a) ∧
            IntKind.wrap IntKind.u64 ((0 : Int) - IntKind.wrap IntKind.u64 a) ≤ (18446744073709551615 : Int) ∧
              (0 : Int) ≤ IntKind.wrap IntKind.u64 ((0 : Int) - IntKind.wrap IntKind.u64 b) ∧ IntKind.wrap IntKind.u64 ((0 : Int) - IntKind.wrap IntKind.u64 b) ≤ (18446744073709551615 : Int))
        (Tree.br (!decide (a < (0 : Int)) == decide (b < (0 : Int)))
          (Tree.chk
            ((True ∧ True) ∧
              (-9223372036854775808 : Int) ≤
                  IntKind.wrap IntKind.i64 (IntKind.wrap IntKind.u64 ((0 : Int) - IntKind.wrap IntKind.u64 a) * IntKind.wrap IntKind.u64 ((0 : Int) - IntKind.wrap IntKind.u64 b) / (18446744073709551616 : Int)) ∧
                IntKind.wrap IntKind.i64 (IntKind.wrap IntKind.u64 ((0 : Int) - IntKind.wrap IntKind.u64 a) * IntKind.wrap IntKind.u64 ((0 : Int) - IntKind.wrap IntKind.u64 b) / (18446744073709551616 : Int)) ≤
                    (9223372036854775807 : Int) ∧
                  (0 : Int) ≤ IntKind.wrap IntKind.u64 ((0 : Int) - IntKind.wrap IntKind.u64 a) * IntKind.wrap IntKind.u64 ((0 : Int) - IntKind.wrap IntKind.u64 b) % (18446744073709551616 : Int) ∧
                    IntKind.wrap IntKind.u64 ((0 : Int) - IntKind.wrap IntKind.u64 a) * IntKind.wrap IntKind.u64 ((0 : Int) - IntKind.wrap IntKind.u64 b) % (18446744073709551616 : Int) ≤ (18446744073709551615 : Int))
            (Tree.ret
              (AV.agg
                  [AV.int IntKind.i64 false
                      (hiZ
                        (-numW (IntKind.wrap IntKind.i64 (IntKind.wrap IntKind.u64 ((0 : Int) - IntKind.wrap IntKind.u64 a) * IntKind.wrap IntKind.u64 ((0 : Int) - IntKind.wrap IntKind.u64 b) / (18446744073709551616 : Int)))
                            (IntKind.wrap IntKind.u64 ((0 : Int) - IntKind.wrap IntKind.u64 a) * IntKind.wrap IntKind.u64 ((0 : Int) - IntKind.wrap IntKind.u64 b) % (18446744073709551616 : Int)))),
                    AV.int IntKind.u64 false
                      (loZ
                        (-numW (IntKind.wrap IntKind.i64 (IntKind.wrap IntKind.u64 ((0 : Int) - IntKind.wrap IntKind.u64 a) * IntKind.wrap IntKind.u64 ((0 : Int) - IntKind.wrap IntKind.u64 b) / (18446744073709551616 : Int)))
                            (IntKind.wrap IntKind.u64 ((0 : Int) - IntKind.wrap IntKind.u64 a) * IntKind.wrap IntKind.u64 ((0 : Int) - IntKind.wrap IntKind.u64 b) % (18446744073709551616 : Int))))],
                [])))
          (Tree.ret
            (AV.agg
                [AV.int IntKind.i64 false (IntKind.wrap IntKind.i64 (IntKind.wrap IntKind.u64 ((0 : Int) - IntKind.wrap IntKind.u64 a) * IntKind.wrap IntKind.u64 ((0 : Int) - IntKind.wrap IntKind.u64 b) / (18446744073709551616 : Int))),
                  AV.int IntKind.u64 false (IntKind.wrap IntKind.u64 ((0 : Int) - IntKind.wrap IntKind.u64 a) * IntKind.wrap IntKind.u64 ((0 : Int) - IntKind.wrap IntKind.u64 b) % (18446744073709551616 : Int))],
              []))))
      (Tree.chk
        ((True ∧ True ∧ True) ∧
          (0 : Int) ≤ IntKind.wrap IntKind.u64 ((0 : Int) - IntKind.wrap IntKind.u64 a) ∧
            IntKind.wrap IntKind.u64 ((0 : Int) - IntKind.wrap IntKind.u64 a) ≤ (18446744073709551615 : Int) ∧ (0 : Int) ≤ IntKind.wrap IntKind.u64 b ∧ IntKind.wrap IntKind.u64 b ≤ (18446744073709551615 : Int))
        (Tree.br (!decide (a < (0 : Int)) == decide (b < (0 : Int)))
          (Tree.chk
            ((True ∧ True) ∧
              (-9223372036854775808 : Int) ≤ IntKind.wrap IntKind.i64 (IntKind.wrap IntKind.u64 ((0 : Int) - IntKind.wrap IntKind.u64 a) * IntKind.wrap IntKind.u64 b / (18446744073709551616 : Int)) ∧
                IntKind.wrap IntKind.i64 (IntKind.wrap IntKind.u64 ((0 : Int) - IntKind.wrap IntKind.u64 a) * IntKind.wrap IntKind.u64 b / (18446744073709551616 : Int)) ≤ (9223372036854775807 : Int) ∧
                  (0 : Int) ≤ IntKind.wrap IntKind.u64 ((0 : Int) - IntKind.wrap IntKind.u64 a) * IntKind.wrap IntKind.u64 b % (18446744073709551616 : Int) ∧
                    IntKind.wrap IntKind.u64 ((0 : Int) - IntKind.wrap IntKind.u64 a) * IntKind.wrap IntKind.u64 b % (18446744073709551616 : Int) ≤ (18446744073709551615 : Int))
            (Tree.ret
              (AV.agg
                  [AV.int IntKind.i64 false
                      (hiZ
                        (-numW (IntKind.wrap IntKind.i64 (IntKind.wrap IntKind.u64 ((0 : Int) - IntKind.wrap IntKind.u64 a) * IntKind.wrap IntKind.u64 b / (18446744073709551616 : Int)))
                            (IntKind.wrap IntKind.u64 ((0 : Int) - IntKind.wrap IntKind.u64 a) * IntKind.wrap IntKind.u64 b % (18446744073709551616 : Int)))),
                    AV.int IntKind.u64 false
                      (loZ
                        (-numW (IntKind.wrap IntKind.i64 (IntKind.wrap IntKind.u64 ((0 : Int) - IntKind.wrap IntKind.u64 a) * IntKind.wrap IntKind.u64 b / (18446744073709551616 : Int)))
                            (IntKind.wrap IntKind.u64 ((0 : Int) - IntKind.wrap IntKind.u64 a) * IntKind.wrap IntKind.u64 b % (18446744073709551616 : Int))))],
                [])))
          (Tree.ret
            (AV.agg
                [AV.int IntKind.i64 false (IntKind.wrap IntKind.i64 (IntKind.wrap IntKind.u64 ((0 : Int) - IntKind.wrap IntKind.u64 a) * IntKind.wrap IntKind.u64 b / (18446744073709551616 : Int))),
                  AV.int IntKind.u64 false (IntKind.wrap IntKind.u64 ((0 : Int) - IntKind.wrap IntKind.u64 a) * IntKind.wrap IntKind.u64 b % (18446744073709551616 : Int))],
              [])))))
    (Tree.br (decide (b < (0 : Int)))
      (Tree.chk
        ((True ∧ True ∧ True) ∧
          (0 : Int) ≤ IntKind.wrap IntKind.u64 a ∧
            IntKind.wrap IntKind.u64 a ≤ (18446744073709551615 : Int) ∧
              (0 : Int) ≤ IntKind.wrap IntKind.u64 ((0 : Int) - IntKind.wrap IntKind.u64 b) ∧ IntKind.wrap IntKind.u64 ((0 : Int) - IntKind.wrap IntKind.u64 b) ≤ (18446744073709551615 : Int))
        (Tree.br (!decide (a < (0 : Int)) == decide (b < (0 : Int)))
          (Tree.chk
            ((True ∧ True) ∧
              (-9223372036854775808 : Int) ≤ IntKind.wrap IntKind.i64 (IntKind.wrap IntKind.u64 a * IntKind.wrap IntKind.u64 ((0 : Int) - IntKind.wrap IntKind.u64 b) / (18446744073709551616 : Int)) ∧
                IntKind.wrap IntKind.i64 (IntKind.wrap IntKind.u64 a * IntKind.wrap IntKind.u64 ((0 : Int) - IntKind.wrap IntKind.u64 b) / (18446744073709551616 : Int)) ≤ (9223372036854775807 : Int) ∧
                  (0 : Int) ≤ IntKind.wrap IntKind.u64 a * IntKind.wrap IntKind.u64 ((0 : Int) - IntKind.wrap IntKind.u64 b) % (18446744073709551616 : Int) ∧
                    IntKind.wrap IntKind.u64 a * IntKind.wrap IntKind.u64 ((0 : Int) - IntKind.wrap IntKind.u64 b) % (18446744073709551616 : Int) ≤ (18446744073709551615 : Int))
            (Tree.ret
              (AV.agg
                  [AV.int IntKind.i64 false
                      (hiZ
                        (-numW (IntKind.wrap IntKind.i64 (IntKind.wrap IntKind.u64 a * IntKind.wrap IntKind.u64 ((0 : Int) - IntKind.wrap IntKind.u64 b) / (18446744073709551616 : Int)))
                            (IntKind.wrap IntKind.u64 a * IntKind.wrap IntKind.u64 ((0 : Int) - IntKind.wrap IntKind.u64 b) % (18446744073709551616 : Int)))),
                    AV.int IntKind.u64 false
                      (loZ
                        (-numW (IntKind.wrap IntKind.i64 (IntKind.wrap IntKind.u64 a * IntKind.wrap IntKind.u64 ((0 : Int) - IntKind.wrap IntKind.u64 b) / (18446744073709551616 : Int)))
                            (IntKind.wrap IntKind.u64 a * IntKind.wrap IntKind.u64 ((0 : Int) - IntKind.wrap IntKind.u64 b) % (18446744073709551616 : Int))))],
                [])))
          (Tree.ret
            (AV.agg
                [AV.int IntKind.i64 false (IntKind.wrap IntKind.i64 (IntKind.wrap IntKind.u64 a * IntKind.wrap IntKind.u64 ((0 : Int) - IntKind.wrap IntKind.u64 b) / (18446744073709551616 : Int))),
                  AV.int IntKind.u64 false (IntKind.wrap IntKind.u64 a * IntKind.wrap IntKind.u64 ((0 : Int) - IntKind.wrap IntKind.u64 b) % (18446744073709551616 : Int))],
              []))))
      (Tree.chk
        ((True ∧ True ∧ True) ∧
          (0 : Int) ≤ IntKind.wrap IntKind.u64 a ∧ IntKind.wrap IntKind.u64 a ≤ (18446744073709551615 : Int) ∧ (0 : Int) ≤ IntKind.wrap IntKind.u64 b ∧ IntKind.wrap IntKind.u64 b ≤ (18446744073709551615 : Int))
        (Tree.br (!decide (a < (0 : Int)) == decide (b < (0 : Int)))
          (Tree.chk
            ((True ∧ True) ∧
              (-9223372036854775808 : Int) ≤ IntKind.wrap IntKind.i64 (IntKind.wrap IntKind.u64 a * IntKind.wrap IntKind.u64 b / (18446744073709551616 : Int)) ∧
                IntKind.wrap IntKind.i64 (IntKind.wrap IntKind.u64 a * IntKind.wrap IntKind.u64 b / (18446744073709551616 : Int)) ≤ (9223372036854775807 : Int) ∧
                  (0 : Int) ≤ IntKind.wrap IntKind.u64 a * IntKind.wrap IntKind.u64 b % (18446744073709551616 : Int) ∧
                    IntKind.wrap IntKind.u64 a * IntKind.wrap IntKind.u64 b % (18446744073709551616 : Int) ≤ (18446744073709551615 : Int))
            (Tree.ret
              (AV.agg
                  [AV.int IntKind.i64 false
                      (hiZ
                        (-numW (IntKind.wrap IntKind.i64 (IntKind.wrap IntKind.u64 a * IntKind.wrap IntKind.u64 b / (18446744073709551616 : Int)))
                            (IntKind.wrap IntKind.u64 a * IntKind.wrap IntKind.u64 b % (18446744073709551616 : Int)))),
                    AV.int IntKind.u64 false
                      (loZ
                        (-numW (IntKind.wrap IntKind.i64 (IntKind.wrap IntKind.u64 a * IntKind.wrap IntKind.u64 b / (18446744073709551616 : Int)))
                            (IntKind.wrap IntKind.u64 a * IntKind.wrap IntKind.u64 b % (18446744073709551616 : Int))))],
                [])))
          (Tree.ret
            (AV.agg
                [AV.int IntKind.i64 false (IntKind.wrap IntKind.i64 (IntKind.wrap IntKind.u64 a * IntKind.wrap IntKind.u64 b / (18446744073709551616 : Int))),
                  AV.int IntKind.u64 false (IntKind.wrap IntKind.u64 a * IntKind.wrap IntKind.u64 b % (18446744073709551616 : Int))],
              []))))) := by kernel_rfl
set_option maxRecDepth 100000 in
theorem gmul (a : Int) (b : Int) (hw : -9223372036854775808 ≤ a ∧ a ≤ 9223372036854775807 ∧ -9223372036854775808 ≤ b ∧ b ≤ 9223372036854775807) : (Tree.br (decide (a < (0 : Int)))
    (Tree.br (decide (b < (0 : Int)))
      (Tree.chk
        ((True ∧ True ∧ True) ∧
          (0 : Int) ≤ IntKind.wrap IntKind.u64 ((0 : Int) - IntKind.wrap IntKind.u64 a) ∧
            IntKind.wrap IntKind.u64 ((0 : Int) - IntKind.wrap IntKind.u64 a) ≤ (18446744073709551615 : Int) ∧
              (0 : Int) ≤ IntKind.wrap IntKind.u64 ((0 : Int) - IntKind.wrap IntKind.u64 b) ∧ IntKind.wrap IntKind.u64 ((0 : Int) - IntKind.wrap IntKind.u64 b) ≤ (18446744073709551615 : Int))
        (Tree.br (!decide (a < (0 : Int)) == decide (b < (0 : Int)))
          (Tree.chk
            ((True ∧ True) ∧
              (-9223372036854775808 : Int) ≤
                  IntKind.wrap IntKind.i64 (IntKind.wrap IntKind.u64 ((0 : Int) - IntKind.wrap IntKind.u64 a) * IntKind.wrap IntKind.u64 ((0 : Int) - IntKind.wrap IntKind.u64 b) / (18446744073709551616 : Int)) ∧
                IntKind.wrap IntKind.i64 (IntKind.wrap IntKind.u64 ((0 : Int) - IntKind.wrap IntKind.u64 a) * IntKind.wrap IntKind.u64 ((0 : Int) - IntKind.wrap IntKind.u64 b) / (18446744073709551616 : Int)) ≤
                    (9223372036854775807 : Int) ∧
                  (0 : Int) ≤ IntKind.wrap IntKind.u64 ((0 : Int) - IntKind.wrap IntKind.u64 a) * IntKind.wrap IntKind.u64 ((0 : Int) - IntKind.wrap IntKind.u64 b) % (18446744073709551616 : Int) ∧
                    IntKind.wrap IntKind.u64 ((0 : Int) - IntKind.wrap IntKind.u64 a) * IntKind.wrap IntKind.u64 ((0 : Int) - IntKind.wrap IntKind.u64 b) % (18446744073709551616 : Int) ≤ (18446744073709551615 : Int))
            (Tree.ret
              (AV.agg
                  [AV.int IntKind.i64 false
                      (hiZ
                        (-numW (IntKind.wrap IntKind.i64 (IntKind.wrap IntKind.u64 ((0 : Int) - IntKind.wrap IntKind.u64 a) * IntKind.wrap IntKind.u64 ((0 : Int) - IntKind.wrap IntKind.u64 b) / (18446744073709551616 : Int)))
                            (IntKind.wrap IntKind.u64 ((0 : Int) - IntKind.wrap IntKind.u64 a) * IntKind.wrap IntKind.u64 ((0 : Int) - IntKind.wrap IntKind.u64 b) % (18446744073709551616 : Int)))),
                    AV.int IntKind.u64 false
                      (loZ
                        (-numW (IntKind.wrap IntKind.i64 (IntKind.wrap IntKind.u64 ((0 : Int) - IntKind.wrap IntKind.u64 a) * IntKind.wrap IntKind.u64 ((0 : Int) - IntKind.wrap IntKind.u64 b) / (18446744073709551616 : Int)))
                            (IntKind.wrap IntKind.u64 ((0 : Int) - IntKind.wrap IntKind.u64 a) * IntKind.wrap IntKind.u64 ((0 : Int) - IntKind.wrap IntKind.u64 b) % (18446744073709551616 : Int))))],
                [])))
          (Tree.ret
            (AV.agg
                [AV.int IntKind.i64 false (IntKind.wrap IntKind.i64 (IntKind.wrap IntKind.u64 ((0 : Int) - IntKind.wrap IntKind.u64 a) * IntKind.wrap IntKind.u64 ((0 : Int) - IntKind.wrap IntKind.u64 b) / (18446744073709551616 : Int))),
                  AV.int IntKind.u64 false (IntKind.wrap IntKind.u64 ((0 : Int) - IntKind.wrap IntKind.u64 a) * IntKind.wrap IntKind.u64 ((0 : Int) - IntKind.wrap IntKind.u64 b) % (18446744073709551616 : Int))],
              []))))
      (Tree.chk
        ((True ∧ True ∧ True) ∧
          (0 : Int) ≤ IntKind.wrap IntKind.u64 ((0 : Int) - IntKind.wrap IntKind.u64 a) ∧
            IntKind.wrap IntKind.u64 ((0 : Int) - IntKind.wrap IntKind.u64 a) ≤ (18446744073709551615 : Int) ∧ (0 : Int) ≤ IntKind.wrap IntKind.u64 b ∧ IntKind.wrap IntKind.u64 b ≤ (18446744073709551615 : Int))
        (Tree.br (!decide (a < (0 : Int)) == decide (b < (0 : Int)))
          (Tree.chk
            ((True ∧ True) ∧
              (-9223372036854775808 : Int) ≤ IntKind.wrap IntKind.i64 (IntKind.wrap IntKind.u64 ((0 : Int) - IntKind.wrap IntKind.u64 a) * IntKind.wrap IntKind.u64 b / (18446744073709551616 : Int)) ∧
                IntKind.wrap IntKind.i64 (IntKind.wrap IntKind.u64 ((0 : Int) - IntKind.wrap IntKind.u64 a) * IntKind.wrap IntKind.u64 b / (18446744073709551616 : Int)) ≤ (9223372036854775807 : Int) ∧
                  (0 : Int) ≤ IntKind.wrap IntKind.u64 ((0 : Int) - IntKind.wrap IntKind.u64 a) * IntKind.wrap IntKind.u64 b % (18446744073709551616 : Int) ∧
                    IntKind.wrap IntKind.u64 ((0 : Int) - IntKind.wrap IntKind.u64 a) * IntKind.wrap IntKind.u64 b % (18446744073709551616 : Int) ≤ (18446744073709551615 : Int))
            (Tree.ret
              (AV.agg
                  [AV.int IntKind.i64 false
                      (hiZ
                        (-numW (IntKind.wrap IntKind.i64 (IntKind.wrap IntKind.u64 ((0 : Int) - IntKind.wrap IntKind.u64 a) * IntKind.wrap IntKind.u64 b / (18446744073709551616 : Int)))
                            (IntKind.wrap IntKind.u64 ((0 : Int) - IntKind.wrap IntKind.u64 a) * IntKind.wrap IntKind.u64 b % (18446744073709551616 : Int)))),
                    AV.int IntKind.u64 false
                      (loZ
                        (-numW (IntKind.wrap IntKind.i64 (IntKind.wrap IntKind.u64 ((0 : Int) - IntKind.wrap IntKind.u64 a) * IntKind.wrap IntKind.u64 b / (18446744073709551616 : Int)))
                            (IntKind.wrap IntKind.u64 ((0 : Int) - IntKind.wrap IntKind.u64 a) * IntKind.wrap IntKind.u64 b % (18446744073709551616 : Int))))],
                [])))
          (Tree.ret
            (AV.agg
                [AV.int IntKind.i64 false (IntKind.wrap IntKind.i64 (IntKind.wrap IntKind.u64 ((0 : Int) - IntKind.wrap IntKind.u64 a) * IntKind.wrap IntKind.u64 b / (18446744073709551616 : Int))),
                  AV.int IntKind.u64 false (IntKind.wrap IntKind.u64 ((0 : Int) - IntKind.wrap IntKind.u64 a) * IntKind.wrap IntKind.u64 b % (18446744073709551616 : Int))],
              [])))))
    (Tree.br (decide (b < (0 : Int)))
      (Tree.chk
        ((True ∧ True ∧ True) ∧
          (0 : Int) ≤ IntKind.wrap IntKind.u64 a ∧
            IntKind.wrap IntKind.u64 a ≤ (18446744073709551615 : Int) ∧
              (0 : Int) ≤ IntKind.wrap IntKind.u64 ((0 : Int) - IntKind.wrap IntKind.u64 b) ∧ IntKind.wrap IntKind.u64 ((0 : Int) - IntKind.wrap IntKind.u64 b) ≤ (18446744073709551615 : Int))
        (Tree.br (!decide (a < (0 : Int)) == decide (b < (0 : Int)))
          (Tree.chk
            ((True ∧ True) ∧
              (-9223372036854775808 : Int) ≤ IntKind.wrap IntKind.i64 (IntKind.wrap IntKind.u64 a * IntKind.wrap IntKind.u64 ((0 : Int) - IntKind.wrap IntKind.u64 b) / (18446744073709551616 : Int)) ∧
                IntKind.wrap IntKind.i64 (IntKind.wrap IntKind.u64 a * IntKind.wrap IntKind.u64 ((0 : Int) - IntKind.wrap IntKind.u64 b) / (18446744073709551616 : Int)) ≤ (9223372036854775807 : Int) ∧
                  (0 : Int) ≤ IntKind.wrap IntKind.u64 a * IntKind.wrap IntKind.u64 ((0 : Int) - IntKind.wrap IntKind.u64 b) % (18446744073709551616 : Int) ∧
                    IntKind.wrap IntKind.u64 a * IntKind.wrap IntKind.u64 ((0 : Int) - IntKind.wrap IntKind.u64 b) % (18446744073709551616 : Int) ≤ (18446744073709551615 : Int))
            (Tree.ret
              (AV.agg
                  [AV.int IntKind.i64 false
                      (hiZ
                        (-numW (IntKind.wrap IntKind.i64 (IntKind.wrap IntKind.u64 a * IntKind.wrap IntKind.u64 ((0 : Int) - IntKind.wrap IntKind.u64 b) / (18446744073709551616 : Int)))
                            (IntKind.wrap IntKind.u64 a * IntKind.wrap IntKind.u64 ((0 : Int) - IntKind.wrap IntKind.u64 b) % (18446744073709551616 : Int)))),
                    AV.int IntKind.u64 false
                      (loZ
                        (-numW (IntKind.wrap IntKind.i64 (IntKind.wrap IntKind.u64 a * IntKind.wrap IntKind.u64 ((0 : Int) - IntKind.wrap IntKind.u64 b) / (18446744073709551616 : Int)))
                            (IntKind.wrap IntKind.u64 a * IntKind.wrap IntKind.u64 ((0 : Int) - IntKind.wrap IntKind.u64 b) % (18446744073709551616 : Int))))],
                [])))
          (Tree.ret
            (AV.agg
                [AV.int IntKind.i64 false (IntKind.wrap IntKind.i64 (IntKind.wrap IntKind.u64 a * IntKind.wrap IntKind.u64 ((0 : Int) - IntKind.wrap IntKind.u64 b) / (18446744073709551616 : Int))),
                  AV.int IntKind.u64 false (IntKind.wrap IntKind.u64 a * IntKind.wrap IntKind.u64 ((0 : Int) - IntKind.wrap IntKind.u64 b) % (18446744073709551616 : Int))],
              []))))
      (Tree.chk
        ((True ∧ True ∧ True) ∧
          (0 : Int) ≤ IntKind.wrap IntKind.u64 a ∧ IntKind.wrap IntKind.u64 a ≤ (18446744073709551615 : Int) ∧ (0 : Int) ≤ IntKind.wrap IntKind.u64 b ∧ IntKind.wrap IntKind.u64 b ≤ (18446744073709551615 : Int))
        (Tree.br (!decide (a < (0 : Int)) == decide (b < (0 : Int)))
          (Tree.chk
            ((True ∧ True) ∧
              (-9223372036854775808 : Int) ≤ IntKind.wrap IntKind.i64 (IntKind.wrap IntKind.u64 a * IntKind.wrap IntKind.u64 b / (18446744073709551616 : Int)) ∧
                IntKind.wrap IntKind.i64 (IntKind.wrap IntKind.u64 a * IntKind.wrap IntKind.u64 b / (18446744073709551616 : Int)) ≤ (9223372036854775807 : Int) ∧
                  (0 : Int) ≤ IntKind.wrap IntKind.u64 a * IntKind.wrap IntKind.u64 b % (18446744073709551616 : Int) ∧
                    IntKind.wrap IntKind.u64 a * IntKind.wrap IntKind.u64 b % (18446744073709551616 : Int) ≤ (18446744073709551615 : Int))
            (Tree.ret
              (AV.agg
                  [AV.int IntKind.i64 false
                      (hiZ
                        (-numW (IntKind.wrap IntKind.i64 (IntKind.wrap IntKind.u64 a * IntKind.wrap IntKind.u64 b / (18446744073709551616 : Int)))
                            (IntKind.wrap IntKind.u64 a * IntKind.wrap IntKind.u64 b % (18446744073709551616 : Int)))),
                    AV.int IntKind.u64 false
                      (loZ
                        (-numW (IntKind.wrap IntKind.i64 (IntKind.wrap IntKind.u64 a * IntKind.wrap IntKind.u64 b / (18446744073709551616 : Int)))
                            (IntKind.wrap IntKind.u64 a * IntKind.wrap IntKind.u64 b % (18446744073709551616 : Int))))],
                [])))
          (Tree.ret
            (AV.agg
                [AV.int IntKind.i64 false (IntKind.wrap IntKind.i64 (IntKind.wrap IntKind.u64 a * IntKind.wrap IntKind.u64 b / (18446744073709551616 : Int))),
                  AV.int IntKind.u64 false (IntKind.wrap IntKind.u64 a * IntKind.wrap IntKind.u64 b % (18446744073709551616 : Int))],
              []))))) : Tree (AV × Mem)).GivesP (.agg [.int .i64 false (hiZ (a * b)), .int .u64 false (loZ (a * b))]) ([]) := by
  obtain ⟨a0, a1, b0, b1⟩ := hw
  have ea : (a < 0 → IntKind.u64.wrap (0 - IntKind.u64.wrap a) = -a) ∧ (0 ≤ a → IntKind.u64.wrap a = a) := by simp only [wu64]; omega
  have eb : (b < 0 → IntKind.u64.wrap (0 - IntKind.u64.wrap b) = -b) ∧ (0 ≤ b → IntKind.u64.wrap b = b) := by simp only [wu64]; omega
  have bd := mul_bound a0 a1 b0 b1
  refine Tree.GivesP.br (fun h1 => ?_) (fun h1 => ?_)
  · (try simp only [decide_eq_true_eq, decide_eq_false_iff_not, Bool.not_eq_true', Bool.not_eq_false', beq_iff_eq, beq_eq_false_iff_ne, Int.not_lt, Int.not_le, ge_iff_le, gt_iff_lt, ne_eq, Bool.false_eq_true, Bool.true_eq_false, not_true_eq_false, not_false_eq_true, Bool.and_eq_true, Bool.not_eq_eq_eq_not, Bool.not_true, Bool.not_false, bne_iff_ne, bne_eq_false_iff_eq, Int.toNat_natCast, Nat.mul_one, Nat.add_zero, Nat.zero_add, List.take_length, List.drop_zero] at h1)
    all_goals
      refine Tree.GivesP.br (fun h2 => ?_) (fun h2 => ?_)
      · (try simp only [decide_eq_true_eq, decide_eq_false_iff_not, Bool.not_eq_true', Bool.not_eq_false', beq_iff_eq, beq_eq_false_iff_ne, Int.not_lt, Int.not_le, ge_iff_le, gt_iff_lt, ne_eq, Bool.false_eq_true, Bool.true_eq_false, not_true_eq_false, not_false_eq_true, Bool.and_eq_true, Bool.not_eq_eq_eq_not, Bool.not_true, Bool.not_false, bne_iff_ne, bne_eq_false_iff_eq, Int.toNat_natCast, Nat.mul_one, Nat.add_zero, Nat.zero_add, List.take_length, List.drop_zero] at h2)
        all_goals
          refine Tree.GivesP.chk (by first | (simp only [and_self]; done) | ((repeat' with_reducible refine And.intro ?_ ?_) <;> first | trivial | omega | (simp only [w64, wu64]; omega))) ?_
          refine Tree.GivesP.br (fun h3 => ?_) (fun h3 => ?_)
          · (try simp only [decide_eq_true_eq, decide_eq_false_iff_not, Bool.not_eq_true', Bool.not_eq_false', beq_iff_eq, beq_eq_false_iff_ne, Int.not_lt, Int.not_le, ge_iff_le, gt_iff_lt, ne_eq, Bool.false_eq_true, Bool.true_eq_false, not_true_eq_false, not_false_eq_true, Bool.and_eq_true, Bool.not_eq_eq_eq_not, Bool.not_true, Bool.not_false, bne_iff_ne, bne_eq_false_iff_eq, Int.toNat_natCast, Nat.mul_one, Nat.add_zero, Nat.zero_add, List.take_length, List.drop_zero] at h3)
            all_goals
              refine Tree.GivesP.chk (by first | (simp only [and_self]; done) | ((repeat' with_reducible refine And.intro ?_ ?_) <;> first | trivial | omega | (simp only [w64, wu64]; omega))) ?_
              refine Tree.GivesP.ret ?_ ?_
              all_goals exfalso
              all_goals (have k1 : decide (a < 0) = true := by simp; omega)
              all_goals (have k2 : decide (b < 0) = true := by simp; omega)
              all_goals (rw [k1, k2] at h3; revert h3; decide)
          · (try simp only [decide_eq_true_eq, decide_eq_false_iff_not, Bool.not_eq_true', Bool.not_eq_false', beq_iff_eq, beq_eq_false_iff_ne, Int.not_lt, Int.not_le, ge_iff_le, gt_iff_lt, ne_eq, Bool.false_eq_true, Bool.true_eq_false, not_true_eq_false, not_false_eq_true, Bool.and_eq_true, Bool.not_eq_eq_eq_not, Bool.not_true, Bool.not_false, bne_iff_ne, bne_eq_false_iff_eq, Int.toNat_natCast, Nat.mul_one, Nat.add_zero, Nat.zero_add, List.take_length, List.drop_zero] at h3)
            all_goals
              refine Tree.GivesP.ret ?_ ?_
              · simp only [AV.le, AV.leL, true_and, and_true]
                rw [ea.1 h1, eb.1 h2, Int.neg_mul_neg]
                exact ⟨rfl, rfl⟩
              · simp only [AV.leL, AV.le, Mem.le, Mem.leP, Blk.le, Blk.pad, Data.le, Data.size, Cap.le, and_true, true_and, and_self, true_implies, implies_true, imp_self, List.length_nil]
      · (try simp only [decide_eq_true_eq, decide_eq_false_iff_not, Bool.not_eq_true', Bool.not_eq_false', beq_iff_eq, beq_eq_false_iff_ne, Int.not_lt, Int.not_le, ge_iff_le, gt_iff_lt, ne_eq, Bool.false_eq_true, Bool.true_eq_false, not_true_eq_false, not_false_eq_true, Bool.and_eq_true, Bool.not_eq_eq_eq_not, Bool.not_true, Bool.not_false, bne_iff_ne, bne_eq_false_iff_eq, Int.toNat_natCast, Nat.mul_one, Nat.add_zero, Nat.zero_add, List.take_length, List.drop_zero] at h2)
        all_goals
          refine Tree.GivesP.chk (by first | (simp only [and_self]; done) | ((repeat' with_reducible refine And.intro ?_ ?_) <;> first | trivial | omega | (simp only [w64, wu64]; omega))) ?_
          refine Tree.GivesP.br (fun h3 => ?_) (fun h3 => ?_)
          · (try simp only [decide_eq_true_eq, decide_eq_false_iff_not, Bool.not_eq_true', Bool.not_eq_false', beq_iff_eq, beq_eq_false_iff_ne, Int.not_lt, Int.not_le, ge_iff_le, gt_iff_lt, ne_eq, Bool.false_eq_true, Bool.true_eq_false, not_true_eq_false, not_false_eq_true, Bool.and_eq_true, Bool.not_eq_eq_eq_not, Bool.not_true, Bool.not_false, bne_iff_ne, bne_eq_false_iff_eq, Int.toNat_natCast, Nat.mul_one, Nat.add_zero, Nat.zero_add, List.take_length, List.drop_zero] at h3)
            all_goals
              refine Tree.GivesP.chk (by first | (simp only [and_self]; done) | ((repeat' with_reducible refine And.intro ?_ ?_) <;> first | trivial | omega | (simp only [w64, wu64]; omega))) ?_
              refine Tree.GivesP.ret ?_ ?_
              · simp only [AV.le, AV.leL, true_and, and_true]
                rw [ea.1 h1, eb.2 (by omega)]
                have e := num_hilo (n := -a * b) (by rw [Int.neg_mul]; omega) (by rw [Int.neg_mul]; omega)
                unfold hiZ loZ at e
                rw [e, Int.neg_mul, Int.neg_neg]
                exact ⟨rfl, rfl⟩
              · simp only [AV.leL, AV.le, Mem.le, Mem.leP, Blk.le, Blk.pad, Data.le, Data.size, Cap.le, and_true, true_and, and_self, true_implies, implies_true, imp_self, List.length_nil]
          · (try simp only [decide_eq_true_eq, decide_eq_false_iff_not, Bool.not_eq_true', Bool.not_eq_false', beq_iff_eq, beq_eq_false_iff_ne, Int.not_lt, Int.not_le, ge_iff_le, gt_iff_lt, ne_eq, Bool.false_eq_true, Bool.true_eq_false, not_true_eq_false, not_false_eq_true, Bool.and_eq_true, Bool.not_eq_eq_eq_not, Bool.not_true, Bool.not_false, bne_iff_ne, bne_eq_false_iff_eq, Int.toNat_natCast, Nat.mul_one, Nat.add_zero, Nat.zero_add, List.take_length, List.drop_zero] at h3)
            all_goals
              refine Tree.GivesP.ret ?_ ?_
              all_goals exfalso
              all_goals (have k1 : decide (a < 0) = true := by simp; omega)
              all_goals (have k2 : decide (b < 0) = false := by simp; omega)
              all_goals (rw [k1, k2] at h3; revert h3; decide)
  · (try simp only [decide_eq_true_eq, decide_eq_false_iff_not, Bool.not_eq_true', Bool.not_eq_false', beq_iff_eq, beq_eq_false_iff_ne, Int.not_lt, Int.not_le, ge_iff_le, gt_iff_lt, ne_eq, Bool.false_eq_true, Bool.true_eq_false, not_true_eq_false, not_false_eq_true, Bool.and_eq_true, Bool.not_eq_eq_eq_not, Bool.not_true, Bool.not_false, bne_iff_ne, bne_eq_false_iff_eq, Int.toNat_natCast, Nat.mul_one, Nat.add_zero, Nat.zero_add, List.take_length, List.drop_zero] at h1)
    all_goals
      refine Tree.GivesP.br (fun h2 => ?_) (fun h2 => ?_)
      · (try simp only [decide_eq_true_eq, decide_eq_false_iff_not, Bool.not_eq_true', Bool.not_eq_false', beq_iff_eq, beq_eq_false_iff_ne, Int.not_lt, Int.not_le, ge_iff_le, gt_iff_lt, ne_eq, Bool.false_eq_true, Bool.true_eq_false, not_true_eq_false, not_false_eq_true, Bool.and_eq_true, Bool.not_eq_eq_eq_not, Bool.not_true, Bool.not_false, bne_iff_ne, bne_eq_false_iff_eq, Int.toNat_natCast, Nat.mul_one, Nat.add_zero, Nat.zero_add, List.take_length, List.drop_zero] at h2)
        all_goals
          refine Tree.GivesP.chk (by first | (simp only [and_self]; done) | ((repeat' with_reducible refine And.intro ?_ ?_) <;> first | trivial | omega | (simp only [w64, wu64]; omega))) ?_
          refine Tree.GivesP.br (fun h3 => ?_) (fun h3 => ?_)
          · (try simp only [decide_eq_true_eq, decide_eq_false_iff_not, Bool.not_eq_true', Bool.not_eq_false', beq_iff_eq, beq_eq_false_iff_ne, Int.not_lt, Int.not_le, ge_iff_le, gt_iff_lt, ne_eq, Bool.false_eq_true, Bool.true_eq_false, not_true_eq_false, not_false_eq_true, Bool.and_eq_true, Bool.not_eq_eq_eq_not, Bool.not_true, Bool.not_false, bne_iff_ne, bne_eq_false_iff_eq, Int.toNat_natCast, Nat.mul_one, Nat.add_zero, Nat.zero_add, List.take_length, List.drop_zero] at h3)
            all_goals
              refine Tree.GivesP.chk (by first | (simp only [and_self]; done) | ((repeat' with_reducible refine And.intro ?_ ?_) <;> first | trivial | omega | (simp only [w64, wu64]; omega))) ?_
              refine Tree.GivesP.ret ?_ ?_
              · simp only [AV.le, AV.leL, true_and, and_true]
                rw [ea.2 (by omega), eb.1 h2]
                have e := num_hilo (n := a * -b) (by rw [Int.mul_neg]; omega) (by rw [Int.mul_neg]; omega)
                unfold hiZ loZ at e
                rw [e, Int.mul_neg, Int.neg_neg]
                exact ⟨rfl, rfl⟩
              · simp only [AV.leL, AV.le, Mem.le, Mem.leP, Blk.le, Blk.pad, Data.le, Data.size, Cap.le, and_true, true_and, and_self, true_implies, implies_true, imp_self, List.length_nil]
          · (try simp only [decide_eq_true_eq, decide_eq_false_iff_not, Bool.not_eq_true', Bool.not_eq_false', beq_iff_eq, beq_eq_false_iff_ne, Int.not_lt, Int.not_le, ge_iff_le, gt_iff_lt, ne_eq, Bool.false_eq_true, Bool.true_eq_false, not_true_eq_false, not_false_eq_true, Bool.and_eq_true, Bool.not_eq_eq_eq_not, Bool.not_true, Bool.not_false, bne_iff_ne, bne_eq_false_iff_eq, Int.toNat_natCast, Nat.mul_one, Nat.add_zero, Nat.zero_add, List.take_length, List.drop_zero] at h3)
            all_goals
              refine Tree.GivesP.ret ?_ ?_
              all_goals exfalso
              all_goals (have k1 : decide (a < 0) = false := by simp; omega)
              all_goals (have k2 : decide (b < 0) = true := by simp; omega)
              all_goals (rw [k1, k2] at h3; revert h3; decide)
      · (try simp only [decide_eq_true_eq, decide_eq_false_iff_not, Bool.not_eq_true', Bool.not_eq_false', beq_iff_eq, beq_eq_false_iff_ne, Int.not_lt, Int.not_le, ge_iff_le, gt_iff_lt, ne_eq, Bool.false_eq_true, Bool.true_eq_false, not_true_eq_false, not_false_eq_true, Bool.and_eq_true, Bool.not_eq_eq_eq_not, Bool.not_true, Bool.not_false, bne_iff_ne, bne_eq_false_iff_eq, Int.toNat_natCast, Nat.mul_one, Nat.add_zero, Nat.zero_add, List.take_length, List.drop_zero] at h2)
        all_goals
          refine Tree.GivesP.chk (by first | (simp only [and_self]; done) | ((repeat' with_reducible refine And.intro ?_ ?_) <;> first | trivial | omega | (simp only [w64, wu64]; omega))) ?_
          refine Tree.GivesP.br (fun h3 => ?_) (fun h3 => ?_)
          · (try simp only [decide_eq_true_eq, decide_eq_false_iff_not, Bool.not_eq_true', Bool.not_eq_false', beq_iff_eq, beq_eq_false_iff_ne, Int.not_lt, Int.not_le, ge_iff_le, gt_iff_lt, ne_eq, Bool.false_eq_true, Bool.true_eq_false, not_true_eq_false, not_false_eq_true, Bool.and_eq_true, Bool.not_eq_eq_eq_not, Bool.not_true, Bool.not_false, bne_iff_ne, bne_eq_false_iff_eq, Int.toNat_natCast, Nat.mul_one, Nat.add_zero, Nat.zero_add, List.take_length, List.drop_zero] at h3)
            all_goals
              refine Tree.GivesP.chk (by first | (simp only [and_self]; done) | ((repeat' with_reducible refine And.intro ?_ ?_) <;> first | trivial | omega | (simp only [w64, wu64]; omega))) ?_
              refine Tree.GivesP.ret ?_ ?_
              all_goals exfalso
              all_goals (have k1 : decide (a < 0) = false := by simp; omega)
              all_goals (have k2 : decide (b < 0) = false := by simp; omega)
              all_goals (rw [k1, k2] at h3; revert h3; decide)
          · (try simp only [decide_eq_true_eq, decide_eq_false_iff_not, Bool.not_eq_true', Bool.not_eq_false', beq_iff_eq, beq_eq_false_iff_ne, Int.not_lt, Int.not_le, ge_iff_le, gt_iff_lt, ne_eq, Bool.false_eq_true, Bool.true_eq_false, not_true_eq_false, not_false_eq_true, Bool.and_eq_true, Bool.not_eq_eq_eq_not, Bool.not_true, Bool.not_false, bne_iff_ne, bne_eq_false_iff_eq, Int.toNat_natCast, Nat.mul_one, Nat.add_zero, Nat.zero_add, List.take_length, List.drop_zero] at h3)
            all_goals
              refine Tree.GivesP.ret ?_ ?_
              · simp only [AV.le, AV.leL, true_and, and_true]
                rw [ea.2 (by omega), eb.2 (by omega)]
                exact ⟨rfl, rfl⟩
              · simp only [AV.leL, AV.le, Mem.le, Mem.leP, Blk.le, Blk.pad, Data.le, Data.size, Cap.le, and_true, true_and, and_self, true_implies, implies_true, imp_self, List.length_nil]
theorem smul (hall : AllOk Try.prog 0 (fun _ => none) tab5) (a : Int) (b : Int) (hw : -9223372036854775808 ≤ a ∧ a ≤ 9223372036854775807 ∧ -9223372036854775808 ≤ b ∧ b ≤ 9223372036854775807) : SoundAt (mkC Try.prog 0 (fun _ => none) []) 53 [.int .i64 false a, .int .i64 false b] [] (.agg [.int .i64 false (hiZ (a * b)), .int .u64 false (loZ (a * b))], []) := sound_ofP hall mix (tmul a b) (gmul a b hw)
theorem Fmul_ok (hall : AllOk Try.prog 0 (fun _ => none) tab5) : PureF Try.prog 3 53 Fmul := by
  intro xs c v news h hc
  unfold Fmul at h
  split at h
  · rename_i _ a _ b
    cases h
    refine ⟨(by intro b hb; cases hb), SoundAt.flags (smul hall a b hc) ?_⟩
    simp [PA.avs, AV.le, AV.leL, Cap.le]
  · cases h
end Go.Proofs.Ytoihhmpmlbdeiaa.Rig

/- Qnear -/
namespace Go.Proofs.Ytoihhmpmlbdeiaa.Rig
open Go
set_option maxRecDepth 100000 in
theorem tnear (h : Int) (l : Int) (c : Int) : evBody (mkC Try.prog 0 (fun _ => none) tab6) (evCall (mkC Try.prog 0 (fun _ => none) tab6) 50) 52 [.agg [.int .i64 false h, .int .u64 false l], .int .i64 false c] [] =
  Tree.br (decide (c < (1 : Int))) (Tree.ret (AV.tup [AV.int IntKind.i64 true (0 : Int), AV.int IntKind.i64 true (2 : Int)], []))
    (Tree.chk
      ((True ∧ True ∧ True) ∧
        (-9223372036854775808 : Int) ≤ h ∧
          h ≤ (9223372036854775807 : Int) ∧ (0 : Int) ≤ l ∧ l ≤ (18446744073709551615 : Int) ∧ (0 : Int) ≤ IntKind.wrap IntKind.u64 c ∧ IntKind.wrap IntKind.u64 c ≤ (18446744073709551615 : Int))
      (Tree.br (!byOk (IntKind.wrap IntKind.u64 c) (numW h l)) (Tree.ret (AV.tup [AV.int IntKind.i64 true (0 : Int), AV.int IntKind.i64 true (3 : Int)], []))
        (Tree.br (decide (byQ (IntKind.wrap IntKind.u64 c) (numW h l) > (9223372036854775808 : Int))) (Tree.ret (AV.tup [AV.int IntKind.i64 true (0 : Int), AV.int IntKind.i64 true (3 : Int)], []))
          (Tree.br (decide (byR (IntKind.wrap IntKind.u64 c) (numW h l) ≥ IntKind.wrap IntKind.u64 (IntKind.wrap IntKind.u64 c - byR (IntKind.wrap IntKind.u64 c) (numW h l))))
            (Tree.br (decide (h < (0 : Int)))
              (Tree.br (!decide (IntKind.wrap IntKind.u64 (byQ (IntKind.wrap IntKind.u64 c) (numW h l) + (1 : Int)) ≤ (9223372036854775808 : Int)))
                (Tree.ret (AV.tup [AV.int IntKind.i64 true (0 : Int), AV.int IntKind.i64 true (3 : Int)], []))
                (Tree.ret
                  (AV.tup
                      [AV.int IntKind.i64 false (IntKind.wrap IntKind.i64 (IntKind.wrap IntKind.u64 ((0 : Int) - IntKind.wrap IntKind.u64 (byQ (IntKind.wrap IntKind.u64 c) (numW h l) + (1 : Int))))),
                        AV.int IntKind.i64 true (0 : Int)],
                    [])))
              (Tree.br (!decide (IntKind.wrap IntKind.u64 (byQ (IntKind.wrap IntKind.u64 c) (numW h l) + (1 : Int)) < (9223372036854775808 : Int)))
                (Tree.ret (AV.tup [AV.int IntKind.i64 true (0 : Int), AV.int IntKind.i64 true (3 : Int)], []))
                (Tree.ret (AV.tup [AV.int IntKind.i64 false (IntKind.wrap IntKind.i64 (IntKind.wrap IntKind.u64 (byQ (IntKind.wrap IntKind.u64 c) (numW h l) + (1 : Int)))), AV.int IntKind.i64 true (0 : Int)], []))))
            (Tree.br (decide (h < (0 : Int)))
              (Tree.br (!decide (byQ (IntKind.wrap IntKind.u64 c) (numW h l) ≤ (9223372036854775808 : Int))) (Tree.ret (AV.tup [AV.int IntKind.i64 true (0 : Int), AV.int IntKind.i64 true (3 : Int)], []))
                (Tree.ret (AV.tup [AV.int IntKind.i64 false (IntKind.wrap IntKind.i64 (IntKind.wrap IntKind.u64 ((0 : Int) - byQ (IntKind.wrap IntKind.u64 c) (numW h l)))), AV.int IntKind.i64 true (0 : Int)], [])))
              (Tree.br (!decide (byQ (IntKind.wrap IntKind.u64 c) (numW h l) < (9223372036854775808 : Int))) (Tree.ret (AV.tup [AV.int IntKind.i64 true (0 : Int), AV.int IntKind.i64 true (3 : Int)], []))
                (Tree.ret (AV.tup [AV.int IntKind.i64 false (IntKind.wrap IntKind.i64 (byQ (IntKind.wrap IntKind.u64 c) (numW h l))), AV.int IntKind.i64 true (0 : Int)], [])))))))) := by kernel_rfl
set_option maxRecDepth 100000 in
theorem gnear (h : Int) (l : Int) (c : Int) (hw : -9223372036854775808 ≤ h ∧ h ≤ 9223372036854775807 ∧ -9223372036854775808 ≤ c ∧ c ≤ 9223372036854775807 ∧ 0 ≤ l ∧ l ≤ 18446744073709551615) : (Tree.br (decide (c < (1 : Int))) (Tree.ret (AV.tup [AV.int IntKind.i64 true (0 : Int), AV.int IntKind.i64 true (2 : Int)], []))
    (Tree.chk
      ((True ∧ True ∧ True) ∧
        (-9223372036854775808 : Int) ≤ h ∧
          h ≤ (9223372036854775807 : Int) ∧ (0 : Int) ≤ l ∧ l ≤ (18446744073709551615 : Int) ∧ (0 : Int) ≤ IntKind.wrap IntKind.u64 c ∧ IntKind.wrap IntKind.u64 c ≤ (18446744073709551615 : Int))
      (Tree.br (!byOk (IntKind.wrap IntKind.u64 c) (numW h l)) (Tree.ret (AV.tup [AV.int IntKind.i64 true (0 : Int), AV.int IntKind.i64 true (3 : Int)], []))
        (Tree.br (decide (byQ (IntKind.wrap IntKind.u64 c) (numW h l) > (9223372036854775808 : Int))) (Tree.ret (AV.tup [AV.int IntKind.i64 true (0 : Int), AV.int IntKind.i64 true (3 : Int)], []))
          (Tree.br (decide (byR (IntKind.wrap IntKind.u64 c) (numW h l) ≥ IntKind.wrap IntKind.u64 (IntKind.wrap IntKind.u64 c - byR (IntKind.wrap IntKind.u64 c) (numW h l))))
            (Tree.br (decide (h < (0 : Int)))
              (Tree.br (!decide (IntKind.wrap IntKind.u64 (byQ (IntKind.wrap IntKind.u64 c) (numW h l) + (1 : Int)) ≤ (9223372036854775808 : Int)))
                (Tree.ret (AV.tup [AV.int IntKind.i64 true (0 : Int), AV.int IntKind.i64 true (3 : Int)], []))
                (Tree.ret
                  (AV.tup
                      [AV.int IntKind.i64 false (IntKind.wrap IntKind.i64 (IntKind.wrap IntKind.u64 ((0 : Int) - IntKind.wrap IntKind.u64 (byQ (IntKind.wrap IntKind.u64 c) (numW h l) + (1 : Int))))),
                        AV.int IntKind.i64 true (0 : Int)],
                    [])))
              (Tree.br (!decide (IntKind.wrap IntKind.u64 (byQ (IntKind.wrap IntKind.u64 c) (numW h l) + (1 : Int)) < (9223372036854775808 : Int)))
                (Tree.ret (AV.tup [AV.int IntKind.i64 true (0 : Int), AV.int IntKind.i64 true (3 : Int)], []))
                (Tree.ret (AV.tup [AV.int IntKind.i64 false (IntKind.wrap IntKind.i64 (IntKind.wrap IntKind.u64 (byQ (IntKind.wrap IntKind.u64 c) (numW h l) + (1 : Int)))), AV.int IntKind.i64 true (0 : Int)], []))))
            (Tree.br (decide (h < (0 : Int)))
              (Tree.br (!decide (byQ (IntKind.wrap IntKind.u64 c) (numW h l) ≤ (9223372036854775808 : Int))) (Tree.ret (AV.tup [AV.int IntKind.i64 true (0 : Int), AV.int IntKind.i64 true (3 : Int)], []))
                (Tree.ret (AV.tup [AV.int IntKind.i64 false (IntKind.wrap IntKind.i64 (IntKind.wrap IntKind.u64 ((0 : Int) - byQ (IntKind.wrap IntKind.u64 c) (numW h l)))), AV.int IntKind.i64 true (0 : Int)], [])))
              (Tree.br (!decide (byQ (IntKind.wrap IntKind.u64 c) (numW h l) < (9223372036854775808 : Int))) (Tree.ret (AV.tup [AV.int IntKind.i64 true (0 : Int), AV.int IntKind.i64 true (3 : Int)], []))
                (Tree.ret (AV.tup [AV.int IntKind.i64 false (IntKind.wrap IntKind.i64 (byQ (IntKind.wrap IntKind.u64 c) (numW h l))), AV.int IntKind.i64 true (0 : Int)], [])))))))) : Tree (AV × Mem)).GivesP (.tup [.int .i64 false (quoV c (nearZ (numW h l) c)), .int .i64 false (quoE c (nearZ (numW h l) c))]) ([]) := by
  obtain ⟨h0, h1_, c0, c1, l0, l1⟩ := hw
  refine Tree.GivesP.br (fun h1 => ?_) (fun h1 => ?_)
  · (try simp only [decide_eq_true_eq, decide_eq_false_iff_not, Bool.not_eq_true', Bool.not_eq_false', beq_iff_eq, beq_eq_false_iff_ne, Int.not_lt, Int.not_le, ge_iff_le, gt_iff_lt, ne_eq, Bool.false_eq_true, Bool.true_eq_false, not_true_eq_false, not_false_eq_true, Bool.and_eq_true, Bool.not_eq_eq_eq_not, Bool.not_true, Bool.not_false, bne_iff_ne, bne_eq_false_iff_eq, Int.toNat_natCast, Nat.mul_one, Nat.add_zero, Nat.zero_add, List.take_length, List.drop_zero] at h1)
    all_goals
      refine Tree.GivesP.ret ?_ ?_
      · simp only [AV.le, AV.leL, true_and, and_true, quoV, quoE]; rw [if_pos h1, if_pos h1]; exact ⟨rfl, rfl⟩
      · simp only [AV.leL, AV.le, Mem.le, Mem.leP, Blk.le, Blk.pad, Data.le, Data.size, Cap.le, and_true, true_and, and_self, true_implies, implies_true, imp_self, List.length_nil]
  · (try simp only [decide_eq_true_eq, decide_eq_false_iff_not, Bool.not_eq_true', Bool.not_eq_false', beq_iff_eq, beq_eq_false_iff_ne, Int.not_lt, Int.not_le, ge_iff_le, gt_iff_lt, ne_eq, Bool.false_eq_true, Bool.true_eq_false, not_true_eq_false, not_false_eq_true, Bool.and_eq_true, Bool.not_eq_eq_eq_not, Bool.not_true, Bool.not_false, bne_iff_ne, bne_eq_false_iff_eq, Int.toNat_natCast, Nat.mul_one, Nat.add_zero, Nat.zero_add, List.take_length, List.drop_zero] at h1)
    all_goals
      refine Tree.GivesP.chk (by first | (simp only [and_self]; done) | ((have hcw : 1 ≤ c := by omega); (repeat' with_reducible refine And.intro ?_ ?_) <;> first | trivial | omega | (simp only [w64, wu64]; omega))) ?_
      refine Tree.GivesP.br (fun h2 => ?_) (fun h2 => ?_)
      · (try simp only [decide_eq_true_eq, decide_eq_false_iff_not, Bool.not_eq_true', Bool.not_eq_false', beq_iff_eq, beq_eq_false_iff_ne, Int.not_lt, Int.not_le, ge_iff_le, gt_iff_lt, ne_eq, Bool.false_eq_true, Bool.true_eq_false, not_true_eq_false, not_false_eq_true, Bool.and_eq_true, Bool.not_eq_eq_eq_not, Bool.not_true, Bool.not_false, bne_iff_ne, bne_eq_false_iff_eq, Int.toNat_natCast, Nat.mul_one, Nat.add_zero, Nat.zero_add, List.take_length, List.drop_zero] at h2)
        all_goals
          refine Tree.GivesP.ret ?_ ?_
          have hc : 1 ≤ c := by omega
          have hcw : IntKind.u64.wrap c = c := by rw [wu64]; omega
          obtain ⟨g1, g2, g3, g4, g5, g6, g7, g8, g9, g10, g11⟩ := down_facts (N := numW h l) hc
          have hsg : numW h l < 0 ↔ h < 0 := by unfold numW; omega
          (try simp only [hcw] at *)
          have k3 := g2 h2
          generalize absZ (numW h l) / c = q at *
          generalize absZ (numW h l) % c = r at *
          generalize nearZ (numW h l) c = X at *
          (try simp only [wu64, w64] at *)
          · simp only [AV.le, AV.leL, true_and, and_true, quoV, quoE, fitB, decide_eq_true_eq]
            refine ⟨?_, ?_⟩ <;> (split <;> (try split) <;> omega)
          · simp only [AV.leL, AV.le, Mem.le, Mem.leP, Blk.le, Blk.pad, Data.le, Data.size, Cap.le, and_true, true_and, and_self, true_implies, implies_true, imp_self, List.length_nil]
      · (try simp only [decide_eq_true_eq, decide_eq_false_iff_not, Bool.not_eq_true', Bool.not_eq_false', beq_iff_eq, beq_eq_false_iff_ne, Int.not_lt, Int.not_le, ge_iff_le, gt_iff_lt, ne_eq, Bool.false_eq_true, Bool.true_eq_false, not_true_eq_false, not_false_eq_true, Bool.and_eq_true, Bool.not_eq_eq_eq_not, Bool.not_true, Bool.not_false, bne_iff_ne, bne_eq_false_iff_eq, Int.toNat_natCast, Nat.mul_one, Nat.add_zero, Nat.zero_add, List.take_length, List.drop_zero] at h2)
        all_goals
          refine Tree.GivesP.br (fun h3 => ?_) (fun h3 => ?_)
          · (try simp only [decide_eq_true_eq, decide_eq_false_iff_not, Bool.not_eq_true', Bool.not_eq_false', beq_iff_eq, beq_eq_false_iff_ne, Int.not_lt, Int.not_le, ge_iff_le, gt_iff_lt, ne_eq, Bool.false_eq_true, Bool.true_eq_false, not_true_eq_false, not_false_eq_true, Bool.and_eq_true, Bool.not_eq_eq_eq_not, Bool.not_true, Bool.not_false, bne_iff_ne, bne_eq_false_iff_eq, Int.toNat_natCast, Nat.mul_one, Nat.add_zero, Nat.zero_add, List.take_length, List.drop_zero] at h3)
            all_goals
              refine Tree.GivesP.ret ?_ ?_
              have hc : 1 ≤ c := by omega
              have hcw : IntKind.u64.wrap c = c := by rw [wu64]; omega
              obtain ⟨g1, g2, g3, g4, g5, g6, g7, g8, g9, g10, g11⟩ := down_facts (N := numW h l) hc
              have hsg : numW h l < 0 ↔ h < 0 := by unfold numW; omega
              (try simp only [hcw] at *)
              obtain ⟨k1, k2, k3⟩ := g1 h2
              (try simp only [k1, k2] at *)
              generalize absZ (numW h l) / c = q at *
              generalize absZ (numW h l) % c = r at *
              generalize nearZ (numW h l) c = X at *
              (try simp only [wu64, w64] at *)
              · simp only [AV.le, AV.leL, true_and, and_true, quoV, quoE, fitB, decide_eq_true_eq]
                refine ⟨?_, ?_⟩ <;> (split <;> (try split) <;> omega)
              · simp only [AV.leL, AV.le, Mem.le, Mem.leP, Blk.le, Blk.pad, Data.le, Data.size, Cap.le, and_true, true_and, and_self, true_implies, implies_true, imp_self, List.length_nil]
          · (try simp only [decide_eq_true_eq, decide_eq_false_iff_not, Bool.not_eq_true', Bool.not_eq_false', beq_iff_eq, beq_eq_false_iff_ne, Int.not_lt, Int.not_le, ge_iff_le, gt_iff_lt, ne_eq, Bool.false_eq_true, Bool.true_eq_false, not_true_eq_false, not_false_eq_true, Bool.and_eq_true, Bool.not_eq_eq_eq_not, Bool.not_true, Bool.not_false, bne_iff_ne, bne_eq_false_iff_eq, Int.toNat_natCast, Nat.mul_one, Nat.add_zero, Nat.zero_add, List.take_length, List.drop_zero] at h3)
            all_goals
              refine Tree.GivesP.br (fun h4 => ?_) (fun h4 => ?_)
              · (try simp only [decide_eq_true_eq, decide_eq_false_iff_not, Bool.not_eq_true', Bool.not_eq_false', beq_iff_eq, beq_eq_false_iff_ne, Int.not_lt, Int.not_le, ge_iff_le, gt_iff_lt, ne_eq, Bool.false_eq_true, Bool.true_eq_false, not_true_eq_false, not_false_eq_true, Bool.and_eq_true, Bool.not_eq_eq_eq_not, Bool.not_true, Bool.not_false, bne_iff_ne, bne_eq_false_iff_eq, Int.toNat_natCast, Nat.mul_one, Nat.add_zero, Nat.zero_add, List.take_length, List.drop_zero] at h4)
                all_goals
                  refine Tree.GivesP.br (fun h5 => ?_) (fun h5 => ?_)
                  · (try simp only [decide_eq_true_eq, decide_eq_false_iff_not, Bool.not_eq_true', Bool.not_eq_false', beq_iff_eq, beq_eq_false_iff_ne, Int.not_lt, Int.not_le, ge_iff_le, gt_iff_lt, ne_eq, Bool.false_eq_true, Bool.true_eq_false, not_true_eq_false, not_false_eq_true, Bool.and_eq_true, Bool.not_eq_eq_eq_not, Bool.not_true, Bool.not_false, bne_iff_ne, bne_eq_false_iff_eq, Int.toNat_natCast, Nat.mul_one, Nat.add_zero, Nat.zero_add, List.take_length, List.drop_zero] at h5)
                    all_goals
                      refine Tree.GivesP.br (fun h6 => ?_) (fun h6 => ?_)
                      · (try simp only [decide_eq_true_eq, decide_eq_false_iff_not, Bool.not_eq_true', Bool.not_eq_false', beq_iff_eq, beq_eq_false_iff_ne, Int.not_lt, Int.not_le, ge_iff_le, gt_iff_lt, ne_eq, Bool.false_eq_true, Bool.true_eq_false, not_true_eq_false, not_false_eq_true, Bool.and_eq_true, Bool.not_eq_eq_eq_not, Bool.not_true, Bool.not_false, bne_iff_ne, bne_eq_false_iff_eq, Int.toNat_natCast, Nat.mul_one, Nat.add_zero, Nat.zero_add, List.take_length, List.drop_zero] at h6)
                        all_goals
                          refine Tree.GivesP.ret ?_ ?_
                          have hc : 1 ≤ c := by omega
                          have hcw : IntKind.u64.wrap c = c := by rw [wu64]; omega
                          obtain ⟨g1, g2, g3, g4, g5, g6, g7, g8, g9, g10, g11⟩ := down_facts (N := numW h l) hc
                          have hsg : numW h l < 0 ↔ h < 0 := by unfold numW; omega
                          (try simp only [hcw] at *)
                          obtain ⟨k1, k2, k3⟩ := g1 h2
                          (try simp only [k1, k2] at *)
                          generalize absZ (numW h l) / c = q at *
                          generalize absZ (numW h l) % c = r at *
                          generalize nearZ (numW h l) c = X at *
                          (try simp only [wu64, w64] at *)
                          · simp only [AV.le, AV.leL, true_and, and_true, quoV, quoE, fitB, decide_eq_true_eq]
                            refine ⟨?_, ?_⟩ <;> (split <;> (try split) <;> omega)
                          · simp only [AV.leL, AV.le, Mem.le, Mem.leP, Blk.le, Blk.pad, Data.le, Data.size, Cap.le, and_true, true_and, and_self, true_implies, implies_true, imp_self, List.length_nil]
                      · (try simp only [decide_eq_true_eq, decide_eq_false_iff_not, Bool.not_eq_true', Bool.not_eq_false', beq_iff_eq, beq_eq_false_iff_ne, Int.not_lt, Int.not_le, ge_iff_le, gt_iff_lt, ne_eq, Bool.false_eq_true, Bool.true_eq_false, not_true_eq_false, not_false_eq_true, Bool.and_eq_true, Bool.not_eq_eq_eq_not, Bool.not_true, Bool.not_false, bne_iff_ne, bne_eq_false_iff_eq, Int.toNat_natCast, Nat.mul_one, Nat.add_zero, Nat.zero_add, List.take_length, List.drop_zero] at h6)
                        all_goals
                          refine Tree.GivesP.ret ?_ ?_
                          have hc : 1 ≤ c := by omega
                          have hcw : IntKind.u64.wrap c = c := by rw [wu64]; omega
                          obtain ⟨g1, g2, g3, g4, g5, g6, g7, g8, g9, g10, g11⟩ := down_facts (N := numW h l) hc
                          have hsg : numW h l < 0 ↔ h < 0 := by unfold numW; omega
                          (try simp only [hcw] at *)
                          obtain ⟨k1, k2, k3⟩ := g1 h2
                          (try simp only [k1, k2] at *)
                          generalize absZ (numW h l) / c = q at *
                          generalize absZ (numW h l) % c = r at *
                          generalize nearZ (numW h l) c = X at *
                          (try simp only [wu64, w64] at *)
                          · simp only [AV.le, AV.leL, true_and, and_true, quoV, quoE, fitB, decide_eq_true_eq]
                            refine ⟨?_, ?_⟩ <;> (split <;> (try split) <;> omega)
                          · simp only [AV.leL, AV.le, Mem.le, Mem.leP, Blk.le, Blk.pad, Data.le, Data.size, Cap.le, and_true, true_and, and_self, true_implies, implies_true, imp_self, List.length_nil]
                  · (try simp only [decide_eq_true_eq, decide_eq_false_iff_not, Bool.not_eq_true', Bool.not_eq_false', beq_iff_eq, beq_eq_false_iff_ne, Int.not_lt, Int.not_le, ge_iff_le, gt_iff_lt, ne_eq, Bool.false_eq_true, Bool.true_eq_false, not_true_eq_false, not_false_eq_true, Bool.and_eq_true, Bool.not_eq_eq_eq_not, Bool.not_true, Bool.not_false, bne_iff_ne, bne_eq_false_iff_eq, Int.toNat_natCast, Nat.mul_one, Nat.add_zero, Nat.zero_add, List.take_length, List.drop_zero] at h5)
                    all_goals
                      refine Tree.GivesP.br (fun h6 => ?_) (fun h6 => ?_)
                      · (try simp only [decide_eq_true_eq, decide_eq_false_iff_not, Bool.not_eq_true', Bool.not_eq_false', beq_iff_eq, beq_eq_false_iff_ne, Int.not_lt, Int.not_le, ge_iff_le, gt_iff_lt, ne_eq, Bool.false_eq_true, Bool.true_eq_false, not_true_eq_false, not_false_eq_true, Bool.and_eq_true, Bool.not_eq_eq_eq_not, Bool.not_true, Bool.not_false, bne_iff_ne, bne_eq_false_iff_eq, Int.toNat_natCast, Nat.mul_one, Nat.add_zero, Nat.zero_add, List.take_length, List.drop_zero] at h6)
                        all_goals
                          refine Tree.GivesP.ret ?_ ?_
                          have hc : 1 ≤ c := by omega
                          have hcw : IntKind.u64.wrap c = c := by rw [wu64]; omega
                          obtain ⟨g1, g2, g3, g4, g5, g6, g7, g8, g9, g10, g11⟩ := down_facts (N := numW h l) hc
                          have hsg : numW h l < 0 ↔ h < 0 := by unfold numW; omega
                          (try simp only [hcw] at *)
                          obtain ⟨k1, k2, k3⟩ := g1 h2
                          (try simp only [k1, k2] at *)
                          generalize absZ (numW h l) / c = q at *
                          generalize absZ (numW h l) % c = r at *
                          generalize nearZ (numW h l) c = X at *
                          (try simp only [wu64, w64] at *)
                          · simp only [AV.le, AV.leL, true_and, and_true, quoV, quoE, fitB, decide_eq_true_eq]
                            refine ⟨?_, ?_⟩ <;> (split <;> (try split) <;> omega)
                          · simp only [AV.leL, AV.le, Mem.le, Mem.leP, Blk.le, Blk.pad, Data.le, Data.size, Cap.le, and_true, true_and, and_self, true_implies, implies_true, imp_self, List.length_nil]
                      · (try simp only [decide_eq_true_eq, decide_eq_false_iff_not, Bool.not_eq_true', Bool.not_eq_false', beq_iff_eq, beq_eq_false_iff_ne, Int.not_lt, Int.not_le, ge_iff_le, gt_iff_lt, ne_eq, Bool.false_eq_true, Bool.true_eq_false, not_true_eq_false, not_false_eq_true, Bool.and_eq_true, Bool.not_eq_eq_eq_not, Bool.not_true, Bool.not_false, bne_iff_ne, bne_eq_false_iff_eq, Int.toNat_natCast, Nat.mul_one, Nat.add_zero, Nat.zero_add, List.take_length, List.drop_zero] at h6)
                        all_goals
                          refine Tree.GivesP.ret ?_ ?_
                          have hc : 1 ≤ c := by omega
                          have hcw : IntKind.u64.wrap c = c := by rw [wu64]; omega
                          obtain ⟨g1, g2, g3, g4, g5, g6, g7, g8, g9, g10, g11⟩ := down_facts (N := numW h l) hc
                          have hsg : numW h l < 0 ↔ h < 0 := by unfold numW; omega
                          (try simp only [hcw] at *)
                          obtain ⟨k1, k2, k3⟩ := g1 h2
                          (try simp only [k1, k2] at *)
                          generalize absZ (numW h l) / c = q at *
                          generalize absZ (numW h l) % c = r at *
                          generalize nearZ (numW h l) c = X at *
                          (try simp only [wu64, w64] at *)
                          · simp only [AV.le, AV.leL, true_and, and_true, quoV, quoE, fitB, decide_eq_true_eq]
                            refine ⟨?_, ?_⟩ <;> (split <;> (try split) <;> omega)
                          · simp only [AV.leL, AV.le, Mem.le, Mem.leP, Blk.le, Blk.pad, Data.le, Data.size, Cap.le, and_true, true_and, and_self, true_implies, implies_true, imp_self, List.length_nil]
              · (try simp only [decide_eq_true_eq, decide_eq_false_iff_not, Bool.not_eq_true', Bool.not_eq_false', beq_iff_eq, beq_eq_false_iff_ne, Int.not_lt, Int.not_le, ge_iff_le, gt_iff_lt, ne_eq, Bool.false_eq_true, Bool.true_eq_false, not_true_eq_false, not_false_eq_true, Bool.and_eq_true, Bool.not_eq_eq_eq_not, Bool.not_true, Bool.not_false, bne_iff_ne, bne_eq_false_iff_eq, Int.toNat_natCast, Nat.mul_one, Nat.add_zero, Nat.zero_add, List.take_length, List.drop_zero] at h4)
                all_goals
                  refine Tree.GivesP.br (fun h5 => ?_) (fun h5 => ?_)
                  · (try simp only [decide_eq_true_eq, decide_eq_false_iff_not, Bool.not_eq_true', Bool.not_eq_false', beq_iff_eq, beq_eq_false_iff_ne, Int.not_lt, Int.not_le, ge_iff_le, gt_iff_lt, ne_eq, Bool.false_eq_true, Bool.true_eq_false, not_true_eq_false, not_false_eq_true, Bool.and_eq_true, Bool.not_eq_eq_eq_not, Bool.not_true, Bool.not_false, bne_iff_ne, bne_eq_false_iff_eq, Int.toNat_natCast, Nat.mul_one, Nat.add_zero, Nat.zero_add, List.take_length, List.drop_zero] at h5)
                    all_goals
                      refine Tree.GivesP.br (fun h6 => ?_) (fun h6 => ?_)
                      · (try simp only [decide_eq_true_eq, decide_eq_false_iff_not, Bool.not_eq_true', Bool.not_eq_false', beq_iff_eq, beq_eq_false_iff_ne, Int.not_lt, Int.not_le, ge_iff_le, gt_iff_lt, ne_eq, Bool.false_eq_true, Bool.true_eq_false, not_true_eq_false, not_false_eq_true, Bool.and_eq_true, Bool.not_eq_eq_eq_not, Bool.not_true, Bool.not_false, bne_iff_ne, bne_eq_false_iff_eq, Int.toNat_natCast, Nat.mul_one, Nat.add_zero, Nat.zero_add, List.take_length, List.drop_zero] at h6)
                        all_goals
                          refine Tree.GivesP.ret ?_ ?_
                          have hc : 1 ≤ c := by omega
                          have hcw : IntKind.u64.wrap c = c := by rw [wu64]; omega
                          obtain ⟨g1, g2, g3, g4, g5, g6, g7, g8, g9, g10, g11⟩ := down_facts (N := numW h l) hc
                          have hsg : numW h l < 0 ↔ h < 0 := by unfold numW; omega
                          (try simp only [hcw] at *)
                          obtain ⟨k1, k2, k3⟩ := g1 h2
                          (try simp only [k1, k2] at *)
                          generalize absZ (numW h l) / c = q at *
                          generalize absZ (numW h l) % c = r at *
                          generalize nearZ (numW h l) c = X at *
                          (try simp only [wu64, w64] at *)
                          · simp only [AV.le, AV.leL, true_and, and_true, quoV, quoE, fitB, decide_eq_true_eq]
                            refine ⟨?_, ?_⟩ <;> (split <;> (try split) <;> omega)
                          · simp only [AV.leL, AV.le, Mem.le, Mem.leP, Blk.le, Blk.pad, Data.le, Data.size, Cap.le, and_true, true_and, and_self, true_implies, implies_true, imp_self, List.length_nil]
                      · (try simp only [decide_eq_true_eq, decide_eq_false_iff_not, Bool.not_eq_true', Bool.not_eq_false', beq_iff_eq, beq_eq_false_iff_ne, Int.not_lt, Int.not_le, ge_iff_le, gt_iff_lt, ne_eq, Bool.false_eq_true, Bool.true_eq_false, not_true_eq_false, not_false_eq_true, Bool.and_eq_true, Bool.not_eq_eq_eq_not, Bool.not_true, Bool.not_false, bne_iff_ne, bne_eq_false_iff_eq, Int.toNat_natCast, Nat.mul_one, Nat.add_zero, Nat.zero_add, List.take_length, List.drop_zero] at h6)
                        all_goals
                          refine Tree.GivesP.ret ?_ ?_
                          have hc : 1 ≤ c := by omega
                          have hcw : IntKind.u64.wrap c = c := by rw [wu64]; omega
                          obtain ⟨g1, g2, g3, g4, g5, g6, g7, g8, g9, g10, g11⟩ := down_facts (N := numW h l) hc
                          have hsg : numW h l < 0 ↔ h < 0 := by unfold numW; omega
                          (try simp only [hcw] at *)
                          obtain ⟨k1, k2, k3⟩ := g1 h2
                          (try simp only [k1, k2] at *)
                          generalize absZ (numW h l) / c = q at *
                          generalize absZ (numW h l) % c = r at *
                          generalize nearZ (numW h l) c = X at *
                          (try simp only [wu64, w64] at *)
                          · simp only [AV.le, AV.leL, true_and, and_true, quoV, quoE, fitB, decide_eq_true_eq]
                            refine ⟨?_, ?_⟩ <;> (split <;> (try split) <;> omega)
                          · simp only [AV.leL, AV.le, Mem.le, Mem.leP, Blk.le, Blk.pad, Data.le, Data.size, Cap.le, and_true, true_and, and_self, true_implies, implies_true, imp_self, List.length_nil]
                  · (try simp only [decide_eq_true_eq, decide_eq_false_iff_not, Bool.not_eq_true', Bool.not_eq_false', beq_iff_eq, beq_eq_false_iff_ne, Int.not_lt, Int.not_le, ge_iff_le, gt_iff_lt, ne_eq, Bool.false_eq_true, Bool.true_eq_false, not_true_eq_false, not_false_eq_true, Bool.and_eq_true, Bool.not_eq_eq_eq_not, Bool.not_true, Bool.not_false, bne_iff_ne, bne_eq_false_iff_eq, Int.toNat_natCast, Nat.mul_one, Nat.add_zero, Nat.zero_add, List.take_length, List.drop_zero] at h5)
                    all_goals
                      refine Tree.GivesP.br (fun h6 => ?_) (fun h6 => ?_)
                      · (try simp only [decide_eq_true_eq, decide_eq_false_iff_not, Bool.not_eq_true', Bool.not_eq_false', beq_iff_eq, beq_eq_false_iff_ne, Int.not_lt, Int.not_le, ge_iff_le, gt_iff_lt, ne_eq, Bool.false_eq_true, Bool.true_eq_false, not_true_eq_false, not_false_eq_true, Bool.and_eq_true, Bool.not_eq_eq_eq_not, Bool.not_true, Bool.not_false, bne_iff_ne, bne_eq_false_iff_eq, Int.toNat_natCast, Nat.mul_one, Nat.add_zero, Nat.zero_add, List.take_length, List.drop_zero] at h6)
                        all_goals
                          refine Tree.GivesP.ret ?_ ?_
                          have hc : 1 ≤ c := by omega
                          have hcw : IntKind.u64.wrap c = c := by rw [wu64]; omega
                          obtain ⟨g1, g2, g3, g4, g5, g6, g7, g8, g9, g10, g11⟩ := down_facts (N := numW h l) hc
                          have hsg : numW h l < 0 ↔ h < 0 := by unfold numW; omega
                          (try simp only [hcw] at *)
                          obtain ⟨k1, k2, k3⟩ := g1 h2
                          (try simp only [k1, k2] at *)
                          generalize absZ (numW h l) / c = q at *
                          generalize absZ (numW h l) % c = r at *
                          generalize nearZ (numW h l) c = X at *
                          (try simp only [wu64, w64] at *)
                          · simp only [AV.le, AV.leL, true_and, and_true, quoV, quoE, fitB, decide_eq_true_eq]
                            refine ⟨?_, ?_⟩ <;> (split <;> (try split) <;> omega)
                          · simp only [AV.leL, AV.le, Mem.le, Mem.leP, Blk.le, Blk.pad, Data.le, Data.size, Cap.le, and_true, true_and, and_self, true_implies, implies_true, imp_self, List.length_nil]
                      · (try simp only [decide_eq_true_eq, decide_eq_false_iff_not, Bool.not_eq_true', Bool.not_eq_false', beq_iff_eq, beq_eq_false_iff_ne, Int.not_lt, Int.not_le, ge_iff_le, gt_iff_lt, ne_eq, Bool.false_eq_true, Bool.true_eq_false, not_true_eq_false, not_false_eq_true, Bool.and_eq_true, Bool.not_eq_eq_eq_not, Bool.not_true, Bool.not_false, bne_iff_ne, bne_eq_false_iff_eq, Int.toNat_natCast, Nat.mul_one, Nat.add_zero, Nat.zero_add, List.take_length, List.drop_zero] at h6)
                        all_goals
                          refine Tree.GivesP.ret ?_ ?_
                          have hc : 1 ≤ c := by omega
                          have hcw : IntKind.u64.wrap c = c := by rw [wu64]; omega
                          obtain ⟨g1, g2, g3, g4, g5, g6, g7, g8, g9, g10, g11⟩ := down_facts (N := numW h l) hc
                          have hsg : numW h l < 0 ↔ h < 0 := by unfold numW; omega
                          (try simp only [hcw] at *)
                          obtain ⟨k1, k2, k3⟩ := g1 h2
                          (try simp only [k1, k2] at *)
                          generalize absZ (numW h l) / c = q at *
                          generalize absZ (numW h l) % c = r at *
                          generalize nearZ (numW h l) c = X at *
                          (try simp only [wu64, w64] at *)
                          · simp only [AV.le, AV.leL, true_and, and_true, quoV, quoE, fitB, decide_eq_true_eq]
                            refine ⟨?_, ?_⟩ <;> (split <;> (try split) <;> omega)
                          · simp only [AV.leL, AV.le, Mem.le, Mem.leP, Blk.le, Blk.pad, Data.le, Data.size, Cap.le, and_true, true_and, and_self, true_implies, implies_true, imp_self, List.length_nil]
theorem snear (hall : AllOk Try.prog 0 (fun _ => none) tab6) (h : Int) (l : Int) (c : Int) (hw : -9223372036854775808 ≤ h ∧ h ≤ 9223372036854775807 ∧ -9223372036854775808 ≤ c ∧ c ≤ 9223372036854775807 ∧ 0 ≤ l ∧ l ≤ 18446744073709551615) : SoundAt (mkC Try.prog 0 (fun _ => none) []) 52 [.agg [.int .i64 false h, .int .u64 false l], .int .i64 false c] [] (.tup [.int .i64 false (quoV c (nearZ (numW h l) c)), .int .i64 false (quoE c (nearZ (numW h l) c))], []) := sound_ofP hall mix (tnear h l c) (gnear h l c hw)
theorem Fnear_ok (hall : AllOk Try.prog 0 (fun _ => none) tab6) : PureF Try.prog 3 52 Fnear := by
  intro xs c v news h hc
  unfold Fnear at h
  split at h
  · rename_i _ h _ l _ c
    cases h
    refine ⟨(by intro b hb; cases hb), SoundAt.flags (snear hall h l c hc) ?_⟩
    simp [PA.avs, AV.le, AV.leL, Cap.le]
  · cases h
end Go.Proofs.Ytoihhmpmlbdeiaa.Rig

/- Qamong -/
namespace Go.Proofs.Ytoihhmpmlbdeiaa.Rig
open Go
set_option maxRecDepth 100000 in
theorem tamong (a : Int) (b : Int) : evBody (mkC Try.prog 0 (fun _ => none) tab7) (evCall (mkC Try.prog 0 (fun _ => none) tab7) 50) 16 [.int .i64 false a, .int .i64 false b] [] =
  Tree.br (decide (b < (1 : Int))) (Tree.ret (AV.int IntKind.i64 true (0 : Int), []))
    (Tree.br (!decide (IntKind.wrap IntKind.u64 b = (0 : Int))) (Tree.ret (AV.int IntKind.i64 false (IntKind.wrap IntKind.i64 (Int.tmod (IntKind.wrap IntKind.u64 a) (IntKind.wrap IntKind.u64 b))), [])) Tree.fail) := by kernel_rfl
set_option maxRecDepth 100000 in
theorem gamong (a : Int) (b : Int) (hw : 1 ≤ b ∧ b ≤ 9223372036854775807) : (Tree.br (decide (b < (1 : Int))) (Tree.ret (AV.int IntKind.i64 true (0 : Int), []))
    (Tree.br (!decide (IntKind.wrap IntKind.u64 b = (0 : Int))) (Tree.ret (AV.int IntKind.i64 false (IntKind.wrap IntKind.i64 (Int.tmod (IntKind.wrap IntKind.u64 a) (IntKind.wrap IntKind.u64 b))), [])) Tree.fail) : Tree (AV × Mem)).GivesP (.int .i64 false (amongZ a b)) ([]) := by
  refine Tree.GivesP.br (fun h1 => ?_) (fun h1 => ?_)
  · (try simp only [decide_eq_true_eq, decide_eq_false_iff_not, Bool.not_eq_true', Bool.not_eq_false', beq_iff_eq, beq_eq_false_iff_ne, Int.not_lt, Int.not_le, ge_iff_le, gt_iff_lt, ne_eq, Bool.false_eq_true, Bool.true_eq_false, not_true_eq_false, not_false_eq_true, Bool.and_eq_true, Bool.not_eq_eq_eq_not, Bool.not_true, Bool.not_false, bne_iff_ne, bne_eq_false_iff_eq, Int.toNat_natCast, Nat.mul_one, Nat.add_zero, Nat.zero_add, List.take_length, List.drop_zero] at h1)
    all_goals
      refine Tree.GivesP.ret ?_ ?_
      · first | (exfalso; omega) | (exfalso; simp only [wu64] at *; omega) | (simp only [AV.le, true_and]; exact among_eq hw)
      · simp only [AV.leL, AV.le, Mem.le, Mem.leP, Blk.le, Blk.pad, Data.le, Data.size, Cap.le, and_true, true_and, and_self, true_implies, implies_true, imp_self, List.length_nil]
  · (try simp only [decide_eq_true_eq, decide_eq_false_iff_not, Bool.not_eq_true', Bool.not_eq_false', beq_iff_eq, beq_eq_false_iff_ne, Int.not_lt, Int.not_le, ge_iff_le, gt_iff_lt, ne_eq, Bool.false_eq_true, Bool.true_eq_false, not_true_eq_false, not_false_eq_true, Bool.and_eq_true, Bool.not_eq_eq_eq_not, Bool.not_true, Bool.not_false, bne_iff_ne, bne_eq_false_iff_eq, Int.toNat_natCast, Nat.mul_one, Nat.add_zero, Nat.zero_add, List.take_length, List.drop_zero] at h1)
    all_goals
      refine Tree.GivesP.br (fun h2 => ?_) (fun h2 => ?_)
      · (try simp only [decide_eq_true_eq, decide_eq_false_iff_not, Bool.not_eq_true', Bool.not_eq_false', beq_iff_eq, beq_eq_false_iff_ne, Int.not_lt, Int.not_le, ge_iff_le, gt_iff_lt, ne_eq, Bool.false_eq_true, Bool.true_eq_false, not_true_eq_false, not_false_eq_true, Bool.and_eq_true, Bool.not_eq_eq_eq_not, Bool.not_true, Bool.not_false, bne_iff_ne, bne_eq_false_iff_eq, Int.toNat_natCast, Nat.mul_one, Nat.add_zero, Nat.zero_add, List.take_length, List.drop_zero] at h2)
        all_goals
          refine Tree.GivesP.ret ?_ ?_
          · first | (exfalso; omega) | (exfalso; simp only [wu64] at *; omega) | (simp only [AV.le, true_and]; exact among_eq hw)
          · simp only [AV.leL, AV.le, Mem.le, Mem.leP, Blk.le, Blk.pad, Data.le, Data.size, Cap.le, and_true, true_and, and_self, true_implies, implies_true, imp_self, List.length_nil]
      · (try simp only [decide_eq_true_eq, decide_eq_false_iff_not, Bool.not_eq_true', Bool.not_eq_false', beq_iff_eq, beq_eq_false_iff_ne, Int.not_lt, Int.not_le, ge_iff_le, gt_iff_lt, ne_eq, Bool.false_eq_true, Bool.true_eq_false, not_true_eq_false, not_false_eq_true, Bool.and_eq_true, Bool.not_eq_eq_eq_not, Bool.not_true, Bool.not_false, bne_iff_ne, bne_eq_false_iff_eq, Int.toNat_natCast, Nat.mul_one, Nat.add_zero, Nat.zero_add, List.take_length, List.drop_zero] at h2)
        all_goals
          exfalso
          first | omega | (simp only [wu64] at *; omega)
theorem samong (hall : AllOk Try.prog 0 (fun _ => none) tab7) (a : Int) (b : Int) (hw : 1 ≤ b ∧ b ≤ 9223372036854775807) : SoundAt (mkC Try.prog 0 (fun _ => none) []) 16 [.int .i64 false a, .int .i64 false b] [] (.int .i64 false (amongZ a b), []) := sound_ofP hall mix (tamong a b) (gamong a b hw)
theorem Famong_ok (hall : AllOk Try.prog 0 (fun _ => none) tab7) : PureF Try.prog 3 16 Famong := by
  intro xs c v news h hc
  unfold Famong at h
  split at h
  · rename_i _ a _ b
    cases h
    refine ⟨(by intro b hb; cases hb), SoundAt.flags (samong hall a b hc) ?_⟩
    simp [PA.avs, AV.le, AV.leL, Cap.le]
  · cases h
end Go.Proofs.Ytoihhmpmlbdeiaa.Rig

/- Qmulnear -/
namespace Go.Proofs.Ytoihhmpmlbdeiaa.Rig
open Go
set_option maxRecDepth 100000 in
theorem tmulnear (a : Int) (b : Int) (c : Int) : evBody (mkC Try.prog 0 (fun _ => none) tab8) (evCall (mkC Try.prog 0 (fun _ => none) tab8) 50) 44 [.int .i64 false a, .int .i64 false b, .int .i64 false c] [] =
  Tree.chk ((True ∧ True ∧ True) ∧ (-9223372036854775808 : Int) ≤ a ∧ a ≤ (9223372036854775807 : Int) ∧ (-9223372036854775808 : Int) ≤ b ∧ b ≤ (9223372036854775807 : Int))
    (Tree.chk
      ((True ∧ True ∧ True) ∧
        (-9223372036854775808 : Int) ≤ hiZ (a * b) ∧
          hiZ (a * b) ≤ (9223372036854775807 : Int) ∧ (-9223372036854775808 : Int) ≤ c ∧ c ≤ (9223372036854775807 : Int) ∧ (0 : Int) ≤ loZ (a * b) ∧ loZ (a * b) ≤ (18446744073709551615 : Int))
      (Tree.ret (AV.tup [AV.int IntKind.i64 false (quoV c (nearZ (numW (hiZ (a * b)) (loZ (a * b))) c)), AV.int IntKind.i64 false (quoE c (nearZ (numW (hiZ (a * b)) (loZ (a * b))) c))], []))) := by kernel_rfl
set_option maxRecDepth 100000 in
theorem gmulnear (a : Int) (b : Int) (c : Int) (hw : -9223372036854775808 ≤ a ∧ a ≤ 9223372036854775807 ∧ -9223372036854775808 ≤ b ∧ b ≤ 9223372036854775807 ∧ -9223372036854775808 ≤ c ∧ c ≤ 9223372036854775807) : (Tree.chk ((True ∧ True ∧ True) ∧ (-9223372036854775808 : Int) ≤ a ∧ a ≤ (9223372036854775807 : Int) ∧ (-9223372036854775808 : Int) ≤ b ∧ b ≤ (9223372036854775807 : Int))
    (Tree.chk
      ((True ∧ True ∧ True) ∧
        (-9223372036854775808 : Int) ≤ hiZ (a * b) ∧
          hiZ (a * b) ≤ (9223372036854775807 : Int) ∧ (-9223372036854775808 : Int) ≤ c ∧ c ≤ (9223372036854775807 : Int) ∧ (0 : Int) ≤ loZ (a * b) ∧ loZ (a * b) ≤ (18446744073709551615 : Int))
      (Tree.ret (AV.tup [AV.int IntKind.i64 false (quoV c (nearZ (numW (hiZ (a * b)) (loZ (a * b))) c)), AV.int IntKind.i64 false (quoE c (nearZ (numW (hiZ (a * b)) (loZ (a * b))) c))], []))) : Tree (AV × Mem)).GivesP (.tup [.int .i64 false (quoV c (nearZ (a * b) c)), .int .i64 false (quoE c (nearZ (a * b) c))]) ([]) := by
  obtain ⟨a0, a1, b0, b1, c0, c1⟩ := hw
  have bd := mul_bound a0 a1 b0 b1
  have e := num_hilo (n := a * b) (by omega) (by omega)
  have lo := lo_ok (a * b)
  have hi := hi_ok (a * b)
  simp only [e]
  refine Tree.GivesP.chk (by first | (simp only [and_self]; done) | ((repeat' with_reducible refine And.intro ?_ ?_) <;> first | trivial | omega | (simp only [w64, wu64]; omega))) ?_
  refine Tree.GivesP.chk (by first | (simp only [and_self]; done) | ((repeat' with_reducible refine And.intro ?_ ?_) <;> first | trivial | omega | (simp only [w64, wu64]; omega))) ?_
  refine Tree.GivesP.ret ?_ ?_
  · simp only [AV.le, AV.leL, true_and, and_true]
  · simp only [AV.leL, AV.le, Mem.le, Mem.leP, Blk.le, Blk.pad, Data.le, Data.size, Cap.le, and_true, true_and, and_self, true_implies, implies_true, imp_self, List.length_nil]
theorem smulnear (hall : AllOk Try.prog 0 (fun _ => none) tab8) (a : Int) (b : Int) (c : Int) (hw : -9223372036854775808 ≤ a ∧ a ≤ 9223372036854775807 ∧ -9223372036854775808 ≤ b ∧ b ≤ 9223372036854775807 ∧ -9223372036854775808 ≤ c ∧ c ≤ 9223372036854775807) : SoundAt (mkC Try.prog 0 (fun _ => none) []) 44 [.int .i64 false a, .int .i64 false b, .int .i64 false c] [] (.tup [.int .i64 false (quoV c (nearZ (a * b) c)), .int .i64 false (quoE c (nearZ (a * b) c))], []) := sound_ofP hall mix (tmulnear a b c) (gmulnear a b c hw)
theorem Fmulnear_ok (hall : AllOk Try.prog 0 (fun _ => none) tab8) : PureF Try.prog 3 44 Fmulnear := by
  intro xs c v news h hc
  unfold Fmulnear at h
  split at h
  · rename_i _ a _ b _ c
    cases h
    refine ⟨(by intro b hb; cases hb), SoundAt.flags (smulnear hall a b c hc) ?_⟩
    simp [PA.avs, AV.le, AV.leL, Cap.le]
  · cases h
end Go.Proofs.Ytoihhmpmlbdeiaa.Rig

/- Qdrive -/
namespace Go.Proofs.Ytoihhmpmlbdeiaa.Rig
open Go
set_option maxRecDepth 100000 in
theorem tdrive (I : Int) (r : Int) : evBody (mkC Try.prog 0 (fun _ => none) tab9) (evCall (mkC Try.prog 0 (fun _ => none) tab9) 50) 26 [.int .i64 false I, .int .i64 false r] [] =
  Tree.chk
    ((True ∧ True ∧ True ∧ True) ∧
      (-9223372036854775808 : Int) ≤ I ∧
        I ≤ (9223372036854775807 : Int) ∧ (-9223372036854775808 : Int) ≤ r ∧ r ≤ (9223372036854775807 : Int) ∧ (-9223372036854775808 : Int) ≤ (1000 : Int) ∧ (1000 : Int) ≤ (9223372036854775807 : Int))
    (Tree.br (decide (IntKind.wrap IntKind.i64 ((0 : Int) + quoV (1000 : Int) (nearZ (I * r) (1000 : Int))) < (-2147483648 : Int))) (Tree.ret (AV.int IntKind.i64 true (-2147483648 : Int), []))
      (Tree.br (decide (IntKind.wrap IntKind.i64 ((0 : Int) + quoV (1000 : Int) (nearZ (I * r) (1000 : Int))) > (2147483648 : Int))) (Tree.ret (AV.int IntKind.i64 true (2147483648 : Int), []))
        (Tree.ret (AV.int IntKind.i64 false (IntKind.wrap IntKind.i64 ((0 : Int) + quoV (1000 : Int) (nearZ (I * r) (1000 : Int)))), [])))) := by kernel_rfl
set_option maxRecDepth 100000 in
theorem gdrive (I : Int) (r : Int) (hw : -2147483648 ≤ I ∧ I ≤ 2147483648 ∧ 0 ≤ r ∧ r ≤ 1000000) : (Tree.chk
    ((True ∧ True ∧ True ∧ True) ∧
      (-9223372036854775808 : Int) ≤ I ∧
        I ≤ (9223372036854775807 : Int) ∧ (-9223372036854775808 : Int) ≤ r ∧ r ≤ (9223372036854775807 : Int) ∧ (-9223372036854775808 : Int) ≤ (1000 : Int) ∧ (1000 : Int) ≤ (9223372036854775807 : Int))
    (Tree.br (decide (IntKind.wrap IntKind.i64 ((0 : Int) + quoV (1000 : Int) (nearZ (I * r) (1000 : Int))) < (-2147483648 : Int))) (Tree.ret (AV.int IntKind.i64 true (-2147483648 : Int), []))
      (Tree.br (decide (IntKind.wrap IntKind.i64 ((0 : Int) + quoV (1000 : Int) (nearZ (I * r) (1000 : Int))) > (2147483648 : Int))) (Tree.ret (AV.int IntKind.i64 true (2147483648 : Int), []))
        (Tree.ret (AV.int IntKind.i64 false (IntKind.wrap IntKind.i64 ((0 : Int) + quoV (1000 : Int) (nearZ (I * r) (1000 : Int)))), [])))) : Tree (AV × Mem)).GivesP (.int .i64 false (driveZ I r)) ([]) := by
  obtain ⟨i0, i1, r0, r1⟩ := hw
  have mb := mul_u i0 i1 r0 r1
  have ns := near_size (N := I * r) (c := 1000) (by decide)
  obtain ⟨q1, _⟩ := quo_fit (c := 1000) (x := nearZ (I * r) 1000) (by decide) (by omega) (by omega)
  have ew : IntKind.i64.wrap (0 + nearZ (I * r) 1000) = nearZ (I * r) 1000 := by rw [w64]; omega
  simp only [q1, ew]
  unfold driveZ
  generalize nearZ (I * r) 1000 = n at *
  refine Tree.GivesP.chk (by first | (simp only [and_self]; done) | ((repeat' with_reducible refine And.intro ?_ ?_) <;> first | trivial | omega | (simp only [w64, wu64]; omega))) ?_
  refine Tree.GivesP.br (fun h1 => ?_) (fun h1 => ?_)
  · (try simp only [decide_eq_true_eq, decide_eq_false_iff_not, Bool.not_eq_true', Bool.not_eq_false', beq_iff_eq, beq_eq_false_iff_ne, Int.not_lt, Int.not_le, ge_iff_le, gt_iff_lt, ne_eq, Bool.false_eq_true, Bool.true_eq_false, not_true_eq_false, not_false_eq_true, Bool.and_eq_true, Bool.not_eq_eq_eq_not, Bool.not_true, Bool.not_false, bne_iff_ne, bne_eq_false_iff_eq, Int.toNat_natCast, Nat.mul_one, Nat.add_zero, Nat.zero_add, List.take_length, List.drop_zero] at h1)
    all_goals
      refine Tree.GivesP.ret ?_ ?_
      · simp only [AV.le, AV.leL, true_and, and_true, driveZ, clampU]
        first | omega | (split <;> omega) | (split <;> (try split) <;> omega) | (refine ⟨?_, ?_⟩ <;> (split <;> omega)) | (refine ⟨?_, ?_, ?_⟩ <;> (split <;> omega))
      · simp only [AV.leL, AV.le, Mem.le, Mem.leP, Blk.le, Blk.pad, Data.le, Data.size, Cap.le, and_true, true_and, and_self, true_implies, implies_true, imp_self, List.length_nil]
  · (try simp only [decide_eq_true_eq, decide_eq_false_iff_not, Bool.not_eq_true', Bool.not_eq_false', beq_iff_eq, beq_eq_false_iff_ne, Int.not_lt, Int.not_le, ge_iff_le, gt_iff_lt, ne_eq, Bool.false_eq_true, Bool.true_eq_false, not_true_eq_false, not_false_eq_true, Bool.and_eq_true, Bool.not_eq_eq_eq_not, Bool.not_true, Bool.not_false, bne_iff_ne, bne_eq_false_iff_eq, Int.toNat_natCast, Nat.mul_one, Nat.add_zero, Nat.zero_add, List.take_length, List.drop_zero] at h1)
    all_goals
      refine Tree.GivesP.br (fun h2 => ?_) (fun h2 => ?_)
      · (try simp only [decide_eq_true_eq, decide_eq_false_iff_not, Bool.not_eq_true', Bool.not_eq_false', beq_iff_eq, beq_eq_false_iff_ne, Int.not_lt, Int.not_le, ge_iff_le, gt_iff_lt, ne_eq, Bool.false_eq_true, Bool.true_eq_false, not_true_eq_false, not_false_eq_true, Bool.and_eq_true, Bool.not_eq_eq_eq_not, Bool.not_true, Bool.not_false, bne_iff_ne, bne_eq_false_iff_eq, Int.toNat_natCast, Nat.mul_one, Nat.add_zero, Nat.zero_add, List.take_length, List.drop_zero] at h2)
        all_goals
          refine Tree.GivesP.ret ?_ ?_
          · simp only [AV.le, AV.leL, true_and, and_true, driveZ, clampU]
            first | omega | (split <;> omega) | (split <;> (try split) <;> omega) | (refine ⟨?_, ?_⟩ <;> (split <;> omega)) | (refine ⟨?_, ?_, ?_⟩ <;> (split <;> omega))
          · simp only [AV.leL, AV.le, Mem.le, Mem.leP, Blk.le, Blk.pad, Data.le, Data.size, Cap.le, and_true, true_and, and_self, true_implies, implies_true, imp_self, List.length_nil]
      · (try simp only [decide_eq_true_eq, decide_eq_false_iff_not, Bool.not_eq_true', Bool.not_eq_false', beq_iff_eq, beq_eq_false_iff_ne, Int.not_lt, Int.not_le, ge_iff_le, gt_iff_lt, ne_eq, Bool.false_eq_true, Bool.true_eq_false, not_true_eq_false, not_false_eq_true, Bool.and_eq_true, Bool.not_eq_eq_eq_not, Bool.not_true, Bool.not_false, bne_iff_ne, bne_eq_false_iff_eq, Int.toNat_natCast, Nat.mul_one, Nat.add_zero, Nat.zero_add, List.take_length, List.drop_zero] at h2)
        all_goals
          refine Tree.GivesP.ret ?_ ?_
          · simp only [AV.le, AV.leL, true_and, and_true, driveZ, clampU]
            first | omega | (split <;> omega) | (split <;> (try split) <;> omega) | (refine ⟨?_, ?_⟩ <;> (split <;> omega)) | (refine ⟨?_, ?_, ?_⟩ <;> (split <;> omega))
          · simp only [AV.leL, AV.le, Mem.le, Mem.leP, Blk.le, Blk.pad, Data.le, Data.size, Cap.le, and_true, true_and, and_self, true_implies, implies_true, imp_self, List.length_nil]
theorem sdrive (hall : AllOk Try.prog 0 (fun _ => none) tab9) (I : Int) (r : Int) (hw : -2147483648 ≤ I ∧ I ≤ 2147483648 ∧ 0 ≤ r ∧ r ≤ 1000000) : SoundAt (mkC Try.prog 0 (fun _ => none) []) 26 [.int .i64 false I, .int .i64 false r] [] (.int .i64 false (driveZ I r), []) := sound_ofP hall mix (tdrive I r) (gdrive I r hw)
theorem Fdrive_ok (hall : AllOk Try.prog 0 (fun _ => none) tab9) : PureF Try.prog 3 26 Fdrive := by
  intro xs c v news h hc
  unfold Fdrive at h
  split at h
  · rename_i _ I _ r
    cases h
    refine ⟨(by intro b hb; cases hb), SoundAt.flags (sdrive hall I r hc) ?_⟩
    simp [PA.avs, AV.le, AV.leL, Cap.le]
  · cases h
end Go.Proofs.Ytoihhmpmlbdeiaa.Rig

/- QDrive -/
namespace Go.Proofs.Ytoihhmpmlbdeiaa.Rig
open Go
set_option maxRecDepth 100000 in
theorem tDrive (I : Int) (r : Int) : evBody (mkC Try.prog 0 (fun _ => none) tab10) (evCall (mkC Try.prog 0 (fun _ => none) tab10) 50) 14 [.int .i64 false I, .int .i64 false r] [] =
  Tree.br (decide (I < (-2147483648 : Int))) (Tree.ret (AV.tup [AV.int IntKind.i64 true (0 : Int), AV.int IntKind.i64 true (2 : Int)], []))
    (Tree.br (decide (I > (2147483648 : Int))) (Tree.ret (AV.tup [AV.int IntKind.i64 true (0 : Int), AV.int IntKind.i64 true (2 : Int)], []))
      (Tree.br (decide (r < (0 : Int))) (Tree.ret (AV.tup [AV.int IntKind.i64 true (0 : Int), AV.int IntKind.i64 true (2 : Int)], []))
        (Tree.br (decide (r > (1000000 : Int))) (Tree.ret (AV.tup [AV.int IntKind.i64 true (0 : Int), AV.int IntKind.i64 true (2 : Int)], []))
          (Tree.chk ((True ∧ True ∧ True) ∧ (-2147483648 : Int) ≤ I ∧ I ≤ (2147483648 : Int) ∧ (0 : Int) ≤ r ∧ r ≤ (1000000 : Int))
            (Tree.ret (AV.tup [AV.int IntKind.i64 false (driveZ I r), AV.int IntKind.i64 true (0 : Int)], [])))))) := by kernel_rfl
set_option maxRecDepth 100000 in
theorem gDrive (I : Int) (r : Int) (hw : -9223372036854775808 ≤ I ∧ I ≤ 9223372036854775807 ∧ -9223372036854775808 ≤ r ∧ r ≤ 9223372036854775807) : (Tree.br (decide (I < (-2147483648 : Int))) (Tree.ret (AV.tup [AV.int IntKind.i64 true (0 : Int), AV.int IntKind.i64 true (2 : Int)], []))
    (Tree.br (decide (I > (2147483648 : Int))) (Tree.ret (AV.tup [AV.int IntKind.i64 true (0 : Int), AV.int IntKind.i64 true (2 : Int)], []))
      (Tree.br (decide (r < (0 : Int))) (Tree.ret (AV.tup [AV.int IntKind.i64 true (0 : Int), AV.int IntKind.i64 true (2 : Int)], []))
        (Tree.br (decide (r > (1000000 : Int))) (Tree.ret (AV.tup [AV.int IntKind.i64 true (0 : Int), AV.int IntKind.i64 true (2 : Int)], []))
          (Tree.chk ((True ∧ True ∧ True) ∧ (-2147483648 : Int) ≤ I ∧ I ≤ (2147483648 : Int) ∧ (0 : Int) ≤ r ∧ r ≤ (1000000 : Int))
            (Tree.ret (AV.tup [AV.int IntKind.i64 false (driveZ I r), AV.int IntKind.i64 true (0 : Int)], [])))))) : Tree (AV × Mem)).GivesP (.tup [.int .i64 false (drV I r), .int .i64 false (drE I r)]) ([]) := by
  refine Tree.GivesP.br (fun h1 => ?_) (fun h1 => ?_)
  · (try simp only [decide_eq_true_eq, decide_eq_false_iff_not, Bool.not_eq_true', Bool.not_eq_false', beq_iff_eq, beq_eq_false_iff_ne, Int.not_lt, Int.not_le, ge_iff_le, gt_iff_lt, ne_eq, Bool.false_eq_true, Bool.true_eq_false, not_true_eq_false, not_false_eq_true, Bool.and_eq_true, Bool.not_eq_eq_eq_not, Bool.not_true, Bool.not_false, bne_iff_ne, bne_eq_false_iff_eq, Int.toNat_natCast, Nat.mul_one, Nat.add_zero, Nat.zero_add, List.take_length, List.drop_zero] at h1)
    all_goals
      refine Tree.GivesP.ret ?_ ?_
      · simp only [AV.le, AV.leL, true_and, and_true, drV, drE]
        first | omega | (split <;> omega) | (split <;> (try split) <;> omega) | (refine ⟨?_, ?_⟩ <;> (split <;> omega)) | (refine ⟨?_, ?_, ?_⟩ <;> (split <;> omega))
      · simp only [AV.leL, AV.le, Mem.le, Mem.leP, Blk.le, Blk.pad, Data.le, Data.size, Cap.le, and_true, true_and, and_self, true_implies, implies_true, imp_self, List.length_nil]
  · (try simp only [decide_eq_true_eq, decide_eq_false_iff_not, Bool.not_eq_true', Bool.not_eq_false', beq_iff_eq, beq_eq_false_iff_ne, Int.not_lt, Int.not_le, ge_iff_le, gt_iff_lt, ne_eq, Bool.false_eq_true, Bool.true_eq_false, not_true_eq_false, not_false_eq_true, Bool.and_eq_true, Bool.not_eq_eq_eq_not, Bool.not_true, Bool.not_false, bne_iff_ne, bne_eq_false_iff_eq, Int.toNat_natCast, Nat.mul_one, Nat.add_zero, Nat.zero_add, List.take_length, List.drop_zero] at h1)
    all_goals
      refine Tree.GivesP.br (fun h2 => ?_) (fun h2 => ?_)
      · (try simp only [decide_eq_true_eq, decide_eq_false_iff_not, Bool.not_eq_true', Bool.not_eq_false', beq_iff_eq, beq_eq_false_iff_ne, Int.not_lt, Int.not_le, ge_iff_le, gt_iff_lt, ne_eq, Bool.false_eq_true, Bool.true_eq_false, not_true_eq_false, not_false_eq_true, Bool.and_eq_true, Bool.not_eq_eq_eq_not, Bool.not_true, Bool.not_false, bne_iff_ne, bne_eq_false_iff_eq, Int.toNat_natCast, Nat.mul_one, Nat.add_zero, Nat.zero_add, List.take_length, List.drop_zero] at h2)
        all_goals
          refine Tree.GivesP.ret ?_ ?_
          · simp only [AV.le, AV.leL, true_and, and_true, drV, drE]
            first | omega | (split <;> omega) | (split <;> (try split) <;> omega) | (refine ⟨?_, ?_⟩ <;> (split <;> omega)) | (refine ⟨?_, ?_, ?_⟩ <;> (split <;> omega))
          · simp only [AV.leL, AV.le, Mem.le, Mem.leP, Blk.le, Blk.pad, Data.le, Data.size, Cap.le, and_true, true_and, and_self, true_implies, implies_true, imp_self, List.length_nil]
      · (try simp only [decide_eq_true_eq, decide_eq_false_iff_not, Bool.not_eq_true', Bool.not_eq_false', beq_iff_eq, beq_eq_false_iff_ne, Int.not_lt, Int.not_le, ge_iff_le, gt_iff_lt, ne_eq, Bool.false_eq_true, Bool.true_eq_false, not_true_eq_false, not_false_eq_true, Bool.and_eq_true, Bool.not_eq_eq_eq_not, Bool.not_true, Bool.not_false, bne_iff_ne, bne_eq_false_iff_eq, Int.toNat_natCast, Nat.mul_one, Nat.add_zero, Nat.zero_add, List.take_length, List.drop_zero] at h2)
        all_goals
          refine Tree.GivesP.br (fun h3 => ?_) (fun h3 => ?_)
          · (try simp only [decide_eq_true_eq, decide_eq_false_iff_not, Bool.not_eq_true', Bool.not_eq_false', beq_iff_eq, beq_eq_false_iff_ne, Int.not_lt, Int.not_le, ge_iff_le, gt_iff_lt, ne_eq, Bool.false_eq_true, Bool.true_eq_false, not_true_eq_false, not_false_eq_true, Bool.and_eq_true, Bool.not_eq_eq_eq_not, Bool.not_true, Bool.not_false, bne_iff_ne, bne_eq_false_iff_eq, Int.toNat_natCast, Nat.mul_one, Nat.add_zero, Nat.zero_add, List.take_length, List.drop_zero] at h3)
            all_goals
              refine Tree.GivesP.ret ?_ ?_
              · simp only [AV.le, AV.leL, true_and, and_true, drV, drE]
                first | omega | (split <;> omega) | (split <;> (try split) <;> omega) | (refine ⟨?_, ?_⟩ <;> (split <;> omega)) | (refine ⟨?_, ?_, ?_⟩ <;> (split <;> omega))
              · simp only [AV.leL, AV.le, Mem.le, Mem.leP, Blk.le, Blk.pad, Data.le, Data.size, Cap.le, and_true, true_and, and_self, true_implies, implies_true, imp_self, List.length_nil]
          · (try simp only [decide_eq_true_eq, decide_eq_false_iff_not, Bool.not_eq_true', Bool.not_eq_false', beq_iff_eq, beq_eq_false_iff_ne, Int.not_lt, Int.not_le, ge_iff_le, gt_iff_lt, ne_eq, Bool.false_eq_true, Bool.true_eq_false, not_true_eq_false, not_false_eq_true, Bool.and_eq_true, Bool.not_eq_eq_eq_not, Bool.not_true, Bool.not_false, bne_iff_ne, bne_eq_false_iff_eq, Int.toNat_natCast, Nat.mul_one, Nat.add_zero, Nat.zero_add, List.take_length, List.drop_zero] at h3)
            all_goals
              refine Tree.GivesP.br (fun h4 => ?_) (fun h4 => ?_)
              · (try simp only [decide_eq_true_eq, decide_eq_false_iff_not, Bool.not_eq_true', Bool.not_eq_false', beq_iff_eq, beq_eq_false_iff_ne, Int.not_lt, Int.not_le, ge_iff_le, gt_iff_lt, ne_eq, Bool.false_eq_true, Bool.true_eq_false, not_true_eq_false, not_false_eq_true, Bool.and_eq_true, Bool.not_eq_eq_eq_not, Bool.not_true, Bool.not_false, bne_iff_ne, bne_eq_false_iff_eq, Int.toNat_natCast, Nat.mul_one, Nat.add_zero, Nat.zero_add, List.take_length, List.drop_zero] at h4)
                all_goals
                  refine Tree.GivesP.ret ?_ ?_
                  · simp only [AV.le, AV.leL, true_and, and_true, drV, drE]
                    first | omega | (split <;> omega) | (split <;> (try split) <;> omega) | (refine ⟨?_, ?_⟩ <;> (split <;> omega)) | (refine ⟨?_, ?_, ?_⟩ <;> (split <;> omega))
                  · simp only [AV.leL, AV.le, Mem.le, Mem.leP, Blk.le, Blk.pad, Data.le, Data.size, Cap.le, and_true, true_and, and_self, true_implies, implies_true, imp_self, List.length_nil]
              · (try simp only [decide_eq_true_eq, decide_eq_false_iff_not, Bool.not_eq_true', Bool.not_eq_false', beq_iff_eq, beq_eq_false_iff_ne, Int.not_lt, Int.not_le, ge_iff_le, gt_iff_lt, ne_eq, Bool.false_eq_true, Bool.true_eq_false, not_true_eq_false, not_false_eq_true, Bool.and_eq_true, Bool.not_eq_eq_eq_not, Bool.not_true, Bool.not_false, bne_iff_ne, bne_eq_false_iff_eq, Int.toNat_natCast, Nat.mul_one, Nat.add_zero, Nat.zero_add, List.take_length, List.drop_zero] at h4)
                all_goals
                  refine Tree.GivesP.chk (by first | (simp only [and_self]; done) | ((repeat' with_reducible refine And.intro ?_ ?_) <;> first | trivial | omega | (simp only [w64, wu64]; omega))) ?_
                  refine Tree.GivesP.ret ?_ ?_
                  · simp only [AV.le, AV.leL, true_and, and_true, drV, drE]
                    first | omega | (split <;> omega) | (split <;> (try split) <;> omega) | (refine ⟨?_, ?_⟩ <;> (split <;> omega)) | (refine ⟨?_, ?_, ?_⟩ <;> (split <;> omega))
                  · simp only [AV.leL, AV.le, Mem.le, Mem.leP, Blk.le, Blk.pad, Data.le, Data.size, Cap.le, and_true, true_and, and_self, true_implies, implies_true, imp_self, List.length_nil]
theorem sDrive (hall : AllOk Try.prog 0 (fun _ => none) tab10) (I : Int) (r : Int) (hw : -9223372036854775808 ≤ I ∧ I ≤ 9223372036854775807 ∧ -9223372036854775808 ≤ r ∧ r ≤ 9223372036854775807) : SoundAt (mkC Try.prog 0 (fun _ => none) []) 14 [.int .i64 false I, .int .i64 false r] [] (.tup [.int .i64 false (drV I r), .int .i64 false (drE I r)], []) := sound_ofP hall mix (tDrive I r) (gDrive I r hw)
theorem FDrive_ok (hall : AllOk Try.prog 0 (fun _ => none) tab10) : PureF Try.prog 3 14 FDrive := by
  intro xs c v news h hc
  unfold FDrive at h
  split at h
  · rename_i _ I _ r
    cases h
    refine ⟨(by intro b hb; cases hb), SoundAt.flags (sDrive hall I r hc) ?_⟩
    simp [PA.avs, AV.le, AV.leL, Cap.le]
  · cases h
end Go.Proofs.Ytoihhmpmlbdeiaa.Rig

/- Qbehind -/
namespace Go.Proofs.Ytoihhmpmlbdeiaa.Rig
open Go
set_option maxRecDepth 100000 in
theorem tbehind (r : Int) (tau : Int) (u : Int) (I : Int) (t : Int) : evBody (mkC Try.prog 0 (fun _ => none) tab11) (evCall (mkC Try.prog 0 (fun _ => none) tab11) 50) 35 [.agg [.int .i64 false r, .int .i64 false tau], .int .i64 false u, .int .i64 false I, .int .i64 false t] [] =
  Tree.chk ((True ∧ True ∧ True) ∧ (-2147483648 : Int) ≤ I ∧ I ≤ (2147483648 : Int) ∧ (0 : Int) ≤ r ∧ r ≤ (1000000 : Int))
    (Tree.chk
      ((True ∧ True ∧ True ∧ True) ∧
        (-9223372036854775808 : Int) ≤ IntKind.wrap IntKind.i64 (driveZ I r - u) ∧
          IntKind.wrap IntKind.i64 (driveZ I r - u) ≤ (9223372036854775807 : Int) ∧
            (-9223372036854775808 : Int) ≤ t ∧ t ≤ (9223372036854775807 : Int) ∧ (-9223372036854775808 : Int) ≤ IntKind.wrap IntKind.i64 (tau + t) ∧ IntKind.wrap IntKind.i64 (tau + t) ≤ (9223372036854775807 : Int))
      (Tree.ret
        (AV.int IntKind.i64 false (IntKind.wrap IntKind.i64 (u + quoV (IntKind.wrap IntKind.i64 (tau + t)) (nearZ (IntKind.wrap IntKind.i64 (driveZ I r - u) * t) (IntKind.wrap IntKind.i64 (tau + t))))), []))) := by kernel_rfl
set_option maxRecDepth 100000 in
theorem gbehind (r : Int) (tau : Int) (u : Int) (I : Int) (t : Int) (hw : okRel u I r tau t) : (Tree.chk ((True ∧ True ∧ True) ∧ (-2147483648 : Int) ≤ I ∧ I ≤ (2147483648 : Int) ∧ (0 : Int) ≤ r ∧ r ≤ (1000000 : Int))
    (Tree.chk
      ((True ∧ True ∧ True ∧ True) ∧
        (-9223372036854775808 : Int) ≤ IntKind.wrap IntKind.i64 (driveZ I r - u) ∧
          IntKind.wrap IntKind.i64 (driveZ I r - u) ≤ (9223372036854775807 : Int) ∧
            (-9223372036854775808 : Int) ≤ t ∧ t ≤ (9223372036854775807 : Int) ∧ (-9223372036854775808 : Int) ≤ IntKind.wrap IntKind.i64 (tau + t) ∧ IntKind.wrap IntKind.i64 (tau + t) ≤ (9223372036854775807 : Int))
      (Tree.ret
        (AV.int IntKind.i64 false (IntKind.wrap IntKind.i64 (u + quoV (IntKind.wrap IntKind.i64 (tau + t)) (nearZ (IntKind.wrap IntKind.i64 (driveZ I r - u) * t) (IntKind.wrap IntKind.i64 (tau + t))))), []))) : Tree (AV × Mem)).GivesP (.int .i64 false (relZ u I r tau t)) ([]) := by
  obtain ⟨⟨u0, u1, i0, i1⟩, ⟨r0, r1⟩, ⟨t0, t1⟩, k0, k1⟩ := hw
  have dk := drive_ok I r
  have nb := near_between (x := driveZ I r - u) (t := t) (T := tau + t) (by omega) (by omega) (by omega)
  have e1 : IntKind.i64.wrap (driveZ I r - u) = driveZ I r - u := by rw [w64]; omega
  have e2 : IntKind.i64.wrap (tau + t) = tau + t := by rw [w64]; omega
  obtain ⟨q1, _⟩ := quo_fit (c := tau + t) (x := nearZ ((driveZ I r - u) * t) (tau + t)) (by omega) (by omega) (by omega)
  simp only [e1, e2, q1]
  refine Tree.GivesP.chk (by first | (simp only [and_self]; done) | ((repeat' with_reducible refine And.intro ?_ ?_) <;> first | trivial | omega | (simp only [w64, wu64]; omega))) ?_
  refine Tree.GivesP.chk (by first | (simp only [and_self]; done) | ((repeat' with_reducible refine And.intro ?_ ?_) <;> first | trivial | omega | (simp only [w64, wu64]; omega))) ?_
  refine Tree.GivesP.ret ?_ ?_
  · simp only [AV.le, AV.leL, true_and, and_true, relZ, w64]
    first | omega | (split <;> omega) | (split <;> (try split) <;> omega) | (refine ⟨?_, ?_⟩ <;> (split <;> omega)) | (refine ⟨?_, ?_, ?_⟩ <;> (split <;> omega))
  · simp only [AV.leL, AV.le, Mem.le, Mem.leP, Blk.le, Blk.pad, Data.le, Data.size, Cap.le, and_true, true_and, and_self, true_implies, implies_true, imp_self, List.length_nil]
theorem sbehind (hall : AllOk Try.prog 0 (fun _ => none) tab11) (r : Int) (tau : Int) (u : Int) (I : Int) (t : Int) (hw : okRel u I r tau t) : SoundAt (mkC Try.prog 0 (fun _ => none) []) 35 [.agg [.int .i64 false r, .int .i64 false tau], .int .i64 false u, .int .i64 false I, .int .i64 false t] [] (.int .i64 false (relZ u I r tau t), []) := sound_ofP hall mix (tbehind r tau u I t) (gbehind r tau u I t hw)
theorem Fbehind_ok (hall : AllOk Try.prog 0 (fun _ => none) tab11) : PureF Try.prog 3 35 Fbehind := by
  intro xs c v news h hc
  unfold Fbehind at h
  split at h
  · rename_i _ r _ tau _ u _ I _ t
    cases h
    refine ⟨(by intro b hb; cases hb), SoundAt.flags (sbehind hall r tau u I t hc) ?_⟩
    simp [PA.avs, AV.le, AV.leL, Cap.le]
  · cases h
end Go.Proofs.Ytoihhmpmlbdeiaa.Rig

/- QRelax -/
namespace Go.Proofs.Ytoihhmpmlbdeiaa.Rig
open Go
set_option maxRecDepth 100000 in
theorem tRelax (u : Int) (I : Int) (r : Int) (tau : Int) (t : Int) : evBody (mkC Try.prog 0 (fun _ => none) tab12) (evCall (mkC Try.prog 0 (fun _ => none) tab12) 50) 15 [.int .i64 false u, .int .i64 false I, .int .i64 false r, .int .i64 false tau, .int .i64 false t] [] =
  Tree.br (decide (u < (-2147483648 : Int))) (Tree.ret (AV.tup [AV.int IntKind.i64 true (0 : Int), AV.int IntKind.i64 true (2 : Int)], []))
    (Tree.br (decide (u > (2147483648 : Int))) (Tree.ret (AV.tup [AV.int IntKind.i64 true (0 : Int), AV.int IntKind.i64 true (2 : Int)], []))
      (Tree.br (decide (I < (-2147483648 : Int))) (Tree.ret (AV.tup [AV.int IntKind.i64 true (0 : Int), AV.int IntKind.i64 true (2 : Int)], []))
        (Tree.br (decide (I > (2147483648 : Int))) (Tree.ret (AV.tup [AV.int IntKind.i64 true (0 : Int), AV.int IntKind.i64 true (2 : Int)], []))
          (Tree.br (decide (r < (0 : Int))) (Tree.ret (AV.tup [AV.int IntKind.i64 true (0 : Int), AV.int IntKind.i64 true (2 : Int)], []))
            (Tree.br (decide (r > (1000000 : Int))) (Tree.ret (AV.tup [AV.int IntKind.i64 true (0 : Int), AV.int IntKind.i64 true (2 : Int)], []))
              (Tree.br (decide (tau < (1 : Int))) (Tree.ret (AV.tup [AV.int IntKind.i64 true (0 : Int), AV.int IntKind.i64 true (2 : Int)], []))
                (Tree.br (decide (tau > (1000000000 : Int))) (Tree.ret (AV.tup [AV.int IntKind.i64 true (0 : Int), AV.int IntKind.i64 true (2 : Int)], []))
                  (Tree.br (decide (t < (1 : Int))) (Tree.ret (AV.tup [AV.int IntKind.i64 true (0 : Int), AV.int IntKind.i64 true (2 : Int)], []))
                    (Tree.br (decide (t > (60000 : Int))) (Tree.ret (AV.tup [AV.int IntKind.i64 true (0 : Int), AV.int IntKind.i64 true (2 : Int)], []))
                      (Tree.chk ((True ∧ True ∧ True ∧ True ∧ True) ∧ okRel u I r tau t) (Tree.ret (AV.tup [AV.int IntKind.i64 false (relZ u I r tau t), AV.int IntKind.i64 true (0 : Int)], [])))))))))))) := by kernel_rfl
set_option maxRecDepth 100000 in
theorem gRelax (u : Int) (I : Int) (r : Int) (tau : Int) (t : Int) (hw : -9223372036854775808 ≤ u ∧ u ≤ 9223372036854775807 ∧ -9223372036854775808 ≤ I ∧ I ≤ 9223372036854775807 ∧ -9223372036854775808 ≤ r ∧ r ≤ 9223372036854775807 ∧ -9223372036854775808 ≤ tau ∧ tau ≤ 9223372036854775807 ∧ -9223372036854775808 ≤ t ∧ t ≤ 9223372036854775807) : (Tree.br (decide (u < (-2147483648 : Int))) (Tree.ret (AV.tup [AV.int IntKind.i64 true (0 : Int), AV.int IntKind.i64 true (2 : Int)], []))
    (Tree.br (decide (u > (2147483648 : Int))) (Tree.ret (AV.tup [AV.int IntKind.i64 true (0 : Int), AV.int IntKind.i64 true (2 : Int)], []))
      (Tree.br (decide (I < (-2147483648 : Int))) (Tree.ret (AV.tup [AV.int IntKind.i64 true (0 : Int), AV.int IntKind.i64 true (2 : Int)], []))
        (Tree.br (decide (I > (2147483648 : Int))) (Tree.ret (AV.tup [AV.int IntKind.i64 true (0 : Int), AV.int IntKind.i64 true (2 : Int)], []))
          (Tree.br (decide (r < (0 : Int))) (Tree.ret (AV.tup [AV.int IntKind.i64 true (0 : Int), AV.int IntKind.i64 true (2 : Int)], []))
            (Tree.br (decide (r > (1000000 : Int))) (Tree.ret (AV.tup [AV.int IntKind.i64 true (0 : Int), AV.int IntKind.i64 true (2 : Int)], []))
              (Tree.br (decide (tau < (1 : Int))) (Tree.ret (AV.tup [AV.int IntKind.i64 true (0 : Int), AV.int IntKind.i64 true (2 : Int)], []))
                (Tree.br (decide (tau > (1000000000 : Int))) (Tree.ret (AV.tup [AV.int IntKind.i64 true (0 : Int), AV.int IntKind.i64 true (2 : Int)], []))
                  (Tree.br (decide (t < (1 : Int))) (Tree.ret (AV.tup [AV.int IntKind.i64 true (0 : Int), AV.int IntKind.i64 true (2 : Int)], []))
                    (Tree.br (decide (t > (60000 : Int))) (Tree.ret (AV.tup [AV.int IntKind.i64 true (0 : Int), AV.int IntKind.i64 true (2 : Int)], []))
                      (Tree.chk ((True ∧ True ∧ True ∧ True ∧ True) ∧ okRel u I r tau t) (Tree.ret (AV.tup [AV.int IntKind.i64 false (relZ u I r tau t), AV.int IntKind.i64 true (0 : Int)], [])))))))))))) : Tree (AV × Mem)).GivesP (.tup [.int .i64 false (rlV u I r tau t), .int .i64 false (rlE u I r tau t)]) ([]) := by
  refine Tree.GivesP.br (fun h1 => ?_) (fun h1 => ?_)
  · (try simp only [decide_eq_true_eq, decide_eq_false_iff_not, Bool.not_eq_true', Bool.not_eq_false', beq_iff_eq, beq_eq_false_iff_ne, Int.not_lt, Int.not_le, ge_iff_le, gt_iff_lt, ne_eq, Bool.false_eq_true, Bool.true_eq_false, not_true_eq_false, not_false_eq_true, Bool.and_eq_true, Bool.not_eq_eq_eq_not, Bool.not_true, Bool.not_false, bne_iff_ne, bne_eq_false_iff_eq, Int.toNat_natCast, Nat.mul_one, Nat.add_zero, Nat.zero_add, List.take_length, List.drop_zero] at h1)
    all_goals
      refine Tree.GivesP.ret ?_ ?_
      · simp only [AV.le, AV.leL, true_and, and_true, rlV, rlE]
        first | omega | (split <;> omega) | (split <;> (try split) <;> omega) | (refine ⟨?_, ?_⟩ <;> (split <;> omega)) | (refine ⟨?_, ?_, ?_⟩ <;> (split <;> omega))
      · simp only [AV.leL, AV.le, Mem.le, Mem.leP, Blk.le, Blk.pad, Data.le, Data.size, Cap.le, and_true, true_and, and_self, true_implies, implies_true, imp_self, List.length_nil]
  · (try simp only [decide_eq_true_eq, decide_eq_false_iff_not, Bool.not_eq_true', Bool.not_eq_false', beq_iff_eq, beq_eq_false_iff_ne, Int.not_lt, Int.not_le, ge_iff_le, gt_iff_lt, ne_eq, Bool.false_eq_true, Bool.true_eq_false, not_true_eq_false, not_false_eq_true, Bool.and_eq_true, Bool.not_eq_eq_eq_not, Bool.not_true, Bool.not_false, bne_iff_ne, bne_eq_false_iff_eq, Int.toNat_natCast, Nat.mul_one, Nat.add_zero, Nat.zero_add, List.take_length, List.drop_zero] at h1)
    all_goals
      refine Tree.GivesP.br (fun h2 => ?_) (fun h2 => ?_)
      · (try simp only [decide_eq_true_eq, decide_eq_false_iff_not, Bool.not_eq_true', Bool.not_eq_false', beq_iff_eq, beq_eq_false_iff_ne, Int.not_lt, Int.not_le, ge_iff_le, gt_iff_lt, ne_eq, Bool.false_eq_true, Bool.true_eq_false, not_true_eq_false, not_false_eq_true, Bool.and_eq_true, Bool.not_eq_eq_eq_not, Bool.not_true, Bool.not_false, bne_iff_ne, bne_eq_false_iff_eq, Int.toNat_natCast, Nat.mul_one, Nat.add_zero, Nat.zero_add, List.take_length, List.drop_zero] at h2)
        all_goals
          refine Tree.GivesP.ret ?_ ?_
          · simp only [AV.le, AV.leL, true_and, and_true, rlV, rlE]
            first | omega | (split <;> omega) | (split <;> (try split) <;> omega) | (refine ⟨?_, ?_⟩ <;> (split <;> omega)) | (refine ⟨?_, ?_, ?_⟩ <;> (split <;> omega))
          · simp only [AV.leL, AV.le, Mem.le, Mem.leP, Blk.le, Blk.pad, Data.le, Data.size, Cap.le, and_true, true_and, and_self, true_implies, implies_true, imp_self, List.length_nil]
      · (try simp only [decide_eq_true_eq, decide_eq_false_iff_not, Bool.not_eq_true', Bool.not_eq_false', beq_iff_eq, beq_eq_false_iff_ne, Int.not_lt, Int.not_le, ge_iff_le, gt_iff_lt, ne_eq, Bool.false_eq_true, Bool.true_eq_false, not_true_eq_false, not_false_eq_true, Bool.and_eq_true, Bool.not_eq_eq_eq_not, Bool.not_true, Bool.not_false, bne_iff_ne, bne_eq_false_iff_eq, Int.toNat_natCast, Nat.mul_one, Nat.add_zero, Nat.zero_add, List.take_length, List.drop_zero] at h2)
        all_goals
          refine Tree.GivesP.br (fun h3 => ?_) (fun h3 => ?_)
          · (try simp only [decide_eq_true_eq, decide_eq_false_iff_not, Bool.not_eq_true', Bool.not_eq_false', beq_iff_eq, beq_eq_false_iff_ne, Int.not_lt, Int.not_le, ge_iff_le, gt_iff_lt, ne_eq, Bool.false_eq_true, Bool.true_eq_false, not_true_eq_false, not_false_eq_true, Bool.and_eq_true, Bool.not_eq_eq_eq_not, Bool.not_true, Bool.not_false, bne_iff_ne, bne_eq_false_iff_eq, Int.toNat_natCast, Nat.mul_one, Nat.add_zero, Nat.zero_add, List.take_length, List.drop_zero] at h3)
            all_goals
              refine Tree.GivesP.ret ?_ ?_
              · simp only [AV.le, AV.leL, true_and, and_true, rlV, rlE]
                first | omega | (split <;> omega) | (split <;> (try split) <;> omega) | (refine ⟨?_, ?_⟩ <;> (split <;> omega)) | (refine ⟨?_, ?_, ?_⟩ <;> (split <;> omega))
              · simp only [AV.leL, AV.le, Mem.le, Mem.leP, Blk.le, Blk.pad, Data.le, Data.size, Cap.le, and_true, true_and, and_self, true_implies, implies_true, imp_self, List.length_nil]
          · (try simp only [decide_eq_true_eq, decide_eq_false_iff_not, Bool.not_eq_true', Bool.not_eq_false', beq_iff_eq, beq_eq_false_iff_ne, Int.not_lt, Int.not_le, ge_iff_le, gt_iff_lt, ne_eq, Bool.false_eq_true, Bool.true_eq_false, not_true_eq_false, not_false_eq_true, Bool.and_eq_true, Bool.not_eq_eq_eq_not, Bool.not_true, Bool.not_false, bne_iff_ne, bne_eq_false_iff_eq, Int.toNat_natCast, Nat.mul_one, Nat.add_zero, Nat.zero_add, List.take_length, List.drop_zero] at h3)
            all_goals
              refine Tree.GivesP.br (fun h4 => ?_) (fun h4 => ?_)
              · (try simp only [decide_eq_true_eq, decide_eq_false_iff_not, Bool.not_eq_true', Bool.not_eq_false', beq_iff_eq, beq_eq_false_iff_ne, Int.not_lt, Int.not_le, ge_iff_le, gt_iff_lt, ne_eq, Bool.false_eq_true, Bool.true_eq_false, not_true_eq_false, not_false_eq_true, Bool.and_eq_true, Bool.not_eq_eq_eq_not, Bool.not_true, Bool.not_false, bne_iff_ne, bne_eq_false_iff_eq, Int.toNat_natCast, Nat.mul_one, Nat.add_zero, Nat.zero_add, List.take_length, List.drop_zero] at h4)
                all_goals
                  refine Tree.GivesP.ret ?_ ?_
                  · simp only [AV.le, AV.leL, true_and, and_true, rlV, rlE]
                    first | omega | (split <;> omega) | (split <;> (try split) <;> omega) | (refine ⟨?_, ?_⟩ <;> (split <;> omega)) | (refine ⟨?_, ?_, ?_⟩ <;> (split <;> omega))
                  · simp only [AV.leL, AV.le, Mem.le, Mem.leP, Blk.le, Blk.pad, Data.le, Data.size, Cap.le, and_true, true_and, and_self, true_implies, implies_true, imp_self, List.length_nil]
              · (try simp only [decide_eq_true_eq, decide_eq_false_iff_not, Bool.not_eq_true', Bool.not_eq_false', beq_iff_eq, beq_eq_false_iff_ne, Int.not_lt, Int.not_le, ge_iff_le, gt_iff_lt, ne_eq, Bool.false_eq_true, Bool.true_eq_false, not_true_eq_false, not_false_eq_true, Bool.and_eq_true, Bool.not_eq_eq_eq_not, Bool.not_true, Bool.not_false, bne_iff_ne, bne_eq_false_iff_eq, Int.toNat_natCast, Nat.mul_one, Nat.add_zero, Nat.zero_add, List.take_length, List.drop_zero] at h4)
                all_goals
                  refine Tree.GivesP.br (fun h5 => ?_) (fun h5 => ?_)
                  · (try simp only [decide_eq_true_eq, decide_eq_false_iff_not, Bool.not_eq_true', Bool.not_eq_false', beq_iff_eq, beq_eq_false_iff_ne, Int.not_lt, Int.not_le, ge_iff_le, gt_iff_lt, ne_eq, Bool.false_eq_true, Bool.true_eq_false, not_true_eq_false, not_false_eq_true, Bool.and_eq_true, Bool.not_eq_eq_eq_not, Bool.not_true, Bool.not_false, bne_iff_ne, bne_eq_false_iff_eq, Int.toNat_natCast, Nat.mul_one, Nat.add_zero, Nat.zero_add, List.take_length, List.drop_zero] at h5)
                    all_goals
                      refine Tree.GivesP.ret ?_ ?_
                      · simp only [AV.le, AV.leL, true_and, and_true, rlV, rlE]
                        first | omega | (split <;> omega) | (split <;> (try split) <;> omega) | (refine ⟨?_, ?_⟩ <;> (split <;> omega)) | (refine ⟨?_, ?_, ?_⟩ <;> (split <;> omega))
                      · simp only [AV.leL, AV.le, Mem.le, Mem.leP, Blk.le, Blk.pad, Data.le, Data.size, Cap.le, and_true, true_and, and_self, true_implies, implies_true, imp_self, List.length_nil]
                  · (try simp only [decide_eq_true_eq, decide_eq_false_iff_not, Bool.not_eq_true', Bool.not_eq_false', beq_iff_eq, beq_eq_false_iff_ne, Int.not_lt, Int.not_le, ge_iff_le, gt_iff_lt, ne_eq, Bool.false_eq_true, Bool.true_eq_false, not_true_eq_false, not_false_eq_true, Bool.and_eq_true, Bool.not_eq_eq_eq_not, Bool.not_true, Bool.not_false, bne_iff_ne, bne_eq_false_iff_eq, Int.toNat_natCast, Nat.mul_one, Nat.add_zero, Nat.zero_add, List.take_length, List.drop_zero] at h5)
                    all_goals
                      refine Tree.GivesP.br (fun h6 => ?_) (fun h6 => ?_)
                      · (try simp only [decide_eq_true_eq, decide_eq_false_iff_not, Bool.not_eq_true', Bool.not_eq_false', beq_iff_eq, beq_eq_false_iff_ne, Int.not_lt, Int.not_le, ge_iff_le, gt_iff_lt, ne_eq, Bool.false_eq_true, Bool.true_eq_false, not_true_eq_false, not_false_eq_true, Bool.and_eq_true, Bool.not_eq_eq_eq_not, Bool.not_true, Bool.not_false, bne_iff_ne, bne_eq_false_iff_eq, Int.toNat_natCast, Nat.mul_one, Nat.add_zero, Nat.zero_add, List.take_length, List.drop_zero] at h6)
                        all_goals
                          refine Tree.GivesP.ret ?_ ?_
                          · simp only [AV.le, AV.leL, true_and, and_true, rlV, rlE]
                            first | omega | (split <;> omega) | (split <;> (try split) <;> omega) | (refine ⟨?_, ?_⟩ <;> (split <;> omega)) | (refine ⟨?_, ?_, ?_⟩ <;> (split <;> omega))
                          · simp only [AV.leL, AV.le, Mem.le, Mem.leP, Blk.le, Blk.pad, Data.le, Data.size, Cap.le, and_true, true_and, and_self, true_implies, implies_true, imp_self, List.length_nil]
                      · (try simp only [decide_eq_true_eq, decide_eq_false_iff_not, Bool.not_eq_true', Bool.not_eq_false', beq_iff_eq, beq_eq_false_iff_ne, Int.not_lt, Int.not_le, ge_iff_le, gt_iff_lt, ne_eq, Bool.false_eq_true, Bool.true_eq_false, not_true_eq_false, not_false_eq_true, Bool.and_eq_true, Bool.not_eq_eq_eq_not, Bool.not_true, Bool.not_false, bne_iff_ne, bne_eq_false_iff_eq, Int.toNat_natCast, Nat.mul_one, Nat.add_zero, Nat.zero_add, List.take_length, List.drop_zero] at h6)
                        all_goals
                          refine Tree.GivesP.br (fun h7 => ?_) (fun h7 => ?_)
                          · (try simp only [decide_eq_true_eq, decide_eq_false_iff_not, Bool.not_eq_true', Bool.not_eq_false', beq_iff_eq, beq_eq_false_iff_ne, Int.not_lt, Int.not_le, ge_iff_le, gt_iff_lt, ne_eq, Bool.false_eq_true, Bool.true_eq_false, not_true_eq_false, not_false_eq_true, Bool.and_eq_true, Bool.not_eq_eq_eq_not, Bool.not_true, Bool.not_false, bne_iff_ne, bne_eq_false_iff_eq, Int.toNat_natCast, Nat.mul_one, Nat.add_zero, Nat.zero_add, List.take_length, List.drop_zero] at h7)
                            all_goals
                              refine Tree.GivesP.ret ?_ ?_
                              · simp only [AV.le, AV.leL, true_and, and_true, rlV, rlE]
                                first | omega | (split <;> omega) | (split <;> (try split) <;> omega) | (refine ⟨?_, ?_⟩ <;> (split <;> omega)) | (refine ⟨?_, ?_, ?_⟩ <;> (split <;> omega))
                              · simp only [AV.leL, AV.le, Mem.le, Mem.leP, Blk.le, Blk.pad, Data.le, Data.size, Cap.le, and_true, true_and, and_self, true_implies, implies_true, imp_self, List.length_nil]
                          · (try simp only [decide_eq_true_eq, decide_eq_false_iff_not, Bool.not_eq_true', Bool.not_eq_false', beq_iff_eq, beq_eq_false_iff_ne, Int.not_lt, Int.not_le, ge_iff_le, gt_iff_lt, ne_eq, Bool.false_eq_true, Bool.true_eq_false, not_true_eq_false, not_false_eq_true, Bool.and_eq_true, Bool.not_eq_eq_eq_not, Bool.not_true, Bool.not_false, bne_iff_ne, bne_eq_false_iff_eq, Int.toNat_natCast, Nat.mul_one, Nat.add_zero, Nat.zero_add, List.take_length, List.drop_zero] at h7)
                            all_goals
                              refine Tree.GivesP.br (fun h8 => ?_) (fun h8 => ?_)
                              · (try simp only [decide_eq_true_eq, decide_eq_false_iff_not, Bool.not_eq_true', Bool.not_eq_false', beq_iff_eq, beq_eq_false_iff_ne, Int.not_lt, Int.not_le, ge_iff_le, gt_iff_lt, ne_eq, Bool.false_eq_true, Bool.true_eq_false, not_true_eq_false, not_false_eq_true, Bool.and_eq_true, Bool.not_eq_eq_eq_not, Bool.not_true, Bool.not_false, bne_iff_ne, bne_eq_false_iff_eq, Int.toNat_natCast, Nat.mul_one, Nat.add_zero, Nat.zero_add, List.take_length, List.drop_zero] at h8)
                                all_goals
                                  refine Tree.GivesP.ret ?_ ?_
                                  · simp only [AV.le, AV.leL, true_and, and_true, rlV, rlE]
                                    first | omega | (split <;> omega) | (split <;> (try split) <;> omega) | (refine ⟨?_, ?_⟩ <;> (split <;> omega)) | (refine ⟨?_, ?_, ?_⟩ <;> (split <;> omega))
                                  · simp only [AV.leL, AV.le, Mem.le, Mem.leP, Blk.le, Blk.pad, Data.le, Data.size, Cap.le, and_true, true_and, and_self, true_implies, implies_true, imp_self, List.length_nil]
                              · (try simp only [decide_eq_true_eq, decide_eq_false_iff_not, Bool.not_eq_true', Bool.not_eq_false', beq_iff_eq, beq_eq_false_iff_ne, Int.not_lt, Int.not_le, ge_iff_le, gt_iff_lt, ne_eq, Bool.false_eq_true, Bool.true_eq_false, not_true_eq_false, not_false_eq_true, Bool.and_eq_true, Bool.not_eq_eq_eq_not, Bool.not_true, Bool.not_false, bne_iff_ne, bne_eq_false_iff_eq, Int.toNat_natCast, Nat.mul_one, Nat.add_zero, Nat.zero_add, List.take_length, List.drop_zero] at h8)
                                all_goals
                                  refine Tree.GivesP.br (fun h9 => ?_) (fun h9 => ?_)
                                  · (try simp only [decide_eq_true_eq, decide_eq_false_iff_not, Bool.not_eq_true', Bool.not_eq_false', beq_iff_eq, beq_eq_false_iff_ne, Int.not_lt, Int.not_le, ge_iff_le, gt_iff_lt, ne_eq, Bool.false_eq_true, Bool.true_eq_false, not_true_eq_false, not_false_eq_true, Bool.and_eq_true, Bool.not_eq_eq_eq_not, Bool.not_true, Bool.not_false, bne_iff_ne, bne_eq_false_iff_eq, Int.toNat_natCast, Nat.mul_one, Nat.add_zero, Nat.zero_add, List.take_length, List.drop_zero] at h9)
                                    all_goals
                                      refine Tree.GivesP.ret ?_ ?_
                                      · simp only [AV.le, AV.leL, true_and, and_true, rlV, rlE]
                                        first | omega | (split <;> omega) | (split <;> (try split) <;> omega) | (refine ⟨?_, ?_⟩ <;> (split <;> omega)) | (refine ⟨?_, ?_, ?_⟩ <;> (split <;> omega))
                                      · simp only [AV.leL, AV.le, Mem.le, Mem.leP, Blk.le, Blk.pad, Data.le, Data.size, Cap.le, and_true, true_and, and_self, true_implies, implies_true, imp_self, List.length_nil]
                                  · (try simp only [decide_eq_true_eq, decide_eq_false_iff_not, Bool.not_eq_true', Bool.not_eq_false', beq_iff_eq, beq_eq_false_iff_ne, Int.not_lt, Int.not_le, ge_iff_le, gt_iff_lt, ne_eq, Bool.false_eq_true, Bool.true_eq_false, not_true_eq_false, not_false_eq_true, Bool.and_eq_true, Bool.not_eq_eq_eq_not, Bool.not_true, Bool.not_false, bne_iff_ne, bne_eq_false_iff_eq, Int.toNat_natCast, Nat.mul_one, Nat.add_zero, Nat.zero_add, List.take_length, List.drop_zero] at h9)
                                    all_goals
                                      refine Tree.GivesP.br (fun h10 => ?_) (fun h10 => ?_)
                                      · (try simp only [decide_eq_true_eq, decide_eq_false_iff_not, Bool.not_eq_true', Bool.not_eq_false', beq_iff_eq, beq_eq_false_iff_ne, Int.not_lt, Int.not_le, ge_iff_le, gt_iff_lt, ne_eq, Bool.false_eq_true, Bool.true_eq_false, not_true_eq_false, not_false_eq_true, Bool.and_eq_true, Bool.not_eq_eq_eq_not, Bool.not_true, Bool.not_false, bne_iff_ne, bne_eq_false_iff_eq, Int.toNat_natCast, Nat.mul_one, Nat.add_zero, Nat.zero_add, List.take_length, List.drop_zero] at h10)
                                        all_goals
                                          refine Tree.GivesP.ret ?_ ?_
                                          · simp only [AV.le, AV.leL, true_and, and_true, rlV, rlE]
                                            first | omega | (split <;> omega) | (split <;> (try split) <;> omega) | (refine ⟨?_, ?_⟩ <;> (split <;> omega)) | (refine ⟨?_, ?_, ?_⟩ <;> (split <;> omega))
                                          · simp only [AV.leL, AV.le, Mem.le, Mem.leP, Blk.le, Blk.pad, Data.le, Data.size, Cap.le, and_true, true_and, and_self, true_implies, implies_true, imp_self, List.length_nil]
                                      · (try simp only [decide_eq_true_eq, decide_eq_false_iff_not, Bool.not_eq_true', Bool.not_eq_false', beq_iff_eq, beq_eq_false_iff_ne, Int.not_lt, Int.not_le, ge_iff_le, gt_iff_lt, ne_eq, Bool.false_eq_true, Bool.true_eq_false, not_true_eq_false, not_false_eq_true, Bool.and_eq_true, Bool.not_eq_eq_eq_not, Bool.not_true, Bool.not_false, bne_iff_ne, bne_eq_false_iff_eq, Int.toNat_natCast, Nat.mul_one, Nat.add_zero, Nat.zero_add, List.take_length, List.drop_zero] at h10)
                                        all_goals
                                          refine Tree.GivesP.chk (by first | (simp only [and_self]; done) | (exact ⟨⟨trivial, trivial, trivial, trivial, trivial⟩, by omega⟩)) ?_
                                          refine Tree.GivesP.ret ?_ ?_
                                          · simp only [AV.le, AV.leL, true_and, and_true, rlV, rlE]
                                            first | omega | (split <;> omega) | (split <;> (try split) <;> omega) | (refine ⟨?_, ?_⟩ <;> (split <;> omega)) | (refine ⟨?_, ?_, ?_⟩ <;> (split <;> omega))
                                          · simp only [AV.leL, AV.le, Mem.le, Mem.leP, Blk.le, Blk.pad, Data.le, Data.size, Cap.le, and_true, true_and, and_self, true_implies, implies_true, imp_self, List.length_nil]
theorem sRelax (hall : AllOk Try.prog 0 (fun _ => none) tab12) (u : Int) (I : Int) (r : Int) (tau : Int) (t : Int) (hw : -9223372036854775808 ≤ u ∧ u ≤ 9223372036854775807 ∧ -9223372036854775808 ≤ I ∧ I ≤ 9223372036854775807 ∧ -9223372036854775808 ≤ r ∧ r ≤ 9223372036854775807 ∧ -9223372036854775808 ≤ tau ∧ tau ≤ 9223372036854775807 ∧ -9223372036854775808 ≤ t ∧ t ≤ 9223372036854775807) : SoundAt (mkC Try.prog 0 (fun _ => none) []) 15 [.int .i64 false u, .int .i64 false I, .int .i64 false r, .int .i64 false tau, .int .i64 false t] [] (.tup [.int .i64 false (rlV u I r tau t), .int .i64 false (rlE u I r tau t)], []) := sound_ofP hall mix (tRelax u I r tau t) (gRelax u I r tau t hw)
theorem FRelax_ok (hall : AllOk Try.prog 0 (fun _ => none) tab12) : PureF Try.prog 3 15 FRelax := by
  intro xs c v news h hc
  unfold FRelax at h
  split at h
  · rename_i _ u _ I _ r _ tau _ t
    cases h
    refine ⟨(by intro b hb; cases hb), SoundAt.flags (sRelax hall u I r tau t hc) ?_⟩
    simp [PA.avs, AV.le, AV.leL, Cap.le]
  · cases h
end Go.Proofs.Ytoihhmpmlbdeiaa.Rig

/- QCheck -/
namespace Go.Proofs.Ytoihhmpmlbdeiaa.Rig
open Go
set_option maxRecDepth 100000 in
theorem tCheck (R0 : Int) (R1 : Int) (R2 : Int) (T1 : Int) (T2 : Int) (Cm : Int) (Sl : Int) (Tk : Int) : evBody (mkC Try.prog 0 (fun _ => none) tab13) (evCall (mkC Try.prog 0 (fun _ => none) tab13) 50) 22 [.agg [.int .i64 false R0, .int .i64 false R1, .int .i64 false R2, .int .i64 false T1, .int .i64 false T2, .int .i64 false Cm, .int .i64 false Sl, .int .i64 false Tk]] [] =
  Tree.br (decide (R0 < (0 : Int))) (Tree.ret (AV.int IntKind.i64 true (2 : Int), []))
    (Tree.br (decide (R0 > (1000000 : Int))) (Tree.ret (AV.int IntKind.i64 true (2 : Int), []))
      (Tree.br (decide (R1 < (0 : Int))) (Tree.ret (AV.int IntKind.i64 true (2 : Int), []))
        (Tree.br (decide (R1 > (1000000 : Int))) (Tree.ret (AV.int IntKind.i64 true (2 : Int), []))
          (Tree.br (decide (R2 < (0 : Int))) (Tree.ret (AV.int IntKind.i64 true (2 : Int), []))
            (Tree.br (decide (R2 > (1000000 : Int))) (Tree.ret (AV.int IntKind.i64 true (2 : Int), []))
              (Tree.br (decide (T1 < (1 : Int))) (Tree.ret (AV.int IntKind.i64 true (2 : Int), []))
                (Tree.br (decide (T1 > (1000000000 : Int))) (Tree.ret (AV.int IntKind.i64 true (2 : Int), []))
                  (Tree.br (decide (T2 < (1 : Int))) (Tree.ret (AV.int IntKind.i64 true (2 : Int), []))
                    (Tree.br (decide (T2 > (1000000000 : Int))) (Tree.ret (AV.int IntKind.i64 true (2 : Int), []))
                      (Tree.br (decide (Tk < (1 : Int))) (Tree.ret (AV.int IntKind.i64 true (2 : Int), []))
                        (Tree.br (decide (Tk > (1000000000 : Int))) (Tree.ret (AV.int IntKind.i64 true (2 : Int), []))
                          (Tree.br (decide (Cm < (0 : Int))) (Tree.ret (AV.int IntKind.i64 true (2 : Int), []))
                            (Tree.br (decide (Cm > (2147483648 : Int))) (Tree.ret (AV.int IntKind.i64 true (2 : Int), []))
                              (Tree.br (decide (Sl < (0 : Int))) (Tree.ret (AV.int IntKind.i64 true (2 : Int), []))
                                (Tree.br (decide (Sl > (2147483648 : Int))) (Tree.ret (AV.int IntKind.i64 true (2 : Int), [])) (Tree.ret (AV.int IntKind.i64 true (0 : Int), []))))))))))))))))) := by kernel_rfl
set_option maxRecDepth 100000 in
theorem gCheck (R0 : Int) (R1 : Int) (R2 : Int) (T1 : Int) (T2 : Int) (Cm : Int) (Sl : Int) (Tk : Int) (hw : -9223372036854775808 ≤ R0 ∧ R0 ≤ 9223372036854775807 ∧ -9223372036854775808 ≤ R1 ∧ R1 ≤ 9223372036854775807 ∧ -9223372036854775808 ≤ R2 ∧ R2 ≤ 9223372036854775807 ∧ -9223372036854775808 ≤ T1 ∧ T1 ≤ 9223372036854775807 ∧ -9223372036854775808 ≤ T2 ∧ T2 ≤ 9223372036854775807 ∧ -9223372036854775808 ≤ Cm ∧ Cm ≤ 9223372036854775807 ∧ -9223372036854775808 ≤ Sl ∧ Sl ≤ 9223372036854775807 ∧ -9223372036854775808 ≤ Tk ∧ Tk ≤ 9223372036854775807) : (Tree.br (decide (R0 < (0 : Int))) (Tree.ret (AV.int IntKind.i64 true (2 : Int), []))
    (Tree.br (decide (R0 > (1000000 : Int))) (Tree.ret (AV.int IntKind.i64 true (2 : Int), []))
      (Tree.br (decide (R1 < (0 : Int))) (Tree.ret (AV.int IntKind.i64 true (2 : Int), []))
        (Tree.br (decide (R1 > (1000000 : Int))) (Tree.ret (AV.int IntKind.i64 true (2 : Int), []))
          (Tree.br (decide (R2 < (0 : Int))) (Tree.ret (AV.int IntKind.i64 true (2 : Int), []))
            (Tree.br (decide (R2 > (1000000 : Int))) (Tree.ret (AV.int IntKind.i64 true (2 : Int), []))
              (Tree.br (decide (T1 < (1 : Int))) (Tree.ret (AV.int IntKind.i64 true (2 : Int), []))
                (Tree.br (decide (T1 > (1000000000 : Int))) (Tree.ret (AV.int IntKind.i64 true (2 : Int), []))
                  (Tree.br (decide (T2 < (1 : Int))) (Tree.ret (AV.int IntKind.i64 true (2 : Int), []))
                    (Tree.br (decide (T2 > (1000000000 : Int))) (Tree.ret (AV.int IntKind.i64 true (2 : Int), []))
                      (Tree.br (decide (Tk < (1 : Int))) (Tree.ret (AV.int IntKind.i64 true (2 : Int), []))
                        (Tree.br (decide (Tk > (1000000000 : Int))) (Tree.ret (AV.int IntKind.i64 true (2 : Int), []))
                          (Tree.br (decide (Cm < (0 : Int))) (Tree.ret (AV.int IntKind.i64 true (2 : Int), []))
                            (Tree.br (decide (Cm > (2147483648 : Int))) (Tree.ret (AV.int IntKind.i64 true (2 : Int), []))
                              (Tree.br (decide (Sl < (0 : Int))) (Tree.ret (AV.int IntKind.i64 true (2 : Int), []))
                                (Tree.br (decide (Sl > (2147483648 : Int))) (Tree.ret (AV.int IntKind.i64 true (2 : Int), [])) (Tree.ret (AV.int IntKind.i64 true (0 : Int), []))))))))))))))))) : Tree (AV × Mem)).GivesP (.int .i64 false (ckE R0 R1 R2 T1 T2 Cm Sl Tk)) ([]) := by
  refine Tree.GivesP.br (fun h1 => ?_) (fun h1 => ?_)
  · (try simp only [decide_eq_true_eq, decide_eq_false_iff_not, Bool.not_eq_true', Bool.not_eq_false', beq_iff_eq, beq_eq_false_iff_ne, Int.not_lt, Int.not_le, ge_iff_le, gt_iff_lt, ne_eq, Bool.false_eq_true, Bool.true_eq_false, not_true_eq_false, not_false_eq_true, Bool.and_eq_true, Bool.not_eq_eq_eq_not, Bool.not_true, Bool.not_false, bne_iff_ne, bne_eq_false_iff_eq, Int.toNat_natCast, Nat.mul_one, Nat.add_zero, Nat.zero_add, List.take_length, List.drop_zero] at h1)
    all_goals
      refine Tree.GivesP.ret ?_ ?_
      · simp only [AV.le, AV.leL, true_and, and_true, ckE]
        first | omega | (split <;> omega) | (split <;> (try split) <;> omega) | (refine ⟨?_, ?_⟩ <;> (split <;> omega)) | (refine ⟨?_, ?_, ?_⟩ <;> (split <;> omega))
      · simp only [AV.leL, AV.le, Mem.le, Mem.leP, Blk.le, Blk.pad, Data.le, Data.size, Cap.le, and_true, true_and, and_self, true_implies, implies_true, imp_self, List.length_nil]
  · (try simp only [decide_eq_true_eq, decide_eq_false_iff_not, Bool.not_eq_true', Bool.not_eq_false', beq_iff_eq, beq_eq_false_iff_ne, Int.not_lt, Int.not_le, ge_iff_le, gt_iff_lt, ne_eq, Bool.false_eq_true, Bool.true_eq_false, not_true_eq_false, not_false_eq_true, Bool.and_eq_true, Bool.not_eq_eq_eq_not, Bool.not_true, Bool.not_false, bne_iff_ne, bne_eq_false_iff_eq, Int.toNat_natCast, Nat.mul_one, Nat.add_zero, Nat.zero_add, List.take_length, List.drop_zero] at h1)
    all_goals
      refine Tree.GivesP.br (fun h2 => ?_) (fun h2 => ?_)
      · (try simp only [decide_eq_true_eq, decide_eq_false_iff_not, Bool.not_eq_true', Bool.not_eq_false', beq_iff_eq, beq_eq_false_iff_ne, Int.not_lt, Int.not_le, ge_iff_le, gt_iff_lt, ne_eq, Bool.false_eq_true, Bool.true_eq_false, not_true_eq_false, not_false_eq_true, Bool.and_eq_true, Bool.not_eq_eq_eq_not, Bool.not_true, Bool.not_false, bne_iff_ne, bne_eq_false_iff_eq, Int.toNat_natCast, Nat.mul_one, Nat.add_zero, Nat.zero_add, List.take_length, List.drop_zero] at h2)
        all_goals
          refine Tree.GivesP.ret ?_ ?_
          · simp only [AV.le, AV.leL, true_and, and_true, ckE]
            first | omega | (split <;> omega) | (split <;> (try split) <;> omega) | (refine ⟨?_, ?_⟩ <;> (split <;> omega)) | (refine ⟨?_, ?_, ?_⟩ <;> (split <;> omega))
          · simp only [AV.leL, AV.le, Mem.le, Mem.leP, Blk.le, Blk.pad, Data.le, Data.size, Cap.le, and_true, true_and, and_self, true_implies, implies_true, imp_self, List.length_nil]
      · (try simp only [decide_eq_true_eq, decide_eq_false_iff_not, Bool.not_eq_true', Bool.not_eq_false', beq_iff_eq, beq_eq_false_iff_ne, Int.not_lt, Int.not_le, ge_iff_le, gt_iff_lt, ne_eq, Bool.false_eq_true, Bool.true_eq_false, not_true_eq_false, not_false_eq_true, Bool.and_eq_true, Bool.not_eq_eq_eq_not, Bool.not_true, Bool.not_false, bne_iff_ne, bne_eq_false_iff_eq, Int.toNat_natCast, Nat.mul_one, Nat.add_zero, Nat.zero_add, List.take_length, List.drop_zero] at h2)
        all_goals
          refine Tree.GivesP.br (fun h3 => ?_) (fun h3 => ?_)
          · (try simp only [decide_eq_true_eq, decide_eq_false_iff_not, Bool.not_eq_true', Bool.not_eq_false', beq_iff_eq, beq_eq_false_iff_ne, Int.not_lt, Int.not_le, ge_iff_le, gt_iff_lt, ne_eq, Bool.false_eq_true, Bool.true_eq_false, not_true_eq_false, not_false_eq_true, Bool.and_eq_true, Bool.not_eq_eq_eq_not, Bool.not_true, Bool.not_false, bne_iff_ne, bne_eq_false_iff_eq, Int.toNat_natCast, Nat.mul_one, Nat.add_zero, Nat.zero_add, List.take_length, List.drop_zero] at h3)
            all_goals
              refine Tree.GivesP.ret ?_ ?_
              · simp only [AV.le, AV.leL, true_and, and_true, ckE]
                first | omega | (split <;> omega) | (split <;> (try split) <;> omega) | (refine ⟨?_, ?_⟩ <;> (split <;> omega)) | (refine ⟨?_, ?_, ?_⟩ <;> (split <;> omega))
              · simp only [AV.leL, AV.le, Mem.le, Mem.leP, Blk.le, Blk.pad, Data.le, Data.size, Cap.le, and_true, true_and, and_self, true_implies, implies_true, imp_self, List.length_nil]
          · (try simp only [decide_eq_true_eq, decide_eq_false_iff_not, Bool.not_eq_true', Bool.not_eq_false', beq_iff_eq, beq_eq_false_iff_ne, Int.not_lt, Int.not_le, ge_iff_le, gt_iff_lt, ne_eq, Bool.false_eq_true, Bool.true_eq_false, not_true_eq_false, not_false_eq_true, Bool.and_eq_true, Bool.not_eq_eq_eq_not, Bool.not_true, Bool.not_false, bne_iff_ne, bne_eq_false_iff_eq, Int.toNat_natCast, Nat.mul_one, Nat.add_zero, Nat.zero_add, List.take_length, List.drop_zero] at h3)
            all_goals
              refine Tree.GivesP.br (fun h4 => ?_) (fun h4 => ?_)
              · (try simp only [decide_eq_true_eq, decide_eq_false_iff_not, Bool.not_eq_true', Bool.not_eq_false', beq_iff_eq, beq_eq_false_iff_ne, Int.not_lt, Int.not_le, ge_iff_le, gt_iff_lt, ne_eq, Bool.false_eq_true, Bool.true_eq_false, not_true_eq_false, not_false_eq_true, Bool.and_eq_true, Bool.not_eq_eq_eq_not, Bool.not_true, Bool.not_false, bne_iff_ne, bne_eq_false_iff_eq, Int.toNat_natCast, Nat.mul_one, Nat.add_zero, Nat.zero_add, List.take_length, List.drop_zero] at h4)
                all_goals
                  refine Tree.GivesP.ret ?_ ?_
                  · simp only [AV.le, AV.leL, true_and, and_true, ckE]
                    first | omega | (split <;> omega) | (split <;> (try split) <;> omega) | (refine ⟨?_, ?_⟩ <;> (split <;> omega)) | (refine ⟨?_, ?_, ?_⟩ <;> (split <;> omega))
                  · simp only [AV.leL, AV.le, Mem.le, Mem.leP, Blk.le, Blk.pad, Data.le, Data.size, Cap.le, and_true, true_and, and_self, true_implies, implies_true, imp_self, List.length_nil]
              · (try simp only [decide_eq_true_eq, decide_eq_false_iff_not, Bool.not_eq_true', Bool.not_eq_false', beq_iff_eq, beq_eq_false_iff_ne, Int.not_lt, Int.not_le, ge_iff_le, gt_iff_lt, ne_eq, Bool.false_eq_true, Bool.true_eq_false, not_true_eq_false, not_false_eq_true, Bool.and_eq_true, Bool.not_eq_eq_eq_not, Bool.not_true, Bool.not_false, bne_iff_ne, bne_eq_false_iff_eq, Int.toNat_natCast, Nat.mul_one, Nat.add_zero, Nat.zero_add, List.take_length, List.drop_zero] at h4)
                all_goals
                  refine Tree.GivesP.br (fun h5 => ?_) (fun h5 => ?_)
                  · (try simp only [decide_eq_true_eq, decide_eq_false_iff_not, Bool.not_eq_true', Bool.not_eq_false', beq_iff_eq, beq_eq_false_iff_ne, Int.not_lt, Int.not_le, ge_iff_le, gt_iff_lt, ne_eq, Bool.false_eq_true, Bool.true_eq_false, not_true_eq_false, not_false_eq_true, Bool.and_eq_true, Bool.not_eq_eq_eq_not, Bool.not_true, Bool.not_false, bne_iff_ne, bne_eq_false_iff_eq, Int.toNat_natCast, Nat.mul_one, Nat.add_zero, Nat.zero_add, List.take_length, List.drop_zero] at h5)
                    all_goals
                      refine Tree.GivesP.ret ?_ ?_
                      · simp only [AV.le, AV.leL, true_and, and_true, ckE]
                        first | omega | (split <;> omega) | (split <;> (try split) <;> omega) | (refine ⟨?_, ?_⟩ <;> (split <;> omega)) | (refine ⟨?_, ?_, ?_⟩ <;> (split <;> omega))
                      · simp only [AV.leL, AV.le, Mem.le, Mem.leP, Blk.le, Blk.pad, Data.le, Data.size, Cap.le, and_true, true_and, and_self, true_implies, implies_true, imp_self, List.length_nil]
                  · (try simp only [decide_eq_true_eq, decide_eq_false_iff_not, Bool.not_eq_true', Bool.not_eq_false', beq_iff_eq, beq_eq_false_iff_ne, Int.not_lt, Int.not_le, ge_iff_le, gt_iff_lt, ne_eq, Bool.false_eq_true, Bool.true_eq_false, not_true_eq_false, not_false_eq_true, Bool.and_eq_true, Bool.not_eq_eq_eq_not, Bool.not_true, Bool.not_false, bne_iff_ne, bne_eq_false_iff_eq, Int.toNat_natCast, Nat.mul_one, Nat.add_zero, Nat.zero_add, List.take_length, List.drop_zero] at h5)
                    all_goals
                      refine Tree.GivesP.br (fun h6 => ?_) (fun h6 => ?_)
                      · (try simp only [decide_eq_true_eq, decide_eq_false_iff_not, Bool.not_eq_true', Bool.not_eq_false', beq_iff_eq, beq_eq_false_iff_ne, Int.not_lt, Int.not_le, ge_iff_le, gt_iff_lt, ne_eq, Bool.false_eq_true, Bool.true_eq_false, not_true_eq_false, not_false_eq_true, Bool.and_eq_true, Bool.not_eq_eq_eq_not, Bool.not_true, Bool.not_false, bne_iff_ne, bne_eq_false_iff_eq, Int.toNat_natCast, Nat.mul_one, Nat.add_zero, Nat.zero_add, List.take_length, List.drop_zero] at h6)
                        all_goals
                          refine Tree.GivesP.ret ?_ ?_
                          · simp only [AV.le, AV.leL, true_and, and_true, ckE]
                            first | omega | (split <;> omega) | (split <;> (try split) <;> omega) | (refine ⟨?_, ?_⟩ <;> (split <;> omega)) | (refine ⟨?_, ?_, ?_⟩ <;> (split <;> omega))
                          · simp only [AV.leL, AV.le, Mem.le, Mem.leP, Blk.le, Blk.pad, Data.le, Data.size, Cap.le, and_true, true_and, and_self, true_implies, implies_true, imp_self, List.length_nil]
                      · (try simp only [decide_eq_true_eq, decide_eq_false_iff_not, Bool.not_eq_true', Bool.not_eq_false', beq_iff_eq, beq_eq_false_iff_ne, Int.not_lt, Int.not_le, ge_iff_le, gt_iff_lt, ne_eq, Bool.false_eq_true, Bool.true_eq_false, not_true_eq_false, not_false_eq_true, Bool.and_eq_true, Bool.not_eq_eq_eq_not, Bool.not_true, Bool.not_false, bne_iff_ne, bne_eq_false_iff_eq, Int.toNat_natCast, Nat.mul_one, Nat.add_zero, Nat.zero_add, List.take_length, List.drop_zero] at h6)
                        all_goals
                          refine Tree.GivesP.br (fun h7 => ?_) (fun h7 => ?_)
                          · (try simp only [decide_eq_true_eq, decide_eq_false_iff_not, Bool.not_eq_true', Bool.not_eq_false', beq_iff_eq, beq_eq_false_iff_ne, Int.not_lt, Int.not_le, ge_iff_le, gt_iff_lt, ne_eq, Bool.false_eq_true, Bool.true_eq_false, not_true_eq_false, not_false_eq_true, Bool.and_eq_true, Bool.not_eq_eq_eq_not, Bool.not_true, Bool.not_false, bne_iff_ne, bne_eq_false_iff_eq, Int.toNat_natCast, Nat.mul_one, Nat.add_zero, Nat.zero_add, List.take_length, List.drop_zero] at h7)
                            all_goals
                              refine Tree.GivesP.ret ?_ ?_
                              · simp only [AV.le, AV.leL, true_and, and_true, ckE]
                                first | omega | (split <;> omega) | (split <;> (try split) <;> omega) | (refine ⟨?_, ?_⟩ <;> (split <;> omega)) | (refine ⟨?_, ?_, ?_⟩ <;> (split <;> omega))
                              · simp only [AV.leL, AV.le, Mem.le, Mem.leP, Blk.le, Blk.pad, Data.le, Data.size, Cap.le, and_true, true_and, and_self, true_implies, implies_true, imp_self, List.length_nil]
                          · (try simp only [decide_eq_true_eq, decide_eq_false_iff_not, Bool.not_eq_true', Bool.not_eq_false', beq_iff_eq, beq_eq_false_iff_ne, Int.not_lt, Int.not_le, ge_iff_le, gt_iff_lt, ne_eq, Bool.false_eq_true, Bool.true_eq_false, not_true_eq_false, not_false_eq_true, Bool.and_eq_true, Bool.not_eq_eq_eq_not, Bool.not_true, Bool.not_false, bne_iff_ne, bne_eq_false_iff_eq, Int.toNat_natCast, Nat.mul_one, Nat.add_zero, Nat.zero_add, List.take_length, List.drop_zero] at h7)
                            all_goals
                              refine Tree.GivesP.br (fun h8 => ?_) (fun h8 => ?_)
                              · (try simp only [decide_eq_true_eq, decide_eq_false_iff_not, Bool.not_eq_true', Bool.not_eq_false', beq_iff_eq, beq_eq_false_iff_ne, Int.not_lt, Int.not_le, ge_iff_le, gt_iff_lt, ne_eq, Bool.false_eq_true, Bool.true_eq_false, not_true_eq_false, not_false_eq_true, Bool.and_eq_true, Bool.not_eq_eq_eq_not, Bool.not_true, Bool.not_false, bne_iff_ne, bne_eq_false_iff_eq, Int.toNat_natCast, Nat.mul_one, Nat.add_zero, Nat.zero_add, List.take_length, List.drop_zero] at h8)
                                all_goals
                                  refine Tree.GivesP.ret ?_ ?_
                                  · simp only [AV.le, AV.leL, true_and, and_true, ckE]
                                    first | omega | (split <;> omega) | (split <;> (try split) <;> omega) | (refine ⟨?_, ?_⟩ <;> (split <;> omega)) | (refine ⟨?_, ?_, ?_⟩ <;> (split <;> omega))
                                  · simp only [AV.leL, AV.le, Mem.le, Mem.leP, Blk.le, Blk.pad, Data.le, Data.size, Cap.le, and_true, true_and, and_self, true_implies, implies_true, imp_self, List.length_nil]
                              · (try simp only [decide_eq_true_eq, decide_eq_false_iff_not, Bool.not_eq_true', Bool.not_eq_false', beq_iff_eq, beq_eq_false_iff_ne, Int.not_lt, Int.not_le, ge_iff_le, gt_iff_lt, ne_eq, Bool.false_eq_true, Bool.true_eq_false, not_true_eq_false, not_false_eq_true, Bool.and_eq_true, Bool.not_eq_eq_eq_not, Bool.not_true, Bool.not_false, bne_iff_ne, bne_eq_false_iff_eq, Int.toNat_natCast, Nat.mul_one, Nat.add_zero, Nat.zero_add, List.take_length, List.drop_zero] at h8)
                                all_goals
                                  refine Tree.GivesP.br (fun h9 => ?_) (fun h9 => ?_)
                                  · (try simp only [decide_eq_true_eq, decide_eq_false_iff_not, Bool.not_eq_true', Bool.not_eq_false', beq_iff_eq, beq_eq_false_iff_ne, Int.not_lt, Int.not_le, ge_iff_le, gt_iff_lt, ne_eq, Bool.false_eq_true, Bool.true_eq_false, not_true_eq_false, not_false_eq_true, Bool.and_eq_true, Bool.not_eq_eq_eq_not, Bool.not_true, Bool.not_false, bne_iff_ne, bne_eq_false_iff_eq, Int.toNat_natCast, Nat.mul_one, Nat.add_zero, Nat.zero_add, List.take_length, List.drop_zero] at h9)
                                    all_goals
                                      refine Tree.GivesP.ret ?_ ?_
                                      · simp only [AV.le, AV.leL, true_and, and_true, ckE]
                                        first | omega | (split <;> omega) | (split <;> (try split) <;> omega) | (refine ⟨?_, ?_⟩ <;> (split <;> omega)) | (refine ⟨?_, ?_, ?_⟩ <;> (split <;> omega))
                                      · simp only [AV.leL, AV.le, Mem.le, Mem.leP, Blk.le, Blk.pad, Data.le, Data.size, Cap.le, and_true, true_and, and_self, true_implies, implies_true, imp_self, List.length_nil]
                                  · (try simp only [decide_eq_true_eq, decide_eq_false_iff_not, Bool.not_eq_true', Bool.not_eq_false', beq_iff_eq, beq_eq_false_iff_ne, Int.not_lt, Int.not_le, ge_iff_le, gt_iff_lt, ne_eq, Bool.false_eq_true, Bool.true_eq_false, not_true_eq_false, not_false_eq_true, Bool.and_eq_true, Bool.not_eq_eq_eq_not, Bool.not_true, Bool.not_false, bne_iff_ne, bne_eq_false_iff_eq, Int.toNat_natCast, Nat.mul_one, Nat.add_zero, Nat.zero_add, List.take_length, List.drop_zero] at h9)
                                    all_goals
                                      refine Tree.GivesP.br (fun h10 => ?_) (fun h10 => ?_)
                                      · (try simp only [decide_eq_true_eq, decide_eq_false_iff_not, Bool.not_eq_true', Bool.not_eq_false', beq_iff_eq, beq_eq_false_iff_ne, Int.not_lt, Int.not_le, ge_iff_le, gt_iff_lt, ne_eq, Bool.false_eq_true, Bool.true_eq_false, not_true_eq_false, not_false_eq_true, Bool.and_eq_true, Bool.not_eq_eq_eq_not, Bool.not_true, Bool.not_false, bne_iff_ne, bne_eq_false_iff_eq, Int.toNat_natCast, Nat.mul_one, Nat.add_zero, Nat.zero_add, List.take_length, List.drop_zero] at h10)
                                        all_goals
                                          refine Tree.GivesP.ret ?_ ?_
                                          · simp only [AV.le, AV.leL, true_and, and_true, ckE]
                                            first | omega | (split <;> omega) | (split <;> (try split) <;> omega) | (refine ⟨?_, ?_⟩ <;> (split <;> omega)) | (refine ⟨?_, ?_, ?_⟩ <;> (split <;> omega))
                                          · simp only [AV.leL, AV.le, Mem.le, Mem.leP, Blk.le, Blk.pad, Data.le, Data.size, Cap.le, and_true, true_and, and_self, true_implies, implies_true, imp_self, List.length_nil]
                                      · (try simp only [decide_eq_true_eq, decide_eq_false_iff_not, Bool.not_eq_true', Bool.not_eq_false', beq_iff_eq, beq_eq_false_iff_ne, Int.not_lt, Int.not_le, ge_iff_le, gt_iff_lt, ne_eq, Bool.false_eq_true, Bool.true_eq_false, not_true_eq_false, not_false_eq_true, Bool.and_eq_true, Bool.not_eq_eq_eq_not, Bool.not_true, Bool.not_false, bne_iff_ne, bne_eq_false_iff_eq, Int.toNat_natCast, Nat.mul_one, Nat.add_zero, Nat.zero_add, List.take_length, List.drop_zero] at h10)
                                        all_goals
                                          refine Tree.GivesP.br (fun h11 => ?_) (fun h11 => ?_)
                                          · (try simp only [decide_eq_true_eq, decide_eq_false_iff_not, Bool.not_eq_true', Bool.not_eq_false', beq_iff_eq, beq_eq_false_iff_ne, Int.not_lt, Int.not_le, ge_iff_le, gt_iff_lt, ne_eq, Bool.false_eq_true, Bool.true_eq_false, not_true_eq_false, not_false_eq_true, Bool.and_eq_true, Bool.not_eq_eq_eq_not, Bool.not_true, Bool.not_false, bne_iff_ne, bne_eq_false_iff_eq, Int.toNat_natCast, Nat.mul_one, Nat.add_zero, Nat.zero_add, List.take_length, List.drop_zero] at h11)
                                            all_goals
                                              refine Tree.GivesP.ret ?_ ?_
                                              · simp only [AV.le, AV.leL, true_and, and_true, ckE]
                                                first | omega | (split <;> omega) | (split <;> (try split) <;> omega) | (refine ⟨?_, ?_⟩ <;> (split <;> omega)) | (refine ⟨?_, ?_, ?_⟩ <;> (split <;> omega))
                                              · simp only [AV.leL, AV.le, Mem.le, Mem.leP, Blk.le, Blk.pad, Data.le, Data.size, Cap.le, and_true, true_and, and_self, true_implies, implies_true, imp_self, List.length_nil]
                                          · (try simp only [decide_eq_true_eq, decide_eq_false_iff_not, Bool.not_eq_true', Bool.not_eq_false', beq_iff_eq, beq_eq_false_iff_ne, Int.not_lt, Int.not_le, ge_iff_le, gt_iff_lt, ne_eq, Bool.false_eq_true, Bool.true_eq_false, not_true_eq_false, not_false_eq_true, Bool.and_eq_true, Bool.not_eq_eq_eq_not, Bool.not_true, Bool.not_false, bne_iff_ne, bne_eq_false_iff_eq, Int.toNat_natCast, Nat.mul_one, Nat.add_zero, Nat.zero_add, List.take_length, List.drop_zero] at h11)
                                            all_goals
                                              refine Tree.GivesP.br (fun h12 => ?_) (fun h12 => ?_)
                                              · (try simp only [decide_eq_true_eq, decide_eq_false_iff_not, Bool.not_eq_true', Bool.not_eq_false', beq_iff_eq, beq_eq_false_iff_ne, Int.not_lt, Int.not_le, ge_iff_le, gt_iff_lt, ne_eq, Bool.false_eq_true, Bool.true_eq_false, not_true_eq_false, not_false_eq_true, Bool.and_eq_true, Bool.not_eq_eq_eq_not, Bool.not_true, Bool.not_false, bne_iff_ne, bne_eq_false_iff_eq, Int.toNat_natCast, Nat.mul_one, Nat.add_zero, Nat.zero_add, List.take_length, List.drop_zero] at h12)
                                                all_goals
                                                  refine Tree.GivesP.ret ?_ ?_
                                                  · simp only [AV.le, AV.leL, true_and, and_true, ckE]
                                                    first | omega | (split <;> omega) | (split <;> (try split) <;> omega) | (refine ⟨?_, ?_⟩ <;> (split <;> omega)) | (refine ⟨?_, ?_, ?_⟩ <;> (split <;> omega))
                                                  · simp only [AV.leL, AV.le, Mem.le, Mem.leP, Blk.le, Blk.pad, Data.le, Data.size, Cap.le, and_true, true_and, and_self, true_implies, implies_true, imp_self, List.length_nil]
                                              · (try simp only [decide_eq_true_eq, decide_eq_false_iff_not, Bool.not_eq_true', Bool.not_eq_false', beq_iff_eq, beq_eq_false_iff_ne, Int.not_lt, Int.not_le, ge_iff_le, gt_iff_lt, ne_eq, Bool.false_eq_true, Bool.true_eq_false, not_true_eq_false, not_false_eq_true, Bool.and_eq_true, Bool.not_eq_eq_eq_not, Bool.not_true, Bool.not_false, bne_iff_ne, bne_eq_false_iff_eq, Int.toNat_natCast, Nat.mul_one, Nat.add_zero, Nat.zero_add, List.take_length, List.drop_zero] at h12)
                                                all_goals
                                                  refine Tree.GivesP.br (fun h13 => ?_) (fun h13 => ?_)
                                                  · (try simp only [decide_eq_true_eq, decide_eq_false_iff_not, Bool.not_eq_true', Bool.not_eq_false', beq_iff_eq, beq_eq_false_iff_ne, Int.not_lt, Int.not_le, ge_iff_le, gt_iff_lt, ne_eq, Bool.false_eq_true, Bool.true_eq_false, not_true_eq_false, not_false_eq_true, Bool.and_eq_true, Bool.not_eq_eq_eq_not, Bool.not_true, Bool.not_false, bne_iff_ne, bne_eq_false_iff_eq, Int.toNat_natCast, Nat.mul_one, Nat.add_zero, Nat.zero_add, List.take_length, List.drop_zero] at h13)
                                                    all_goals
                                                      refine Tree.GivesP.ret ?_ ?_
                                                      · simp only [AV.le, AV.leL, true_and, and_true, ckE]
                                                        first | omega | (split <;> omega) | (split <;> (try split) <;> omega) | (refine ⟨?_, ?_⟩ <;> (split <;> omega)) | (refine ⟨?_, ?_, ?_⟩ <;> (split <;> omega))
                                                      · simp only [AV.leL, AV.le, Mem.le, Mem.leP, Blk.le, Blk.pad, Data.le, Data.size, Cap.le, and_true, true_and, and_self, true_implies, implies_true, imp_self, List.length_nil]
                                                  · (try simp only [decide_eq_true_eq, decide_eq_false_iff_not, Bool.not_eq_true', Bool.not_eq_false', beq_iff_eq, beq_eq_false_iff_ne, Int.not_lt, Int.not_le, ge_iff_le, gt_iff_lt, ne_eq, Bool.false_eq_true, Bool.true_eq_false, not_true_eq_false, not_false_eq_true, Bool.and_eq_true, Bool.not_eq_eq_eq_not, Bool.not_true, Bool.not_false, bne_iff_ne, bne_eq_false_iff_eq, Int.toNat_natCast, Nat.mul_one, Nat.add_zero, Nat.zero_add, List.take_length, List.drop_zero] at h13)
                                                    all_goals
                                                      refine Tree.GivesP.br (fun h14 => ?_) (fun h14 => ?_)
                                                      · (try simp only [decide_eq_true_eq, decide_eq_false_iff_not, Bool.not_eq_true', Bool.not_eq_false', beq_iff_eq, beq_eq_false_iff_ne, Int.not_lt, Int.not_le, ge_iff_le, gt_iff_lt, ne_eq, Bool.false_eq_true, Bool.true_eq_false, not_true_eq_false, not_false_eq_true, Bool.and_eq_true, Bool.not_eq_eq_eq_not, Bool.not_true, Bool.not_false, bne_iff_ne, bne_eq_false_iff_eq, Int.toNat_natCast, Nat.mul_one, Nat.add_zero, Nat.zero_add, List.take_length, List.drop_zero] at h14)
                                                        all_goals
                                                          refine Tree.GivesP.ret ?_ ?_
                                                          · simp only [AV.le, AV.leL, true_and, and_true, ckE]
                                                            first | omega | (split <;> omega) | (split <;> (try split) <;> omega) | (refine ⟨?_, ?_⟩ <;> (split <;> omega)) | (refine ⟨?_, ?_, ?_⟩ <;> (split <;> omega))
                                                          · simp only [AV.leL, AV.le, Mem.le, Mem.leP, Blk.le, Blk.pad, Data.le, Data.size, Cap.le, and_true, true_and, and_self, true_implies, implies_true, imp_self, List.length_nil]
                                                      · (try simp only [decide_eq_true_eq, decide_eq_false_iff_not, Bool.not_eq_true', Bool.not_eq_false', beq_iff_eq, beq_eq_false_iff_ne, Int.not_lt, Int.not_le, ge_iff_le, gt_iff_lt, ne_eq, Bool.false_eq_true, Bool.true_eq_false, not_true_eq_false, not_false_eq_true, Bool.and_eq_true, Bool.not_eq_eq_eq_not, Bool.not_true, Bool.not_false, bne_iff_ne, bne_eq_false_iff_eq, Int.toNat_natCast, Nat.mul_one, Nat.add_zero, Nat.zero_add, List.take_length, List.drop_zero] at h14)
                                                        all_goals
                                                          refine Tree.GivesP.br (fun h15 => ?_) (fun h15 => ?_)
                                                          · (try simp only [decide_eq_true_eq, decide_eq_false_iff_not, Bool.not_eq_true', Bool.not_eq_false', beq_iff_eq, beq_eq_false_iff_ne, Int.not_lt, Int.not_le, ge_iff_le, gt_iff_lt, ne_eq, Bool.false_eq_true, Bool.true_eq_false, not_true_eq_false, not_false_eq_true, Bool.and_eq_true, Bool.not_eq_eq_eq_not, Bool.not_true, Bool.not_false, bne_iff_ne, bne_eq_false_iff_eq, Int.toNat_natCast, Nat.mul_one, Nat.add_zero, Nat.zero_add, List.take_length, List.drop_zero] at h15)
                                                            all_goals
                                                              refine Tree.GivesP.ret ?_ ?_
                                                              · simp only [AV.le, AV.leL, true_and, and_true, ckE]
                                                                first | omega | (split <;> omega) | (split <;> (try split) <;> omega) | (refine ⟨?_, ?_⟩ <;> (split <;> omega)) | (refine ⟨?_, ?_, ?_⟩ <;> (split <;> omega))
                                                              · simp only [AV.leL, AV.le, Mem.le, Mem.leP, Blk.le, Blk.pad, Data.le, Data.size, Cap.le, and_true, true_and, and_self, true_implies, implies_true, imp_self, List.length_nil]
                                                          · (try simp only [decide_eq_true_eq, decide_eq_false_iff_not, Bool.not_eq_true', Bool.not_eq_false', beq_iff_eq, beq_eq_false_iff_ne, Int.not_lt, Int.not_le, ge_iff_le, gt_iff_lt, ne_eq, Bool.false_eq_true, Bool.true_eq_false, not_true_eq_false, not_false_eq_true, Bool.and_eq_true, Bool.not_eq_eq_eq_not, Bool.not_true, Bool.not_false, bne_iff_ne, bne_eq_false_iff_eq, Int.toNat_natCast, Nat.mul_one, Nat.add_zero, Nat.zero_add, List.take_length, List.drop_zero] at h15)
                                                            all_goals
                                                              refine Tree.GivesP.br (fun h16 => ?_) (fun h16 => ?_)
                                                              · (try simp only [decide_eq_true_eq, decide_eq_false_iff_not, Bool.not_eq_true', Bool.not_eq_false', beq_iff_eq, beq_eq_false_iff_ne, Int.not_lt, Int.not_le, ge_iff_le, gt_iff_lt, ne_eq, Bool.false_eq_true, Bool.true_eq_false, not_true_eq_false, not_false_eq_true, Bool.and_eq_true, Bool.not_eq_eq_eq_not, Bool.not_true, Bool.not_false, bne_iff_ne, bne_eq_false_iff_eq, Int.toNat_natCast, Nat.mul_one, Nat.add_zero, Nat.zero_add, List.take_length, List.drop_zero] at h16)
                                                                all_goals
                                                                  refine Tree.GivesP.ret ?_ ?_
                                                                  · simp only [AV.le, AV.leL, true_and, and_true, ckE]
                                                                    first | omega | (split <;> omega) | (split <;> (try split) <;> omega) | (refine ⟨?_, ?_⟩ <;> (split <;> omega)) | (refine ⟨?_, ?_, ?_⟩ <;> (split <;> omega))
                                                                  · simp only [AV.leL, AV.le, Mem.le, Mem.leP, Blk.le, Blk.pad, Data.le, Data.size, Cap.le, and_true, true_and, and_self, true_implies, implies_true, imp_self, List.length_nil]
                                                              · (try simp only [decide_eq_true_eq, decide_eq_false_iff_not, Bool.not_eq_true', Bool.not_eq_false', beq_iff_eq, beq_eq_false_iff_ne, Int.not_lt, Int.not_le, ge_iff_le, gt_iff_lt, ne_eq, Bool.false_eq_true, Bool.true_eq_false, not_true_eq_false, not_false_eq_true, Bool.and_eq_true, Bool.not_eq_eq_eq_not, Bool.not_true, Bool.not_false, bne_iff_ne, bne_eq_false_iff_eq, Int.toNat_natCast, Nat.mul_one, Nat.add_zero, Nat.zero_add, List.take_length, List.drop_zero] at h16)
                                                                all_goals
                                                                  refine Tree.GivesP.ret ?_ ?_
                                                                  · simp only [AV.le, AV.leL, true_and, and_true, ckE]
                                                                    first | omega | (split <;> omega) | (split <;> (try split) <;> omega) | (refine ⟨?_, ?_⟩ <;> (split <;> omega)) | (refine ⟨?_, ?_, ?_⟩ <;> (split <;> omega))
                                                                  · simp only [AV.leL, AV.le, Mem.le, Mem.leP, Blk.le, Blk.pad, Data.le, Data.size, Cap.le, and_true, true_and, and_self, true_implies, implies_true, imp_self, List.length_nil]
theorem sCheck (hall : AllOk Try.prog 0 (fun _ => none) tab13) (R0 : Int) (R1 : Int) (R2 : Int) (T1 : Int) (T2 : Int) (Cm : Int) (Sl : Int) (Tk : Int) (hw : -9223372036854775808 ≤ R0 ∧ R0 ≤ 9223372036854775807 ∧ -9223372036854775808 ≤ R1 ∧ R1 ≤ 9223372036854775807 ∧ -9223372036854775808 ≤ R2 ∧ R2 ≤ 9223372036854775807 ∧ -9223372036854775808 ≤ T1 ∧ T1 ≤ 9223372036854775807 ∧ -9223372036854775808 ≤ T2 ∧ T2 ≤ 9223372036854775807 ∧ -9223372036854775808 ≤ Cm ∧ Cm ≤ 9223372036854775807 ∧ -9223372036854775808 ≤ Sl ∧ Sl ≤ 9223372036854775807 ∧ -9223372036854775808 ≤ Tk ∧ Tk ≤ 9223372036854775807) : SoundAt (mkC Try.prog 0 (fun _ => none) []) 22 [.agg [.int .i64 false R0, .int .i64 false R1, .int .i64 false R2, .int .i64 false T1, .int .i64 false T2, .int .i64 false Cm, .int .i64 false Sl, .int .i64 false Tk]] [] (.int .i64 false (ckE R0 R1 R2 T1 T2 Cm Sl Tk), []) := sound_ofP hall mix (tCheck R0 R1 R2 T1 T2 Cm Sl Tk) (gCheck R0 R1 R2 T1 T2 Cm Sl Tk hw)
theorem FCheck_ok (hall : AllOk Try.prog 0 (fun _ => none) tab13) : PureF Try.prog 3 22 FCheck := by
  intro xs c v news h hc
  unfold FCheck at h
  split at h
  · rename_i _ R0 _ R1 _ R2 _ T1 _ T2 _ Cm _ Sl _ Tk
    cases h
    refine ⟨(by intro b hb; cases hb), SoundAt.flags (sCheck hall R0 R1 R2 T1 T2 Cm Sl Tk hc) ?_⟩
    simp [PA.avs, AV.le, AV.leL, Cap.le]
  · cases h
end Go.Proofs.Ytoihhmpmlbdeiaa.Rig

/- QStep -/
namespace Go.Proofs.Ytoihhmpmlbdeiaa.Rig
open Go
set_option maxRecDepth 100000 in
theorem tStep (R0 : Int) (R1 : Int) (R2 : Int) (T1 : Int) (T2 : Int) (Cm : Int) (Sl : Int) (Tk : Int) (u1 : Int) (u2 : Int) (I : Int) (t : Int) : evBody (mkC Try.prog 0 (fun _ => none) tab14) (evCall (mkC Try.prog 0 (fun _ => none) tab14) 50) 18 [.agg [.int .i64 false R0, .int .i64 false R1, .int .i64 false R2, .int .i64 false T1, .int .i64 false T2, .int .i64 false Cm, .int .i64 false Sl, .int .i64 false Tk], .int .i64 false u1, .int .i64 false u2, .int .i64 false I, .int .i64 false t] [] =
  Tree.chk
    ((True ∧ True) ∧
      (-9223372036854775808 : Int) ≤ R0 ∧
        R0 ≤ (9223372036854775807 : Int) ∧
          (-9223372036854775808 : Int) ≤ R1 ∧
            R1 ≤ (9223372036854775807 : Int) ∧
              (-9223372036854775808 : Int) ≤ R2 ∧
                R2 ≤ (9223372036854775807 : Int) ∧
                  (-9223372036854775808 : Int) ≤ T1 ∧
                    T1 ≤ (9223372036854775807 : Int) ∧
                      (-9223372036854775808 : Int) ≤ T2 ∧
                        T2 ≤ (9223372036854775807 : Int) ∧
                          (-9223372036854775808 : Int) ≤ Cm ∧
                            Cm ≤ (9223372036854775807 : Int) ∧ (-9223372036854775808 : Int) ≤ Sl ∧ Sl ≤ (9223372036854775807 : Int) ∧ (-9223372036854775808 : Int) ≤ Tk ∧ Tk ≤ (9223372036854775807 : Int))
    (Tree.br (ckE R0 R1 R2 T1 T2 Cm Sl Tk != (0 : Int)) (Tree.ret (AV.tup [AV.int IntKind.i64 true (0 : Int), AV.int IntKind.i64 true (0 : Int), AV.int IntKind.i64 true (2 : Int)], []))
      (Tree.br (decide (u1 < (-2147483648 : Int))) (Tree.ret (AV.tup [AV.int IntKind.i64 true (0 : Int), AV.int IntKind.i64 true (0 : Int), AV.int IntKind.i64 true (2 : Int)], []))
        (Tree.br (decide (u1 > (2147483648 : Int))) (Tree.ret (AV.tup [AV.int IntKind.i64 true (0 : Int), AV.int IntKind.i64 true (0 : Int), AV.int IntKind.i64 true (2 : Int)], []))
          (Tree.br (decide (u2 < (-2147483648 : Int))) (Tree.ret (AV.tup [AV.int IntKind.i64 true (0 : Int), AV.int IntKind.i64 true (0 : Int), AV.int IntKind.i64 true (2 : Int)], []))
            (Tree.br (decide (u2 > (2147483648 : Int))) (Tree.ret (AV.tup [AV.int IntKind.i64 true (0 : Int), AV.int IntKind.i64 true (0 : Int), AV.int IntKind.i64 true (2 : Int)], []))
              (Tree.br (decide (I < (-2147483648 : Int))) (Tree.ret (AV.tup [AV.int IntKind.i64 true (0 : Int), AV.int IntKind.i64 true (0 : Int), AV.int IntKind.i64 true (2 : Int)], []))
                (Tree.br (decide (I > (2147483648 : Int))) (Tree.ret (AV.tup [AV.int IntKind.i64 true (0 : Int), AV.int IntKind.i64 true (0 : Int), AV.int IntKind.i64 true (2 : Int)], []))
                  (Tree.br (decide (t < (1 : Int))) (Tree.ret (AV.tup [AV.int IntKind.i64 true (0 : Int), AV.int IntKind.i64 true (0 : Int), AV.int IntKind.i64 true (2 : Int)], []))
                    (Tree.br (decide (t > (60000 : Int))) (Tree.ret (AV.tup [AV.int IntKind.i64 true (0 : Int), AV.int IntKind.i64 true (0 : Int), AV.int IntKind.i64 true (2 : Int)], []))
                      (Tree.chk ((True ∧ True ∧ True ∧ True ∧ True) ∧ okRel u1 I R1 T1 t)
                        (Tree.chk ((True ∧ True ∧ True ∧ True ∧ True) ∧ okRel u2 I R2 T2 t)
                          (Tree.ret (AV.tup [AV.int IntKind.i64 false (relZ u1 I R1 T1 t), AV.int IntKind.i64 false (relZ u2 I R2 T2 t), AV.int IntKind.i64 true (0 : Int)], []))))))))))))) := by kernel_rfl
set_option maxRecDepth 100000 in
theorem gStep (R0 : Int) (R1 : Int) (R2 : Int) (T1 : Int) (T2 : Int) (Cm : Int) (Sl : Int) (Tk : Int) (u1 : Int) (u2 : Int) (I : Int) (t : Int) (hw : -9223372036854775808 ≤ R0 ∧ R0 ≤ 9223372036854775807 ∧ -9223372036854775808 ≤ R1 ∧ R1 ≤ 9223372036854775807 ∧ -9223372036854775808 ≤ R2 ∧ R2 ≤ 9223372036854775807 ∧ -9223372036854775808 ≤ T1 ∧ T1 ≤ 9223372036854775807 ∧ -9223372036854775808 ≤ T2 ∧ T2 ≤ 9223372036854775807 ∧ -9223372036854775808 ≤ Cm ∧ Cm ≤ 9223372036854775807 ∧ -9223372036854775808 ≤ Sl ∧ Sl ≤ 9223372036854775807 ∧ -9223372036854775808 ≤ Tk ∧ Tk ≤ 9223372036854775807 ∧ -9223372036854775808 ≤ u1 ∧ u1 ≤ 9223372036854775807 ∧ -9223372036854775808 ≤ u2 ∧ u2 ≤ 9223372036854775807 ∧ -9223372036854775808 ≤ I ∧ I ≤ 9223372036854775807 ∧ -9223372036854775808 ≤ t ∧ t ≤ 9223372036854775807) : (Tree.chk
    ((True ∧ True) ∧
      (-9223372036854775808 : Int) ≤ R0 ∧
        R0 ≤ (9223372036854775807 : Int) ∧
          (-9223372036854775808 : Int) ≤ R1 ∧
            R1 ≤ (9223372036854775807 : Int) ∧
              (-9223372036854775808 : Int) ≤ R2 ∧
                R2 ≤ (9223372036854775807 : Int) ∧
                  (-9223372036854775808 : Int) ≤ T1 ∧
                    T1 ≤ (9223372036854775807 : Int) ∧
                      (-9223372036854775808 : Int) ≤ T2 ∧
                        T2 ≤ (9223372036854775807 : Int) ∧
                          (-9223372036854775808 : Int) ≤ Cm ∧
                            Cm ≤ (9223372036854775807 : Int) ∧ (-9223372036854775808 : Int) ≤ Sl ∧ Sl ≤ (9223372036854775807 : Int) ∧ (-9223372036854775808 : Int) ≤ Tk ∧ Tk ≤ (9223372036854775807 : Int))
    (Tree.br (ckE R0 R1 R2 T1 T2 Cm Sl Tk != (0 : Int)) (Tree.ret (AV.tup [AV.int IntKind.i64 true (0 : Int), AV.int IntKind.i64 true (0 : Int), AV.int IntKind.i64 true (2 : Int)], []))
      (Tree.br (decide (u1 < (-2147483648 : Int))) (Tree.ret (AV.tup [AV.int IntKind.i64 true (0 : Int), AV.int IntKind.i64 true (0 : Int), AV.int IntKind.i64 true (2 : Int)], []))
        (Tree.br (decide (u1 > (2147483648 : Int))) (Tree.ret (AV.tup [AV.int IntKind.i64 true (0 : Int), AV.int IntKind.i64 true (0 : Int), AV.int IntKind.i64 true (2 : Int)], []))
          (Tree.br (decide (u2 < (-2147483648 : Int))) (Tree.ret (AV.tup [AV.int IntKind.i64 true (0 : Int), AV.int IntKind.i64 true (0 : Int), AV.int IntKind.i64 true (2 : Int)], []))
            (Tree.br (decide (u2 > (2147483648 : Int))) (Tree.ret (AV.tup [AV.int IntKind.i64 true (0 : Int), AV.int IntKind.i64 true (0 : Int), AV.int IntKind.i64 true (2 : Int)], []))
              (Tree.br (decide (I < (-2147483648 : Int))) (Tree.ret (AV.tup [AV.int IntKind.i64 true (0 : Int), AV.int IntKind.i64 true (0 : Int), AV.int IntKind.i64 true (2 : Int)], []))
                (Tree.br (decide (I > (2147483648 : Int))) (Tree.ret (AV.tup [AV.int IntKind.i64 true (0 : Int), AV.int IntKind.i64 true (0 : Int), AV.int IntKind.i64 true (2 : Int)], []))
                  (Tree.br (decide (t < (1 : Int))) (Tree.ret (AV.tup [AV.int IntKind.i64 true (0 : Int), AV.int IntKind.i64 true (0 : Int), AV.int IntKind.i64 true (2 : Int)], []))
                    (Tree.br (decide (t > (60000 : Int))) (Tree.ret (AV.tup [AV.int IntKind.i64 true (0 : Int), AV.int IntKind.i64 true (0 : Int), AV.int IntKind.i64 true (2 : Int)], []))
                      (Tree.chk ((True ∧ True ∧ True ∧ True ∧ True) ∧ okRel u1 I R1 T1 t)
                        (Tree.chk ((True ∧ True ∧ True ∧ True ∧ True) ∧ okRel u2 I R2 T2 t)
                          (Tree.ret (AV.tup [AV.int IntKind.i64 false (relZ u1 I R1 T1 t), AV.int IntKind.i64 false (relZ u2 I R2 T2 t), AV.int IntKind.i64 true (0 : Int)], []))))))))))))) : Tree (AV × Mem)).GivesP (.tup [.int .i64 false (stA R0 R1 R2 T1 T2 Cm Sl Tk u1 u2 I t), .int .i64 false (stB R0 R1 R2 T1 T2 Cm Sl Tk u1 u2 I t), .int .i64 false (stE R0 R1 R2 T1 T2 Cm Sl Tk u1 u2 I t)]) ([]) := by
  have ck := ckE_cases R0 R1 R2 T1 T2 Cm Sl Tk
  refine Tree.GivesP.chk (by first | (simp only [and_self]; done) | ((repeat' with_reducible refine And.intro ?_ ?_) <;> first | trivial | omega | (simp only [ckE] at *; split at * <;> omega))) ?_
  refine Tree.GivesP.br (fun h1 => ?_) (fun h1 => ?_)
  · (try simp only [decide_eq_true_eq, decide_eq_false_iff_not, Bool.not_eq_true', Bool.not_eq_false', beq_iff_eq, beq_eq_false_iff_ne, Int.not_lt, Int.not_le, ge_iff_le, gt_iff_lt, ne_eq, Bool.false_eq_true, Bool.true_eq_false, not_true_eq_false, not_false_eq_true, Bool.and_eq_true, Bool.not_eq_eq_eq_not, Bool.not_true, Bool.not_false, bne_iff_ne, bne_eq_false_iff_eq, Int.toNat_natCast, Nat.mul_one, Nat.add_zero, Nat.zero_add, List.take_length, List.drop_zero] at h1)
    all_goals
      refine Tree.GivesP.ret ?_ ?_
      · simp only [AV.le, AV.leL, true_and, and_true, stA, stB, stE]
        first | omega | (split <;> omega) | (split <;> (try split) <;> omega) | (refine ⟨?_, ?_⟩ <;> (split <;> omega)) | (refine ⟨?_, ?_, ?_⟩ <;> (split <;> omega))
      · simp only [AV.leL, AV.le, Mem.le, Mem.leP, Blk.le, Blk.pad, Data.le, Data.size, Cap.le, and_true, true_and, and_self, true_implies, implies_true, imp_self, List.length_nil]
  · (try simp only [decide_eq_true_eq, decide_eq_false_iff_not, Bool.not_eq_true', Bool.not_eq_false', beq_iff_eq, beq_eq_false_iff_ne, Int.not_lt, Int.not_le, ge_iff_le, gt_iff_lt, ne_eq, Bool.false_eq_true, Bool.true_eq_false, not_true_eq_false, not_false_eq_true, Bool.and_eq_true, Bool.not_eq_eq_eq_not, Bool.not_true, Bool.not_false, bne_iff_ne, bne_eq_false_iff_eq, Int.toNat_natCast, Nat.mul_one, Nat.add_zero, Nat.zero_add, List.take_length, List.drop_zero] at h1)
    all_goals
      refine Tree.GivesP.br (fun h2 => ?_) (fun h2 => ?_)
      · (try simp only [decide_eq_true_eq, decide_eq_false_iff_not, Bool.not_eq_true', Bool.not_eq_false', beq_iff_eq, beq_eq_false_iff_ne, Int.not_lt, Int.not_le, ge_iff_le, gt_iff_lt, ne_eq, Bool.false_eq_true, Bool.true_eq_false, not_true_eq_false, not_false_eq_true, Bool.and_eq_true, Bool.not_eq_eq_eq_not, Bool.not_true, Bool.not_false, bne_iff_ne, bne_eq_false_iff_eq, Int.toNat_natCast, Nat.mul_one, Nat.add_zero, Nat.zero_add, List.take_length, List.drop_zero] at h2)
        all_goals
          refine Tree.GivesP.ret ?_ ?_
          · simp only [AV.le, AV.leL, true_and, and_true, stA, stB, stE]
            first | omega | (split <;> omega) | (split <;> (try split) <;> omega) | (refine ⟨?_, ?_⟩ <;> (split <;> omega)) | (refine ⟨?_, ?_, ?_⟩ <;> (split <;> omega))
          · simp only [AV.leL, AV.le, Mem.le, Mem.leP, Blk.le, Blk.pad, Data.le, Data.size, Cap.le, and_true, true_and, and_self, true_implies, implies_true, imp_self, List.length_nil]
      · (try simp only [decide_eq_true_eq, decide_eq_false_iff_not, Bool.not_eq_true', Bool.not_eq_false', beq_iff_eq, beq_eq_false_iff_ne, Int.not_lt, Int.not_le, ge_iff_le, gt_iff_lt, ne_eq, Bool.false_eq_true, Bool.true_eq_false, not_true_eq_false, not_false_eq_true, Bool.and_eq_true, Bool.not_eq_eq_eq_not, Bool.not_true, Bool.not_false, bne_iff_ne, bne_eq_false_iff_eq, Int.toNat_natCast, Nat.mul_one, Nat.add_zero, Nat.zero_add, List.take_length, List.drop_zero] at h2)
        all_goals
          refine Tree.GivesP.br (fun h3 => ?_) (fun h3 => ?_)
          · (try simp only [decide_eq_true_eq, decide_eq_false_iff_not, Bool.not_eq_true', Bool.not_eq_false', beq_iff_eq, beq_eq_false_iff_ne, Int.not_lt, Int.not_le, ge_iff_le, gt_iff_lt, ne_eq, Bool.false_eq_true, Bool.true_eq_false, not_true_eq_false, not_false_eq_true, Bool.and_eq_true, Bool.not_eq_eq_eq_not, Bool.not_true, Bool.not_false, bne_iff_ne, bne_eq_false_iff_eq, Int.toNat_natCast, Nat.mul_one, Nat.add_zero, Nat.zero_add, List.take_length, List.drop_zero] at h3)
            all_goals
              refine Tree.GivesP.ret ?_ ?_
              · simp only [AV.le, AV.leL, true_and, and_true, stA, stB, stE]
                first | omega | (split <;> omega) | (split <;> (try split) <;> omega) | (refine ⟨?_, ?_⟩ <;> (split <;> omega)) | (refine ⟨?_, ?_, ?_⟩ <;> (split <;> omega))
              · simp only [AV.leL, AV.le, Mem.le, Mem.leP, Blk.le, Blk.pad, Data.le, Data.size, Cap.le, and_true, true_and, and_self, true_implies, implies_true, imp_self, List.length_nil]
          · (try simp only [decide_eq_true_eq, decide_eq_false_iff_not, Bool.not_eq_true', Bool.not_eq_false', beq_iff_eq, beq_eq_false_iff_ne, Int.not_lt, Int.not_le, ge_iff_le, gt_iff_lt, ne_eq, Bool.false_eq_true, Bool.true_eq_false, not_true_eq_false, not_false_eq_true, Bool.and_eq_true, Bool.not_eq_eq_eq_not, Bool.not_true, Bool.not_false, bne_iff_ne, bne_eq_false_iff_eq, Int.toNat_natCast, Nat.mul_one, Nat.add_zero, Nat.zero_add, List.take_length, List.drop_zero] at h3)
            all_goals
              refine Tree.GivesP.br (fun h4 => ?_) (fun h4 => ?_)
              · (try simp only [decide_eq_true_eq, decide_eq_false_iff_not, Bool.not_eq_true', Bool.not_eq_false', beq_iff_eq, beq_eq_false_iff_ne, Int.not_lt, Int.not_le, ge_iff_le, gt_iff_lt, ne_eq, Bool.false_eq_true, Bool.true_eq_false, not_true_eq_false, not_false_eq_true, Bool.and_eq_true, Bool.not_eq_eq_eq_not, Bool.not_true, Bool.not_false, bne_iff_ne, bne_eq_false_iff_eq, Int.toNat_natCast, Nat.mul_one, Nat.add_zero, Nat.zero_add, List.take_length, List.drop_zero] at h4)
                all_goals
                  refine Tree.GivesP.ret ?_ ?_
                  · simp only [AV.le, AV.leL, true_and, and_true, stA, stB, stE]
                    first | omega | (split <;> omega) | (split <;> (try split) <;> omega) | (refine ⟨?_, ?_⟩ <;> (split <;> omega)) | (refine ⟨?_, ?_, ?_⟩ <;> (split <;> omega))
                  · simp only [AV.leL, AV.le, Mem.le, Mem.leP, Blk.le, Blk.pad, Data.le, Data.size, Cap.le, and_true, true_and, and_self, true_implies, implies_true, imp_self, List.length_nil]
              · (try simp only [decide_eq_true_eq, decide_eq_false_iff_not, Bool.not_eq_true', Bool.not_eq_false', beq_iff_eq, beq_eq_false_iff_ne, Int.not_lt, Int.not_le, ge_iff_le, gt_iff_lt, ne_eq, Bool.false_eq_true, Bool.true_eq_false, not_true_eq_false, not_false_eq_true, Bool.and_eq_true, Bool.not_eq_eq_eq_not, Bool.not_true, Bool.not_false, bne_iff_ne, bne_eq_false_iff_eq, Int.toNat_natCast, Nat.mul_one, Nat.add_zero, Nat.zero_add, List.take_length, List.drop_zero] at h4)
                all_goals
                  refine Tree.GivesP.br (fun h5 => ?_) (fun h5 => ?_)
                  · (try simp only [decide_eq_true_eq, decide_eq_false_iff_not, Bool.not_eq_true', Bool.not_eq_false', beq_iff_eq, beq_eq_false_iff_ne, Int.not_lt, Int.not_le, ge_iff_le, gt_iff_lt, ne_eq, Bool.false_eq_true, Bool.true_eq_false, not_true_eq_false, not_false_eq_true, Bool.and_eq_true, Bool.not_eq_eq_eq_not, Bool.not_true, Bool.not_false, bne_iff_ne, bne_eq_false_iff_eq, Int.toNat_natCast, Nat.mul_one, Nat.add_zero, Nat.zero_add, List.take_length, List.drop_zero] at h5)
                    all_goals
                      refine Tree.GivesP.ret ?_ ?_
                      · simp only [AV.le, AV.leL, true_and, and_true, stA, stB, stE]
                        first | omega | (split <;> omega) | (split <;> (try split) <;> omega) | (refine ⟨?_, ?_⟩ <;> (split <;> omega)) | (refine ⟨?_, ?_, ?_⟩ <;> (split <;> omega))
                      · simp only [AV.leL, AV.le, Mem.le, Mem.leP, Blk.le, Blk.pad, Data.le, Data.size, Cap.le, and_true, true_and, and_self, true_implies, implies_true, imp_self, List.length_nil]
                  · (try simp only [decide_eq_true_eq, decide_eq_false_iff_not, Bool.not_eq_true', Bool.not_eq_false', beq_iff_eq, beq_eq_false_iff_ne, Int.not_lt, Int.not_le, ge_iff_le, gt_iff_lt, ne_eq, Bool.false_eq_true, Bool.true_eq_false, not_true_eq_false, not_false_eq_true, Bool.and_eq_true, Bool.not_eq_eq_eq_not, Bool.not_true, Bool.not_false, bne_iff_ne, bne_eq_false_iff_eq, Int.toNat_natCast, Nat.mul_one, Nat.add_zero, Nat.zero_add, List.take_length, List.drop_zero] at h5)
                    all_goals
                      refine Tree.GivesP.br (fun h6 => ?_) (fun h6 => ?_)
                      · (try simp only [decide_eq_true_eq, decide_eq_false_iff_not, Bool.not_eq_true', Bool.not_eq_false', beq_iff_eq, beq_eq_false_iff_ne, Int.not_lt, Int.not_le, ge_iff_le, gt_iff_lt, ne_eq, Bool.false_eq_true, Bool.true_eq_false, not_true_eq_false, not_false_eq_true, Bool.and_eq_true, Bool.not_eq_eq_eq_not, Bool.not_true, Bool.not_false, bne_iff_ne, bne_eq_false_iff_eq, Int.toNat_natCast, Nat.mul_one, Nat.add_zero, Nat.zero_add, List.take_length, List.drop_zero] at h6)
                        all_goals
                          refine Tree.GivesP.ret ?_ ?_
                          · simp only [AV.le, AV.leL, true_and, and_true, stA, stB, stE]
                            first | omega | (split <;> omega) | (split <;> (try split) <;> omega) | (refine ⟨?_, ?_⟩ <;> (split <;> omega)) | (refine ⟨?_, ?_, ?_⟩ <;> (split <;> omega))
                          · simp only [AV.leL, AV.le, Mem.le, Mem.leP, Blk.le, Blk.pad, Data.le, Data.size, Cap.le, and_true, true_and, and_self, true_implies, implies_true, imp_self, List.length_nil]
                      · (try simp only [decide_eq_true_eq, decide_eq_false_iff_not, Bool.not_eq_true', Bool.not_eq_false', beq_iff_eq, beq_eq_false_iff_ne, Int.not_lt, Int.not_le, ge_iff_le, gt_iff_lt, ne_eq, Bool.false_eq_true, Bool.true_eq_false, not_true_eq_false, not_false_eq_true, Bool.and_eq_true, Bool.not_eq_eq_eq_not, Bool.not_true, Bool.not_false, bne_iff_ne, bne_eq_false_iff_eq, Int.toNat_natCast, Nat.mul_one, Nat.add_zero, Nat.zero_add, List.take_length, List.drop_zero] at h6)
                        all_goals
                          refine Tree.GivesP.br (fun h7 => ?_) (fun h7 => ?_)
                          · (try simp only [decide_eq_true_eq, decide_eq_false_iff_not, Bool.not_eq_true', Bool.not_eq_false', beq_iff_eq, beq_eq_false_iff_ne, Int.not_lt, Int.not_le, ge_iff_le, gt_iff_lt, ne_eq, Bool.false_eq_true, Bool.true_eq_false, not_true_eq_false, not_false_eq_true, Bool.and_eq_true, Bool.not_eq_eq_eq_not, Bool.not_true, Bool.not_false, bne_iff_ne, bne_eq_false_iff_eq, Int.toNat_natCast, Nat.mul_one, Nat.add_zero, Nat.zero_add, List.take_length, List.drop_zero] at h7)
                            all_goals
                              refine Tree.GivesP.ret ?_ ?_
                              · simp only [AV.le, AV.leL, true_and, and_true, stA, stB, stE]
                                first | omega | (split <;> omega) | (split <;> (try split) <;> omega) | (refine ⟨?_, ?_⟩ <;> (split <;> omega)) | (refine ⟨?_, ?_, ?_⟩ <;> (split <;> omega))
                              · simp only [AV.leL, AV.le, Mem.le, Mem.leP, Blk.le, Blk.pad, Data.le, Data.size, Cap.le, and_true, true_and, and_self, true_implies, implies_true, imp_self, List.length_nil]
                          · (try simp only [decide_eq_true_eq, decide_eq_false_iff_not, Bool.not_eq_true', Bool.not_eq_false', beq_iff_eq, beq_eq_false_iff_ne, Int.not_lt, Int.not_le, ge_iff_le, gt_iff_lt, ne_eq, Bool.false_eq_true, Bool.true_eq_false, not_true_eq_false, not_false_eq_true, Bool.and_eq_true, Bool.not_eq_eq_eq_not, Bool.not_true, Bool.not_false, bne_iff_ne, bne_eq_false_iff_eq, Int.toNat_natCast, Nat.mul_one, Nat.add_zero, Nat.zero_add, List.take_length, List.drop_zero] at h7)
                            all_goals
                              refine Tree.GivesP.br (fun h8 => ?_) (fun h8 => ?_)
                              · (try simp only [decide_eq_true_eq, decide_eq_false_iff_not, Bool.not_eq_true', Bool.not_eq_false', beq_iff_eq, beq_eq_false_iff_ne, Int.not_lt, Int.not_le, ge_iff_le, gt_iff_lt, ne_eq, Bool.false_eq_true, Bool.true_eq_false, not_true_eq_false, not_false_eq_true, Bool.and_eq_true, Bool.not_eq_eq_eq_not, Bool.not_true, Bool.not_false, bne_iff_ne, bne_eq_false_iff_eq, Int.toNat_natCast, Nat.mul_one, Nat.add_zero, Nat.zero_add, List.take_length, List.drop_zero] at h8)
                                all_goals
                                  refine Tree.GivesP.ret ?_ ?_
                                  · simp only [AV.le, AV.leL, true_and, and_true, stA, stB, stE]
                                    first | omega | (split <;> omega) | (split <;> (try split) <;> omega) | (refine ⟨?_, ?_⟩ <;> (split <;> omega)) | (refine ⟨?_, ?_, ?_⟩ <;> (split <;> omega))
                                  · simp only [AV.leL, AV.le, Mem.le, Mem.leP, Blk.le, Blk.pad, Data.le, Data.size, Cap.le, and_true, true_and, and_self, true_implies, implies_true, imp_self, List.length_nil]
                              · (try simp only [decide_eq_true_eq, decide_eq_false_iff_not, Bool.not_eq_true', Bool.not_eq_false', beq_iff_eq, beq_eq_false_iff_ne, Int.not_lt, Int.not_le, ge_iff_le, gt_iff_lt, ne_eq, Bool.false_eq_true, Bool.true_eq_false, not_true_eq_false, not_false_eq_true, Bool.and_eq_true, Bool.not_eq_eq_eq_not, Bool.not_true, Bool.not_false, bne_iff_ne, bne_eq_false_iff_eq, Int.toNat_natCast, Nat.mul_one, Nat.add_zero, Nat.zero_add, List.take_length, List.drop_zero] at h8)
                                all_goals
                                  refine Tree.GivesP.br (fun h9 => ?_) (fun h9 => ?_)
                                  · (try simp only [decide_eq_true_eq, decide_eq_false_iff_not, Bool.not_eq_true', Bool.not_eq_false', beq_iff_eq, beq_eq_false_iff_ne, Int.not_lt, Int.not_le, ge_iff_le, gt_iff_lt, ne_eq, Bool.false_eq_true, Bool.true_eq_false, not_true_eq_false, not_false_eq_true, Bool.and_eq_true, Bool.not_eq_eq_eq_not, Bool.not_true, Bool.not_false, bne_iff_ne, bne_eq_false_iff_eq, Int.toNat_natCast, Nat.mul_one, Nat.add_zero, Nat.zero_add, List.take_length, List.drop_zero] at h9)
                                    all_goals
                                      refine Tree.GivesP.ret ?_ ?_
                                      · simp only [AV.le, AV.leL, true_and, and_true, stA, stB, stE]
                                        first | omega | (split <;> omega) | (split <;> (try split) <;> omega) | (refine ⟨?_, ?_⟩ <;> (split <;> omega)) | (refine ⟨?_, ?_, ?_⟩ <;> (split <;> omega))
                                      · simp only [AV.leL, AV.le, Mem.le, Mem.leP, Blk.le, Blk.pad, Data.le, Data.size, Cap.le, and_true, true_and, and_self, true_implies, implies_true, imp_self, List.length_nil]
                                  · (try simp only [decide_eq_true_eq, decide_eq_false_iff_not, Bool.not_eq_true', Bool.not_eq_false', beq_iff_eq, beq_eq_false_iff_ne, Int.not_lt, Int.not_le, ge_iff_le, gt_iff_lt, ne_eq, Bool.false_eq_true, Bool.true_eq_false, not_true_eq_false, not_false_eq_true, Bool.and_eq_true, Bool.not_eq_eq_eq_not, Bool.not_true, Bool.not_false, bne_iff_ne, bne_eq_false_iff_eq, Int.toNat_natCast, Nat.mul_one, Nat.add_zero, Nat.zero_add, List.take_length, List.drop_zero] at h9)
                                    all_goals
                                      refine Tree.GivesP.chk (by first | (simp only [and_self]; done) | ((repeat' with_reducible refine And.intro ?_ ?_) <;> first | trivial | omega | (simp only [ckE] at *; split at * <;> omega))) ?_
                                      refine Tree.GivesP.chk (by first | (simp only [and_self]; done) | ((repeat' with_reducible refine And.intro ?_ ?_) <;> first | trivial | omega | (simp only [ckE] at *; split at * <;> omega))) ?_
                                      refine Tree.GivesP.ret ?_ ?_
                                      · simp only [AV.le, AV.leL, true_and, and_true, stA, stB, stE]
                                        first | omega | (split <;> omega) | (split <;> (try split) <;> omega) | (refine ⟨?_, ?_⟩ <;> (split <;> omega)) | (refine ⟨?_, ?_, ?_⟩ <;> (split <;> omega))
                                      · simp only [AV.leL, AV.le, Mem.le, Mem.leP, Blk.le, Blk.pad, Data.le, Data.size, Cap.le, and_true, true_and, and_self, true_implies, implies_true, imp_self, List.length_nil]
theorem sStep (hall : AllOk Try.prog 0 (fun _ => none) tab14) (R0 : Int) (R1 : Int) (R2 : Int) (T1 : Int) (T2 : Int) (Cm : Int) (Sl : Int) (Tk : Int) (u1 : Int) (u2 : Int) (I : Int) (t : Int) (hw : -9223372036854775808 ≤ R0 ∧ R0 ≤ 9223372036854775807 ∧ -9223372036854775808 ≤ R1 ∧ R1 ≤ 9223372036854775807 ∧ -9223372036854775808 ≤ R2 ∧ R2 ≤ 9223372036854775807 ∧ -9223372036854775808 ≤ T1 ∧ T1 ≤ 9223372036854775807 ∧ -9223372036854775808 ≤ T2 ∧ T2 ≤ 9223372036854775807 ∧ -9223372036854775808 ≤ Cm ∧ Cm ≤ 9223372036854775807 ∧ -9223372036854775808 ≤ Sl ∧ Sl ≤ 9223372036854775807 ∧ -9223372036854775808 ≤ Tk ∧ Tk ≤ 9223372036854775807 ∧ -9223372036854775808 ≤ u1 ∧ u1 ≤ 9223372036854775807 ∧ -9223372036854775808 ≤ u2 ∧ u2 ≤ 9223372036854775807 ∧ -9223372036854775808 ≤ I ∧ I ≤ 9223372036854775807 ∧ -9223372036854775808 ≤ t ∧ t ≤ 9223372036854775807) : SoundAt (mkC Try.prog 0 (fun _ => none) []) 18 [.agg [.int .i64 false R0, .int .i64 false R1, .int .i64 false R2, .int .i64 false T1, .int .i64 false T2, .int .i64 false Cm, .int .i64 false Sl, .int .i64 false Tk], .int .i64 false u1, .int .i64 false u2, .int .i64 false I, .int .i64 false t] [] (.tup [.int .i64 false (stA R0 R1 R2 T1 T2 Cm Sl Tk u1 u2 I t), .int .i64 false (stB R0 R1 R2 T1 T2 Cm Sl Tk u1 u2 I t), .int .i64 false (stE R0 R1 R2 T1 T2 Cm Sl Tk u1 u2 I t)], []) := sound_ofP hall mix (tStep R0 R1 R2 T1 T2 Cm Sl Tk u1 u2 I t) (gStep R0 R1 R2 T1 T2 Cm Sl Tk u1 u2 I t hw)
theorem FStep_ok (hall : AllOk Try.prog 0 (fun _ => none) tab14) : PureF Try.prog 3 18 FStep := by
  intro xs c v news h hc
  unfold FStep at h
  split at h
  · rename_i _ R0 _ R1 _ R2 _ T1 _ T2 _ Cm _ Sl _ Tk _ u1 _ u2 _ I _ t
    cases h
    refine ⟨(by intro b hb; cases hb), SoundAt.flags (sStep hall R0 R1 R2 T1 T2 Cm Sl Tk u1 u2 I t hc) ?_⟩
    simp [PA.avs, AV.le, AV.leL, Cap.le]
  · cases h
end Go.Proofs.Ytoihhmpmlbdeiaa.Rig

/- QRested -/
namespace Go.Proofs.Ytoihhmpmlbdeiaa.Rig
open Go
set_option maxRecDepth 100000 in
theorem tRested (R0 : Int) (R1 : Int) (R2 : Int) (T1 : Int) (T2 : Int) (Cm : Int) (Sl : Int) (Tk : Int) (u1 : Int) (u2 : Int) (I : Int) (v : Int) : evBody (mkC Try.prog 0 (fun _ => none) tab15) (evCall (mkC Try.prog 0 (fun _ => none) tab15) 50) 9 [.agg [.int .i64 false R0, .int .i64 false R1, .int .i64 false R2, .int .i64 false T1, .int .i64 false T2, .int .i64 false Cm, .int .i64 false Sl, .int .i64 false Tk], .int .i64 false u1, .int .i64 false u2, .int .i64 false I, .int .i64 false v] [] =
  Tree.br (decide (u1 < (-2147483648 : Int))) (Tree.ret (AV.tup [AV.int IntKind.i64 true (0 : Int), AV.int IntKind.i64 true (2 : Int)], []))
    (Tree.br (decide (u1 > (2147483648 : Int))) (Tree.ret (AV.tup [AV.int IntKind.i64 true (0 : Int), AV.int IntKind.i64 true (2 : Int)], []))
      (Tree.br (decide (u2 < (-2147483648 : Int))) (Tree.ret (AV.tup [AV.int IntKind.i64 true (0 : Int), AV.int IntKind.i64 true (2 : Int)], []))
        (Tree.br (decide (u2 > (2147483648 : Int))) (Tree.ret (AV.tup [AV.int IntKind.i64 true (0 : Int), AV.int IntKind.i64 true (2 : Int)], []))
          (Tree.br (decide (I < (-2147483648 : Int))) (Tree.ret (AV.tup [AV.int IntKind.i64 true (0 : Int), AV.int IntKind.i64 true (2 : Int)], []))
            (Tree.br (decide (I > (2147483648 : Int))) (Tree.ret (AV.tup [AV.int IntKind.i64 true (0 : Int), AV.int IntKind.i64 true (2 : Int)], []))
              (Tree.br (decide (v < (-2147483648 : Int))) (Tree.ret (AV.tup [AV.int IntKind.i64 true (0 : Int), AV.int IntKind.i64 true (2 : Int)], []))
                (Tree.br (decide (v > (2147483648 : Int))) (Tree.ret (AV.tup [AV.int IntKind.i64 true (0 : Int), AV.int IntKind.i64 true (2 : Int)], []))
                  (Tree.chk
                    ((True ∧ True) ∧
                      (-9223372036854775808 : Int) ≤ R0 ∧
                        R0 ≤ (9223372036854775807 : Int) ∧
                          (-9223372036854775808 : Int) ≤ R1 ∧
                            R1 ≤ (9223372036854775807 : Int) ∧
                              (-9223372036854775808 : Int) ≤ R2 ∧
                                R2 ≤ (9223372036854775807 : Int) ∧
                                  (-9223372036854775808 : Int) ≤ T1 ∧
                                    T1 ≤ (9223372036854775807 : Int) ∧
                                      (-9223372036854775808 : Int) ≤ T2 ∧
                                        T2 ≤ (9223372036854775807 : Int) ∧
                                          (-9223372036854775808 : Int) ≤ Cm ∧
                                            Cm ≤ (9223372036854775807 : Int) ∧ (-9223372036854775808 : Int) ≤ Sl ∧ Sl ≤ (9223372036854775807 : Int) ∧ (-9223372036854775808 : Int) ≤ Tk ∧ Tk ≤ (9223372036854775807 : Int))
                    (Tree.br (ckE R0 R1 R2 T1 T2 Cm Sl Tk != (0 : Int)) (Tree.ret (AV.tup [AV.int IntKind.i64 true (0 : Int), AV.int IntKind.i64 false (ckE R0 R1 R2 T1 T2 Cm Sl Tk)], []))
                      (Tree.chk ((True ∧ True ∧ True) ∧ (-2147483648 : Int) ≤ I ∧ I ≤ (2147483648 : Int) ∧ (0 : Int) ≤ R0 ∧ R0 ≤ (1000000 : Int))
                        (Tree.br
                          (decide
                            (IntKind.wrap IntKind.i64
                                (IntKind.wrap IntKind.i64 (IntKind.wrap IntKind.i64 (IntKind.wrap IntKind.i64 ((0 : Int) + v) + IntKind.wrap IntKind.i64 ((0 : Int) - driveZ I R0)) + IntKind.wrap IntKind.i64 ((0 : Int) - u1)) +
                                  IntKind.wrap IntKind.i64 ((0 : Int) - u2)) <
                              (-2147483648 : Int)))
                          (Tree.ret (AV.tup [AV.int IntKind.i64 true (-2147483648 : Int), AV.int IntKind.i64 true (0 : Int)], []))
                          (Tree.br
                            (decide
                              (IntKind.wrap IntKind.i64
                                  (IntKind.wrap IntKind.i64 (IntKind.wrap IntKind.i64 (IntKind.wrap IntKind.i64 ((0 : Int) + v) + IntKind.wrap IntKind.i64 ((0 : Int) - driveZ I R0)) + IntKind.wrap IntKind.i64 ((0 : Int) - u1)) +
                                    IntKind.wrap IntKind.i64 ((0 : Int) - u2)) >
                                (2147483648 : Int)))
                            (Tree.ret (AV.tup [AV.int IntKind.i64 true (2147483648 : Int), AV.int IntKind.i64 true (0 : Int)], []))
                            (Tree.ret
                              (AV.tup
                                  [AV.int IntKind.i64 false
                                      (IntKind.wrap IntKind.i64
                                        (IntKind.wrap IntKind.i64
                                            (IntKind.wrap IntKind.i64 (IntKind.wrap IntKind.i64 ((0 : Int) + v) + IntKind.wrap IntKind.i64 ((0 : Int) - driveZ I R0)) + IntKind.wrap IntKind.i64 ((0 : Int) - u1)) +
                                          IntKind.wrap IntKind.i64 ((0 : Int) - u2))),
                                    AV.int IntKind.i64 true (0 : Int)],
                                [])))))))))))))) := by kernel_rfl
set_option maxRecDepth 100000 in
theorem gRested (R0 : Int) (R1 : Int) (R2 : Int) (T1 : Int) (T2 : Int) (Cm : Int) (Sl : Int) (Tk : Int) (u1 : Int) (u2 : Int) (I : Int) (v : Int) (hw : -9223372036854775808 ≤ R0 ∧ R0 ≤ 9223372036854775807 ∧ -9223372036854775808 ≤ R1 ∧ R1 ≤ 9223372036854775807 ∧ -9223372036854775808 ≤ R2 ∧ R2 ≤ 9223372036854775807 ∧ -9223372036854775808 ≤ T1 ∧ T1 ≤ 9223372036854775807 ∧ -9223372036854775808 ≤ T2 ∧ T2 ≤ 9223372036854775807 ∧ -9223372036854775808 ≤ Cm ∧ Cm ≤ 9223372036854775807 ∧ -9223372036854775808 ≤ Sl ∧ Sl ≤ 9223372036854775807 ∧ -9223372036854775808 ≤ Tk ∧ Tk ≤ 9223372036854775807 ∧ -9223372036854775808 ≤ u1 ∧ u1 ≤ 9223372036854775807 ∧ -9223372036854775808 ≤ u2 ∧ u2 ≤ 9223372036854775807 ∧ -9223372036854775808 ≤ I ∧ I ≤ 9223372036854775807 ∧ -9223372036854775808 ≤ v ∧ v ≤ 9223372036854775807) : (Tree.br (decide (u1 < (-2147483648 : Int))) (Tree.ret (AV.tup [AV.int IntKind.i64 true (0 : Int), AV.int IntKind.i64 true (2 : Int)], []))
    (Tree.br (decide (u1 > (2147483648 : Int))) (Tree.ret (AV.tup [AV.int IntKind.i64 true (0 : Int), AV.int IntKind.i64 true (2 : Int)], []))
      (Tree.br (decide (u2 < (-2147483648 : Int))) (Tree.ret (AV.tup [AV.int IntKind.i64 true (0 : Int), AV.int IntKind.i64 true (2 : Int)], []))
        (Tree.br (decide (u2 > (2147483648 : Int))) (Tree.ret (AV.tup [AV.int IntKind.i64 true (0 : Int), AV.int IntKind.i64 true (2 : Int)], []))
          (Tree.br (decide (I < (-2147483648 : Int))) (Tree.ret (AV.tup [AV.int IntKind.i64 true (0 : Int), AV.int IntKind.i64 true (2 : Int)], []))
            (Tree.br (decide (I > (2147483648 : Int))) (Tree.ret (AV.tup [AV.int IntKind.i64 true (0 : Int), AV.int IntKind.i64 true (2 : Int)], []))
              (Tree.br (decide (v < (-2147483648 : Int))) (Tree.ret (AV.tup [AV.int IntKind.i64 true (0 : Int), AV.int IntKind.i64 true (2 : Int)], []))
                (Tree.br (decide (v > (2147483648 : Int))) (Tree.ret (AV.tup [AV.int IntKind.i64 true (0 : Int), AV.int IntKind.i64 true (2 : Int)], []))
                  (Tree.chk
                    ((True ∧ True) ∧
                      (-9223372036854775808 : Int) ≤ R0 ∧
                        R0 ≤ (9223372036854775807 : Int) ∧
                          (-9223372036854775808 : Int) ≤ R1 ∧
                            R1 ≤ (9223372036854775807 : Int) ∧
                              (-9223372036854775808 : Int) ≤ R2 ∧
                                R2 ≤ (9223372036854775807 : Int) ∧
                                  (-9223372036854775808 : Int) ≤ T1 ∧
                                    T1 ≤ (9223372036854775807 : Int) ∧
                                      (-9223372036854775808 : Int) ≤ T2 ∧
                                        T2 ≤ (9223372036854775807 : Int) ∧
                                          (-9223372036854775808 : Int) ≤ Cm ∧
                                            Cm ≤ (9223372036854775807 : Int) ∧ (-9223372036854775808 : Int) ≤ Sl ∧ Sl ≤ (9223372036854775807 : Int) ∧ (-9223372036854775808 : Int) ≤ Tk ∧ Tk ≤ (9223372036854775807 : Int))
                    (Tree.br (ckE R0 R1 R2 T1 T2 Cm Sl Tk != (0 : Int)) (Tree.ret (AV.tup [AV.int IntKind.i64 true (0 : Int), AV.int IntKind.i64 false (ckE R0 R1 R2 T1 T2 Cm Sl Tk)], []))
                      (Tree.chk ((True ∧ True ∧ True) ∧ (-2147483648 : Int) ≤ I ∧ I ≤ (2147483648 : Int) ∧ (0 : Int) ≤ R0 ∧ R0 ≤ (1000000 : Int))
                        (Tree.br
                          (decide
                            (IntKind.wrap IntKind.i64
                                (IntKind.wrap IntKind.i64 (IntKind.wrap IntKind.i64 (IntKind.wrap IntKind.i64 ((0 : Int) + v) + IntKind.wrap IntKind.i64 ((0 : Int) - driveZ I R0)) + IntKind.wrap IntKind.i64 ((0 : Int) - u1)) +
                                  IntKind.wrap IntKind.i64 ((0 : Int) - u2)) <
                              (-2147483648 : Int)))
                          (Tree.ret (AV.tup [AV.int IntKind.i64 true (-2147483648 : Int), AV.int IntKind.i64 true (0 : Int)], []))
                          (Tree.br
                            (decide
                              (IntKind.wrap IntKind.i64
                                  (IntKind.wrap IntKind.i64 (IntKind.wrap IntKind.i64 (IntKind.wrap IntKind.i64 ((0 : Int) + v) + IntKind.wrap IntKind.i64 ((0 : Int) - driveZ I R0)) + IntKind.wrap IntKind.i64 ((0 : Int) - u1)) +
                                    IntKind.wrap IntKind.i64 ((0 : Int) - u2)) >
                                (2147483648 : Int)))
                            (Tree.ret (AV.tup [AV.int IntKind.i64 true (2147483648 : Int), AV.int IntKind.i64 true (0 : Int)], []))
                            (Tree.ret
                              (AV.tup
                                  [AV.int IntKind.i64 false
                                      (IntKind.wrap IntKind.i64
                                        (IntKind.wrap IntKind.i64
                                            (IntKind.wrap IntKind.i64 (IntKind.wrap IntKind.i64 ((0 : Int) + v) + IntKind.wrap IntKind.i64 ((0 : Int) - driveZ I R0)) + IntKind.wrap IntKind.i64 ((0 : Int) - u1)) +
                                          IntKind.wrap IntKind.i64 ((0 : Int) - u2))),
                                    AV.int IntKind.i64 true (0 : Int)],
                                [])))))))))))))) : Tree (AV × Mem)).GivesP (.tup [.int .i64 false (rsV R0 R1 R2 T1 T2 Cm Sl Tk u1 u2 I v), .int .i64 false (myE R0 R1 R2 T1 T2 Cm Sl Tk u1 u2 I v)]) ([]) := by
  have ck := ckE_cases R0 R1 R2 T1 T2 Cm Sl Tk
  have dk := drive_ok I R0
  refine Tree.GivesP.br (fun h1 => ?_) (fun h1 => ?_)
  · (try simp only [decide_eq_true_eq, decide_eq_false_iff_not, Bool.not_eq_true', Bool.not_eq_false', beq_iff_eq, beq_eq_false_iff_ne, Int.not_lt, Int.not_le, ge_iff_le, gt_iff_lt, ne_eq, Bool.false_eq_true, Bool.true_eq_false, not_true_eq_false, not_false_eq_true, Bool.and_eq_true, Bool.not_eq_eq_eq_not, Bool.not_true, Bool.not_false, bne_iff_ne, bne_eq_false_iff_eq, Int.toNat_natCast, Nat.mul_one, Nat.add_zero, Nat.zero_add, List.take_length, List.drop_zero] at h1)
    all_goals
      refine Tree.GivesP.ret ?_ ?_
      · simp only [AV.le, AV.leL, true_and, and_true, rsV, myE, clampU]
        first | omega | (split <;> omega) | (split <;> (try split) <;> omega) | (refine ⟨?_, ?_⟩ <;> (split <;> omega)) | (refine ⟨?_, ?_, ?_⟩ <;> (split <;> omega)) | (simp only [w64] at *; refine ⟨?_, ?_⟩ <;> (split <;> (try split) <;> (try split) <;> omega))
      · simp only [AV.leL, AV.le, Mem.le, Mem.leP, Blk.le, Blk.pad, Data.le, Data.size, Cap.le, and_true, true_and, and_self, true_implies, implies_true, imp_self, List.length_nil]
  · (try simp only [decide_eq_true_eq, decide_eq_false_iff_not, Bool.not_eq_true', Bool.not_eq_false', beq_iff_eq, beq_eq_false_iff_ne, Int.not_lt, Int.not_le, ge_iff_le, gt_iff_lt, ne_eq, Bool.false_eq_true, Bool.true_eq_false, not_true_eq_false, not_false_eq_true, Bool.and_eq_true, Bool.not_eq_eq_eq_not, Bool.not_true, Bool.not_false, bne_iff_ne, bne_eq_false_iff_eq, Int.toNat_natCast, Nat.mul_one, Nat.add_zero, Nat.zero_add, List.take_length, List.drop_zero] at h1)
    all_goals
      refine Tree.GivesP.br (fun h2 => ?_) (fun h2 => ?_)
      · (try simp only [decide_eq_true_eq, decide_eq_false_iff_not, Bool.not_eq_true', Bool.not_eq_false', beq_iff_eq, beq_eq_false_iff_ne, Int.not_lt, Int.not_le, ge_iff_le, gt_iff_lt, ne_eq, Bool.false_eq_true, Bool.true_eq_false, not_true_eq_false, not_false_eq_true, Bool.and_eq_true, Bool.not_eq_eq_eq_not, Bool.not_true, Bool.not_false, bne_iff_ne, bne_eq_false_iff_eq, Int.toNat_natCast, Nat.mul_one, Nat.add_zero, Nat.zero_add, List.take_length, List.drop_zero] at h2)
        all_goals
          refine Tree.GivesP.ret ?_ ?_
          · simp only [AV.le, AV.leL, true_and, and_true, rsV, myE, clampU]
            first | omega | (split <;> omega) | (split <;> (try split) <;> omega) | (refine ⟨?_, ?_⟩ <;> (split <;> omega)) | (refine ⟨?_, ?_, ?_⟩ <;> (split <;> omega)) | (simp only [w64] at *; refine ⟨?_, ?_⟩ <;> (split <;> (try split) <;> (try split) <;> omega))
          · simp only [AV.leL, AV.le, Mem.le, Mem.leP, Blk.le, Blk.pad, Data.le, Data.size, Cap.le, and_true, true_and, and_self, true_implies, implies_true, imp_self, List.length_nil]
      · (try simp only [decide_eq_true_eq, decide_eq_false_iff_not, Bool.not_eq_true', Bool.not_eq_false', beq_iff_eq, beq_eq_false_iff_ne, Int.not_lt, Int.not_le, ge_iff_le, gt_iff_lt, ne_eq, Bool.false_eq_true, Bool.true_eq_false, not_true_eq_false, not_false_eq_true, Bool.and_eq_true, Bool.not_eq_eq_eq_not, Bool.not_true, Bool.not_false, bne_iff_ne, bne_eq_false_iff_eq, Int.toNat_natCast, Nat.mul_one, Nat.add_zero, Nat.zero_add, List.take_length, List.drop_zero] at h2)
        all_goals
          refine Tree.GivesP.br (fun h3 => ?_) (fun h3 => ?_)
          · (try simp only [decide_eq_true_eq, decide_eq_false_iff_not, Bool.not_eq_true', Bool.not_eq_false', beq_iff_eq, beq_eq_false_iff_ne, Int.not_lt, Int.not_le, ge_iff_le, gt_iff_lt, ne_eq, Bool.false_eq_true, Bool.true_eq_false, not_true_eq_false, not_false_eq_true, Bool.and_eq_true, Bool.not_eq_eq_eq_not, Bool.not_true, Bool.not_false, bne_iff_ne, bne_eq_false_iff_eq, Int.toNat_natCast, Nat.mul_one, Nat.add_zero, Nat.zero_add, List.take_length, List.drop_zero] at h3)
            all_goals
              refine Tree.GivesP.ret ?_ ?_
              · simp only [AV.le, AV.leL, true_and, and_true, rsV, myE, clampU]
                first | omega | (split <;> omega) | (split <;> (try split) <;> omega) | (refine ⟨?_, ?_⟩ <;> (split <;> omega)) | (refine ⟨?_, ?_, ?_⟩ <;> (split <;> omega)) | (simp only [w64] at *; refine ⟨?_, ?_⟩ <;> (split <;> (try split) <;> (try split) <;> omega))
              · simp only [AV.leL, AV.le, Mem.le, Mem.leP, Blk.le, Blk.pad, Data.le, Data.size, Cap.le, and_true, true_and, and_self, true_implies, implies_true, imp_self, List.length_nil]
          · (try simp only [decide_eq_true_eq, decide_eq_false_iff_not, Bool.not_eq_true', Bool.not_eq_false', beq_iff_eq, beq_eq_false_iff_ne, Int.not_lt, Int.not_le, ge_iff_le, gt_iff_lt, ne_eq, Bool.false_eq_true, Bool.true_eq_false, not_true_eq_false, not_false_eq_true, Bool.and_eq_true, Bool.not_eq_eq_eq_not, Bool.not_true, Bool.not_false, bne_iff_ne, bne_eq_false_iff_eq, Int.toNat_natCast, Nat.mul_one, Nat.add_zero, Nat.zero_add, List.take_length, List.drop_zero] at h3)
            all_goals
              refine Tree.GivesP.br (fun h4 => ?_) (fun h4 => ?_)
              · (try simp only [decide_eq_true_eq, decide_eq_false_iff_not, Bool.not_eq_true', Bool.not_eq_false', beq_iff_eq, beq_eq_false_iff_ne, Int.not_lt, Int.not_le, ge_iff_le, gt_iff_lt, ne_eq, Bool.false_eq_true, Bool.true_eq_false, not_true_eq_false, not_false_eq_true, Bool.and_eq_true, Bool.not_eq_eq_eq_not, Bool.not_true, Bool.not_false, bne_iff_ne, bne_eq_false_iff_eq, Int.toNat_natCast, Nat.mul_one, Nat.add_zero, Nat.zero_add, List.take_length, List.drop_zero] at h4)
                all_goals
                  refine Tree.GivesP.ret ?_ ?_
                  · simp only [AV.le, AV.leL, true_and, and_true, rsV, myE, clampU]
                    first | omega | (split <;> omega) | (split <;> (try split) <;> omega) | (refine ⟨?_, ?_⟩ <;> (split <;> omega)) | (refine ⟨?_, ?_, ?_⟩ <;> (split <;> omega)) | (simp only [w64] at *; refine ⟨?_, ?_⟩ <;> (split <;> (try split) <;> (try split) <;> omega))
                  · simp only [AV.leL, AV.le, Mem.le, Mem.leP, Blk.le, Blk.pad, Data.le, Data.size, Cap.le, and_true, true_and, and_self, true_implies, implies_true, imp_self, List.length_nil]
              · (try simp only [decide_eq_true_eq, decide_eq_false_iff_not, Bool.not_eq_true', Bool.not_eq_false', beq_iff_eq, beq_eq_false_iff_ne, Int.not_lt, Int.not_le, ge_iff_le, gt_iff_lt, ne_eq, Bool.false_eq_true, Bool.true_eq_false, not_true_eq_false, not_false_eq_true, Bool.and_eq_true, Bool.not_eq_eq_eq_not, Bool.not_true, Bool.not_false, bne_iff_ne, bne_eq_false_iff_eq, Int.toNat_natCast, Nat.mul_one, Nat.add_zero, Nat.zero_add, List.take_length, List.drop_zero] at h4)
                all_goals
                  refine Tree.GivesP.br (fun h5 => ?_) (fun h5 => ?_)
                  · (try simp only [decide_eq_true_eq, decide_eq_false_iff_not, Bool.not_eq_true', Bool.not_eq_false', beq_iff_eq, beq_eq_false_iff_ne, Int.not_lt, Int.not_le, ge_iff_le, gt_iff_lt, ne_eq, Bool.false_eq_true, Bool.true_eq_false, not_true_eq_false, not_false_eq_true, Bool.and_eq_true, Bool.not_eq_eq_eq_not, Bool.not_true, Bool.not_false, bne_iff_ne, bne_eq_false_iff_eq, Int.toNat_natCast, Nat.mul_one, Nat.add_zero, Nat.zero_add, List.take_length, List.drop_zero] at h5)
                    all_goals
                      refine Tree.GivesP.ret ?_ ?_
                      · simp only [AV.le, AV.leL, true_and, and_true, rsV, myE, clampU]
                        first | omega | (split <;> omega) | (split <;> (try split) <;> omega) | (refine ⟨?_, ?_⟩ <;> (split <;> omega)) | (refine ⟨?_, ?_, ?_⟩ <;> (split <;> omega)) | (simp only [w64] at *; refine ⟨?_, ?_⟩ <;> (split <;> (try split) <;> (try split) <;> omega))
                      · simp only [AV.leL, AV.le, Mem.le, Mem.leP, Blk.le, Blk.pad, Data.le, Data.size, Cap.le, and_true, true_and, and_self, true_implies, implies_true, imp_self, List.length_nil]
                  · (try simp only [decide_eq_true_eq, decide_eq_false_iff_not, Bool.not_eq_true', Bool.not_eq_false', beq_iff_eq, beq_eq_false_iff_ne, Int.not_lt, Int.not_le, ge_iff_le, gt_iff_lt, ne_eq, Bool.false_eq_true, Bool.true_eq_false, not_true_eq_false, not_false_eq_true, Bool.and_eq_true, Bool.not_eq_eq_eq_not, Bool.not_true, Bool.not_false, bne_iff_ne, bne_eq_false_iff_eq, Int.toNat_natCast, Nat.mul_one, Nat.add_zero, Nat.zero_add, List.take_length, List.drop_zero] at h5)
                    all_goals
                      refine Tree.GivesP.br (fun h6 => ?_) (fun h6 => ?_)
                      · (try simp only [decide_eq_true_eq, decide_eq_false_iff_not, Bool.not_eq_true', Bool.not_eq_false', beq_iff_eq, beq_eq_false_iff_ne, Int.not_lt, Int.not_le, ge_iff_le, gt_iff_lt, ne_eq, Bool.false_eq_true, Bool.true_eq_false, not_true_eq_false, not_false_eq_true, Bool.and_eq_true, Bool.not_eq_eq_eq_not, Bool.not_true, Bool.not_false, bne_iff_ne, bne_eq_false_iff_eq, Int.toNat_natCast, Nat.mul_one, Nat.add_zero, Nat.zero_add, List.take_length, List.drop_zero] at h6)
                        all_goals
                          refine Tree.GivesP.ret ?_ ?_
                          · simp only [AV.le, AV.leL, true_and, and_true, rsV, myE, clampU]
                            first | omega | (split <;> omega) | (split <;> (try split) <;> omega) | (refine ⟨?_, ?_⟩ <;> (split <;> omega)) | (refine ⟨?_, ?_, ?_⟩ <;> (split <;> omega)) | (simp only [w64] at *; refine ⟨?_, ?_⟩ <;> (split <;> (try split) <;> (try split) <;> omega))
                          · simp only [AV.leL, AV.le, Mem.le, Mem.leP, Blk.le, Blk.pad, Data.le, Data.size, Cap.le, and_true, true_and, and_self, true_implies, implies_true, imp_self, List.length_nil]
                      · (try simp only [decide_eq_true_eq, decide_eq_false_iff_not, Bool.not_eq_true', Bool.not_eq_false', beq_iff_eq, beq_eq_false_iff_ne, Int.not_lt, Int.not_le, ge_iff_le, gt_iff_lt, ne_eq, Bool.false_eq_true, Bool.true_eq_false, not_true_eq_false, not_false_eq_true, Bool.and_eq_true, Bool.not_eq_eq_eq_not, Bool.not_true, Bool.not_false, bne_iff_ne, bne_eq_false_iff_eq, Int.toNat_natCast, Nat.mul_one, Nat.add_zero, Nat.zero_add, List.take_length, List.drop_zero] at h6)
                        all_goals
                          refine Tree.GivesP.br (fun h7 => ?_) (fun h7 => ?_)
                          · (try simp only [decide_eq_true_eq, decide_eq_false_iff_not, Bool.not_eq_true', Bool.not_eq_false', beq_iff_eq, beq_eq_false_iff_ne, Int.not_lt, Int.not_le, ge_iff_le, gt_iff_lt, ne_eq, Bool.false_eq_true, Bool.true_eq_false, not_true_eq_false, not_false_eq_true, Bool.and_eq_true, Bool.not_eq_eq_eq_not, Bool.not_true, Bool.not_false, bne_iff_ne, bne_eq_false_iff_eq, Int.toNat_natCast, Nat.mul_one, Nat.add_zero, Nat.zero_add, List.take_length, List.drop_zero] at h7)
                            all_goals
                              refine Tree.GivesP.ret ?_ ?_
                              · simp only [AV.le, AV.leL, true_and, and_true, rsV, myE, clampU]
                                first | omega | (split <;> omega) | (split <;> (try split) <;> omega) | (refine ⟨?_, ?_⟩ <;> (split <;> omega)) | (refine ⟨?_, ?_, ?_⟩ <;> (split <;> omega)) | (simp only [w64] at *; refine ⟨?_, ?_⟩ <;> (split <;> (try split) <;> (try split) <;> omega))
                              · simp only [AV.leL, AV.le, Mem.le, Mem.leP, Blk.le, Blk.pad, Data.le, Data.size, Cap.le, and_true, true_and, and_self, true_implies, implies_true, imp_self, List.length_nil]
                          · (try simp only [decide_eq_true_eq, decide_eq_false_iff_not, Bool.not_eq_true', Bool.not_eq_false', beq_iff_eq, beq_eq_false_iff_ne, Int.not_lt, Int.not_le, ge_iff_le, gt_iff_lt, ne_eq, Bool.false_eq_true, Bool.true_eq_false, not_true_eq_false, not_false_eq_true, Bool.and_eq_true, Bool.not_eq_eq_eq_not, Bool.not_true, Bool.not_false, bne_iff_ne, bne_eq_false_iff_eq, Int.toNat_natCast, Nat.mul_one, Nat.add_zero, Nat.zero_add, List.take_length, List.drop_zero] at h7)
                            all_goals
                              refine Tree.GivesP.br (fun h8 => ?_) (fun h8 => ?_)
                              · (try simp only [decide_eq_true_eq, decide_eq_false_iff_not, Bool.not_eq_true', Bool.not_eq_false', beq_iff_eq, beq_eq_false_iff_ne, Int.not_lt, Int.not_le, ge_iff_le, gt_iff_lt, ne_eq, Bool.false_eq_true, Bool.true_eq_false, not_true_eq_false, not_false_eq_true, Bool.and_eq_true, Bool.not_eq_eq_eq_not, Bool.not_true, Bool.not_false, bne_iff_ne, bne_eq_false_iff_eq, Int.toNat_natCast, Nat.mul_one, Nat.add_zero, Nat.zero_add, List.take_length, List.drop_zero] at h8)
                                all_goals
                                  refine Tree.GivesP.ret ?_ ?_
                                  · simp only [AV.le, AV.leL, true_and, and_true, rsV, myE, clampU]
                                    first | omega | (split <;> omega) | (split <;> (try split) <;> omega) | (refine ⟨?_, ?_⟩ <;> (split <;> omega)) | (refine ⟨?_, ?_, ?_⟩ <;> (split <;> omega)) | (simp only [w64] at *; refine ⟨?_, ?_⟩ <;> (split <;> (try split) <;> (try split) <;> omega))
                                  · simp only [AV.leL, AV.le, Mem.le, Mem.leP, Blk.le, Blk.pad, Data.le, Data.size, Cap.le, and_true, true_and, and_self, true_implies, implies_true, imp_self, List.length_nil]
                              · (try simp only [decide_eq_true_eq, decide_eq_false_iff_not, Bool.not_eq_true', Bool.not_eq_false', beq_iff_eq, beq_eq_false_iff_ne, Int.not_lt, Int.not_le, ge_iff_le, gt_iff_lt, ne_eq, Bool.false_eq_true, Bool.true_eq_false, not_true_eq_false, not_false_eq_true, Bool.and_eq_true, Bool.not_eq_eq_eq_not, Bool.not_true, Bool.not_false, bne_iff_ne, bne_eq_false_iff_eq, Int.toNat_natCast, Nat.mul_one, Nat.add_zero, Nat.zero_add, List.take_length, List.drop_zero] at h8)
                                all_goals
                                  refine Tree.GivesP.chk (by first | (simp only [and_self]; done) | ((repeat' with_reducible refine And.intro ?_ ?_) <;> first | trivial | omega | (simp only [ckE] at *; split at * <;> omega))) ?_
                                  refine Tree.GivesP.br (fun h9 => ?_) (fun h9 => ?_)
                                  · (try simp only [decide_eq_true_eq, decide_eq_false_iff_not, Bool.not_eq_true', Bool.not_eq_false', beq_iff_eq, beq_eq_false_iff_ne, Int.not_lt, Int.not_le, ge_iff_le, gt_iff_lt, ne_eq, Bool.false_eq_true, Bool.true_eq_false, not_true_eq_false, not_false_eq_true, Bool.and_eq_true, Bool.not_eq_eq_eq_not, Bool.not_true, Bool.not_false, bne_iff_ne, bne_eq_false_iff_eq, Int.toNat_natCast, Nat.mul_one, Nat.add_zero, Nat.zero_add, List.take_length, List.drop_zero] at h9)
                                    all_goals
                                      refine Tree.GivesP.ret ?_ ?_
                                      · simp only [AV.le, AV.leL, true_and, and_true, rsV, myE, clampU]
                                        first | omega | (split <;> omega) | (split <;> (try split) <;> omega) | (refine ⟨?_, ?_⟩ <;> (split <;> omega)) | (refine ⟨?_, ?_, ?_⟩ <;> (split <;> omega)) | (simp only [w64] at *; refine ⟨?_, ?_⟩ <;> (split <;> (try split) <;> (try split) <;> omega))
                                      · simp only [AV.leL, AV.le, Mem.le, Mem.leP, Blk.le, Blk.pad, Data.le, Data.size, Cap.le, and_true, true_and, and_self, true_implies, implies_true, imp_self, List.length_nil]
                                  · (try simp only [decide_eq_true_eq, decide_eq_false_iff_not, Bool.not_eq_true', Bool.not_eq_false', beq_iff_eq, beq_eq_false_iff_ne, Int.not_lt, Int.not_le, ge_iff_le, gt_iff_lt, ne_eq, Bool.false_eq_true, Bool.true_eq_false, not_true_eq_false, not_false_eq_true, Bool.and_eq_true, Bool.not_eq_eq_eq_not, Bool.not_true, Bool.not_false, bne_iff_ne, bne_eq_false_iff_eq, Int.toNat_natCast, Nat.mul_one, Nat.add_zero, Nat.zero_add, List.take_length, List.drop_zero] at h9)
                                    all_goals
                                      refine Tree.GivesP.chk (by first | (simp only [and_self]; done) | ((repeat' with_reducible refine And.intro ?_ ?_) <;> first | trivial | omega | (simp only [ckE] at *; split at * <;> omega))) ?_
                                      refine Tree.GivesP.br (fun h10 => ?_) (fun h10 => ?_)
                                      · (try simp only [decide_eq_true_eq, decide_eq_false_iff_not, Bool.not_eq_true', Bool.not_eq_false', beq_iff_eq, beq_eq_false_iff_ne, Int.not_lt, Int.not_le, ge_iff_le, gt_iff_lt, ne_eq, Bool.false_eq_true, Bool.true_eq_false, not_true_eq_false, not_false_eq_true, Bool.and_eq_true, Bool.not_eq_eq_eq_not, Bool.not_true, Bool.not_false, bne_iff_ne, bne_eq_false_iff_eq, Int.toNat_natCast, Nat.mul_one, Nat.add_zero, Nat.zero_add, List.take_length, List.drop_zero] at h10)
                                        all_goals
                                          refine Tree.GivesP.ret ?_ ?_
                                          · simp only [AV.le, AV.leL, true_and, and_true, rsV, myE, clampU]
                                            first | omega | (split <;> omega) | (split <;> (try split) <;> omega) | (refine ⟨?_, ?_⟩ <;> (split <;> omega)) | (refine ⟨?_, ?_, ?_⟩ <;> (split <;> omega)) | (simp only [w64] at *; refine ⟨?_, ?_⟩ <;> (split <;> (try split) <;> (try split) <;> omega))
                                          · simp only [AV.leL, AV.le, Mem.le, Mem.leP, Blk.le, Blk.pad, Data.le, Data.size, Cap.le, and_true, true_and, and_self, true_implies, implies_true, imp_self, List.length_nil]
                                      · (try simp only [decide_eq_true_eq, decide_eq_false_iff_not, Bool.not_eq_true', Bool.not_eq_false', beq_iff_eq, beq_eq_false_iff_ne, Int.not_lt, Int.not_le, ge_iff_le, gt_iff_lt, ne_eq, Bool.false_eq_true, Bool.true_eq_false, not_true_eq_false, not_false_eq_true, Bool.and_eq_true, Bool.not_eq_eq_eq_not, Bool.not_true, Bool.not_false, bne_iff_ne, bne_eq_false_iff_eq, Int.toNat_natCast, Nat.mul_one, Nat.add_zero, Nat.zero_add, List.take_length, List.drop_zero] at h10)
                                        all_goals
                                          refine Tree.GivesP.br (fun h11 => ?_) (fun h11 => ?_)
                                          · (try simp only [decide_eq_true_eq, decide_eq_false_iff_not, Bool.not_eq_true', Bool.not_eq_false', beq_iff_eq, beq_eq_false_iff_ne, Int.not_lt, Int.not_le, ge_iff_le, gt_iff_lt, ne_eq, Bool.false_eq_true, Bool.true_eq_false, not_true_eq_false, not_false_eq_true, Bool.and_eq_true, Bool.not_eq_eq_eq_not, Bool.not_true, Bool.not_false, bne_iff_ne, bne_eq_false_iff_eq, Int.toNat_natCast, Nat.mul_one, Nat.add_zero, Nat.zero_add, List.take_length, List.drop_zero] at h11)
                                            all_goals
                                              refine Tree.GivesP.ret ?_ ?_
                                              · simp only [AV.le, AV.leL, true_and, and_true, rsV, myE, clampU]
                                                first | omega | (split <;> omega) | (split <;> (try split) <;> omega) | (refine ⟨?_, ?_⟩ <;> (split <;> omega)) | (refine ⟨?_, ?_, ?_⟩ <;> (split <;> omega)) | (simp only [w64] at *; refine ⟨?_, ?_⟩ <;> (split <;> (try split) <;> (try split) <;> omega))
                                              · simp only [AV.leL, AV.le, Mem.le, Mem.leP, Blk.le, Blk.pad, Data.le, Data.size, Cap.le, and_true, true_and, and_self, true_implies, implies_true, imp_self, List.length_nil]
                                          · (try simp only [decide_eq_true_eq, decide_eq_false_iff_not, Bool.not_eq_true', Bool.not_eq_false', beq_iff_eq, beq_eq_false_iff_ne, Int.not_lt, Int.not_le, ge_iff_le, gt_iff_lt, ne_eq, Bool.false_eq_true, Bool.true_eq_false, not_true_eq_false, not_false_eq_true, Bool.and_eq_true, Bool.not_eq_eq_eq_not, Bool.not_true, Bool.not_false, bne_iff_ne, bne_eq_false_iff_eq, Int.toNat_natCast, Nat.mul_one, Nat.add_zero, Nat.zero_add, List.take_length, List.drop_zero] at h11)
                                            all_goals
                                              refine Tree.GivesP.ret ?_ ?_
                                              · simp only [AV.le, AV.leL, true_and, and_true, rsV, myE, clampU]
                                                first | omega | (split <;> omega) | (split <;> (try split) <;> omega) | (refine ⟨?_, ?_⟩ <;> (split <;> omega)) | (refine ⟨?_, ?_, ?_⟩ <;> (split <;> omega)) | (simp only [w64] at *; refine ⟨?_, ?_⟩ <;> (split <;> (try split) <;> (try split) <;> omega))
                                              · simp only [AV.leL, AV.le, Mem.le, Mem.leP, Blk.le, Blk.pad, Data.le, Data.size, Cap.le, and_true, true_and, and_self, true_implies, implies_true, imp_self, List.length_nil]
theorem sRested (hall : AllOk Try.prog 0 (fun _ => none) tab15) (R0 : Int) (R1 : Int) (R2 : Int) (T1 : Int) (T2 : Int) (Cm : Int) (Sl : Int) (Tk : Int) (u1 : Int) (u2 : Int) (I : Int) (v : Int) (hw : -9223372036854775808 ≤ R0 ∧ R0 ≤ 9223372036854775807 ∧ -9223372036854775808 ≤ R1 ∧ R1 ≤ 9223372036854775807 ∧ -9223372036854775808 ≤ R2 ∧ R2 ≤ 9223372036854775807 ∧ -9223372036854775808 ≤ T1 ∧ T1 ≤ 9223372036854775807 ∧ -9223372036854775808 ≤ T2 ∧ T2 ≤ 9223372036854775807 ∧ -9223372036854775808 ≤ Cm ∧ Cm ≤ 9223372036854775807 ∧ -9223372036854775808 ≤ Sl ∧ Sl ≤ 9223372036854775807 ∧ -9223372036854775808 ≤ Tk ∧ Tk ≤ 9223372036854775807 ∧ -9223372036854775808 ≤ u1 ∧ u1 ≤ 9223372036854775807 ∧ -9223372036854775808 ≤ u2 ∧ u2 ≤ 9223372036854775807 ∧ -9223372036854775808 ≤ I ∧ I ≤ 9223372036854775807 ∧ -9223372036854775808 ≤ v ∧ v ≤ 9223372036854775807) : SoundAt (mkC Try.prog 0 (fun _ => none) []) 9 [.agg [.int .i64 false R0, .int .i64 false R1, .int .i64 false R2, .int .i64 false T1, .int .i64 false T2, .int .i64 false Cm, .int .i64 false Sl, .int .i64 false Tk], .int .i64 false u1, .int .i64 false u2, .int .i64 false I, .int .i64 false v] [] (.tup [.int .i64 false (rsV R0 R1 R2 T1 T2 Cm Sl Tk u1 u2 I v), .int .i64 false (myE R0 R1 R2 T1 T2 Cm Sl Tk u1 u2 I v)], []) := sound_ofP hall mix (tRested R0 R1 R2 T1 T2 Cm Sl Tk u1 u2 I v) (gRested R0 R1 R2 T1 T2 Cm Sl Tk u1 u2 I v hw)
theorem FRested_ok (hall : AllOk Try.prog 0 (fun _ => none) tab15) : PureF Try.prog 3 9 FRested := by
  intro xs c v news h hc
  unfold FRested at h
  split at h
  · rename_i _ R0 _ R1 _ R2 _ T1 _ T2 _ Cm _ Sl _ Tk _ u1 _ u2 _ I _ v
    cases h
    refine ⟨(by intro b hb; cases hb), SoundAt.flags (sRested hall R0 R1 R2 T1 T2 Cm Sl Tk u1 u2 I v hc) ?_⟩
    simp [PA.avs, AV.le, AV.leL, Cap.le]
  · cases h
end Go.Proofs.Ytoihhmpmlbdeiaa.Rig

/- QTerminal -/
namespace Go.Proofs.Ytoihhmpmlbdeiaa.Rig
open Go
set_option maxRecDepth 100000 in
theorem tTerminal (R0 : Int) (R1 : Int) (R2 : Int) (T1 : Int) (T2 : Int) (Cm : Int) (Sl : Int) (Tk : Int) (u1 : Int) (u2 : Int) (I : Int) (v : Int) : evBody (mkC Try.prog 0 (fun _ => none) tab16) (evCall (mkC Try.prog 0 (fun _ => none) tab16) 50) 11 [.agg [.int .i64 false R0, .int .i64 false R1, .int .i64 false R2, .int .i64 false T1, .int .i64 false T2, .int .i64 false Cm, .int .i64 false Sl, .int .i64 false Tk], .int .i64 false u1, .int .i64 false u2, .int .i64 false I, .int .i64 false v] [] =
  Tree.br (decide (u1 < (-2147483648 : Int))) (Tree.ret (AV.tup [AV.int IntKind.i64 true (0 : Int), AV.int IntKind.i64 true (2 : Int)], []))
    (Tree.br (decide (u1 > (2147483648 : Int))) (Tree.ret (AV.tup [AV.int IntKind.i64 true (0 : Int), AV.int IntKind.i64 true (2 : Int)], []))
      (Tree.br (decide (u2 < (-2147483648 : Int))) (Tree.ret (AV.tup [AV.int IntKind.i64 true (0 : Int), AV.int IntKind.i64 true (2 : Int)], []))
        (Tree.br (decide (u2 > (2147483648 : Int))) (Tree.ret (AV.tup [AV.int IntKind.i64 true (0 : Int), AV.int IntKind.i64 true (2 : Int)], []))
          (Tree.br (decide (I < (-2147483648 : Int))) (Tree.ret (AV.tup [AV.int IntKind.i64 true (0 : Int), AV.int IntKind.i64 true (2 : Int)], []))
            (Tree.br (decide (I > (2147483648 : Int))) (Tree.ret (AV.tup [AV.int IntKind.i64 true (0 : Int), AV.int IntKind.i64 true (2 : Int)], []))
              (Tree.br (decide (v < (-2147483648 : Int))) (Tree.ret (AV.tup [AV.int IntKind.i64 true (0 : Int), AV.int IntKind.i64 true (2 : Int)], []))
                (Tree.br (decide (v > (2147483648 : Int))) (Tree.ret (AV.tup [AV.int IntKind.i64 true (0 : Int), AV.int IntKind.i64 true (2 : Int)], []))
                  (Tree.chk
                    ((True ∧ True) ∧
                      (-9223372036854775808 : Int) ≤ R0 ∧
                        R0 ≤ (9223372036854775807 : Int) ∧
                          (-9223372036854775808 : Int) ≤ R1 ∧
                            R1 ≤ (9223372036854775807 : Int) ∧
                              (-9223372036854775808 : Int) ≤ R2 ∧
                                R2 ≤ (9223372036854775807 : Int) ∧
                                  (-9223372036854775808 : Int) ≤ T1 ∧
                                    T1 ≤ (9223372036854775807 : Int) ∧
                                      (-9223372036854775808 : Int) ≤ T2 ∧
                                        T2 ≤ (9223372036854775807 : Int) ∧
                                          (-9223372036854775808 : Int) ≤ Cm ∧
                                            Cm ≤ (9223372036854775807 : Int) ∧ (-9223372036854775808 : Int) ≤ Sl ∧ Sl ≤ (9223372036854775807 : Int) ∧ (-9223372036854775808 : Int) ≤ Tk ∧ Tk ≤ (9223372036854775807 : Int))
                    (Tree.br (ckE R0 R1 R2 T1 T2 Cm Sl Tk != (0 : Int)) (Tree.ret (AV.tup [AV.int IntKind.i64 true (0 : Int), AV.int IntKind.i64 false (ckE R0 R1 R2 T1 T2 Cm Sl Tk)], []))
                      (Tree.chk ((True ∧ True ∧ True) ∧ (-2147483648 : Int) ≤ I ∧ I ≤ (2147483648 : Int) ∧ (0 : Int) ≤ R0 ∧ R0 ≤ (1000000 : Int))
                        (Tree.br (decide (IntKind.wrap IntKind.i64 (IntKind.wrap IntKind.i64 (IntKind.wrap IntKind.i64 (IntKind.wrap IntKind.i64 ((0 : Int) + v) + driveZ I R0) + u1) + u2) < (-2147483648 : Int)))
                          (Tree.ret (AV.tup [AV.int IntKind.i64 true (-2147483648 : Int), AV.int IntKind.i64 true (0 : Int)], []))
                          (Tree.br (decide (IntKind.wrap IntKind.i64 (IntKind.wrap IntKind.i64 (IntKind.wrap IntKind.i64 (IntKind.wrap IntKind.i64 ((0 : Int) + v) + driveZ I R0) + u1) + u2) > (2147483648 : Int)))
                            (Tree.ret (AV.tup [AV.int IntKind.i64 true (2147483648 : Int), AV.int IntKind.i64 true (0 : Int)], []))
                            (Tree.ret
                              (AV.tup
                                  [AV.int IntKind.i64 false (IntKind.wrap IntKind.i64 (IntKind.wrap IntKind.i64 (IntKind.wrap IntKind.i64 (IntKind.wrap IntKind.i64 ((0 : Int) + v) + driveZ I R0) + u1) + u2)),
                                    AV.int IntKind.i64 true (0 : Int)],
                                [])))))))))))))) := by kernel_rfl
set_option maxRecDepth 100000 in
theorem gTerminal (R0 : Int) (R1 : Int) (R2 : Int) (T1 : Int) (T2 : Int) (Cm : Int) (Sl : Int) (Tk : Int) (u1 : Int) (u2 : Int) (I : Int) (v : Int) (hw : -9223372036854775808 ≤ R0 ∧ R0 ≤ 9223372036854775807 ∧ -9223372036854775808 ≤ R1 ∧ R1 ≤ 9223372036854775807 ∧ -9223372036854775808 ≤ R2 ∧ R2 ≤ 9223372036854775807 ∧ -9223372036854775808 ≤ T1 ∧ T1 ≤ 9223372036854775807 ∧ -9223372036854775808 ≤ T2 ∧ T2 ≤ 9223372036854775807 ∧ -9223372036854775808 ≤ Cm ∧ Cm ≤ 9223372036854775807 ∧ -9223372036854775808 ≤ Sl ∧ Sl ≤ 9223372036854775807 ∧ -9223372036854775808 ≤ Tk ∧ Tk ≤ 9223372036854775807 ∧ -9223372036854775808 ≤ u1 ∧ u1 ≤ 9223372036854775807 ∧ -9223372036854775808 ≤ u2 ∧ u2 ≤ 9223372036854775807 ∧ -9223372036854775808 ≤ I ∧ I ≤ 9223372036854775807 ∧ -9223372036854775808 ≤ v ∧ v ≤ 9223372036854775807) : (Tree.br (decide (u1 < (-2147483648 : Int))) (Tree.ret (AV.tup [AV.int IntKind.i64 true (0 : Int), AV.int IntKind.i64 true (2 : Int)], []))
    (Tree.br (decide (u1 > (2147483648 : Int))) (Tree.ret (AV.tup [AV.int IntKind.i64 true (0 : Int), AV.int IntKind.i64 true (2 : Int)], []))
      (Tree.br (decide (u2 < (-2147483648 : Int))) (Tree.ret (AV.tup [AV.int IntKind.i64 true (0 : Int), AV.int IntKind.i64 true (2 : Int)], []))
        (Tree.br (decide (u2 > (2147483648 : Int))) (Tree.ret (AV.tup [AV.int IntKind.i64 true (0 : Int), AV.int IntKind.i64 true (2 : Int)], []))
          (Tree.br (decide (I < (-2147483648 : Int))) (Tree.ret (AV.tup [AV.int IntKind.i64 true (0 : Int), AV.int IntKind.i64 true (2 : Int)], []))
            (Tree.br (decide (I > (2147483648 : Int))) (Tree.ret (AV.tup [AV.int IntKind.i64 true (0 : Int), AV.int IntKind.i64 true (2 : Int)], []))
              (Tree.br (decide (v < (-2147483648 : Int))) (Tree.ret (AV.tup [AV.int IntKind.i64 true (0 : Int), AV.int IntKind.i64 true (2 : Int)], []))
                (Tree.br (decide (v > (2147483648 : Int))) (Tree.ret (AV.tup [AV.int IntKind.i64 true (0 : Int), AV.int IntKind.i64 true (2 : Int)], []))
                  (Tree.chk
                    ((True ∧ True) ∧
                      (-9223372036854775808 : Int) ≤ R0 ∧
                        R0 ≤ (9223372036854775807 : Int) ∧
                          (-9223372036854775808 : Int) ≤ R1 ∧
                            R1 ≤ (9223372036854775807 : Int) ∧
                              (-9223372036854775808 : Int) ≤ R2 ∧
                                R2 ≤ (9223372036854775807 : Int) ∧
                                  (-9223372036854775808 : Int) ≤ T1 ∧
                                    T1 ≤ (9223372036854775807 : Int) ∧
                                      (-9223372036854775808 : Int) ≤ T2 ∧
                                        T2 ≤ (9223372036854775807 : Int) ∧
                                          (-9223372036854775808 : Int) ≤ Cm ∧
                                            Cm ≤ (9223372036854775807 : Int) ∧ (-9223372036854775808 : Int) ≤ Sl ∧ Sl ≤ (9223372036854775807 : Int) ∧ (-9223372036854775808 : Int) ≤ Tk ∧ Tk ≤ (9223372036854775807 : Int))
                    (Tree.br (ckE R0 R1 R2 T1 T2 Cm Sl Tk != (0 : Int)) (Tree.ret (AV.tup [AV.int IntKind.i64 true (0 : Int), AV.int IntKind.i64 false (ckE R0 R1 R2 T1 T2 Cm Sl Tk)], []))
                      (Tree.chk ((True ∧ True ∧ True) ∧ (-2147483648 : Int) ≤ I ∧ I ≤ (2147483648 : Int) ∧ (0 : Int) ≤ R0 ∧ R0 ≤ (1000000 : Int))
                        (Tree.br (decide (IntKind.wrap IntKind.i64 (IntKind.wrap IntKind.i64 (IntKind.wrap IntKind.i64 (IntKind.wrap IntKind.i64 ((0 : Int) + v) + driveZ I R0) + u1) + u2) < (-2147483648 : Int)))
                          (Tree.ret (AV.tup [AV.int IntKind.i64 true (-2147483648 : Int), AV.int IntKind.i64 true (0 : Int)], []))
                          (Tree.br (decide (IntKind.wrap IntKind.i64 (IntKind.wrap IntKind.i64 (IntKind.wrap IntKind.i64 (IntKind.wrap IntKind.i64 ((0 : Int) + v) + driveZ I R0) + u1) + u2) > (2147483648 : Int)))
                            (Tree.ret (AV.tup [AV.int IntKind.i64 true (2147483648 : Int), AV.int IntKind.i64 true (0 : Int)], []))
                            (Tree.ret
                              (AV.tup
                                  [AV.int IntKind.i64 false (IntKind.wrap IntKind.i64 (IntKind.wrap IntKind.i64 (IntKind.wrap IntKind.i64 (IntKind.wrap IntKind.i64 ((0 : Int) + v) + driveZ I R0) + u1) + u2)),
                                    AV.int IntKind.i64 true (0 : Int)],
                                [])))))))))))))) : Tree (AV × Mem)).GivesP (.tup [.int .i64 false (teV R0 R1 R2 T1 T2 Cm Sl Tk u1 u2 I v), .int .i64 false (myE R0 R1 R2 T1 T2 Cm Sl Tk u1 u2 I v)]) ([]) := by
  have ck := ckE_cases R0 R1 R2 T1 T2 Cm Sl Tk
  have dk := drive_ok I R0
  refine Tree.GivesP.br (fun h1 => ?_) (fun h1 => ?_)
  · (try simp only [decide_eq_true_eq, decide_eq_false_iff_not, Bool.not_eq_true', Bool.not_eq_false', beq_iff_eq, beq_eq_false_iff_ne, Int.not_lt, Int.not_le, ge_iff_le, gt_iff_lt, ne_eq, Bool.false_eq_true, Bool.true_eq_false, not_true_eq_false, not_false_eq_true, Bool.and_eq_true, Bool.not_eq_eq_eq_not, Bool.not_true, Bool.not_false, bne_iff_ne, bne_eq_false_iff_eq, Int.toNat_natCast, Nat.mul_one, Nat.add_zero, Nat.zero_add, List.take_length, List.drop_zero] at h1)
    all_goals
      refine Tree.GivesP.ret ?_ ?_
      · simp only [AV.le, AV.leL, true_and, and_true, teV, myE, clampU]
        first | omega | (split <;> omega) | (split <;> (try split) <;> omega) | (refine ⟨?_, ?_⟩ <;> (split <;> omega)) | (refine ⟨?_, ?_, ?_⟩ <;> (split <;> omega)) | (simp only [w64] at *; refine ⟨?_, ?_⟩ <;> (split <;> (try split) <;> (try split) <;> omega))
      · simp only [AV.leL, AV.le, Mem.le, Mem.leP, Blk.le, Blk.pad, Data.le, Data.size, Cap.le, and_true, true_and, and_self, true_implies, implies_true, imp_self, List.length_nil]
  · (try simp only [decide_eq_true_eq, decide_eq_false_iff_not, Bool.not_eq_true', Bool.not_eq_false', beq_iff_eq, beq_eq_false_iff_ne, Int.not_lt, Int.not_le, ge_iff_le, gt_iff_lt, ne_eq, Bool.false_eq_true, Bool.true_eq_false, not_true_eq_false, not_false_eq_true, Bool.and_eq_true, Bool.not_eq_eq_eq_not, Bool.not_true, Bool.not_false, bne_iff_ne, bne_eq_false_iff_eq, Int.toNat_natCast, Nat.mul_one, Nat.add_zero, Nat.zero_add, List.take_length, List.drop_zero] at h1)
    all_goals
      refine Tree.GivesP.br (fun h2 => ?_) (fun h2 => ?_)
      · (try simp only [decide_eq_true_eq, decide_eq_false_iff_not, Bool.not_eq_true', Bool.not_eq_false', beq_iff_eq, beq_eq_false_iff_ne, Int.not_lt, Int.not_le, ge_iff_le, gt_iff_lt, ne_eq, Bool.false_eq_true, Bool.true_eq_false, not_true_eq_false, not_false_eq_true, Bool.and_eq_true, Bool.not_eq_eq_eq_not, Bool.not_true, Bool.not_false, bne_iff_ne, bne_eq_false_iff_eq, Int.toNat_natCast, Nat.mul_one, Nat.add_zero, Nat.zero_add, List.take_length, List.drop_zero] at h2)
        all_goals
          refine Tree.GivesP.ret ?_ ?_
          · simp only [AV.le, AV.leL, true_and, and_true, teV, myE, clampU]
            first | omega | (split <;> omega) | (split <;> (try split) <;> omega) | (refine ⟨?_, ?_⟩ <;> (split <;> omega)) | (refine ⟨?_, ?_, ?_⟩ <;> (split <;> omega)) | (simp only [w64] at *; refine ⟨?_, ?_⟩ <;> (split <;> (try split) <;> (try split) <;> omega))
          · simp only [AV.leL, AV.le, Mem.le, Mem.leP, Blk.le, Blk.pad, Data.le, Data.size, Cap.le, and_true, true_and, and_self, true_implies, implies_true, imp_self, List.length_nil]
      · (try simp only [decide_eq_true_eq, decide_eq_false_iff_not, Bool.not_eq_true', Bool.not_eq_false', beq_iff_eq, beq_eq_false_iff_ne, Int.not_lt, Int.not_le, ge_iff_le, gt_iff_lt, ne_eq, Bool.false_eq_true, Bool.true_eq_false, not_true_eq_false, not_false_eq_true, Bool.and_eq_true, Bool.not_eq_eq_eq_not, Bool.not_true, Bool.not_false, bne_iff_ne, bne_eq_false_iff_eq, Int.toNat_natCast, Nat.mul_one, Nat.add_zero, Nat.zero_add, List.take_length, List.drop_zero] at h2)
        all_goals
          refine Tree.GivesP.br (fun h3 => ?_) (fun h3 => ?_)
          · (try simp only [decide_eq_true_eq, decide_eq_false_iff_not, Bool.not_eq_true', Bool.not_eq_false', beq_iff_eq, beq_eq_false_iff_ne, Int.not_lt, Int.not_le, ge_iff_le, gt_iff_lt, ne_eq, Bool.false_eq_true, Bool.true_eq_false, not_true_eq_false, not_false_eq_true, Bool.and_eq_true, Bool.not_eq_eq_eq_not, Bool.not_true, Bool.not_false, bne_iff_ne, bne_eq_false_iff_eq, Int.toNat_natCast, Nat.mul_one, Nat.add_zero, Nat.zero_add, List.take_length, List.drop_zero] at h3)
            all_goals
              refine Tree.GivesP.ret ?_ ?_
              · simp only [AV.le, AV.leL, true_and, and_true, teV, myE, clampU]
                first | omega | (split <;> omega) | (split <;> (try split) <;> omega) | (refine ⟨?_, ?_⟩ <;> (split <;> omega)) | (refine ⟨?_, ?_, ?_⟩ <;> (split <;> omega)) | (simp only [w64] at *; refine ⟨?_, ?_⟩ <;> (split <;> (try split) <;> (try split) <;> omega))
              · simp only [AV.leL, AV.le, Mem.le, Mem.leP, Blk.le, Blk.pad, Data.le, Data.size, Cap.le, and_true, true_and, and_self, true_implies, implies_true, imp_self, List.length_nil]
          · (try simp only [decide_eq_true_eq, decide_eq_false_iff_not, Bool.not_eq_true', Bool.not_eq_false', beq_iff_eq, beq_eq_false_iff_ne, Int.not_lt, Int.not_le, ge_iff_le, gt_iff_lt, ne_eq, Bool.false_eq_true, Bool.true_eq_false, not_true_eq_false, not_false_eq_true, Bool.and_eq_true, Bool.not_eq_eq_eq_not, Bool.not_true, Bool.not_false, bne_iff_ne, bne_eq_false_iff_eq, Int.toNat_natCast, Nat.mul_one, Nat.add_zero, Nat.zero_add, List.take_length, List.drop_zero] at h3)
            all_goals
              refine Tree.GivesP.br (fun h4 => ?_) (fun h4 => ?_)
              · (try simp only [decide_eq_true_eq, decide_eq_false_iff_not, Bool.not_eq_true', Bool.not_eq_false', beq_iff_eq, beq_eq_false_iff_ne, Int.not_lt, Int.not_le, ge_iff_le, gt_iff_lt, ne_eq, Bool.false_eq_true, Bool.true_eq_false, not_true_eq_false, not_false_eq_true, Bool.and_eq_true, Bool.not_eq_eq_eq_not, Bool.not_true, Bool.not_false, bne_iff_ne, bne_eq_false_iff_eq, Int.toNat_natCast, Nat.mul_one, Nat.add_zero, Nat.zero_add, List.take_length, List.drop_zero] at h4)
                all_goals
                  refine Tree.GivesP.ret ?_ ?_
                  · simp only [AV.le, AV.leL, true_and, and_true, teV, myE, clampU]
                    first | omega | (split <;> omega) | (split <;> (try split) <;> omega) | (refine ⟨?_, ?_⟩ <;> (split <;> omega)) | (refine ⟨?_, ?_, ?_⟩ <;> (split <;> omega)) | (simp only [w64] at *; refine ⟨?_, ?_⟩ <;> (split <;> (try split) <;> (try split) <;> omega))
                  · simp only [AV.leL, AV.le, Mem.le, Mem.leP, Blk.le, Blk.pad, Data.le, Data.size, Cap.le, and_true, true_and, and_self, true_implies, implies_true, imp_self, List.length_nil]
              · (try simp only [decide_eq_true_eq, decide_eq_false_iff_not, Bool.not_eq_true', Bool.not_eq_false', beq_iff_eq, beq_eq_false_iff_ne, Int.not_lt, Int.not_le, ge_iff_le, gt_iff_lt, ne_eq, Bool.false_eq_true, Bool.true_eq_false, not_true_eq_false, not_false_eq_true, Bool.and_eq_true, Bool.not_eq_eq_eq_not, Bool.not_true, Bool.not_false, bne_iff_ne, bne_eq_false_iff_eq, Int.toNat_natCast, Nat.mul_one, Nat.add_zero, Nat.zero_add, List.take_length, List.drop_zero] at h4)
                all_goals
                  refine Tree.GivesP.br (fun h5 => ?_) (fun h5 => ?_)
                  · (try simp only [decide_eq_true_eq, decide_eq_false_iff_not, Bool.not_eq_true', Bool.not_eq_false', beq_iff_eq, beq_eq_false_iff_ne, Int.not_lt, Int.not_le, ge_iff_le, gt_iff_lt, ne_eq, Bool.false_eq_true, Bool.true_eq_false, not_true_eq_false, not_false_eq_true, Bool.and_eq_true, Bool.not_eq_eq_eq_not, Bool.not_true, Bool.not_false, bne_iff_ne, bne_eq_false_iff_eq, Int.toNat_natCast, Nat.mul_one, Nat.add_zero, Nat.zero_add, List.take_length, List.drop_zero] at h5)
                    all_goals
                      refine Tree.GivesP.ret ?_ ?_
                      · simp only [AV.le, AV.leL, true_and, and_true, teV, myE, clampU]
                        first | omega | (split <;> omega) | (split <;> (try split) <;> omega) | (refine ⟨?_, ?_⟩ <;> (split <;> omega)) | (refine ⟨?_, ?_, ?_⟩ <;> (split <;> omega)) | (simp only [w64] at *; refine ⟨?_, ?_⟩ <;> (split <;> (try split) <;> (try split) <;> omega))
                      · simp only [AV.leL, AV.le, Mem.le, Mem.leP, Blk.le, Blk.pad, Data.le, Data.size, Cap.le, and_true, true_and, and_self, true_implies, implies_true, imp_self, List.length_nil]
                  · (try simp only [decide_eq_true_eq, decide_eq_false_iff_not, Bool.not_eq_true', Bool.not_eq_false', beq_iff_eq, beq_eq_false_iff_ne, Int.not_lt, Int.not_le, ge_iff_le, gt_iff_lt, ne_eq, Bool.false_eq_true, Bool.true_eq_false, not_true_eq_false, not_false_eq_true, Bool.and_eq_true, Bool.not_eq_eq_eq_not, Bool.not_true, Bool.not_false, bne_iff_ne, bne_eq_false_iff_eq, Int.toNat_natCast, Nat.mul_one, Nat.add_zero, Nat.zero_add, List.take_length, List.drop_zero] at h5)
                    all_goals
                      refine Tree.GivesP.br (fun h6 => ?_) (fun h6 => ?_)
                      · (try simp only [decide_eq_true_eq, decide_eq_false_iff_not, Bool.not_eq_true', Bool.not_eq_false', beq_iff_eq, beq_eq_false_iff_ne, Int.not_lt, Int.not_le, ge_iff_le, gt_iff_lt, ne_eq, Bool.false_eq_true, Bool.true_eq_false, not_true_eq_false, not_false_eq_true, Bool.and_eq_true, Bool.not_eq_eq_eq_not, Bool.not_true, Bool.not_false, bne_iff_ne, bne_eq_false_iff_eq, Int.toNat_natCast, Nat.mul_one, Nat.add_zero, Nat.zero_add, List.take_length, List.drop_zero] at h6)
                        all_goals
                          refine Tree.GivesP.ret ?_ ?_
                          · simp only [AV.le, AV.leL, true_and, and_true, teV, myE, clampU]
                            first | omega | (split <;> omega) | (split <;> (try split) <;> omega) | (refine ⟨?_, ?_⟩ <;> (split <;> omega)) | (refine ⟨?_, ?_, ?_⟩ <;> (split <;> omega)) | (simp only [w64] at *; refine ⟨?_, ?_⟩ <;> (split <;> (try split) <;> (try split) <;> omega))
                          · simp only [AV.leL, AV.le, Mem.le, Mem.leP, Blk.le, Blk.pad, Data.le, Data.size, Cap.le, and_true, true_and, and_self, true_implies, implies_true, imp_self, List.length_nil]
                      · (try simp only [decide_eq_true_eq, decide_eq_false_iff_not, Bool.not_eq_true', Bool.not_eq_false', beq_iff_eq, beq_eq_false_iff_ne, Int.not_lt, Int.not_le, ge_iff_le, gt_iff_lt, ne_eq, Bool.false_eq_true, Bool.true_eq_false, not_true_eq_false, not_false_eq_true, Bool.and_eq_true, Bool.not_eq_eq_eq_not, Bool.not_true, Bool.not_false, bne_iff_ne, bne_eq_false_iff_eq, Int.toNat_natCast, Nat.mul_one, Nat.add_zero, Nat.zero_add, List.take_length, List.drop_zero] at h6)
                        all_goals
                          refine Tree.GivesP.br (fun h7 => ?_) (fun h7 => ?_)
                          · (try simp only [decide_eq_true_eq, decide_eq_false_iff_not, Bool.not_eq_true', Bool.not_eq_false', beq_iff_eq, beq_eq_false_iff_ne, Int.not_lt, Int.not_le, ge_iff_le, gt_iff_lt, ne_eq, Bool.false_eq_true, Bool.true_eq_false, not_true_eq_false, not_false_eq_true, Bool.and_eq_true, Bool.not_eq_eq_eq_not, Bool.not_true, Bool.not_false, bne_iff_ne, bne_eq_false_iff_eq, Int.toNat_natCast, Nat.mul_one, Nat.add_zero, Nat.zero_add, List.take_length, List.drop_zero] at h7)
                            all_goals
                              refine Tree.GivesP.ret ?_ ?_
                              · simp only [AV.le, AV.leL, true_and, and_true, teV, myE, clampU]
                                first | omega | (split <;> omega) | (split <;> (try split) <;> omega) | (refine ⟨?_, ?_⟩ <;> (split <;> omega)) | (refine ⟨?_, ?_, ?_⟩ <;> (split <;> omega)) | (simp only [w64] at *; refine ⟨?_, ?_⟩ <;> (split <;> (try split) <;> (try split) <;> omega))
                              · simp only [AV.leL, AV.le, Mem.le, Mem.leP, Blk.le, Blk.pad, Data.le, Data.size, Cap.le, and_true, true_and, and_self, true_implies, implies_true, imp_self, List.length_nil]
                          · (try simp only [decide_eq_true_eq, decide_eq_false_iff_not, Bool.not_eq_true', Bool.not_eq_false', beq_iff_eq, beq_eq_false_iff_ne, Int.not_lt, Int.not_le, ge_iff_le, gt_iff_lt, ne_eq, Bool.false_eq_true, Bool.true_eq_false, not_true_eq_false, not_false_eq_true, Bool.and_eq_true, Bool.not_eq_eq_eq_not, Bool.not_true, Bool.not_false, bne_iff_ne, bne_eq_false_iff_eq, Int.toNat_natCast, Nat.mul_one, Nat.add_zero, Nat.zero_add, List.take_length, List.drop_zero] at h7)
                            all_goals
                              refine Tree.GivesP.br (fun h8 => ?_) (fun h8 => ?_)
                              · (try simp only [decide_eq_true_eq, decide_eq_false_iff_not, Bool.not_eq_true', Bool.not_eq_false', beq_iff_eq, beq_eq_false_iff_ne, Int.not_lt, Int.not_le, ge_iff_le, gt_iff_lt, ne_eq, Bool.false_eq_true, Bool.true_eq_false, not_true_eq_false, not_false_eq_true, Bool.and_eq_true, Bool.not_eq_eq_eq_not, Bool.not_true, Bool.not_false, bne_iff_ne, bne_eq_false_iff_eq, Int.toNat_natCast, Nat.mul_one, Nat.add_zero, Nat.zero_add, List.take_length, List.drop_zero] at h8)
                                all_goals
                                  refine Tree.GivesP.ret ?_ ?_
                                  · simp only [AV.le, AV.leL, true_and, and_true, teV, myE, clampU]
                                    first | omega | (split <;> omega) | (split <;> (try split) <;> omega) | (refine ⟨?_, ?_⟩ <;> (split <;> omega)) | (refine ⟨?_, ?_, ?_⟩ <;> (split <;> omega)) | (simp only [w64] at *; refine ⟨?_, ?_⟩ <;> (split <;> (try split) <;> (try split) <;> omega))
                                  · simp only [AV.leL, AV.le, Mem.le, Mem.leP, Blk.le, Blk.pad, Data.le, Data.size, Cap.le, and_true, true_and, and_self, true_implies, implies_true, imp_self, List.length_nil]
                              · (try simp only [decide_eq_true_eq, decide_eq_false_iff_not, Bool.not_eq_true', Bool.not_eq_false', beq_iff_eq, beq_eq_false_iff_ne, Int.not_lt, Int.not_le, ge_iff_le, gt_iff_lt, ne_eq, Bool.false_eq_true, Bool.true_eq_false, not_true_eq_false, not_false_eq_true, Bool.and_eq_true, Bool.not_eq_eq_eq_not, Bool.not_true, Bool.not_false, bne_iff_ne, bne_eq_false_iff_eq, Int.toNat_natCast, Nat.mul_one, Nat.add_zero, Nat.zero_add, List.take_length, List.drop_zero] at h8)
                                all_goals
                                  refine Tree.GivesP.chk (by first | (simp only [and_self]; done) | ((repeat' with_reducible refine And.intro ?_ ?_) <;> first | trivial | omega | (simp only [ckE] at *; split at * <;> omega))) ?_
                                  refine Tree.GivesP.br (fun h9 => ?_) (fun h9 => ?_)
                                  · (try simp only [decide_eq_true_eq, decide_eq_false_iff_not, Bool.not_eq_true', Bool.not_eq_false', beq_iff_eq, beq_eq_false_iff_ne, Int.not_lt, Int.not_le, ge_iff_le, gt_iff_lt, ne_eq, Bool.false_eq_true, Bool.true_eq_false, not_true_eq_false, not_false_eq_true, Bool.and_eq_true, Bool.not_eq_eq_eq_not, Bool.not_true, Bool.not_false, bne_iff_ne, bne_eq_false_iff_eq, Int.toNat_natCast, Nat.mul_one, Nat.add_zero, Nat.zero_add, List.take_length, List.drop_zero] at h9)
                                    all_goals
                                      refine Tree.GivesP.ret ?_ ?_
                                      · simp only [AV.le, AV.leL, true_and, and_true, teV, myE, clampU]
                                        first | omega | (split <;> omega) | (split <;> (try split) <;> omega) | (refine ⟨?_, ?_⟩ <;> (split <;> omega)) | (refine ⟨?_, ?_, ?_⟩ <;> (split <;> omega)) | (simp only [w64] at *; refine ⟨?_, ?_⟩ <;> (split <;> (try split) <;> (try split) <;> omega))
                                      · simp only [AV.leL, AV.le, Mem.le, Mem.leP, Blk.le, Blk.pad, Data.le, Data.size, Cap.le, and_true, true_and, and_self, true_implies, implies_true, imp_self, List.length_nil]
                                  · (try simp only [decide_eq_true_eq, decide_eq_false_iff_not, Bool.not_eq_true', Bool.not_eq_false', beq_iff_eq, beq_eq_false_iff_ne, Int.not_lt, Int.not_le, ge_iff_le, gt_iff_lt, ne_eq, Bool.false_eq_true, Bool.true_eq_false, not_true_eq_false, not_false_eq_true, Bool.and_eq_true, Bool.not_eq_eq_eq_not, Bool.not_true, Bool.not_false, bne_iff_ne, bne_eq_false_iff_eq, Int.toNat_natCast, Nat.mul_one, Nat.add_zero, Nat.zero_add, List.take_length, List.drop_zero] at h9)
                                    all_goals
                                      refine Tree.GivesP.chk (by first | (simp only [and_self]; done) | ((repeat' with_reducible refine And.intro ?_ ?_) <;> first | trivial | omega | (simp only [ckE] at *; split at * <;> omega))) ?_
                                      refine Tree.GivesP.br (fun h10 => ?_) (fun h10 => ?_)
                                      · (try simp only [decide_eq_true_eq, decide_eq_false_iff_not, Bool.not_eq_true', Bool.not_eq_false', beq_iff_eq, beq_eq_false_iff_ne, Int.not_lt, Int.not_le, ge_iff_le, gt_iff_lt, ne_eq, Bool.false_eq_true, Bool.true_eq_false, not_true_eq_false, not_false_eq_true, Bool.and_eq_true, Bool.not_eq_eq_eq_not, Bool.not_true, Bool.not_false, bne_iff_ne, bne_eq_false_iff_eq, Int.toNat_natCast, Nat.mul_one, Nat.add_zero, Nat.zero_add, List.take_length, List.drop_zero] at h10)
                                        all_goals
                                          refine Tree.GivesP.ret ?_ ?_
                                          · simp only [AV.le, AV.leL, true_and, and_true, teV, myE, clampU]
                                            first | omega | (split <;> omega) | (split <;> (try split) <;> omega) | (refine ⟨?_, ?_⟩ <;> (split <;> omega)) | (refine ⟨?_, ?_, ?_⟩ <;> (split <;> omega)) | (simp only [w64] at *; refine ⟨?_, ?_⟩ <;> (split <;> (try split) <;> (try split) <;> omega))
                                          · simp only [AV.leL, AV.le, Mem.le, Mem.leP, Blk.le, Blk.pad, Data.le, Data.size, Cap.le, and_true, true_and, and_self, true_implies, implies_true, imp_self, List.length_nil]
                                      · (try simp only [decide_eq_true_eq, decide_eq_false_iff_not, Bool.not_eq_true', Bool.not_eq_false', beq_iff_eq, beq_eq_false_iff_ne, Int.not_lt, Int.not_le, ge_iff_le, gt_iff_lt, ne_eq, Bool.false_eq_true, Bool.true_eq_false, not_true_eq_false, not_false_eq_true, Bool.and_eq_true, Bool.not_eq_eq_eq_not, Bool.not_true, Bool.not_false, bne_iff_ne, bne_eq_false_iff_eq, Int.toNat_natCast, Nat.mul_one, Nat.add_zero, Nat.zero_add, List.take_length, List.drop_zero] at h10)
                                        all_goals
                                          refine Tree.GivesP.br (fun h11 => ?_) (fun h11 => ?_)
                                          · (try simp only [decide_eq_true_eq, decide_eq_false_iff_not, Bool.not_eq_true', Bool.not_eq_false', beq_iff_eq, beq_eq_false_iff_ne, Int.not_lt, Int.not_le, ge_iff_le, gt_iff_lt, ne_eq, Bool.false_eq_true, Bool.true_eq_false, not_true_eq_false, not_false_eq_true, Bool.and_eq_true, Bool.not_eq_eq_eq_not, Bool.not_true, Bool.not_false, bne_iff_ne, bne_eq_false_iff_eq, Int.toNat_natCast, Nat.mul_one, Nat.add_zero, Nat.zero_add, List.take_length, List.drop_zero] at h11)
                                            all_goals
                                              refine Tree.GivesP.ret ?_ ?_
                                              · simp only [AV.le, AV.leL, true_and, and_true, teV, myE, clampU]
                                                first | omega | (split <;> omega) | (split <;> (try split) <;> omega) | (refine ⟨?_, ?_⟩ <;> (split <;> omega)) | (refine ⟨?_, ?_, ?_⟩ <;> (split <;> omega)) | (simp only [w64] at *; refine ⟨?_, ?_⟩ <;> (split <;> (try split) <;> (try split) <;> omega))
                                              · simp only [AV.leL, AV.le, Mem.le, Mem.leP, Blk.le, Blk.pad, Data.le, Data.size, Cap.le, and_true, true_and, and_self, true_implies, implies_true, imp_self, List.length_nil]
                                          · (try simp only [decide_eq_true_eq, decide_eq_false_iff_not, Bool.not_eq_true', Bool.not_eq_false', beq_iff_eq, beq_eq_false_iff_ne, Int.not_lt, Int.not_le, ge_iff_le, gt_iff_lt, ne_eq, Bool.false_eq_true, Bool.true_eq_false, not_true_eq_false, not_false_eq_true, Bool.and_eq_true, Bool.not_eq_eq_eq_not, Bool.not_true, Bool.not_false, bne_iff_ne, bne_eq_false_iff_eq, Int.toNat_natCast, Nat.mul_one, Nat.add_zero, Nat.zero_add, List.take_length, List.drop_zero] at h11)
                                            all_goals
                                              refine Tree.GivesP.ret ?_ ?_
                                              · simp only [AV.le, AV.leL, true_and, and_true, teV, myE, clampU]
                                                first | omega | (split <;> omega) | (split <;> (try split) <;> omega) | (refine ⟨?_, ?_⟩ <;> (split <;> omega)) | (refine ⟨?_, ?_, ?_⟩ <;> (split <;> omega)) | (simp only [w64] at *; refine ⟨?_, ?_⟩ <;> (split <;> (try split) <;> (try split) <;> omega))
                                              · simp only [AV.leL, AV.le, Mem.le, Mem.leP, Blk.le, Blk.pad, Data.le, Data.size, Cap.le, and_true, true_and, and_self, true_implies, implies_true, imp_self, List.length_nil]
theorem sTerminal (hall : AllOk Try.prog 0 (fun _ => none) tab16) (R0 : Int) (R1 : Int) (R2 : Int) (T1 : Int) (T2 : Int) (Cm : Int) (Sl : Int) (Tk : Int) (u1 : Int) (u2 : Int) (I : Int) (v : Int) (hw : -9223372036854775808 ≤ R0 ∧ R0 ≤ 9223372036854775807 ∧ -9223372036854775808 ≤ R1 ∧ R1 ≤ 9223372036854775807 ∧ -9223372036854775808 ≤ R2 ∧ R2 ≤ 9223372036854775807 ∧ -9223372036854775808 ≤ T1 ∧ T1 ≤ 9223372036854775807 ∧ -9223372036854775808 ≤ T2 ∧ T2 ≤ 9223372036854775807 ∧ -9223372036854775808 ≤ Cm ∧ Cm ≤ 9223372036854775807 ∧ -9223372036854775808 ≤ Sl ∧ Sl ≤ 9223372036854775807 ∧ -9223372036854775808 ≤ Tk ∧ Tk ≤ 9223372036854775807 ∧ -9223372036854775808 ≤ u1 ∧ u1 ≤ 9223372036854775807 ∧ -9223372036854775808 ≤ u2 ∧ u2 ≤ 9223372036854775807 ∧ -9223372036854775808 ≤ I ∧ I ≤ 9223372036854775807 ∧ -9223372036854775808 ≤ v ∧ v ≤ 9223372036854775807) : SoundAt (mkC Try.prog 0 (fun _ => none) []) 11 [.agg [.int .i64 false R0, .int .i64 false R1, .int .i64 false R2, .int .i64 false T1, .int .i64 false T2, .int .i64 false Cm, .int .i64 false Sl, .int .i64 false Tk], .int .i64 false u1, .int .i64 false u2, .int .i64 false I, .int .i64 false v] [] (.tup [.int .i64 false (teV R0 R1 R2 T1 T2 Cm Sl Tk u1 u2 I v), .int .i64 false (myE R0 R1 R2 T1 T2 Cm Sl Tk u1 u2 I v)], []) := sound_ofP hall mix (tTerminal R0 R1 R2 T1 T2 Cm Sl Tk u1 u2 I v) (gTerminal R0 R1 R2 T1 T2 Cm Sl Tk u1 u2 I v hw)
theorem FTerminal_ok (hall : AllOk Try.prog 0 (fun _ => none) tab16) : PureF Try.prog 3 11 FTerminal := by
  intro xs c v news h hc
  unfold FTerminal at h
  split at h
  · rename_i _ R0 _ R1 _ R2 _ T1 _ T2 _ Cm _ Sl _ Tk _ u1 _ u2 _ I _ v
    cases h
    refine ⟨(by intro b hb; cases hb), SoundAt.flags (sTerminal hall R0 R1 R2 T1 T2 Cm Sl Tk u1 u2 I v hc) ?_⟩
    simp [PA.avs, AV.le, AV.leL, Cap.le]
  · cases h
end Go.Proofs.Ytoihhmpmlbdeiaa.Rig

/- Qworks -/
namespace Go.Proofs.Ytoihhmpmlbdeiaa.Rig
open Go
set_option maxRecDepth 100000 in
theorem tworks  : evBody (mkC Try.prog 0 (fun _ => none) tab17) (evCall (mkC Try.prog 0 (fun _ => none) tab17) 50) 13 [] [] =
  Tree.chk
    ((True ∧ True ∧ True ∧ True ∧ True ∧ True) ∧
      (-9223372036854775808 : Int) ≤ (0 : Int) ∧
        (0 : Int) ≤ (9223372036854775807 : Int) ∧
          (-9223372036854775808 : Int) ≤ (1000 : Int) ∧
            (1000 : Int) ≤ (9223372036854775807 : Int) ∧
              (-9223372036854775808 : Int) ≤ (2000 : Int) ∧
                (2000 : Int) ≤ (9223372036854775807 : Int) ∧ (-9223372036854775808 : Int) ≤ (100 : Int) ∧ (100 : Int) ≤ (9223372036854775807 : Int) ∧ (-9223372036854775808 : Int) ≤ (100 : Int) ∧ (100 : Int) ≤ (9223372036854775807 : Int))
    (Tree.chk
      ((True ∧ True ∧ True ∧ True ∧ True ∧ True) ∧
        (-9223372036854775808 : Int) ≤ (50 : Int) ∧
          (50 : Int) ≤ (9223372036854775807 : Int) ∧
            (-9223372036854775808 : Int) ≤ (20 : Int) ∧
              (20 : Int) ≤ (9223372036854775807 : Int) ∧
                (-9223372036854775808 : Int) ≤ (30 : Int) ∧
                  (30 : Int) ≤ (9223372036854775807 : Int) ∧
                    (-9223372036854775808 : Int) ≤ (100 : Int) ∧
                      (100 : Int) ≤ (9223372036854775807 : Int) ∧
                        (-9223372036854775808 : Int) ≤ (1000 : Int) ∧
                          (1000 : Int) ≤ (9223372036854775807 : Int) ∧
                            (-9223372036854775808 : Int) ≤ (0 : Int) ∧
                              (0 : Int) ≤ (9223372036854775807 : Int) ∧
                                (-9223372036854775808 : Int) ≤ (0 : Int) ∧
                                  (0 : Int) ≤ (9223372036854775807 : Int) ∧
                                    (-9223372036854775808 : Int) ≤ (10 : Int) ∧
                                      (10 : Int) ≤ (9223372036854775807 : Int) ∧
                                        (-9223372036854775808 : Int) ≤ (0 : Int) ∧
                                          (0 : Int) ≤ (9223372036854775807 : Int) ∧
                                            (-9223372036854775808 : Int) ≤ (0 : Int) ∧
                                              (0 : Int) ≤ (9223372036854775807 : Int) ∧
                                                (-9223372036854775808 : Int) ≤ (1000 : Int) ∧ (1000 : Int) ≤ (9223372036854775807 : Int) ∧ (-9223372036854775808 : Int) ≤ (4000 : Int) ∧ (4000 : Int) ≤ (9223372036854775807 : Int))
      (Tree.br true
        (Tree.br true
          (Tree.br true
            (Tree.br true
              (Tree.chk
                ((True ∧ True) ∧
                  (-9223372036854775808 : Int) ≤ (50 : Int) ∧
                    (50 : Int) ≤ (9223372036854775807 : Int) ∧
                      (-9223372036854775808 : Int) ≤ (20 : Int) ∧
                        (20 : Int) ≤ (9223372036854775807 : Int) ∧
                          (-9223372036854775808 : Int) ≤ (30 : Int) ∧
                            (30 : Int) ≤ (9223372036854775807 : Int) ∧
                              (-9223372036854775808 : Int) ≤ (100 : Int) ∧
                                (100 : Int) ≤ (9223372036854775807 : Int) ∧
                                  (-9223372036854775808 : Int) ≤ (1000 : Int) ∧
                                    (1000 : Int) ≤ (9223372036854775807 : Int) ∧
                                      (-9223372036854775808 : Int) ≤ (0 : Int) ∧
                                        (0 : Int) ≤ (9223372036854775807 : Int) ∧
                                          (-9223372036854775808 : Int) ≤ (0 : Int) ∧ (0 : Int) ≤ (9223372036854775807 : Int) ∧ (-9223372036854775808 : Int) ≤ (10 : Int) ∧ (10 : Int) ≤ (9223372036854775807 : Int))
                (Tree.ret (AV.bool false true, [])))
              (Tree.ret (AV.bool true false, [])))
            (Tree.ret (AV.bool true false, [])))
          (Tree.ret (AV.bool true false, [])))
        (Tree.ret (AV.bool true false, [])))) := by kernel_rfl
set_option maxRecDepth 100000 in
theorem gworks  (hw : True) : (Tree.chk
    ((True ∧ True ∧ True ∧ True ∧ True ∧ True) ∧
      (-9223372036854775808 : Int) ≤ (0 : Int) ∧
        (0 : Int) ≤ (9223372036854775807 : Int) ∧
          (-9223372036854775808 : Int) ≤ (1000 : Int) ∧
            (1000 : Int) ≤ (9223372036854775807 : Int) ∧
              (-9223372036854775808 : Int) ≤ (2000 : Int) ∧
                (2000 : Int) ≤ (9223372036854775807 : Int) ∧ (-9223372036854775808 : Int) ≤ (100 : Int) ∧ (100 : Int) ≤ (9223372036854775807 : Int) ∧ (-9223372036854775808 : Int) ≤ (100 : Int) ∧ (100 : Int) ≤ (9223372036854775807 : Int))
    (Tree.chk
      ((True ∧ True ∧ True ∧ True ∧ True ∧ True) ∧
        (-9223372036854775808 : Int) ≤ (50 : Int) ∧
          (50 : Int) ≤ (9223372036854775807 : Int) ∧
            (-9223372036854775808 : Int) ≤ (20 : Int) ∧
              (20 : Int) ≤ (9223372036854775807 : Int) ∧
                (-9223372036854775808 : Int) ≤ (30 : Int) ∧
                  (30 : Int) ≤ (9223372036854775807 : Int) ∧
                    (-9223372036854775808 : Int) ≤ (100 : Int) ∧
                      (100 : Int) ≤ (9223372036854775807 : Int) ∧
                        (-9223372036854775808 : Int) ≤ (1000 : Int) ∧
                          (1000 : Int) ≤ (9223372036854775807 : Int) ∧
                            (-9223372036854775808 : Int) ≤ (0 : Int) ∧
                              (0 : Int) ≤ (9223372036854775807 : Int) ∧
                                (-9223372036854775808 : Int) ≤ (0 : Int) ∧
                                  (0 : Int) ≤ (9223372036854775807 : Int) ∧
                                    (-9223372036854775808 : Int) ≤ (10 : Int) ∧
                                      (10 : Int) ≤ (9223372036854775807 : Int) ∧
                                        (-9223372036854775808 : Int) ≤ (0 : Int) ∧
                                          (0 : Int) ≤ (9223372036854775807 : Int) ∧
                                            (-9223372036854775808 : Int) ≤ (0 : Int) ∧
                                              (0 : Int) ≤ (9223372036854775807 : Int) ∧
                                                (-9223372036854775808 : Int) ≤ (1000 : Int) ∧ (1000 : Int) ≤ (9223372036854775807 : Int) ∧ (-9223372036854775808 : Int) ≤ (4000 : Int) ∧ (4000 : Int) ≤ (9223372036854775807 : Int))
      (Tree.br true
        (Tree.br true
          (Tree.br true
            (Tree.br true
              (Tree.chk
                ((True ∧ True) ∧
                  (-9223372036854775808 : Int) ≤ (50 : Int) ∧
                    (50 : Int) ≤ (9223372036854775807 : Int) ∧
                      (-9223372036854775808 : Int) ≤ (20 : Int) ∧
                        (20 : Int) ≤ (9223372036854775807 : Int) ∧
                          (-9223372036854775808 : Int) ≤ (30 : Int) ∧
                            (30 : Int) ≤ (9223372036854775807 : Int) ∧
                              (-9223372036854775808 : Int) ≤ (100 : Int) ∧
                                (100 : Int) ≤ (9223372036854775807 : Int) ∧
                                  (-9223372036854775808 : Int) ≤ (1000 : Int) ∧
                                    (1000 : Int) ≤ (9223372036854775807 : Int) ∧
                                      (-9223372036854775808 : Int) ≤ (0 : Int) ∧
                                        (0 : Int) ≤ (9223372036854775807 : Int) ∧
                                          (-9223372036854775808 : Int) ≤ (0 : Int) ∧ (0 : Int) ≤ (9223372036854775807 : Int) ∧ (-9223372036854775808 : Int) ≤ (10 : Int) ∧ (10 : Int) ≤ (9223372036854775807 : Int))
                (Tree.ret (AV.bool false true, [])))
              (Tree.ret (AV.bool true false, [])))
            (Tree.ret (AV.bool true false, [])))
          (Tree.ret (AV.bool true false, [])))
        (Tree.ret (AV.bool true false, [])))) : Tree (AV × Mem)).GivesP (.bool false true) ([]) := by
  refine Tree.GivesP.chk (by first | (simp only [and_self]; done) | ((repeat' with_reducible refine And.intro ?_ ?_) <;> first | trivial | decide +kernel)) ?_
  refine Tree.GivesP.chk (by first | (simp only [and_self]; done) | ((repeat' with_reducible refine And.intro ?_ ?_) <;> first | trivial | decide +kernel)) ?_
  refine Tree.GivesP.br (fun h1 => ?_) (fun h1 => ?_)
  · (try simp only [decide_eq_true_eq, decide_eq_false_iff_not, Bool.not_eq_true', Bool.not_eq_false', beq_iff_eq, beq_eq_false_iff_ne, Int.not_lt, Int.not_le, ge_iff_le, gt_iff_lt, ne_eq, Bool.false_eq_true, Bool.true_eq_false, not_true_eq_false, not_false_eq_true, Bool.and_eq_true, Bool.not_eq_eq_eq_not, Bool.not_true, Bool.not_false, bne_iff_ne, bne_eq_false_iff_eq, Int.toNat_natCast, Nat.mul_one, Nat.add_zero, Nat.zero_add, List.take_length, List.drop_zero] at h1)
    all_goals
      refine Tree.GivesP.br (fun h2 => ?_) (fun h2 => ?_)
      · (try simp only [decide_eq_true_eq, decide_eq_false_iff_not, Bool.not_eq_true', Bool.not_eq_false', beq_iff_eq, beq_eq_false_iff_ne, Int.not_lt, Int.not_le, ge_iff_le, gt_iff_lt, ne_eq, Bool.false_eq_true, Bool.true_eq_false, not_true_eq_false, not_false_eq_true, Bool.and_eq_true, Bool.not_eq_eq_eq_not, Bool.not_true, Bool.not_false, bne_iff_ne, bne_eq_false_iff_eq, Int.toNat_natCast, Nat.mul_one, Nat.add_zero, Nat.zero_add, List.take_length, List.drop_zero] at h2)
        all_goals
          refine Tree.GivesP.br (fun h3 => ?_) (fun h3 => ?_)
          · (try simp only [decide_eq_true_eq, decide_eq_false_iff_not, Bool.not_eq_true', Bool.not_eq_false', beq_iff_eq, beq_eq_false_iff_ne, Int.not_lt, Int.not_le, ge_iff_le, gt_iff_lt, ne_eq, Bool.false_eq_true, Bool.true_eq_false, not_true_eq_false, not_false_eq_true, Bool.and_eq_true, Bool.not_eq_eq_eq_not, Bool.not_true, Bool.not_false, bne_iff_ne, bne_eq_false_iff_eq, Int.toNat_natCast, Nat.mul_one, Nat.add_zero, Nat.zero_add, List.take_length, List.drop_zero] at h3)
            all_goals
              refine Tree.GivesP.br (fun h4 => ?_) (fun h4 => ?_)
              · (try simp only [decide_eq_true_eq, decide_eq_false_iff_not, Bool.not_eq_true', Bool.not_eq_false', beq_iff_eq, beq_eq_false_iff_ne, Int.not_lt, Int.not_le, ge_iff_le, gt_iff_lt, ne_eq, Bool.false_eq_true, Bool.true_eq_false, not_true_eq_false, not_false_eq_true, Bool.and_eq_true, Bool.not_eq_eq_eq_not, Bool.not_true, Bool.not_false, bne_iff_ne, bne_eq_false_iff_eq, Int.toNat_natCast, Nat.mul_one, Nat.add_zero, Nat.zero_add, List.take_length, List.drop_zero] at h4)
                all_goals
                  refine Tree.GivesP.chk (by first | (simp only [and_self]; done) | ((repeat' with_reducible refine And.intro ?_ ?_) <;> first | trivial | decide +kernel)) ?_
                  refine Tree.GivesP.ret ?_ ?_
                  · simp only [AV.le]
                  · simp only [AV.leL, AV.le, Mem.le, Mem.leP, Blk.le, Blk.pad, Data.le, Data.size, Cap.le, and_true, true_and, and_self, true_implies, implies_true, imp_self, List.length_nil]
              · (try simp only [decide_eq_true_eq, decide_eq_false_iff_not, Bool.not_eq_true', Bool.not_eq_false', beq_iff_eq, beq_eq_false_iff_ne, Int.not_lt, Int.not_le, ge_iff_le, gt_iff_lt, ne_eq, Bool.false_eq_true, Bool.true_eq_false, not_true_eq_false, not_false_eq_true, Bool.and_eq_true, Bool.not_eq_eq_eq_not, Bool.not_true, Bool.not_false, bne_iff_ne, bne_eq_false_iff_eq, Int.toNat_natCast, Nat.mul_one, Nat.add_zero, Nat.zero_add, List.take_length, List.drop_zero] at h4)
                all_goals
                  refine Tree.GivesP.ret ?_ ?_
                  · simp only [AV.le]
                  · simp only [AV.leL, AV.le, Mem.le, Mem.leP, Blk.le, Blk.pad, Data.le, Data.size, Cap.le, and_true, true_and, and_self, true_implies, implies_true, imp_self, List.length_nil]
          · (try simp only [decide_eq_true_eq, decide_eq_false_iff_not, Bool.not_eq_true', Bool.not_eq_false', beq_iff_eq, beq_eq_false_iff_ne, Int.not_lt, Int.not_le, ge_iff_le, gt_iff_lt, ne_eq, Bool.false_eq_true, Bool.true_eq_false, not_true_eq_false, not_false_eq_true, Bool.and_eq_true, Bool.not_eq_eq_eq_not, Bool.not_true, Bool.not_false, bne_iff_ne, bne_eq_false_iff_eq, Int.toNat_natCast, Nat.mul_one, Nat.add_zero, Nat.zero_add, List.take_length, List.drop_zero] at h3)
            all_goals
              refine Tree.GivesP.ret ?_ ?_
              · simp only [AV.le]
              · simp only [AV.leL, AV.le, Mem.le, Mem.leP, Blk.le, Blk.pad, Data.le, Data.size, Cap.le, and_true, true_and, and_self, true_implies, implies_true, imp_self, List.length_nil]
      · (try simp only [decide_eq_true_eq, decide_eq_false_iff_not, Bool.not_eq_true', Bool.not_eq_false', beq_iff_eq, beq_eq_false_iff_ne, Int.not_lt, Int.not_le, ge_iff_le, gt_iff_lt, ne_eq, Bool.false_eq_true, Bool.true_eq_false, not_true_eq_false, not_false_eq_true, Bool.and_eq_true, Bool.not_eq_eq_eq_not, Bool.not_true, Bool.not_false, bne_iff_ne, bne_eq_false_iff_eq, Int.toNat_natCast, Nat.mul_one, Nat.add_zero, Nat.zero_add, List.take_length, List.drop_zero] at h2)
        all_goals
          refine Tree.GivesP.ret ?_ ?_
          · simp only [AV.le]
          · simp only [AV.leL, AV.le, Mem.le, Mem.leP, Blk.le, Blk.pad, Data.le, Data.size, Cap.le, and_true, true_and, and_self, true_implies, implies_true, imp_self, List.length_nil]
  · (try simp only [decide_eq_true_eq, decide_eq_false_iff_not, Bool.not_eq_true', Bool.not_eq_false', beq_iff_eq, beq_eq_false_iff_ne, Int.not_lt, Int.not_le, ge_iff_le, gt_iff_lt, ne_eq, Bool.false_eq_true, Bool.true_eq_false, not_true_eq_false, not_false_eq_true, Bool.and_eq_true, Bool.not_eq_eq_eq_not, Bool.not_true, Bool.not_false, bne_iff_ne, bne_eq_false_iff_eq, Int.toNat_natCast, Nat.mul_one, Nat.add_zero, Nat.zero_add, List.take_length, List.drop_zero] at h1)
    all_goals
      refine Tree.GivesP.ret ?_ ?_
      · simp only [AV.le]
      · simp only [AV.leL, AV.le, Mem.le, Mem.leP, Blk.le, Blk.pad, Data.le, Data.size, Cap.le, and_true, true_and, and_self, true_implies, implies_true, imp_self, List.length_nil]
theorem sworks (hall : AllOk Try.prog 0 (fun _ => none) tab17)  (hw : True) : SoundAt (mkC Try.prog 0 (fun _ => none) []) 13 [] [] (.bool false true, []) := sound_ofP hall mix (tworks ) (gworks  hw)
theorem Fworks_ok (hall : AllOk Try.prog 0 (fun _ => none) tab17) : PureF Try.prog 3 13 Fworks := by
  intro xs c v news h hc
  unfold Fworks at h
  split at h
  · skip
    cases h
    refine ⟨(by intro b hb; cases hb), SoundAt.flags (sworks hall  hc) ?_⟩
    simp [PA.avs, AV.le, AV.leL, Cap.le]
  · cases h
end Go.Proofs.Ytoihhmpmlbdeiaa.Rig

/- All18 -/
namespace Go.Proofs.Ytoihhmpmlbdeiaa.Rig
open Go
theorem Flz_okx : PureF Try.prog 3 70 Flz := Flz_ok all0
theorem all1 : AllOk Try.prog 0 (fun _ => none) tab1 := ⟨pureEnt_ok Flz_okx, all0⟩
theorem Fmul64_okx : PureF Try.prog 3 63 Fmul64 := Fmul64_ok all1
theorem all2 : AllOk Try.prog 0 (fun _ => none) tab2 := ⟨pureEnt_ok Fmul64_okx, all1⟩
theorem Fdiv64_okx : PureF Try.prog 3 69 Fdiv64 := Fdiv64_ok all2
theorem all3 : AllOk Try.prog 0 (fun _ => none) tab3 := ⟨pureEnt_ok Fdiv64_okx, all2⟩
theorem Fminus_okx : PureF Try.prog 3 59 Fminus := Fminus_ok all3
theorem all4 : AllOk Try.prog 0 (fun _ => none) tab4 := ⟨pureEnt_ok Fminus_okx, all3⟩
theorem Fby_okx : PureF Try.prog 3 60 Fby := Fby_ok all4
theorem all5 : AllOk Try.prog 0 (fun _ => none) tab5 := ⟨pureEnt_ok Fby_okx, all4⟩
theorem Fmul_okx : PureF Try.prog 3 53 Fmul := Fmul_ok all5
theorem all6 : AllOk Try.prog 0 (fun _ => none) tab6 := ⟨pureEnt_ok Fmul_okx, all5⟩
theorem Fnear_okx : PureF Try.prog 3 52 Fnear := Fnear_ok all6
theorem all7 : AllOk Try.prog 0 (fun _ => none) tab7 := ⟨pureEnt_ok Fnear_okx, all6⟩
theorem Famong_okx : PureF Try.prog 3 16 Famong := Famong_ok all7
theorem all8 : AllOk Try.prog 0 (fun _ => none) tab8 := ⟨pureEnt_ok Famong_okx, all7⟩
theorem Fmulnear_okx : PureF Try.prog 3 44 Fmulnear := Fmulnear_ok all8
theorem all9 : AllOk Try.prog 0 (fun _ => none) tab9 := ⟨pureEnt_ok Fmulnear_okx, all8⟩
theorem Fdrive_okx : PureF Try.prog 3 26 Fdrive := Fdrive_ok all9
theorem all10 : AllOk Try.prog 0 (fun _ => none) tab10 := ⟨pureEnt_ok Fdrive_okx, all9⟩
theorem FDrive_okx : PureF Try.prog 3 14 FDrive := FDrive_ok all10
theorem all11 : AllOk Try.prog 0 (fun _ => none) tab11 := ⟨pureEnt_ok FDrive_okx, all10⟩
theorem Fbehind_okx : PureF Try.prog 3 35 Fbehind := Fbehind_ok all11
theorem all12 : AllOk Try.prog 0 (fun _ => none) tab12 := ⟨pureEnt_ok Fbehind_okx, all11⟩
theorem FRelax_okx : PureF Try.prog 3 15 FRelax := FRelax_ok all12
theorem all13 : AllOk Try.prog 0 (fun _ => none) tab13 := ⟨pureEnt_ok FRelax_okx, all12⟩
theorem FCheck_okx : PureF Try.prog 3 22 FCheck := FCheck_ok all13
theorem all14 : AllOk Try.prog 0 (fun _ => none) tab14 := ⟨pureEnt_ok FCheck_okx, all13⟩
theorem FStep_okx : PureF Try.prog 3 18 FStep := FStep_ok all14
theorem all15 : AllOk Try.prog 0 (fun _ => none) tab15 := ⟨pureEnt_ok FStep_okx, all14⟩
theorem FRested_okx : PureF Try.prog 3 9 FRested := FRested_ok all15
theorem all16 : AllOk Try.prog 0 (fun _ => none) tab16 := ⟨pureEnt_ok FRested_okx, all15⟩
theorem FTerminal_okx : PureF Try.prog 3 11 FTerminal := FTerminal_ok all16
theorem all17 : AllOk Try.prog 0 (fun _ => none) tab17 := ⟨pureEnt_ok FTerminal_okx, all16⟩
theorem Fworks_okx : PureF Try.prog 3 13 Fworks := Fworks_ok all17
theorem all18 : AllOk Try.prog 0 (fun _ => none) tab18 := ⟨pureEnt_ok Fworks_okx, all17⟩
end Go.Proofs.Ytoihhmpmlbdeiaa.Rig
