/- MRaw: what is proved for the claim, part 4: functions' reckonings, and what they give. -/
import Derived.Test.YtldknchhgnfncaaMRaw3
import Derived.KernelRfl
import Derived.Test.YtldknchhgnfncaaMRawLZ
set_option linter.unusedVariables false
set_option linter.unusedSimpArgs false
/- Qmul -/
namespace Go.Proofs.Ytldknchhgnfncaa.Rig
open Go
set_option maxRecDepth 100000 in
theorem tmul (a : Int) (b : Int) : evBody (mkC Try.prog 0 (fun _ => none) tab7) (evCall (mkC Try.prog 0 (fun _ => none) tab7) 50) 12 [.int .i64 false a, .int .i64 false b] [] =
  Tree.br (decide (a < (0 : Int)))
    (Tree.br (decide (b < (0 : Int)))
      (Tree.chk
        ((True ∧ True ∧ True) ∧
          (0 : Int) ≤ IntKind.wrap IntKind.u64 ((0 : Int) - IntKind.wrap IntKind.u64 a) ∧
            IntKind.wrap IntKind.u64 ((0 : Int) - IntKind.wrap IntKind.u64 a) ≤ (18446744073709551615 : Int) ∧
              (0 : Int) ≤ IntKind.wrap IntKind.u64 ((0 : Int) - IntKind.wrap IntKind.u64 b) ∧ IntKind.wrap IntKind.u64 ((0 : Int) - IntKind.wrap IntKind.u64 b) ≤ (18446744073709551615 : Int))
        (Tree.br (!decide (a < (0 : Int)) == decide (b < (0 : Int)))
          (Tree.chk
            ((True ∧ True) ∧
              (-9223372036854775808 : Int) ≤
                  IntKind.wrap IntKind.i64 (IntKind.wrap IntKind.u64 ((0 : Int) - IntKind.wrap IntKind.u64 a) * IntKind.wrap IntKind.u64 ((0 : Int) - IntKind.wrap IntKind.u64 b) / (18446744073709551616 : Int)) ∧
                IntKind.wrap IntKind.i64 (IntKind.wrap IntKind.u64 ((0 : Int) - IntKind.wrap IntKind.u64 a) * IntKind.wrap IntKind.u64 ((0 : Int) - IntKind.wrap IntKind.u64 b) / (18446744073709551616 : Int)) ≤
                    (9223372036854775807 : Int) ∧
                  (0 : Int) ≤ IntKind.wrap IntKind.u64 ((0 : Int) - IntKind.wrap IntKind.u64 a) * IntKind.wrap IntKind.u64 ((0 : Int) - IntKind.wrap IntKind.u64 b) % (18446744073709551616 : Int) ∧
                    IntKind.wrap IntKind.u64 ((0 : Int) - IntKind.wrap IntKind.u64 a) * IntKind.wrap IntKind.u64 ((0 : Int) - IntKind.wrap IntKind.u64 b) % (18446744073709551616 : Int) ≤ (18446744073709551615 : Int))
            (Tree.ret
              (AV.agg
                  [AV.int IntKind.i64 false
                      (hiZ
                        (-numW (IntKind.wrap IntKind.i64 (IntKind.wrap IntKind.u64 ((0 : Int) - IntKind.wrap IntKind.u64 a) * IntKind.wrap IntKind.u64 ((0 : Int) - IntKind.wrap IntKind.u64 b) / (18446744073709551616 : Int)))
                            (IntKind.wrap IntKind.u64 ((0 : Int) - IntKind.wrap IntKind.u64 a) * IntKind.wrap IntKind.u64 ((0 : Int) - IntKind.wrap IntKind.u64 b) % (18446744073709551616 : Int)))),
                    AV.int IntKind.u64 false
                      (loZ
                        (-numW (IntKind.wrap IntKind.i64 (IntKind.wrap IntKind.u64 ((0 : Int) - IntKind.wrap IntKind.u64 a) * IntKind.wrap IntKind.u64 ((0 : Int) - IntKind.wrap IntKind.u64 b) / (18446744073709551616 : Int)))
                            (IntKind.wrap IntKind.u64 ((0 : Int) - IntKind.wrap IntKind.u64 a) * IntKind.wrap IntKind.u64 ((0 : Int) - IntKind.wrap IntKind.u64 b) % (18446744073709551616 : Int))))],
                [])))
          (Tree.ret
            (AV.agg
                [AV.int IntKind.i64 false (IntKind.wrap IntKind.i64 (IntKind.wrap IntKind.u64 ((0 : Int) - IntKind.wrap IntKind.u64 a) * IntKind.wrap IntKind.u64 ((0 : Int) - IntKind.wrap IntKind.u64 b) / (18446744073709551616 : Int))),
                  AV.int IntKind.u64 false (IntKind.wrap IntKind.u64 ((0 : Int) - IntKind.wrap IntKind.u64 a) * IntKind.wrap IntKind.u64 ((0 : Int) - IntKind.wrap IntKind.u64 b) % (18446744073709551616 : Int))],
              []))))
      (Tree.chk
        ((True ∧ True ∧ True) ∧
          (0 : Int) ≤ IntKind.wrap IntKind.u64 ((0 : Int) - IntKind.wrap IntKind.u64 a) ∧
            IntKind.wrap IntKind.u64 ((0 : Int) - IntKind.wrap IntKind.u64 a) ≤ (18446744073709551615 : Int) ∧ (0 : Int) ≤ IntKind.wrap IntKind.u64 b ∧ IntKind.wrap IntKind.u64 b ≤ (18446744073709551615 : Int))
        (Tree.br (!decide (a < (0 : Int)) == decide (b < (0 : Int)))
          (Tree.chk
            ((True ∧ True) ∧
              (-9223372036854775808 : Int) ≤ IntKind.wrap IntKind.i64 (IntKind.wrap IntKind.u64 ((0 : Int) - IntKind.wrap IntKind.u64 a) * IntKind.wrap IntKind.u64 b / (18446744073709551616 : Int)) ∧
                IntKind.wrap IntKind.i64 (IntKind.wrap IntKind.u64 ((0 : Int) - IntKind.wrap IntKind.u64 a) * IntKind.wrap IntKind.u64 b / (18446744073709551616 : Int)) ≤ (9223372036854775807 : Int) ∧
                  (0 : Int) ≤ IntKind.wrap IntKind.u64 ((0 : Int) - IntKind.wrap IntKind.u64 a) * IntKind.wrap IntKind.u64 b % (18446744073709551616 : Int) ∧
                    IntKind.wrap IntKind.u64 ((0 : Int) - IntKind.wrap IntKind.u64 a) * IntKind.wrap IntKind.u64 b % (18446744073709551616 : Int) ≤ (18446744073709551615 : Int))
            (Tree.ret
              (AV.agg
                  [AV.int IntKind.i64 false
                      (hiZ
                        (-numW (IntKind.wrap IntKind.i64 (IntKind.wrap IntKind.u64 ((0 : Int) - IntKind.wrap IntKind.u64 a) * IntKind.wrap IntKind.u64 b / (18446744073709551616 : Int)))
                            (IntKind.wrap IntKind.u64 ((0 : Int) - IntKind.wrap IntKind.u64 a) * IntKind.wrap IntKind.u64 b % (18446744073709551616 : Int)))),
                    AV.int IntKind.u64 false
                      (loZ
                        (-numW (IntKind.wrap IntKind.i64 (IntKind.wrap IntKind.u64 ((0 : Int) - IntKind.wrap IntKind.u64 a) * IntKind.wrap IntKind.u64 b / (18446744073709551616 : Int)))
                            (IntKind.wrap IntKind.u64 ((0 : Int) - IntKind.wrap IntKind.u64 a) * IntKind.wrap IntKind.u64 b % (18446744073709551616 : Int))))],
                [])))
          (Tree.ret
            (AV.agg
                [AV.int IntKind.i64 false (IntKind.wrap IntKind.i64 (IntKind.wrap IntKind.u64 ((0 : Int) - IntKind.wrap IntKind.u64 a) * IntKind.wrap IntKind.u64 b / (18446744073709551616 : Int))),
                  AV.int IntKind.u64 false (IntKind.wrap IntKind.u64 ((0 : Int) - IntKind.wrap IntKind.u64 a) * IntKind.wrap IntKind.u64 b % (18446744073709551616 : Int))],
              [])))))
    (Tree.br (decide (b < (0 : Int)))
      (Tree.chk
        ((True ∧ True ∧ True) ∧
          (0 : Int) ≤ IntKind.wrap IntKind.u64 a ∧
            IntKind.wrap IntKind.u64 a ≤ (18446744073709551615 : Int) ∧
              (0 : Int) ≤ IntKind.wrap IntKind.u64 ((0 : Int) - IntKind.wrap IntKind.u64 b) ∧ IntKind.wrap IntKind.u64 ((0 : Int) - IntKind.wrap IntKind.u64 b) ≤ (18446744073709551615 : Int))
        (Tree.br (!decide (a < (0 : Int)) == decide (b < (0 : Int)))
          (Tree.chk
            ((True ∧ True) ∧
              (-9223372036854775808 : Int) ≤ IntKind.wrap IntKind.i64 (IntKind.wrap IntKind.u64 a * IntKind.wrap IntKind.u64 ((0 : Int) - IntKind.wrap IntKind.u64 b) / (18446744073709551616 : Int)) ∧
                IntKind.wrap IntKind.i64 (IntKind.wrap IntKind.u64 a * IntKind.wrap IntKind.u64 ((0 : Int) - IntKind.wrap IntKind.u64 b) / (18446744073709551616 : Int)) ≤ (9223372036854775807 : Int) ∧
                  (0 : Int) ≤ IntKind.wrap IntKind.u64 a * IntKind.wrap IntKind.u64 ((0 : Int) - IntKind.wrap IntKind.u64 b) % (18446744073709551616 : Int) ∧
                    IntKind.wrap IntKind.u64 a * IntKind.wrap IntKind.u64 ((0 : Int) - IntKind.wrap IntKind.u64 b) % (18446744073709551616 : Int) ≤ (18446744073709551615 : Int))
            (Tree.ret
              (AV.agg
                  [AV.int IntKind.i64 false
                      (hiZ
                        (-numW (IntKind.wrap IntKind.i64 (IntKind.wrap IntKind.u64 a * IntKind.wrap IntKind.u64 ((0 : Int) - IntKind.wrap IntKind.u64 b) / (18446744073709551616 : Int)))
                            (IntKind.wrap IntKind.u64 a * IntKind.wrap IntKind.u64 ((0 : Int) - IntKind.wrap IntKind.u64 b) % (18446744073709551616 : Int)))),
                    AV.int IntKind.u64 false
                      (loZ
                        (-numW (IntKind.wrap IntKind.i64 (IntKind.wrap IntKind.u64 a * IntKind.wrap IntKind.u64 ((0 : Int) - IntKind.wrap IntKind.u64 b) / (18446744073709551616 : Int)))
                            (IntKind.wrap IntKind.u64 a * IntKind.wrap IntKind.u64 ((0 : Int) - IntKind.wrap IntKind.u64 b) % (18446744073709551616 : Int))))],
                [])))
          (Tree.ret
            (AV.agg
                [AV.int IntKind.i64 false (IntKind.wrap IntKind.i64 (IntKind.wrap IntKind.u64 a * IntKind.wrap IntKind.u64 ((0 : Int) - IntKind.wrap IntKind.u64 b) / (18446744073709551616 : Int))),
                  AV.int IntKind.u64 false (IntKind.wrap IntKind.u64 a * IntKind.wrap IntKind.u64 ((0 : Int) - IntKind.wrap IntKind.u64 b) % (18446744073709551616 : Int))],
              []))))
      (Tree.chk
        ((True ∧ True ∧ True) ∧
          (0 : Int) ≤ IntKind.wrap IntKind.u64 a ∧ IntKind.wrap IntKind.u64 a ≤ (18446744073709551615 : Int) ∧ (0 : Int) ≤ IntKind.wrap IntKind.u64 b ∧ IntKind.wrap IntKind.u64 b ≤ (18446744073709551615 : Int))
        (Tree.br (!decide (a < (0 : Int)) == decide (b < (0 : Int)))
          (Tree.chk
            ((True ∧ True) ∧
              (-9223372036854775808 : Int) ≤ IntKind.wrap IntKind.i64 (IntKind.wrap IntKind.u64 a * IntKind.wrap IntKind.u64 b / (18446744073709551616 : Int)) ∧
                IntKind.wrap IntKind.i64 (IntKind.wrap IntKind.u64 a * IntKind.wrap IntKind.u64 b / (18446744073709551616 : Int)) ≤ (9223372036854775807 : Int) ∧
                  (0 : Int) ≤ IntKind.wrap IntKind.u64 a * IntKind.wrap IntKind.u64 b % (18446744073709551616 : Int) ∧
                    IntKind.wrap IntKind.u64 a * IntKind.wrap IntKind.u64 b % (18446744073709551616 : Int) ≤ (18446744073709551615 : Int))
            (Tree.ret
              (AV.agg
                  [AV.int IntKind.i64 false
                      (hiZ
                        (-numW (IntKind.wrap IntKind.i64 (IntKind.wrap IntKind.u64 a * IntKind.wrap IntKind.u64 b / (18446744073709551616 : Int)))
                            (IntKind.wrap IntKind.u64 a * IntKind.wrap IntKind.u64 b % (18446744073709551616 : Int)))),
                    AV.int IntKind.u64 false
                      (loZ
                        (-numW (IntKind.wrap IntKind.i64 (IntKind.wrap IntKind.u64 a * IntKind.wrap IntKind.u64 b / (18446744073709551616 : Int)))
                            (IntKind.wrap IntKind.u64 a * IntKind.wrap IntKind.u64 b % (18446744073709551616 : Int))))],
                [])))
          (Tree.ret
            (AV.agg
                [AV.int IntKind.i64 false (IntKind.wrap IntKind.i64 (IntKind.wrap IntKind.u64 a * IntKind.wrap IntKind.u64 b / (18446744073709551616 : Int))),
                  AV.int IntKind.u64 false (IntKind.wrap IntKind.u64 a * IntKind.wrap IntKind.u64 b % (18446744073709551616 : Int))],
              []))))) := by kernel_rfl
set_option maxRecDepth 100000 in
theorem gmul (a : Int) (b : Int) (hw : -9223372036854775808 ≤ a ∧ a ≤ 9223372036854775807 ∧ -9223372036854775808 ≤ b ∧ b ≤ 9223372036854775807) : (Tree.br (decide (a < (0 : Int)))
    (Tree.br (decide (b < (0 : Int)))
      (Tree.chk
        ((True ∧ True ∧ True) ∧
          (0 : Int) ≤ IntKind.wrap IntKind.u64 ((0 : Int) - IntKind.wrap IntKind.u64 a) ∧
            IntKind.wrap IntKind.u64 ((0 : Int) - IntKind.wrap IntKind.u64 a) ≤ (18446744073709551615 : Int) ∧
              (0 : Int) ≤ IntKind.wrap IntKind.u64 ((0 : Int) - IntKind.wrap IntKind.u64 b) ∧ IntKind.wrap IntKind.u64 ((0 : Int) - IntKind.wrap IntKind.u64 b) ≤ (18446744073709551615 : Int))
        (Tree.br (!decide (a < (0 : Int)) == decide (b < (0 : Int)))
          (Tree.chk
            ((True ∧ True) ∧
              (-9223372036854775808 : Int) ≤
                  IntKind.wrap IntKind.i64 (IntKind.wrap IntKind.u64 ((0 : Int) - IntKind.wrap IntKind.u64 a) * IntKind.wrap IntKind.u64 ((0 : Int) - IntKind.wrap IntKind.u64 b) / (18446744073709551616 : Int)) ∧
                IntKind.wrap IntKind.i64 (IntKind.wrap IntKind.u64 ((0 : Int) - IntKind.wrap IntKind.u64 a) * IntKind.wrap IntKind.u64 ((0 : Int) - IntKind.wrap IntKind.u64 b) / (18446744073709551616 : Int)) ≤
                    (9223372036854775807 : Int) ∧
                  (0 : Int) ≤ IntKind.wrap IntKind.u64 ((0 : Int) - IntKind.wrap IntKind.u64 a) * IntKind.wrap IntKind.u64 ((0 : Int) - IntKind.wrap IntKind.u64 b) % (18446744073709551616 : Int) ∧
                    IntKind.wrap IntKind.u64 ((0 : Int) - IntKind.wrap IntKind.u64 a) * IntKind.wrap IntKind.u64 ((0 : Int) - IntKind.wrap IntKind.u64 b) % (18446744073709551616 : Int) ≤ (18446744073709551615 : Int))
            (Tree.ret
              (AV.agg
                  [AV.int IntKind.i64 false
                      (hiZ
                        (-numW (IntKind.wrap IntKind.i64 (IntKind.wrap IntKind.u64 ((0 : Int) - IntKind.wrap IntKind.u64 a) * IntKind.wrap IntKind.u64 ((0 : Int) - IntKind.wrap IntKind.u64 b) / (18446744073709551616 : Int)))
                            (IntKind.wrap IntKind.u64 ((0 : Int) - IntKind.wrap IntKind.u64 a) * IntKind.wrap IntKind.u64 ((0 : Int) - IntKind.wrap IntKind.u64 b) % (18446744073709551616 : Int)))),
                    AV.int IntKind.u64 false
                      (loZ
                        (-numW (IntKind.wrap IntKind.i64 (IntKind.wrap IntKind.u64 ((0 : Int) - IntKind.wrap IntKind.u64 a) * IntKind.wrap IntKind.u64 ((0 : Int) - IntKind.wrap IntKind.u64 b) / (18446744073709551616 : Int)))
                            (IntKind.wrap IntKind.u64 ((0 : Int) - IntKind.wrap IntKind.u64 a) * IntKind.wrap IntKind.u64 ((0 : Int) - IntKind.wrap IntKind.u64 b) % (18446744073709551616 : Int))))],
                [])))
          (Tree.ret
            (AV.agg
                [AV.int IntKind.i64 false (IntKind.wrap IntKind.i64 (IntKind.wrap IntKind.u64 ((0 : Int) - IntKind.wrap IntKind.u64 a) * IntKind.wrap IntKind.u64 ((0 : Int) - IntKind.wrap IntKind.u64 b) / (18446744073709551616 : Int))),
                  AV.int IntKind.u64 false (IntKind.wrap IntKind.u64 ((0 : Int) - IntKind.wrap IntKind.u64 a) * IntKind.wrap IntKind.u64 ((0 : Int) - IntKind.wrap IntKind.u64 b) % (18446744073709551616 : Int))],
              []))))
      (Tree.chk
        ((True ∧ True ∧ True) ∧
          (0 : Int) ≤ IntKind.wrap IntKind.u64 ((0 : Int) - IntKind.wrap IntKind.u64 a) ∧
            IntKind.wrap IntKind.u64 ((0 : Int) - IntKind.wrap IntKind.u64 a) ≤ (18446744073709551615 : Int) ∧ (0 : Int) ≤ IntKind.wrap IntKind.u64 b ∧ IntKind.wrap IntKind.u64 b ≤ (18446744073709551615 : Int))
        (Tree.br (!decide (a < (0 : Int)) == decide (b < (0 : Int)))
          (Tree.chk
            ((True ∧ True) ∧
              (-9223372036854775808 : Int) ≤ IntKind.wrap IntKind.i64 (IntKind.wrap IntKind.u64 ((0 : Int) - IntKind.wrap IntKind.u64 a) * IntKind.wrap IntKind.u64 b / (18446744073709551616 : Int)) ∧
                IntKind.wrap IntKind.i64 (IntKind.wrap IntKind.u64 ((0 : Int) - IntKind.wrap IntKind.u64 a) * IntKind.wrap IntKind.u64 b / (18446744073709551616 : Int)) ≤ (9223372036854775807 : Int) ∧
                  (0 : Int) ≤ IntKind.wrap IntKind.u64 ((0 : Int) - IntKind.wrap IntKind.u64 a) * IntKind.wrap IntKind.u64 b % (18446744073709551616 : Int) ∧
                    IntKind.wrap IntKind.u64 ((0 : Int) - IntKind.wrap IntKind.u64 a) * IntKind.wrap IntKind.u64 b % (18446744073709551616 : Int) ≤ (18446744073709551615 : Int))
            (Tree.ret
              (AV.agg
                  [AV.int IntKind.i64 false
                      (hiZ
                        (-numW (IntKind.wrap IntKind.i64 (IntKind.wrap IntKind.u64 ((0 : Int) - IntKind.wrap IntKind.u64 a) * IntKind.wrap IntKind.u64 b / (18446744073709551616 : Int)))
                            (IntKind.wrap IntKind.u64 ((0 : Int) - IntKind.wrap IntKind.u64 a) * IntKind.wrap IntKind.u64 b % (18446744073709551616 : Int)))),
                    AV.int IntKind.u64 false
                      (loZ
                        (-numW (IntKind.wrap IntKind.i64 (IntKind.wrap IntKind.u64 ((0 : Int) - IntKind.wrap IntKind.u64 a) * IntKind.wrap IntKind.u64 b / (18446744073709551616 : Int)))
                            (IntKind.wrap IntKind.u64 ((0 : Int) - IntKind.wrap IntKind.u64 a) * IntKind.wrap IntKind.u64 b % (18446744073709551616 : Int))))],
                [])))
          (Tree.ret
            (AV.agg
                [AV.int IntKind.i64 false (IntKind.wrap IntKind.i64 (IntKind.wrap IntKind.u64 ((0 : Int) - IntKind.wrap IntKind.u64 a) * IntKind.wrap IntKind.u64 b / (18446744073709551616 : Int))),
                  AV.int IntKind.u64 false (IntKind.wrap IntKind.u64 ((0 : Int) - IntKind.wrap IntKind.u64 a) * IntKind.wrap IntKind.u64 b % (18446744073709551616 : Int))],
              [])))))
    (Tree.br (decide (b < (0 : Int)))
      (Tree.chk
        ((True ∧ True ∧ True) ∧
          (0 : Int) ≤ IntKind.wrap IntKind.u64 a ∧
            IntKind.wrap IntKind.u64 a ≤ (18446744073709551615 : Int) ∧
              (0 : Int) ≤ IntKind.wrap IntKind.u64 ((0 : Int) - IntKind.wrap IntKind.u64 b) ∧ IntKind.wrap IntKind.u64 ((0 : Int) - IntKind.wrap IntKind.u64 b) ≤ (18446744073709551615 : Int))
        (Tree.br (!decide (a < (0 : Int)) == decide (b < (0 : Int)))
          (Tree.chk
            ((True ∧ True) ∧
              (-9223372036854775808 : Int) ≤ IntKind.wrap IntKind.i64 (IntKind.wrap IntKind.u64 a * IntKind.wrap IntKind.u64 ((0 : Int) - IntKind.wrap IntKind.u64 b) / (18446744073709551616 : Int)) ∧
                IntKind.wrap IntKind.i64 (IntKind.wrap IntKind.u64 a * IntKind.wrap IntKind.u64 ((0 : Int) - IntKind.wrap IntKind.u64 b) / (18446744073709551616 : Int)) ≤ (9223372036854775807 : Int) ∧
                  (0 : Int) ≤ IntKind.wrap IntKind.u64 a * IntKind.wrap IntKind.u64 ((0 : Int) - IntKind.wrap IntKind.u64 b) % (18446744073709551616 : Int) ∧
                    IntKind.wrap IntKind.u64 a * IntKind.wrap IntKind.u64 ((0 : Int) - IntKind.wrap IntKind.u64 b) % (18446744073709551616 : Int) ≤ (18446744073709551615 : Int))
            (Tree.ret
              (AV.agg
                  [AV.int IntKind.i64 false
                      (hiZ
                        (-numW (IntKind.wrap IntKind.i64 (IntKind.wrap IntKind.u64 a * IntKind.wrap IntKind.u64 ((0 : Int) - IntKind.wrap IntKind.u64 b) / (18446744073709551616 : Int)))
                            (IntKind.wrap IntKind.u64 a * IntKind.wrap IntKind.u64 ((0 : Int) - IntKind.wrap IntKind.u64 b) % (18446744073709551616 : Int)))),
                    AV.int IntKind.u64 false
                      (loZ
                        (-numW (IntKind.wrap IntKind.i64 (IntKind.wrap IntKind.u64 a * IntKind.wrap IntKind.u64 ((0 : Int) - IntKind.wrap IntKind.u64 b) / (18446744073709551616 : Int)))
                            (IntKind.wrap IntKind.u64 a * IntKind.wrap IntKind.u64 ((0 : Int) - IntKind.wrap IntKind.u64 b) % (18446744073709551616 : Int))))],
                [])))
          (Tree.ret
            (AV.agg
                [AV.int IntKind.i64 false (IntKind.wrap IntKind.i64 (IntKind.wrap IntKind.u64 a * IntKind.wrap IntKind.u64 ((0 : Int) - IntKind.wrap IntKind.u64 b) / (18446744073709551616 : Int))),
                  AV.int IntKind.u64 false (IntKind.wrap IntKind.u64 a * IntKind.wrap IntKind.u64 ((0 : Int) - IntKind.wrap IntKind.u64 b) % (18446744073709551616 : Int))],
              []))))
      (Tree.chk
        ((True ∧ True ∧ True) ∧
          (0 : Int) ≤ IntKind.wrap IntKind.u64 a ∧ IntKind.wrap IntKind.u64 a ≤ (18446744073709551615 : Int) ∧ (0 : Int) ≤ IntKind.wrap IntKind.u64 b ∧ IntKind.wrap IntKind.u64 b ≤ (18446744073709551615 : Int))
        (Tree.br (!decide (a < (0 : Int)) == decide (b < (0 : Int)))
          (Tree.chk
            ((True ∧ True) ∧
              (-9223372036854775808 : Int) ≤ IntKind.wrap IntKind.i64 (IntKind.wrap IntKind.u64 a * IntKind.wrap IntKind.u64 b / (18446744073709551616 : Int)) ∧
                IntKind.wrap IntKind.i64 (IntKind.wrap IntKind.u64 a * IntKind.wrap IntKind.u64 b / (18446744073709551616 : Int)) ≤ (9223372036854775807 : Int) ∧
                  (0 : Int) ≤ IntKind.wrap IntKind.u64 a * IntKind.wrap IntKind.u64 b % (18446744073709551616 : Int) ∧
                    IntKind.wrap IntKind.u64 a * IntKind.wrap IntKind.u64 b % (18446744073709551616 : Int) ≤ (18446744073709551615 : Int))
            (Tree.ret
              (AV.agg
                  [AV.int IntKind.i64 false
                      (hiZ
                        (-numW (IntKind.wrap IntKind.i64 (IntKind.wrap IntKind.u64 a * IntKind.wrap IntKind.u64 b / (18446744073709551616 : Int)))
                            (IntKind.wrap IntKind.u64 a * IntKind.wrap IntKind.u64 b % (18446744073709551616 : Int)))),
                    AV.int IntKind.u64 false
                      (loZ
                        (-numW (IntKind.wrap IntKind.i64 (IntKind.wrap IntKind.u64 a * IntKind.wrap IntKind.u64 b / (18446744073709551616 : Int)))
                            (IntKind.wrap IntKind.u64 a * IntKind.wrap IntKind.u64 b % (18446744073709551616 : Int))))],
                [])))
          (Tree.ret
            (AV.agg
                [AV.int IntKind.i64 false (IntKind.wrap IntKind.i64 (IntKind.wrap IntKind.u64 a * IntKind.wrap IntKind.u64 b / (18446744073709551616 : Int))),
                  AV.int IntKind.u64 false (IntKind.wrap IntKind.u64 a * IntKind.wrap IntKind.u64 b % (18446744073709551616 : Int))],
              []))))) : Tree (AV × Mem)).GivesP (.agg [.int .i64 false (hiZ (a * b)), .int .u64 false (loZ (a * b))]) ([]) := by
  obtain ⟨a0, a1, b0, b1⟩ := hw
  have ea : (a < 0 → IntKind.u64.wrap (0 - IntKind.u64.wrap a) = -a) ∧ (0 ≤ a → IntKind.u64.wrap a = a) := by simp only [wu64]; omega
  have eb : (b < 0 → IntKind.u64.wrap (0 - IntKind.u64.wrap b) = -b) ∧ (0 ≤ b → IntKind.u64.wrap b = b) := by simp only [wu64]; omega
  have bd := mul_bound a0 a1 b0 b1
  refine Tree.GivesP.br (fun h1 => ?_) (fun h1 => ?_)
  · (try simp only [decide_eq_true_eq, decide_eq_false_iff_not, Bool.not_eq_true', Bool.not_eq_false', beq_iff_eq, beq_eq_false_iff_ne, Int.not_lt, Int.not_le, ge_iff_le, gt_iff_lt, ne_eq, Bool.false_eq_true, Bool.true_eq_false, not_true_eq_false, not_false_eq_true, Bool.and_eq_true, Bool.not_eq_eq_eq_not, Bool.not_true, Bool.not_false, bne_iff_ne, bne_eq_false_iff_eq, Int.toNat_natCast, Nat.mul_one, Nat.add_zero, Nat.zero_add, List.take_length, List.drop_zero] at h1)
    all_goals
      refine Tree.GivesP.br (fun h2 => ?_) (fun h2 => ?_)
      · (try simp only [decide_eq_true_eq, decide_eq_false_iff_not, Bool.not_eq_true', Bool.not_eq_false', beq_iff_eq, beq_eq_false_iff_ne, Int.not_lt, Int.not_le, ge_iff_le, gt_iff_lt, ne_eq, Bool.false_eq_true, Bool.true_eq_false, not_true_eq_false, not_false_eq_true, Bool.and_eq_true, Bool.not_eq_eq_eq_not, Bool.not_true, Bool.not_false, bne_iff_ne, bne_eq_false_iff_eq, Int.toNat_natCast, Nat.mul_one, Nat.add_zero, Nat.zero_add, List.take_length, List.drop_zero] at h2)
        all_goals
          refine Tree.GivesP.chk (by first | (simp only [and_self]; done) | ((repeat' with_reducible refine And.intro ?_ ?_) <;> first | trivial | omega | (simp only [w64, wu64]; omega))) ?_
          refine Tree.GivesP.br (fun h3 => ?_) (fun h3 => ?_)
          · (try simp only [decide_eq_true_eq, decide_eq_false_iff_not, Bool.not_eq_true', Bool.not_eq_false', beq_iff_eq, beq_eq_false_iff_ne, Int.not_lt, Int.not_le, ge_iff_le, gt_iff_lt, ne_eq, Bool.false_eq_true, Bool.true_eq_false, not_true_eq_false, not_false_eq_true, Bool.and_eq_true, Bool.not_eq_eq_eq_not, Bool.not_true, Bool.not_false, bne_iff_ne, bne_eq_false_iff_eq, Int.toNat_natCast, Nat.mul_one, Nat.add_zero, Nat.zero_add, List.take_length, List.drop_zero] at h3)
            all_goals
              refine Tree.GivesP.chk (by first | (simp only [and_self]; done) | ((repeat' with_reducible refine And.intro ?_ ?_) <;> first | trivial | omega | (simp only [w64, wu64]; omega))) ?_
              refine Tree.GivesP.ret ?_ ?_
              all_goals exfalso
              all_goals (have k1 : decide (a < 0) = true := by simp; omega)
              all_goals (have k2 : decide (b < 0) = true := by simp; omega)
              all_goals (rw [k1, k2] at h3; revert h3; decide)
          · (try simp only [decide_eq_true_eq, decide_eq_false_iff_not, Bool.not_eq_true', Bool.not_eq_false', beq_iff_eq, beq_eq_false_iff_ne, Int.not_lt, Int.not_le, ge_iff_le, gt_iff_lt, ne_eq, Bool.false_eq_true, Bool.true_eq_false, not_true_eq_false, not_false_eq_true, Bool.and_eq_true, Bool.not_eq_eq_eq_not, Bool.not_true, Bool.not_false, bne_iff_ne, bne_eq_false_iff_eq, Int.toNat_natCast, Nat.mul_one, Nat.add_zero, Nat.zero_add, List.take_length, List.drop_zero] at h3)
            all_goals
              refine Tree.GivesP.ret ?_ ?_
              · simp only [AV.le, AV.leL, true_and, and_true]
                rw [ea.1 h1, eb.1 h2, Int.neg_mul_neg]
                exact ⟨rfl, rfl⟩
              · simp only [AV.leL, AV.le, Mem.le, Mem.leP, Blk.le, Blk.pad, Data.le, Data.size, Cap.le, and_true, true_and, and_self, true_implies, implies_true, imp_self, List.length_nil]
      · (try simp only [decide_eq_true_eq, decide_eq_false_iff_not, Bool.not_eq_true', Bool.not_eq_false', beq_iff_eq, beq_eq_false_iff_ne, Int.not_lt, Int.not_le, ge_iff_le, gt_iff_lt, ne_eq, Bool.false_eq_true, Bool.true_eq_false, not_true_eq_false, not_false_eq_true, Bool.and_eq_true, Bool.not_eq_eq_eq_not, Bool.not_true, Bool.not_false, bne_iff_ne, bne_eq_false_iff_eq, Int.toNat_natCast, Nat.mul_one, Nat.add_zero, Nat.zero_add, List.take_length, List.drop_zero] at h2)
        all_goals
          refine Tree.GivesP.chk (by first | (simp only [and_self]; done) | ((repeat' with_reducible refine And.intro ?_ ?_) <;> first | trivial | omega | (simp only [w64, wu64]; omega))) ?_
          refine Tree.GivesP.br (fun h3 => ?_) (fun h3 => ?_)
          · (try simp only [decide_eq_true_eq, decide_eq_false_iff_not, Bool.not_eq_true', Bool.not_eq_false', beq_iff_eq, beq_eq_false_iff_ne, Int.not_lt, Int.not_le, ge_iff_le, gt_iff_lt, ne_eq, Bool.false_eq_true, Bool.true_eq_false, not_true_eq_false, not_false_eq_true, Bool.and_eq_true, Bool.not_eq_eq_eq_not, Bool.not_true, Bool.not_false, bne_iff_ne, bne_eq_false_iff_eq, Int.toNat_natCast, Nat.mul_one, Nat.add_zero, Nat.zero_add, List.take_length, List.drop_zero] at h3)
            all_goals
              refine Tree.GivesP.chk (by first | (simp only [and_self]; done) | ((repeat' with_reducible refine And.intro ?_ ?_) <;> first | trivial | omega | (simp only [w64, wu64]; omega))) ?_
              refine Tree.GivesP.ret ?_ ?_
              · simp only [AV.le, AV.leL, true_and, and_true]
                rw [ea.1 h1, eb.2 (by omega)]
                have e := num_hilo (n := -a * b) (by rw [Int.neg_mul]; omega) (by rw [Int.neg_mul]; omega)
                unfold hiZ loZ at e
                rw [e, Int.neg_mul, Int.neg_neg]
                exact ⟨rfl, rfl⟩
              · simp only [AV.leL, AV.le, Mem.le, Mem.leP, Blk.le, Blk.pad, Data.le, Data.size, Cap.le, and_true, true_and, and_self, true_implies, implies_true, imp_self, List.length_nil]
          · (try simp only [decide_eq_true_eq, decide_eq_false_iff_not, Bool.not_eq_true', Bool.not_eq_false', beq_iff_eq, beq_eq_false_iff_ne, Int.not_lt, Int.not_le, ge_iff_le, gt_iff_lt, ne_eq, Bool.false_eq_true, Bool.true_eq_false, not_true_eq_false, not_false_eq_true, Bool.and_eq_true, Bool.not_eq_eq_eq_not, Bool.not_true, Bool.not_false, bne_iff_ne, bne_eq_false_iff_eq, Int.toNat_natCast, Nat.mul_one, Nat.add_zero, Nat.zero_add, List.take_length, List.drop_zero] at h3)
            all_goals
              refine Tree.GivesP.ret ?_ ?_
              all_goals exfalso
              all_goals (have k1 : decide (a < 0) = true := by simp; omega)
              all_goals (have k2 : decide (b < 0) = false := by simp; omega)
              all_goals (rw [k1, k2] at h3; revert h3; decide)
  · (try simp only [decide_eq_true_eq, decide_eq_false_iff_not, Bool.not_eq_true', Bool.not_eq_false', beq_iff_eq, beq_eq_false_iff_ne, Int.not_lt, Int.not_le, ge_iff_le, gt_iff_lt, ne_eq, Bool.false_eq_true, Bool.true_eq_false, not_true_eq_false, not_false_eq_true, Bool.and_eq_true, Bool.not_eq_eq_eq_not, Bool.not_true, Bool.not_false, bne_iff_ne, bne_eq_false_iff_eq, Int.toNat_natCast, Nat.mul_one, Nat.add_zero, Nat.zero_add, List.take_length, List.drop_zero] at h1)
    all_goals
      refine Tree.GivesP.br (fun h2 => ?_) (fun h2 => ?_)
      · (try simp only [decide_eq_true_eq, decide_eq_false_iff_not, Bool.not_eq_true', Bool.not_eq_false', beq_iff_eq, beq_eq_false_iff_ne, Int.not_lt, Int.not_le, ge_iff_le, gt_iff_lt, ne_eq, Bool.false_eq_true, Bool.true_eq_false, not_true_eq_false, not_false_eq_true, Bool.and_eq_true, Bool.not_eq_eq_eq_not, Bool.not_true, Bool.not_false, bne_iff_ne, bne_eq_false_iff_eq, Int.toNat_natCast, Nat.mul_one, Nat.add_zero, Nat.zero_add, List.take_length, List.drop_zero] at h2)
        all_goals
          refine Tree.GivesP.chk (by first | (simp only [and_self]; done) | ((repeat' with_reducible refine And.intro ?_ ?_) <;> first | trivial | omega | (simp only [w64, wu64]; omega))) ?_
          refine Tree.GivesP.br (fun h3 => ?_) (fun h3 => ?_)
          · (try simp only [decide_eq_true_eq, decide_eq_false_iff_not, Bool.not_eq_true', Bool.not_eq_false', beq_iff_eq, beq_eq_false_iff_ne, Int.not_lt, Int.not_le, ge_iff_le, gt_iff_lt, ne_eq, Bool.false_eq_true, Bool.true_eq_false, not_true_eq_false, not_false_eq_true, Bool.and_eq_true, Bool.not_eq_eq_eq_not, Bool.not_true, Bool.not_false, bne_iff_ne, bne_eq_false_iff_eq, Int.toNat_natCast, Nat.mul_one, Nat.add_zero, Nat.zero_add, List.take_length, List.drop_zero] at h3)
            all_goals
              refine Tree.GivesP.chk (by first | (simp only [and_self]; done) | ((repeat' with_reducible refine And.intro ?_ ?_) <;> first | trivial | omega | (simp only [w64, wu64]; omega))) ?_
              refine Tree.GivesP.ret ?_ ?_
              · simp only [AV.le, AV.leL, true_and, and_true]
                rw [ea.2 (by omega), eb.1 h2]
                have e := num_hilo (n := a * -b) (by rw [Int.mul_neg]; omega) (by rw [Int.mul_neg]; omega)
                unfold hiZ loZ at e
                rw [e, Int.mul_neg, Int.neg_neg]
                exact ⟨rfl, rfl⟩
              · simp only [AV.leL, AV.le, Mem.le, Mem.leP, Blk.le, Blk.pad, Data.le, Data.size, Cap.le, and_true, true_and, and_self, true_implies, implies_true, imp_self, List.length_nil]
          · (try simp only [decide_eq_true_eq, decide_eq_false_iff_not, Bool.not_eq_true', Bool.not_eq_false', beq_iff_eq, beq_eq_false_iff_ne, Int.not_lt, Int.not_le, ge_iff_le, gt_iff_lt, ne_eq, Bool.false_eq_true, Bool.true_eq_false, not_true_eq_false, not_false_eq_true, Bool.and_eq_true, Bool.not_eq_eq_eq_not, Bool.not_true, Bool.not_false, bne_iff_ne, bne_eq_false_iff_eq, Int.toNat_natCast, Nat.mul_one, Nat.add_zero, Nat.zero_add, List.take_length, List.drop_zero] at h3)
            all_goals
              refine Tree.GivesP.ret ?_ ?_
              all_goals exfalso
              all_goals (have k1 : decide (a < 0) = false := by simp; omega)
              all_goals (have k2 : decide (b < 0) = true := by simp; omega)
              all_goals (rw [k1, k2] at h3; revert h3; decide)
      · (try simp only [decide_eq_true_eq, decide_eq_false_iff_not, Bool.not_eq_true', Bool.not_eq_false', beq_iff_eq, beq_eq_false_iff_ne, Int.not_lt, Int.not_le, ge_iff_le, gt_iff_lt, ne_eq, Bool.false_eq_true, Bool.true_eq_false, not_true_eq_false, not_false_eq_true, Bool.and_eq_true, Bool.not_eq_eq_eq_not, Bool.not_true, Bool.not_false, bne_iff_ne, bne_eq_false_iff_eq, Int.toNat_natCast, Nat.mul_one, Nat.add_zero, Nat.zero_add, List.take_length, List.drop_zero] at h2)
        all_goals
          refine Tree.GivesP.chk (by first | (simp only [and_self]; done) | ((repeat' with_reducible refine And.intro ?_ ?_) <;> first | trivial | omega | (simp only [w64, wu64]; omega))) ?_
          refine Tree.GivesP.br (fun h3 => ?_) (fun h3 => ?_)
          · (try simp only [decide_eq_true_eq, decide_eq_false_iff_not, Bool.not_eq_true', Bool.not_eq_false', beq_iff_eq, beq_eq_false_iff_ne, Int.not_lt, Int.not_le, ge_iff_le, gt_iff_lt, ne_eq, Bool.false_eq_true, Bool.true_eq_false, not_true_eq_false, not_false_eq_true, Bool.and_eq_true, Bool.not_eq_eq_eq_not, Bool.not_true, Bool.not_false, bne_iff_ne, bne_eq_false_iff_eq, Int.toNat_natCast, Nat.mul_one, Nat.add_zero, Nat.zero_add, List.take_length, List.drop_zero] at h3)
            all_goals
              refine Tree.GivesP.chk (by first | (simp only [and_self]; done) | ((repeat' with_reducible refine And.intro ?_ ?_) <;> first | trivial | omega | (simp only [w64, wu64]; omega))) ?_
              refine Tree.GivesP.ret ?_ ?_
              all_goals exfalso
              all_goals (have k1 : decide (a < 0) = false := by simp; omega)
              all_goals (have k2 : decide (b < 0) = false := by simp; omega)
              all_goals (rw [k1, k2] at h3; revert h3; decide)
          · (try simp only [decide_eq_true_eq, decide_eq_false_iff_not, Bool.not_eq_true', Bool.not_eq_false', beq_iff_eq, beq_eq_false_iff_ne, Int.not_lt, Int.not_le, ge_iff_le, gt_iff_lt, ne_eq, Bool.false_eq_true, Bool.true_eq_false, not_true_eq_false, not_false_eq_true, Bool.and_eq_true, Bool.not_eq_eq_eq_not, Bool.not_true, Bool.not_false, bne_iff_ne, bne_eq_false_iff_eq, Int.toNat_natCast, Nat.mul_one, Nat.add_zero, Nat.zero_add, List.take_length, List.drop_zero] at h3)
            all_goals
              refine Tree.GivesP.ret ?_ ?_
              · simp only [AV.le, AV.leL, true_and, and_true]
                rw [ea.2 (by omega), eb.2 (by omega)]
                exact ⟨rfl, rfl⟩
              · simp only [AV.leL, AV.le, Mem.le, Mem.leP, Blk.le, Blk.pad, Data.le, Data.size, Cap.le, and_true, true_and, and_self, true_implies, implies_true, imp_self, List.length_nil]
theorem smul (hall : AllOk Try.prog 0 (fun _ => none) tab7) (a : Int) (b : Int) (hw : -9223372036854775808 ≤ a ∧ a ≤ 9223372036854775807 ∧ -9223372036854775808 ≤ b ∧ b ≤ 9223372036854775807) : SoundAt (mkC Try.prog 0 (fun _ => none) []) 12 [.int .i64 false a, .int .i64 false b] [] (.agg [.int .i64 false (hiZ (a * b)), .int .u64 false (loZ (a * b))], []) := sound_ofP hall mix (tmul a b) (gmul a b hw)
theorem Fmul_ok (hall : AllOk Try.prog 0 (fun _ => none) tab7) : PureF Try.prog 3 12 Fmul := by
  intro xs c v news h hc
  unfold Fmul at h
  split at h
  · rename_i _ a _ b
    cases h
    refine ⟨(by intro b hb; cases hb), SoundAt.flags (smul hall a b hc) ?_⟩
    simp [PA.avs, AV.le, AV.leL, Cap.le]
  · cases h
end Go.Proofs.Ytldknchhgnfncaa.Rig

/- Qdown -/
namespace Go.Proofs.Ytldknchhgnfncaa.Rig
open Go
set_option maxRecDepth 100000 in
theorem tdown (h : Int) (l : Int) (c : Int) : evBody (mkC Try.prog 0 (fun _ => none) tab8) (evCall (mkC Try.prog 0 (fun _ => none) tab8) 50) 11 [.agg [.int .i64 false h, .int .u64 false l], .int .i64 false c] [] =
  Tree.br (decide (c < (1 : Int))) (Tree.ret (AV.tup [AV.int IntKind.i64 true (0 : Int), AV.int IntKind.i64 true (2 : Int)], []))
    (Tree.chk
      ((True ∧ True ∧ True) ∧
        (-9223372036854775808 : Int) ≤ h ∧
          h ≤ (9223372036854775807 : Int) ∧ (0 : Int) ≤ l ∧ l ≤ (18446744073709551615 : Int) ∧ (0 : Int) ≤ IntKind.wrap IntKind.u64 c ∧ IntKind.wrap IntKind.u64 c ≤ (18446744073709551615 : Int))
      (Tree.br (!byOk (IntKind.wrap IntKind.u64 c) (numW h l)) (Tree.ret (AV.tup [AV.int IntKind.i64 true (0 : Int), AV.int IntKind.i64 true (3 : Int)], []))
        (Tree.br (decide (byQ (IntKind.wrap IntKind.u64 c) (numW h l) > (9223372036854775808 : Int))) (Tree.ret (AV.tup [AV.int IntKind.i64 true (0 : Int), AV.int IntKind.i64 true (3 : Int)], []))
          (Tree.br (decide (h < (0 : Int)))
            (Tree.br (decide (byR (IntKind.wrap IntKind.u64 c) (numW h l) > (0 : Int)))
              (Tree.br (decide (h < (0 : Int)))
                (Tree.br (!decide (IntKind.wrap IntKind.u64 (byQ (IntKind.wrap IntKind.u64 c) (numW h l) + (1 : Int)) ≤ (9223372036854775808 : Int)))
                  (Tree.ret (AV.tup [AV.int IntKind.i64 true (0 : Int), AV.int IntKind.i64 true (3 : Int)], []))
                  (Tree.ret
                    (AV.tup
                        [AV.int IntKind.i64 false (IntKind.wrap IntKind.i64 (IntKind.wrap IntKind.u64 ((0 : Int) - IntKind.wrap IntKind.u64 (byQ (IntKind.wrap IntKind.u64 c) (numW h l) + (1 : Int))))),
                          AV.int IntKind.i64 true (0 : Int)],
                      [])))
                (Tree.br (!decide (IntKind.wrap IntKind.u64 (byQ (IntKind.wrap IntKind.u64 c) (numW h l) + (1 : Int)) < (9223372036854775808 : Int)))
                  (Tree.ret (AV.tup [AV.int IntKind.i64 true (0 : Int), AV.int IntKind.i64 true (3 : Int)], []))
                  (Tree.ret (AV.tup [AV.int IntKind.i64 false (IntKind.wrap IntKind.i64 (IntKind.wrap IntKind.u64 (byQ (IntKind.wrap IntKind.u64 c) (numW h l) + (1 : Int)))), AV.int IntKind.i64 true (0 : Int)], []))))
              (Tree.br (decide (h < (0 : Int)))
                (Tree.br (!decide (byQ (IntKind.wrap IntKind.u64 c) (numW h l) ≤ (9223372036854775808 : Int))) (Tree.ret (AV.tup [AV.int IntKind.i64 true (0 : Int), AV.int IntKind.i64 true (3 : Int)], []))
                  (Tree.ret (AV.tup [AV.int IntKind.i64 false (IntKind.wrap IntKind.i64 (IntKind.wrap IntKind.u64 ((0 : Int) - byQ (IntKind.wrap IntKind.u64 c) (numW h l)))), AV.int IntKind.i64 true (0 : Int)], [])))
                (Tree.br (!decide (byQ (IntKind.wrap IntKind.u64 c) (numW h l) < (9223372036854775808 : Int))) (Tree.ret (AV.tup [AV.int IntKind.i64 true (0 : Int), AV.int IntKind.i64 true (3 : Int)], []))
                  (Tree.ret (AV.tup [AV.int IntKind.i64 false (IntKind.wrap IntKind.i64 (byQ (IntKind.wrap IntKind.u64 c) (numW h l))), AV.int IntKind.i64 true (0 : Int)], [])))))
            (Tree.br (decide (h < (0 : Int)))
              (Tree.br (!decide (byQ (IntKind.wrap IntKind.u64 c) (numW h l) ≤ (9223372036854775808 : Int))) (Tree.ret (AV.tup [AV.int IntKind.i64 true (0 : Int), AV.int IntKind.i64 true (3 : Int)], []))
                (Tree.ret (AV.tup [AV.int IntKind.i64 false (IntKind.wrap IntKind.i64 (IntKind.wrap IntKind.u64 ((0 : Int) - byQ (IntKind.wrap IntKind.u64 c) (numW h l)))), AV.int IntKind.i64 true (0 : Int)], [])))
              (Tree.br (!decide (byQ (IntKind.wrap IntKind.u64 c) (numW h l) < (9223372036854775808 : Int))) (Tree.ret (AV.tup [AV.int IntKind.i64 true (0 : Int), AV.int IntKind.i64 true (3 : Int)], []))
                (Tree.ret (AV.tup [AV.int IntKind.i64 false (IntKind.wrap IntKind.i64 (byQ (IntKind.wrap IntKind.u64 c) (numW h l))), AV.int IntKind.i64 true (0 : Int)], [])))))))) := by kernel_rfl
set_option maxRecDepth 100000 in
theorem gdown (h : Int) (l : Int) (c : Int) (hw : -9223372036854775808 ≤ h ∧ h ≤ 9223372036854775807 ∧ -9223372036854775808 ≤ c ∧ c ≤ 9223372036854775807 ∧ 0 ≤ l ∧ l ≤ 18446744073709551615) : (Tree.br (decide (c < (1 : Int))) (Tree.ret (AV.tup [AV.int IntKind.i64 true (0 : Int), AV.int IntKind.i64 true (2 : Int)], []))
    (Tree.chk
      ((True ∧ True ∧ True) ∧
        (-9223372036854775808 : Int) ≤ h ∧
          h ≤ (9223372036854775807 : Int) ∧ (0 : Int) ≤ l ∧ l ≤ (18446744073709551615 : Int) ∧ (0 : Int) ≤ IntKind.wrap IntKind.u64 c ∧ IntKind.wrap IntKind.u64 c ≤ (18446744073709551615 : Int))
      (Tree.br (!byOk (IntKind.wrap IntKind.u64 c) (numW h l)) (Tree.ret (AV.tup [AV.int IntKind.i64 true (0 : Int), AV.int IntKind.i64 true (3 : Int)], []))
        (Tree.br (decide (byQ (IntKind.wrap IntKind.u64 c) (numW h l) > (9223372036854775808 : Int))) (Tree.ret (AV.tup [AV.int IntKind.i64 true (0 : Int), AV.int IntKind.i64 true (3 : Int)], []))
          (Tree.br (decide (h < (0 : Int)))
            (Tree.br (decide (byR (IntKind.wrap IntKind.u64 c) (numW h l) > (0 : Int)))
              (Tree.br (decide (h < (0 : Int)))
                (Tree.br (!decide (IntKind.wrap IntKind.u64 (byQ (IntKind.wrap IntKind.u64 c) (numW h l) + (1 : Int)) ≤ (9223372036854775808 : Int)))
                  (Tree.ret (AV.tup [AV.int IntKind.i64 true (0 : Int), AV.int IntKind.i64 true (3 : Int)], []))
                  (Tree.ret
                    (AV.tup
                        [AV.int IntKind.i64 false (IntKind.wrap IntKind.i64 (IntKind.wrap IntKind.u64 ((0 : Int) - IntKind.wrap IntKind.u64 (byQ (IntKind.wrap IntKind.u64 c) (numW h l) + (1 : Int))))),
                          AV.int IntKind.i64 true (0 : Int)],
                      [])))
                (Tree.br (!decide (IntKind.wrap IntKind.u64 (byQ (IntKind.wrap IntKind.u64 c) (numW h l) + (1 : Int)) < (9223372036854775808 : Int)))
                  (Tree.ret (AV.tup [AV.int IntKind.i64 true (0 : Int), AV.int IntKind.i64 true (3 : Int)], []))
                  (Tree.ret (AV.tup [AV.int IntKind.i64 false (IntKind.wrap IntKind.i64 (IntKind.wrap IntKind.u64 (byQ (IntKind.wrap IntKind.u64 c) (numW h l) + (1 : Int)))), AV.int IntKind.i64 true (0 : Int)], []))))
              (Tree.br (decide (h < (0 : Int)))
                (Tree.br (!decide (byQ (IntKind.wrap IntKind.u64 c) (numW h l) ≤ (9223372036854775808 : Int))) (Tree.ret (AV.tup [AV.int IntKind.i64 true (0 : Int), AV.int IntKind.i64 true (3 : Int)], []))
                  (Tree.ret (AV.tup [AV.int IntKind.i64 false (IntKind.wrap IntKind.i64 (IntKind.wrap IntKind.u64 ((0 : Int) - byQ (IntKind.wrap IntKind.u64 c) (numW h l)))), AV.int IntKind.i64 true (0 : Int)], [])))
                (Tree.br (!decide (byQ (IntKind.wrap IntKind.u64 c) (numW h l) < (9223372036854775808 : Int))) (Tree.ret (AV.tup [AV.int IntKind.i64 true (0 : Int), AV.int IntKind.i64 true (3 : Int)], []))
                  (Tree.ret (AV.tup [AV.int IntKind.i64 false (IntKind.wrap IntKind.i64 (byQ (IntKind.wrap IntKind.u64 c) (numW h l))), AV.int IntKind.i64 true (0 : Int)], [])))))
            (Tree.br (decide (h < (0 : Int)))
              (Tree.br (!decide (byQ (IntKind.wrap IntKind.u64 c) (numW h l) ≤ (9223372036854775808 : Int))) (Tree.ret (AV.tup [AV.int IntKind.i64 true (0 : Int), AV.int IntKind.i64 true (3 : Int)], []))
                (Tree.ret (AV.tup [AV.int IntKind.i64 false (IntKind.wrap IntKind.i64 (IntKind.wrap IntKind.u64 ((0 : Int) - byQ (IntKind.wrap IntKind.u64 c) (numW h l)))), AV.int IntKind.i64 true (0 : Int)], [])))
              (Tree.br (!decide (byQ (IntKind.wrap IntKind.u64 c) (numW h l) < (9223372036854775808 : Int))) (Tree.ret (AV.tup [AV.int IntKind.i64 true (0 : Int), AV.int IntKind.i64 true (3 : Int)], []))
                (Tree.ret (AV.tup [AV.int IntKind.i64 false (IntKind.wrap IntKind.i64 (byQ (IntKind.wrap IntKind.u64 c) (numW h l))), AV.int IntKind.i64 true (0 : Int)], [])))))))) : Tree (AV × Mem)).GivesP (.tup [.int .i64 false (quoV c (numW h l / c)), .int .i64 false (quoE c (numW h l / c))]) ([]) := by
  obtain ⟨h0, h1_, c0, c1, l0, l1⟩ := hw
  refine Tree.GivesP.br (fun h1 => ?_) (fun h1 => ?_)
  · (try simp only [decide_eq_true_eq, decide_eq_false_iff_not, Bool.not_eq_true', Bool.not_eq_false', beq_iff_eq, beq_eq_false_iff_ne, Int.not_lt, Int.not_le, ge_iff_le, gt_iff_lt, ne_eq, Bool.false_eq_true, Bool.true_eq_false, not_true_eq_false, not_false_eq_true, Bool.and_eq_true, Bool.not_eq_eq_eq_not, Bool.not_true, Bool.not_false, bne_iff_ne, bne_eq_false_iff_eq, Int.toNat_natCast, Nat.mul_one, Nat.add_zero, Nat.zero_add, List.take_length, List.drop_zero] at h1)
    all_goals
      refine Tree.GivesP.ret ?_ ?_
      · simp only [AV.le, AV.leL, true_and, and_true, quoV, quoE]; rw [if_pos h1, if_pos h1]; exact ⟨rfl, rfl⟩
      · simp only [AV.leL, AV.le, Mem.le, Mem.leP, Blk.le, Blk.pad, Data.le, Data.size, Cap.le, and_true, true_and, and_self, true_implies, implies_true, imp_self, List.length_nil]
  · (try simp only [decide_eq_true_eq, decide_eq_false_iff_not, Bool.not_eq_true', Bool.not_eq_false', beq_iff_eq, beq_eq_false_iff_ne, Int.not_lt, Int.not_le, ge_iff_le, gt_iff_lt, ne_eq, Bool.false_eq_true, Bool.true_eq_false, not_true_eq_false, not_false_eq_true, Bool.and_eq_true, Bool.not_eq_eq_eq_not, Bool.not_true, Bool.not_false, bne_iff_ne, bne_eq_false_iff_eq, Int.toNat_natCast, Nat.mul_one, Nat.add_zero, Nat.zero_add, List.take_length, List.drop_zero] at h1)
    all_goals
      refine Tree.GivesP.chk (by first | (simp only [and_self]; done) | ((have hcw : 1 ≤ c := by omega); (repeat' with_reducible refine And.intro ?_ ?_) <;> first | trivial | omega | (simp only [w64, wu64]; omega))) ?_
      refine Tree.GivesP.br (fun h2 => ?_) (fun h2 => ?_)
      · (try simp only [decide_eq_true_eq, decide_eq_false_iff_not, Bool.not_eq_true', Bool.not_eq_false', beq_iff_eq, beq_eq_false_iff_ne, Int.not_lt, Int.not_le, ge_iff_le, gt_iff_lt, ne_eq, Bool.false_eq_true, Bool.true_eq_false, not_true_eq_false, not_false_eq_true, Bool.and_eq_true, Bool.not_eq_eq_eq_not, Bool.not_true, Bool.not_false, bne_iff_ne, bne_eq_false_iff_eq, Int.toNat_natCast, Nat.mul_one, Nat.add_zero, Nat.zero_add, List.take_length, List.drop_zero] at h2)
        all_goals
          refine Tree.GivesP.ret ?_ ?_
          have hc : 1 ≤ c := by omega
          have hcw : IntKind.u64.wrap c = c := by rw [wu64]; omega
          obtain ⟨g1, g2, g3, g4, g5, g6, g7, g8, g9, g10, g11⟩ := down_facts (N := numW h l) hc
          have hsg : numW h l < 0 ↔ h < 0 := by unfold numW; omega
          (try simp only [hcw] at *)
          have k3 := g2 h2
          generalize absZ (numW h l) / c = q at *
          generalize absZ (numW h l) % c = r at *
          generalize numW h l / c = X at *
          (try simp only [wu64, w64] at *)
          · simp only [AV.le, AV.leL, true_and, and_true, quoV, quoE, fitB, decide_eq_true_eq]
            refine ⟨?_, ?_⟩ <;> (split <;> (try split) <;> omega)
          · simp only [AV.leL, AV.le, Mem.le, Mem.leP, Blk.le, Blk.pad, Data.le, Data.size, Cap.le, and_true, true_and, and_self, true_implies, implies_true, imp_self, List.length_nil]
      · (try simp only [decide_eq_true_eq, decide_eq_false_iff_not, Bool.not_eq_true', Bool.not_eq_false', beq_iff_eq, beq_eq_false_iff_ne, Int.not_lt, Int.not_le, ge_iff_le, gt_iff_lt, ne_eq, Bool.false_eq_true, Bool.true_eq_false, not_true_eq_false, not_false_eq_true, Bool.and_eq_true, Bool.not_eq_eq_eq_not, Bool.not_true, Bool.not_false, bne_iff_ne, bne_eq_false_iff_eq, Int.toNat_natCast, Nat.mul_one, Nat.add_zero, Nat.zero_add, List.take_length, List.drop_zero] at h2)
        all_goals
          refine Tree.GivesP.br (fun h3 => ?_) (fun h3 => ?_)
          · (try simp only [decide_eq_true_eq, decide_eq_false_iff_not, Bool.not_eq_true', Bool.not_eq_false', beq_iff_eq, beq_eq_false_iff_ne, Int.not_lt, Int.not_le, ge_iff_le, gt_iff_lt, ne_eq, Bool.false_eq_true, Bool.true_eq_false, not_true_eq_false, not_false_eq_true, Bool.and_eq_true, Bool.not_eq_eq_eq_not, Bool.not_true, Bool.not_false, bne_iff_ne, bne_eq_false_iff_eq, Int.toNat_natCast, Nat.mul_one, Nat.add_zero, Nat.zero_add, List.take_length, List.drop_zero] at h3)
            all_goals
              refine Tree.GivesP.ret ?_ ?_
              have hc : 1 ≤ c := by omega
              have hcw : IntKind.u64.wrap c = c := by rw [wu64]; omega
              obtain ⟨g1, g2, g3, g4, g5, g6, g7, g8, g9, g10, g11⟩ := down_facts (N := numW h l) hc
              have hsg : numW h l < 0 ↔ h < 0 := by unfold numW; omega
              (try simp only [hcw] at *)
              obtain ⟨k1, k2, k3⟩ := g1 h2
              (try simp only [k1, k2] at *)
              generalize absZ (numW h l) / c = q at *
              generalize absZ (numW h l) % c = r at *
              generalize numW h l / c = X at *
              (try simp only [wu64, w64] at *)
              · simp only [AV.le, AV.leL, true_and, and_true, quoV, quoE, fitB, decide_eq_true_eq]
                refine ⟨?_, ?_⟩ <;> (split <;> (try split) <;> omega)
              · simp only [AV.leL, AV.le, Mem.le, Mem.leP, Blk.le, Blk.pad, Data.le, Data.size, Cap.le, and_true, true_and, and_self, true_implies, implies_true, imp_self, List.length_nil]
          · (try simp only [decide_eq_true_eq, decide_eq_false_iff_not, Bool.not_eq_true', Bool.not_eq_false', beq_iff_eq, beq_eq_false_iff_ne, Int.not_lt, Int.not_le, ge_iff_le, gt_iff_lt, ne_eq, Bool.false_eq_true, Bool.true_eq_false, not_true_eq_false, not_false_eq_true, Bool.and_eq_true, Bool.not_eq_eq_eq_not, Bool.not_true, Bool.not_false, bne_iff_ne, bne_eq_false_iff_eq, Int.toNat_natCast, Nat.mul_one, Nat.add_zero, Nat.zero_add, List.take_length, List.drop_zero] at h3)
            all_goals
              refine Tree.GivesP.br (fun h4 => ?_) (fun h4 => ?_)
              · (try simp only [decide_eq_true_eq, decide_eq_false_iff_not, Bool.not_eq_true', Bool.not_eq_false', beq_iff_eq, beq_eq_false_iff_ne, Int.not_lt, Int.not_le, ge_iff_le, gt_iff_lt, ne_eq, Bool.false_eq_true, Bool.true_eq_false, not_true_eq_false, not_false_eq_true, Bool.and_eq_true, Bool.not_eq_eq_eq_not, Bool.not_true, Bool.not_false, bne_iff_ne, bne_eq_false_iff_eq, Int.toNat_natCast, Nat.mul_one, Nat.add_zero, Nat.zero_add, List.take_length, List.drop_zero] at h4)
                all_goals
                  refine Tree.GivesP.br (fun h5 => ?_) (fun h5 => ?_)
                  · (try simp only [decide_eq_true_eq, decide_eq_false_iff_not, Bool.not_eq_true', Bool.not_eq_false', beq_iff_eq, beq_eq_false_iff_ne, Int.not_lt, Int.not_le, ge_iff_le, gt_iff_lt, ne_eq, Bool.false_eq_true, Bool.true_eq_false, not_true_eq_false, not_false_eq_true, Bool.and_eq_true, Bool.not_eq_eq_eq_not, Bool.not_true, Bool.not_false, bne_iff_ne, bne_eq_false_iff_eq, Int.toNat_natCast, Nat.mul_one, Nat.add_zero, Nat.zero_add, List.take_length, List.drop_zero] at h5)
                    all_goals
                      refine Tree.GivesP.br (fun h6 => ?_) (fun h6 => ?_)
                      · (try simp only [decide_eq_true_eq, decide_eq_false_iff_not, Bool.not_eq_true', Bool.not_eq_false', beq_iff_eq, beq_eq_false_iff_ne, Int.not_lt, Int.not_le, ge_iff_le, gt_iff_lt, ne_eq, Bool.false_eq_true, Bool.true_eq_false, not_true_eq_false, not_false_eq_true, Bool.and_eq_true, Bool.not_eq_eq_eq_not, Bool.not_true, Bool.not_false, bne_iff_ne, bne_eq_false_iff_eq, Int.toNat_natCast, Nat.mul_one, Nat.add_zero, Nat.zero_add, List.take_length, List.drop_zero] at h6)
                        all_goals
                          refine Tree.GivesP.br (fun h7 => ?_) (fun h7 => ?_)
                          · (try simp only [decide_eq_true_eq, decide_eq_false_iff_not, Bool.not_eq_true', Bool.not_eq_false', beq_iff_eq, beq_eq_false_iff_ne, Int.not_lt, Int.not_le, ge_iff_le, gt_iff_lt, ne_eq, Bool.false_eq_true, Bool.true_eq_false, not_true_eq_false, not_false_eq_true, Bool.and_eq_true, Bool.not_eq_eq_eq_not, Bool.not_true, Bool.not_false, bne_iff_ne, bne_eq_false_iff_eq, Int.toNat_natCast, Nat.mul_one, Nat.add_zero, Nat.zero_add, List.take_length, List.drop_zero] at h7)
                            all_goals
                              refine Tree.GivesP.ret ?_ ?_
                              have hc : 1 ≤ c := by omega
                              have hcw : IntKind.u64.wrap c = c := by rw [wu64]; omega
                              obtain ⟨g1, g2, g3, g4, g5, g6, g7, g8, g9, g10, g11⟩ := down_facts (N := numW h l) hc
                              have hsg : numW h l < 0 ↔ h < 0 := by unfold numW; omega
                              (try simp only [hcw] at *)
                              obtain ⟨k1, k2, k3⟩ := g1 h2
                              (try simp only [k1, k2] at *)
                              generalize absZ (numW h l) / c = q at *
                              generalize absZ (numW h l) % c = r at *
                              generalize numW h l / c = X at *
                              (try simp only [wu64, w64] at *)
                              · simp only [AV.le, AV.leL, true_and, and_true, quoV, quoE, fitB, decide_eq_true_eq]
                                refine ⟨?_, ?_⟩ <;> (split <;> (try split) <;> omega)
                              · simp only [AV.leL, AV.le, Mem.le, Mem.leP, Blk.le, Blk.pad, Data.le, Data.size, Cap.le, and_true, true_and, and_self, true_implies, implies_true, imp_self, List.length_nil]
                          · (try simp only [decide_eq_true_eq, decide_eq_false_iff_not, Bool.not_eq_true', Bool.not_eq_false', beq_iff_eq, beq_eq_false_iff_ne, Int.not_lt, Int.not_le, ge_iff_le, gt_iff_lt, ne_eq, Bool.false_eq_true, Bool.true_eq_false, not_true_eq_false, not_false_eq_true, Bool.and_eq_true, Bool.not_eq_eq_eq_not, Bool.not_true, Bool.not_false, bne_iff_ne, bne_eq_false_iff_eq, Int.toNat_natCast, Nat.mul_one, Nat.add_zero, Nat.zero_add, List.take_length, List.drop_zero] at h7)
                            all_goals
                              refine Tree.GivesP.ret ?_ ?_
                              have hc : 1 ≤ c := by omega
                              have hcw : IntKind.u64.wrap c = c := by rw [wu64]; omega
                              obtain ⟨g1, g2, g3, g4, g5, g6, g7, g8, g9, g10, g11⟩ := down_facts (N := numW h l) hc
                              have hsg : numW h l < 0 ↔ h < 0 := by unfold numW; omega
                              (try simp only [hcw] at *)
                              obtain ⟨k1, k2, k3⟩ := g1 h2
                              (try simp only [k1, k2] at *)
                              generalize absZ (numW h l) / c = q at *
                              generalize absZ (numW h l) % c = r at *
                              generalize numW h l / c = X at *
                              (try simp only [wu64, w64] at *)
                              · simp only [AV.le, AV.leL, true_and, and_true, quoV, quoE, fitB, decide_eq_true_eq]
                                refine ⟨?_, ?_⟩ <;> (split <;> (try split) <;> omega)
                              · simp only [AV.leL, AV.le, Mem.le, Mem.leP, Blk.le, Blk.pad, Data.le, Data.size, Cap.le, and_true, true_and, and_self, true_implies, implies_true, imp_self, List.length_nil]
                      · (try simp only [decide_eq_true_eq, decide_eq_false_iff_not, Bool.not_eq_true', Bool.not_eq_false', beq_iff_eq, beq_eq_false_iff_ne, Int.not_lt, Int.not_le, ge_iff_le, gt_iff_lt, ne_eq, Bool.false_eq_true, Bool.true_eq_false, not_true_eq_false, not_false_eq_true, Bool.and_eq_true, Bool.not_eq_eq_eq_not, Bool.not_true, Bool.not_false, bne_iff_ne, bne_eq_false_iff_eq, Int.toNat_natCast, Nat.mul_one, Nat.add_zero, Nat.zero_add, List.take_length, List.drop_zero] at h6)
                        all_goals
                          refine Tree.GivesP.br (fun h7 => ?_) (fun h7 => ?_)
                          · (try simp only [decide_eq_true_eq, decide_eq_false_iff_not, Bool.not_eq_true', Bool.not_eq_false', beq_iff_eq, beq_eq_false_iff_ne, Int.not_lt, Int.not_le, ge_iff_le, gt_iff_lt, ne_eq, Bool.false_eq_true, Bool.true_eq_false, not_true_eq_false, not_false_eq_true, Bool.and_eq_true, Bool.not_eq_eq_eq_not, Bool.not_true, Bool.not_false, bne_iff_ne, bne_eq_false_iff_eq, Int.toNat_natCast, Nat.mul_one, Nat.add_zero, Nat.zero_add, List.take_length, List.drop_zero] at h7)
                            all_goals
                              refine Tree.GivesP.ret ?_ ?_
                              have hc : 1 ≤ c := by omega
                              have hcw : IntKind.u64.wrap c = c := by rw [wu64]; omega
                              obtain ⟨g1, g2, g3, g4, g5, g6, g7, g8, g9, g10, g11⟩ := down_facts (N := numW h l) hc
                              have hsg : numW h l < 0 ↔ h < 0 := by unfold numW; omega
                              (try simp only [hcw] at *)
                              obtain ⟨k1, k2, k3⟩ := g1 h2
                              (try simp only [k1, k2] at *)
                              generalize absZ (numW h l) / c = q at *
                              generalize absZ (numW h l) % c = r at *
                              generalize numW h l / c = X at *
                              (try simp only [wu64, w64] at *)
                              · simp only [AV.le, AV.leL, true_and, and_true, quoV, quoE, fitB, decide_eq_true_eq]
                                refine ⟨?_, ?_⟩ <;> (split <;> (try split) <;> omega)
                              · simp only [AV.leL, AV.le, Mem.le, Mem.leP, Blk.le, Blk.pad, Data.le, Data.size, Cap.le, and_true, true_and, and_self, true_implies, implies_true, imp_self, List.length_nil]
                          · (try simp only [decide_eq_true_eq, decide_eq_false_iff_not, Bool.not_eq_true', Bool.not_eq_false', beq_iff_eq, beq_eq_false_iff_ne, Int.not_lt, Int.not_le, ge_iff_le, gt_iff_lt, ne_eq, Bool.false_eq_true, Bool.true_eq_false, not_true_eq_false, not_false_eq_true, Bool.and_eq_true, Bool.not_eq_eq_eq_not, Bool.not_true, Bool.not_false, bne_iff_ne, bne_eq_false_iff_eq, Int.toNat_natCast, Nat.mul_one, Nat.add_zero, Nat.zero_add, List.take_length, List.drop_zero] at h7)
                            all_goals
                              refine Tree.GivesP.ret ?_ ?_
                              have hc : 1 ≤ c := by omega
                              have hcw : IntKind.u64.wrap c = c := by rw [wu64]; omega
                              obtain ⟨g1, g2, g3, g4, g5, g6, g7, g8, g9, g10, g11⟩ := down_facts (N := numW h l) hc
                              have hsg : numW h l < 0 ↔ h < 0 := by unfold numW; omega
                              (try simp only [hcw] at *)
                              obtain ⟨k1, k2, k3⟩ := g1 h2
                              (try simp only [k1, k2] at *)
                              generalize absZ (numW h l) / c = q at *
                              generalize absZ (numW h l) % c = r at *
                              generalize numW h l / c = X at *
                              (try simp only [wu64, w64] at *)
                              · simp only [AV.le, AV.leL, true_and, and_true, quoV, quoE, fitB, decide_eq_true_eq]
                                refine ⟨?_, ?_⟩ <;> (split <;> (try split) <;> omega)
                              · simp only [AV.leL, AV.le, Mem.le, Mem.leP, Blk.le, Blk.pad, Data.le, Data.size, Cap.le, and_true, true_and, and_self, true_implies, implies_true, imp_self, List.length_nil]
                  · (try simp only [decide_eq_true_eq, decide_eq_false_iff_not, Bool.not_eq_true', Bool.not_eq_false', beq_iff_eq, beq_eq_false_iff_ne, Int.not_lt, Int.not_le, ge_iff_le, gt_iff_lt, ne_eq, Bool.false_eq_true, Bool.true_eq_false, not_true_eq_false, not_false_eq_true, Bool.and_eq_true, Bool.not_eq_eq_eq_not, Bool.not_true, Bool.not_false, bne_iff_ne, bne_eq_false_iff_eq, Int.toNat_natCast, Nat.mul_one, Nat.add_zero, Nat.zero_add, List.take_length, List.drop_zero] at h5)
                    all_goals
                      refine Tree.GivesP.br (fun h6 => ?_) (fun h6 => ?_)
                      · (try simp only [decide_eq_true_eq, decide_eq_false_iff_not, Bool.not_eq_true', Bool.not_eq_false', beq_iff_eq, beq_eq_false_iff_ne, Int.not_lt, Int.not_le, ge_iff_le, gt_iff_lt, ne_eq, Bool.false_eq_true, Bool.true_eq_false, not_true_eq_false, not_false_eq_true, Bool.and_eq_true, Bool.not_eq_eq_eq_not, Bool.not_true, Bool.not_false, bne_iff_ne, bne_eq_false_iff_eq, Int.toNat_natCast, Nat.mul_one, Nat.add_zero, Nat.zero_add, List.take_length, List.drop_zero] at h6)
                        all_goals
                          refine Tree.GivesP.br (fun h7 => ?_) (fun h7 => ?_)
                          · (try simp only [decide_eq_true_eq, decide_eq_false_iff_not, Bool.not_eq_true', Bool.not_eq_false', beq_iff_eq, beq_eq_false_iff_ne, Int.not_lt, Int.not_le, ge_iff_le, gt_iff_lt, ne_eq, Bool.false_eq_true, Bool.true_eq_false, not_true_eq_false, not_false_eq_true, Bool.and_eq_true, Bool.not_eq_eq_eq_not, Bool.not_true, Bool.not_false, bne_iff_ne, bne_eq_false_iff_eq, Int.toNat_natCast, Nat.mul_one, Nat.add_zero, Nat.zero_add, List.take_length, List.drop_zero] at h7)
                            all_goals
                              refine Tree.GivesP.ret ?_ ?_
                              have hc : 1 ≤ c := by omega
                              have hcw : IntKind.u64.wrap c = c := by rw [wu64]; omega
                              obtain ⟨g1, g2, g3, g4, g5, g6, g7, g8, g9, g10, g11⟩ := down_facts (N := numW h l) hc
                              have hsg : numW h l < 0 ↔ h < 0 := by unfold numW; omega
                              (try simp only [hcw] at *)
                              obtain ⟨k1, k2, k3⟩ := g1 h2
                              (try simp only [k1, k2] at *)
                              generalize absZ (numW h l) / c = q at *
                              generalize absZ (numW h l) % c = r at *
                              generalize numW h l / c = X at *
                              (try simp only [wu64, w64] at *)
                              · simp only [AV.le, AV.leL, true_and, and_true, quoV, quoE, fitB, decide_eq_true_eq]
                                refine ⟨?_, ?_⟩ <;> (split <;> (try split) <;> omega)
                              · simp only [AV.leL, AV.le, Mem.le, Mem.leP, Blk.le, Blk.pad, Data.le, Data.size, Cap.le, and_true, true_and, and_self, true_implies, implies_true, imp_self, List.length_nil]
                          · (try simp only [decide_eq_true_eq, decide_eq_false_iff_not, Bool.not_eq_true', Bool.not_eq_false', beq_iff_eq, beq_eq_false_iff_ne, Int.not_lt, Int.not_le, ge_iff_le, gt_iff_lt, ne_eq, Bool.false_eq_true, Bool.true_eq_false, not_true_eq_false, not_false_eq_true, Bool.and_eq_true, Bool.not_eq_eq_eq_not, Bool.not_true, Bool.not_false, bne_iff_ne, bne_eq_false_iff_eq, Int.toNat_natCast, Nat.mul_one, Nat.add_zero, Nat.zero_add, List.take_length, List.drop_zero] at h7)
                            all_goals
                              refine Tree.GivesP.ret ?_ ?_
                              have hc : 1 ≤ c := by omega
                              have hcw : IntKind.u64.wrap c = c := by rw [wu64]; omega
                              obtain ⟨g1, g2, g3, g4, g5, g6, g7, g8, g9, g10, g11⟩ := down_facts (N := numW h l) hc
                              have hsg : numW h l < 0 ↔ h < 0 := by unfold numW; omega
                              (try simp only [hcw] at *)
                              obtain ⟨k1, k2, k3⟩ := g1 h2
                              (try simp only [k1, k2] at *)
                              generalize absZ (numW h l) / c = q at *
                              generalize absZ (numW h l) % c = r at *
                              generalize numW h l / c = X at *
                              (try simp only [wu64, w64] at *)
                              · simp only [AV.le, AV.leL, true_and, and_true, quoV, quoE, fitB, decide_eq_true_eq]
                                refine ⟨?_, ?_⟩ <;> (split <;> (try split) <;> omega)
                              · simp only [AV.leL, AV.le, Mem.le, Mem.leP, Blk.le, Blk.pad, Data.le, Data.size, Cap.le, and_true, true_and, and_self, true_implies, implies_true, imp_self, List.length_nil]
                      · (try simp only [decide_eq_true_eq, decide_eq_false_iff_not, Bool.not_eq_true', Bool.not_eq_false', beq_iff_eq, beq_eq_false_iff_ne, Int.not_lt, Int.not_le, ge_iff_le, gt_iff_lt, ne_eq, Bool.false_eq_true, Bool.true_eq_false, not_true_eq_false, not_false_eq_true, Bool.and_eq_true, Bool.not_eq_eq_eq_not, Bool.not_true, Bool.not_false, bne_iff_ne, bne_eq_false_iff_eq, Int.toNat_natCast, Nat.mul_one, Nat.add_zero, Nat.zero_add, List.take_length, List.drop_zero] at h6)
                        all_goals
                          refine Tree.GivesP.br (fun h7 => ?_) (fun h7 => ?_)
                          · (try simp only [decide_eq_true_eq, decide_eq_false_iff_not, Bool.not_eq_true', Bool.not_eq_false', beq_iff_eq, beq_eq_false_iff_ne, Int.not_lt, Int.not_le, ge_iff_le, gt_iff_lt, ne_eq, Bool.false_eq_true, Bool.true_eq_false, not_true_eq_false, not_false_eq_true, Bool.and_eq_true, Bool.not_eq_eq_eq_not, Bool.not_true, Bool.not_false, bne_iff_ne, bne_eq_false_iff_eq, Int.toNat_natCast, Nat.mul_one, Nat.add_zero, Nat.zero_add, List.take_length, List.drop_zero] at h7)
                            all_goals
                              refine Tree.GivesP.ret ?_ ?_
                              have hc : 1 ≤ c := by omega
                              have hcw : IntKind.u64.wrap c = c := by rw [wu64]; omega
                              obtain ⟨g1, g2, g3, g4, g5, g6, g7, g8, g9, g10, g11⟩ := down_facts (N := numW h l) hc
                              have hsg : numW h l < 0 ↔ h < 0 := by unfold numW; omega
                              (try simp only [hcw] at *)
                              obtain ⟨k1, k2, k3⟩ := g1 h2
                              (try simp only [k1, k2] at *)
                              generalize absZ (numW h l) / c = q at *
                              generalize absZ (numW h l) % c = r at *
                              generalize numW h l / c = X at *
                              (try simp only [wu64, w64] at *)
                              · simp only [AV.le, AV.leL, true_and, and_true, quoV, quoE, fitB, decide_eq_true_eq]
                                refine ⟨?_, ?_⟩ <;> (split <;> (try split) <;> omega)
                              · simp only [AV.leL, AV.le, Mem.le, Mem.leP, Blk.le, Blk.pad, Data.le, Data.size, Cap.le, and_true, true_and, and_self, true_implies, implies_true, imp_self, List.length_nil]
                          · (try simp only [decide_eq_true_eq, decide_eq_false_iff_not, Bool.not_eq_true', Bool.not_eq_false', beq_iff_eq, beq_eq_false_iff_ne, Int.not_lt, Int.not_le, ge_iff_le, gt_iff_lt, ne_eq, Bool.false_eq_true, Bool.true_eq_false, not_true_eq_false, not_false_eq_true, Bool.and_eq_true, Bool.not_eq_eq_eq_not, Bool.not_true, Bool.not_false, bne_iff_ne, bne_eq_false_iff_eq, Int.toNat_natCast, Nat.mul_one, Nat.add_zero, Nat.zero_add, List.take_length, List.drop_zero] at h7)
                            all_goals
                              refine Tree.GivesP.ret ?_ ?_
                              have hc : 1 ≤ c := by omega
                              have hcw : IntKind.u64.wrap c = c := by rw [wu64]; omega
                              obtain ⟨g1, g2, g3, g4, g5, g6, g7, g8, g9, g10, g11⟩ := down_facts (N := numW h l) hc
                              have hsg : numW h l < 0 ↔ h < 0 := by unfold numW; omega
                              (try simp only [hcw] at *)
                              obtain ⟨k1, k2, k3⟩ := g1 h2
                              (try simp only [k1, k2] at *)
                              generalize absZ (numW h l) / c = q at *
                              generalize absZ (numW h l) % c = r at *
                              generalize numW h l / c = X at *
                              (try simp only [wu64, w64] at *)
                              · simp only [AV.le, AV.leL, true_and, and_true, quoV, quoE, fitB, decide_eq_true_eq]
                                refine ⟨?_, ?_⟩ <;> (split <;> (try split) <;> omega)
                              · simp only [AV.leL, AV.le, Mem.le, Mem.leP, Blk.le, Blk.pad, Data.le, Data.size, Cap.le, and_true, true_and, and_self, true_implies, implies_true, imp_self, List.length_nil]
              · (try simp only [decide_eq_true_eq, decide_eq_false_iff_not, Bool.not_eq_true', Bool.not_eq_false', beq_iff_eq, beq_eq_false_iff_ne, Int.not_lt, Int.not_le, ge_iff_le, gt_iff_lt, ne_eq, Bool.false_eq_true, Bool.true_eq_false, not_true_eq_false, not_false_eq_true, Bool.and_eq_true, Bool.not_eq_eq_eq_not, Bool.not_true, Bool.not_false, bne_iff_ne, bne_eq_false_iff_eq, Int.toNat_natCast, Nat.mul_one, Nat.add_zero, Nat.zero_add, List.take_length, List.drop_zero] at h4)
                all_goals
                  refine Tree.GivesP.br (fun h5 => ?_) (fun h5 => ?_)
                  · (try simp only [decide_eq_true_eq, decide_eq_false_iff_not, Bool.not_eq_true', Bool.not_eq_false', beq_iff_eq, beq_eq_false_iff_ne, Int.not_lt, Int.not_le, ge_iff_le, gt_iff_lt, ne_eq, Bool.false_eq_true, Bool.true_eq_false, not_true_eq_false, not_false_eq_true, Bool.and_eq_true, Bool.not_eq_eq_eq_not, Bool.not_true, Bool.not_false, bne_iff_ne, bne_eq_false_iff_eq, Int.toNat_natCast, Nat.mul_one, Nat.add_zero, Nat.zero_add, List.take_length, List.drop_zero] at h5)
                    all_goals
                      refine Tree.GivesP.br (fun h6 => ?_) (fun h6 => ?_)
                      · (try simp only [decide_eq_true_eq, decide_eq_false_iff_not, Bool.not_eq_true', Bool.not_eq_false', beq_iff_eq, beq_eq_false_iff_ne, Int.not_lt, Int.not_le, ge_iff_le, gt_iff_lt, ne_eq, Bool.false_eq_true, Bool.true_eq_false, not_true_eq_false, not_false_eq_true, Bool.and_eq_true, Bool.not_eq_eq_eq_not, Bool.not_true, Bool.not_false, bne_iff_ne, bne_eq_false_iff_eq, Int.toNat_natCast, Nat.mul_one, Nat.add_zero, Nat.zero_add, List.take_length, List.drop_zero] at h6)
                        all_goals
                          refine Tree.GivesP.ret ?_ ?_
                          have hc : 1 ≤ c := by omega
                          have hcw : IntKind.u64.wrap c = c := by rw [wu64]; omega
                          obtain ⟨g1, g2, g3, g4, g5, g6, g7, g8, g9, g10, g11⟩ := down_facts (N := numW h l) hc
                          have hsg : numW h l < 0 ↔ h < 0 := by unfold numW; omega
                          (try simp only [hcw] at *)
                          obtain ⟨k1, k2, k3⟩ := g1 h2
                          (try simp only [k1, k2] at *)
                          generalize absZ (numW h l) / c = q at *
                          generalize absZ (numW h l) % c = r at *
                          generalize numW h l / c = X at *
                          (try simp only [wu64, w64] at *)
                          · simp only [AV.le, AV.leL, true_and, and_true, quoV, quoE, fitB, decide_eq_true_eq]
                            refine ⟨?_, ?_⟩ <;> (split <;> (try split) <;> omega)
                          · simp only [AV.leL, AV.le, Mem.le, Mem.leP, Blk.le, Blk.pad, Data.le, Data.size, Cap.le, and_true, true_and, and_self, true_implies, implies_true, imp_self, List.length_nil]
                      · (try simp only [decide_eq_true_eq, decide_eq_false_iff_not, Bool.not_eq_true', Bool.not_eq_false', beq_iff_eq, beq_eq_false_iff_ne, Int.not_lt, Int.not_le, ge_iff_le, gt_iff_lt, ne_eq, Bool.false_eq_true, Bool.true_eq_false, not_true_eq_false, not_false_eq_true, Bool.and_eq_true, Bool.not_eq_eq_eq_not, Bool.not_true, Bool.not_false, bne_iff_ne, bne_eq_false_iff_eq, Int.toNat_natCast, Nat.mul_one, Nat.add_zero, Nat.zero_add, List.take_length, List.drop_zero] at h6)
                        all_goals
                          refine Tree.GivesP.ret ?_ ?_
                          have hc : 1 ≤ c := by omega
                          have hcw : IntKind.u64.wrap c = c := by rw [wu64]; omega
                          obtain ⟨g1, g2, g3, g4, g5, g6, g7, g8, g9, g10, g11⟩ := down_facts (N := numW h l) hc
                          have hsg : numW h l < 0 ↔ h < 0 := by unfold numW; omega
                          (try simp only [hcw] at *)
                          obtain ⟨k1, k2, k3⟩ := g1 h2
                          (try simp only [k1, k2] at *)
                          generalize absZ (numW h l) / c = q at *
                          generalize absZ (numW h l) % c = r at *
                          generalize numW h l / c = X at *
                          (try simp only [wu64, w64] at *)
                          · simp only [AV.le, AV.leL, true_and, and_true, quoV, quoE, fitB, decide_eq_true_eq]
                            refine ⟨?_, ?_⟩ <;> (split <;> (try split) <;> omega)
                          · simp only [AV.leL, AV.le, Mem.le, Mem.leP, Blk.le, Blk.pad, Data.le, Data.size, Cap.le, and_true, true_and, and_self, true_implies, implies_true, imp_self, List.length_nil]
                  · (try simp only [decide_eq_true_eq, decide_eq_false_iff_not, Bool.not_eq_true', Bool.not_eq_false', beq_iff_eq, beq_eq_false_iff_ne, Int.not_lt, Int.not_le, ge_iff_le, gt_iff_lt, ne_eq, Bool.false_eq_true, Bool.true_eq_false, not_true_eq_false, not_false_eq_true, Bool.and_eq_true, Bool.not_eq_eq_eq_not, Bool.not_true, Bool.not_false, bne_iff_ne, bne_eq_false_iff_eq, Int.toNat_natCast, Nat.mul_one, Nat.add_zero, Nat.zero_add, List.take_length, List.drop_zero] at h5)
                    all_goals
                      refine Tree.GivesP.br (fun h6 => ?_) (fun h6 => ?_)
                      · (try simp only [decide_eq_true_eq, decide_eq_false_iff_not, Bool.not_eq_true', Bool.not_eq_false', beq_iff_eq, beq_eq_false_iff_ne, Int.not_lt, Int.not_le, ge_iff_le, gt_iff_lt, ne_eq, Bool.false_eq_true, Bool.true_eq_false, not_true_eq_false, not_false_eq_true, Bool.and_eq_true, Bool.not_eq_eq_eq_not, Bool.not_true, Bool.not_false, bne_iff_ne, bne_eq_false_iff_eq, Int.toNat_natCast, Nat.mul_one, Nat.add_zero, Nat.zero_add, List.take_length, List.drop_zero] at h6)
                        all_goals
                          refine Tree.GivesP.ret ?_ ?_
                          have hc : 1 ≤ c := by omega
                          have hcw : IntKind.u64.wrap c = c := by rw [wu64]; omega
                          obtain ⟨g1, g2, g3, g4, g5, g6, g7, g8, g9, g10, g11⟩ := down_facts (N := numW h l) hc
                          have hsg : numW h l < 0 ↔ h < 0 := by unfold numW; omega
                          (try simp only [hcw] at *)
                          obtain ⟨k1, k2, k3⟩ := g1 h2
                          (try simp only [k1, k2] at *)
                          generalize absZ (numW h l) / c = q at *
                          generalize absZ (numW h l) % c = r at *
                          generalize numW h l / c = X at *
                          (try simp only [wu64, w64] at *)
                          · simp only [AV.le, AV.leL, true_and, and_true, quoV, quoE, fitB, decide_eq_true_eq]
                            refine ⟨?_, ?_⟩ <;> (split <;> (try split) <;> omega)
                          · simp only [AV.leL, AV.le, Mem.le, Mem.leP, Blk.le, Blk.pad, Data.le, Data.size, Cap.le, and_true, true_and, and_self, true_implies, implies_true, imp_self, List.length_nil]
                      · (try simp only [decide_eq_true_eq, decide_eq_false_iff_not, Bool.not_eq_true', Bool.not_eq_false', beq_iff_eq, beq_eq_false_iff_ne, Int.not_lt, Int.not_le, ge_iff_le, gt_iff_lt, ne_eq, Bool.false_eq_true, Bool.true_eq_false, not_true_eq_false, not_false_eq_true, Bool.and_eq_true, Bool.not_eq_eq_eq_not, Bool.not_true, Bool.not_false, bne_iff_ne, bne_eq_false_iff_eq, Int.toNat_natCast, Nat.mul_one, Nat.add_zero, Nat.zero_add, List.take_length, List.drop_zero] at h6)
                        all_goals
                          refine Tree.GivesP.ret ?_ ?_
                          have hc : 1 ≤ c := by omega
                          have hcw : IntKind.u64.wrap c = c := by rw [wu64]; omega
                          obtain ⟨g1, g2, g3, g4, g5, g6, g7, g8, g9, g10, g11⟩ := down_facts (N := numW h l) hc
                          have hsg : numW h l < 0 ↔ h < 0 := by unfold numW; omega
                          (try simp only [hcw] at *)
                          obtain ⟨k1, k2, k3⟩ := g1 h2
                          (try simp only [k1, k2] at *)
                          generalize absZ (numW h l) / c = q at *
                          generalize absZ (numW h l) % c = r at *
                          generalize numW h l / c = X at *
                          (try simp only [wu64, w64] at *)
                          · simp only [AV.le, AV.leL, true_and, and_true, quoV, quoE, fitB, decide_eq_true_eq]
                            refine ⟨?_, ?_⟩ <;> (split <;> (try split) <;> omega)
                          · simp only [AV.leL, AV.le, Mem.le, Mem.leP, Blk.le, Blk.pad, Data.le, Data.size, Cap.le, and_true, true_and, and_self, true_implies, implies_true, imp_self, List.length_nil]
theorem sdown (hall : AllOk Try.prog 0 (fun _ => none) tab8) (h : Int) (l : Int) (c : Int) (hw : -9223372036854775808 ≤ h ∧ h ≤ 9223372036854775807 ∧ -9223372036854775808 ≤ c ∧ c ≤ 9223372036854775807 ∧ 0 ≤ l ∧ l ≤ 18446744073709551615) : SoundAt (mkC Try.prog 0 (fun _ => none) []) 11 [.agg [.int .i64 false h, .int .u64 false l], .int .i64 false c] [] (.tup [.int .i64 false (quoV c (numW h l / c)), .int .i64 false (quoE c (numW h l / c))], []) := sound_ofP hall mix (tdown h l c) (gdown h l c hw)
theorem Fdown_ok (hall : AllOk Try.prog 0 (fun _ => none) tab8) : PureF Try.prog 3 11 Fdown := by
  intro xs c v news h hc
  unfold Fdown at h
  split at h
  · rename_i _ h _ l _ c
    cases h
    refine ⟨(by intro b hb; cases hb), SoundAt.flags (sdown hall h l c hc) ?_⟩
    simp [PA.avs, AV.le, AV.leL, Cap.le]
  · cases h
end Go.Proofs.Ytldknchhgnfncaa.Rig

/- Qnear -/
namespace Go.Proofs.Ytldknchhgnfncaa.Rig
open Go
set_option maxRecDepth 100000 in
theorem tnear (h : Int) (l : Int) (c : Int) : evBody (mkC Try.prog 0 (fun _ => none) tab9) (evCall (mkC Try.prog 0 (fun _ => none) tab9) 50) 13 [.agg [.int .i64 false h, .int .u64 false l], .int .i64 false c] [] =
  Tree.br (decide (c < (1 : Int))) (Tree.ret (AV.tup [AV.int IntKind.i64 true (0 : Int), AV.int IntKind.i64 true (2 : Int)], []))
    (Tree.chk
      ((True ∧ True ∧ True) ∧
        (-9223372036854775808 : Int) ≤ h ∧
          h ≤ (9223372036854775807 : Int) ∧ (0 : Int) ≤ l ∧ l ≤ (18446744073709551615 : Int) ∧ (0 : Int) ≤ IntKind.wrap IntKind.u64 c ∧ IntKind.wrap IntKind.u64 c ≤ (18446744073709551615 : Int))
      (Tree.br (!byOk (IntKind.wrap IntKind.u64 c) (numW h l)) (Tree.ret (AV.tup [AV.int IntKind.i64 true (0 : Int), AV.int IntKind.i64 true (3 : Int)], []))
        (Tree.br (decide (byQ (IntKind.wrap IntKind.u64 c) (numW h l) > (9223372036854775808 : Int))) (Tree.ret (AV.tup [AV.int IntKind.i64 true (0 : Int), AV.int IntKind.i64 true (3 : Int)], []))
          (Tree.br (decide (byR (IntKind.wrap IntKind.u64 c) (numW h l) ≥ IntKind.wrap IntKind.u64 (IntKind.wrap IntKind.u64 c - byR (IntKind.wrap IntKind.u64 c) (numW h l))))
            (Tree.br (decide (h < (0 : Int)))
              (Tree.br (!decide (IntKind.wrap IntKind.u64 (byQ (IntKind.wrap IntKind.u64 c) (numW h l) + (1 : Int)) ≤ (9223372036854775808 : Int)))
                (Tree.ret (AV.tup [AV.int IntKind.i64 true (0 : Int), AV.int IntKind.i64 true (3 : Int)], []))
                (Tree.ret
                  (AV.tup
                      [AV.int IntKind.i64 false (IntKind.wrap IntKind.i64 (IntKind.wrap IntKind.u64 ((0 : Int) - IntKind.wrap IntKind.u64 (byQ (IntKind.wrap IntKind.u64 c) (numW h l) + (1 : Int))))),
                        AV.int IntKind.i64 true (0 : Int)],
                    [])))
              (Tree.br (!decide (IntKind.wrap IntKind.u64 (byQ (IntKind.wrap IntKind.u64 c) (numW h l) + (1 : Int)) < (9223372036854775808 : Int)))
                (Tree.ret (AV.tup [AV.int IntKind.i64 true (0 : Int), AV.int IntKind.i64 true (3 : Int)], []))
                (Tree.ret (AV.tup [AV.int IntKind.i64 false (IntKind.wrap IntKind.i64 (IntKind.wrap IntKind.u64 (byQ (IntKind.wrap IntKind.u64 c) (numW h l) + (1 : Int)))), AV.int IntKind.i64 true (0 : Int)], []))))
            (Tree.br (decide (h < (0 : Int)))
              (Tree.br (!decide (byQ (IntKind.wrap IntKind.u64 c) (numW h l) ≤ (9223372036854775808 : Int))) (Tree.ret (AV.tup [AV.int IntKind.i64 true (0 : Int), AV.int IntKind.i64 true (3 : Int)], []))
                (Tree.ret (AV.tup [AV.int IntKind.i64 false (IntKind.wrap IntKind.i64 (IntKind.wrap IntKind.u64 ((0 : Int) - byQ (IntKind.wrap IntKind.u64 c) (numW h l)))), AV.int IntKind.i64 true (0 : Int)], [])))
              (Tree.br (!decide (byQ (IntKind.wrap IntKind.u64 c) (numW h l) < (9223372036854775808 : Int))) (Tree.ret (AV.tup [AV.int IntKind.i64 true (0 : Int), AV.int IntKind.i64 true (3 : Int)], []))
                (Tree.ret (AV.tup [AV.int IntKind.i64 false (IntKind.wrap IntKind.i64 (byQ (IntKind.wrap IntKind.u64 c) (numW h l))), AV.int IntKind.i64 true (0 : Int)], [])))))))) := by kernel_rfl
set_option maxRecDepth 100000 in
theorem gnear (h : Int) (l : Int) (c : Int) (hw : -9223372036854775808 ≤ h ∧ h ≤ 9223372036854775807 ∧ -9223372036854775808 ≤ c ∧ c ≤ 9223372036854775807 ∧ 0 ≤ l ∧ l ≤ 18446744073709551615) : (Tree.br (decide (c < (1 : Int))) (Tree.ret (AV.tup [AV.int IntKind.i64 true (0 : Int), AV.int IntKind.i64 true (2 : Int)], []))
    (Tree.chk
      ((True ∧ True ∧ True) ∧
        (-9223372036854775808 : Int) ≤ h ∧
          h ≤ (9223372036854775807 : Int) ∧ (0 : Int) ≤ l ∧ l ≤ (18446744073709551615 : Int) ∧ (0 : Int) ≤ IntKind.wrap IntKind.u64 c ∧ IntKind.wrap IntKind.u64 c ≤ (18446744073709551615 : Int))
      (Tree.br (!byOk (IntKind.wrap IntKind.u64 c) (numW h l)) (Tree.ret (AV.tup [AV.int IntKind.i64 true (0 : Int), AV.int IntKind.i64 true (3 : Int)], []))
        (Tree.br (decide (byQ (IntKind.wrap IntKind.u64 c) (numW h l) > (9223372036854775808 : Int))) (Tree.ret (AV.tup [AV.int IntKind.i64 true (0 : Int), AV.int IntKind.i64 true (3 : Int)], []))
          (Tree.br (decide (byR (IntKind.wrap IntKind.u64 c) (numW h l) ≥ IntKind.wrap IntKind.u64 (IntKind.wrap IntKind.u64 c - byR (IntKind.wrap IntKind.u64 c) (numW h l))))
            (Tree.br (decide (h < (0 : Int)))
              (Tree.br (!decide (IntKind.wrap IntKind.u64 (byQ (IntKind.wrap IntKind.u64 c) (numW h l) + (1 : Int)) ≤ (9223372036854775808 : Int)))
                (Tree.ret (AV.tup [AV.int IntKind.i64 true (0 : Int), AV.int IntKind.i64 true (3 : Int)], []))
                (Tree.ret
                  (AV.tup
                      [AV.int IntKind.i64 false (IntKind.wrap IntKind.i64 (IntKind.wrap IntKind.u64 ((0 : Int) - IntKind.wrap IntKind.u64 (byQ (IntKind.wrap IntKind.u64 c) (numW h l) + (1 : Int))))),
                        AV.int IntKind.i64 true (0 : Int)],
                    [])))
              (Tree.br (!decide (IntKind.wrap IntKind.u64 (byQ (IntKind.wrap IntKind.u64 c) (numW h l) + (1 : Int)) < (9223372036854775808 : Int)))
                (Tree.ret (AV.tup [AV.int IntKind.i64 true (0 : Int), AV.int IntKind.i64 true (3 : Int)], []))
                (Tree.ret (AV.tup [AV.int IntKind.i64 false (IntKind.wrap IntKind.i64 (IntKind.wrap IntKind.u64 (byQ (IntKind.wrap IntKind.u64 c) (numW h l) + (1 : Int)))), AV.int IntKind.i64 true (0 : Int)], []))))
            (Tree.br (decide (h < (0 : Int)))
              (Tree.br (!decide (byQ (IntKind.wrap IntKind.u64 c) (numW h l) ≤ (9223372036854775808 : Int))) (Tree.ret (AV.tup [AV.int IntKind.i64 true (0 : Int), AV.int IntKind.i64 true (3 : Int)], []))
                (Tree.ret (AV.tup [AV.int IntKind.i64 false (IntKind.wrap IntKind.i64 (IntKind.wrap IntKind.u64 ((0 : Int) - byQ (IntKind.wrap IntKind.u64 c) (numW h l)))), AV.int IntKind.i64 true (0 : Int)], [])))
              (Tree.br (!decide (byQ (IntKind.wrap IntKind.u64 c) (numW h l) < (9223372036854775808 : Int))) (Tree.ret (AV.tup [AV.int IntKind.i64 true (0 : Int), AV.int IntKind.i64 true (3 : Int)], []))
                (Tree.ret (AV.tup [AV.int IntKind.i64 false (IntKind.wrap IntKind.i64 (byQ (IntKind.wrap IntKind.u64 c) (numW h l))), AV.int IntKind.i64 true (0 : Int)], [])))))))) : Tree (AV × Mem)).GivesP (.tup [.int .i64 false (quoV c (nearZ (numW h l) c)), .int .i64 false (quoE c (nearZ (numW h l) c))]) ([]) := by
  obtain ⟨h0, h1_, c0, c1, l0, l1⟩ := hw
  refine Tree.GivesP.br (fun h1 => ?_) (fun h1 => ?_)
  · (try simp only [decide_eq_true_eq, decide_eq_false_iff_not, Bool.not_eq_true', Bool.not_eq_false', beq_iff_eq, beq_eq_false_iff_ne, Int.not_lt, Int.not_le, ge_iff_le, gt_iff_lt, ne_eq, Bool.false_eq_true, Bool.true_eq_false, not_true_eq_false, not_false_eq_true, Bool.and_eq_true, Bool.not_eq_eq_eq_not, Bool.not_true, Bool.not_false, bne_iff_ne, bne_eq_false_iff_eq, Int.toNat_natCast, Nat.mul_one, Nat.add_zero, Nat.zero_add, List.take_length, List.drop_zero] at h1)
    all_goals
      refine Tree.GivesP.ret ?_ ?_
      · simp only [AV.le, AV.leL, true_and, and_true, quoV, quoE]; rw [if_pos h1, if_pos h1]; exact ⟨rfl, rfl⟩
      · simp only [AV.leL, AV.le, Mem.le, Mem.leP, Blk.le, Blk.pad, Data.le, Data.size, Cap.le, and_true, true_and, and_self, true_implies, implies_true, imp_self, List.length_nil]
  · (try simp only [decide_eq_true_eq, decide_eq_false_iff_not, Bool.not_eq_true', Bool.not_eq_false', beq_iff_eq, beq_eq_false_iff_ne, Int.not_lt, Int.not_le, ge_iff_le, gt_iff_lt, ne_eq, Bool.false_eq_true, Bool.true_eq_false, not_true_eq_false, not_false_eq_true, Bool.and_eq_true, Bool.not_eq_eq_eq_not, Bool.not_true, Bool.not_false, bne_iff_ne, bne_eq_false_iff_eq, Int.toNat_natCast, Nat.mul_one, Nat.add_zero, Nat.zero_add, List.take_length, List.drop_zero] at h1)
    all_goals
      refine Tree.GivesP.chk (by first | (simp only [and_self]; done) | ((have hcw : 1 ≤ c := by omega); (repeat' with_reducible refine And.intro ?_ ?_) <;> first | trivial | omega | (simp only [w64, wu64]; omega))) ?_
      refine Tree.GivesP.br (fun h2 => ?_) (fun h2 => ?_)
      · (try simp only [decide_eq_true_eq, decide_eq_false_iff_not, Bool.not_eq_true', Bool.not_eq_false', beq_iff_eq, beq_eq_false_iff_ne, Int.not_lt, Int.not_le, ge_iff_le, gt_iff_lt, ne_eq, Bool.false_eq_true, Bool.true_eq_false, not_true_eq_false, not_false_eq_true, Bool.and_eq_true, Bool.not_eq_eq_eq_not, Bool.not_true, Bool.not_false, bne_iff_ne, bne_eq_false_iff_eq, Int.toNat_natCast, Nat.mul_one, Nat.add_zero, Nat.zero_add, List.take_length, List.drop_zero] at h2)
        all_goals
          refine Tree.GivesP.ret ?_ ?_
          have hc : 1 ≤ c := by omega
          have hcw : IntKind.u64.wrap c = c := by rw [wu64]; omega
          obtain ⟨g1, g2, g3, g4, g5, g6, g7, g8, g9, g10, g11⟩ := down_facts (N := numW h l) hc
          have hsg : numW h l < 0 ↔ h < 0 := by unfold numW; omega
          (try simp only [hcw] at *)
          have k3 := g2 h2
          generalize absZ (numW h l) / c = q at *
          generalize absZ (numW h l) % c = r at *
          generalize nearZ (numW h l) c = X at *
          (try simp only [wu64, w64] at *)
          · simp only [AV.le, AV.leL, true_and, and_true, quoV, quoE, fitB, decide_eq_true_eq]
            refine ⟨?_, ?_⟩ <;> (split <;> (try split) <;> omega)
          · simp only [AV.leL, AV.le, Mem.le, Mem.leP, Blk.le, Blk.pad, Data.le, Data.size, Cap.le, and_true, true_and, and_self, true_implies, implies_true, imp_self, List.length_nil]
      · (try simp only [decide_eq_true_eq, decide_eq_false_iff_not, Bool.not_eq_true', Bool.not_eq_false', beq_iff_eq, beq_eq_false_iff_ne, Int.not_lt, Int.not_le, ge_iff_le, gt_iff_lt, ne_eq, Bool.false_eq_true, Bool.true_eq_false, not_true_eq_false, not_false_eq_true, Bool.and_eq_true, Bool.not_eq_eq_eq_not, Bool.not_true, Bool.not_false, bne_iff_ne, bne_eq_false_iff_eq, Int.toNat_natCast, Nat.mul_one, Nat.add_zero, Nat.zero_add, List.take_length, List.drop_zero] at h2)
        all_goals
          refine Tree.GivesP.br (fun h3 => ?_) (fun h3 => ?_)
          · (try simp only [decide_eq_true_eq, decide_eq_false_iff_not, Bool.not_eq_true', Bool.not_eq_false', beq_iff_eq, beq_eq_false_iff_ne, Int.not_lt, Int.not_le, ge_iff_le, gt_iff_lt, ne_eq, Bool.false_eq_true, Bool.true_eq_false, not_true_eq_false, not_false_eq_true, Bool.and_eq_true, Bool.not_eq_eq_eq_not, Bool.not_true, Bool.not_false, bne_iff_ne, bne_eq_false_iff_eq, Int.toNat_natCast, Nat.mul_one, Nat.add_zero, Nat.zero_add, List.take_length, List.drop_zero] at h3)
            all_goals
              refine Tree.GivesP.ret ?_ ?_
              have hc : 1 ≤ c := by omega
              have hcw : IntKind.u64.wrap c = c := by rw [wu64]; omega
              obtain ⟨g1, g2, g3, g4, g5, g6, g7, g8, g9, g10, g11⟩ := down_facts (N := numW h l) hc
              have hsg : numW h l < 0 ↔ h < 0 := by unfold numW; omega
              (try simp only [hcw] at *)
              obtain ⟨k1, k2, k3⟩ := g1 h2
              (try simp only [k1, k2] at *)
              generalize absZ (numW h l) / c = q at *
              generalize absZ (numW h l) % c = r at *
              generalize nearZ (numW h l) c = X at *
              (try simp only [wu64, w64] at *)
              · simp only [AV.le, AV.leL, true_and, and_true, quoV, quoE, fitB, decide_eq_true_eq]
                refine ⟨?_, ?_⟩ <;> (split <;> (try split) <;> omega)
              · simp only [AV.leL, AV.le, Mem.le, Mem.leP, Blk.le, Blk.pad, Data.le, Data.size, Cap.le, and_true, true_and, and_self, true_implies, implies_true, imp_self, List.length_nil]
          · (try simp only [decide_eq_true_eq, decide_eq_false_iff_not, Bool.not_eq_true', Bool.not_eq_false', beq_iff_eq, beq_eq_false_iff_ne, Int.not_lt, Int.not_le, ge_iff_le, gt_iff_lt, ne_eq, Bool.false_eq_true, Bool.true_eq_false, not_true_eq_false, not_false_eq_true, Bool.and_eq_true, Bool.not_eq_eq_eq_not, Bool.not_true, Bool.not_false, bne_iff_ne, bne_eq_false_iff_eq, Int.toNat_natCast, Nat.mul_one, Nat.add_zero, Nat.zero_add, List.take_length, List.drop_zero] at h3)
            all_goals
              refine Tree.GivesP.br (fun h4 => ?_) (fun h4 => ?_)
              · (try simp only [decide_eq_true_eq, decide_eq_false_iff_not, Bool.not_eq_true', Bool.not_eq_false', beq_iff_eq, beq_eq_false_iff_ne, Int.not_lt, Int.not_le, ge_iff_le, gt_iff_lt, ne_eq, Bool.false_eq_true, Bool.true_eq_false, not_true_eq_false, not_false_eq_true, Bool.and_eq_true, Bool.not_eq_eq_eq_not, Bool.not_true, Bool.not_false, bne_iff_ne, bne_eq_false_iff_eq, Int.toNat_natCast, Nat.mul_one, Nat.add_zero, Nat.zero_add, List.take_length, List.drop_zero] at h4)
                all_goals
                  refine Tree.GivesP.br (fun h5 => ?_) (fun h5 => ?_)
                  · (try simp only [decide_eq_true_eq, decide_eq_false_iff_not, Bool.not_eq_true', Bool.not_eq_false', beq_iff_eq, beq_eq_false_iff_ne, Int.not_lt, Int.not_le, ge_iff_le, gt_iff_lt, ne_eq, Bool.false_eq_true, Bool.true_eq_false, not_true_eq_false, not_false_eq_true, Bool.and_eq_true, Bool.not_eq_eq_eq_not, Bool.not_true, Bool.not_false, bne_iff_ne, bne_eq_false_iff_eq, Int.toNat_natCast, Nat.mul_one, Nat.add_zero, Nat.zero_add, List.take_length, List.drop_zero] at h5)
                    all_goals
                      refine Tree.GivesP.br (fun h6 => ?_) (fun h6 => ?_)
                      · (try simp only [decide_eq_true_eq, decide_eq_false_iff_not, Bool.not_eq_true', Bool.not_eq_false', beq_iff_eq, beq_eq_false_iff_ne, Int.not_lt, Int.not_le, ge_iff_le, gt_iff_lt, ne_eq, Bool.false_eq_true, Bool.true_eq_false, not_true_eq_false, not_false_eq_true, Bool.and_eq_true, Bool.not_eq_eq_eq_not, Bool.not_true, Bool.not_false, bne_iff_ne, bne_eq_false_iff_eq, Int.toNat_natCast, Nat.mul_one, Nat.add_zero, Nat.zero_add, List.take_length, List.drop_zero] at h6)
                        all_goals
                          refine Tree.GivesP.ret ?_ ?_
                          have hc : 1 ≤ c := by omega
                          have hcw : IntKind.u64.wrap c = c := by rw [wu64]; omega
                          obtain ⟨g1, g2, g3, g4, g5, g6, g7, g8, g9, g10, g11⟩ := down_facts (N := numW h l) hc
                          have hsg : numW h l < 0 ↔ h < 0 := by unfold numW; omega
                          (try simp only [hcw] at *)
                          obtain ⟨k1, k2, k3⟩ := g1 h2
                          (try simp only [k1, k2] at *)
                          generalize absZ (numW h l) / c = q at *
                          generalize absZ (numW h l) % c = r at *
                          generalize nearZ (numW h l) c = X at *
                          (try simp only [wu64, w64] at *)
                          · simp only [AV.le, AV.leL, true_and, and_true, quoV, quoE, fitB, decide_eq_true_eq]
                            refine ⟨?_, ?_⟩ <;> (split <;> (try split) <;> omega)
                          · simp only [AV.leL, AV.le, Mem.le, Mem.leP, Blk.le, Blk.pad, Data.le, Data.size, Cap.le, and_true, true_and, and_self, true_implies, implies_true, imp_self, List.length_nil]
                      · (try simp only [decide_eq_true_eq, decide_eq_false_iff_not, Bool.not_eq_true', Bool.not_eq_false', beq_iff_eq, beq_eq_false_iff_ne, Int.not_lt, Int.not_le, ge_iff_le, gt_iff_lt, ne_eq, Bool.false_eq_true, Bool.true_eq_false, not_true_eq_false, not_false_eq_true, Bool.and_eq_true, Bool.not_eq_eq_eq_not, Bool.not_true, Bool.not_false, bne_iff_ne, bne_eq_false_iff_eq, Int.toNat_natCast, Nat.mul_one, Nat.add_zero, Nat.zero_add, List.take_length, List.drop_zero] at h6)
                        all_goals
                          refine Tree.GivesP.ret ?_ ?_
                          have hc : 1 ≤ c := by omega
                          have hcw : IntKind.u64.wrap c = c := by rw [wu64]; omega
                          obtain ⟨g1, g2, g3, g4, g5, g6, g7, g8, g9, g10, g11⟩ := down_facts (N := numW h l) hc
                          have hsg : numW h l < 0 ↔ h < 0 := by unfold numW; omega
                          (try simp only [hcw] at *)
                          obtain ⟨k1, k2, k3⟩ := g1 h2
                          (try simp only [k1, k2] at *)
                          generalize absZ (numW h l) / c = q at *
                          generalize absZ (numW h l) % c = r at *
                          generalize nearZ (numW h l) c = X at *
                          (try simp only [wu64, w64] at *)
                          · simp only [AV.le, AV.leL, true_and, and_true, quoV, quoE, fitB, decide_eq_true_eq]
                            refine ⟨?_, ?_⟩ <;> (split <;> (try split) <;> omega)
                          · simp only [AV.leL, AV.le, Mem.le, Mem.leP, Blk.le, Blk.pad, Data.le, Data.size, Cap.le, and_true, true_and, and_self, true_implies, implies_true, imp_self, List.length_nil]
                  · (try simp only [decide_eq_true_eq, decide_eq_false_iff_not, Bool.not_eq_true', Bool.not_eq_false', beq_iff_eq, beq_eq_false_iff_ne, Int.not_lt, Int.not_le, ge_iff_le, gt_iff_lt, ne_eq, Bool.false_eq_true, Bool.true_eq_false, not_true_eq_false, not_false_eq_true, Bool.and_eq_true, Bool.not_eq_eq_eq_not, Bool.not_true, Bool.not_false, bne_iff_ne, bne_eq_false_iff_eq, Int.toNat_natCast, Nat.mul_one, Nat.add_zero, Nat.zero_add, List.take_length, List.drop_zero] at h5)
                    all_goals
                      refine Tree.GivesP.br (fun h6 => ?_) (fun h6 => ?_)
                      · (try simp only [decide_eq_true_eq, decide_eq_false_iff_not, Bool.not_eq_true', Bool.not_eq_false', beq_iff_eq, beq_eq_false_iff_ne, Int.not_lt, Int.not_le, ge_iff_le, gt_iff_lt, ne_eq, Bool.false_eq_true, Bool.true_eq_false, not_true_eq_false, not_false_eq_true, Bool.and_eq_true, Bool.not_eq_eq_eq_not, Bool.not_true, Bool.not_false, bne_iff_ne, bne_eq_false_iff_eq, Int.toNat_natCast, Nat.mul_one, Nat.add_zero, Nat.zero_add, List.take_length, List.drop_zero] at h6)
                        all_goals
                          refine Tree.GivesP.ret ?_ ?_
                          have hc : 1 ≤ c := by omega
                          have hcw : IntKind.u64.wrap c = c := by rw [wu64]; omega
                          obtain ⟨g1, g2, g3, g4, g5, g6, g7, g8, g9, g10, g11⟩ := down_facts (N := numW h l) hc
                          have hsg : numW h l < 0 ↔ h < 0 := by unfold numW; omega
                          (try simp only [hcw] at *)
                          obtain ⟨k1, k2, k3⟩ := g1 h2
                          (try simp only [k1, k2] at *)
                          generalize absZ (numW h l) / c = q at *
                          generalize absZ (numW h l) % c = r at *
                          generalize nearZ (numW h l) c = X at *
                          (try simp only [wu64, w64] at *)
                          · simp only [AV.le, AV.leL, true_and, and_true, quoV, quoE, fitB, decide_eq_true_eq]
                            refine ⟨?_, ?_⟩ <;> (split <;> (try split) <;> omega)
                          · simp only [AV.leL, AV.le, Mem.le, Mem.leP, Blk.le, Blk.pad, Data.le, Data.size, Cap.le, and_true, true_and, and_self, true_implies, implies_true, imp_self, List.length_nil]
                      · (try simp only [decide_eq_true_eq, decide_eq_false_iff_not, Bool.not_eq_true', Bool.not_eq_false', beq_iff_eq, beq_eq_false_iff_ne, Int.not_lt, Int.not_le, ge_iff_le, gt_iff_lt, ne_eq, Bool.false_eq_true, Bool.true_eq_false, not_true_eq_false, not_false_eq_true, Bool.and_eq_true, Bool.not_eq_eq_eq_not, Bool.not_true, Bool.not_false, bne_iff_ne, bne_eq_false_iff_eq, Int.toNat_natCast, Nat.mul_one, Nat.add_zero, Nat.zero_add, List.take_length, List.drop_zero] at h6)
                        all_goals
                          refine Tree.GivesP.ret ?_ ?_
                          have hc : 1 ≤ c := by omega
                          have hcw : IntKind.u64.wrap c = c := by rw [wu64]; omega
                          obtain ⟨g1, g2, g3, g4, g5, g6, g7, g8, g9, g10, g11⟩ := down_facts (N := numW h l) hc
                          have hsg : numW h l < 0 ↔ h < 0 := by unfold numW; omega
                          (try simp only [hcw] at *)
                          obtain ⟨k1, k2, k3⟩ := g1 h2
                          (try simp only [k1, k2] at *)
                          generalize absZ (numW h l) / c = q at *
                          generalize absZ (numW h l) % c = r at *
                          generalize nearZ (numW h l) c = X at *
                          (try simp only [wu64, w64] at *)
                          · simp only [AV.le, AV.leL, true_and, and_true, quoV, quoE, fitB, decide_eq_true_eq]
                            refine ⟨?_, ?_⟩ <;> (split <;> (try split) <;> omega)
                          · simp only [AV.leL, AV.le, Mem.le, Mem.leP, Blk.le, Blk.pad, Data.le, Data.size, Cap.le, and_true, true_and, and_self, true_implies, implies_true, imp_self, List.length_nil]
              · (try simp only [decide_eq_true_eq, decide_eq_false_iff_not, Bool.not_eq_true', Bool.not_eq_false', beq_iff_eq, beq_eq_false_iff_ne, Int.not_lt, Int.not_le, ge_iff_le, gt_iff_lt, ne_eq, Bool.false_eq_true, Bool.true_eq_false, not_true_eq_false, not_false_eq_true, Bool.and_eq_true, Bool.not_eq_eq_eq_not, Bool.not_true, Bool.not_false, bne_iff_ne, bne_eq_false_iff_eq, Int.toNat_natCast, Nat.mul_one, Nat.add_zero, Nat.zero_add, List.take_length, List.drop_zero] at h4)
                all_goals
                  refine Tree.GivesP.br (fun h5 => ?_) (fun h5 => ?_)
                  · (try simp only [decide_eq_true_eq, decide_eq_false_iff_not, Bool.not_eq_true', Bool.not_eq_false', beq_iff_eq, beq_eq_false_iff_ne, Int.not_lt, Int.not_le, ge_iff_le, gt_iff_lt, ne_eq, Bool.false_eq_true, Bool.true_eq_false, not_true_eq_false, not_false_eq_true, Bool.and_eq_true, Bool.not_eq_eq_eq_not, Bool.not_true, Bool.not_false, bne_iff_ne, bne_eq_false_iff_eq, Int.toNat_natCast, Nat.mul_one, Nat.add_zero, Nat.zero_add, List.take_length, List.drop_zero] at h5)
                    all_goals
                      refine Tree.GivesP.br (fun h6 => ?_) (fun h6 => ?_)
                      · (try simp only [decide_eq_true_eq, decide_eq_false_iff_not, Bool.not_eq_true', Bool.not_eq_false', beq_iff_eq, beq_eq_false_iff_ne, Int.not_lt, Int.not_le, ge_iff_le, gt_iff_lt, ne_eq, Bool.false_eq_true, Bool.true_eq_false, not_true_eq_false, not_false_eq_true, Bool.and_eq_true, Bool.not_eq_eq_eq_not, Bool.not_true, Bool.not_false, bne_iff_ne, bne_eq_false_iff_eq, Int.toNat_natCast, Nat.mul_one, Nat.add_zero, Nat.zero_add, List.take_length, List.drop_zero] at h6)
                        all_goals
                          refine Tree.GivesP.ret ?_ ?_
                          have hc : 1 ≤ c := by omega
                          have hcw : IntKind.u64.wrap c = c := by rw [wu64]; omega
                          obtain ⟨g1, g2, g3, g4, g5, g6, g7, g8, g9, g10, g11⟩ := down_facts (N := numW h l) hc
                          have hsg : numW h l < 0 ↔ h < 0 := by unfold numW; omega
                          (try simp only [hcw] at *)
                          obtain ⟨k1, k2, k3⟩ := g1 h2
                          (try simp only [k1, k2] at *)
                          generalize absZ (numW h l) / c = q at *
                          generalize absZ (numW h l) % c = r at *
                          generalize nearZ (numW h l) c = X at *
                          (try simp only [wu64, w64] at *)
                          · simp only [AV.le, AV.leL, true_and, and_true, quoV, quoE, fitB, decide_eq_true_eq]
                            refine ⟨?_, ?_⟩ <;> (split <;> (try split) <;> omega)
                          · simp only [AV.leL, AV.le, Mem.le, Mem.leP, Blk.le, Blk.pad, Data.le, Data.size, Cap.le, and_true, true_and, and_self, true_implies, implies_true, imp_self, List.length_nil]
                      · (try simp only [decide_eq_true_eq, decide_eq_false_iff_not, Bool.not_eq_true', Bool.not_eq_false', beq_iff_eq, beq_eq_false_iff_ne, Int.not_lt, Int.not_le, ge_iff_le, gt_iff_lt, ne_eq, Bool.false_eq_true, Bool.true_eq_false, not_true_eq_false, not_false_eq_true, Bool.and_eq_true, Bool.not_eq_eq_eq_not, Bool.not_true, Bool.not_false, bne_iff_ne, bne_eq_false_iff_eq, Int.toNat_natCast, Nat.mul_one, Nat.add_zero, Nat.zero_add, List.take_length, List.drop_zero] at h6)
                        all_goals
                          refine Tree.GivesP.ret ?_ ?_
                          have hc : 1 ≤ c := by omega
                          have hcw : IntKind.u64.wrap c = c := by rw [wu64]; omega
                          obtain ⟨g1, g2, g3, g4, g5, g6, g7, g8, g9, g10, g11⟩ := down_facts (N := numW h l) hc
                          have hsg : numW h l < 0 ↔ h < 0 := by unfold numW; omega
                          (try simp only [hcw] at *)
                          obtain ⟨k1, k2, k3⟩ := g1 h2
                          (try simp only [k1, k2] at *)
                          generalize absZ (numW h l) / c = q at *
                          generalize absZ (numW h l) % c = r at *
                          generalize nearZ (numW h l) c = X at *
                          (try simp only [wu64, w64] at *)
                          · simp only [AV.le, AV.leL, true_and, and_true, quoV, quoE, fitB, decide_eq_true_eq]
                            refine ⟨?_, ?_⟩ <;> (split <;> (try split) <;> omega)
                          · simp only [AV.leL, AV.le, Mem.le, Mem.leP, Blk.le, Blk.pad, Data.le, Data.size, Cap.le, and_true, true_and, and_self, true_implies, implies_true, imp_self, List.length_nil]
                  · (try simp only [decide_eq_true_eq, decide_eq_false_iff_not, Bool.not_eq_true', Bool.not_eq_false', beq_iff_eq, beq_eq_false_iff_ne, Int.not_lt, Int.not_le, ge_iff_le, gt_iff_lt, ne_eq, Bool.false_eq_true, Bool.true_eq_false, not_true_eq_false, not_false_eq_true, Bool.and_eq_true, Bool.not_eq_eq_eq_not, Bool.not_true, Bool.not_false, bne_iff_ne, bne_eq_false_iff_eq, Int.toNat_natCast, Nat.mul_one, Nat.add_zero, Nat.zero_add, List.take_length, List.drop_zero] at h5)
                    all_goals
                      refine Tree.GivesP.br (fun h6 => ?_) (fun h6 => ?_)
                      · (try simp only [decide_eq_true_eq, decide_eq_false_iff_not, Bool.not_eq_true', Bool.not_eq_false', beq_iff_eq, beq_eq_false_iff_ne, Int.not_lt, Int.not_le, ge_iff_le, gt_iff_lt, ne_eq, Bool.false_eq_true, Bool.true_eq_false, not_true_eq_false, not_false_eq_true, Bool.and_eq_true, Bool.not_eq_eq_eq_not, Bool.not_true, Bool.not_false, bne_iff_ne, bne_eq_false_iff_eq, Int.toNat_natCast, Nat.mul_one, Nat.add_zero, Nat.zero_add, List.take_length, List.drop_zero] at h6)
                        all_goals
                          refine Tree.GivesP.ret ?_ ?_
                          have hc : 1 ≤ c := by omega
                          have hcw : IntKind.u64.wrap c = c := by rw [wu64]; omega
                          obtain ⟨g1, g2, g3, g4, g5, g6, g7, g8, g9, g10, g11⟩ := down_facts (N := numW h l) hc
                          have hsg : numW h l < 0 ↔ h < 0 := by unfold numW; omega
                          (try simp only [hcw] at *)
                          obtain ⟨k1, k2, k3⟩ := g1 h2
                          (try simp only [k1, k2] at *)
                          generalize absZ (numW h l) / c = q at *
                          generalize absZ (numW h l) % c = r at *
                          generalize nearZ (numW h l) c = X at *
                          (try simp only [wu64, w64] at *)
                          · simp only [AV.le, AV.leL, true_and, and_true, quoV, quoE, fitB, decide_eq_true_eq]
                            refine ⟨?_, ?_⟩ <;> (split <;> (try split) <;> omega)
                          · simp only [AV.leL, AV.le, Mem.le, Mem.leP, Blk.le, Blk.pad, Data.le, Data.size, Cap.le, and_true, true_and, and_self, true_implies, implies_true, imp_self, List.length_nil]
                      · (try simp only [decide_eq_true_eq, decide_eq_false_iff_not, Bool.not_eq_true', Bool.not_eq_false', beq_iff_eq, beq_eq_false_iff_ne, Int.not_lt, Int.not_le, ge_iff_le, gt_iff_lt, ne_eq, Bool.false_eq_true, Bool.true_eq_false, not_true_eq_false, not_false_eq_true, Bool.and_eq_true, Bool.not_eq_eq_eq_not, Bool.not_true, Bool.not_false, bne_iff_ne, bne_eq_false_iff_eq, Int.toNat_natCast, Nat.mul_one, Nat.add_zero, Nat.zero_add, List.take_length, List.drop_zero] at h6)
                        all_goals
                          refine Tree.GivesP.ret ?_ ?_
                          have hc : 1 ≤ c := by omega
                          have hcw : IntKind.u64.wrap c = c := by rw [wu64]; omega
                          obtain ⟨g1, g2, g3, g4, g5, g6, g7, g8, g9, g10, g11⟩ := down_facts (N := numW h l) hc
                          have hsg : numW h l < 0 ↔ h < 0 := by unfold numW; omega
                          (try simp only [hcw] at *)
                          obtain ⟨k1, k2, k3⟩ := g1 h2
                          (try simp only [k1, k2] at *)
                          generalize absZ (numW h l) / c = q at *
                          generalize absZ (numW h l) % c = r at *
                          generalize nearZ (numW h l) c = X at *
                          (try simp only [wu64, w64] at *)
                          · simp only [AV.le, AV.leL, true_and, and_true, quoV, quoE, fitB, decide_eq_true_eq]
                            refine ⟨?_, ?_⟩ <;> (split <;> (try split) <;> omega)
                          · simp only [AV.leL, AV.le, Mem.le, Mem.leP, Blk.le, Blk.pad, Data.le, Data.size, Cap.le, and_true, true_and, and_self, true_implies, implies_true, imp_self, List.length_nil]
theorem snear (hall : AllOk Try.prog 0 (fun _ => none) tab9) (h : Int) (l : Int) (c : Int) (hw : -9223372036854775808 ≤ h ∧ h ≤ 9223372036854775807 ∧ -9223372036854775808 ≤ c ∧ c ≤ 9223372036854775807 ∧ 0 ≤ l ∧ l ≤ 18446744073709551615) : SoundAt (mkC Try.prog 0 (fun _ => none) []) 13 [.agg [.int .i64 false h, .int .u64 false l], .int .i64 false c] [] (.tup [.int .i64 false (quoV c (nearZ (numW h l) c)), .int .i64 false (quoE c (nearZ (numW h l) c))], []) := sound_ofP hall mix (tnear h l c) (gnear h l c hw)
theorem Fnear_ok (hall : AllOk Try.prog 0 (fun _ => none) tab9) : PureF Try.prog 3 13 Fnear := by
  intro xs c v news h hc
  unfold Fnear at h
  split at h
  · rename_i _ h _ l _ c
    cases h
    refine ⟨(by intro b hb; cases hb), SoundAt.flags (snear hall h l c hc) ?_⟩
    simp [PA.avs, AV.le, AV.leL, Cap.le]
  · cases h
end Go.Proofs.Ytldknchhgnfncaa.Rig

/- Qcompare -/
namespace Go.Proofs.Ytldknchhgnfncaa.Rig
open Go
set_option maxRecDepth 100000 in
theorem tcompare (h : Int) (l : Int) (k : Int) (m : Int) : evBody (mkC Try.prog 0 (fun _ => none) tab10) (evCall (mkC Try.prog 0 (fun _ => none) tab10) 50) 24 [.agg [.int .i64 false h, .int .u64 false l], .agg [.int .i64 false k, .int .u64 false m]] [] =
  Tree.br (h == k && (l == m && true)) (Tree.ret (AV.int IntKind.i64 true (0 : Int), []))
    (Tree.br (h != h)
      (Tree.br (k != k)
        (Tree.br (l != l) (Tree.br (m != m) (Tree.ret (AV.int IntKind.i64 true (0 : Int), [])) (Tree.ret (AV.int IntKind.i64 true (-1 : Int), [])))
          (Tree.br (m != m) (Tree.ret (AV.int IntKind.i64 true (1 : Int), []))
            (Tree.br (decide (l < m)) (Tree.ret (AV.int IntKind.i64 true (-1 : Int), [])) (Tree.br (decide (l > m)) (Tree.ret (AV.int IntKind.i64 true (1 : Int), [])) (Tree.ret (AV.int IntKind.i64 true (0 : Int), []))))))
        (Tree.br (l != l) (Tree.br (m != m) (Tree.ret (AV.int IntKind.i64 true (-1 : Int), [])) (Tree.ret (AV.int IntKind.i64 true (-1 : Int), [])))
          (Tree.br (m != m) (Tree.ret (AV.int IntKind.i64 true (-1 : Int), []))
            (Tree.br (decide (l < m)) (Tree.ret (AV.int IntKind.i64 true (-1 : Int), [])) (Tree.br (decide (l > m)) (Tree.ret (AV.int IntKind.i64 true (-1 : Int), [])) (Tree.ret (AV.int IntKind.i64 true (-1 : Int), [])))))))
      (Tree.br (k != k)
        (Tree.br (l != l) (Tree.br (m != m) (Tree.ret (AV.int IntKind.i64 true (1 : Int), [])) (Tree.ret (AV.int IntKind.i64 true (1 : Int), [])))
          (Tree.br (m != m) (Tree.ret (AV.int IntKind.i64 true (1 : Int), []))
            (Tree.br (decide (l < m)) (Tree.ret (AV.int IntKind.i64 true (1 : Int), [])) (Tree.br (decide (l > m)) (Tree.ret (AV.int IntKind.i64 true (1 : Int), [])) (Tree.ret (AV.int IntKind.i64 true (1 : Int), []))))))
        (Tree.br (decide (h < k))
          (Tree.br (l != l) (Tree.br (m != m) (Tree.ret (AV.int IntKind.i64 true (-1 : Int), [])) (Tree.ret (AV.int IntKind.i64 true (-1 : Int), [])))
            (Tree.br (m != m) (Tree.ret (AV.int IntKind.i64 true (-1 : Int), []))
              (Tree.br (decide (l < m)) (Tree.ret (AV.int IntKind.i64 true (-1 : Int), [])) (Tree.br (decide (l > m)) (Tree.ret (AV.int IntKind.i64 true (-1 : Int), [])) (Tree.ret (AV.int IntKind.i64 true (-1 : Int), []))))))
          (Tree.br (decide (h > k))
            (Tree.br (l != l) (Tree.br (m != m) (Tree.ret (AV.int IntKind.i64 true (1 : Int), [])) (Tree.ret (AV.int IntKind.i64 true (1 : Int), [])))
              (Tree.br (m != m) (Tree.ret (AV.int IntKind.i64 true (1 : Int), []))
                (Tree.br (decide (l < m)) (Tree.ret (AV.int IntKind.i64 true (1 : Int), [])) (Tree.br (decide (l > m)) (Tree.ret (AV.int IntKind.i64 true (1 : Int), [])) (Tree.ret (AV.int IntKind.i64 true (1 : Int), []))))))
            (Tree.br (l != l) (Tree.br (m != m) (Tree.ret (AV.int IntKind.i64 true (0 : Int), [])) (Tree.ret (AV.int IntKind.i64 true (-1 : Int), [])))
              (Tree.br (m != m) (Tree.ret (AV.int IntKind.i64 true (1 : Int), []))
                (Tree.br (decide (l < m)) (Tree.ret (AV.int IntKind.i64 true (-1 : Int), [])) (Tree.br (decide (l > m)) (Tree.ret (AV.int IntKind.i64 true (1 : Int), [])) (Tree.ret (AV.int IntKind.i64 true (0 : Int), [])))))))))) := by kernel_rfl
set_option maxRecDepth 100000 in
theorem gcompare (h : Int) (l : Int) (k : Int) (m : Int) (hw : -9223372036854775808 ≤ h ∧ h ≤ 9223372036854775807 ∧ -9223372036854775808 ≤ k ∧ k ≤ 9223372036854775807 ∧ 0 ≤ l ∧ l ≤ 18446744073709551615 ∧ 0 ≤ m ∧ m ≤ 18446744073709551615) : (Tree.br (h == k && (l == m && true)) (Tree.ret (AV.int IntKind.i64 true (0 : Int), []))
    (Tree.br (h != h)
      (Tree.br (k != k)
        (Tree.br (l != l) (Tree.br (m != m) (Tree.ret (AV.int IntKind.i64 true (0 : Int), [])) (Tree.ret (AV.int IntKind.i64 true (-1 : Int), [])))
          (Tree.br (m != m) (Tree.ret (AV.int IntKind.i64 true (1 : Int), []))
            (Tree.br (decide (l < m)) (Tree.ret (AV.int IntKind.i64 true (-1 : Int), [])) (Tree.br (decide (l > m)) (Tree.ret (AV.int IntKind.i64 true (1 : Int), [])) (Tree.ret (AV.int IntKind.i64 true (0 : Int), []))))))
        (Tree.br (l != l) (Tree.br (m != m) (Tree.ret (AV.int IntKind.i64 true (-1 : Int), [])) (Tree.ret (AV.int IntKind.i64 true (-1 : Int), [])))
          (Tree.br (m != m) (Tree.ret (AV.int IntKind.i64 true (-1 : Int), []))
            (Tree.br (decide (l < m)) (Tree.ret (AV.int IntKind.i64 true (-1 : Int), [])) (Tree.br (decide (l > m)) (Tree.ret (AV.int IntKind.i64 true (-1 : Int), [])) (Tree.ret (AV.int IntKind.i64 true (-1 : Int), [])))))))
      (Tree.br (k != k)
        (Tree.br (l != l) (Tree.br (m != m) (Tree.ret (AV.int IntKind.i64 true (1 : Int), [])) (Tree.ret (AV.int IntKind.i64 true (1 : Int), [])))
          (Tree.br (m != m) (Tree.ret (AV.int IntKind.i64 true (1 : Int), []))
            (Tree.br (decide (l < m)) (Tree.ret (AV.int IntKind.i64 true (1 : Int), [])) (Tree.br (decide (l > m)) (Tree.ret (AV.int IntKind.i64 true (1 : Int), [])) (Tree.ret (AV.int IntKind.i64 true (1 : Int), []))))))
        (Tree.br (decide (h < k))
          (Tree.br (l != l) (Tree.br (m != m) (Tree.ret (AV.int IntKind.i64 true (-1 : Int), [])) (Tree.ret (AV.int IntKind.i64 true (-1 : Int), [])))
            (Tree.br (m != m) (Tree.ret (AV.int IntKind.i64 true (-1 : Int), []))
              (Tree.br (decide (l < m)) (Tree.ret (AV.int IntKind.i64 true (-1 : Int), [])) (Tree.br (decide (l > m)) (Tree.ret (AV.int IntKind.i64 true (-1 : Int), [])) (Tree.ret (AV.int IntKind.i64 true (-1 : Int), []))))))
          (Tree.br (decide (h > k))
            (Tree.br (l != l) (Tree.br (m != m) (Tree.ret (AV.int IntKind.i64 true (1 : Int), [])) (Tree.ret (AV.int IntKind.i64 true (1 : Int), [])))
              (Tree.br (m != m) (Tree.ret (AV.int IntKind.i64 true (1 : Int), []))
                (Tree.br (decide (l < m)) (Tree.ret (AV.int IntKind.i64 true (1 : Int), [])) (Tree.br (decide (l > m)) (Tree.ret (AV.int IntKind.i64 true (1 : Int), [])) (Tree.ret (AV.int IntKind.i64 true (1 : Int), []))))))
            (Tree.br (l != l) (Tree.br (m != m) (Tree.ret (AV.int IntKind.i64 true (0 : Int), [])) (Tree.ret (AV.int IntKind.i64 true (-1 : Int), [])))
              (Tree.br (m != m) (Tree.ret (AV.int IntKind.i64 true (1 : Int), []))
                (Tree.br (decide (l < m)) (Tree.ret (AV.int IntKind.i64 true (-1 : Int), [])) (Tree.br (decide (l > m)) (Tree.ret (AV.int IntKind.i64 true (1 : Int), [])) (Tree.ret (AV.int IntKind.i64 true (0 : Int), [])))))))))) : Tree (AV × Mem)).GivesP (.int .i64 false (cmpZ (numW h l) (numW k m))) ([]) := by
  obtain ⟨b0, b1, b2, b3, b4, b5, b6, b7⟩ := hw
  simp only [bne_self_eq_false]
  refine Tree.GivesP.br (fun h1 => ?_) (fun h1 => ?_)
  · (try simp only [decide_eq_true_eq, decide_eq_false_iff_not, Bool.not_eq_true', Bool.not_eq_false', beq_iff_eq, beq_eq_false_iff_ne, Int.not_lt, Int.not_le, ge_iff_le, gt_iff_lt, ne_eq, Bool.false_eq_true, Bool.true_eq_false, not_true_eq_false, not_false_eq_true, Bool.and_eq_true, Bool.not_eq_eq_eq_not, Bool.not_true, Bool.not_false, bne_iff_ne, bne_eq_false_iff_eq, Int.toNat_natCast, Nat.mul_one, Nat.add_zero, Nat.zero_add, List.take_length, List.drop_zero] at h1)
    all_goals
      refine Tree.GivesP.ret ?_ ?_
      · (try (have h1' : ¬ (h = k ∧ l = m) := by simpa using h1)); simp only [AV.le, true_and, cmpZ, numW]; (try split) <;> (try split) <;> omega
      · simp only [AV.leL, AV.le, Mem.le, Mem.leP, Blk.le, Blk.pad, Data.le, Data.size, Cap.le, and_true, true_and, and_self, true_implies, implies_true, imp_self, List.length_nil]
  · (try simp only [decide_eq_true_eq, decide_eq_false_iff_not, Bool.not_eq_true', Bool.not_eq_false', beq_iff_eq, beq_eq_false_iff_ne, Int.not_lt, Int.not_le, ge_iff_le, gt_iff_lt, ne_eq, Bool.false_eq_true, Bool.true_eq_false, not_true_eq_false, not_false_eq_true, Bool.and_eq_true, Bool.not_eq_eq_eq_not, Bool.not_true, Bool.not_false, bne_iff_ne, bne_eq_false_iff_eq, Int.toNat_natCast, Nat.mul_one, Nat.add_zero, Nat.zero_add, List.take_length, List.drop_zero] at h1)
    all_goals
      refine Tree.GivesP.br (fun h2 => ?_) (fun h2 => ?_)
      · (try simp only [decide_eq_true_eq, decide_eq_false_iff_not, Bool.not_eq_true', Bool.not_eq_false', beq_iff_eq, beq_eq_false_iff_ne, Int.not_lt, Int.not_le, ge_iff_le, gt_iff_lt, ne_eq, Bool.false_eq_true, Bool.true_eq_false, not_true_eq_false, not_false_eq_true, Bool.and_eq_true, Bool.not_eq_eq_eq_not, Bool.not_true, Bool.not_false, bne_iff_ne, bne_eq_false_iff_eq, Int.toNat_natCast, Nat.mul_one, Nat.add_zero, Nat.zero_add, List.take_length, List.drop_zero] at h2)
        all_goals
          refine Tree.GivesP.br (fun h3 => ?_) (fun h3 => ?_)
          · (try simp only [decide_eq_true_eq, decide_eq_false_iff_not, Bool.not_eq_true', Bool.not_eq_false', beq_iff_eq, beq_eq_false_iff_ne, Int.not_lt, Int.not_le, ge_iff_le, gt_iff_lt, ne_eq, Bool.false_eq_true, Bool.true_eq_false, not_true_eq_false, not_false_eq_true, Bool.and_eq_true, Bool.not_eq_eq_eq_not, Bool.not_true, Bool.not_false, bne_iff_ne, bne_eq_false_iff_eq, Int.toNat_natCast, Nat.mul_one, Nat.add_zero, Nat.zero_add, List.take_length, List.drop_zero] at h3)
            all_goals
              refine Tree.GivesP.br (fun h4 => ?_) (fun h4 => ?_)
              · (try simp only [decide_eq_true_eq, decide_eq_false_iff_not, Bool.not_eq_true', Bool.not_eq_false', beq_iff_eq, beq_eq_false_iff_ne, Int.not_lt, Int.not_le, ge_iff_le, gt_iff_lt, ne_eq, Bool.false_eq_true, Bool.true_eq_false, not_true_eq_false, not_false_eq_true, Bool.and_eq_true, Bool.not_eq_eq_eq_not, Bool.not_true, Bool.not_false, bne_iff_ne, bne_eq_false_iff_eq, Int.toNat_natCast, Nat.mul_one, Nat.add_zero, Nat.zero_add, List.take_length, List.drop_zero] at h4)
                all_goals
                  refine Tree.GivesP.br (fun h5 => ?_) (fun h5 => ?_)
                  · (try simp only [decide_eq_true_eq, decide_eq_false_iff_not, Bool.not_eq_true', Bool.not_eq_false', beq_iff_eq, beq_eq_false_iff_ne, Int.not_lt, Int.not_le, ge_iff_le, gt_iff_lt, ne_eq, Bool.false_eq_true, Bool.true_eq_false, not_true_eq_false, not_false_eq_true, Bool.and_eq_true, Bool.not_eq_eq_eq_not, Bool.not_true, Bool.not_false, bne_iff_ne, bne_eq_false_iff_eq, Int.toNat_natCast, Nat.mul_one, Nat.add_zero, Nat.zero_add, List.take_length, List.drop_zero] at h5)
                    all_goals
                      refine Tree.GivesP.ret ?_ ?_
                      · (try (have h1' : ¬ (h = k ∧ l = m) := by simpa using h1)); simp only [AV.le, true_and, cmpZ, numW]; (try split) <;> (try split) <;> omega
                      · simp only [AV.leL, AV.le, Mem.le, Mem.leP, Blk.le, Blk.pad, Data.le, Data.size, Cap.le, and_true, true_and, and_self, true_implies, implies_true, imp_self, List.length_nil]
                  · (try simp only [decide_eq_true_eq, decide_eq_false_iff_not, Bool.not_eq_true', Bool.not_eq_false', beq_iff_eq, beq_eq_false_iff_ne, Int.not_lt, Int.not_le, ge_iff_le, gt_iff_lt, ne_eq, Bool.false_eq_true, Bool.true_eq_false, not_true_eq_false, not_false_eq_true, Bool.and_eq_true, Bool.not_eq_eq_eq_not, Bool.not_true, Bool.not_false, bne_iff_ne, bne_eq_false_iff_eq, Int.toNat_natCast, Nat.mul_one, Nat.add_zero, Nat.zero_add, List.take_length, List.drop_zero] at h5)
                    all_goals
                      refine Tree.GivesP.ret ?_ ?_
                      · (try (have h1' : ¬ (h = k ∧ l = m) := by simpa using h1)); simp only [AV.le, true_and, cmpZ, numW]; (try split) <;> (try split) <;> omega
                      · simp only [AV.leL, AV.le, Mem.le, Mem.leP, Blk.le, Blk.pad, Data.le, Data.size, Cap.le, and_true, true_and, and_self, true_implies, implies_true, imp_self, List.length_nil]
              · (try simp only [decide_eq_true_eq, decide_eq_false_iff_not, Bool.not_eq_true', Bool.not_eq_false', beq_iff_eq, beq_eq_false_iff_ne, Int.not_lt, Int.not_le, ge_iff_le, gt_iff_lt, ne_eq, Bool.false_eq_true, Bool.true_eq_false, not_true_eq_false, not_false_eq_true, Bool.and_eq_true, Bool.not_eq_eq_eq_not, Bool.not_true, Bool.not_false, bne_iff_ne, bne_eq_false_iff_eq, Int.toNat_natCast, Nat.mul_one, Nat.add_zero, Nat.zero_add, List.take_length, List.drop_zero] at h4)
                all_goals
                  refine Tree.GivesP.br (fun h5 => ?_) (fun h5 => ?_)
                  · (try simp only [decide_eq_true_eq, decide_eq_false_iff_not, Bool.not_eq_true', Bool.not_eq_false', beq_iff_eq, beq_eq_false_iff_ne, Int.not_lt, Int.not_le, ge_iff_le, gt_iff_lt, ne_eq, Bool.false_eq_true, Bool.true_eq_false, not_true_eq_false, not_false_eq_true, Bool.and_eq_true, Bool.not_eq_eq_eq_not, Bool.not_true, Bool.not_false, bne_iff_ne, bne_eq_false_iff_eq, Int.toNat_natCast, Nat.mul_one, Nat.add_zero, Nat.zero_add, List.take_length, List.drop_zero] at h5)
                    all_goals
                      refine Tree.GivesP.ret ?_ ?_
                      · (try (have h1' : ¬ (h = k ∧ l = m) := by simpa using h1)); simp only [AV.le, true_and, cmpZ, numW]; (try split) <;> (try split) <;> omega
                      · simp only [AV.leL, AV.le, Mem.le, Mem.leP, Blk.le, Blk.pad, Data.le, Data.size, Cap.le, and_true, true_and, and_self, true_implies, implies_true, imp_self, List.length_nil]
                  · (try simp only [decide_eq_true_eq, decide_eq_false_iff_not, Bool.not_eq_true', Bool.not_eq_false', beq_iff_eq, beq_eq_false_iff_ne, Int.not_lt, Int.not_le, ge_iff_le, gt_iff_lt, ne_eq, Bool.false_eq_true, Bool.true_eq_false, not_true_eq_false, not_false_eq_true, Bool.and_eq_true, Bool.not_eq_eq_eq_not, Bool.not_true, Bool.not_false, bne_iff_ne, bne_eq_false_iff_eq, Int.toNat_natCast, Nat.mul_one, Nat.add_zero, Nat.zero_add, List.take_length, List.drop_zero] at h5)
                    all_goals
                      refine Tree.GivesP.br (fun h6 => ?_) (fun h6 => ?_)
                      · (try simp only [decide_eq_true_eq, decide_eq_false_iff_not, Bool.not_eq_true', Bool.not_eq_false', beq_iff_eq, beq_eq_false_iff_ne, Int.not_lt, Int.not_le, ge_iff_le, gt_iff_lt, ne_eq, Bool.false_eq_true, Bool.true_eq_false, not_true_eq_false, not_false_eq_true, Bool.and_eq_true, Bool.not_eq_eq_eq_not, Bool.not_true, Bool.not_false, bne_iff_ne, bne_eq_false_iff_eq, Int.toNat_natCast, Nat.mul_one, Nat.add_zero, Nat.zero_add, List.take_length, List.drop_zero] at h6)
                        all_goals
                          refine Tree.GivesP.ret ?_ ?_
                          · (try (have h1' : ¬ (h = k ∧ l = m) := by simpa using h1)); simp only [AV.le, true_and, cmpZ, numW]; (try split) <;> (try split) <;> omega
                          · simp only [AV.leL, AV.le, Mem.le, Mem.leP, Blk.le, Blk.pad, Data.le, Data.size, Cap.le, and_true, true_and, and_self, true_implies, implies_true, imp_self, List.length_nil]
                      · (try simp only [decide_eq_true_eq, decide_eq_false_iff_not, Bool.not_eq_true', Bool.not_eq_false', beq_iff_eq, beq_eq_false_iff_ne, Int.not_lt, Int.not_le, ge_iff_le, gt_iff_lt, ne_eq, Bool.false_eq_true, Bool.true_eq_false, not_true_eq_false, not_false_eq_true, Bool.and_eq_true, Bool.not_eq_eq_eq_not, Bool.not_true, Bool.not_false, bne_iff_ne, bne_eq_false_iff_eq, Int.toNat_natCast, Nat.mul_one, Nat.add_zero, Nat.zero_add, List.take_length, List.drop_zero] at h6)
                        all_goals
                          refine Tree.GivesP.br (fun h7 => ?_) (fun h7 => ?_)
                          · (try simp only [decide_eq_true_eq, decide_eq_false_iff_not, Bool.not_eq_true', Bool.not_eq_false', beq_iff_eq, beq_eq_false_iff_ne, Int.not_lt, Int.not_le, ge_iff_le, gt_iff_lt, ne_eq, Bool.false_eq_true, Bool.true_eq_false, not_true_eq_false, not_false_eq_true, Bool.and_eq_true, Bool.not_eq_eq_eq_not, Bool.not_true, Bool.not_false, bne_iff_ne, bne_eq_false_iff_eq, Int.toNat_natCast, Nat.mul_one, Nat.add_zero, Nat.zero_add, List.take_length, List.drop_zero] at h7)
                            all_goals
                              refine Tree.GivesP.ret ?_ ?_
                              · (try (have h1' : ¬ (h = k ∧ l = m) := by simpa using h1)); simp only [AV.le, true_and, cmpZ, numW]; (try split) <;> (try split) <;> omega
                              · simp only [AV.leL, AV.le, Mem.le, Mem.leP, Blk.le, Blk.pad, Data.le, Data.size, Cap.le, and_true, true_and, and_self, true_implies, implies_true, imp_self, List.length_nil]
                          · (try simp only [decide_eq_true_eq, decide_eq_false_iff_not, Bool.not_eq_true', Bool.not_eq_false', beq_iff_eq, beq_eq_false_iff_ne, Int.not_lt, Int.not_le, ge_iff_le, gt_iff_lt, ne_eq, Bool.false_eq_true, Bool.true_eq_false, not_true_eq_false, not_false_eq_true, Bool.and_eq_true, Bool.not_eq_eq_eq_not, Bool.not_true, Bool.not_false, bne_iff_ne, bne_eq_false_iff_eq, Int.toNat_natCast, Nat.mul_one, Nat.add_zero, Nat.zero_add, List.take_length, List.drop_zero] at h7)
                            all_goals
                              refine Tree.GivesP.ret ?_ ?_
                              · (try (have h1' : ¬ (h = k ∧ l = m) := by simpa using h1)); simp only [AV.le, true_and, cmpZ, numW]; (try split) <;> (try split) <;> omega
                              · simp only [AV.leL, AV.le, Mem.le, Mem.leP, Blk.le, Blk.pad, Data.le, Data.size, Cap.le, and_true, true_and, and_self, true_implies, implies_true, imp_self, List.length_nil]
          · (try simp only [decide_eq_true_eq, decide_eq_false_iff_not, Bool.not_eq_true', Bool.not_eq_false', beq_iff_eq, beq_eq_false_iff_ne, Int.not_lt, Int.not_le, ge_iff_le, gt_iff_lt, ne_eq, Bool.false_eq_true, Bool.true_eq_false, not_true_eq_false, not_false_eq_true, Bool.and_eq_true, Bool.not_eq_eq_eq_not, Bool.not_true, Bool.not_false, bne_iff_ne, bne_eq_false_iff_eq, Int.toNat_natCast, Nat.mul_one, Nat.add_zero, Nat.zero_add, List.take_length, List.drop_zero] at h3)
            all_goals
              refine Tree.GivesP.br (fun h4 => ?_) (fun h4 => ?_)
              · (try simp only [decide_eq_true_eq, decide_eq_false_iff_not, Bool.not_eq_true', Bool.not_eq_false', beq_iff_eq, beq_eq_false_iff_ne, Int.not_lt, Int.not_le, ge_iff_le, gt_iff_lt, ne_eq, Bool.false_eq_true, Bool.true_eq_false, not_true_eq_false, not_false_eq_true, Bool.and_eq_true, Bool.not_eq_eq_eq_not, Bool.not_true, Bool.not_false, bne_iff_ne, bne_eq_false_iff_eq, Int.toNat_natCast, Nat.mul_one, Nat.add_zero, Nat.zero_add, List.take_length, List.drop_zero] at h4)
                all_goals
                  refine Tree.GivesP.br (fun h5 => ?_) (fun h5 => ?_)
                  · (try simp only [decide_eq_true_eq, decide_eq_false_iff_not, Bool.not_eq_true', Bool.not_eq_false', beq_iff_eq, beq_eq_false_iff_ne, Int.not_lt, Int.not_le, ge_iff_le, gt_iff_lt, ne_eq, Bool.false_eq_true, Bool.true_eq_false, not_true_eq_false, not_false_eq_true, Bool.and_eq_true, Bool.not_eq_eq_eq_not, Bool.not_true, Bool.not_false, bne_iff_ne, bne_eq_false_iff_eq, Int.toNat_natCast, Nat.mul_one, Nat.add_zero, Nat.zero_add, List.take_length, List.drop_zero] at h5)
                    all_goals
                      refine Tree.GivesP.ret ?_ ?_
                      · (try (have h1' : ¬ (h = k ∧ l = m) := by simpa using h1)); simp only [AV.le, true_and, cmpZ, numW]; (try split) <;> (try split) <;> omega
                      · simp only [AV.leL, AV.le, Mem.le, Mem.leP, Blk.le, Blk.pad, Data.le, Data.size, Cap.le, and_true, true_and, and_self, true_implies, implies_true, imp_self, List.length_nil]
                  · (try simp only [decide_eq_true_eq, decide_eq_false_iff_not, Bool.not_eq_true', Bool.not_eq_false', beq_iff_eq, beq_eq_false_iff_ne, Int.not_lt, Int.not_le, ge_iff_le, gt_iff_lt, ne_eq, Bool.false_eq_true, Bool.true_eq_false, not_true_eq_false, not_false_eq_true, Bool.and_eq_true, Bool.not_eq_eq_eq_not, Bool.not_true, Bool.not_false, bne_iff_ne, bne_eq_false_iff_eq, Int.toNat_natCast, Nat.mul_one, Nat.add_zero, Nat.zero_add, List.take_length, List.drop_zero] at h5)
                    all_goals
                      refine Tree.GivesP.ret ?_ ?_
                      · (try (have h1' : ¬ (h = k ∧ l = m) := by simpa using h1)); simp only [AV.le, true_and, cmpZ, numW]; (try split) <;> (try split) <;> omega
                      · simp only [AV.leL, AV.le, Mem.le, Mem.leP, Blk.le, Blk.pad, Data.le, Data.size, Cap.le, and_true, true_and, and_self, true_implies, implies_true, imp_self, List.length_nil]
              · (try simp only [decide_eq_true_eq, decide_eq_false_iff_not, Bool.not_eq_true', Bool.not_eq_false', beq_iff_eq, beq_eq_false_iff_ne, Int.not_lt, Int.not_le, ge_iff_le, gt_iff_lt, ne_eq, Bool.false_eq_true, Bool.true_eq_false, not_true_eq_false, not_false_eq_true, Bool.and_eq_true, Bool.not_eq_eq_eq_not, Bool.not_true, Bool.not_false, bne_iff_ne, bne_eq_false_iff_eq, Int.toNat_natCast, Nat.mul_one, Nat.add_zero, Nat.zero_add, List.take_length, List.drop_zero] at h4)
                all_goals
                  refine Tree.GivesP.br (fun h5 => ?_) (fun h5 => ?_)
                  · (try simp only [decide_eq_true_eq, decide_eq_false_iff_not, Bool.not_eq_true', Bool.not_eq_false', beq_iff_eq, beq_eq_false_iff_ne, Int.not_lt, Int.not_le, ge_iff_le, gt_iff_lt, ne_eq, Bool.false_eq_true, Bool.true_eq_false, not_true_eq_false, not_false_eq_true, Bool.and_eq_true, Bool.not_eq_eq_eq_not, Bool.not_true, Bool.not_false, bne_iff_ne, bne_eq_false_iff_eq, Int.toNat_natCast, Nat.mul_one, Nat.add_zero, Nat.zero_add, List.take_length, List.drop_zero] at h5)
                    all_goals
                      refine Tree.GivesP.ret ?_ ?_
                      · (try (have h1' : ¬ (h = k ∧ l = m) := by simpa using h1)); simp only [AV.le, true_and, cmpZ, numW]; (try split) <;> (try split) <;> omega
                      · simp only [AV.leL, AV.le, Mem.le, Mem.leP, Blk.le, Blk.pad, Data.le, Data.size, Cap.le, and_true, true_and, and_self, true_implies, implies_true, imp_self, List.length_nil]
                  · (try simp only [decide_eq_true_eq, decide_eq_false_iff_not, Bool.not_eq_true', Bool.not_eq_false', beq_iff_eq, beq_eq_false_iff_ne, Int.not_lt, Int.not_le, ge_iff_le, gt_iff_lt, ne_eq, Bool.false_eq_true, Bool.true_eq_false, not_true_eq_false, not_false_eq_true, Bool.and_eq_true, Bool.not_eq_eq_eq_not, Bool.not_true, Bool.not_false, bne_iff_ne, bne_eq_false_iff_eq, Int.toNat_natCast, Nat.mul_one, Nat.add_zero, Nat.zero_add, List.take_length, List.drop_zero] at h5)
                    all_goals
                      refine Tree.GivesP.br (fun h6 => ?_) (fun h6 => ?_)
                      · (try simp only [decide_eq_true_eq, decide_eq_false_iff_not, Bool.not_eq_true', Bool.not_eq_false', beq_iff_eq, beq_eq_false_iff_ne, Int.not_lt, Int.not_le, ge_iff_le, gt_iff_lt, ne_eq, Bool.false_eq_true, Bool.true_eq_false, not_true_eq_false, not_false_eq_true, Bool.and_eq_true, Bool.not_eq_eq_eq_not, Bool.not_true, Bool.not_false, bne_iff_ne, bne_eq_false_iff_eq, Int.toNat_natCast, Nat.mul_one, Nat.add_zero, Nat.zero_add, List.take_length, List.drop_zero] at h6)
                        all_goals
                          refine Tree.GivesP.ret ?_ ?_
                          · (try (have h1' : ¬ (h = k ∧ l = m) := by simpa using h1)); simp only [AV.le, true_and, cmpZ, numW]; (try split) <;> (try split) <;> omega
                          · simp only [AV.leL, AV.le, Mem.le, Mem.leP, Blk.le, Blk.pad, Data.le, Data.size, Cap.le, and_true, true_and, and_self, true_implies, implies_true, imp_self, List.length_nil]
                      · (try simp only [decide_eq_true_eq, decide_eq_false_iff_not, Bool.not_eq_true', Bool.not_eq_false', beq_iff_eq, beq_eq_false_iff_ne, Int.not_lt, Int.not_le, ge_iff_le, gt_iff_lt, ne_eq, Bool.false_eq_true, Bool.true_eq_false, not_true_eq_false, not_false_eq_true, Bool.and_eq_true, Bool.not_eq_eq_eq_not, Bool.not_true, Bool.not_false, bne_iff_ne, bne_eq_false_iff_eq, Int.toNat_natCast, Nat.mul_one, Nat.add_zero, Nat.zero_add, List.take_length, List.drop_zero] at h6)
                        all_goals
                          refine Tree.GivesP.br (fun h7 => ?_) (fun h7 => ?_)
                          · (try simp only [decide_eq_true_eq, decide_eq_false_iff_not, Bool.not_eq_true', Bool.not_eq_false', beq_iff_eq, beq_eq_false_iff_ne, Int.not_lt, Int.not_le, ge_iff_le, gt_iff_lt, ne_eq, Bool.false_eq_true, Bool.true_eq_false, not_true_eq_false, not_false_eq_true, Bool.and_eq_true, Bool.not_eq_eq_eq_not, Bool.not_true, Bool.not_false, bne_iff_ne, bne_eq_false_iff_eq, Int.toNat_natCast, Nat.mul_one, Nat.add_zero, Nat.zero_add, List.take_length, List.drop_zero] at h7)
                            all_goals
                              refine Tree.GivesP.ret ?_ ?_
                              · (try (have h1' : ¬ (h = k ∧ l = m) := by simpa using h1)); simp only [AV.le, true_and, cmpZ, numW]; (try split) <;> (try split) <;> omega
                              · simp only [AV.leL, AV.le, Mem.le, Mem.leP, Blk.le, Blk.pad, Data.le, Data.size, Cap.le, and_true, true_and, and_self, true_implies, implies_true, imp_self, List.length_nil]
                          · (try simp only [decide_eq_true_eq, decide_eq_false_iff_not, Bool.not_eq_true', Bool.not_eq_false', beq_iff_eq, beq_eq_false_iff_ne, Int.not_lt, Int.not_le, ge_iff_le, gt_iff_lt, ne_eq, Bool.false_eq_true, Bool.true_eq_false, not_true_eq_false, not_false_eq_true, Bool.and_eq_true, Bool.not_eq_eq_eq_not, Bool.not_true, Bool.not_false, bne_iff_ne, bne_eq_false_iff_eq, Int.toNat_natCast, Nat.mul_one, Nat.add_zero, Nat.zero_add, List.take_length, List.drop_zero] at h7)
                            all_goals
                              refine Tree.GivesP.ret ?_ ?_
                              · (try (have h1' : ¬ (h = k ∧ l = m) := by simpa using h1)); simp only [AV.le, true_and, cmpZ, numW]; (try split) <;> (try split) <;> omega
                              · simp only [AV.leL, AV.le, Mem.le, Mem.leP, Blk.le, Blk.pad, Data.le, Data.size, Cap.le, and_true, true_and, and_self, true_implies, implies_true, imp_self, List.length_nil]
      · (try simp only [decide_eq_true_eq, decide_eq_false_iff_not, Bool.not_eq_true', Bool.not_eq_false', beq_iff_eq, beq_eq_false_iff_ne, Int.not_lt, Int.not_le, ge_iff_le, gt_iff_lt, ne_eq, Bool.false_eq_true, Bool.true_eq_false, not_true_eq_false, not_false_eq_true, Bool.and_eq_true, Bool.not_eq_eq_eq_not, Bool.not_true, Bool.not_false, bne_iff_ne, bne_eq_false_iff_eq, Int.toNat_natCast, Nat.mul_one, Nat.add_zero, Nat.zero_add, List.take_length, List.drop_zero] at h2)
        all_goals
          refine Tree.GivesP.br (fun h3 => ?_) (fun h3 => ?_)
          · (try simp only [decide_eq_true_eq, decide_eq_false_iff_not, Bool.not_eq_true', Bool.not_eq_false', beq_iff_eq, beq_eq_false_iff_ne, Int.not_lt, Int.not_le, ge_iff_le, gt_iff_lt, ne_eq, Bool.false_eq_true, Bool.true_eq_false, not_true_eq_false, not_false_eq_true, Bool.and_eq_true, Bool.not_eq_eq_eq_not, Bool.not_true, Bool.not_false, bne_iff_ne, bne_eq_false_iff_eq, Int.toNat_natCast, Nat.mul_one, Nat.add_zero, Nat.zero_add, List.take_length, List.drop_zero] at h3)
            all_goals
              refine Tree.GivesP.br (fun h4 => ?_) (fun h4 => ?_)
              · (try simp only [decide_eq_true_eq, decide_eq_false_iff_not, Bool.not_eq_true', Bool.not_eq_false', beq_iff_eq, beq_eq_false_iff_ne, Int.not_lt, Int.not_le, ge_iff_le, gt_iff_lt, ne_eq, Bool.false_eq_true, Bool.true_eq_false, not_true_eq_false, not_false_eq_true, Bool.and_eq_true, Bool.not_eq_eq_eq_not, Bool.not_true, Bool.not_false, bne_iff_ne, bne_eq_false_iff_eq, Int.toNat_natCast, Nat.mul_one, Nat.add_zero, Nat.zero_add, List.take_length, List.drop_zero] at h4)
                all_goals
                  refine Tree.GivesP.br (fun h5 => ?_) (fun h5 => ?_)
                  · (try simp only [decide_eq_true_eq, decide_eq_false_iff_not, Bool.not_eq_true', Bool.not_eq_false', beq_iff_eq, beq_eq_false_iff_ne, Int.not_lt, Int.not_le, ge_iff_le, gt_iff_lt, ne_eq, Bool.false_eq_true, Bool.true_eq_false, not_true_eq_false, not_false_eq_true, Bool.and_eq_true, Bool.not_eq_eq_eq_not, Bool.not_true, Bool.not_false, bne_iff_ne, bne_eq_false_iff_eq, Int.toNat_natCast, Nat.mul_one, Nat.add_zero, Nat.zero_add, List.take_length, List.drop_zero] at h5)
                    all_goals
                      refine Tree.GivesP.ret ?_ ?_
                      · (try (have h1' : ¬ (h = k ∧ l = m) := by simpa using h1)); simp only [AV.le, true_and, cmpZ, numW]; (try split) <;> (try split) <;> omega
                      · simp only [AV.leL, AV.le, Mem.le, Mem.leP, Blk.le, Blk.pad, Data.le, Data.size, Cap.le, and_true, true_and, and_self, true_implies, implies_true, imp_self, List.length_nil]
                  · (try simp only [decide_eq_true_eq, decide_eq_false_iff_not, Bool.not_eq_true', Bool.not_eq_false', beq_iff_eq, beq_eq_false_iff_ne, Int.not_lt, Int.not_le, ge_iff_le, gt_iff_lt, ne_eq, Bool.false_eq_true, Bool.true_eq_false, not_true_eq_false, not_false_eq_true, Bool.and_eq_true, Bool.not_eq_eq_eq_not, Bool.not_true, Bool.not_false, bne_iff_ne, bne_eq_false_iff_eq, Int.toNat_natCast, Nat.mul_one, Nat.add_zero, Nat.zero_add, List.take_length, List.drop_zero] at h5)
                    all_goals
                      refine Tree.GivesP.ret ?_ ?_
                      · (try (have h1' : ¬ (h = k ∧ l = m) := by simpa using h1)); simp only [AV.le, true_and, cmpZ, numW]; (try split) <;> (try split) <;> omega
                      · simp only [AV.leL, AV.le, Mem.le, Mem.leP, Blk.le, Blk.pad, Data.le, Data.size, Cap.le, and_true, true_and, and_self, true_implies, implies_true, imp_self, List.length_nil]
              · (try simp only [decide_eq_true_eq, decide_eq_false_iff_not, Bool.not_eq_true', Bool.not_eq_false', beq_iff_eq, beq_eq_false_iff_ne, Int.not_lt, Int.not_le, ge_iff_le, gt_iff_lt, ne_eq, Bool.false_eq_true, Bool.true_eq_false, not_true_eq_false, not_false_eq_true, Bool.and_eq_true, Bool.not_eq_eq_eq_not, Bool.not_true, Bool.not_false, bne_iff_ne, bne_eq_false_iff_eq, Int.toNat_natCast, Nat.mul_one, Nat.add_zero, Nat.zero_add, List.take_length, List.drop_zero] at h4)
                all_goals
                  refine Tree.GivesP.br (fun h5 => ?_) (fun h5 => ?_)
                  · (try simp only [decide_eq_true_eq, decide_eq_false_iff_not, Bool.not_eq_true', Bool.not_eq_false', beq_iff_eq, beq_eq_false_iff_ne, Int.not_lt, Int.not_le, ge_iff_le, gt_iff_lt, ne_eq, Bool.false_eq_true, Bool.true_eq_false, not_true_eq_false, not_false_eq_true, Bool.and_eq_true, Bool.not_eq_eq_eq_not, Bool.not_true, Bool.not_false, bne_iff_ne, bne_eq_false_iff_eq, Int.toNat_natCast, Nat.mul_one, Nat.add_zero, Nat.zero_add, List.take_length, List.drop_zero] at h5)
                    all_goals
                      refine Tree.GivesP.ret ?_ ?_
                      · (try (have h1' : ¬ (h = k ∧ l = m) := by simpa using h1)); simp only [AV.le, true_and, cmpZ, numW]; (try split) <;> (try split) <;> omega
                      · simp only [AV.leL, AV.le, Mem.le, Mem.leP, Blk.le, Blk.pad, Data.le, Data.size, Cap.le, and_true, true_and, and_self, true_implies, implies_true, imp_self, List.length_nil]
                  · (try simp only [decide_eq_true_eq, decide_eq_false_iff_not, Bool.not_eq_true', Bool.not_eq_false', beq_iff_eq, beq_eq_false_iff_ne, Int.not_lt, Int.not_le, ge_iff_le, gt_iff_lt, ne_eq, Bool.false_eq_true, Bool.true_eq_false, not_true_eq_false, not_false_eq_true, Bool.and_eq_true, Bool.not_eq_eq_eq_not, Bool.not_true, Bool.not_false, bne_iff_ne, bne_eq_false_iff_eq, Int.toNat_natCast, Nat.mul_one, Nat.add_zero, Nat.zero_add, List.take_length, List.drop_zero] at h5)
                    all_goals
                      refine Tree.GivesP.br (fun h6 => ?_) (fun h6 => ?_)
                      · (try simp only [decide_eq_true_eq, decide_eq_false_iff_not, Bool.not_eq_true', Bool.not_eq_false', beq_iff_eq, beq_eq_false_iff_ne, Int.not_lt, Int.not_le, ge_iff_le, gt_iff_lt, ne_eq, Bool.false_eq_true, Bool.true_eq_false, not_true_eq_false, not_false_eq_true, Bool.and_eq_true, Bool.not_eq_eq_eq_not, Bool.not_true, Bool.not_false, bne_iff_ne, bne_eq_false_iff_eq, Int.toNat_natCast, Nat.mul_one, Nat.add_zero, Nat.zero_add, List.take_length, List.drop_zero] at h6)
                        all_goals
                          refine Tree.GivesP.ret ?_ ?_
                          · (try (have h1' : ¬ (h = k ∧ l = m) := by simpa using h1)); simp only [AV.le, true_and, cmpZ, numW]; (try split) <;> (try split) <;> omega
                          · simp only [AV.leL, AV.le, Mem.le, Mem.leP, Blk.le, Blk.pad, Data.le, Data.size, Cap.le, and_true, true_and, and_self, true_implies, implies_true, imp_self, List.length_nil]
                      · (try simp only [decide_eq_true_eq, decide_eq_false_iff_not, Bool.not_eq_true', Bool.not_eq_false', beq_iff_eq, beq_eq_false_iff_ne, Int.not_lt, Int.not_le, ge_iff_le, gt_iff_lt, ne_eq, Bool.false_eq_true, Bool.true_eq_false, not_true_eq_false, not_false_eq_true, Bool.and_eq_true, Bool.not_eq_eq_eq_not, Bool.not_true, Bool.not_false, bne_iff_ne, bne_eq_false_iff_eq, Int.toNat_natCast, Nat.mul_one, Nat.add_zero, Nat.zero_add, List.take_length, List.drop_zero] at h6)
                        all_goals
                          refine Tree.GivesP.br (fun h7 => ?_) (fun h7 => ?_)
                          · (try simp only [decide_eq_true_eq, decide_eq_false_iff_not, Bool.not_eq_true', Bool.not_eq_false', beq_iff_eq, beq_eq_false_iff_ne, Int.not_lt, Int.not_le, ge_iff_le, gt_iff_lt, ne_eq, Bool.false_eq_true, Bool.true_eq_false, not_true_eq_false, not_false_eq_true, Bool.and_eq_true, Bool.not_eq_eq_eq_not, Bool.not_true, Bool.not_false, bne_iff_ne, bne_eq_false_iff_eq, Int.toNat_natCast, Nat.mul_one, Nat.add_zero, Nat.zero_add, List.take_length, List.drop_zero] at h7)
                            all_goals
                              refine Tree.GivesP.ret ?_ ?_
                              · (try (have h1' : ¬ (h = k ∧ l = m) := by simpa using h1)); simp only [AV.le, true_and, cmpZ, numW]; (try split) <;> (try split) <;> omega
                              · simp only [AV.leL, AV.le, Mem.le, Mem.leP, Blk.le, Blk.pad, Data.le, Data.size, Cap.le, and_true, true_and, and_self, true_implies, implies_true, imp_self, List.length_nil]
                          · (try simp only [decide_eq_true_eq, decide_eq_false_iff_not, Bool.not_eq_true', Bool.not_eq_false', beq_iff_eq, beq_eq_false_iff_ne, Int.not_lt, Int.not_le, ge_iff_le, gt_iff_lt, ne_eq, Bool.false_eq_true, Bool.true_eq_false, not_true_eq_false, not_false_eq_true, Bool.and_eq_true, Bool.not_eq_eq_eq_not, Bool.not_true, Bool.not_false, bne_iff_ne, bne_eq_false_iff_eq, Int.toNat_natCast, Nat.mul_one, Nat.add_zero, Nat.zero_add, List.take_length, List.drop_zero] at h7)
                            all_goals
                              refine Tree.GivesP.ret ?_ ?_
                              · (try (have h1' : ¬ (h = k ∧ l = m) := by simpa using h1)); simp only [AV.le, true_and, cmpZ, numW]; (try split) <;> (try split) <;> omega
                              · simp only [AV.leL, AV.le, Mem.le, Mem.leP, Blk.le, Blk.pad, Data.le, Data.size, Cap.le, and_true, true_and, and_self, true_implies, implies_true, imp_self, List.length_nil]
          · (try simp only [decide_eq_true_eq, decide_eq_false_iff_not, Bool.not_eq_true', Bool.not_eq_false', beq_iff_eq, beq_eq_false_iff_ne, Int.not_lt, Int.not_le, ge_iff_le, gt_iff_lt, ne_eq, Bool.false_eq_true, Bool.true_eq_false, not_true_eq_false, not_false_eq_true, Bool.and_eq_true, Bool.not_eq_eq_eq_not, Bool.not_true, Bool.not_false, bne_iff_ne, bne_eq_false_iff_eq, Int.toNat_natCast, Nat.mul_one, Nat.add_zero, Nat.zero_add, List.take_length, List.drop_zero] at h3)
            all_goals
              refine Tree.GivesP.br (fun h4 => ?_) (fun h4 => ?_)
              · (try simp only [decide_eq_true_eq, decide_eq_false_iff_not, Bool.not_eq_true', Bool.not_eq_false', beq_iff_eq, beq_eq_false_iff_ne, Int.not_lt, Int.not_le, ge_iff_le, gt_iff_lt, ne_eq, Bool.false_eq_true, Bool.true_eq_false, not_true_eq_false, not_false_eq_true, Bool.and_eq_true, Bool.not_eq_eq_eq_not, Bool.not_true, Bool.not_false, bne_iff_ne, bne_eq_false_iff_eq, Int.toNat_natCast, Nat.mul_one, Nat.add_zero, Nat.zero_add, List.take_length, List.drop_zero] at h4)
                all_goals
                  refine Tree.GivesP.br (fun h5 => ?_) (fun h5 => ?_)
                  · (try simp only [decide_eq_true_eq, decide_eq_false_iff_not, Bool.not_eq_true', Bool.not_eq_false', beq_iff_eq, beq_eq_false_iff_ne, Int.not_lt, Int.not_le, ge_iff_le, gt_iff_lt, ne_eq, Bool.false_eq_true, Bool.true_eq_false, not_true_eq_false, not_false_eq_true, Bool.and_eq_true, Bool.not_eq_eq_eq_not, Bool.not_true, Bool.not_false, bne_iff_ne, bne_eq_false_iff_eq, Int.toNat_natCast, Nat.mul_one, Nat.add_zero, Nat.zero_add, List.take_length, List.drop_zero] at h5)
                    all_goals
                      refine Tree.GivesP.br (fun h6 => ?_) (fun h6 => ?_)
                      · (try simp only [decide_eq_true_eq, decide_eq_false_iff_not, Bool.not_eq_true', Bool.not_eq_false', beq_iff_eq, beq_eq_false_iff_ne, Int.not_lt, Int.not_le, ge_iff_le, gt_iff_lt, ne_eq, Bool.false_eq_true, Bool.true_eq_false, not_true_eq_false, not_false_eq_true, Bool.and_eq_true, Bool.not_eq_eq_eq_not, Bool.not_true, Bool.not_false, bne_iff_ne, bne_eq_false_iff_eq, Int.toNat_natCast, Nat.mul_one, Nat.add_zero, Nat.zero_add, List.take_length, List.drop_zero] at h6)
                        all_goals
                          refine Tree.GivesP.ret ?_ ?_
                          · (try (have h1' : ¬ (h = k ∧ l = m) := by simpa using h1)); simp only [AV.le, true_and, cmpZ, numW]; (try split) <;> (try split) <;> omega
                          · simp only [AV.leL, AV.le, Mem.le, Mem.leP, Blk.le, Blk.pad, Data.le, Data.size, Cap.le, and_true, true_and, and_self, true_implies, implies_true, imp_self, List.length_nil]
                      · (try simp only [decide_eq_true_eq, decide_eq_false_iff_not, Bool.not_eq_true', Bool.not_eq_false', beq_iff_eq, beq_eq_false_iff_ne, Int.not_lt, Int.not_le, ge_iff_le, gt_iff_lt, ne_eq, Bool.false_eq_true, Bool.true_eq_false, not_true_eq_false, not_false_eq_true, Bool.and_eq_true, Bool.not_eq_eq_eq_not, Bool.not_true, Bool.not_false, bne_iff_ne, bne_eq_false_iff_eq, Int.toNat_natCast, Nat.mul_one, Nat.add_zero, Nat.zero_add, List.take_length, List.drop_zero] at h6)
                        all_goals
                          refine Tree.GivesP.ret ?_ ?_
                          · (try (have h1' : ¬ (h = k ∧ l = m) := by simpa using h1)); simp only [AV.le, true_and, cmpZ, numW]; (try split) <;> (try split) <;> omega
                          · simp only [AV.leL, AV.le, Mem.le, Mem.leP, Blk.le, Blk.pad, Data.le, Data.size, Cap.le, and_true, true_and, and_self, true_implies, implies_true, imp_self, List.length_nil]
                  · (try simp only [decide_eq_true_eq, decide_eq_false_iff_not, Bool.not_eq_true', Bool.not_eq_false', beq_iff_eq, beq_eq_false_iff_ne, Int.not_lt, Int.not_le, ge_iff_le, gt_iff_lt, ne_eq, Bool.false_eq_true, Bool.true_eq_false, not_true_eq_false, not_false_eq_true, Bool.and_eq_true, Bool.not_eq_eq_eq_not, Bool.not_true, Bool.not_false, bne_iff_ne, bne_eq_false_iff_eq, Int.toNat_natCast, Nat.mul_one, Nat.add_zero, Nat.zero_add, List.take_length, List.drop_zero] at h5)
                    all_goals
                      refine Tree.GivesP.br (fun h6 => ?_) (fun h6 => ?_)
                      · (try simp only [decide_eq_true_eq, decide_eq_false_iff_not, Bool.not_eq_true', Bool.not_eq_false', beq_iff_eq, beq_eq_false_iff_ne, Int.not_lt, Int.not_le, ge_iff_le, gt_iff_lt, ne_eq, Bool.false_eq_true, Bool.true_eq_false, not_true_eq_false, not_false_eq_true, Bool.and_eq_true, Bool.not_eq_eq_eq_not, Bool.not_true, Bool.not_false, bne_iff_ne, bne_eq_false_iff_eq, Int.toNat_natCast, Nat.mul_one, Nat.add_zero, Nat.zero_add, List.take_length, List.drop_zero] at h6)
                        all_goals
                          refine Tree.GivesP.ret ?_ ?_
                          · (try (have h1' : ¬ (h = k ∧ l = m) := by simpa using h1)); simp only [AV.le, true_and, cmpZ, numW]; (try split) <;> (try split) <;> omega
                          · simp only [AV.leL, AV.le, Mem.le, Mem.leP, Blk.le, Blk.pad, Data.le, Data.size, Cap.le, and_true, true_and, and_self, true_implies, implies_true, imp_self, List.length_nil]
                      · (try simp only [decide_eq_true_eq, decide_eq_false_iff_not, Bool.not_eq_true', Bool.not_eq_false', beq_iff_eq, beq_eq_false_iff_ne, Int.not_lt, Int.not_le, ge_iff_le, gt_iff_lt, ne_eq, Bool.false_eq_true, Bool.true_eq_false, not_true_eq_false, not_false_eq_true, Bool.and_eq_true, Bool.not_eq_eq_eq_not, Bool.not_true, Bool.not_false, bne_iff_ne, bne_eq_false_iff_eq, Int.toNat_natCast, Nat.mul_one, Nat.add_zero, Nat.zero_add, List.take_length, List.drop_zero] at h6)
                        all_goals
                          refine Tree.GivesP.br (fun h7 => ?_) (fun h7 => ?_)
                          · (try simp only [decide_eq_true_eq, decide_eq_false_iff_not, Bool.not_eq_true', Bool.not_eq_false', beq_iff_eq, beq_eq_false_iff_ne, Int.not_lt, Int.not_le, ge_iff_le, gt_iff_lt, ne_eq, Bool.false_eq_true, Bool.true_eq_false, not_true_eq_false, not_false_eq_true, Bool.and_eq_true, Bool.not_eq_eq_eq_not, Bool.not_true, Bool.not_false, bne_iff_ne, bne_eq_false_iff_eq, Int.toNat_natCast, Nat.mul_one, Nat.add_zero, Nat.zero_add, List.take_length, List.drop_zero] at h7)
                            all_goals
                              refine Tree.GivesP.ret ?_ ?_
                              · (try (have h1' : ¬ (h = k ∧ l = m) := by simpa using h1)); simp only [AV.le, true_and, cmpZ, numW]; (try split) <;> (try split) <;> omega
                              · simp only [AV.leL, AV.le, Mem.le, Mem.leP, Blk.le, Blk.pad, Data.le, Data.size, Cap.le, and_true, true_and, and_self, true_implies, implies_true, imp_self, List.length_nil]
                          · (try simp only [decide_eq_true_eq, decide_eq_false_iff_not, Bool.not_eq_true', Bool.not_eq_false', beq_iff_eq, beq_eq_false_iff_ne, Int.not_lt, Int.not_le, ge_iff_le, gt_iff_lt, ne_eq, Bool.false_eq_true, Bool.true_eq_false, not_true_eq_false, not_false_eq_true, Bool.and_eq_true, Bool.not_eq_eq_eq_not, Bool.not_true, Bool.not_false, bne_iff_ne, bne_eq_false_iff_eq, Int.toNat_natCast, Nat.mul_one, Nat.add_zero, Nat.zero_add, List.take_length, List.drop_zero] at h7)
                            all_goals
                              refine Tree.GivesP.br (fun h8 => ?_) (fun h8 => ?_)
                              · (try simp only [decide_eq_true_eq, decide_eq_false_iff_not, Bool.not_eq_true', Bool.not_eq_false', beq_iff_eq, beq_eq_false_iff_ne, Int.not_lt, Int.not_le, ge_iff_le, gt_iff_lt, ne_eq, Bool.false_eq_true, Bool.true_eq_false, not_true_eq_false, not_false_eq_true, Bool.and_eq_true, Bool.not_eq_eq_eq_not, Bool.not_true, Bool.not_false, bne_iff_ne, bne_eq_false_iff_eq, Int.toNat_natCast, Nat.mul_one, Nat.add_zero, Nat.zero_add, List.take_length, List.drop_zero] at h8)
                                all_goals
                                  refine Tree.GivesP.ret ?_ ?_
                                  · (try (have h1' : ¬ (h = k ∧ l = m) := by simpa using h1)); simp only [AV.le, true_and, cmpZ, numW]; (try split) <;> (try split) <;> omega
                                  · simp only [AV.leL, AV.le, Mem.le, Mem.leP, Blk.le, Blk.pad, Data.le, Data.size, Cap.le, and_true, true_and, and_self, true_implies, implies_true, imp_self, List.length_nil]
                              · (try simp only [decide_eq_true_eq, decide_eq_false_iff_not, Bool.not_eq_true', Bool.not_eq_false', beq_iff_eq, beq_eq_false_iff_ne, Int.not_lt, Int.not_le, ge_iff_le, gt_iff_lt, ne_eq, Bool.false_eq_true, Bool.true_eq_false, not_true_eq_false, not_false_eq_true, Bool.and_eq_true, Bool.not_eq_eq_eq_not, Bool.not_true, Bool.not_false, bne_iff_ne, bne_eq_false_iff_eq, Int.toNat_natCast, Nat.mul_one, Nat.add_zero, Nat.zero_add, List.take_length, List.drop_zero] at h8)
                                all_goals
                                  refine Tree.GivesP.ret ?_ ?_
                                  · (try (have h1' : ¬ (h = k ∧ l = m) := by simpa using h1)); simp only [AV.le, true_and, cmpZ, numW]; (try split) <;> (try split) <;> omega
                                  · simp only [AV.leL, AV.le, Mem.le, Mem.leP, Blk.le, Blk.pad, Data.le, Data.size, Cap.le, and_true, true_and, and_self, true_implies, implies_true, imp_self, List.length_nil]
              · (try simp only [decide_eq_true_eq, decide_eq_false_iff_not, Bool.not_eq_true', Bool.not_eq_false', beq_iff_eq, beq_eq_false_iff_ne, Int.not_lt, Int.not_le, ge_iff_le, gt_iff_lt, ne_eq, Bool.false_eq_true, Bool.true_eq_false, not_true_eq_false, not_false_eq_true, Bool.and_eq_true, Bool.not_eq_eq_eq_not, Bool.not_true, Bool.not_false, bne_iff_ne, bne_eq_false_iff_eq, Int.toNat_natCast, Nat.mul_one, Nat.add_zero, Nat.zero_add, List.take_length, List.drop_zero] at h4)
                all_goals
                  refine Tree.GivesP.br (fun h5 => ?_) (fun h5 => ?_)
                  · (try simp only [decide_eq_true_eq, decide_eq_false_iff_not, Bool.not_eq_true', Bool.not_eq_false', beq_iff_eq, beq_eq_false_iff_ne, Int.not_lt, Int.not_le, ge_iff_le, gt_iff_lt, ne_eq, Bool.false_eq_true, Bool.true_eq_false, not_true_eq_false, not_false_eq_true, Bool.and_eq_true, Bool.not_eq_eq_eq_not, Bool.not_true, Bool.not_false, bne_iff_ne, bne_eq_false_iff_eq, Int.toNat_natCast, Nat.mul_one, Nat.add_zero, Nat.zero_add, List.take_length, List.drop_zero] at h5)
                    all_goals
                      refine Tree.GivesP.br (fun h6 => ?_) (fun h6 => ?_)
                      · (try simp only [decide_eq_true_eq, decide_eq_false_iff_not, Bool.not_eq_true', Bool.not_eq_false', beq_iff_eq, beq_eq_false_iff_ne, Int.not_lt, Int.not_le, ge_iff_le, gt_iff_lt, ne_eq, Bool.false_eq_true, Bool.true_eq_false, not_true_eq_false, not_false_eq_true, Bool.and_eq_true, Bool.not_eq_eq_eq_not, Bool.not_true, Bool.not_false, bne_iff_ne, bne_eq_false_iff_eq, Int.toNat_natCast, Nat.mul_one, Nat.add_zero, Nat.zero_add, List.take_length, List.drop_zero] at h6)
                        all_goals
                          refine Tree.GivesP.br (fun h7 => ?_) (fun h7 => ?_)
                          · (try simp only [decide_eq_true_eq, decide_eq_false_iff_not, Bool.not_eq_true', Bool.not_eq_false', beq_iff_eq, beq_eq_false_iff_ne, Int.not_lt, Int.not_le, ge_iff_le, gt_iff_lt, ne_eq, Bool.false_eq_true, Bool.true_eq_false, not_true_eq_false, not_false_eq_true, Bool.and_eq_true, Bool.not_eq_eq_eq_not, Bool.not_true, Bool.not_false, bne_iff_ne, bne_eq_false_iff_eq, Int.toNat_natCast, Nat.mul_one, Nat.add_zero, Nat.zero_add, List.take_length, List.drop_zero] at h7)
                            all_goals
                              refine Tree.GivesP.ret ?_ ?_
                              · (try (have h1' : ¬ (h = k ∧ l = m) := by simpa using h1)); simp only [AV.le, true_and, cmpZ, numW]; (try split) <;> (try split) <;> omega
                              · simp only [AV.leL, AV.le, Mem.le, Mem.leP, Blk.le, Blk.pad, Data.le, Data.size, Cap.le, and_true, true_and, and_self, true_implies, implies_true, imp_self, List.length_nil]
                          · (try simp only [decide_eq_true_eq, decide_eq_false_iff_not, Bool.not_eq_true', Bool.not_eq_false', beq_iff_eq, beq_eq_false_iff_ne, Int.not_lt, Int.not_le, ge_iff_le, gt_iff_lt, ne_eq, Bool.false_eq_true, Bool.true_eq_false, not_true_eq_false, not_false_eq_true, Bool.and_eq_true, Bool.not_eq_eq_eq_not, Bool.not_true, Bool.not_false, bne_iff_ne, bne_eq_false_iff_eq, Int.toNat_natCast, Nat.mul_one, Nat.add_zero, Nat.zero_add, List.take_length, List.drop_zero] at h7)
                            all_goals
                              refine Tree.GivesP.ret ?_ ?_
                              · (try (have h1' : ¬ (h = k ∧ l = m) := by simpa using h1)); simp only [AV.le, true_and, cmpZ, numW]; (try split) <;> (try split) <;> omega
                              · simp only [AV.leL, AV.le, Mem.le, Mem.leP, Blk.le, Blk.pad, Data.le, Data.size, Cap.le, and_true, true_and, and_self, true_implies, implies_true, imp_self, List.length_nil]
                      · (try simp only [decide_eq_true_eq, decide_eq_false_iff_not, Bool.not_eq_true', Bool.not_eq_false', beq_iff_eq, beq_eq_false_iff_ne, Int.not_lt, Int.not_le, ge_iff_le, gt_iff_lt, ne_eq, Bool.false_eq_true, Bool.true_eq_false, not_true_eq_false, not_false_eq_true, Bool.and_eq_true, Bool.not_eq_eq_eq_not, Bool.not_true, Bool.not_false, bne_iff_ne, bne_eq_false_iff_eq, Int.toNat_natCast, Nat.mul_one, Nat.add_zero, Nat.zero_add, List.take_length, List.drop_zero] at h6)
                        all_goals
                          refine Tree.GivesP.br (fun h7 => ?_) (fun h7 => ?_)
                          · (try simp only [decide_eq_true_eq, decide_eq_false_iff_not, Bool.not_eq_true', Bool.not_eq_false', beq_iff_eq, beq_eq_false_iff_ne, Int.not_lt, Int.not_le, ge_iff_le, gt_iff_lt, ne_eq, Bool.false_eq_true, Bool.true_eq_false, not_true_eq_false, not_false_eq_true, Bool.and_eq_true, Bool.not_eq_eq_eq_not, Bool.not_true, Bool.not_false, bne_iff_ne, bne_eq_false_iff_eq, Int.toNat_natCast, Nat.mul_one, Nat.add_zero, Nat.zero_add, List.take_length, List.drop_zero] at h7)
                            all_goals
                              refine Tree.GivesP.ret ?_ ?_
                              · (try (have h1' : ¬ (h = k ∧ l = m) := by simpa using h1)); simp only [AV.le, true_and, cmpZ, numW]; (try split) <;> (try split) <;> omega
                              · simp only [AV.leL, AV.le, Mem.le, Mem.leP, Blk.le, Blk.pad, Data.le, Data.size, Cap.le, and_true, true_and, and_self, true_implies, implies_true, imp_self, List.length_nil]
                          · (try simp only [decide_eq_true_eq, decide_eq_false_iff_not, Bool.not_eq_true', Bool.not_eq_false', beq_iff_eq, beq_eq_false_iff_ne, Int.not_lt, Int.not_le, ge_iff_le, gt_iff_lt, ne_eq, Bool.false_eq_true, Bool.true_eq_false, not_true_eq_false, not_false_eq_true, Bool.and_eq_true, Bool.not_eq_eq_eq_not, Bool.not_true, Bool.not_false, bne_iff_ne, bne_eq_false_iff_eq, Int.toNat_natCast, Nat.mul_one, Nat.add_zero, Nat.zero_add, List.take_length, List.drop_zero] at h7)
                            all_goals
                              refine Tree.GivesP.br (fun h8 => ?_) (fun h8 => ?_)
                              · (try simp only [decide_eq_true_eq, decide_eq_false_iff_not, Bool.not_eq_true', Bool.not_eq_false', beq_iff_eq, beq_eq_false_iff_ne, Int.not_lt, Int.not_le, ge_iff_le, gt_iff_lt, ne_eq, Bool.false_eq_true, Bool.true_eq_false, not_true_eq_false, not_false_eq_true, Bool.and_eq_true, Bool.not_eq_eq_eq_not, Bool.not_true, Bool.not_false, bne_iff_ne, bne_eq_false_iff_eq, Int.toNat_natCast, Nat.mul_one, Nat.add_zero, Nat.zero_add, List.take_length, List.drop_zero] at h8)
                                all_goals
                                  refine Tree.GivesP.ret ?_ ?_
                                  · (try (have h1' : ¬ (h = k ∧ l = m) := by simpa using h1)); simp only [AV.le, true_and, cmpZ, numW]; (try split) <;> (try split) <;> omega
                                  · simp only [AV.leL, AV.le, Mem.le, Mem.leP, Blk.le, Blk.pad, Data.le, Data.size, Cap.le, and_true, true_and, and_self, true_implies, implies_true, imp_self, List.length_nil]
                              · (try simp only [decide_eq_true_eq, decide_eq_false_iff_not, Bool.not_eq_true', Bool.not_eq_false', beq_iff_eq, beq_eq_false_iff_ne, Int.not_lt, Int.not_le, ge_iff_le, gt_iff_lt, ne_eq, Bool.false_eq_true, Bool.true_eq_false, not_true_eq_false, not_false_eq_true, Bool.and_eq_true, Bool.not_eq_eq_eq_not, Bool.not_true, Bool.not_false, bne_iff_ne, bne_eq_false_iff_eq, Int.toNat_natCast, Nat.mul_one, Nat.add_zero, Nat.zero_add, List.take_length, List.drop_zero] at h8)
                                all_goals
                                  refine Tree.GivesP.br (fun h9 => ?_) (fun h9 => ?_)
                                  · (try simp only [decide_eq_true_eq, decide_eq_false_iff_not, Bool.not_eq_true', Bool.not_eq_false', beq_iff_eq, beq_eq_false_iff_ne, Int.not_lt, Int.not_le, ge_iff_le, gt_iff_lt, ne_eq, Bool.false_eq_true, Bool.true_eq_false, not_true_eq_false, not_false_eq_true, Bool.and_eq_true, Bool.not_eq_eq_eq_not, Bool.not_true, Bool.not_false, bne_iff_ne, bne_eq_false_iff_eq, Int.toNat_natCast, Nat.mul_one, Nat.add_zero, Nat.zero_add, List.take_length, List.drop_zero] at h9)
                                    all_goals
                                      refine Tree.GivesP.ret ?_ ?_
                                      · (try (have h1' : ¬ (h = k ∧ l = m) := by simpa using h1)); simp only [AV.le, true_and, cmpZ, numW]; (try split) <;> (try split) <;> omega
                                      · simp only [AV.leL, AV.le, Mem.le, Mem.leP, Blk.le, Blk.pad, Data.le, Data.size, Cap.le, and_true, true_and, and_self, true_implies, implies_true, imp_self, List.length_nil]
                                  · (try simp only [decide_eq_true_eq, decide_eq_false_iff_not, Bool.not_eq_true', Bool.not_eq_false', beq_iff_eq, beq_eq_false_iff_ne, Int.not_lt, Int.not_le, ge_iff_le, gt_iff_lt, ne_eq, Bool.false_eq_true, Bool.true_eq_false, not_true_eq_false, not_false_eq_true, Bool.and_eq_true, Bool.not_eq_eq_eq_not, Bool.not_true, Bool.not_false, bne_iff_ne, bne_eq_false_iff_eq, Int.toNat_natCast, Nat.mul_one, Nat.add_zero, Nat.zero_add, List.take_length, List.drop_zero] at h9)
                                    all_goals
                                      refine Tree.GivesP.ret ?_ ?_
                                      · (try (have h1' : ¬ (h = k ∧ l = m) := by simpa using h1)); simp only [AV.le, true_and, cmpZ, numW]; (try split) <;> (try split) <;> omega
                                      · simp only [AV.leL, AV.le, Mem.le, Mem.leP, Blk.le, Blk.pad, Data.le, Data.size, Cap.le, and_true, true_and, and_self, true_implies, implies_true, imp_self, List.length_nil]
                  · (try simp only [decide_eq_true_eq, decide_eq_false_iff_not, Bool.not_eq_true', Bool.not_eq_false', beq_iff_eq, beq_eq_false_iff_ne, Int.not_lt, Int.not_le, ge_iff_le, gt_iff_lt, ne_eq, Bool.false_eq_true, Bool.true_eq_false, not_true_eq_false, not_false_eq_true, Bool.and_eq_true, Bool.not_eq_eq_eq_not, Bool.not_true, Bool.not_false, bne_iff_ne, bne_eq_false_iff_eq, Int.toNat_natCast, Nat.mul_one, Nat.add_zero, Nat.zero_add, List.take_length, List.drop_zero] at h5)
                    all_goals
                      refine Tree.GivesP.br (fun h6 => ?_) (fun h6 => ?_)
                      · (try simp only [decide_eq_true_eq, decide_eq_false_iff_not, Bool.not_eq_true', Bool.not_eq_false', beq_iff_eq, beq_eq_false_iff_ne, Int.not_lt, Int.not_le, ge_iff_le, gt_iff_lt, ne_eq, Bool.false_eq_true, Bool.true_eq_false, not_true_eq_false, not_false_eq_true, Bool.and_eq_true, Bool.not_eq_eq_eq_not, Bool.not_true, Bool.not_false, bne_iff_ne, bne_eq_false_iff_eq, Int.toNat_natCast, Nat.mul_one, Nat.add_zero, Nat.zero_add, List.take_length, List.drop_zero] at h6)
                        all_goals
                          refine Tree.GivesP.br (fun h7 => ?_) (fun h7 => ?_)
                          · (try simp only [decide_eq_true_eq, decide_eq_false_iff_not, Bool.not_eq_true', Bool.not_eq_false', beq_iff_eq, beq_eq_false_iff_ne, Int.not_lt, Int.not_le, ge_iff_le, gt_iff_lt, ne_eq, Bool.false_eq_true, Bool.true_eq_false, not_true_eq_false, not_false_eq_true, Bool.and_eq_true, Bool.not_eq_eq_eq_not, Bool.not_true, Bool.not_false, bne_iff_ne, bne_eq_false_iff_eq, Int.toNat_natCast, Nat.mul_one, Nat.add_zero, Nat.zero_add, List.take_length, List.drop_zero] at h7)
                            all_goals
                              refine Tree.GivesP.ret ?_ ?_
                              · (try (have h1' : ¬ (h = k ∧ l = m) := by simpa using h1)); simp only [AV.le, true_and, cmpZ, numW]; (try split) <;> (try split) <;> omega
                              · simp only [AV.leL, AV.le, Mem.le, Mem.leP, Blk.le, Blk.pad, Data.le, Data.size, Cap.le, and_true, true_and, and_self, true_implies, implies_true, imp_self, List.length_nil]
                          · (try simp only [decide_eq_true_eq, decide_eq_false_iff_not, Bool.not_eq_true', Bool.not_eq_false', beq_iff_eq, beq_eq_false_iff_ne, Int.not_lt, Int.not_le, ge_iff_le, gt_iff_lt, ne_eq, Bool.false_eq_true, Bool.true_eq_false, not_true_eq_false, not_false_eq_true, Bool.and_eq_true, Bool.not_eq_eq_eq_not, Bool.not_true, Bool.not_false, bne_iff_ne, bne_eq_false_iff_eq, Int.toNat_natCast, Nat.mul_one, Nat.add_zero, Nat.zero_add, List.take_length, List.drop_zero] at h7)
                            all_goals
                              refine Tree.GivesP.ret ?_ ?_
                              · (try (have h1' : ¬ (h = k ∧ l = m) := by simpa using h1)); simp only [AV.le, true_and, cmpZ, numW]; (try split) <;> (try split) <;> omega
                              · simp only [AV.leL, AV.le, Mem.le, Mem.leP, Blk.le, Blk.pad, Data.le, Data.size, Cap.le, and_true, true_and, and_self, true_implies, implies_true, imp_self, List.length_nil]
                      · (try simp only [decide_eq_true_eq, decide_eq_false_iff_not, Bool.not_eq_true', Bool.not_eq_false', beq_iff_eq, beq_eq_false_iff_ne, Int.not_lt, Int.not_le, ge_iff_le, gt_iff_lt, ne_eq, Bool.false_eq_true, Bool.true_eq_false, not_true_eq_false, not_false_eq_true, Bool.and_eq_true, Bool.not_eq_eq_eq_not, Bool.not_true, Bool.not_false, bne_iff_ne, bne_eq_false_iff_eq, Int.toNat_natCast, Nat.mul_one, Nat.add_zero, Nat.zero_add, List.take_length, List.drop_zero] at h6)
                        all_goals
                          refine Tree.GivesP.br (fun h7 => ?_) (fun h7 => ?_)
                          · (try simp only [decide_eq_true_eq, decide_eq_false_iff_not, Bool.not_eq_true', Bool.not_eq_false', beq_iff_eq, beq_eq_false_iff_ne, Int.not_lt, Int.not_le, ge_iff_le, gt_iff_lt, ne_eq, Bool.false_eq_true, Bool.true_eq_false, not_true_eq_false, not_false_eq_true, Bool.and_eq_true, Bool.not_eq_eq_eq_not, Bool.not_true, Bool.not_false, bne_iff_ne, bne_eq_false_iff_eq, Int.toNat_natCast, Nat.mul_one, Nat.add_zero, Nat.zero_add, List.take_length, List.drop_zero] at h7)
                            all_goals
                              refine Tree.GivesP.ret ?_ ?_
                              · (try (have h1' : ¬ (h = k ∧ l = m) := by simpa using h1)); simp only [AV.le, true_and, cmpZ, numW]; (try split) <;> (try split) <;> omega
                              · simp only [AV.leL, AV.le, Mem.le, Mem.leP, Blk.le, Blk.pad, Data.le, Data.size, Cap.le, and_true, true_and, and_self, true_implies, implies_true, imp_self, List.length_nil]
                          · (try simp only [decide_eq_true_eq, decide_eq_false_iff_not, Bool.not_eq_true', Bool.not_eq_false', beq_iff_eq, beq_eq_false_iff_ne, Int.not_lt, Int.not_le, ge_iff_le, gt_iff_lt, ne_eq, Bool.false_eq_true, Bool.true_eq_false, not_true_eq_false, not_false_eq_true, Bool.and_eq_true, Bool.not_eq_eq_eq_not, Bool.not_true, Bool.not_false, bne_iff_ne, bne_eq_false_iff_eq, Int.toNat_natCast, Nat.mul_one, Nat.add_zero, Nat.zero_add, List.take_length, List.drop_zero] at h7)
                            all_goals
                              refine Tree.GivesP.br (fun h8 => ?_) (fun h8 => ?_)
                              · (try simp only [decide_eq_true_eq, decide_eq_false_iff_not, Bool.not_eq_true', Bool.not_eq_false', beq_iff_eq, beq_eq_false_iff_ne, Int.not_lt, Int.not_le, ge_iff_le, gt_iff_lt, ne_eq, Bool.false_eq_true, Bool.true_eq_false, not_true_eq_false, not_false_eq_true, Bool.and_eq_true, Bool.not_eq_eq_eq_not, Bool.not_true, Bool.not_false, bne_iff_ne, bne_eq_false_iff_eq, Int.toNat_natCast, Nat.mul_one, Nat.add_zero, Nat.zero_add, List.take_length, List.drop_zero] at h8)
                                all_goals
                                  refine Tree.GivesP.ret ?_ ?_
                                  · (try (have h1' : ¬ (h = k ∧ l = m) := by simpa using h1)); simp only [AV.le, true_and, cmpZ, numW]; (try split) <;> (try split) <;> omega
                                  · simp only [AV.leL, AV.le, Mem.le, Mem.leP, Blk.le, Blk.pad, Data.le, Data.size, Cap.le, and_true, true_and, and_self, true_implies, implies_true, imp_self, List.length_nil]
                              · (try simp only [decide_eq_true_eq, decide_eq_false_iff_not, Bool.not_eq_true', Bool.not_eq_false', beq_iff_eq, beq_eq_false_iff_ne, Int.not_lt, Int.not_le, ge_iff_le, gt_iff_lt, ne_eq, Bool.false_eq_true, Bool.true_eq_false, not_true_eq_false, not_false_eq_true, Bool.and_eq_true, Bool.not_eq_eq_eq_not, Bool.not_true, Bool.not_false, bne_iff_ne, bne_eq_false_iff_eq, Int.toNat_natCast, Nat.mul_one, Nat.add_zero, Nat.zero_add, List.take_length, List.drop_zero] at h8)
                                all_goals
                                  refine Tree.GivesP.br (fun h9 => ?_) (fun h9 => ?_)
                                  · (try simp only [decide_eq_true_eq, decide_eq_false_iff_not, Bool.not_eq_true', Bool.not_eq_false', beq_iff_eq, beq_eq_false_iff_ne, Int.not_lt, Int.not_le, ge_iff_le, gt_iff_lt, ne_eq, Bool.false_eq_true, Bool.true_eq_false, not_true_eq_false, not_false_eq_true, Bool.and_eq_true, Bool.not_eq_eq_eq_not, Bool.not_true, Bool.not_false, bne_iff_ne, bne_eq_false_iff_eq, Int.toNat_natCast, Nat.mul_one, Nat.add_zero, Nat.zero_add, List.take_length, List.drop_zero] at h9)
                                    all_goals
                                      refine Tree.GivesP.ret ?_ ?_
                                      · (try (have h1' : ¬ (h = k ∧ l = m) := by simpa using h1)); simp only [AV.le, true_and, cmpZ, numW]; (try split) <;> (try split) <;> omega
                                      · simp only [AV.leL, AV.le, Mem.le, Mem.leP, Blk.le, Blk.pad, Data.le, Data.size, Cap.le, and_true, true_and, and_self, true_implies, implies_true, imp_self, List.length_nil]
                                  · (try simp only [decide_eq_true_eq, decide_eq_false_iff_not, Bool.not_eq_true', Bool.not_eq_false', beq_iff_eq, beq_eq_false_iff_ne, Int.not_lt, Int.not_le, ge_iff_le, gt_iff_lt, ne_eq, Bool.false_eq_true, Bool.true_eq_false, not_true_eq_false, not_false_eq_true, Bool.and_eq_true, Bool.not_eq_eq_eq_not, Bool.not_true, Bool.not_false, bne_iff_ne, bne_eq_false_iff_eq, Int.toNat_natCast, Nat.mul_one, Nat.add_zero, Nat.zero_add, List.take_length, List.drop_zero] at h9)
                                    all_goals
                                      refine Tree.GivesP.ret ?_ ?_
                                      · (try (have h1' : ¬ (h = k ∧ l = m) := by simpa using h1)); simp only [AV.le, true_and, cmpZ, numW]; (try split) <;> (try split) <;> omega
                                      · simp only [AV.leL, AV.le, Mem.le, Mem.leP, Blk.le, Blk.pad, Data.le, Data.size, Cap.le, and_true, true_and, and_self, true_implies, implies_true, imp_self, List.length_nil]
theorem scompare (hall : AllOk Try.prog 0 (fun _ => none) tab10) (h : Int) (l : Int) (k : Int) (m : Int) (hw : -9223372036854775808 ≤ h ∧ h ≤ 9223372036854775807 ∧ -9223372036854775808 ≤ k ∧ k ≤ 9223372036854775807 ∧ 0 ≤ l ∧ l ≤ 18446744073709551615 ∧ 0 ≤ m ∧ m ≤ 18446744073709551615) : SoundAt (mkC Try.prog 0 (fun _ => none) []) 24 [.agg [.int .i64 false h, .int .u64 false l], .agg [.int .i64 false k, .int .u64 false m]] [] (.int .i64 false (cmpZ (numW h l) (numW k m)), []) := sound_ofP hall mix (tcompare h l k m) (gcompare h l k m hw)
theorem Fcompare_ok (hall : AllOk Try.prog 0 (fun _ => none) tab10) : PureF Try.prog 3 24 Fcompare := by
  intro xs c v news h hc
  unfold Fcompare at h
  split at h
  · rename_i _ h _ l _ k _ m
    cases h
    refine ⟨(by intro b hb; cases hb), SoundAt.flags (scompare hall h l k m hc) ?_⟩
    simp [PA.avs, AV.le, AV.leL, Cap.le]
  · cases h
end Go.Proofs.Ytldknchhgnfncaa.Rig

/- Qamong -/
namespace Go.Proofs.Ytldknchhgnfncaa.Rig
open Go
set_option maxRecDepth 100000 in
theorem tamong (a : Int) (b : Int) : evBody (mkC Try.prog 0 (fun _ => none) tab11) (evCall (mkC Try.prog 0 (fun _ => none) tab11) 50) 10 [.int .i64 false a, .int .i64 false b] [] =
  Tree.br (decide (b < (1 : Int))) (Tree.ret (AV.int IntKind.i64 true (0 : Int), []))
    (Tree.br (!decide (IntKind.wrap IntKind.u64 b = (0 : Int))) (Tree.ret (AV.int IntKind.i64 false (IntKind.wrap IntKind.i64 (Int.tmod (IntKind.wrap IntKind.u64 a) (IntKind.wrap IntKind.u64 b))), [])) Tree.fail) := by kernel_rfl
set_option maxRecDepth 100000 in
theorem gamong (a : Int) (b : Int) (hw : 1 ≤ b ∧ b ≤ 9223372036854775807) : (Tree.br (decide (b < (1 : Int))) (Tree.ret (AV.int IntKind.i64 true (0 : Int), []))
    (Tree.br (!decide (IntKind.wrap IntKind.u64 b = (0 : Int))) (Tree.ret (AV.int IntKind.i64 false (IntKind.wrap IntKind.i64 (Int.tmod (IntKind.wrap IntKind.u64 a) (IntKind.wrap IntKind.u64 b))), [])) Tree.fail) : Tree (AV × Mem)).GivesP (.int .i64 false (amongZ a b)) ([]) := by
  refine Tree.GivesP.br (fun h1 => ?_) (fun h1 => ?_)
  · (try simp only [decide_eq_true_eq, decide_eq_false_iff_not, Bool.not_eq_true', Bool.not_eq_false', beq_iff_eq, beq_eq_false_iff_ne, Int.not_lt, Int.not_le, ge_iff_le, gt_iff_lt, ne_eq, Bool.false_eq_true, Bool.true_eq_false, not_true_eq_false, not_false_eq_true, Bool.and_eq_true, Bool.not_eq_eq_eq_not, Bool.not_true, Bool.not_false, bne_iff_ne, bne_eq_false_iff_eq, Int.toNat_natCast, Nat.mul_one, Nat.add_zero, Nat.zero_add, List.take_length, List.drop_zero] at h1)
    all_goals
      refine Tree.GivesP.ret ?_ ?_
      · first | (exfalso; omega) | (exfalso; simp only [wu64] at *; omega) | (simp only [AV.le, true_and]; exact among_eq hw)
      · simp only [AV.leL, AV.le, Mem.le, Mem.leP, Blk.le, Blk.pad, Data.le, Data.size, Cap.le, and_true, true_and, and_self, true_implies, implies_true, imp_self, List.length_nil]
  · (try simp only [decide_eq_true_eq, decide_eq_false_iff_not, Bool.not_eq_true', Bool.not_eq_false', beq_iff_eq, beq_eq_false_iff_ne, Int.not_lt, Int.not_le, ge_iff_le, gt_iff_lt, ne_eq, Bool.false_eq_true, Bool.true_eq_false, not_true_eq_false, not_false_eq_true, Bool.and_eq_true, Bool.not_eq_eq_eq_not, Bool.not_true, Bool.not_false, bne_iff_ne, bne_eq_false_iff_eq, Int.toNat_natCast, Nat.mul_one, Nat.add_zero, Nat.zero_add, List.take_length, List.drop_zero] at h1)
    all_goals
      refine Tree.GivesP.br (fun h2 => ?_) (fun h2 => ?_)
      · (try simp only [decide_eq_true_eq, decide_eq_false_iff_not, Bool.not_eq_true', Bool.not_eq_false', beq_iff_eq, beq_eq_false_iff_ne, Int.not_lt, Int.not_le, ge_iff_le, gt_iff_lt, ne_eq, Bool.false_eq_true, Bool.true_eq_false, not_true_eq_false, not_false_eq_true, Bool.and_eq_true, Bool.not_eq_eq_eq_not, Bool.not_true, Bool.not_false, bne_iff_ne, bne_eq_false_iff_eq, Int.toNat_natCast, Nat.mul_one, Nat.add_zero, Nat.zero_add, List.take_length, List.drop_zero] at h2)
        all_goals
          refine Tree.GivesP.ret ?_ ?_
          · first | (exfalso; omega) | (exfalso; simp only [wu64] at *; omega) | (simp only [AV.le, true_and]; exact among_eq hw)
          · simp only [AV.leL, AV.le, Mem.le, Mem.leP, Blk.le, Blk.pad, Data.le, Data.size, Cap.le, and_true, true_and, and_self, true_implies, implies_true, imp_self, List.length_nil]
      · (try simp only [decide_eq_true_eq, decide_eq_false_iff_not, Bool.not_eq_true', Bool.not_eq_false', beq_iff_eq, beq_eq_false_iff_ne, Int.not_lt, Int.not_le, ge_iff_le, gt_iff_lt, ne_eq, Bool.false_eq_true, Bool.true_eq_false, not_true_eq_false, not_false_eq_true, Bool.and_eq_true, Bool.not_eq_eq_eq_not, Bool.not_true, Bool.not_false, bne_iff_ne, bne_eq_false_iff_eq, Int.toNat_natCast, Nat.mul_one, Nat.add_zero, Nat.zero_add, List.take_length, List.drop_zero] at h2)
        all_goals
          exfalso
          first | omega | (simp only [wu64] at *; omega)
theorem samong (hall : AllOk Try.prog 0 (fun _ => none) tab11) (a : Int) (b : Int) (hw : 1 ≤ b ∧ b ≤ 9223372036854775807) : SoundAt (mkC Try.prog 0 (fun _ => none) []) 10 [.int .i64 false a, .int .i64 false b] [] (.int .i64 false (amongZ a b), []) := sound_ofP hall mix (tamong a b) (gamong a b hw)
theorem Famong_ok (hall : AllOk Try.prog 0 (fun _ => none) tab11) : PureF Try.prog 3 10 Famong := by
  intro xs c v news h hc
  unfold Famong at h
  split at h
  · rename_i _ a _ b
    cases h
    refine ⟨(by intro b hb; cases hb), SoundAt.flags (samong hall a b hc) ?_⟩
    simp [PA.avs, AV.le, AV.leL, Cap.le]
  · cases h
end Go.Proofs.Ytldknchhgnfncaa.Rig

/- Qmuldown -/
namespace Go.Proofs.Ytldknchhgnfncaa.Rig
open Go
set_option maxRecDepth 100000 in
theorem tmuldown (a : Int) (b : Int) (c : Int) : evBody (mkC Try.prog 0 (fun _ => none) tab12) (evCall (mkC Try.prog 0 (fun _ => none) tab12) 50) 14 [.int .i64 false a, .int .i64 false b, .int .i64 false c] [] =
  Tree.chk ((True ∧ True ∧ True) ∧ (-9223372036854775808 : Int) ≤ a ∧ a ≤ (9223372036854775807 : Int) ∧ (-9223372036854775808 : Int) ≤ b ∧ b ≤ (9223372036854775807 : Int))
    (Tree.chk
      ((True ∧ True ∧ True) ∧
        (-9223372036854775808 : Int) ≤ hiZ (a * b) ∧
          hiZ (a * b) ≤ (9223372036854775807 : Int) ∧ (-9223372036854775808 : Int) ≤ c ∧ c ≤ (9223372036854775807 : Int) ∧ (0 : Int) ≤ loZ (a * b) ∧ loZ (a * b) ≤ (18446744073709551615 : Int))
      (Tree.ret (AV.tup [AV.int IntKind.i64 false (quoV c (numW (hiZ (a * b)) (loZ (a * b)) / c)), AV.int IntKind.i64 false (quoE c (numW (hiZ (a * b)) (loZ (a * b)) / c))], []))) := by kernel_rfl
set_option maxRecDepth 100000 in
theorem gmuldown (a : Int) (b : Int) (c : Int) (hw : -9223372036854775808 ≤ a ∧ a ≤ 9223372036854775807 ∧ -9223372036854775808 ≤ b ∧ b ≤ 9223372036854775807 ∧ -9223372036854775808 ≤ c ∧ c ≤ 9223372036854775807) : (Tree.chk ((True ∧ True ∧ True) ∧ (-9223372036854775808 : Int) ≤ a ∧ a ≤ (9223372036854775807 : Int) ∧ (-9223372036854775808 : Int) ≤ b ∧ b ≤ (9223372036854775807 : Int))
    (Tree.chk
      ((True ∧ True ∧ True) ∧
        (-9223372036854775808 : Int) ≤ hiZ (a * b) ∧
          hiZ (a * b) ≤ (9223372036854775807 : Int) ∧ (-9223372036854775808 : Int) ≤ c ∧ c ≤ (9223372036854775807 : Int) ∧ (0 : Int) ≤ loZ (a * b) ∧ loZ (a * b) ≤ (18446744073709551615 : Int))
      (Tree.ret (AV.tup [AV.int IntKind.i64 false (quoV c (numW (hiZ (a * b)) (loZ (a * b)) / c)), AV.int IntKind.i64 false (quoE c (numW (hiZ (a * b)) (loZ (a * b)) / c))], []))) : Tree (AV × Mem)).GivesP (.tup [.int .i64 false (quoV c (a * b / c)), .int .i64 false (quoE c (a * b / c))]) ([]) := by
  obtain ⟨a0, a1, b0, b1, c0, c1⟩ := hw
  have bd := mul_bound a0 a1 b0 b1
  have e := num_hilo (n := a * b) (by omega) (by omega)
  have lo := lo_ok (a * b)
  have hi := hi_ok (a * b)
  simp only [e]
  refine Tree.GivesP.chk (by first | (simp only [and_self]; done) | ((repeat' with_reducible refine And.intro ?_ ?_) <;> first | trivial | omega | (simp only [w64, wu64]; omega))) ?_
  refine Tree.GivesP.chk (by first | (simp only [and_self]; done) | ((repeat' with_reducible refine And.intro ?_ ?_) <;> first | trivial | omega | (simp only [w64, wu64]; omega))) ?_
  refine Tree.GivesP.ret ?_ ?_
  · simp only [AV.le, AV.leL, true_and, and_true]
  · simp only [AV.leL, AV.le, Mem.le, Mem.leP, Blk.le, Blk.pad, Data.le, Data.size, Cap.le, and_true, true_and, and_self, true_implies, implies_true, imp_self, List.length_nil]
theorem smuldown (hall : AllOk Try.prog 0 (fun _ => none) tab12) (a : Int) (b : Int) (c : Int) (hw : -9223372036854775808 ≤ a ∧ a ≤ 9223372036854775807 ∧ -9223372036854775808 ≤ b ∧ b ≤ 9223372036854775807 ∧ -9223372036854775808 ≤ c ∧ c ≤ 9223372036854775807) : SoundAt (mkC Try.prog 0 (fun _ => none) []) 14 [.int .i64 false a, .int .i64 false b, .int .i64 false c] [] (.tup [.int .i64 false (quoV c (a * b / c)), .int .i64 false (quoE c (a * b / c))], []) := sound_ofP hall mix (tmuldown a b c) (gmuldown a b c hw)
theorem Fmuldown_ok (hall : AllOk Try.prog 0 (fun _ => none) tab12) : PureF Try.prog 3 14 Fmuldown := by
  intro xs c v news h hc
  unfold Fmuldown at h
  split at h
  · rename_i _ a _ b _ c
    cases h
    refine ⟨(by intro b hb; cases hb), SoundAt.flags (smuldown hall a b c hc) ?_⟩
    simp [PA.avs, AV.le, AV.leL, Cap.le]
  · cases h
end Go.Proofs.Ytldknchhgnfncaa.Rig

/- Qmulnear -/
namespace Go.Proofs.Ytldknchhgnfncaa.Rig
open Go
set_option maxRecDepth 100000 in
theorem tmulnear (a : Int) (b : Int) (c : Int) : evBody (mkC Try.prog 0 (fun _ => none) tab13) (evCall (mkC Try.prog 0 (fun _ => none) tab13) 50) 15 [.int .i64 false a, .int .i64 false b, .int .i64 false c] [] =
  Tree.chk ((True ∧ True ∧ True) ∧ (-9223372036854775808 : Int) ≤ a ∧ a ≤ (9223372036854775807 : Int) ∧ (-9223372036854775808 : Int) ≤ b ∧ b ≤ (9223372036854775807 : Int))
    (Tree.chk
      ((True ∧ True ∧ True) ∧
        (-9223372036854775808 : Int) ≤ hiZ (a * b) ∧
          hiZ (a * b) ≤ (9223372036854775807 : Int) ∧ (-9223372036854775808 : Int) ≤ c ∧ c ≤ (9223372036854775807 : Int) ∧ (0 : Int) ≤ loZ (a * b) ∧ loZ (a * b) ≤ (18446744073709551615 : Int))
      (Tree.ret (AV.tup [AV.int IntKind.i64 false (quoV c (nearZ (numW (hiZ (a * b)) (loZ (a * b))) c)), AV.int IntKind.i64 false (quoE c (nearZ (numW (hiZ (a * b)) (loZ (a * b))) c))], []))) := by kernel_rfl
set_option maxRecDepth 100000 in
theorem gmulnear (a : Int) (b : Int) (c : Int) (hw : -9223372036854775808 ≤ a ∧ a ≤ 9223372036854775807 ∧ -9223372036854775808 ≤ b ∧ b ≤ 9223372036854775807 ∧ -9223372036854775808 ≤ c ∧ c ≤ 9223372036854775807) : (Tree.chk ((True ∧ True ∧ True) ∧ (-9223372036854775808 : Int) ≤ a ∧ a ≤ (9223372036854775807 : Int) ∧ (-9223372036854775808 : Int) ≤ b ∧ b ≤ (9223372036854775807 : Int))
    (Tree.chk
      ((True ∧ True ∧ True) ∧
        (-9223372036854775808 : Int) ≤ hiZ (a * b) ∧
          hiZ (a * b) ≤ (9223372036854775807 : Int) ∧ (-9223372036854775808 : Int) ≤ c ∧ c ≤ (9223372036854775807 : Int) ∧ (0 : Int) ≤ loZ (a * b) ∧ loZ (a * b) ≤ (18446744073709551615 : Int))
      (Tree.ret (AV.tup [AV.int IntKind.i64 false (quoV c (nearZ (numW (hiZ (a * b)) (loZ (a * b))) c)), AV.int IntKind.i64 false (quoE c (nearZ (numW (hiZ (a * b)) (loZ (a * b))) c))], []))) : Tree (AV × Mem)).GivesP (.tup [.int .i64 false (quoV c (nearZ (a * b) c)), .int .i64 false (quoE c (nearZ (a * b) c))]) ([]) := by
  obtain ⟨a0, a1, b0, b1, c0, c1⟩ := hw
  have bd := mul_bound a0 a1 b0 b1
  have e := num_hilo (n := a * b) (by omega) (by omega)
  have lo := lo_ok (a * b)
  have hi := hi_ok (a * b)
  simp only [e]
  refine Tree.GivesP.chk (by first | (simp only [and_self]; done) | ((repeat' with_reducible refine And.intro ?_ ?_) <;> first | trivial | omega | (simp only [w64, wu64]; omega))) ?_
  refine Tree.GivesP.chk (by first | (simp only [and_self]; done) | ((repeat' with_reducible refine And.intro ?_ ?_) <;> first | trivial | omega | (simp only [w64, wu64]; omega))) ?_
  refine Tree.GivesP.ret ?_ ?_
  · simp only [AV.le, AV.leL, true_and, and_true]
  · simp only [AV.leL, AV.le, Mem.le, Mem.leP, Blk.le, Blk.pad, Data.le, Data.size, Cap.le, and_true, true_and, and_self, true_implies, implies_true, imp_self, List.length_nil]
theorem smulnear (hall : AllOk Try.prog 0 (fun _ => none) tab13) (a : Int) (b : Int) (c : Int) (hw : -9223372036854775808 ≤ a ∧ a ≤ 9223372036854775807 ∧ -9223372036854775808 ≤ b ∧ b ≤ 9223372036854775807 ∧ -9223372036854775808 ≤ c ∧ c ≤ 9223372036854775807) : SoundAt (mkC Try.prog 0 (fun _ => none) []) 15 [.int .i64 false a, .int .i64 false b, .int .i64 false c] [] (.tup [.int .i64 false (quoV c (nearZ (a * b) c)), .int .i64 false (quoE c (nearZ (a * b) c))], []) := sound_ofP hall mix (tmulnear a b c) (gmulnear a b c hw)
theorem Fmulnear_ok (hall : AllOk Try.prog 0 (fun _ => none) tab13) : PureF Try.prog 3 15 Fmulnear := by
  intro xs c v news h hc
  unfold Fmulnear at h
  split at h
  · rename_i _ a _ b _ c
    cases h
    refine ⟨(by intro b hb; cases hb), SoundAt.flags (smulnear hall a b c hc) ?_⟩
    simp [PA.avs, AV.le, AV.leL, Cap.le]
  · cases h
end Go.Proofs.Ytldknchhgnfncaa.Rig

/- Qworks -/
namespace Go.Proofs.Ytldknchhgnfncaa.Rig
open Go
set_option maxRecDepth 100000 in
theorem tworks  : evBody (mkC Try.prog 0 (fun _ => none) tab14) (evCall (mkC Try.prog 0 (fun _ => none) tab14) 50) 9 [] [] =
  Tree.chk
    ((True ∧ True ∧ True ∧ True) ∧
      (-9223372036854775808 : Int) ≤ (10000 : Int) ∧
        (10000 : Int) ≤ (9223372036854775807 : Int) ∧ (-9223372036854775808 : Int) ≤ (3 : Int) ∧ (3 : Int) ≤ (9223372036854775807 : Int) ∧ (-9223372036854775808 : Int) ≤ (7 : Int) ∧ (7 : Int) ≤ (9223372036854775807 : Int))
    (Tree.chk
      ((True ∧ True ∧ True ∧ True) ∧
        (-9223372036854775808 : Int) ≤ (-10000 : Int) ∧
          (-10000 : Int) ≤ (9223372036854775807 : Int) ∧ (-9223372036854775808 : Int) ≤ (3 : Int) ∧ (3 : Int) ≤ (9223372036854775807 : Int) ∧ (-9223372036854775808 : Int) ≤ (7 : Int) ∧ (7 : Int) ≤ (9223372036854775807 : Int))
      (Tree.chk
        ((True ∧ True ∧ True) ∧ (-9223372036854775808 : Int) ≤ (4611686018427387904 : Int) ∧ (4611686018427387904 : Int) ≤ (9223372036854775807 : Int) ∧ (-9223372036854775808 : Int) ≤ (4 : Int) ∧ (4 : Int) ≤ (9223372036854775807 : Int))
        (Tree.br true
          (Tree.br true
            (Tree.br true
              (Tree.br true
                (Tree.br true
                  (Tree.chk ((True ∧ True ∧ True) ∧ (-9223372036854775808 : Int) ≤ (-1 : Int) ∧ (-1 : Int) ≤ (9223372036854775807 : Int) ∧ (-9223372036854775808 : Int) ≤ (1 : Int) ∧ (1 : Int) ≤ (9223372036854775807 : Int))
                    (Tree.ret (AV.bool false true, [])))
                  (Tree.ret (AV.bool true false, [])))
                (Tree.ret (AV.bool true false, [])))
              (Tree.ret (AV.bool true false, [])))
            (Tree.ret (AV.bool true false, [])))
          (Tree.ret (AV.bool true false, []))))) := by kernel_rfl
set_option maxRecDepth 100000 in
theorem gworks  (hw : True) : (Tree.chk
    ((True ∧ True ∧ True ∧ True) ∧
      (-9223372036854775808 : Int) ≤ (10000 : Int) ∧
        (10000 : Int) ≤ (9223372036854775807 : Int) ∧ (-9223372036854775808 : Int) ≤ (3 : Int) ∧ (3 : Int) ≤ (9223372036854775807 : Int) ∧ (-9223372036854775808 : Int) ≤ (7 : Int) ∧ (7 : Int) ≤ (9223372036854775807 : Int))
    (Tree.chk
      ((True ∧ True ∧ True ∧ True) ∧
        (-9223372036854775808 : Int) ≤ (-10000 : Int) ∧
          (-10000 : Int) ≤ (9223372036854775807 : Int) ∧ (-9223372036854775808 : Int) ≤ (3 : Int) ∧ (3 : Int) ≤ (9223372036854775807 : Int) ∧ (-9223372036854775808 : Int) ≤ (7 : Int) ∧ (7 : Int) ≤ (9223372036854775807 : Int))
      (Tree.chk
        ((True ∧ True ∧ True) ∧ (-9223372036854775808 : Int) ≤ (4611686018427387904 : Int) ∧ (4611686018427387904 : Int) ≤ (9223372036854775807 : Int) ∧ (-9223372036854775808 : Int) ≤ (4 : Int) ∧ (4 : Int) ≤ (9223372036854775807 : Int))
        (Tree.br true
          (Tree.br true
            (Tree.br true
              (Tree.br true
                (Tree.br true
                  (Tree.chk ((True ∧ True ∧ True) ∧ (-9223372036854775808 : Int) ≤ (-1 : Int) ∧ (-1 : Int) ≤ (9223372036854775807 : Int) ∧ (-9223372036854775808 : Int) ≤ (1 : Int) ∧ (1 : Int) ≤ (9223372036854775807 : Int))
                    (Tree.ret (AV.bool false true, [])))
                  (Tree.ret (AV.bool true false, [])))
                (Tree.ret (AV.bool true false, [])))
              (Tree.ret (AV.bool true false, [])))
            (Tree.ret (AV.bool true false, [])))
          (Tree.ret (AV.bool true false, []))))) : Tree (AV × Mem)).GivesP (.bool false true) ([]) := by
  refine Tree.GivesP.chk (by first | (simp only [and_self]; done) | ((repeat' with_reducible refine And.intro ?_ ?_) <;> first | trivial | decide +kernel)) ?_
  refine Tree.GivesP.chk (by first | (simp only [and_self]; done) | ((repeat' with_reducible refine And.intro ?_ ?_) <;> first | trivial | decide +kernel)) ?_
  refine Tree.GivesP.chk (by first | (simp only [and_self]; done) | ((repeat' with_reducible refine And.intro ?_ ?_) <;> first | trivial | decide +kernel)) ?_
  refine Tree.GivesP.br (fun h1 => ?_) (fun h1 => ?_)
  · (try simp only [decide_eq_true_eq, decide_eq_false_iff_not, Bool.not_eq_true', Bool.not_eq_false', beq_iff_eq, beq_eq_false_iff_ne, Int.not_lt, Int.not_le, ge_iff_le, gt_iff_lt, ne_eq, Bool.false_eq_true, Bool.true_eq_false, not_true_eq_false, not_false_eq_true, Bool.and_eq_true, Bool.not_eq_eq_eq_not, Bool.not_true, Bool.not_false, bne_iff_ne, bne_eq_false_iff_eq, Int.toNat_natCast, Nat.mul_one, Nat.add_zero, Nat.zero_add, List.take_length, List.drop_zero] at h1)
    all_goals
      refine Tree.GivesP.br (fun h2 => ?_) (fun h2 => ?_)
      · (try simp only [decide_eq_true_eq, decide_eq_false_iff_not, Bool.not_eq_true', Bool.not_eq_false', beq_iff_eq, beq_eq_false_iff_ne, Int.not_lt, Int.not_le, ge_iff_le, gt_iff_lt, ne_eq, Bool.false_eq_true, Bool.true_eq_false, not_true_eq_false, not_false_eq_true, Bool.and_eq_true, Bool.not_eq_eq_eq_not, Bool.not_true, Bool.not_false, bne_iff_ne, bne_eq_false_iff_eq, Int.toNat_natCast, Nat.mul_one, Nat.add_zero, Nat.zero_add, List.take_length, List.drop_zero] at h2)
        all_goals
          refine Tree.GivesP.br (fun h3 => ?_) (fun h3 => ?_)
          · (try simp only [decide_eq_true_eq, decide_eq_false_iff_not, Bool.not_eq_true', Bool.not_eq_false', beq_iff_eq, beq_eq_false_iff_ne, Int.not_lt, Int.not_le, ge_iff_le, gt_iff_lt, ne_eq, Bool.false_eq_true, Bool.true_eq_false, not_true_eq_false, not_false_eq_true, Bool.and_eq_true, Bool.not_eq_eq_eq_not, Bool.not_true, Bool.not_false, bne_iff_ne, bne_eq_false_iff_eq, Int.toNat_natCast, Nat.mul_one, Nat.add_zero, Nat.zero_add, List.take_length, List.drop_zero] at h3)
            all_goals
              refine Tree.GivesP.br (fun h4 => ?_) (fun h4 => ?_)
              · (try simp only [decide_eq_true_eq, decide_eq_false_iff_not, Bool.not_eq_true', Bool.not_eq_false', beq_iff_eq, beq_eq_false_iff_ne, Int.not_lt, Int.not_le, ge_iff_le, gt_iff_lt, ne_eq, Bool.false_eq_true, Bool.true_eq_false, not_true_eq_false, not_false_eq_true, Bool.and_eq_true, Bool.not_eq_eq_eq_not, Bool.not_true, Bool.not_false, bne_iff_ne, bne_eq_false_iff_eq, Int.toNat_natCast, Nat.mul_one, Nat.add_zero, Nat.zero_add, List.take_length, List.drop_zero] at h4)
                all_goals
                  refine Tree.GivesP.br (fun h5 => ?_) (fun h5 => ?_)
                  · (try simp only [decide_eq_true_eq, decide_eq_false_iff_not, Bool.not_eq_true', Bool.not_eq_false', beq_iff_eq, beq_eq_false_iff_ne, Int.not_lt, Int.not_le, ge_iff_le, gt_iff_lt, ne_eq, Bool.false_eq_true, Bool.true_eq_false, not_true_eq_false, not_false_eq_true, Bool.and_eq_true, Bool.not_eq_eq_eq_not, Bool.not_true, Bool.not_false, bne_iff_ne, bne_eq_false_iff_eq, Int.toNat_natCast, Nat.mul_one, Nat.add_zero, Nat.zero_add, List.take_length, List.drop_zero] at h5)
                    all_goals
                      refine Tree.GivesP.chk (by first | (simp only [and_self]; done) | ((repeat' with_reducible refine And.intro ?_ ?_) <;> first | trivial | decide +kernel)) ?_
                      refine Tree.GivesP.ret ?_ ?_
                      · simp only [AV.le]
                      · simp only [AV.leL, AV.le, Mem.le, Mem.leP, Blk.le, Blk.pad, Data.le, Data.size, Cap.le, and_true, true_and, and_self, true_implies, implies_true, imp_self, List.length_nil]
                  · (try simp only [decide_eq_true_eq, decide_eq_false_iff_not, Bool.not_eq_true', Bool.not_eq_false', beq_iff_eq, beq_eq_false_iff_ne, Int.not_lt, Int.not_le, ge_iff_le, gt_iff_lt, ne_eq, Bool.false_eq_true, Bool.true_eq_false, not_true_eq_false, not_false_eq_true, Bool.and_eq_true, Bool.not_eq_eq_eq_not, Bool.not_true, Bool.not_false, bne_iff_ne, bne_eq_false_iff_eq, Int.toNat_natCast, Nat.mul_one, Nat.add_zero, Nat.zero_add, List.take_length, List.drop_zero] at h5)
                    all_goals
                      refine Tree.GivesP.ret ?_ ?_
                      · simp only [AV.le]
                      · simp only [AV.leL, AV.le, Mem.le, Mem.leP, Blk.le, Blk.pad, Data.le, Data.size, Cap.le, and_true, true_and, and_self, true_implies, implies_true, imp_self, List.length_nil]
              · (try simp only [decide_eq_true_eq, decide_eq_false_iff_not, Bool.not_eq_true', Bool.not_eq_false', beq_iff_eq, beq_eq_false_iff_ne, Int.not_lt, Int.not_le, ge_iff_le, gt_iff_lt, ne_eq, Bool.false_eq_true, Bool.true_eq_false, not_true_eq_false, not_false_eq_true, Bool.and_eq_true, Bool.not_eq_eq_eq_not, Bool.not_true, Bool.not_false, bne_iff_ne, bne_eq_false_iff_eq, Int.toNat_natCast, Nat.mul_one, Nat.add_zero, Nat.zero_add, List.take_length, List.drop_zero] at h4)
                all_goals
                  refine Tree.GivesP.ret ?_ ?_
                  · simp only [AV.le]
                  · simp only [AV.leL, AV.le, Mem.le, Mem.leP, Blk.le, Blk.pad, Data.le, Data.size, Cap.le, and_true, true_and, and_self, true_implies, implies_true, imp_self, List.length_nil]
          · (try simp only [decide_eq_true_eq, decide_eq_false_iff_not, Bool.not_eq_true', Bool.not_eq_false', beq_iff_eq, beq_eq_false_iff_ne, Int.not_lt, Int.not_le, ge_iff_le, gt_iff_lt, ne_eq, Bool.false_eq_true, Bool.true_eq_false, not_true_eq_false, not_false_eq_true, Bool.and_eq_true, Bool.not_eq_eq_eq_not, Bool.not_true, Bool.not_false, bne_iff_ne, bne_eq_false_iff_eq, Int.toNat_natCast, Nat.mul_one, Nat.add_zero, Nat.zero_add, List.take_length, List.drop_zero] at h3)
            all_goals
              refine Tree.GivesP.ret ?_ ?_
              · simp only [AV.le]
              · simp only [AV.leL, AV.le, Mem.le, Mem.leP, Blk.le, Blk.pad, Data.le, Data.size, Cap.le, and_true, true_and, and_self, true_implies, implies_true, imp_self, List.length_nil]
      · (try simp only [decide_eq_true_eq, decide_eq_false_iff_not, Bool.not_eq_true', Bool.not_eq_false', beq_iff_eq, beq_eq_false_iff_ne, Int.not_lt, Int.not_le, ge_iff_le, gt_iff_lt, ne_eq, Bool.false_eq_true, Bool.true_eq_false, not_true_eq_false, not_false_eq_true, Bool.and_eq_true, Bool.not_eq_eq_eq_not, Bool.not_true, Bool.not_false, bne_iff_ne, bne_eq_false_iff_eq, Int.toNat_natCast, Nat.mul_one, Nat.add_zero, Nat.zero_add, List.take_length, List.drop_zero] at h2)
        all_goals
          refine Tree.GivesP.ret ?_ ?_
          · simp only [AV.le]
          · simp only [AV.leL, AV.le, Mem.le, Mem.leP, Blk.le, Blk.pad, Data.le, Data.size, Cap.le, and_true, true_and, and_self, true_implies, implies_true, imp_self, List.length_nil]
  · (try simp only [decide_eq_true_eq, decide_eq_false_iff_not, Bool.not_eq_true', Bool.not_eq_false', beq_iff_eq, beq_eq_false_iff_ne, Int.not_lt, Int.not_le, ge_iff_le, gt_iff_lt, ne_eq, Bool.false_eq_true, Bool.true_eq_false, not_true_eq_false, not_false_eq_true, Bool.and_eq_true, Bool.not_eq_eq_eq_not, Bool.not_true, Bool.not_false, bne_iff_ne, bne_eq_false_iff_eq, Int.toNat_natCast, Nat.mul_one, Nat.add_zero, Nat.zero_add, List.take_length, List.drop_zero] at h1)
    all_goals
      refine Tree.GivesP.ret ?_ ?_
      · simp only [AV.le]
      · simp only [AV.leL, AV.le, Mem.le, Mem.leP, Blk.le, Blk.pad, Data.le, Data.size, Cap.le, and_true, true_and, and_self, true_implies, implies_true, imp_self, List.length_nil]
theorem sworks (hall : AllOk Try.prog 0 (fun _ => none) tab14)  (hw : True) : SoundAt (mkC Try.prog 0 (fun _ => none) []) 9 [] [] (.bool false true, []) := sound_ofP hall mix (tworks ) (gworks  hw)
theorem Fworks_ok (hall : AllOk Try.prog 0 (fun _ => none) tab14) : PureF Try.prog 3 9 Fworks := by
  intro xs c v news h hc
  unfold Fworks at h
  split at h
  · skip
    cases h
    refine ⟨(by intro b hb; cases hb), SoundAt.flags (sworks hall  hc) ?_⟩
    simp [PA.avs, AV.le, AV.leL, Cap.le]
  · cases h
end Go.Proofs.Ytldknchhgnfncaa.Rig

/- All15 -/
namespace Go.Proofs.Ytldknchhgnfncaa.Rig
open Go
theorem Flz_okx : PureF Try.prog 3 59 Flz := Flz_ok all0
theorem all1 : AllOk Try.prog 0 (fun _ => none) tab1 := ⟨pureEnt_ok Flz_okx, all0⟩
theorem Fmul64_okx : PureF Try.prog 3 47 Fmul64 := Fmul64_ok all1
theorem all2 : AllOk Try.prog 0 (fun _ => none) tab2 := ⟨pureEnt_ok Fmul64_okx, all1⟩
theorem Fdiv64_okx : PureF Try.prog 3 58 Fdiv64 := Fdiv64_ok all2
theorem all3 : AllOk Try.prog 0 (fun _ => none) tab3 := ⟨pureEnt_ok Fdiv64_okx, all2⟩
theorem Fminus_okx : PureF Try.prog 3 30 Fminus := Fminus_ok all3
theorem all4 : AllOk Try.prog 0 (fun _ => none) tab4 := ⟨pureEnt_ok Fminus_okx, all3⟩
theorem Fplus_okx : PureF Try.prog 3 32 Fplus := Fplus_ok all4
theorem all5 : AllOk Try.prog 0 (fun _ => none) tab5 := ⟨pureEnt_ok Fplus_okx, all4⟩
theorem Fof_okx : PureF Try.prog 3 18 Fof := Fof_ok all5
theorem all6 : AllOk Try.prog 0 (fun _ => none) tab6 := ⟨pureEnt_ok Fof_okx, all5⟩
theorem Fby_okx : PureF Try.prog 3 44 Fby := Fby_ok all6
theorem all7 : AllOk Try.prog 0 (fun _ => none) tab7 := ⟨pureEnt_ok Fby_okx, all6⟩
theorem Fmul_okx : PureF Try.prog 3 12 Fmul := Fmul_ok all7
theorem all8 : AllOk Try.prog 0 (fun _ => none) tab8 := ⟨pureEnt_ok Fmul_okx, all7⟩
theorem Fdown_okx : PureF Try.prog 3 11 Fdown := Fdown_ok all8
theorem all9 : AllOk Try.prog 0 (fun _ => none) tab9 := ⟨pureEnt_ok Fdown_okx, all8⟩
theorem Fnear_okx : PureF Try.prog 3 13 Fnear := Fnear_ok all9
theorem all10 : AllOk Try.prog 0 (fun _ => none) tab10 := ⟨pureEnt_ok Fnear_okx, all9⟩
theorem Fcompare_okx : PureF Try.prog 3 24 Fcompare := Fcompare_ok all10
theorem all11 : AllOk Try.prog 0 (fun _ => none) tab11 := ⟨pureEnt_ok Fcompare_okx, all10⟩
theorem Famong_okx : PureF Try.prog 3 10 Famong := Famong_ok all11
theorem all12 : AllOk Try.prog 0 (fun _ => none) tab12 := ⟨pureEnt_ok Famong_okx, all11⟩
theorem Fmuldown_okx : PureF Try.prog 3 14 Fmuldown := Fmuldown_ok all12
theorem all13 : AllOk Try.prog 0 (fun _ => none) tab13 := ⟨pureEnt_ok Fmuldown_okx, all12⟩
theorem Fmulnear_okx : PureF Try.prog 3 15 Fmulnear := Fmulnear_ok all13
theorem all14 : AllOk Try.prog 0 (fun _ => none) tab14 := ⟨pureEnt_ok Fmulnear_okx, all13⟩
theorem Fworks_okx : PureF Try.prog 3 9 Fworks := Fworks_ok all14
theorem all15 : AllOk Try.prog 0 (fun _ => none) tab15 := ⟨pureEnt_ok Fworks_okx, all14⟩
end Go.Proofs.Ytldknchhgnfncaa.Rig
