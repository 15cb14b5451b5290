/- MRaw: what is proved for the claim, part 5: functions' reckonings, and what they give. -/
import Derived.Test.YtldknchhgnfncaaMRaw4
import Derived.KernelRfl
import Derived.Test.YtldknchhgnfncaaRows
import Derived.WalkKit
import Derived.ProofKit
import Derived.OpenShut
import Derived.ShutString
import Derived.ChangeOld
import Derived.Below
import Derived.SizedLaws
import Derived.Test.YtldknchhgnfncaaMRawLZ
set_option linter.unusedVariables false
set_option linter.unusedSimpArgs false
/- QWideRaw -/
namespace Go.Proofs.Ytldknchhgnfncaa.Rig
open Go
set_option maxRecDepth 100000 in
theorem tWideRaw (h : Int) (l : Int) (k : Int) (m : Int) (c : Int) : evBody (mkC Try.prog 0 (fun _ => none) tab15) (evCall (mkC Try.prog 0 (fun _ => none) tab15) 50) 7 [.agg [.int .i64 false h, .int .u64 false l], .agg [.int .i64 false k, .int .u64 false m], .int .i64 false c] [] =
  Tree.chk (True ∧ True)
    (Tree.br false (Tree.ret (AV.bool true false, []))
      (Tree.br (h != k)
        (Tree.br (decide (h < k))
          (Tree.chk
            ((True ∧ True ∧ True) ∧
              (-9223372036854775808 : Int) ≤ h ∧
                h ≤ (9223372036854775807 : Int) ∧ (-9223372036854775808 : Int) ≤ k ∧ k ≤ (9223372036854775807 : Int) ∧ (0 : Int) ≤ l ∧ l ≤ (18446744073709551615 : Int) ∧ (0 : Int) ≤ m ∧ m ≤ (18446744073709551615 : Int))
            (Tree.br (cmpZ (numW h l) (numW k m) != (-1 : Int)) (Tree.ret (AV.bool true false, []))
              (Tree.chk
                ((True ∧ True ∧ True) ∧
                  (-9223372036854775808 : Int) ≤ h ∧ h ≤ (9223372036854775807 : Int) ∧ (-9223372036854775808 : Int) ≤ c ∧ c ≤ (9223372036854775807 : Int) ∧ (0 : Int) ≤ l ∧ l ≤ (18446744073709551615 : Int))
                (Tree.br (decide (c < (1 : Int))) (Tree.br (quoE c (numW h l / c) == (2 : Int)) (Tree.ret (AV.bool false (quoV c (numW h l / c) == (0 : Int)), [])) (Tree.ret (AV.bool true false, [])))
                  (Tree.br (quoE c (numW h l / c) != (0 : Int))
                    (Tree.br (quoE c (numW h l / c) == (3 : Int))
                      (Tree.chk
                        ((True ∧ True ∧ True) ∧ (-9223372036854775808 : Int) ≤ (9223372036854775807 : Int) ∧ (9223372036854775807 : Int) ≤ (9223372036854775807 : Int) ∧ (-9223372036854775808 : Int) ≤ c ∧ c ≤ (9223372036854775807 : Int))
                        (Tree.chk ((True ∧ True) ∧ (-9223372036854775808 : Int) ≤ IntKind.wrap IntKind.i64 (c - (1 : Int)) ∧ IntKind.wrap IntKind.i64 (c - (1 : Int)) ≤ (9223372036854775807 : Int))
                          (Tree.chk
                            ((True ∧ True ∧ True) ∧
                              (-9223372036854775808 : Int) ≤ (0 : Int) ∧
                                (0 : Int) ≤ (9223372036854775807 : Int) ∧
                                  (-9223372036854775808 : Int) ≤ hiZ ((9223372036854775807 : Int) * c) ∧
                                    hiZ ((9223372036854775807 : Int) * c) ≤ (9223372036854775807 : Int) ∧
                                      (0 : Int) ≤ (0 : Int) ∧ (0 : Int) ≤ (18446744073709551615 : Int) ∧ (0 : Int) ≤ loZ ((9223372036854775807 : Int) * c) ∧ loZ ((9223372036854775807 : Int) * c) ≤ (18446744073709551615 : Int))
                            (Tree.chk
                              ((True ∧ True ∧ True) ∧
                                (-9223372036854775808 : Int) ≤ hiZ ((0 : Int) + numW (hiZ ((9223372036854775807 : Int) * c)) (loZ ((9223372036854775807 : Int) * c))) ∧
                                  hiZ ((0 : Int) + numW (hiZ ((9223372036854775807 : Int) * c)) (loZ ((9223372036854775807 : Int) * c))) ≤ (9223372036854775807 : Int) ∧
                                    (-9223372036854775808 : Int) ≤ hiZ (IntKind.wrap IntKind.i64 (c - (1 : Int))) ∧
                                      hiZ (IntKind.wrap IntKind.i64 (c - (1 : Int))) ≤ (9223372036854775807 : Int) ∧
                                        (0 : Int) ≤ loZ ((0 : Int) + numW (hiZ ((9223372036854775807 : Int) * c)) (loZ ((9223372036854775807 : Int) * c))) ∧
                                          loZ ((0 : Int) + numW (hiZ ((9223372036854775807 : Int) * c)) (loZ ((9223372036854775807 : Int) * c))) ≤ (18446744073709551615 : Int) ∧
                                            (0 : Int) ≤ loZ (IntKind.wrap IntKind.i64 (c - (1 : Int))) ∧ loZ (IntKind.wrap IntKind.i64 (c - (1 : Int))) ≤ (18446744073709551615 : Int))
                              (Tree.chk
                                ((True ∧ True ∧ True) ∧
                                  (-9223372036854775808 : Int) ≤ h ∧
                                    h ≤ (9223372036854775807 : Int) ∧
                                      (-9223372036854775808 : Int) ≤
                                          hiZ
                                            (numW (hiZ ((0 : Int) + numW (hiZ ((9223372036854775807 : Int) * c)) (loZ ((9223372036854775807 : Int) * c))))
                                                (loZ ((0 : Int) + numW (hiZ ((9223372036854775807 : Int) * c)) (loZ ((9223372036854775807 : Int) * c)))) +
                                              numW (hiZ (IntKind.wrap IntKind.i64 (c - (1 : Int)))) (loZ (IntKind.wrap IntKind.i64 (c - (1 : Int))))) ∧
                                        hiZ
                                              (numW (hiZ ((0 : Int) + numW (hiZ ((9223372036854775807 : Int) * c)) (loZ ((9223372036854775807 : Int) * c))))
                                                  (loZ ((0 : Int) + numW (hiZ ((9223372036854775807 : Int) * c)) (loZ ((9223372036854775807 : Int) * c)))) +
                                                numW (hiZ (IntKind.wrap IntKind.i64 (c - (1 : Int)))) (loZ (IntKind.wrap IntKind.i64 (c - (1 : Int))))) ≤
                                            (9223372036854775807 : Int) ∧
                                          (0 : Int) ≤ l ∧
                                            l ≤ (18446744073709551615 : Int) ∧
                                              (0 : Int) ≤
                                                  loZ
                                                    (numW (hiZ ((0 : Int) + numW (hiZ ((9223372036854775807 : Int) * c)) (loZ ((9223372036854775807 : Int) * c))))
                                                        (loZ ((0 : Int) + numW (hiZ ((9223372036854775807 : Int) * c)) (loZ ((9223372036854775807 : Int) * c)))) +
                                                      numW (hiZ (IntKind.wrap IntKind.i64 (c - (1 : Int)))) (loZ (IntKind.wrap IntKind.i64 (c - (1 : Int))))) ∧
                                                loZ
                                                    (numW (hiZ ((0 : Int) + numW (hiZ ((9223372036854775807 : Int) * c)) (loZ ((9223372036854775807 : Int) * c))))
                                                        (loZ ((0 : Int) + numW (hiZ ((9223372036854775807 : Int) * c)) (loZ ((9223372036854775807 : Int) * c)))) +
                                                      numW (hiZ (IntKind.wrap IntKind.i64 (c - (1 : Int)))) (loZ (IntKind.wrap IntKind.i64 (c - (1 : Int))))) ≤
                                                  (18446744073709551615 : Int))
                                (Tree.br
                                  (decide
                                    (cmpZ (numW h l)
                                        (numW
                                          (hiZ
                                            (numW (hiZ ((0 : Int) + numW (hiZ ((9223372036854775807 : Int) * c)) (loZ ((9223372036854775807 : Int) * c))))
                                                (loZ ((0 : Int) + numW (hiZ ((9223372036854775807 : Int) * c)) (loZ ((9223372036854775807 : Int) * c)))) +
                                              numW (hiZ (IntKind.wrap IntKind.i64 (c - (1 : Int)))) (loZ (IntKind.wrap IntKind.i64 (c - (1 : Int))))))
                                          (loZ
                                            (numW (hiZ ((0 : Int) + numW (hiZ ((9223372036854775807 : Int) * c)) (loZ ((9223372036854775807 : Int) * c))))
                                                (loZ ((0 : Int) + numW (hiZ ((9223372036854775807 : Int) * c)) (loZ ((9223372036854775807 : Int) * c)))) +
                                              numW (hiZ (IntKind.wrap IntKind.i64 (c - (1 : Int)))) (loZ (IntKind.wrap IntKind.i64 (c - (1 : Int))))))) >
                                      (0 : Int)))
                                  (Tree.ret (AV.bool true true, []))
                                  (Tree.chk
                                    ((True ∧ True ∧ True) ∧
                                      (-9223372036854775808 : Int) ≤ (-9223372036854775808 : Int) ∧ (-9223372036854775808 : Int) ≤ (9223372036854775807 : Int) ∧ (-9223372036854775808 : Int) ≤ c ∧ c ≤ (9223372036854775807 : Int))
                                    (Tree.chk
                                      ((True ∧ True ∧ True) ∧
                                        (-9223372036854775808 : Int) ≤ h ∧
                                          h ≤ (9223372036854775807 : Int) ∧
                                            (-9223372036854775808 : Int) ≤ hiZ ((-9223372036854775808 : Int) * c) ∧
                                              hiZ ((-9223372036854775808 : Int) * c) ≤ (9223372036854775807 : Int) ∧
                                                (0 : Int) ≤ l ∧ l ≤ (18446744073709551615 : Int) ∧ (0 : Int) ≤ loZ ((-9223372036854775808 : Int) * c) ∧ loZ ((-9223372036854775808 : Int) * c) ≤ (18446744073709551615 : Int))
                                      (Tree.ret (AV.bool false (decide (cmpZ (numW h l) (numW (hiZ ((-9223372036854775808 : Int) * c)) (loZ ((-9223372036854775808 : Int) * c))) < (0 : Int))), []))))))))))
                      (Tree.ret (AV.bool true false, [])))
                    (Tree.chk
                      ((True ∧ True ∧ True) ∧
                        (-9223372036854775808 : Int) ≤ quoV c (numW h l / c) ∧ quoV c (numW h l / c) ≤ (9223372036854775807 : Int) ∧ (-9223372036854775808 : Int) ≤ c ∧ c ≤ (9223372036854775807 : Int))
                      (Tree.chk
                        ((True ∧ True ∧ True) ∧
                          (-9223372036854775808 : Int) ≤ hiZ (quoV c (numW h l / c) * c) ∧
                            hiZ (quoV c (numW h l / c) * c) ≤ (9223372036854775807 : Int) ∧
                              (-9223372036854775808 : Int) ≤ h ∧
                                h ≤ (9223372036854775807 : Int) ∧
                                  (0 : Int) ≤ loZ (quoV c (numW h l / c) * c) ∧ loZ (quoV c (numW h l / c) * c) ≤ (18446744073709551615 : Int) ∧ (0 : Int) ≤ l ∧ l ≤ (18446744073709551615 : Int))
                        (Tree.br (decide (cmpZ (numW (hiZ (quoV c (numW h l / c) * c)) (loZ (quoV c (numW h l / c) * c))) (numW h l) ≤ (0 : Int)))
                          (Tree.chk ((True ∧ True) ∧ (-9223372036854775808 : Int) ≤ IntKind.wrap IntKind.i64 (c - (1 : Int)) ∧ IntKind.wrap IntKind.i64 (c - (1 : Int)) ≤ (9223372036854775807 : Int))
                            (Tree.chk
                              ((True ∧ True ∧ True) ∧
                                (-9223372036854775808 : Int) ≤ (0 : Int) ∧
                                  (0 : Int) ≤ (9223372036854775807 : Int) ∧
                                    (-9223372036854775808 : Int) ≤ hiZ (quoV c (numW h l / c) * c) ∧
                                      hiZ (quoV c (numW h l / c) * c) ≤ (9223372036854775807 : Int) ∧
                                        (0 : Int) ≤ (0 : Int) ∧
                                          (0 : Int) ≤ (18446744073709551615 : Int) ∧ (0 : Int) ≤ loZ (quoV c (numW h l / c) * c) ∧ loZ (quoV c (numW h l / c) * c) ≤ (18446744073709551615 : Int))
                              (Tree.chk
                                ((True ∧ True ∧ True) ∧
                                  (-9223372036854775808 : Int) ≤ hiZ ((0 : Int) + numW (hiZ (quoV c (numW h l / c) * c)) (loZ (quoV c (numW h l / c) * c))) ∧
                                    hiZ ((0 : Int) + numW (hiZ (quoV c (numW h l / c) * c)) (loZ (quoV c (numW h l / c) * c))) ≤ (9223372036854775807 : Int) ∧
                                      (-9223372036854775808 : Int) ≤ hiZ (IntKind.wrap IntKind.i64 (c - (1 : Int))) ∧
                                        hiZ (IntKind.wrap IntKind.i64 (c - (1 : Int))) ≤ (9223372036854775807 : Int) ∧
                                          (0 : Int) ≤ loZ ((0 : Int) + numW (hiZ (quoV c (numW h l / c) * c)) (loZ (quoV c (numW h l / c) * c))) ∧
                                            loZ ((0 : Int) + numW (hiZ (quoV c (numW h l / c) * c)) (loZ (quoV c (numW h l / c) * c))) ≤ (18446744073709551615 : Int) ∧
                                              (0 : Int) ≤ loZ (IntKind.wrap IntKind.i64 (c - (1 : Int))) ∧ loZ (IntKind.wrap IntKind.i64 (c - (1 : Int))) ≤ (18446744073709551615 : Int))
                                (Tree.chk
                                  ((True ∧ True ∧ True) ∧
                                    (-9223372036854775808 : Int) ≤ h ∧
                                      h ≤ (9223372036854775807 : Int) ∧
                                        (-9223372036854775808 : Int) ≤
                                            hiZ
                                              (numW (hiZ ((0 : Int) + numW (hiZ (quoV c (numW h l / c) * c)) (loZ (quoV c (numW h l / c) * c))))
                                                  (loZ ((0 : Int) + numW (hiZ (quoV c (numW h l / c) * c)) (loZ (quoV c (numW h l / c) * c)))) +
                                                numW (hiZ (IntKind.wrap IntKind.i64 (c - (1 : Int)))) (loZ (IntKind.wrap IntKind.i64 (c - (1 : Int))))) ∧
                                          hiZ
                                                (numW (hiZ ((0 : Int) + numW (hiZ (quoV c (numW h l / c) * c)) (loZ (quoV c (numW h l / c) * c))))
                                                    (loZ ((0 : Int) + numW (hiZ (quoV c (numW h l / c) * c)) (loZ (quoV c (numW h l / c) * c)))) +
                                                  numW (hiZ (IntKind.wrap IntKind.i64 (c - (1 : Int)))) (loZ (IntKind.wrap IntKind.i64 (c - (1 : Int))))) ≤
                                              (9223372036854775807 : Int) ∧
                                            (0 : Int) ≤ l ∧
                                              l ≤ (18446744073709551615 : Int) ∧
                                                (0 : Int) ≤
                                                    loZ
                                                      (numW (hiZ ((0 : Int) + numW (hiZ (quoV c (numW h l / c) * c)) (loZ (quoV c (numW h l / c) * c))))
                                                          (loZ ((0 : Int) + numW (hiZ (quoV c (numW h l / c) * c)) (loZ (quoV c (numW h l / c) * c)))) +
                                                        numW (hiZ (IntKind.wrap IntKind.i64 (c - (1 : Int)))) (loZ (IntKind.wrap IntKind.i64 (c - (1 : Int))))) ∧
                                                  loZ
                                                      (numW (hiZ ((0 : Int) + numW (hiZ (quoV c (numW h l / c) * c)) (loZ (quoV c (numW h l / c) * c))))
                                                          (loZ ((0 : Int) + numW (hiZ (quoV c (numW h l / c) * c)) (loZ (quoV c (numW h l / c) * c)))) +
                                                        numW (hiZ (IntKind.wrap IntKind.i64 (c - (1 : Int)))) (loZ (IntKind.wrap IntKind.i64 (c - (1 : Int))))) ≤
                                                    (18446744073709551615 : Int))
                                  (Tree.ret
                                    (AV.bool false
                                        (decide
                                          (cmpZ (numW h l)
                                              (numW
                                                (hiZ
                                                  (numW (hiZ ((0 : Int) + numW (hiZ (quoV c (numW h l / c) * c)) (loZ (quoV c (numW h l / c) * c))))
                                                      (loZ ((0 : Int) + numW (hiZ (quoV c (numW h l / c) * c)) (loZ (quoV c (numW h l / c) * c)))) +
                                                    numW (hiZ (IntKind.wrap IntKind.i64 (c - (1 : Int)))) (loZ (IntKind.wrap IntKind.i64 (c - (1 : Int))))))
                                                (loZ
                                                  (numW (hiZ ((0 : Int) + numW (hiZ (quoV c (numW h l / c) * c)) (loZ (quoV c (numW h l / c) * c))))
                                                      (loZ ((0 : Int) + numW (hiZ (quoV c (numW h l / c) * c)) (loZ (quoV c (numW h l / c) * c)))) +
                                                    numW (hiZ (IntKind.wrap IntKind.i64 (c - (1 : Int)))) (loZ (IntKind.wrap IntKind.i64 (c - (1 : Int))))))) ≤
                                            (0 : Int))),
                                      []))))))
                          (Tree.ret (AV.bool true false, []))))))))))
          (Tree.chk
            ((True ∧ True ∧ True) ∧
              (-9223372036854775808 : Int) ≤ h ∧
                h ≤ (9223372036854775807 : Int) ∧ (-9223372036854775808 : Int) ≤ k ∧ k ≤ (9223372036854775807 : Int) ∧ (0 : Int) ≤ l ∧ l ≤ (18446744073709551615 : Int) ∧ (0 : Int) ≤ m ∧ m ≤ (18446744073709551615 : Int))
            (Tree.br (cmpZ (numW h l) (numW k m) != (1 : Int)) (Tree.ret (AV.bool true false, []))
              (Tree.chk
                ((True ∧ True ∧ True) ∧
                  (-9223372036854775808 : Int) ≤ h ∧ h ≤ (9223372036854775807 : Int) ∧ (-9223372036854775808 : Int) ≤ c ∧ c ≤ (9223372036854775807 : Int) ∧ (0 : Int) ≤ l ∧ l ≤ (18446744073709551615 : Int))
                (Tree.br (decide (c < (1 : Int))) (Tree.br (quoE c (numW h l / c) == (2 : Int)) (Tree.ret (AV.bool false (quoV c (numW h l / c) == (0 : Int)), [])) (Tree.ret (AV.bool true false, [])))
                  (Tree.br (quoE c (numW h l / c) != (0 : Int))
                    (Tree.br (quoE c (numW h l / c) == (3 : Int))
                      (Tree.chk
                        ((True ∧ True ∧ True) ∧ (-9223372036854775808 : Int) ≤ (9223372036854775807 : Int) ∧ (9223372036854775807 : Int) ≤ (9223372036854775807 : Int) ∧ (-9223372036854775808 : Int) ≤ c ∧ c ≤ (9223372036854775807 : Int))
                        (Tree.chk ((True ∧ True) ∧ (-9223372036854775808 : Int) ≤ IntKind.wrap IntKind.i64 (c - (1 : Int)) ∧ IntKind.wrap IntKind.i64 (c - (1 : Int)) ≤ (9223372036854775807 : Int))
                          (Tree.chk
                            ((True ∧ True ∧ True) ∧
                              (-9223372036854775808 : Int) ≤ (0 : Int) ∧
                                (0 : Int) ≤ (9223372036854775807 : Int) ∧
                                  (-9223372036854775808 : Int) ≤ hiZ ((9223372036854775807 : Int) * c) ∧
                                    hiZ ((9223372036854775807 : Int) * c) ≤ (9223372036854775807 : Int) ∧
                                      (0 : Int) ≤ (0 : Int) ∧ (0 : Int) ≤ (18446744073709551615 : Int) ∧ (0 : Int) ≤ loZ ((9223372036854775807 : Int) * c) ∧ loZ ((9223372036854775807 : Int) * c) ≤ (18446744073709551615 : Int))
                            (Tree.chk
                              ((True ∧ True ∧ True) ∧
                                (-9223372036854775808 : Int) ≤ hiZ ((0 : Int) + numW (hiZ ((9223372036854775807 : Int) * c)) (loZ ((9223372036854775807 : Int) * c))) ∧
                                  hiZ ((0 : Int) + numW (hiZ ((9223372036854775807 : Int) * c)) (loZ ((9223372036854775807 : Int) * c))) ≤ (9223372036854775807 : Int) ∧
                                    (-9223372036854775808 : Int) ≤ hiZ (IntKind.wrap IntKind.i64 (c - (1 : Int))) ∧
                                      hiZ (IntKind.wrap IntKind.i64 (c - (1 : Int))) ≤ (9223372036854775807 : Int) ∧
                                        (0 : Int) ≤ loZ ((0 : Int) + numW (hiZ ((9223372036854775807 : Int) * c)) (loZ ((9223372036854775807 : Int) * c))) ∧
                                          loZ ((0 : Int) + numW (hiZ ((9223372036854775807 : Int) * c)) (loZ ((9223372036854775807 : Int) * c))) ≤ (18446744073709551615 : Int) ∧
                                            (0 : Int) ≤ loZ (IntKind.wrap IntKind.i64 (c - (1 : Int))) ∧ loZ (IntKind.wrap IntKind.i64 (c - (1 : Int))) ≤ (18446744073709551615 : Int))
                              (Tree.chk
                                ((True ∧ True ∧ True) ∧
                                  (-9223372036854775808 : Int) ≤ h ∧
                                    h ≤ (9223372036854775807 : Int) ∧
                                      (-9223372036854775808 : Int) ≤
                                          hiZ
                                            (numW (hiZ ((0 : Int) + numW (hiZ ((9223372036854775807 : Int) * c)) (loZ ((9223372036854775807 : Int) * c))))
                                                (loZ ((0 : Int) + numW (hiZ ((9223372036854775807 : Int) * c)) (loZ ((9223372036854775807 : Int) * c)))) +
                                              numW (hiZ (IntKind.wrap IntKind.i64 (c - (1 : Int)))) (loZ (IntKind.wrap IntKind.i64 (c - (1 : Int))))) ∧
                                        hiZ
                                              (numW (hiZ ((0 : Int) + numW (hiZ ((9223372036854775807 : Int) * c)) (loZ ((9223372036854775807 : Int) * c))))
                                                  (loZ ((0 : Int) + numW (hiZ ((9223372036854775807 : Int) * c)) (loZ ((9223372036854775807 : Int) * c)))) +
                                                numW (hiZ (IntKind.wrap IntKind.i64 (c - (1 : Int)))) (loZ (IntKind.wrap IntKind.i64 (c - (1 : Int))))) ≤
                                            (9223372036854775807 : Int) ∧
                                          (0 : Int) ≤ l ∧
                                            l ≤ (18446744073709551615 : Int) ∧
                                              (0 : Int) ≤
                                                  loZ
                                                    (numW (hiZ ((0 : Int) + numW (hiZ ((9223372036854775807 : Int) * c)) (loZ ((9223372036854775807 : Int) * c))))
                                                        (loZ ((0 : Int) + numW (hiZ ((9223372036854775807 : Int) * c)) (loZ ((9223372036854775807 : Int) * c)))) +
                                                      numW (hiZ (IntKind.wrap IntKind.i64 (c - (1 : Int)))) (loZ (IntKind.wrap IntKind.i64 (c - (1 : Int))))) ∧
                                                loZ
                                                    (numW (hiZ ((0 : Int) + numW (hiZ ((9223372036854775807 : Int) * c)) (loZ ((9223372036854775807 : Int) * c))))
                                                        (loZ ((0 : Int) + numW (hiZ ((9223372036854775807 : Int) * c)) (loZ ((9223372036854775807 : Int) * c)))) +
                                                      numW (hiZ (IntKind.wrap IntKind.i64 (c - (1 : Int)))) (loZ (IntKind.wrap IntKind.i64 (c - (1 : Int))))) ≤
                                                  (18446744073709551615 : Int))
                                (Tree.br
                                  (decide
                                    (cmpZ (numW h l)
                                        (numW
                                          (hiZ
                                            (numW (hiZ ((0 : Int) + numW (hiZ ((9223372036854775807 : Int) * c)) (loZ ((9223372036854775807 : Int) * c))))
                                                (loZ ((0 : Int) + numW (hiZ ((9223372036854775807 : Int) * c)) (loZ ((9223372036854775807 : Int) * c)))) +
                                              numW (hiZ (IntKind.wrap IntKind.i64 (c - (1 : Int)))) (loZ (IntKind.wrap IntKind.i64 (c - (1 : Int))))))
                                          (loZ
                                            (numW (hiZ ((0 : Int) + numW (hiZ ((9223372036854775807 : Int) * c)) (loZ ((9223372036854775807 : Int) * c))))
                                                (loZ ((0 : Int) + numW (hiZ ((9223372036854775807 : Int) * c)) (loZ ((9223372036854775807 : Int) * c)))) +
                                              numW (hiZ (IntKind.wrap IntKind.i64 (c - (1 : Int)))) (loZ (IntKind.wrap IntKind.i64 (c - (1 : Int))))))) >
                                      (0 : Int)))
                                  (Tree.ret (AV.bool true true, []))
                                  (Tree.chk
                                    ((True ∧ True ∧ True) ∧
                                      (-9223372036854775808 : Int) ≤ (-9223372036854775808 : Int) ∧ (-9223372036854775808 : Int) ≤ (9223372036854775807 : Int) ∧ (-9223372036854775808 : Int) ≤ c ∧ c ≤ (9223372036854775807 : Int))
                                    (Tree.chk
                                      ((True ∧ True ∧ True) ∧
                                        (-9223372036854775808 : Int) ≤ h ∧
                                          h ≤ (9223372036854775807 : Int) ∧
                                            (-9223372036854775808 : Int) ≤ hiZ ((-9223372036854775808 : Int) * c) ∧
                                              hiZ ((-9223372036854775808 : Int) * c) ≤ (9223372036854775807 : Int) ∧
                                                (0 : Int) ≤ l ∧ l ≤ (18446744073709551615 : Int) ∧ (0 : Int) ≤ loZ ((-9223372036854775808 : Int) * c) ∧ loZ ((-9223372036854775808 : Int) * c) ≤ (18446744073709551615 : Int))
                                      (Tree.ret (AV.bool false (decide (cmpZ (numW h l) (numW (hiZ ((-9223372036854775808 : Int) * c)) (loZ ((-9223372036854775808 : Int) * c))) < (0 : Int))), []))))))))))
                      (Tree.ret (AV.bool true false, [])))
                    (Tree.chk
                      ((True ∧ True ∧ True) ∧
                        (-9223372036854775808 : Int) ≤ quoV c (numW h l / c) ∧ quoV c (numW h l / c) ≤ (9223372036854775807 : Int) ∧ (-9223372036854775808 : Int) ≤ c ∧ c ≤ (9223372036854775807 : Int))
                      (Tree.chk
                        ((True ∧ True ∧ True) ∧
                          (-9223372036854775808 : Int) ≤ hiZ (quoV c (numW h l / c) * c) ∧
                            hiZ (quoV c (numW h l / c) * c) ≤ (9223372036854775807 : Int) ∧
                              (-9223372036854775808 : Int) ≤ h ∧
                                h ≤ (9223372036854775807 : Int) ∧
                                  (0 : Int) ≤ loZ (quoV c (numW h l / c) * c) ∧ loZ (quoV c (numW h l / c) * c) ≤ (18446744073709551615 : Int) ∧ (0 : Int) ≤ l ∧ l ≤ (18446744073709551615 : Int))
                        (Tree.br (decide (cmpZ (numW (hiZ (quoV c (numW h l / c) * c)) (loZ (quoV c (numW h l / c) * c))) (numW h l) ≤ (0 : Int)))
                          (Tree.chk ((True ∧ True) ∧ (-9223372036854775808 : Int) ≤ IntKind.wrap IntKind.i64 (c - (1 : Int)) ∧ IntKind.wrap IntKind.i64 (c - (1 : Int)) ≤ (9223372036854775807 : Int))
                            (Tree.chk
                              ((True ∧ True ∧ True) ∧
                                (-9223372036854775808 : Int) ≤ (0 : Int) ∧
                                  (0 : Int) ≤ (9223372036854775807 : Int) ∧
                                    (-9223372036854775808 : Int) ≤ hiZ (quoV c (numW h l / c) * c) ∧
                                      hiZ (quoV c (numW h l / c) * c) ≤ (9223372036854775807 : Int) ∧
                                        (0 : Int) ≤ (0 : Int) ∧
                                          (0 : Int) ≤ (18446744073709551615 : Int) ∧ (0 : Int) ≤ loZ (quoV c (numW h l / c) * c) ∧ loZ (quoV c (numW h l / c) * c) ≤ (18446744073709551615 : Int))
                              (Tree.chk
                                ((True ∧ True ∧ True) ∧
                                  (-9223372036854775808 : Int) ≤ hiZ ((0 : Int) + numW (hiZ (quoV c (numW h l / c) * c)) (loZ (quoV c (numW h l / c) * c))) ∧
                                    hiZ ((0 : Int) + numW (hiZ (quoV c (numW h l / c) * c)) (loZ (quoV c (numW h l / c) * c))) ≤ (9223372036854775807 : Int) ∧
                                      (-9223372036854775808 : Int) ≤ hiZ (IntKind.wrap IntKind.i64 (c - (1 : Int))) ∧
                                        hiZ (IntKind.wrap IntKind.i64 (c - (1 : Int))) ≤ (9223372036854775807 : Int) ∧
                                          (0 : Int) ≤ loZ ((0 : Int) + numW (hiZ (quoV c (numW h l / c) * c)) (loZ (quoV c (numW h l / c) * c))) ∧
                                            loZ ((0 : Int) + numW (hiZ (quoV c (numW h l / c) * c)) (loZ (quoV c (numW h l / c) * c))) ≤ (18446744073709551615 : Int) ∧
                                              (0 : Int) ≤ loZ (IntKind.wrap IntKind.i64 (c - (1 : Int))) ∧ loZ (IntKind.wrap IntKind.i64 (c - (1 : Int))) ≤ (18446744073709551615 : Int))
                                (Tree.chk
                                  ((True ∧ True ∧ True) ∧
                                    (-9223372036854775808 : Int) ≤ h ∧
                                      h ≤ (9223372036854775807 : Int) ∧
                                        (-9223372036854775808 : Int) ≤
                                            hiZ
                                              (numW (hiZ ((0 : Int) + numW (hiZ (quoV c (numW h l / c) * c)) (loZ (quoV c (numW h l / c) * c))))
                                                  (loZ ((0 : Int) + numW (hiZ (quoV c (numW h l / c) * c)) (loZ (quoV c (numW h l / c) * c)))) +
                                                numW (hiZ (IntKind.wrap IntKind.i64 (c - (1 : Int)))) (loZ (IntKind.wrap IntKind.i64 (c - (1 : Int))))) ∧
                                          hiZ
                                                (numW (hiZ ((0 : Int) + numW (hiZ (quoV c (numW h l / c) * c)) (loZ (quoV c (numW h l / c) * c))))
                                                    (loZ ((0 : Int) + numW (hiZ (quoV c (numW h l / c) * c)) (loZ (quoV c (numW h l / c) * c)))) +
                                                  numW (hiZ (IntKind.wrap IntKind.i64 (c - (1 : Int)))) (loZ (IntKind.wrap IntKind.i64 (c - (1 : Int))))) ≤
                                              (9223372036854775807 : Int) ∧
                                            (0 : Int) ≤ l ∧
                                              l ≤ (18446744073709551615 : Int) ∧
                                                (0 : Int) ≤
                                                    loZ
                                                      (numW (hiZ ((0 : Int) + numW (hiZ (quoV c (numW h l / c) * c)) (loZ (quoV c (numW h l / c) * c))))
                                                          (loZ ((0 : Int) + numW (hiZ (quoV c (numW h l / c) * c)) (loZ (quoV c (numW h l / c) * c)))) +
                                                        numW (hiZ (IntKind.wrap IntKind.i64 (c - (1 : Int)))) (loZ (IntKind.wrap IntKind.i64 (c - (1 : Int))))) ∧
                                                  loZ
                                                      (numW (hiZ ((0 : Int) + numW (hiZ (quoV c (numW h l / c) * c)) (loZ (quoV c (numW h l / c) * c))))
                                                          (loZ ((0 : Int) + numW (hiZ (quoV c (numW h l / c) * c)) (loZ (quoV c (numW h l / c) * c)))) +
                                                        numW (hiZ (IntKind.wrap IntKind.i64 (c - (1 : Int)))) (loZ (IntKind.wrap IntKind.i64 (c - (1 : Int))))) ≤
                                                    (18446744073709551615 : Int))
                                  (Tree.ret
                                    (AV.bool false
                                        (decide
                                          (cmpZ (numW h l)
                                              (numW
                                                (hiZ
                                                  (numW (hiZ ((0 : Int) + numW (hiZ (quoV c (numW h l / c) * c)) (loZ (quoV c (numW h l / c) * c))))
                                                      (loZ ((0 : Int) + numW (hiZ (quoV c (numW h l / c) * c)) (loZ (quoV c (numW h l / c) * c)))) +
                                                    numW (hiZ (IntKind.wrap IntKind.i64 (c - (1 : Int)))) (loZ (IntKind.wrap IntKind.i64 (c - (1 : Int))))))
                                                (loZ
                                                  (numW (hiZ ((0 : Int) + numW (hiZ (quoV c (numW h l / c) * c)) (loZ (quoV c (numW h l / c) * c))))
                                                      (loZ ((0 : Int) + numW (hiZ (quoV c (numW h l / c) * c)) (loZ (quoV c (numW h l / c) * c)))) +
                                                    numW (hiZ (IntKind.wrap IntKind.i64 (c - (1 : Int)))) (loZ (IntKind.wrap IntKind.i64 (c - (1 : Int))))))) ≤
                                            (0 : Int))),
                                      []))))))
                          (Tree.ret (AV.bool true false, [])))))))))))
        (Tree.br (l != m)
          (Tree.br (decide (l < m))
            (Tree.chk
              ((True ∧ True ∧ True) ∧
                (-9223372036854775808 : Int) ≤ h ∧
                  h ≤ (9223372036854775807 : Int) ∧ (-9223372036854775808 : Int) ≤ k ∧ k ≤ (9223372036854775807 : Int) ∧ (0 : Int) ≤ l ∧ l ≤ (18446744073709551615 : Int) ∧ (0 : Int) ≤ m ∧ m ≤ (18446744073709551615 : Int))
              (Tree.br (cmpZ (numW h l) (numW k m) != (-1 : Int)) (Tree.ret (AV.bool true false, []))
                (Tree.chk
                  ((True ∧ True ∧ True) ∧
                    (-9223372036854775808 : Int) ≤ h ∧ h ≤ (9223372036854775807 : Int) ∧ (-9223372036854775808 : Int) ≤ c ∧ c ≤ (9223372036854775807 : Int) ∧ (0 : Int) ≤ l ∧ l ≤ (18446744073709551615 : Int))
                  (Tree.br (decide (c < (1 : Int))) (Tree.br (quoE c (numW h l / c) == (2 : Int)) (Tree.ret (AV.bool false (quoV c (numW h l / c) == (0 : Int)), [])) (Tree.ret (AV.bool true false, [])))
                    (Tree.br (quoE c (numW h l / c) != (0 : Int))
                      (Tree.br (quoE c (numW h l / c) == (3 : Int))
                        (Tree.chk
                          ((True ∧ True ∧ True) ∧
                            (-9223372036854775808 : Int) ≤ (9223372036854775807 : Int) ∧ (9223372036854775807 : Int) ≤ (9223372036854775807 : Int) ∧ (-9223372036854775808 : Int) ≤ c ∧ c ≤ (9223372036854775807 : Int))
                          (Tree.chk ((True ∧ True) ∧ (-9223372036854775808 : Int) ≤ IntKind.wrap IntKind.i64 (c - (1 : Int)) ∧ IntKind.wrap IntKind.i64 (c - (1 : Int)) ≤ (9223372036854775807 : Int))
                            (Tree.chk
                              ((True ∧ True ∧ True) ∧
                                (-9223372036854775808 : Int) ≤ (0 : Int) ∧
                                  (0 : Int) ≤ (9223372036854775807 : Int) ∧
                                    (-9223372036854775808 : Int) ≤ hiZ ((9223372036854775807 : Int) * c) ∧
                                      hiZ ((9223372036854775807 : Int) * c) ≤ (9223372036854775807 : Int) ∧
                                        (0 : Int) ≤ (0 : Int) ∧ (0 : Int) ≤ (18446744073709551615 : Int) ∧ (0 : Int) ≤ loZ ((9223372036854775807 : Int) * c) ∧ loZ ((9223372036854775807 : Int) * c) ≤ (18446744073709551615 : Int))
                              (Tree.chk
                                ((True ∧ True ∧ True) ∧
                                  (-9223372036854775808 : Int) ≤ hiZ ((0 : Int) + numW (hiZ ((9223372036854775807 : Int) * c)) (loZ ((9223372036854775807 : Int) * c))) ∧
                                    hiZ ((0 : Int) + numW (hiZ ((9223372036854775807 : Int) * c)) (loZ ((9223372036854775807 : Int) * c))) ≤ (9223372036854775807 : Int) ∧
                                      (-9223372036854775808 : Int) ≤ hiZ (IntKind.wrap IntKind.i64 (c - (1 : Int))) ∧
                                        hiZ (IntKind.wrap IntKind.i64 (c - (1 : Int))) ≤ (9223372036854775807 : Int) ∧
                                          (0 : Int) ≤ loZ ((0 : Int) + numW (hiZ ((9223372036854775807 : Int) * c)) (loZ ((9223372036854775807 : Int) * c))) ∧
                                            loZ ((0 : Int) + numW (hiZ ((9223372036854775807 : Int) * c)) (loZ ((9223372036854775807 : Int) * c))) ≤ (18446744073709551615 : Int) ∧
                                              (0 : Int) ≤ loZ (IntKind.wrap IntKind.i64 (c - (1 : Int))) ∧ loZ (IntKind.wrap IntKind.i64 (c - (1 : Int))) ≤ (18446744073709551615 : Int))
                                (Tree.chk
                                  ((True ∧ True ∧ True) ∧
                                    (-9223372036854775808 : Int) ≤ h ∧
                                      h ≤ (9223372036854775807 : Int) ∧
                                        (-9223372036854775808 : Int) ≤
                                            hiZ
                                              (numW (hiZ ((0 : Int) + numW (hiZ ((9223372036854775807 : Int) * c)) (loZ ((9223372036854775807 : Int) * c))))
                                                  (loZ ((0 : Int) + numW (hiZ ((9223372036854775807 : Int) * c)) (loZ ((9223372036854775807 : Int) * c)))) +
                                                numW (hiZ (IntKind.wrap IntKind.i64 (c - (1 : Int)))) (loZ (IntKind.wrap IntKind.i64 (c - (1 : Int))))) ∧
                                          hiZ
                                                (numW (hiZ ((0 : Int) + numW (hiZ ((9223372036854775807 : Int) * c)) (loZ ((9223372036854775807 : Int) * c))))
                                                    (loZ ((0 : Int) + numW (hiZ ((9223372036854775807 : Int) * c)) (loZ ((9223372036854775807 : Int) * c)))) +
                                                  numW (hiZ (IntKind.wrap IntKind.i64 (c - (1 : Int)))) (loZ (IntKind.wrap IntKind.i64 (c - (1 : Int))))) ≤
                                              (9223372036854775807 : Int) ∧
                                            (0 : Int) ≤ l ∧
                                              l ≤ (18446744073709551615 : Int) ∧
                                                (0 : Int) ≤
                                                    loZ
                                                      (numW (hiZ ((0 : Int) + numW (hiZ ((9223372036854775807 : Int) * c)) (loZ ((9223372036854775807 : Int) * c))))
                                                          (loZ ((0 : Int) + numW (hiZ ((9223372036854775807 : Int) * c)) (loZ ((9223372036854775807 : Int) * c)))) +
                                                        numW (hiZ (IntKind.wrap IntKind.i64 (c - (1 : Int)))) (loZ (IntKind.wrap IntKind.i64 (c - (1 : Int))))) ∧
                                                  loZ
                                                      (numW (hiZ ((0 : Int) + numW (hiZ ((9223372036854775807 : Int) * c)) (loZ ((9223372036854775807 : Int) * c))))
                                                          (loZ ((0 : Int) + numW (hiZ ((9223372036854775807 : Int) * c)) (loZ ((9223372036854775807 : Int) * c)))) +
                                                        numW (hiZ (IntKind.wrap IntKind.i64 (c - (1 : Int)))) (loZ (IntKind.wrap IntKind.i64 (c - (1 : Int))))) ≤
                                                    (18446744073709551615 : Int))
                                  (Tree.br
                                    (decide
                                      (cmpZ (numW h l)
                                          (numW
                                            (hiZ
                                              (numW (hiZ ((0 : Int) + numW (hiZ ((9223372036854775807 : Int) * c)) (loZ ((9223372036854775807 : Int) * c))))
                                                  (loZ ((0 : Int) + numW (hiZ ((9223372036854775807 : Int) * c)) (loZ ((9223372036854775807 : Int) * c)))) +
                                                numW (hiZ (IntKind.wrap IntKind.i64 (c - (1 : Int)))) (loZ (IntKind.wrap IntKind.i64 (c - (1 : Int))))))
                                            (loZ
                                              (numW (hiZ ((0 : Int) + numW (hiZ ((9223372036854775807 : Int) * c)) (loZ ((9223372036854775807 : Int) * c))))
                                                  (loZ ((0 : Int) + numW (hiZ ((9223372036854775807 : Int) * c)) (loZ ((9223372036854775807 : Int) * c)))) +
                                                numW (hiZ (IntKind.wrap IntKind.i64 (c - (1 : Int)))) (loZ (IntKind.wrap IntKind.i64 (c - (1 : Int))))))) >
                                        (0 : Int)))
                                    (Tree.ret (AV.bool true true, []))
                                    (Tree.chk
                                      ((True ∧ True ∧ True) ∧
                                        (-9223372036854775808 : Int) ≤ (-9223372036854775808 : Int) ∧ (-9223372036854775808 : Int) ≤ (9223372036854775807 : Int) ∧ (-9223372036854775808 : Int) ≤ c ∧ c ≤ (9223372036854775807 : Int))
                                      (Tree.chk
                                        ((True ∧ True ∧ True) ∧
                                          (-9223372036854775808 : Int) ≤ h ∧
                                            h ≤ (9223372036854775807 : Int) ∧
                                              (-9223372036854775808 : Int) ≤ hiZ ((-9223372036854775808 : Int) * c) ∧
                                                hiZ ((-9223372036854775808 : Int) * c) ≤ (9223372036854775807 : Int) ∧
                                                  (0 : Int) ≤ l ∧ l ≤ (18446744073709551615 : Int) ∧ (0 : Int) ≤ loZ ((-9223372036854775808 : Int) * c) ∧ loZ ((-9223372036854775808 : Int) * c) ≤ (18446744073709551615 : Int))
                                        (Tree.ret (AV.bool false (decide (cmpZ (numW h l) (numW (hiZ ((-9223372036854775808 : Int) * c)) (loZ ((-9223372036854775808 : Int) * c))) < (0 : Int))), []))))))))))
                        (Tree.ret (AV.bool true false, [])))
                      (Tree.chk
                        ((True ∧ True ∧ True) ∧
                          (-9223372036854775808 : Int) ≤ quoV c (numW h l / c) ∧ quoV c (numW h l / c) ≤ (9223372036854775807 : Int) ∧ (-9223372036854775808 : Int) ≤ c ∧ c ≤ (9223372036854775807 : Int))
                        (Tree.chk
                          ((True ∧ True ∧ True) ∧
                            (-9223372036854775808 : Int) ≤ hiZ (quoV c (numW h l / c) * c) ∧
                              hiZ (quoV c (numW h l / c) * c) ≤ (9223372036854775807 : Int) ∧
                                (-9223372036854775808 : Int) ≤ h ∧
                                  h ≤ (9223372036854775807 : Int) ∧
                                    (0 : Int) ≤ loZ (quoV c (numW h l / c) * c) ∧ loZ (quoV c (numW h l / c) * c) ≤ (18446744073709551615 : Int) ∧ (0 : Int) ≤ l ∧ l ≤ (18446744073709551615 : Int))
                          (Tree.br (decide (cmpZ (numW (hiZ (quoV c (numW h l / c) * c)) (loZ (quoV c (numW h l / c) * c))) (numW h l) ≤ (0 : Int)))
                            (Tree.chk ((True ∧ True) ∧ (-9223372036854775808 : Int) ≤ IntKind.wrap IntKind.i64 (c - (1 : Int)) ∧ IntKind.wrap IntKind.i64 (c - (1 : Int)) ≤ (9223372036854775807 : Int))
                              (Tree.chk
                                ((True ∧ True ∧ True) ∧
                                  (-9223372036854775808 : Int) ≤ (0 : Int) ∧
                                    (0 : Int) ≤ (9223372036854775807 : Int) ∧
                                      (-9223372036854775808 : Int) ≤ hiZ (quoV c (numW h l / c) * c) ∧
                                        hiZ (quoV c (numW h l / c) * c) ≤ (9223372036854775807 : Int) ∧
                                          (0 : Int) ≤ (0 : Int) ∧
                                            (0 : Int) ≤ (18446744073709551615 : Int) ∧ (0 : Int) ≤ loZ (quoV c (numW h l / c) * c) ∧ loZ (quoV c (numW h l / c) * c) ≤ (18446744073709551615 : Int))
                                (Tree.chk
                                  ((True ∧ True ∧ True) ∧
                                    (-9223372036854775808 : Int) ≤ hiZ ((0 : Int) + numW (hiZ (quoV c (numW h l / c) * c)) (loZ (quoV c (numW h l / c) * c))) ∧
                                      hiZ ((0 : Int) + numW (hiZ (quoV c (numW h l / c) * c)) (loZ (quoV c (numW h l / c) * c))) ≤ (9223372036854775807 : Int) ∧
                                        (-9223372036854775808 : Int) ≤ hiZ (IntKind.wrap IntKind.i64 (c - (1 : Int))) ∧
                                          hiZ (IntKind.wrap IntKind.i64 (c - (1 : Int))) ≤ (9223372036854775807 : Int) ∧
                                            (0 : Int) ≤ loZ ((0 : Int) + numW (hiZ (quoV c (numW h l / c) * c)) (loZ (quoV c (numW h l / c) * c))) ∧
                                              loZ ((0 : Int) + numW (hiZ (quoV c (numW h l / c) * c)) (loZ (quoV c (numW h l / c) * c))) ≤ (18446744073709551615 : Int) ∧
                                                (0 : Int) ≤ loZ (IntKind.wrap IntKind.i64 (c - (1 : Int))) ∧ loZ (IntKind.wrap IntKind.i64 (c - (1 : Int))) ≤ (18446744073709551615 : Int))
                                  (Tree.chk
                                    ((True ∧ True ∧ True) ∧
                                      (-9223372036854775808 : Int) ≤ h ∧
                                        h ≤ (9223372036854775807 : Int) ∧
                                          (-9223372036854775808 : Int) ≤
                                              hiZ
                                                (numW (hiZ ((0 : Int) + numW (hiZ (quoV c (numW h l / c) * c)) (loZ (quoV c (numW h l / c) * c))))
                                                    (loZ ((0 : Int) + numW (hiZ (quoV c (numW h l / c) * c)) (loZ (quoV c (numW h l / c) * c)))) +
                                                  numW (hiZ (IntKind.wrap IntKind.i64 (c - (1 : Int)))) (loZ (IntKind.wrap IntKind.i64 (c - (1 : Int))))) ∧
                                            hiZ
                                                  (numW (hiZ ((0 : Int) + numW (hiZ (quoV c (numW h l / c) * c)) (loZ (quoV c (numW h l / c) * c))))
                                                      (loZ ((0 : Int) + numW (hiZ (quoV c (numW h l / c) * c)) (loZ (quoV c (numW h l / c) * c)))) +
                                                    numW (hiZ (IntKind.wrap IntKind.i64 (c - (1 : Int)))) (loZ (IntKind.wrap IntKind.i64 (c - (1 : Int))))) ≤
                                                (9223372036854775807 : Int) ∧
                                              (0 : Int) ≤ l ∧
                                                l ≤ (18446744073709551615 : Int) ∧
                                                  (0 : Int) ≤
                                                      loZ
                                                        (numW (hiZ ((0 : Int) + numW (hiZ (quoV c (numW h l / c) * c)) (loZ (quoV c (numW h l / c) * c))))
                                                            (loZ ((0 : Int) + numW (hiZ (quoV c (numW h l / c) * c)) (loZ (quoV c (numW h l / c) * c)))) +
                                                          numW (hiZ (IntKind.wrap IntKind.i64 (c - (1 : Int)))) (loZ (IntKind.wrap IntKind.i64 (c - (1 : Int))))) ∧
                                                    loZ
                                                        (numW (hiZ ((0 : Int) + numW (hiZ (quoV c (numW h l / c) * c)) (loZ (quoV c (numW h l / c) * c))))
                                                            (loZ ((0 : Int) + numW (hiZ (quoV c (numW h l / c) * c)) (loZ (quoV c (numW h l / c) * c)))) +
                                                          numW (hiZ (IntKind.wrap IntKind.i64 (c - (1 : Int)))) (loZ (IntKind.wrap IntKind.i64 (c - (1 : Int))))) ≤
                                                      (18446744073709551615 : Int))
                                    (Tree.ret
                                      (AV.bool false
                                          (decide
                                            (cmpZ (numW h l)
                                                (numW
                                                  (hiZ
                                                    (numW (hiZ ((0 : Int) + numW (hiZ (quoV c (numW h l / c) * c)) (loZ (quoV c (numW h l / c) * c))))
                                                        (loZ ((0 : Int) + numW (hiZ (quoV c (numW h l / c) * c)) (loZ (quoV c (numW h l / c) * c)))) +
                                                      numW (hiZ (IntKind.wrap IntKind.i64 (c - (1 : Int)))) (loZ (IntKind.wrap IntKind.i64 (c - (1 : Int))))))
                                                  (loZ
                                                    (numW (hiZ ((0 : Int) + numW (hiZ (quoV c (numW h l / c) * c)) (loZ (quoV c (numW h l / c) * c))))
                                                        (loZ ((0 : Int) + numW (hiZ (quoV c (numW h l / c) * c)) (loZ (quoV c (numW h l / c) * c)))) +
                                                      numW (hiZ (IntKind.wrap IntKind.i64 (c - (1 : Int)))) (loZ (IntKind.wrap IntKind.i64 (c - (1 : Int))))))) ≤
                                              (0 : Int))),
                                        []))))))
                            (Tree.ret (AV.bool true false, []))))))))))
            (Tree.chk
              ((True ∧ True ∧ True) ∧
                (-9223372036854775808 : Int) ≤ h ∧
                  h ≤ (9223372036854775807 : Int) ∧ (-9223372036854775808 : Int) ≤ k ∧ k ≤ (9223372036854775807 : Int) ∧ (0 : Int) ≤ l ∧ l ≤ (18446744073709551615 : Int) ∧ (0 : Int) ≤ m ∧ m ≤ (18446744073709551615 : Int))
              (Tree.br (cmpZ (numW h l) (numW k m) != (1 : Int)) (Tree.ret (AV.bool true false, []))
                (Tree.chk
                  ((True ∧ True ∧ True) ∧
                    (-9223372036854775808 : Int) ≤ h ∧ h ≤ (9223372036854775807 : Int) ∧ (-9223372036854775808 : Int) ≤ c ∧ c ≤ (9223372036854775807 : Int) ∧ (0 : Int) ≤ l ∧ l ≤ (18446744073709551615 : Int))
                  (Tree.br (decide (c < (1 : Int))) (Tree.br (quoE c (numW h l / c) == (2 : Int)) (Tree.ret (AV.bool false (quoV c (numW h l / c) == (0 : Int)), [])) (Tree.ret (AV.bool true false, [])))
                    (Tree.br (quoE c (numW h l / c) != (0 : Int))
                      (Tree.br (quoE c (numW h l / c) == (3 : Int))
                        (Tree.chk
                          ((True ∧ True ∧ True) ∧
                            (-9223372036854775808 : Int) ≤ (9223372036854775807 : Int) ∧ (9223372036854775807 : Int) ≤ (9223372036854775807 : Int) ∧ (-9223372036854775808 : Int) ≤ c ∧ c ≤ (9223372036854775807 : Int))
                          (Tree.chk ((True ∧ True) ∧ (-9223372036854775808 : Int) ≤ IntKind.wrap IntKind.i64 (c - (1 : Int)) ∧ IntKind.wrap IntKind.i64 (c - (1 : Int)) ≤ (9223372036854775807 : Int))
                            (Tree.chk
                              ((True ∧ True ∧ True) ∧
                                (-9223372036854775808 : Int) ≤ (0 : Int) ∧
                                  (0 : Int) ≤ (9223372036854775807 : Int) ∧
                                    (-9223372036854775808 : Int) ≤ hiZ ((9223372036854775807 : Int) * c) ∧
                                      hiZ ((9223372036854775807 : Int) * c) ≤ (9223372036854775807 : Int) ∧
                                        (0 : Int) ≤ (0 : Int) ∧ (0 : Int) ≤ (18446744073709551615 : Int) ∧ (0 : Int) ≤ loZ ((9223372036854775807 : Int) * c) ∧ loZ ((9223372036854775807 : Int) * c) ≤ (18446744073709551615 : Int))
                              (Tree.chk
                                ((True ∧ True ∧ True) ∧
                                  (-9223372036854775808 : Int) ≤ hiZ ((0 : Int) + numW (hiZ ((9223372036854775807 : Int) * c)) (loZ ((9223372036854775807 : Int) * c))) ∧
                                    hiZ ((0 : Int) + numW (hiZ ((9223372036854775807 : Int) * c)) (loZ ((9223372036854775807 : Int) * c))) ≤ (9223372036854775807 : Int) ∧
                                      (-9223372036854775808 : Int) ≤ hiZ (IntKind.wrap IntKind.i64 (c - (1 : Int))) ∧
                                        hiZ (IntKind.wrap IntKind.i64 (c - (1 : Int))) ≤ (9223372036854775807 : Int) ∧
                                          (0 : Int) ≤ loZ ((0 : Int) + numW (hiZ ((9223372036854775807 : Int) * c)) (loZ ((9223372036854775807 : Int) * c))) ∧
                                            loZ ((0 : Int) + numW (hiZ ((9223372036854775807 : Int) * c)) (loZ ((9223372036854775807 : Int) * c))) ≤ (18446744073709551615 : Int) ∧
                                              (0 : Int) ≤ loZ (IntKind.wrap IntKind.i64 (c - (1 : Int))) ∧ loZ (IntKind.wrap IntKind.i64 (c - (1 : Int))) ≤ (18446744073709551615 : Int))
                                (Tree.chk
                                  ((True ∧ True ∧ True) ∧
                                    (-9223372036854775808 : Int) ≤ h ∧
                                      h ≤ (9223372036854775807 : Int) ∧
                                        (-9223372036854775808 : Int) ≤
                                            hiZ
                                              (numW (hiZ ((0 : Int) + numW (hiZ ((9223372036854775807 : Int) * c)) (loZ ((9223372036854775807 : Int) * c))))
                                                  (loZ ((0 : Int) + numW (hiZ ((9223372036854775807 : Int) * c)) (loZ ((9223372036854775807 : Int) * c)))) +
                                                numW (hiZ (IntKind.wrap IntKind.i64 (c - (1 : Int)))) (loZ (IntKind.wrap IntKind.i64 (c - (1 : Int))))) ∧
                                          hiZ
                                                (numW (hiZ ((0 : Int) + numW (hiZ ((9223372036854775807 : Int) * c)) (loZ ((9223372036854775807 : Int) * c))))
                                                    (loZ ((0 : Int) + numW (hiZ ((9223372036854775807 : Int) * c)) (loZ ((9223372036854775807 : Int) * c)))) +
                                                  numW (hiZ (IntKind.wrap IntKind.i64 (c - (1 : Int)))) (loZ (IntKind.wrap IntKind.i64 (c - (1 : Int))))) ≤
                                              (9223372036854775807 : Int) ∧
                                            (0 : Int) ≤ l ∧
                                              l ≤ (18446744073709551615 : Int) ∧
                                                (0 : Int) ≤
                                                    loZ
                                                      (numW (hiZ ((0 : Int) + numW (hiZ ((9223372036854775807 : Int) * c)) (loZ ((9223372036854775807 : Int) * c))))
                                                          (loZ ((0 : Int) + numW (hiZ ((9223372036854775807 : Int) * c)) (loZ ((9223372036854775807 : Int) * c)))) +
                                                        numW (hiZ (IntKind.wrap IntKind.i64 (c - (1 : Int)))) (loZ (IntKind.wrap IntKind.i64 (c - (1 : Int))))) ∧
                                                  loZ
                                                      (numW (hiZ ((0 : Int) + numW (hiZ ((9223372036854775807 : Int) * c)) (loZ ((9223372036854775807 : Int) * c))))
                                                          (loZ ((0 : Int) + numW (hiZ ((9223372036854775807 : Int) * c)) (loZ ((9223372036854775807 : Int) * c)))) +
                                                        numW (hiZ (IntKind.wrap IntKind.i64 (c - (1 : Int)))) (loZ (IntKind.wrap IntKind.i64 (c - (1 : Int))))) ≤
                                                    (18446744073709551615 : Int))
                                  (Tree.br
                                    (decide
                                      (cmpZ (numW h l)
                                          (numW
                                            (hiZ
                                              (numW (hiZ ((0 : Int) + numW (hiZ ((9223372036854775807 : Int) * c)) (loZ ((9223372036854775807 : Int) * c))))
                                                  (loZ ((0 : Int) + numW (hiZ ((9223372036854775807 : Int) * c)) (loZ ((9223372036854775807 : Int) * c)))) +
                                                numW (hiZ (IntKind.wrap IntKind.i64 (c - (1 : Int)))) (loZ (IntKind.wrap IntKind.i64 (c - (1 : Int))))))
                                            (loZ
                                              (numW (hiZ ((0 : Int) + numW (hiZ ((9223372036854775807 : Int) * c)) (loZ ((9223372036854775807 : Int) * c))))
                                                  (loZ ((0 : Int) + numW (hiZ ((9223372036854775807 : Int) * c)) (loZ ((9223372036854775807 : Int) * c)))) +
                                                numW (hiZ (IntKind.wrap IntKind.i64 (c - (1 : Int)))) (loZ (IntKind.wrap IntKind.i64 (c - (1 : Int))))))) >
                                        (0 : Int)))
                                    (Tree.ret (AV.bool true true, []))
                                    (Tree.chk
                                      ((True ∧ True ∧ True) ∧
                                        (-9223372036854775808 : Int) ≤ (-9223372036854775808 : Int) ∧ (-9223372036854775808 : Int) ≤ (9223372036854775807 : Int) ∧ (-9223372036854775808 : Int) ≤ c ∧ c ≤ (9223372036854775807 : Int))
                                      (Tree.chk
                                        ((True ∧ True ∧ True) ∧
                                          (-9223372036854775808 : Int) ≤ h ∧
                                            h ≤ (9223372036854775807 : Int) ∧
                                              (-9223372036854775808 : Int) ≤ hiZ ((-9223372036854775808 : Int) * c) ∧
                                                hiZ ((-9223372036854775808 : Int) * c) ≤ (9223372036854775807 : Int) ∧
                                                  (0 : Int) ≤ l ∧ l ≤ (18446744073709551615 : Int) ∧ (0 : Int) ≤ loZ ((-9223372036854775808 : Int) * c) ∧ loZ ((-9223372036854775808 : Int) * c) ≤ (18446744073709551615 : Int))
                                        (Tree.ret (AV.bool false (decide (cmpZ (numW h l) (numW (hiZ ((-9223372036854775808 : Int) * c)) (loZ ((-9223372036854775808 : Int) * c))) < (0 : Int))), []))))))))))
                        (Tree.ret (AV.bool true false, [])))
                      (Tree.chk
                        ((True ∧ True ∧ True) ∧
                          (-9223372036854775808 : Int) ≤ quoV c (numW h l / c) ∧ quoV c (numW h l / c) ≤ (9223372036854775807 : Int) ∧ (-9223372036854775808 : Int) ≤ c ∧ c ≤ (9223372036854775807 : Int))
                        (Tree.chk
                          ((True ∧ True ∧ True) ∧
                            (-9223372036854775808 : Int) ≤ hiZ (quoV c (numW h l / c) * c) ∧
                              hiZ (quoV c (numW h l / c) * c) ≤ (9223372036854775807 : Int) ∧
                                (-9223372036854775808 : Int) ≤ h ∧
                                  h ≤ (9223372036854775807 : Int) ∧
                                    (0 : Int) ≤ loZ (quoV c (numW h l / c) * c) ∧ loZ (quoV c (numW h l / c) * c) ≤ (18446744073709551615 : Int) ∧ (0 : Int) ≤ l ∧ l ≤ (18446744073709551615 : Int))
                          (Tree.br (decide (cmpZ (numW (hiZ (quoV c (numW h l / c) * c)) (loZ (quoV c (numW h l / c) * c))) (numW h l) ≤ (0 : Int)))
                            (Tree.chk ((True ∧ True) ∧ (-9223372036854775808 : Int) ≤ IntKind.wrap IntKind.i64 (c - (1 : Int)) ∧ IntKind.wrap IntKind.i64 (c - (1 : Int)) ≤ (9223372036854775807 : Int))
                              (Tree.chk
                                ((True ∧ True ∧ True) ∧
                                  (-9223372036854775808 : Int) ≤ (0 : Int) ∧
                                    (0 : Int) ≤ (9223372036854775807 : Int) ∧
                                      (-9223372036854775808 : Int) ≤ hiZ (quoV c (numW h l / c) * c) ∧
                                        hiZ (quoV c (numW h l / c) * c) ≤ (9223372036854775807 : Int) ∧
                                          (0 : Int) ≤ (0 : Int) ∧
                                            (0 : Int) ≤ (18446744073709551615 : Int) ∧ (0 : Int) ≤ loZ (quoV c (numW h l / c) * c) ∧ loZ (quoV c (numW h l / c) * c) ≤ (18446744073709551615 : Int))
                                (Tree.chk
                                  ((True ∧ True ∧ True) ∧
                                    (-9223372036854775808 : Int) ≤ hiZ ((0 : Int) + numW (hiZ (quoV c (numW h l / c) * c)) (loZ (quoV c (numW h l / c) * c))) ∧
                                      hiZ ((0 : Int) + numW (hiZ (quoV c (numW h l / c) * c)) (loZ (quoV c (numW h l / c) * c))) ≤ (9223372036854775807 : Int) ∧
                                        (-9223372036854775808 : Int) ≤ hiZ (IntKind.wrap IntKind.i64 (c - (1 : Int))) ∧
                                          hiZ (IntKind.wrap IntKind.i64 (c - (1 : Int))) ≤ (9223372036854775807 : Int) ∧
                                            (0 : Int) ≤ loZ ((0 : Int) + numW (hiZ (quoV c (numW h l / c) * c)) (loZ (quoV c (numW h l / c) * c))) ∧
                                              loZ ((0 : Int) + numW (hiZ (quoV c (numW h l / c) * c)) (loZ (quoV c (numW h l / c) * c))) ≤ (18446744073709551615 : Int) ∧
                                                (0 : Int) ≤ loZ (IntKind.wrap IntKind.i64 (c - (1 : Int))) ∧ loZ (IntKind.wrap IntKind.i64 (c - (1 : Int))) ≤ (18446744073709551615 : Int))
                                  (Tree.chk
                                    ((True ∧ True ∧ True) ∧
                                      (-9223372036854775808 : Int) ≤ h ∧
                                        h ≤ (9223372036854775807 : Int) ∧
                                          (-9223372036854775808 : Int) ≤
                                              hiZ
                                                (numW (hiZ ((0 : Int) + numW (hiZ (quoV c (numW h l / c) * c)) (loZ (quoV c (numW h l / c) * c))))
                                                    (loZ ((0 : Int) + numW (hiZ (quoV c (numW h l / c) * c)) (loZ (quoV c (numW h l / c) * c)))) +
                                                  numW (hiZ (IntKind.wrap IntKind.i64 (c - (1 : Int)))) (loZ (IntKind.wrap IntKind.i64 (c - (1 : Int))))) ∧
                                            hiZ
                                                  (numW (hiZ ((0 : Int) + numW (hiZ (quoV c (numW h l / c) * c)) (loZ (quoV c (numW h l / c) * c))))
                                                      (loZ ((0 : Int) + numW (hiZ (quoV c (numW h l / c) * c)) (loZ (quoV c (numW h l / c) * c)))) +
                                                    numW (hiZ (IntKind.wrap IntKind.i64 (c - (1 : Int)))) (loZ (IntKind.wrap IntKind.i64 (c - (1 : Int))))) ≤
                                                (9223372036854775807 : Int) ∧
                                              (0 : Int) ≤ l ∧
                                                l ≤ (18446744073709551615 : Int) ∧
                                                  (0 : Int) ≤
                                                      loZ
                                                        (numW (hiZ ((0 : Int) + numW (hiZ (quoV c (numW h l / c) * c)) (loZ (quoV c (numW h l / c) * c))))
                                                            (loZ ((0 : Int) + numW (hiZ (quoV c (numW h l / c) * c)) (loZ (quoV c (numW h l / c) * c)))) +
                                                          numW (hiZ (IntKind.wrap IntKind.i64 (c - (1 : Int)))) (loZ (IntKind.wrap IntKind.i64 (c - (1 : Int))))) ∧
                                                    loZ
                                                        (numW (hiZ ((0 : Int) + numW (hiZ (quoV c (numW h l / c) * c)) (loZ (quoV c (numW h l / c) * c))))
                                                            (loZ ((0 : Int) + numW (hiZ (quoV c (numW h l / c) * c)) (loZ (quoV c (numW h l / c) * c)))) +
                                                          numW (hiZ (IntKind.wrap IntKind.i64 (c - (1 : Int)))) (loZ (IntKind.wrap IntKind.i64 (c - (1 : Int))))) ≤
                                                      (18446744073709551615 : Int))
                                    (Tree.ret
                                      (AV.bool false
                                          (decide
                                            (cmpZ (numW h l)
                                                (numW
                                                  (hiZ
                                                    (numW (hiZ ((0 : Int) + numW (hiZ (quoV c (numW h l / c) * c)) (loZ (quoV c (numW h l / c) * c))))
                                                        (loZ ((0 : Int) + numW (hiZ (quoV c (numW h l / c) * c)) (loZ (quoV c (numW h l / c) * c)))) +
                                                      numW (hiZ (IntKind.wrap IntKind.i64 (c - (1 : Int)))) (loZ (IntKind.wrap IntKind.i64 (c - (1 : Int))))))
                                                  (loZ
                                                    (numW (hiZ ((0 : Int) + numW (hiZ (quoV c (numW h l / c) * c)) (loZ (quoV c (numW h l / c) * c))))
                                                        (loZ ((0 : Int) + numW (hiZ (quoV c (numW h l / c) * c)) (loZ (quoV c (numW h l / c) * c)))) +
                                                      numW (hiZ (IntKind.wrap IntKind.i64 (c - (1 : Int)))) (loZ (IntKind.wrap IntKind.i64 (c - (1 : Int))))))) ≤
                                              (0 : Int))),
                                        []))))))
                            (Tree.ret (AV.bool true false, [])))))))))))
          (Tree.chk
            ((True ∧ True ∧ True) ∧
              (-9223372036854775808 : Int) ≤ h ∧
                h ≤ (9223372036854775807 : Int) ∧ (-9223372036854775808 : Int) ≤ k ∧ k ≤ (9223372036854775807 : Int) ∧ (0 : Int) ≤ l ∧ l ≤ (18446744073709551615 : Int) ∧ (0 : Int) ≤ m ∧ m ≤ (18446744073709551615 : Int))
            (Tree.br (cmpZ (numW h l) (numW k m) != (0 : Int)) (Tree.ret (AV.bool true false, []))
              (Tree.chk
                ((True ∧ True ∧ True) ∧
                  (-9223372036854775808 : Int) ≤ h ∧ h ≤ (9223372036854775807 : Int) ∧ (-9223372036854775808 : Int) ≤ c ∧ c ≤ (9223372036854775807 : Int) ∧ (0 : Int) ≤ l ∧ l ≤ (18446744073709551615 : Int))
                (Tree.br (decide (c < (1 : Int))) (Tree.br (quoE c (numW h l / c) == (2 : Int)) (Tree.ret (AV.bool false (quoV c (numW h l / c) == (0 : Int)), [])) (Tree.ret (AV.bool true false, [])))
                  (Tree.br (quoE c (numW h l / c) != (0 : Int))
                    (Tree.br (quoE c (numW h l / c) == (3 : Int))
                      (Tree.chk
                        ((True ∧ True ∧ True) ∧ (-9223372036854775808 : Int) ≤ (9223372036854775807 : Int) ∧ (9223372036854775807 : Int) ≤ (9223372036854775807 : Int) ∧ (-9223372036854775808 : Int) ≤ c ∧ c ≤ (9223372036854775807 : Int))
                        (Tree.chk ((True ∧ True) ∧ (-9223372036854775808 : Int) ≤ IntKind.wrap IntKind.i64 (c - (1 : Int)) ∧ IntKind.wrap IntKind.i64 (c - (1 : Int)) ≤ (9223372036854775807 : Int))
                          (Tree.chk
                            ((True ∧ True ∧ True) ∧
                              (-9223372036854775808 : Int) ≤ (0 : Int) ∧
                                (0 : Int) ≤ (9223372036854775807 : Int) ∧
                                  (-9223372036854775808 : Int) ≤ hiZ ((9223372036854775807 : Int) * c) ∧
                                    hiZ ((9223372036854775807 : Int) * c) ≤ (9223372036854775807 : Int) ∧
                                      (0 : Int) ≤ (0 : Int) ∧ (0 : Int) ≤ (18446744073709551615 : Int) ∧ (0 : Int) ≤ loZ ((9223372036854775807 : Int) * c) ∧ loZ ((9223372036854775807 : Int) * c) ≤ (18446744073709551615 : Int))
                            (Tree.chk
                              ((True ∧ True ∧ True) ∧
                                (-9223372036854775808 : Int) ≤ hiZ ((0 : Int) + numW (hiZ ((9223372036854775807 : Int) * c)) (loZ ((9223372036854775807 : Int) * c))) ∧
                                  hiZ ((0 : Int) + numW (hiZ ((9223372036854775807 : Int) * c)) (loZ ((9223372036854775807 : Int) * c))) ≤ (9223372036854775807 : Int) ∧
                                    (-9223372036854775808 : Int) ≤ hiZ (IntKind.wrap IntKind.i64 (c - (1 : Int))) ∧
                                      hiZ (IntKind.wrap IntKind.i64 (c - (1 : Int))) ≤ (9223372036854775807 : Int) ∧
                                        (0 : Int) ≤ loZ ((0 : Int) + numW (hiZ ((9223372036854775807 : Int) * c)) (loZ ((9223372036854775807 : Int) * c))) ∧
                                          loZ ((0 : Int) + numW (hiZ ((9223372036854775807 : Int) * c)) (loZ ((9223372036854775807 : Int) * c))) ≤ (18446744073709551615 : Int) ∧
                                            (0 : Int) ≤ loZ (IntKind.wrap IntKind.i64 (c - (1 : Int))) ∧ loZ (IntKind.wrap IntKind.i64 (c - (1 : Int))) ≤ (18446744073709551615 : Int))
                              (Tree.chk
                                ((True ∧ True ∧ True) ∧
                                  (-9223372036854775808 : Int) ≤ h ∧
                                    h ≤ (9223372036854775807 : Int) ∧
                                      (-9223372036854775808 : Int) ≤
                                          hiZ
                                            (numW (hiZ ((0 : Int) + numW (hiZ ((9223372036854775807 : Int) * c)) (loZ ((9223372036854775807 : Int) * c))))
                                                (loZ ((0 : Int) + numW (hiZ ((9223372036854775807 : Int) * c)) (loZ ((9223372036854775807 : Int) * c)))) +
                                              numW (hiZ (IntKind.wrap IntKind.i64 (c - (1 : Int)))) (loZ (IntKind.wrap IntKind.i64 (c - (1 : Int))))) ∧
                                        hiZ
                                              (numW (hiZ ((0 : Int) + numW (hiZ ((9223372036854775807 : Int) * c)) (loZ ((9223372036854775807 : Int) * c))))
                                                  (loZ ((0 : Int) + numW (hiZ ((9223372036854775807 : Int) * c)) (loZ ((9223372036854775807 : Int) * c)))) +
                                                numW (hiZ (IntKind.wrap IntKind.i64 (c - (1 : Int)))) (loZ (IntKind.wrap IntKind.i64 (c - (1 : Int))))) ≤
                                            (9223372036854775807 : Int) ∧
                                          (0 : Int) ≤ l ∧
                                            l ≤ (18446744073709551615 : Int) ∧
                                              (0 : Int) ≤
                                                  loZ
                                                    (numW (hiZ ((0 : Int) + numW (hiZ ((9223372036854775807 : Int) * c)) (loZ ((9223372036854775807 : Int) * c))))
                                                        (loZ ((0 : Int) + numW (hiZ ((9223372036854775807 : Int) * c)) (loZ ((9223372036854775807 : Int) * c)))) +
                                                      numW (hiZ (IntKind.wrap IntKind.i64 (c - (1 : Int)))) (loZ (IntKind.wrap IntKind.i64 (c - (1 : Int))))) ∧
                                                loZ
                                                    (numW (hiZ ((0 : Int) + numW (hiZ ((9223372036854775807 : Int) * c)) (loZ ((9223372036854775807 : Int) * c))))
                                                        (loZ ((0 : Int) + numW (hiZ ((9223372036854775807 : Int) * c)) (loZ ((9223372036854775807 : Int) * c)))) +
                                                      numW (hiZ (IntKind.wrap IntKind.i64 (c - (1 : Int)))) (loZ (IntKind.wrap IntKind.i64 (c - (1 : Int))))) ≤
                                                  (18446744073709551615 : Int))
                                (Tree.br
                                  (decide
                                    (cmpZ (numW h l)
                                        (numW
                                          (hiZ
                                            (numW (hiZ ((0 : Int) + numW (hiZ ((9223372036854775807 : Int) * c)) (loZ ((9223372036854775807 : Int) * c))))
                                                (loZ ((0 : Int) + numW (hiZ ((9223372036854775807 : Int) * c)) (loZ ((9223372036854775807 : Int) * c)))) +
                                              numW (hiZ (IntKind.wrap IntKind.i64 (c - (1 : Int)))) (loZ (IntKind.wrap IntKind.i64 (c - (1 : Int))))))
                                          (loZ
                                            (numW (hiZ ((0 : Int) + numW (hiZ ((9223372036854775807 : Int) * c)) (loZ ((9223372036854775807 : Int) * c))))
                                                (loZ ((0 : Int) + numW (hiZ ((9223372036854775807 : Int) * c)) (loZ ((9223372036854775807 : Int) * c)))) +
                                              numW (hiZ (IntKind.wrap IntKind.i64 (c - (1 : Int)))) (loZ (IntKind.wrap IntKind.i64 (c - (1 : Int))))))) >
                                      (0 : Int)))
                                  (Tree.ret (AV.bool true true, []))
                                  (Tree.chk
                                    ((True ∧ True ∧ True) ∧
                                      (-9223372036854775808 : Int) ≤ (-9223372036854775808 : Int) ∧ (-9223372036854775808 : Int) ≤ (9223372036854775807 : Int) ∧ (-9223372036854775808 : Int) ≤ c ∧ c ≤ (9223372036854775807 : Int))
                                    (Tree.chk
                                      ((True ∧ True ∧ True) ∧
                                        (-9223372036854775808 : Int) ≤ h ∧
                                          h ≤ (9223372036854775807 : Int) ∧
                                            (-9223372036854775808 : Int) ≤ hiZ ((-9223372036854775808 : Int) * c) ∧
                                              hiZ ((-9223372036854775808 : Int) * c) ≤ (9223372036854775807 : Int) ∧
                                                (0 : Int) ≤ l ∧ l ≤ (18446744073709551615 : Int) ∧ (0 : Int) ≤ loZ ((-9223372036854775808 : Int) * c) ∧ loZ ((-9223372036854775808 : Int) * c) ≤ (18446744073709551615 : Int))
                                      (Tree.ret (AV.bool false (decide (cmpZ (numW h l) (numW (hiZ ((-9223372036854775808 : Int) * c)) (loZ ((-9223372036854775808 : Int) * c))) < (0 : Int))), []))))))))))
                      (Tree.ret (AV.bool true false, [])))
                    (Tree.chk
                      ((True ∧ True ∧ True) ∧
                        (-9223372036854775808 : Int) ≤ quoV c (numW h l / c) ∧ quoV c (numW h l / c) ≤ (9223372036854775807 : Int) ∧ (-9223372036854775808 : Int) ≤ c ∧ c ≤ (9223372036854775807 : Int))
                      (Tree.chk
                        ((True ∧ True ∧ True) ∧
                          (-9223372036854775808 : Int) ≤ hiZ (quoV c (numW h l / c) * c) ∧
                            hiZ (quoV c (numW h l / c) * c) ≤ (9223372036854775807 : Int) ∧
                              (-9223372036854775808 : Int) ≤ h ∧
                                h ≤ (9223372036854775807 : Int) ∧
                                  (0 : Int) ≤ loZ (quoV c (numW h l / c) * c) ∧ loZ (quoV c (numW h l / c) * c) ≤ (18446744073709551615 : Int) ∧ (0 : Int) ≤ l ∧ l ≤ (18446744073709551615 : Int))
                        (Tree.br (decide (cmpZ (numW (hiZ (quoV c (numW h l / c) * c)) (loZ (quoV c (numW h l / c) * c))) (numW h l) ≤ (0 : Int)))
                          (Tree.chk ((True ∧ True) ∧ (-9223372036854775808 : Int) ≤ IntKind.wrap IntKind.i64 (c - (1 : Int)) ∧ IntKind.wrap IntKind.i64 (c - (1 : Int)) ≤ (9223372036854775807 : Int))
                            (Tree.chk
                              ((True ∧ True ∧ True) ∧
                                (-9223372036854775808 : Int) ≤ (0 : Int) ∧
                                  (0 : Int) ≤ (9223372036854775807 : Int) ∧
                                    (-9223372036854775808 : Int) ≤ hiZ (quoV c (numW h l / c) * c) ∧
                                      hiZ (quoV c (numW h l / c) * c) ≤ (9223372036854775807 : Int) ∧
                                        (0 : Int) ≤ (0 : Int) ∧
                                          (0 : Int) ≤ (18446744073709551615 : Int) ∧ (0 : Int) ≤ loZ (quoV c (numW h l / c) * c) ∧ loZ (quoV c (numW h l / c) * c) ≤ (18446744073709551615 : Int))
                              (Tree.chk
                                ((True ∧ True ∧ True) ∧
                                  (-9223372036854775808 : Int) ≤ hiZ ((0 : Int) + numW (hiZ (quoV c (numW h l / c) * c)) (loZ (quoV c (numW h l / c) * c))) ∧
                                    hiZ ((0 : Int) + numW (hiZ (quoV c (numW h l / c) * c)) (loZ (quoV c (numW h l / c) * c))) ≤ (9223372036854775807 : Int) ∧
                                      (-9223372036854775808 : Int) ≤ hiZ (IntKind.wrap IntKind.i64 (c - (1 : Int))) ∧
                                        hiZ (IntKind.wrap IntKind.i64 (c - (1 : Int))) ≤ (9223372036854775807 : Int) ∧
                                          (0 : Int) ≤ loZ ((0 : Int) + numW (hiZ (quoV c (numW h l / c) * c)) (loZ (quoV c (numW h l / c) * c))) ∧
                                            loZ ((0 : Int) + numW (hiZ (quoV c (numW h l / c) * c)) (loZ (quoV c (numW h l / c) * c))) ≤ (18446744073709551615 : Int) ∧
                                              (0 : Int) ≤ loZ (IntKind.wrap IntKind.i64 (c - (1 : Int))) ∧ loZ (IntKind.wrap IntKind.i64 (c - (1 : Int))) ≤ (18446744073709551615 : Int))
                                (Tree.chk
                                  ((True ∧ True ∧ True) ∧
                                    (-9223372036854775808 : Int) ≤ h ∧
                                      h ≤ (9223372036854775807 : Int) ∧
                                        (-9223372036854775808 : Int) ≤
                                            hiZ
                                              (numW (hiZ ((0 : Int) + numW (hiZ (quoV c (numW h l / c) * c)) (loZ (quoV c (numW h l / c) * c))))
                                                  (loZ ((0 : Int) + numW (hiZ (quoV c (numW h l / c) * c)) (loZ (quoV c (numW h l / c) * c)))) +
                                                numW (hiZ (IntKind.wrap IntKind.i64 (c - (1 : Int)))) (loZ (IntKind.wrap IntKind.i64 (c - (1 : Int))))) ∧
                                          hiZ
                                                (numW (hiZ ((0 : Int) + numW (hiZ (quoV c (numW h l / c) * c)) (loZ (quoV c (numW h l / c) * c))))
                                                    (loZ ((0 : Int) + numW (hiZ (quoV c (numW h l / c) * c)) (loZ (quoV c (numW h l / c) * c)))) +
                                                  numW (hiZ (IntKind.wrap IntKind.i64 (c - (1 : Int)))) (loZ (IntKind.wrap IntKind.i64 (c - (1 : Int))))) ≤
                                              (9223372036854775807 : Int) ∧
                                            (0 : Int) ≤ l ∧
                                              l ≤ (18446744073709551615 : Int) ∧
                                                (0 : Int) ≤
                                                    loZ
                                                      (numW (hiZ ((0 : Int) + numW (hiZ (quoV c (numW h l / c) * c)) (loZ (quoV c (numW h l / c) * c))))
                                                          (loZ ((0 : Int) + numW (hiZ (quoV c (numW h l / c) * c)) (loZ (quoV c (numW h l / c) * c)))) +
                                                        numW (hiZ (IntKind.wrap IntKind.i64 (c - (1 : Int)))) (loZ (IntKind.wrap IntKind.i64 (c - (1 : Int))))) ∧
                                                  loZ
                                                      (numW (hiZ ((0 : Int) + numW (hiZ (quoV c (numW h l / c) * c)) (loZ (quoV c (numW h l / c) * c))))
                                                          (loZ ((0 : Int) + numW (hiZ (quoV c (numW h l / c) * c)) (loZ (quoV c (numW h l / c) * c)))) +
                                                        numW (hiZ (IntKind.wrap IntKind.i64 (c - (1 : Int)))) (loZ (IntKind.wrap IntKind.i64 (c - (1 : Int))))) ≤
                                                    (18446744073709551615 : Int))
                                  (Tree.ret
                                    (AV.bool false
                                        (decide
                                          (cmpZ (numW h l)
                                              (numW
                                                (hiZ
                                                  (numW (hiZ ((0 : Int) + numW (hiZ (quoV c (numW h l / c) * c)) (loZ (quoV c (numW h l / c) * c))))
                                                      (loZ ((0 : Int) + numW (hiZ (quoV c (numW h l / c) * c)) (loZ (quoV c (numW h l / c) * c)))) +
                                                    numW (hiZ (IntKind.wrap IntKind.i64 (c - (1 : Int)))) (loZ (IntKind.wrap IntKind.i64 (c - (1 : Int))))))
                                                (loZ
                                                  (numW (hiZ ((0 : Int) + numW (hiZ (quoV c (numW h l / c) * c)) (loZ (quoV c (numW h l / c) * c))))
                                                      (loZ ((0 : Int) + numW (hiZ (quoV c (numW h l / c) * c)) (loZ (quoV c (numW h l / c) * c)))) +
                                                    numW (hiZ (IntKind.wrap IntKind.i64 (c - (1 : Int)))) (loZ (IntKind.wrap IntKind.i64 (c - (1 : Int))))))) ≤
                                            (0 : Int))),
                                      []))))))
                          (Tree.ret (AV.bool true false, []))))))))))))) := by kernel_rfl
set_option maxHeartbeats 4000000 in
set_option maxRecDepth 100000 in
theorem gWideRaw (h : Int) (l : Int) (k : Int) (m : Int) (c : Int) (hw : -9223372036854775808 ≤ h ∧ h ≤ 9223372036854775807 ∧ -9223372036854775808 ≤ k ∧ k ≤ 9223372036854775807 ∧ -9223372036854775808 ≤ c ∧ c ≤ 9223372036854775807 ∧ 0 ≤ l ∧ l ≤ 18446744073709551615 ∧ 0 ≤ m ∧ m ≤ 18446744073709551615) : (Tree.chk (True ∧ True)
    (Tree.br false (Tree.ret (AV.bool true false, []))
      (Tree.br (h != k)
        (Tree.br (decide (h < k))
          (Tree.chk
            ((True ∧ True ∧ True) ∧
              (-9223372036854775808 : Int) ≤ h ∧
                h ≤ (9223372036854775807 : Int) ∧ (-9223372036854775808 : Int) ≤ k ∧ k ≤ (9223372036854775807 : Int) ∧ (0 : Int) ≤ l ∧ l ≤ (18446744073709551615 : Int) ∧ (0 : Int) ≤ m ∧ m ≤ (18446744073709551615 : Int))
            (Tree.br (cmpZ (numW h l) (numW k m) != (-1 : Int)) (Tree.ret (AV.bool true false, []))
              (Tree.chk
                ((True ∧ True ∧ True) ∧
                  (-9223372036854775808 : Int) ≤ h ∧ h ≤ (9223372036854775807 : Int) ∧ (-9223372036854775808 : Int) ≤ c ∧ c ≤ (9223372036854775807 : Int) ∧ (0 : Int) ≤ l ∧ l ≤ (18446744073709551615 : Int))
                (Tree.br (decide (c < (1 : Int))) (Tree.br (quoE c (numW h l / c) == (2 : Int)) (Tree.ret (AV.bool false (quoV c (numW h l / c) == (0 : Int)), [])) (Tree.ret (AV.bool true false, [])))
                  (Tree.br (quoE c (numW h l / c) != (0 : Int))
                    (Tree.br (quoE c (numW h l / c) == (3 : Int))
                      (Tree.chk
                        ((True ∧ True ∧ True) ∧ (-9223372036854775808 : Int) ≤ (9223372036854775807 : Int) ∧ (9223372036854775807 : Int) ≤ (9223372036854775807 : Int) ∧ (-9223372036854775808 : Int) ≤ c ∧ c ≤ (9223372036854775807 : Int))
                        (Tree.chk ((True ∧ True) ∧ (-9223372036854775808 : Int) ≤ IntKind.wrap IntKind.i64 (c - (1 : Int)) ∧ IntKind.wrap IntKind.i64 (c - (1 : Int)) ≤ (9223372036854775807 : Int))
                          (Tree.chk
                            ((True ∧ True ∧ True) ∧
                              (-9223372036854775808 : Int) ≤ (0 : Int) ∧
                                (0 : Int) ≤ (9223372036854775807 : Int) ∧
                                  (-9223372036854775808 : Int) ≤ hiZ ((9223372036854775807 : Int) * c) ∧
                                    hiZ ((9223372036854775807 : Int) * c) ≤ (9223372036854775807 : Int) ∧
                                      (0 : Int) ≤ (0 : Int) ∧ (0 : Int) ≤ (18446744073709551615 : Int) ∧ (0 : Int) ≤ loZ ((9223372036854775807 : Int) * c) ∧ loZ ((9223372036854775807 : Int) * c) ≤ (18446744073709551615 : Int))
                            (Tree.chk
                              ((True ∧ True ∧ True) ∧
                                (-9223372036854775808 : Int) ≤ hiZ ((0 : Int) + numW (hiZ ((9223372036854775807 : Int) * c)) (loZ ((9223372036854775807 : Int) * c))) ∧
                                  hiZ ((0 : Int) + numW (hiZ ((9223372036854775807 : Int) * c)) (loZ ((9223372036854775807 : Int) * c))) ≤ (9223372036854775807 : Int) ∧
                                    (-9223372036854775808 : Int) ≤ hiZ (IntKind.wrap IntKind.i64 (c - (1 : Int))) ∧
                                      hiZ (IntKind.wrap IntKind.i64 (c - (1 : Int))) ≤ (9223372036854775807 : Int) ∧
                                        (0 : Int) ≤ loZ ((0 : Int) + numW (hiZ ((9223372036854775807 : Int) * c)) (loZ ((9223372036854775807 : Int) * c))) ∧
                                          loZ ((0 : Int) + numW (hiZ ((9223372036854775807 : Int) * c)) (loZ ((9223372036854775807 : Int) * c))) ≤ (18446744073709551615 : Int) ∧
                                            (0 : Int) ≤ loZ (IntKind.wrap IntKind.i64 (c - (1 : Int))) ∧ loZ (IntKind.wrap IntKind.i64 (c - (1 : Int))) ≤ (18446744073709551615 : Int))
                              (Tree.chk
                                ((True ∧ True ∧ True) ∧
                                  (-9223372036854775808 : Int) ≤ h ∧
                                    h ≤ (9223372036854775807 : Int) ∧
                                      (-9223372036854775808 : Int) ≤
                                          hiZ
                                            (numW (hiZ ((0 : Int) + numW (hiZ ((9223372036854775807 : Int) * c)) (loZ ((9223372036854775807 : Int) * c))))
                                                (loZ ((0 : Int) + numW (hiZ ((9223372036854775807 : Int) * c)) (loZ ((9223372036854775807 : Int) * c)))) +
                                              numW (hiZ (IntKind.wrap IntKind.i64 (c - (1 : Int)))) (loZ (IntKind.wrap IntKind.i64 (c - (1 : Int))))) ∧
                                        hiZ
                                              (numW (hiZ ((0 : Int) + numW (hiZ ((9223372036854775807 : Int) * c)) (loZ ((9223372036854775807 : Int) * c))))
                                                  (loZ ((0 : Int) + numW (hiZ ((9223372036854775807 : Int) * c)) (loZ ((9223372036854775807 : Int) * c)))) +
                                                numW (hiZ (IntKind.wrap IntKind.i64 (c - (1 : Int)))) (loZ (IntKind.wrap IntKind.i64 (c - (1 : Int))))) ≤
                                            (9223372036854775807 : Int) ∧
                                          (0 : Int) ≤ l ∧
                                            l ≤ (18446744073709551615 : Int) ∧
                                              (0 : Int) ≤
                                                  loZ
                                                    (numW (hiZ ((0 : Int) + numW (hiZ ((9223372036854775807 : Int) * c)) (loZ ((9223372036854775807 : Int) * c))))
                                                        (loZ ((0 : Int) + numW (hiZ ((9223372036854775807 : Int) * c)) (loZ ((9223372036854775807 : Int) * c)))) +
                                                      numW (hiZ (IntKind.wrap IntKind.i64 (c - (1 : Int)))) (loZ (IntKind.wrap IntKind.i64 (c - (1 : Int))))) ∧
                                                loZ
                                                    (numW (hiZ ((0 : Int) + numW (hiZ ((9223372036854775807 : Int) * c)) (loZ ((9223372036854775807 : Int) * c))))
                                                        (loZ ((0 : Int) + numW (hiZ ((9223372036854775807 : Int) * c)) (loZ ((9223372036854775807 : Int) * c)))) +
                                                      numW (hiZ (IntKind.wrap IntKind.i64 (c - (1 : Int)))) (loZ (IntKind.wrap IntKind.i64 (c - (1 : Int))))) ≤
                                                  (18446744073709551615 : Int))
                                (Tree.br
                                  (decide
                                    (cmpZ (numW h l)
                                        (numW
                                          (hiZ
                                            (numW (hiZ ((0 : Int) + numW (hiZ ((9223372036854775807 : Int) * c)) (loZ ((9223372036854775807 : Int) * c))))
                                                (loZ ((0 : Int) + numW (hiZ ((9223372036854775807 : Int) * c)) (loZ ((9223372036854775807 : Int) * c)))) +
                                              numW (hiZ (IntKind.wrap IntKind.i64 (c - (1 : Int)))) (loZ (IntKind.wrap IntKind.i64 (c - (1 : Int))))))
                                          (loZ
                                            (numW (hiZ ((0 : Int) + numW (hiZ ((9223372036854775807 : Int) * c)) (loZ ((9223372036854775807 : Int) * c))))
                                                (loZ ((0 : Int) + numW (hiZ ((9223372036854775807 : Int) * c)) (loZ ((9223372036854775807 : Int) * c)))) +
                                              numW (hiZ (IntKind.wrap IntKind.i64 (c - (1 : Int)))) (loZ (IntKind.wrap IntKind.i64 (c - (1 : Int))))))) >
                                      (0 : Int)))
                                  (Tree.ret (AV.bool true true, []))
                                  (Tree.chk
                                    ((True ∧ True ∧ True) ∧
                                      (-9223372036854775808 : Int) ≤ (-9223372036854775808 : Int) ∧ (-9223372036854775808 : Int) ≤ (9223372036854775807 : Int) ∧ (-9223372036854775808 : Int) ≤ c ∧ c ≤ (9223372036854775807 : Int))
                                    (Tree.chk
                                      ((True ∧ True ∧ True) ∧
                                        (-9223372036854775808 : Int) ≤ h ∧
                                          h ≤ (9223372036854775807 : Int) ∧
                                            (-9223372036854775808 : Int) ≤ hiZ ((-9223372036854775808 : Int) * c) ∧
                                              hiZ ((-9223372036854775808 : Int) * c) ≤ (9223372036854775807 : Int) ∧
                                                (0 : Int) ≤ l ∧ l ≤ (18446744073709551615 : Int) ∧ (0 : Int) ≤ loZ ((-9223372036854775808 : Int) * c) ∧ loZ ((-9223372036854775808 : Int) * c) ≤ (18446744073709551615 : Int))
                                      (Tree.ret (AV.bool false (decide (cmpZ (numW h l) (numW (hiZ ((-9223372036854775808 : Int) * c)) (loZ ((-9223372036854775808 : Int) * c))) < (0 : Int))), []))))))))))
                      (Tree.ret (AV.bool true false, [])))
                    (Tree.chk
                      ((True ∧ True ∧ True) ∧
                        (-9223372036854775808 : Int) ≤ quoV c (numW h l / c) ∧ quoV c (numW h l / c) ≤ (9223372036854775807 : Int) ∧ (-9223372036854775808 : Int) ≤ c ∧ c ≤ (9223372036854775807 : Int))
                      (Tree.chk
                        ((True ∧ True ∧ True) ∧
                          (-9223372036854775808 : Int) ≤ hiZ (quoV c (numW h l / c) * c) ∧
                            hiZ (quoV c (numW h l / c) * c) ≤ (9223372036854775807 : Int) ∧
                              (-9223372036854775808 : Int) ≤ h ∧
                                h ≤ (9223372036854775807 : Int) ∧
                                  (0 : Int) ≤ loZ (quoV c (numW h l / c) * c) ∧ loZ (quoV c (numW h l / c) * c) ≤ (18446744073709551615 : Int) ∧ (0 : Int) ≤ l ∧ l ≤ (18446744073709551615 : Int))
                        (Tree.br (decide (cmpZ (numW (hiZ (quoV c (numW h l / c) * c)) (loZ (quoV c (numW h l / c) * c))) (numW h l) ≤ (0 : Int)))
                          (Tree.chk ((True ∧ True) ∧ (-9223372036854775808 : Int) ≤ IntKind.wrap IntKind.i64 (c - (1 : Int)) ∧ IntKind.wrap IntKind.i64 (c - (1 : Int)) ≤ (9223372036854775807 : Int))
                            (Tree.chk
                              ((True ∧ True ∧ True) ∧
                                (-9223372036854775808 : Int) ≤ (0 : Int) ∧
                                  (0 : Int) ≤ (9223372036854775807 : Int) ∧
                                    (-9223372036854775808 : Int) ≤ hiZ (quoV c (numW h l / c) * c) ∧
                                      hiZ (quoV c (numW h l / c) * c) ≤ (9223372036854775807 : Int) ∧
                                        (0 : Int) ≤ (0 : Int) ∧
                                          (0 : Int) ≤ (18446744073709551615 : Int) ∧ (0 : Int) ≤ loZ (quoV c (numW h l / c) * c) ∧ loZ (quoV c (numW h l / c) * c) ≤ (18446744073709551615 : Int))
                              (Tree.chk
                                ((True ∧ True ∧ True) ∧
                                  (-9223372036854775808 : Int) ≤ hiZ ((0 : Int) + numW (hiZ (quoV c (numW h l / c) * c)) (loZ (quoV c (numW h l / c) * c))) ∧
                                    hiZ ((0 : Int) + numW (hiZ (quoV c (numW h l / c) * c)) (loZ (quoV c (numW h l / c) * c))) ≤ (9223372036854775807 : Int) ∧
                                      (-9223372036854775808 : Int) ≤ hiZ (IntKind.wrap IntKind.i64 (c - (1 : Int))) ∧
                                        hiZ (IntKind.wrap IntKind.i64 (c - (1 : Int))) ≤ (9223372036854775807 : Int) ∧
                                          (0 : Int) ≤ loZ ((0 : Int) + numW (hiZ (quoV c (numW h l / c) * c)) (loZ (quoV c (numW h l / c) * c))) ∧
                                            loZ ((0 : Int) + numW (hiZ (quoV c (numW h l / c) * c)) (loZ (quoV c (numW h l / c) * c))) ≤ (18446744073709551615 : Int) ∧
                                              (0 : Int) ≤ loZ (IntKind.wrap IntKind.i64 (c - (1 : Int))) ∧ loZ (IntKind.wrap IntKind.i64 (c - (1 : Int))) ≤ (18446744073709551615 : Int))
                                (Tree.chk
                                  ((True ∧ True ∧ True) ∧
                                    (-9223372036854775808 : Int) ≤ h ∧
                                      h ≤ (9223372036854775807 : Int) ∧
                                        (-9223372036854775808 : Int) ≤
                                            hiZ
                                              (numW (hiZ ((0 : Int) + numW (hiZ (quoV c (numW h l / c) * c)) (loZ (quoV c (numW h l / c) * c))))
                                                  (loZ ((0 : Int) + numW (hiZ (quoV c (numW h l / c) * c)) (loZ (quoV c (numW h l / c) * c)))) +
                                                numW (hiZ (IntKind.wrap IntKind.i64 (c - (1 : Int)))) (loZ (IntKind.wrap IntKind.i64 (c - (1 : Int))))) ∧
                                          hiZ
                                                (numW (hiZ ((0 : Int) + numW (hiZ (quoV c (numW h l / c) * c)) (loZ (quoV c (numW h l / c) * c))))
                                                    (loZ ((0 : Int) + numW (hiZ (quoV c (numW h l / c) * c)) (loZ (quoV c (numW h l / c) * c)))) +
                                                  numW (hiZ (IntKind.wrap IntKind.i64 (c - (1 : Int)))) (loZ (IntKind.wrap IntKind.i64 (c - (1 : Int))))) ≤
                                              (9223372036854775807 : Int) ∧
                                            (0 : Int) ≤ l ∧
                                              l ≤ (18446744073709551615 : Int) ∧
                                                (0 : Int) ≤
                                                    loZ
                                                      (numW (hiZ ((0 : Int) + numW (hiZ (quoV c (numW h l / c) * c)) (loZ (quoV c (numW h l / c) * c))))
                                                          (loZ ((0 : Int) + numW (hiZ (quoV c (numW h l / c) * c)) (loZ (quoV c (numW h l / c) * c)))) +
                                                        numW (hiZ (IntKind.wrap IntKind.i64 (c - (1 : Int)))) (loZ (IntKind.wrap IntKind.i64 (c - (1 : Int))))) ∧
                                                  loZ
                                                      (numW (hiZ ((0 : Int) + numW (hiZ (quoV c (numW h l / c) * c)) (loZ (quoV c (numW h l / c) * c))))
                                                          (loZ ((0 : Int) + numW (hiZ (quoV c (numW h l / c) * c)) (loZ (quoV c (numW h l / c) * c)))) +
                                                        numW (hiZ (IntKind.wrap IntKind.i64 (c - (1 : Int)))) (loZ (IntKind.wrap IntKind.i64 (c - (1 : Int))))) ≤
                                                    (18446744073709551615 : Int))
                                  (Tree.ret
                                    (AV.bool false
                                        (decide
                                          (cmpZ (numW h l)
                                              (numW
                                                (hiZ
                                                  (numW (hiZ ((0 : Int) + numW (hiZ (quoV c (numW h l / c) * c)) (loZ (quoV c (numW h l / c) * c))))
                                                      (loZ ((0 : Int) + numW (hiZ (quoV c (numW h l / c) * c)) (loZ (quoV c (numW h l / c) * c)))) +
                                                    numW (hiZ (IntKind.wrap IntKind.i64 (c - (1 : Int)))) (loZ (IntKind.wrap IntKind.i64 (c - (1 : Int))))))
                                                (loZ
                                                  (numW (hiZ ((0 : Int) + numW (hiZ (quoV c (numW h l / c) * c)) (loZ (quoV c (numW h l / c) * c))))
                                                      (loZ ((0 : Int) + numW (hiZ (quoV c (numW h l / c) * c)) (loZ (quoV c (numW h l / c) * c)))) +
                                                    numW (hiZ (IntKind.wrap IntKind.i64 (c - (1 : Int)))) (loZ (IntKind.wrap IntKind.i64 (c - (1 : Int))))))) ≤
                                            (0 : Int))),
                                      []))))))
                          (Tree.ret (AV.bool true false, []))))))))))
          (Tree.chk
            ((True ∧ True ∧ True) ∧
              (-9223372036854775808 : Int) ≤ h ∧
                h ≤ (9223372036854775807 : Int) ∧ (-9223372036854775808 : Int) ≤ k ∧ k ≤ (9223372036854775807 : Int) ∧ (0 : Int) ≤ l ∧ l ≤ (18446744073709551615 : Int) ∧ (0 : Int) ≤ m ∧ m ≤ (18446744073709551615 : Int))
            (Tree.br (cmpZ (numW h l) (numW k m) != (1 : Int)) (Tree.ret (AV.bool true false, []))
              (Tree.chk
                ((True ∧ True ∧ True) ∧
                  (-9223372036854775808 : Int) ≤ h ∧ h ≤ (9223372036854775807 : Int) ∧ (-9223372036854775808 : Int) ≤ c ∧ c ≤ (9223372036854775807 : Int) ∧ (0 : Int) ≤ l ∧ l ≤ (18446744073709551615 : Int))
                (Tree.br (decide (c < (1 : Int))) (Tree.br (quoE c (numW h l / c) == (2 : Int)) (Tree.ret (AV.bool false (quoV c (numW h l / c) == (0 : Int)), [])) (Tree.ret (AV.bool true false, [])))
                  (Tree.br (quoE c (numW h l / c) != (0 : Int))
                    (Tree.br (quoE c (numW h l / c) == (3 : Int))
                      (Tree.chk
                        ((True ∧ True ∧ True) ∧ (-9223372036854775808 : Int) ≤ (9223372036854775807 : Int) ∧ (9223372036854775807 : Int) ≤ (9223372036854775807 : Int) ∧ (-9223372036854775808 : Int) ≤ c ∧ c ≤ (9223372036854775807 : Int))
                        (Tree.chk ((True ∧ True) ∧ (-9223372036854775808 : Int) ≤ IntKind.wrap IntKind.i64 (c - (1 : Int)) ∧ IntKind.wrap IntKind.i64 (c - (1 : Int)) ≤ (9223372036854775807 : Int))
                          (Tree.chk
                            ((True ∧ True ∧ True) ∧
                              (-9223372036854775808 : Int) ≤ (0 : Int) ∧
                                (0 : Int) ≤ (9223372036854775807 : Int) ∧
                                  (-9223372036854775808 : Int) ≤ hiZ ((9223372036854775807 : Int) * c) ∧
                                    hiZ ((9223372036854775807 : Int) * c) ≤ (9223372036854775807 : Int) ∧
                                      (0 : Int) ≤ (0 : Int) ∧ (0 : Int) ≤ (18446744073709551615 : Int) ∧ (0 : Int) ≤ loZ ((9223372036854775807 : Int) * c) ∧ loZ ((9223372036854775807 : Int) * c) ≤ (18446744073709551615 : Int))
                            (Tree.chk
                              ((True ∧ True ∧ True) ∧
                                (-9223372036854775808 : Int) ≤ hiZ ((0 : Int) + numW (hiZ ((9223372036854775807 : Int) * c)) (loZ ((9223372036854775807 : Int) * c))) ∧
                                  hiZ ((0 : Int) + numW (hiZ ((9223372036854775807 : Int) * c)) (loZ ((9223372036854775807 : Int) * c))) ≤ (9223372036854775807 : Int) ∧
                                    (-9223372036854775808 : Int) ≤ hiZ (IntKind.wrap IntKind.i64 (c - (1 : Int))) ∧
                                      hiZ (IntKind.wrap IntKind.i64 (c - (1 : Int))) ≤ (9223372036854775807 : Int) ∧
                                        (0 : Int) ≤ loZ ((0 : Int) + numW (hiZ ((9223372036854775807 : Int) * c)) (loZ ((9223372036854775807 : Int) * c))) ∧
                                          loZ ((0 : Int) + numW (hiZ ((9223372036854775807 : Int) * c)) (loZ ((9223372036854775807 : Int) * c))) ≤ (18446744073709551615 : Int) ∧
                                            (0 : Int) ≤ loZ (IntKind.wrap IntKind.i64 (c - (1 : Int))) ∧ loZ (IntKind.wrap IntKind.i64 (c - (1 : Int))) ≤ (18446744073709551615 : Int))
                              (Tree.chk
                                ((True ∧ True ∧ True) ∧
                                  (-9223372036854775808 : Int) ≤ h ∧
                                    h ≤ (9223372036854775807 : Int) ∧
                                      (-9223372036854775808 : Int) ≤
                                          hiZ
                                            (numW (hiZ ((0 : Int) + numW (hiZ ((9223372036854775807 : Int) * c)) (loZ ((9223372036854775807 : Int) * c))))
                                                (loZ ((0 : Int) + numW (hiZ ((9223372036854775807 : Int) * c)) (loZ ((9223372036854775807 : Int) * c)))) +
                                              numW (hiZ (IntKind.wrap IntKind.i64 (c - (1 : Int)))) (loZ (IntKind.wrap IntKind.i64 (c - (1 : Int))))) ∧
                                        hiZ
                                              (numW (hiZ ((0 : Int) + numW (hiZ ((9223372036854775807 : Int) * c)) (loZ ((9223372036854775807 : Int) * c))))
                                                  (loZ ((0 : Int) + numW (hiZ ((9223372036854775807 : Int) * c)) (loZ ((9223372036854775807 : Int) * c)))) +
                                                numW (hiZ (IntKind.wrap IntKind.i64 (c - (1 : Int)))) (loZ (IntKind.wrap IntKind.i64 (c - (1 : Int))))) ≤
                                            (9223372036854775807 : Int) ∧
                                          (0 : Int) ≤ l ∧
                                            l ≤ (18446744073709551615 : Int) ∧
                                              (0 : Int) ≤
                                                  loZ
                                                    (numW (hiZ ((0 : Int) + numW (hiZ ((9223372036854775807 : Int) * c)) (loZ ((9223372036854775807 : Int) * c))))
                                                        (loZ ((0 : Int) + numW (hiZ ((9223372036854775807 : Int) * c)) (loZ ((9223372036854775807 : Int) * c)))) +
                                                      numW (hiZ (IntKind.wrap IntKind.i64 (c - (1 : Int)))) (loZ (IntKind.wrap IntKind.i64 (c - (1 : Int))))) ∧
                                                loZ
                                                    (numW (hiZ ((0 : Int) + numW (hiZ ((9223372036854775807 : Int) * c)) (loZ ((9223372036854775807 : Int) * c))))
                                                        (loZ ((0 : Int) + numW (hiZ ((9223372036854775807 : Int) * c)) (loZ ((9223372036854775807 : Int) * c)))) +
                                                      numW (hiZ (IntKind.wrap IntKind.i64 (c - (1 : Int)))) (loZ (IntKind.wrap IntKind.i64 (c - (1 : Int))))) ≤
                                                  (18446744073709551615 : Int))
                                (Tree.br
                                  (decide
                                    (cmpZ (numW h l)
                                        (numW
                                          (hiZ
                                            (numW (hiZ ((0 : Int) + numW (hiZ ((9223372036854775807 : Int) * c)) (loZ ((9223372036854775807 : Int) * c))))
                                                (loZ ((0 : Int) + numW (hiZ ((9223372036854775807 : Int) * c)) (loZ ((9223372036854775807 : Int) * c)))) +
                                              numW (hiZ (IntKind.wrap IntKind.i64 (c - (1 : Int)))) (loZ (IntKind.wrap IntKind.i64 (c - (1 : Int))))))
                                          (loZ
                                            (numW (hiZ ((0 : Int) + numW (hiZ ((9223372036854775807 : Int) * c)) (loZ ((9223372036854775807 : Int) * c))))
                                                (loZ ((0 : Int) + numW (hiZ ((9223372036854775807 : Int) * c)) (loZ ((9223372036854775807 : Int) * c)))) +
                                              numW (hiZ (IntKind.wrap IntKind.i64 (c - (1 : Int)))) (loZ (IntKind.wrap IntKind.i64 (c - (1 : Int))))))) >
                                      (0 : Int)))
                                  (Tree.ret (AV.bool true true, []))
                                  (Tree.chk
                                    ((True ∧ True ∧ True) ∧
                                      (-9223372036854775808 : Int) ≤ (-9223372036854775808 : Int) ∧ (-9223372036854775808 : Int) ≤ (9223372036854775807 : Int) ∧ (-9223372036854775808 : Int) ≤ c ∧ c ≤ (9223372036854775807 : Int))
                                    (Tree.chk
                                      ((True ∧ True ∧ True) ∧
                                        (-9223372036854775808 : Int) ≤ h ∧
                                          h ≤ (9223372036854775807 : Int) ∧
                                            (-9223372036854775808 : Int) ≤ hiZ ((-9223372036854775808 : Int) * c) ∧
                                              hiZ ((-9223372036854775808 : Int) * c) ≤ (9223372036854775807 : Int) ∧
                                                (0 : Int) ≤ l ∧ l ≤ (18446744073709551615 : Int) ∧ (0 : Int) ≤ loZ ((-9223372036854775808 : Int) * c) ∧ loZ ((-9223372036854775808 : Int) * c) ≤ (18446744073709551615 : Int))
                                      (Tree.ret (AV.bool false (decide (cmpZ (numW h l) (numW (hiZ ((-9223372036854775808 : Int) * c)) (loZ ((-9223372036854775808 : Int) * c))) < (0 : Int))), []))))))))))
                      (Tree.ret (AV.bool true false, [])))
                    (Tree.chk
                      ((True ∧ True ∧ True) ∧
                        (-9223372036854775808 : Int) ≤ quoV c (numW h l / c) ∧ quoV c (numW h l / c) ≤ (9223372036854775807 : Int) ∧ (-9223372036854775808 : Int) ≤ c ∧ c ≤ (9223372036854775807 : Int))
                      (Tree.chk
                        ((True ∧ True ∧ True) ∧
                          (-9223372036854775808 : Int) ≤ hiZ (quoV c (numW h l / c) * c) ∧
                            hiZ (quoV c (numW h l / c) * c) ≤ (9223372036854775807 : Int) ∧
                              (-9223372036854775808 : Int) ≤ h ∧
                                h ≤ (9223372036854775807 : Int) ∧
                                  (0 : Int) ≤ loZ (quoV c (numW h l / c) * c) ∧ loZ (quoV c (numW h l / c) * c) ≤ (18446744073709551615 : Int) ∧ (0 : Int) ≤ l ∧ l ≤ (18446744073709551615 : Int))
                        (Tree.br (decide (cmpZ (numW (hiZ (quoV c (numW h l / c) * c)) (loZ (quoV c (numW h l / c) * c))) (numW h l) ≤ (0 : Int)))
                          (Tree.chk ((True ∧ True) ∧ (-9223372036854775808 : Int) ≤ IntKind.wrap IntKind.i64 (c - (1 : Int)) ∧ IntKind.wrap IntKind.i64 (c - (1 : Int)) ≤ (9223372036854775807 : Int))
                            (Tree.chk
                              ((True ∧ True ∧ True) ∧
                                (-9223372036854775808 : Int) ≤ (0 : Int) ∧
                                  (0 : Int) ≤ (9223372036854775807 : Int) ∧
                                    (-9223372036854775808 : Int) ≤ hiZ (quoV c (numW h l / c) * c) ∧
                                      hiZ (quoV c (numW h l / c) * c) ≤ (9223372036854775807 : Int) ∧
                                        (0 : Int) ≤ (0 : Int) ∧
                                          (0 : Int) ≤ (18446744073709551615 : Int) ∧ (0 : Int) ≤ loZ (quoV c (numW h l / c) * c) ∧ loZ (quoV c (numW h l / c) * c) ≤ (18446744073709551615 : Int))
                              (Tree.chk
                                ((True ∧ True ∧ True) ∧
                                  (-9223372036854775808 : Int) ≤ hiZ ((0 : Int) + numW (hiZ (quoV c (numW h l / c) * c)) (loZ (quoV c (numW h l / c) * c))) ∧
                                    hiZ ((0 : Int) + numW (hiZ (quoV c (numW h l / c) * c)) (loZ (quoV c (numW h l / c) * c))) ≤ (9223372036854775807 : Int) ∧
                                      (-9223372036854775808 : Int) ≤ hiZ (IntKind.wrap IntKind.i64 (c - (1 : Int))) ∧
                                        hiZ (IntKind.wrap IntKind.i64 (c - (1 : Int))) ≤ (9223372036854775807 : Int) ∧
                                          (0 : Int) ≤ loZ ((0 : Int) + numW (hiZ (quoV c (numW h l / c) * c)) (loZ (quoV c (numW h l / c) * c))) ∧
                                            loZ ((0 : Int) + numW (hiZ (quoV c (numW h l / c) * c)) (loZ (quoV c (numW h l / c) * c))) ≤ (18446744073709551615 : Int) ∧
                                              (0 : Int) ≤ loZ (IntKind.wrap IntKind.i64 (c - (1 : Int))) ∧ loZ (IntKind.wrap IntKind.i64 (c - (1 : Int))) ≤ (18446744073709551615 : Int))
                                (Tree.chk
                                  ((True ∧ True ∧ True) ∧
                                    (-9223372036854775808 : Int) ≤ h ∧
                                      h ≤ (9223372036854775807 : Int) ∧
                                        (-9223372036854775808 : Int) ≤
                                            hiZ
                                              (numW (hiZ ((0 : Int) + numW (hiZ (quoV c (numW h l / c) * c)) (loZ (quoV c (numW h l / c) * c))))
                                                  (loZ ((0 : Int) + numW (hiZ (quoV c (numW h l / c) * c)) (loZ (quoV c (numW h l / c) * c)))) +
                                                numW (hiZ (IntKind.wrap IntKind.i64 (c - (1 : Int)))) (loZ (IntKind.wrap IntKind.i64 (c - (1 : Int))))) ∧
                                          hiZ
                                                (numW (hiZ ((0 : Int) + numW (hiZ (quoV c (numW h l / c) * c)) (loZ (quoV c (numW h l / c) * c))))
                                                    (loZ ((0 : Int) + numW (hiZ (quoV c (numW h l / c) * c)) (loZ (quoV c (numW h l / c) * c)))) +
                                                  numW (hiZ (IntKind.wrap IntKind.i64 (c - (1 : Int)))) (loZ (IntKind.wrap IntKind.i64 (c - (1 : Int))))) ≤
                                              (9223372036854775807 : Int) ∧
                                            (0 : Int) ≤ l ∧
                                              l ≤ (18446744073709551615 : Int) ∧
                                                (0 : Int) ≤
                                                    loZ
                                                      (numW (hiZ ((0 : Int) + numW (hiZ (quoV c (numW h l / c) * c)) (loZ (quoV c (numW h l / c) * c))))
                                                          (loZ ((0 : Int) + numW (hiZ (quoV c (numW h l / c) * c)) (loZ (quoV c (numW h l / c) * c)))) +
                                                        numW (hiZ (IntKind.wrap IntKind.i64 (c - (1 : Int)))) (loZ (IntKind.wrap IntKind.i64 (c - (1 : Int))))) ∧
                                                  loZ
                                                      (numW (hiZ ((0 : Int) + numW (hiZ (quoV c (numW h l / c) * c)) (loZ (quoV c (numW h l / c) * c))))
                                                          (loZ ((0 : Int) + numW (hiZ (quoV c (numW h l / c) * c)) (loZ (quoV c (numW h l / c) * c)))) +
                                                        numW (hiZ (IntKind.wrap IntKind.i64 (c - (1 : Int)))) (loZ (IntKind.wrap IntKind.i64 (c - (1 : Int))))) ≤
                                                    (18446744073709551615 : Int))
                                  (Tree.ret
                                    (AV.bool false
                                        (decide
                                          (cmpZ (numW h l)
                                              (numW
                                                (hiZ
                                                  (numW (hiZ ((0 : Int) + numW (hiZ (quoV c (numW h l / c) * c)) (loZ (quoV c (numW h l / c) * c))))
                                                      (loZ ((0 : Int) + numW (hiZ (quoV c (numW h l / c) * c)) (loZ (quoV c (numW h l / c) * c)))) +
                                                    numW (hiZ (IntKind.wrap IntKind.i64 (c - (1 : Int)))) (loZ (IntKind.wrap IntKind.i64 (c - (1 : Int))))))
                                                (loZ
                                                  (numW (hiZ ((0 : Int) + numW (hiZ (quoV c (numW h l / c) * c)) (loZ (quoV c (numW h l / c) * c))))
                                                      (loZ ((0 : Int) + numW (hiZ (quoV c (numW h l / c) * c)) (loZ (quoV c (numW h l / c) * c)))) +
                                                    numW (hiZ (IntKind.wrap IntKind.i64 (c - (1 : Int)))) (loZ (IntKind.wrap IntKind.i64 (c - (1 : Int))))))) ≤
                                            (0 : Int))),
                                      []))))))
                          (Tree.ret (AV.bool true false, [])))))))))))
        (Tree.br (l != m)
          (Tree.br (decide (l < m))
            (Tree.chk
              ((True ∧ True ∧ True) ∧
                (-9223372036854775808 : Int) ≤ h ∧
                  h ≤ (9223372036854775807 : Int) ∧ (-9223372036854775808 : Int) ≤ k ∧ k ≤ (9223372036854775807 : Int) ∧ (0 : Int) ≤ l ∧ l ≤ (18446744073709551615 : Int) ∧ (0 : Int) ≤ m ∧ m ≤ (18446744073709551615 : Int))
              (Tree.br (cmpZ (numW h l) (numW k m) != (-1 : Int)) (Tree.ret (AV.bool true false, []))
                (Tree.chk
                  ((True ∧ True ∧ True) ∧
                    (-9223372036854775808 : Int) ≤ h ∧ h ≤ (9223372036854775807 : Int) ∧ (-9223372036854775808 : Int) ≤ c ∧ c ≤ (9223372036854775807 : Int) ∧ (0 : Int) ≤ l ∧ l ≤ (18446744073709551615 : Int))
                  (Tree.br (decide (c < (1 : Int))) (Tree.br (quoE c (numW h l / c) == (2 : Int)) (Tree.ret (AV.bool false (quoV c (numW h l / c) == (0 : Int)), [])) (Tree.ret (AV.bool true false, [])))
                    (Tree.br (quoE c (numW h l / c) != (0 : Int))
                      (Tree.br (quoE c (numW h l / c) == (3 : Int))
                        (Tree.chk
                          ((True ∧ True ∧ True) ∧
                            (-9223372036854775808 : Int) ≤ (9223372036854775807 : Int) ∧ (9223372036854775807 : Int) ≤ (9223372036854775807 : Int) ∧ (-9223372036854775808 : Int) ≤ c ∧ c ≤ (9223372036854775807 : Int))
                          (Tree.chk ((True ∧ True) ∧ (-9223372036854775808 : Int) ≤ IntKind.wrap IntKind.i64 (c - (1 : Int)) ∧ IntKind.wrap IntKind.i64 (c - (1 : Int)) ≤ (9223372036854775807 : Int))
                            (Tree.chk
                              ((True ∧ True ∧ True) ∧
                                (-9223372036854775808 : Int) ≤ (0 : Int) ∧
                                  (0 : Int) ≤ (9223372036854775807 : Int) ∧
                                    (-9223372036854775808 : Int) ≤ hiZ ((9223372036854775807 : Int) * c) ∧
                                      hiZ ((9223372036854775807 : Int) * c) ≤ (9223372036854775807 : Int) ∧
                                        (0 : Int) ≤ (0 : Int) ∧ (0 : Int) ≤ (18446744073709551615 : Int) ∧ (0 : Int) ≤ loZ ((9223372036854775807 : Int) * c) ∧ loZ ((9223372036854775807 : Int) * c) ≤ (18446744073709551615 : Int))
                              (Tree.chk
                                ((True ∧ True ∧ True) ∧
                                  (-9223372036854775808 : Int) ≤ hiZ ((0 : Int) + numW (hiZ ((9223372036854775807 : Int) * c)) (loZ ((9223372036854775807 : Int) * c))) ∧
                                    hiZ ((0 : Int) + numW (hiZ ((9223372036854775807 : Int) * c)) (loZ ((9223372036854775807 : Int) * c))) ≤ (9223372036854775807 : Int) ∧
                                      (-9223372036854775808 : Int) ≤ hiZ (IntKind.wrap IntKind.i64 (c - (1 : Int))) ∧
                                        hiZ (IntKind.wrap IntKind.i64 (c - (1 : Int))) ≤ (9223372036854775807 : Int) ∧
                                          (0 : Int) ≤ loZ ((0 : Int) + numW (hiZ ((9223372036854775807 : Int) * c)) (loZ ((9223372036854775807 : Int) * c))) ∧
                                            loZ ((0 : Int) + numW (hiZ ((9223372036854775807 : Int) * c)) (loZ ((9223372036854775807 : Int) * c))) ≤ (18446744073709551615 : Int) ∧
                                              (0 : Int) ≤ loZ (IntKind.wrap IntKind.i64 (c - (1 : Int))) ∧ loZ (IntKind.wrap IntKind.i64 (c - (1 : Int))) ≤ (18446744073709551615 : Int))
                                (Tree.chk
                                  ((True ∧ True ∧ True) ∧
                                    (-9223372036854775808 : Int) ≤ h ∧
                                      h ≤ (9223372036854775807 : Int) ∧
                                        (-9223372036854775808 : Int) ≤
                                            hiZ
                                              (numW (hiZ ((0 : Int) + numW (hiZ ((9223372036854775807 : Int) * c)) (loZ ((9223372036854775807 : Int) * c))))
                                                  (loZ ((0 : Int) + numW (hiZ ((9223372036854775807 : Int) * c)) (loZ ((9223372036854775807 : Int) * c)))) +
                                                numW (hiZ (IntKind.wrap IntKind.i64 (c - (1 : Int)))) (loZ (IntKind.wrap IntKind.i64 (c - (1 : Int))))) ∧
                                          hiZ
                                                (numW (hiZ ((0 : Int) + numW (hiZ ((9223372036854775807 : Int) * c)) (loZ ((9223372036854775807 : Int) * c))))
                                                    (loZ ((0 : Int) + numW (hiZ ((9223372036854775807 : Int) * c)) (loZ ((9223372036854775807 : Int) * c)))) +
                                                  numW (hiZ (IntKind.wrap IntKind.i64 (c - (1 : Int)))) (loZ (IntKind.wrap IntKind.i64 (c - (1 : Int))))) ≤
                                              (9223372036854775807 : Int) ∧
                                            (0 : Int) ≤ l ∧
                                              l ≤ (18446744073709551615 : Int) ∧
                                                (0 : Int) ≤
                                                    loZ
                                                      (numW (hiZ ((0 : Int) + numW (hiZ ((9223372036854775807 : Int) * c)) (loZ ((9223372036854775807 : Int) * c))))
                                                          (loZ ((0 : Int) + numW (hiZ ((9223372036854775807 : Int) * c)) (loZ ((9223372036854775807 : Int) * c)))) +
                                                        numW (hiZ (IntKind.wrap IntKind.i64 (c - (1 : Int)))) (loZ (IntKind.wrap IntKind.i64 (c - (1 : Int))))) ∧
                                                  loZ
                                                      (numW (hiZ ((0 : Int) + numW (hiZ ((9223372036854775807 : Int) * c)) (loZ ((9223372036854775807 : Int) * c))))
                                                          (loZ ((0 : Int) + numW (hiZ ((9223372036854775807 : Int) * c)) (loZ ((9223372036854775807 : Int) * c)))) +
                                                        numW (hiZ (IntKind.wrap IntKind.i64 (c - (1 : Int)))) (loZ (IntKind.wrap IntKind.i64 (c - (1 : Int))))) ≤
                                                    (18446744073709551615 : Int))
                                  (Tree.br
                                    (decide
                                      (cmpZ (numW h l)
                                          (numW
                                            (hiZ
                                              (numW (hiZ ((0 : Int) + numW (hiZ ((9223372036854775807 : Int) * c)) (loZ ((9223372036854775807 : Int) * c))))
                                                  (loZ ((0 : Int) + numW (hiZ ((9223372036854775807 : Int) * c)) (loZ ((9223372036854775807 : Int) * c)))) +
                                                numW (hiZ (IntKind.wrap IntKind.i64 (c - (1 : Int)))) (loZ (IntKind.wrap IntKind.i64 (c - (1 : Int))))))
                                            (loZ
                                              (numW (hiZ ((0 : Int) + numW (hiZ ((9223372036854775807 : Int) * c)) (loZ ((9223372036854775807 : Int) * c))))
                                                  (loZ ((0 : Int) + numW (hiZ ((9223372036854775807 : Int) * c)) (loZ ((9223372036854775807 : Int) * c)))) +
                                                numW (hiZ (IntKind.wrap IntKind.i64 (c - (1 : Int)))) (loZ (IntKind.wrap IntKind.i64 (c - (1 : Int))))))) >
                                        (0 : Int)))
                                    (Tree.ret (AV.bool true true, []))
                                    (Tree.chk
                                      ((True ∧ True ∧ True) ∧
                                        (-9223372036854775808 : Int) ≤ (-9223372036854775808 : Int) ∧ (-9223372036854775808 : Int) ≤ (9223372036854775807 : Int) ∧ (-9223372036854775808 : Int) ≤ c ∧ c ≤ (9223372036854775807 : Int))
                                      (Tree.chk
                                        ((True ∧ True ∧ True) ∧
                                          (-9223372036854775808 : Int) ≤ h ∧
                                            h ≤ (9223372036854775807 : Int) ∧
                                              (-9223372036854775808 : Int) ≤ hiZ ((-9223372036854775808 : Int) * c) ∧
                                                hiZ ((-9223372036854775808 : Int) * c) ≤ (9223372036854775807 : Int) ∧
                                                  (0 : Int) ≤ l ∧ l ≤ (18446744073709551615 : Int) ∧ (0 : Int) ≤ loZ ((-9223372036854775808 : Int) * c) ∧ loZ ((-9223372036854775808 : Int) * c) ≤ (18446744073709551615 : Int))
                                        (Tree.ret (AV.bool false (decide (cmpZ (numW h l) (numW (hiZ ((-9223372036854775808 : Int) * c)) (loZ ((-9223372036854775808 : Int) * c))) < (0 : Int))), []))))))))))
                        (Tree.ret (AV.bool true false, [])))
                      (Tree.chk
                        ((True ∧ True ∧ True) ∧
                          (-9223372036854775808 : Int) ≤ quoV c (numW h l / c) ∧ quoV c (numW h l / c) ≤ (9223372036854775807 : Int) ∧ (-9223372036854775808 : Int) ≤ c ∧ c ≤ (9223372036854775807 : Int))
                        (Tree.chk
                          ((True ∧ True ∧ True) ∧
                            (-9223372036854775808 : Int) ≤ hiZ (quoV c (numW h l / c) * c) ∧
                              hiZ (quoV c (numW h l / c) * c) ≤ (9223372036854775807 : Int) ∧
                                (-9223372036854775808 : Int) ≤ h ∧
                                  h ≤ (9223372036854775807 : Int) ∧
                                    (0 : Int) ≤ loZ (quoV c (numW h l / c) * c) ∧ loZ (quoV c (numW h l / c) * c) ≤ (18446744073709551615 : Int) ∧ (0 : Int) ≤ l ∧ l ≤ (18446744073709551615 : Int))
                          (Tree.br (decide (cmpZ (numW (hiZ (quoV c (numW h l / c) * c)) (loZ (quoV c (numW h l / c) * c))) (numW h l) ≤ (0 : Int)))
                            (Tree.chk ((True ∧ True) ∧ (-9223372036854775808 : Int) ≤ IntKind.wrap IntKind.i64 (c - (1 : Int)) ∧ IntKind.wrap IntKind.i64 (c - (1 : Int)) ≤ (9223372036854775807 : Int))
                              (Tree.chk
                                ((True ∧ True ∧ True) ∧
                                  (-9223372036854775808 : Int) ≤ (0 : Int) ∧
                                    (0 : Int) ≤ (9223372036854775807 : Int) ∧
                                      (-9223372036854775808 : Int) ≤ hiZ (quoV c (numW h l / c) * c) ∧
                                        hiZ (quoV c (numW h l / c) * c) ≤ (9223372036854775807 : Int) ∧
                                          (0 : Int) ≤ (0 : Int) ∧
                                            (0 : Int) ≤ (18446744073709551615 : Int) ∧ (0 : Int) ≤ loZ (quoV c (numW h l / c) * c) ∧ loZ (quoV c (numW h l / c) * c) ≤ (18446744073709551615 : Int))
                                (Tree.chk
                                  ((True ∧ True ∧ True) ∧
                                    (-9223372036854775808 : Int) ≤ hiZ ((0 : Int) + numW (hiZ (quoV c (numW h l / c) * c)) (loZ (quoV c (numW h l / c) * c))) ∧
                                      hiZ ((0 : Int) + numW (hiZ (quoV c (numW h l / c) * c)) (loZ (quoV c (numW h l / c) * c))) ≤ (9223372036854775807 : Int) ∧
                                        (-9223372036854775808 : Int) ≤ hiZ (IntKind.wrap IntKind.i64 (c - (1 : Int))) ∧
                                          hiZ (IntKind.wrap IntKind.i64 (c - (1 : Int))) ≤ (9223372036854775807 : Int) ∧
                                            (0 : Int) ≤ loZ ((0 : Int) + numW (hiZ (quoV c (numW h l / c) * c)) (loZ (quoV c (numW h l / c) * c))) ∧
                                              loZ ((0 : Int) + numW (hiZ (quoV c (numW h l / c) * c)) (loZ (quoV c (numW h l / c) * c))) ≤ (18446744073709551615 : Int) ∧
                                                (0 : Int) ≤ loZ (IntKind.wrap IntKind.i64 (c - (1 : Int))) ∧ loZ (IntKind.wrap IntKind.i64 (c - (1 : Int))) ≤ (18446744073709551615 : Int))
                                  (Tree.chk
                                    ((True ∧ True ∧ True) ∧
                                      (-9223372036854775808 : Int) ≤ h ∧
                                        h ≤ (9223372036854775807 : Int) ∧
                                          (-9223372036854775808 : Int) ≤
                                              hiZ
                                                (numW (hiZ ((0 : Int) + numW (hiZ (quoV c (numW h l / c) * c)) (loZ (quoV c (numW h l / c) * c))))
                                                    (loZ ((0 : Int) + numW (hiZ (quoV c (numW h l / c) * c)) (loZ (quoV c (numW h l / c) * c)))) +
                                                  numW (hiZ (IntKind.wrap IntKind.i64 (c - (1 : Int)))) (loZ (IntKind.wrap IntKind.i64 (c - (1 : Int))))) ∧
                                            hiZ
                                                  (numW (hiZ ((0 : Int) + numW (hiZ (quoV c (numW h l / c) * c)) (loZ (quoV c (numW h l / c) * c))))
                                                      (loZ ((0 : Int) + numW (hiZ (quoV c (numW h l / c) * c)) (loZ (quoV c (numW h l / c) * c)))) +
                                                    numW (hiZ (IntKind.wrap IntKind.i64 (c - (1 : Int)))) (loZ (IntKind.wrap IntKind.i64 (c - (1 : Int))))) ≤
                                                (9223372036854775807 : Int) ∧
                                              (0 : Int) ≤ l ∧
                                                l ≤ (18446744073709551615 : Int) ∧
                                                  (0 : Int) ≤
                                                      loZ
                                                        (numW (hiZ ((0 : Int) + numW (hiZ (quoV c (numW h l / c) * c)) (loZ (quoV c (numW h l / c) * c))))
                                                            (loZ ((0 : Int) + numW (hiZ (quoV c (numW h l / c) * c)) (loZ (quoV c (numW h l / c) * c)))) +
                                                          numW (hiZ (IntKind.wrap IntKind.i64 (c - (1 : Int)))) (loZ (IntKind.wrap IntKind.i64 (c - (1 : Int))))) ∧
                                                    loZ
                                                        (numW (hiZ ((0 : Int) + numW (hiZ (quoV c (numW h l / c) * c)) (loZ (quoV c (numW h l / c) * c))))
                                                            (loZ ((0 : Int) + numW (hiZ (quoV c (numW h l / c) * c)) (loZ (quoV c (numW h l / c) * c)))) +
                                                          numW (hiZ (IntKind.wrap IntKind.i64 (c - (1 : Int)))) (loZ (IntKind.wrap IntKind.i64 (c - (1 : Int))))) ≤
                                                      (18446744073709551615 : Int))
                                    (Tree.ret
                                      (AV.bool false
                                          (decide
                                            (cmpZ (numW h l)
                                                (numW
                                                  (hiZ
                                                    (numW (hiZ ((0 : Int) + numW (hiZ (quoV c (numW h l / c) * c)) (loZ (quoV c (numW h l / c) * c))))
                                                        (loZ ((0 : Int) + numW (hiZ (quoV c (numW h l / c) * c)) (loZ (quoV c (numW h l / c) * c)))) +
                                                      numW (hiZ (IntKind.wrap IntKind.i64 (c - (1 : Int)))) (loZ (IntKind.wrap IntKind.i64 (c - (1 : Int))))))
                                                  (loZ
                                                    (numW (hiZ ((0 : Int) + numW (hiZ (quoV c (numW h l / c) * c)) (loZ (quoV c (numW h l / c) * c))))
                                                        (loZ ((0 : Int) + numW (hiZ (quoV c (numW h l / c) * c)) (loZ (quoV c (numW h l / c) * c)))) +
                                                      numW (hiZ (IntKind.wrap IntKind.i64 (c - (1 : Int)))) (loZ (IntKind.wrap IntKind.i64 (c - (1 : Int))))))) ≤
                                              (0 : Int))),
                                        []))))))
                            (Tree.ret (AV.bool true false, []))))))))))
            (Tree.chk
              ((True ∧ True ∧ True) ∧
                (-9223372036854775808 : Int) ≤ h ∧
                  h ≤ (9223372036854775807 : Int) ∧ (-9223372036854775808 : Int) ≤ k ∧ k ≤ (9223372036854775807 : Int) ∧ (0 : Int) ≤ l ∧ l ≤ (18446744073709551615 : Int) ∧ (0 : Int) ≤ m ∧ m ≤ (18446744073709551615 : Int))
              (Tree.br (cmpZ (numW h l) (numW k m) != (1 : Int)) (Tree.ret (AV.bool true false, []))
                (Tree.chk
                  ((True ∧ True ∧ True) ∧
                    (-9223372036854775808 : Int) ≤ h ∧ h ≤ (9223372036854775807 : Int) ∧ (-9223372036854775808 : Int) ≤ c ∧ c ≤ (9223372036854775807 : Int) ∧ (0 : Int) ≤ l ∧ l ≤ (18446744073709551615 : Int))
                  (Tree.br (decide (c < (1 : Int))) (Tree.br (quoE c (numW h l / c) == (2 : Int)) (Tree.ret (AV.bool false (quoV c (numW h l / c) == (0 : Int)), [])) (Tree.ret (AV.bool true false, [])))
                    (Tree.br (quoE c (numW h l / c) != (0 : Int))
                      (Tree.br (quoE c (numW h l / c) == (3 : Int))
                        (Tree.chk
                          ((True ∧ True ∧ True) ∧
                            (-9223372036854775808 : Int) ≤ (9223372036854775807 : Int) ∧ (9223372036854775807 : Int) ≤ (9223372036854775807 : Int) ∧ (-9223372036854775808 : Int) ≤ c ∧ c ≤ (9223372036854775807 : Int))
                          (Tree.chk ((True ∧ True) ∧ (-9223372036854775808 : Int) ≤ IntKind.wrap IntKind.i64 (c - (1 : Int)) ∧ IntKind.wrap IntKind.i64 (c - (1 : Int)) ≤ (9223372036854775807 : Int))
                            (Tree.chk
                              ((True ∧ True ∧ True) ∧
                                (-9223372036854775808 : Int) ≤ (0 : Int) ∧
                                  (0 : Int) ≤ (9223372036854775807 : Int) ∧
                                    (-9223372036854775808 : Int) ≤ hiZ ((9223372036854775807 : Int) * c) ∧
                                      hiZ ((9223372036854775807 : Int) * c) ≤ (9223372036854775807 : Int) ∧
                                        (0 : Int) ≤ (0 : Int) ∧ (0 : Int) ≤ (18446744073709551615 : Int) ∧ (0 : Int) ≤ loZ ((9223372036854775807 : Int) * c) ∧ loZ ((9223372036854775807 : Int) * c) ≤ (18446744073709551615 : Int))
                              (Tree.chk
                                ((True ∧ True ∧ True) ∧
                                  (-9223372036854775808 : Int) ≤ hiZ ((0 : Int) + numW (hiZ ((9223372036854775807 : Int) * c)) (loZ ((9223372036854775807 : Int) * c))) ∧
                                    hiZ ((0 : Int) + numW (hiZ ((9223372036854775807 : Int) * c)) (loZ ((9223372036854775807 : Int) * c))) ≤ (9223372036854775807 : Int) ∧
                                      (-9223372036854775808 : Int) ≤ hiZ (IntKind.wrap IntKind.i64 (c - (1 : Int))) ∧
                                        hiZ (IntKind.wrap IntKind.i64 (c - (1 : Int))) ≤ (9223372036854775807 : Int) ∧
                                          (0 : Int) ≤ loZ ((0 : Int) + numW (hiZ ((9223372036854775807 : Int) * c)) (loZ ((9223372036854775807 : Int) * c))) ∧
                                            loZ ((0 : Int) + numW (hiZ ((9223372036854775807 : Int) * c)) (loZ ((9223372036854775807 : Int) * c))) ≤ (18446744073709551615 : Int) ∧
                                              (0 : Int) ≤ loZ (IntKind.wrap IntKind.i64 (c - (1 : Int))) ∧ loZ (IntKind.wrap IntKind.i64 (c - (1 : Int))) ≤ (18446744073709551615 : Int))
                                (Tree.chk
                                  ((True ∧ True ∧ True) ∧
                                    (-9223372036854775808 : Int) ≤ h ∧
                                      h ≤ (9223372036854775807 : Int) ∧
                                        (-9223372036854775808 : Int) ≤
                                            hiZ
                                              (numW (hiZ ((0 : Int) + numW (hiZ ((9223372036854775807 : Int) * c)) (loZ ((9223372036854775807 : Int) * c))))
                                                  (loZ ((0 : Int) + numW (hiZ ((9223372036854775807 : Int) * c)) (loZ ((9223372036854775807 : Int) * c)))) +
                                                numW (hiZ (IntKind.wrap IntKind.i64 (c - (1 : Int)))) (loZ (IntKind.wrap IntKind.i64 (c - (1 : Int))))) ∧
                                          hiZ
                                                (numW (hiZ ((0 : Int) + numW (hiZ ((9223372036854775807 : Int) * c)) (loZ ((9223372036854775807 : Int) * c))))
                                                    (loZ ((0 : Int) + numW (hiZ ((9223372036854775807 : Int) * c)) (loZ ((9223372036854775807 : Int) * c)))) +
                                                  numW (hiZ (IntKind.wrap IntKind.i64 (c - (1 : Int)))) (loZ (IntKind.wrap IntKind.i64 (c - (1 : Int))))) ≤
                                              (9223372036854775807 : Int) ∧
                                            (0 : Int) ≤ l ∧
                                              l ≤ (18446744073709551615 : Int) ∧
                                                (0 : Int) ≤
                                                    loZ
                                                      (numW (hiZ ((0 : Int) + numW (hiZ ((9223372036854775807 : Int) * c)) (loZ ((9223372036854775807 : Int) * c))))
                                                          (loZ ((0 : Int) + numW (hiZ ((9223372036854775807 : Int) * c)) (loZ ((9223372036854775807 : Int) * c)))) +
                                                        numW (hiZ (IntKind.wrap IntKind.i64 (c - (1 : Int)))) (loZ (IntKind.wrap IntKind.i64 (c - (1 : Int))))) ∧
                                                  loZ
                                                      (numW (hiZ ((0 : Int) + numW (hiZ ((9223372036854775807 : Int) * c)) (loZ ((9223372036854775807 : Int) * c))))
                                                          (loZ ((0 : Int) + numW (hiZ ((9223372036854775807 : Int) * c)) (loZ ((9223372036854775807 : Int) * c)))) +
                                                        numW (hiZ (IntKind.wrap IntKind.i64 (c - (1 : Int)))) (loZ (IntKind.wrap IntKind.i64 (c - (1 : Int))))) ≤
                                                    (18446744073709551615 : Int))
                                  (Tree.br
                                    (decide
                                      (cmpZ (numW h l)
                                          (numW
                                            (hiZ
                                              (numW (hiZ ((0 : Int) + numW (hiZ ((9223372036854775807 : Int) * c)) (loZ ((9223372036854775807 : Int) * c))))
                                                  (loZ ((0 : Int) + numW (hiZ ((9223372036854775807 : Int) * c)) (loZ ((9223372036854775807 : Int) * c)))) +
                                                numW (hiZ (IntKind.wrap IntKind.i64 (c - (1 : Int)))) (loZ (IntKind.wrap IntKind.i64 (c - (1 : Int))))))
                                            (loZ
                                              (numW (hiZ ((0 : Int) + numW (hiZ ((9223372036854775807 : Int) * c)) (loZ ((9223372036854775807 : Int) * c))))
                                                  (loZ ((0 : Int) + numW (hiZ ((9223372036854775807 : Int) * c)) (loZ ((9223372036854775807 : Int) * c)))) +
                                                numW (hiZ (IntKind.wrap IntKind.i64 (c - (1 : Int)))) (loZ (IntKind.wrap IntKind.i64 (c - (1 : Int))))))) >
                                        (0 : Int)))
                                    (Tree.ret (AV.bool true true, []))
                                    (Tree.chk
                                      ((True ∧ True ∧ True) ∧
                                        (-9223372036854775808 : Int) ≤ (-9223372036854775808 : Int) ∧ (-9223372036854775808 : Int) ≤ (9223372036854775807 : Int) ∧ (-9223372036854775808 : Int) ≤ c ∧ c ≤ (9223372036854775807 : Int))
                                      (Tree.chk
                                        ((True ∧ True ∧ True) ∧
                                          (-9223372036854775808 : Int) ≤ h ∧
                                            h ≤ (9223372036854775807 : Int) ∧
                                              (-9223372036854775808 : Int) ≤ hiZ ((-9223372036854775808 : Int) * c) ∧
                                                hiZ ((-9223372036854775808 : Int) * c) ≤ (9223372036854775807 : Int) ∧
                                                  (0 : Int) ≤ l ∧ l ≤ (18446744073709551615 : Int) ∧ (0 : Int) ≤ loZ ((-9223372036854775808 : Int) * c) ∧ loZ ((-9223372036854775808 : Int) * c) ≤ (18446744073709551615 : Int))
                                        (Tree.ret (AV.bool false (decide (cmpZ (numW h l) (numW (hiZ ((-9223372036854775808 : Int) * c)) (loZ ((-9223372036854775808 : Int) * c))) < (0 : Int))), []))))))))))
                        (Tree.ret (AV.bool true false, [])))
                      (Tree.chk
                        ((True ∧ True ∧ True) ∧
                          (-9223372036854775808 : Int) ≤ quoV c (numW h l / c) ∧ quoV c (numW h l / c) ≤ (9223372036854775807 : Int) ∧ (-9223372036854775808 : Int) ≤ c ∧ c ≤ (9223372036854775807 : Int))
                        (Tree.chk
                          ((True ∧ True ∧ True) ∧
                            (-9223372036854775808 : Int) ≤ hiZ (quoV c (numW h l / c) * c) ∧
                              hiZ (quoV c (numW h l / c) * c) ≤ (9223372036854775807 : Int) ∧
                                (-9223372036854775808 : Int) ≤ h ∧
                                  h ≤ (9223372036854775807 : Int) ∧
                                    (0 : Int) ≤ loZ (quoV c (numW h l / c) * c) ∧ loZ (quoV c (numW h l / c) * c) ≤ (18446744073709551615 : Int) ∧ (0 : Int) ≤ l ∧ l ≤ (18446744073709551615 : Int))
                          (Tree.br (decide (cmpZ (numW (hiZ (quoV c (numW h l / c) * c)) (loZ (quoV c (numW h l / c) * c))) (numW h l) ≤ (0 : Int)))
                            (Tree.chk ((True ∧ True) ∧ (-9223372036854775808 : Int) ≤ IntKind.wrap IntKind.i64 (c - (1 : Int)) ∧ IntKind.wrap IntKind.i64 (c - (1 : Int)) ≤ (9223372036854775807 : Int))
                              (Tree.chk
                                ((True ∧ True ∧ True) ∧
                                  (-9223372036854775808 : Int) ≤ (0 : Int) ∧
                                    (0 : Int) ≤ (9223372036854775807 : Int) ∧
                                      (-9223372036854775808 : Int) ≤ hiZ (quoV c (numW h l / c) * c) ∧
                                        hiZ (quoV c (numW h l / c) * c) ≤ (9223372036854775807 : Int) ∧
                                          (0 : Int) ≤ (0 : Int) ∧
                                            (0 : Int) ≤ (18446744073709551615 : Int) ∧ (0 : Int) ≤ loZ (quoV c (numW h l / c) * c) ∧ loZ (quoV c (numW h l / c) * c) ≤ (18446744073709551615 : Int))
                                (Tree.chk
                                  ((True ∧ True ∧ True) ∧
                                    (-9223372036854775808 : Int) ≤ hiZ ((0 : Int) + numW (hiZ (quoV c (numW h l / c) * c)) (loZ (quoV c (numW h l / c) * c))) ∧
                                      hiZ ((0 : Int) + numW (hiZ (quoV c (numW h l / c) * c)) (loZ (quoV c (numW h l / c) * c))) ≤ (9223372036854775807 : Int) ∧
                                        (-9223372036854775808 : Int) ≤ hiZ (IntKind.wrap IntKind.i64 (c - (1 : Int))) ∧
                                          hiZ (IntKind.wrap IntKind.i64 (c - (1 : Int))) ≤ (9223372036854775807 : Int) ∧
                                            (0 : Int) ≤ loZ ((0 : Int) + numW (hiZ (quoV c (numW h l / c) * c)) (loZ (quoV c (numW h l / c) * c))) ∧
                                              loZ ((0 : Int) + numW (hiZ (quoV c (numW h l / c) * c)) (loZ (quoV c (numW h l / c) * c))) ≤ (18446744073709551615 : Int) ∧
                                                (0 : Int) ≤ loZ (IntKind.wrap IntKind.i64 (c - (1 : Int))) ∧ loZ (IntKind.wrap IntKind.i64 (c - (1 : Int))) ≤ (18446744073709551615 : Int))
                                  (Tree.chk
                                    ((True ∧ True ∧ True) ∧
                                      (-9223372036854775808 : Int) ≤ h ∧
                                        h ≤ (9223372036854775807 : Int) ∧
                                          (-9223372036854775808 : Int) ≤
                                              hiZ
                                                (numW (hiZ ((0 : Int) + numW (hiZ (quoV c (numW h l / c) * c)) (loZ (quoV c (numW h l / c) * c))))
                                                    (loZ ((0 : Int) + numW (hiZ (quoV c (numW h l / c) * c)) (loZ (quoV c (numW h l / c) * c)))) +
                                                  numW (hiZ (IntKind.wrap IntKind.i64 (c - (1 : Int)))) (loZ (IntKind.wrap IntKind.i64 (c - (1 : Int))))) ∧
                                            hiZ
                                                  (numW (hiZ ((0 : Int) + numW (hiZ (quoV c (numW h l / c) * c)) (loZ (quoV c (numW h l / c) * c))))
                                                      (loZ ((0 : Int) + numW (hiZ (quoV c (numW h l / c) * c)) (loZ (quoV c (numW h l / c) * c)))) +
                                                    numW (hiZ (IntKind.wrap IntKind.i64 (c - (1 : Int)))) (loZ (IntKind.wrap IntKind.i64 (c - (1 : Int))))) ≤
                                                (9223372036854775807 : Int) ∧
                                              (0 : Int) ≤ l ∧
                                                l ≤ (18446744073709551615 : Int) ∧
                                                  (0 : Int) ≤
                                                      loZ
                                                        (numW (hiZ ((0 : Int) + numW (hiZ (quoV c (numW h l / c) * c)) (loZ (quoV c (numW h l / c) * c))))
                                                            (loZ ((0 : Int) + numW (hiZ (quoV c (numW h l / c) * c)) (loZ (quoV c (numW h l / c) * c)))) +
                                                          numW (hiZ (IntKind.wrap IntKind.i64 (c - (1 : Int)))) (loZ (IntKind.wrap IntKind.i64 (c - (1 : Int))))) ∧
                                                    loZ
                                                        (numW (hiZ ((0 : Int) + numW (hiZ (quoV c (numW h l / c) * c)) (loZ (quoV c (numW h l / c) * c))))
                                                            (loZ ((0 : Int) + numW (hiZ (quoV c (numW h l / c) * c)) (loZ (quoV c (numW h l / c) * c)))) +
                                                          numW (hiZ (IntKind.wrap IntKind.i64 (c - (1 : Int)))) (loZ (IntKind.wrap IntKind.i64 (c - (1 : Int))))) ≤
                                                      (18446744073709551615 : Int))
                                    (Tree.ret
                                      (AV.bool false
                                          (decide
                                            (cmpZ (numW h l)
                                                (numW
                                                  (hiZ
                                                    (numW (hiZ ((0 : Int) + numW (hiZ (quoV c (numW h l / c) * c)) (loZ (quoV c (numW h l / c) * c))))
                                                        (loZ ((0 : Int) + numW (hiZ (quoV c (numW h l / c) * c)) (loZ (quoV c (numW h l / c) * c)))) +
                                                      numW (hiZ (IntKind.wrap IntKind.i64 (c - (1 : Int)))) (loZ (IntKind.wrap IntKind.i64 (c - (1 : Int))))))
                                                  (loZ
                                                    (numW (hiZ ((0 : Int) + numW (hiZ (quoV c (numW h l / c) * c)) (loZ (quoV c (numW h l / c) * c))))
                                                        (loZ ((0 : Int) + numW (hiZ (quoV c (numW h l / c) * c)) (loZ (quoV c (numW h l / c) * c)))) +
                                                      numW (hiZ (IntKind.wrap IntKind.i64 (c - (1 : Int)))) (loZ (IntKind.wrap IntKind.i64 (c - (1 : Int))))))) ≤
                                              (0 : Int))),
                                        []))))))
                            (Tree.ret (AV.bool true false, [])))))))))))
          (Tree.chk
            ((True ∧ True ∧ True) ∧
              (-9223372036854775808 : Int) ≤ h ∧
                h ≤ (9223372036854775807 : Int) ∧ (-9223372036854775808 : Int) ≤ k ∧ k ≤ (9223372036854775807 : Int) ∧ (0 : Int) ≤ l ∧ l ≤ (18446744073709551615 : Int) ∧ (0 : Int) ≤ m ∧ m ≤ (18446744073709551615 : Int))
            (Tree.br (cmpZ (numW h l) (numW k m) != (0 : Int)) (Tree.ret (AV.bool true false, []))
              (Tree.chk
                ((True ∧ True ∧ True) ∧
                  (-9223372036854775808 : Int) ≤ h ∧ h ≤ (9223372036854775807 : Int) ∧ (-9223372036854775808 : Int) ≤ c ∧ c ≤ (9223372036854775807 : Int) ∧ (0 : Int) ≤ l ∧ l ≤ (18446744073709551615 : Int))
                (Tree.br (decide (c < (1 : Int))) (Tree.br (quoE c (numW h l / c) == (2 : Int)) (Tree.ret (AV.bool false (quoV c (numW h l / c) == (0 : Int)), [])) (Tree.ret (AV.bool true false, [])))
                  (Tree.br (quoE c (numW h l / c) != (0 : Int))
                    (Tree.br (quoE c (numW h l / c) == (3 : Int))
                      (Tree.chk
                        ((True ∧ True ∧ True) ∧ (-9223372036854775808 : Int) ≤ (9223372036854775807 : Int) ∧ (9223372036854775807 : Int) ≤ (9223372036854775807 : Int) ∧ (-9223372036854775808 : Int) ≤ c ∧ c ≤ (9223372036854775807 : Int))
                        (Tree.chk ((True ∧ True) ∧ (-9223372036854775808 : Int) ≤ IntKind.wrap IntKind.i64 (c - (1 : Int)) ∧ IntKind.wrap IntKind.i64 (c - (1 : Int)) ≤ (9223372036854775807 : Int))
                          (Tree.chk
                            ((True ∧ True ∧ True) ∧
                              (-9223372036854775808 : Int) ≤ (0 : Int) ∧
                                (0 : Int) ≤ (9223372036854775807 : Int) ∧
                                  (-9223372036854775808 : Int) ≤ hiZ ((9223372036854775807 : Int) * c) ∧
                                    hiZ ((9223372036854775807 : Int) * c) ≤ (9223372036854775807 : Int) ∧
                                      (0 : Int) ≤ (0 : Int) ∧ (0 : Int) ≤ (18446744073709551615 : Int) ∧ (0 : Int) ≤ loZ ((9223372036854775807 : Int) * c) ∧ loZ ((9223372036854775807 : Int) * c) ≤ (18446744073709551615 : Int))
                            (Tree.chk
                              ((True ∧ True ∧ True) ∧
                                (-9223372036854775808 : Int) ≤ hiZ ((0 : Int) + numW (hiZ ((9223372036854775807 : Int) * c)) (loZ ((9223372036854775807 : Int) * c))) ∧
                                  hiZ ((0 : Int) + numW (hiZ ((9223372036854775807 : Int) * c)) (loZ ((9223372036854775807 : Int) * c))) ≤ (9223372036854775807 : Int) ∧
                                    (-9223372036854775808 : Int) ≤ hiZ (IntKind.wrap IntKind.i64 (c - (1 : Int))) ∧
                                      hiZ (IntKind.wrap IntKind.i64 (c - (1 : Int))) ≤ (9223372036854775807 : Int) ∧
                                        (0 : Int) ≤ loZ ((0 : Int) + numW (hiZ ((9223372036854775807 : Int) * c)) (loZ ((9223372036854775807 : Int) * c))) ∧
                                          loZ ((0 : Int) + numW (hiZ ((9223372036854775807 : Int) * c)) (loZ ((9223372036854775807 : Int) * c))) ≤ (18446744073709551615 : Int) ∧
                                            (0 : Int) ≤ loZ (IntKind.wrap IntKind.i64 (c - (1 : Int))) ∧ loZ (IntKind.wrap IntKind.i64 (c - (1 : Int))) ≤ (18446744073709551615 : Int))
                              (Tree.chk
                                ((True ∧ True ∧ True) ∧
                                  (-9223372036854775808 : Int) ≤ h ∧
                                    h ≤ (9223372036854775807 : Int) ∧
                                      (-9223372036854775808 : Int) ≤
                                          hiZ
                                            (numW (hiZ ((0 : Int) + numW (hiZ ((9223372036854775807 : Int) * c)) (loZ ((9223372036854775807 : Int) * c))))
                                                (loZ ((0 : Int) + numW (hiZ ((9223372036854775807 : Int) * c)) (loZ ((9223372036854775807 : Int) * c)))) +
                                              numW (hiZ (IntKind.wrap IntKind.i64 (c - (1 : Int)))) (loZ (IntKind.wrap IntKind.i64 (c - (1 : Int))))) ∧
                                        hiZ
                                              (numW (hiZ ((0 : Int) + numW (hiZ ((9223372036854775807 : Int) * c)) (loZ ((9223372036854775807 : Int) * c))))
                                                  (loZ ((0 : Int) + numW (hiZ ((9223372036854775807 : Int) * c)) (loZ ((9223372036854775807 : Int) * c)))) +
                                                numW (hiZ (IntKind.wrap IntKind.i64 (c - (1 : Int)))) (loZ (IntKind.wrap IntKind.i64 (c - (1 : Int))))) ≤
                                            (9223372036854775807 : Int) ∧
                                          (0 : Int) ≤ l ∧
                                            l ≤ (18446744073709551615 : Int) ∧
                                              (0 : Int) ≤
                                                  loZ
                                                    (numW (hiZ ((0 : Int) + numW (hiZ ((9223372036854775807 : Int) * c)) (loZ ((9223372036854775807 : Int) * c))))
                                                        (loZ ((0 : Int) + numW (hiZ ((9223372036854775807 : Int) * c)) (loZ ((9223372036854775807 : Int) * c)))) +
                                                      numW (hiZ (IntKind.wrap IntKind.i64 (c - (1 : Int)))) (loZ (IntKind.wrap IntKind.i64 (c - (1 : Int))))) ∧
                                                loZ
                                                    (numW (hiZ ((0 : Int) + numW (hiZ ((9223372036854775807 : Int) * c)) (loZ ((9223372036854775807 : Int) * c))))
                                                        (loZ ((0 : Int) + numW (hiZ ((9223372036854775807 : Int) * c)) (loZ ((9223372036854775807 : Int) * c)))) +
                                                      numW (hiZ (IntKind.wrap IntKind.i64 (c - (1 : Int)))) (loZ (IntKind.wrap IntKind.i64 (c - (1 : Int))))) ≤
                                                  (18446744073709551615 : Int))
                                (Tree.br
                                  (decide
                                    (cmpZ (numW h l)
                                        (numW
                                          (hiZ
                                            (numW (hiZ ((0 : Int) + numW (hiZ ((9223372036854775807 : Int) * c)) (loZ ((9223372036854775807 : Int) * c))))
                                                (loZ ((0 : Int) + numW (hiZ ((9223372036854775807 : Int) * c)) (loZ ((9223372036854775807 : Int) * c)))) +
                                              numW (hiZ (IntKind.wrap IntKind.i64 (c - (1 : Int)))) (loZ (IntKind.wrap IntKind.i64 (c - (1 : Int))))))
                                          (loZ
                                            (numW (hiZ ((0 : Int) + numW (hiZ ((9223372036854775807 : Int) * c)) (loZ ((9223372036854775807 : Int) * c))))
                                                (loZ ((0 : Int) + numW (hiZ ((9223372036854775807 : Int) * c)) (loZ ((9223372036854775807 : Int) * c)))) +
                                              numW (hiZ (IntKind.wrap IntKind.i64 (c - (1 : Int)))) (loZ (IntKind.wrap IntKind.i64 (c - (1 : Int))))))) >
                                      (0 : Int)))
                                  (Tree.ret (AV.bool true true, []))
                                  (Tree.chk
                                    ((True ∧ True ∧ True) ∧
                                      (-9223372036854775808 : Int) ≤ (-9223372036854775808 : Int) ∧ (-9223372036854775808 : Int) ≤ (9223372036854775807 : Int) ∧ (-9223372036854775808 : Int) ≤ c ∧ c ≤ (9223372036854775807 : Int))
                                    (Tree.chk
                                      ((True ∧ True ∧ True) ∧
                                        (-9223372036854775808 : Int) ≤ h ∧
                                          h ≤ (9223372036854775807 : Int) ∧
                                            (-9223372036854775808 : Int) ≤ hiZ ((-9223372036854775808 : Int) * c) ∧
                                              hiZ ((-9223372036854775808 : Int) * c) ≤ (9223372036854775807 : Int) ∧
                                                (0 : Int) ≤ l ∧ l ≤ (18446744073709551615 : Int) ∧ (0 : Int) ≤ loZ ((-9223372036854775808 : Int) * c) ∧ loZ ((-9223372036854775808 : Int) * c) ≤ (18446744073709551615 : Int))
                                      (Tree.ret (AV.bool false (decide (cmpZ (numW h l) (numW (hiZ ((-9223372036854775808 : Int) * c)) (loZ ((-9223372036854775808 : Int) * c))) < (0 : Int))), []))))))))))
                      (Tree.ret (AV.bool true false, [])))
                    (Tree.chk
                      ((True ∧ True ∧ True) ∧
                        (-9223372036854775808 : Int) ≤ quoV c (numW h l / c) ∧ quoV c (numW h l / c) ≤ (9223372036854775807 : Int) ∧ (-9223372036854775808 : Int) ≤ c ∧ c ≤ (9223372036854775807 : Int))
                      (Tree.chk
                        ((True ∧ True ∧ True) ∧
                          (-9223372036854775808 : Int) ≤ hiZ (quoV c (numW h l / c) * c) ∧
                            hiZ (quoV c (numW h l / c) * c) ≤ (9223372036854775807 : Int) ∧
                              (-9223372036854775808 : Int) ≤ h ∧
                                h ≤ (9223372036854775807 : Int) ∧
                                  (0 : Int) ≤ loZ (quoV c (numW h l / c) * c) ∧ loZ (quoV c (numW h l / c) * c) ≤ (18446744073709551615 : Int) ∧ (0 : Int) ≤ l ∧ l ≤ (18446744073709551615 : Int))
                        (Tree.br (decide (cmpZ (numW (hiZ (quoV c (numW h l / c) * c)) (loZ (quoV c (numW h l / c) * c))) (numW h l) ≤ (0 : Int)))
                          (Tree.chk ((True ∧ True) ∧ (-9223372036854775808 : Int) ≤ IntKind.wrap IntKind.i64 (c - (1 : Int)) ∧ IntKind.wrap IntKind.i64 (c - (1 : Int)) ≤ (9223372036854775807 : Int))
                            (Tree.chk
                              ((True ∧ True ∧ True) ∧
                                (-9223372036854775808 : Int) ≤ (0 : Int) ∧
                                  (0 : Int) ≤ (9223372036854775807 : Int) ∧
                                    (-9223372036854775808 : Int) ≤ hiZ (quoV c (numW h l / c) * c) ∧
                                      hiZ (quoV c (numW h l / c) * c) ≤ (9223372036854775807 : Int) ∧
                                        (0 : Int) ≤ (0 : Int) ∧
                                          (0 : Int) ≤ (18446744073709551615 : Int) ∧ (0 : Int) ≤ loZ (quoV c (numW h l / c) * c) ∧ loZ (quoV c (numW h l / c) * c) ≤ (18446744073709551615 : Int))
                              (Tree.chk
                                ((True ∧ True ∧ True) ∧
                                  (-9223372036854775808 : Int) ≤ hiZ ((0 : Int) + numW (hiZ (quoV c (numW h l / c) * c)) (loZ (quoV c (numW h l / c) * c))) ∧
                                    hiZ ((0 : Int) + numW (hiZ (quoV c (numW h l / c) * c)) (loZ (quoV c (numW h l / c) * c))) ≤ (9223372036854775807 : Int) ∧
                                      (-9223372036854775808 : Int) ≤ hiZ (IntKind.wrap IntKind.i64 (c - (1 : Int))) ∧
                                        hiZ (IntKind.wrap IntKind.i64 (c - (1 : Int))) ≤ (9223372036854775807 : Int) ∧
                                          (0 : Int) ≤ loZ ((0 : Int) + numW (hiZ (quoV c (numW h l / c) * c)) (loZ (quoV c (numW h l / c) * c))) ∧
                                            loZ ((0 : Int) + numW (hiZ (quoV c (numW h l / c) * c)) (loZ (quoV c (numW h l / c) * c))) ≤ (18446744073709551615 : Int) ∧
                                              (0 : Int) ≤ loZ (IntKind.wrap IntKind.i64 (c - (1 : Int))) ∧ loZ (IntKind.wrap IntKind.i64 (c - (1 : Int))) ≤ (18446744073709551615 : Int))
                                (Tree.chk
                                  ((True ∧ True ∧ True) ∧
                                    (-9223372036854775808 : Int) ≤ h ∧
                                      h ≤ (9223372036854775807 : Int) ∧
                                        (-9223372036854775808 : Int) ≤
                                            hiZ
                                              (numW (hiZ ((0 : Int) + numW (hiZ (quoV c (numW h l / c) * c)) (loZ (quoV c (numW h l / c) * c))))
                                                  (loZ ((0 : Int) + numW (hiZ (quoV c (numW h l / c) * c)) (loZ (quoV c (numW h l / c) * c)))) +
                                                numW (hiZ (IntKind.wrap IntKind.i64 (c - (1 : Int)))) (loZ (IntKind.wrap IntKind.i64 (c - (1 : Int))))) ∧
                                          hiZ
                                                (numW (hiZ ((0 : Int) + numW (hiZ (quoV c (numW h l / c) * c)) (loZ (quoV c (numW h l / c) * c))))
                                                    (loZ ((0 : Int) + numW (hiZ (quoV c (numW h l / c) * c)) (loZ (quoV c (numW h l / c) * c)))) +
                                                  numW (hiZ (IntKind.wrap IntKind.i64 (c - (1 : Int)))) (loZ (IntKind.wrap IntKind.i64 (c - (1 : Int))))) ≤
                                              (9223372036854775807 : Int) ∧
                                            (0 : Int) ≤ l ∧
                                              l ≤ (18446744073709551615 : Int) ∧
                                                (0 : Int) ≤
                                                    loZ
                                                      (numW (hiZ ((0 : Int) + numW (hiZ (quoV c (numW h l / c) * c)) (loZ (quoV c (numW h l / c) * c))))
                                                          (loZ ((0 : Int) + numW (hiZ (quoV c (numW h l / c) * c)) (loZ (quoV c (numW h l / c) * c)))) +
                                                        numW (hiZ (IntKind.wrap IntKind.i64 (c - (1 : Int)))) (loZ (IntKind.wrap IntKind.i64 (c - (1 : Int))))) ∧
                                                  loZ
                                                      (numW (hiZ ((0 : Int) + numW (hiZ (quoV c (numW h l / c) * c)) (loZ (quoV c (numW h l / c) * c))))
                                                          (loZ ((0 : Int) + numW (hiZ (quoV c (numW h l / c) * c)) (loZ (quoV c (numW h l / c) * c)))) +
                                                        numW (hiZ (IntKind.wrap IntKind.i64 (c - (1 : Int)))) (loZ (IntKind.wrap IntKind.i64 (c - (1 : Int))))) ≤
                                                    (18446744073709551615 : Int))
                                  (Tree.ret
                                    (AV.bool false
                                        (decide
                                          (cmpZ (numW h l)
                                              (numW
                                                (hiZ
                                                  (numW (hiZ ((0 : Int) + numW (hiZ (quoV c (numW h l / c) * c)) (loZ (quoV c (numW h l / c) * c))))
                                                      (loZ ((0 : Int) + numW (hiZ (quoV c (numW h l / c) * c)) (loZ (quoV c (numW h l / c) * c)))) +
                                                    numW (hiZ (IntKind.wrap IntKind.i64 (c - (1 : Int)))) (loZ (IntKind.wrap IntKind.i64 (c - (1 : Int))))))
                                                (loZ
                                                  (numW (hiZ ((0 : Int) + numW (hiZ (quoV c (numW h l / c) * c)) (loZ (quoV c (numW h l / c) * c))))
                                                      (loZ ((0 : Int) + numW (hiZ (quoV c (numW h l / c) * c)) (loZ (quoV c (numW h l / c) * c)))) +
                                                    numW (hiZ (IntKind.wrap IntKind.i64 (c - (1 : Int)))) (loZ (IntKind.wrap IntKind.i64 (c - (1 : Int))))))) ≤
                                            (0 : Int))),
                                      []))))))
                          (Tree.ret (AV.bool true false, []))))))))))))) : Tree (AV × Mem)).GivesP (.bool false true) ([]) := by
  obtain ⟨h0, h1_, k0, k1, c0, c1, l0, l1, m0, m1⟩ := hw
  have bA := mul_bound (a := 9223372036854775807) (b := c) (by decide) (by decide) c0 c1
  have bB := mul_bound (a := -9223372036854775808) (b := c) (by decide) (by decide) c0 c1
  have hq := quoV_ok c (numW h l / c)
  have bC := mul_bound hq.1 hq.2 c0 c1
  have bw : -9223372036854775808 ≤ IntKind.i64.wrap (c - 1) ∧ IntKind.i64.wrap (c - 1) ≤ 9223372036854775807 ∧ (1 ≤ c → IntKind.i64.wrap (c - 1) = c - 1) := by rw [w64]; omega
  simp only [Int.zero_add]
  simp (disch := omega) only [num_hilo]
  have f1 := raw_facts (N := numW h l) (c := c)
  have eN : numW h l = h * 18446744073709551616 + l := rfl
  have eM : numW k m = k * 18446744073709551616 + m := rfl
  have p1 := cmp_cases (numW h l) (numW k m)
  have p2 := cmp_cases (numW h l) (9223372036854775807 * c + IntKind.i64.wrap (c - 1))
  have p3 := cmp_cases (numW h l) (-9223372036854775808 * c)
  have p4 := cmp_cases (quoV c (numW h l / c) * c) (numW h l)
  have p5 := cmp_cases (numW h l) (quoV c (numW h l / c) * c + IntKind.i64.wrap (c - 1))
  refine Tree.GivesP.chk (by first | (simp only [and_self]; done) | ((repeat' with_reducible refine And.intro ?_ ?_) <;> first | trivial | omega | exact (hi_ok _).1 | exact (hi_ok _).2 | exact (lo_ok _).1 | exact (lo_ok _).2)) ?_
  refine Tree.GivesP.br (fun h1 => ?_) (fun h1 => ?_)
  · (try simp only [decide_eq_true_eq, decide_eq_false_iff_not, Bool.not_eq_true', Bool.not_eq_false', beq_iff_eq, beq_eq_false_iff_ne, Int.not_lt, Int.not_le, ge_iff_le, gt_iff_lt, ne_eq, Bool.false_eq_true, Bool.true_eq_false, not_true_eq_false, not_false_eq_true, Bool.and_eq_true, Bool.not_eq_eq_eq_not, Bool.not_true, Bool.not_false, bne_iff_ne, bne_eq_false_iff_eq, Int.toNat_natCast, Nat.mul_one, Nat.add_zero, Nat.zero_add, List.take_length, List.drop_zero] at h1)
    all_goals
      refine Tree.GivesP.ret ?_ ?_
      · first | (simp only [AV.le]; done) | (simp only [AV.le, beq_iff_eq, decide_eq_true_eq]; omega) | (exfalso; omega)
      · simp only [AV.leL, AV.le, Mem.le, Mem.leP, Blk.le, Blk.pad, Data.le, Data.size, Cap.le, and_true, true_and, and_self, true_implies, implies_true, imp_self, List.length_nil]
  · (try simp only [decide_eq_true_eq, decide_eq_false_iff_not, Bool.not_eq_true', Bool.not_eq_false', beq_iff_eq, beq_eq_false_iff_ne, Int.not_lt, Int.not_le, ge_iff_le, gt_iff_lt, ne_eq, Bool.false_eq_true, Bool.true_eq_false, not_true_eq_false, not_false_eq_true, Bool.and_eq_true, Bool.not_eq_eq_eq_not, Bool.not_true, Bool.not_false, bne_iff_ne, bne_eq_false_iff_eq, Int.toNat_natCast, Nat.mul_one, Nat.add_zero, Nat.zero_add, List.take_length, List.drop_zero] at h1)
    all_goals
      refine Tree.GivesP.br (fun h2 => ?_) (fun h2 => ?_)
      · (try simp only [decide_eq_true_eq, decide_eq_false_iff_not, Bool.not_eq_true', Bool.not_eq_false', beq_iff_eq, beq_eq_false_iff_ne, Int.not_lt, Int.not_le, ge_iff_le, gt_iff_lt, ne_eq, Bool.false_eq_true, Bool.true_eq_false, not_true_eq_false, not_false_eq_true, Bool.and_eq_true, Bool.not_eq_eq_eq_not, Bool.not_true, Bool.not_false, bne_iff_ne, bne_eq_false_iff_eq, Int.toNat_natCast, Nat.mul_one, Nat.add_zero, Nat.zero_add, List.take_length, List.drop_zero] at h2)
        all_goals
          refine Tree.GivesP.br (fun h3 => ?_) (fun h3 => ?_)
          · (try simp only [decide_eq_true_eq, decide_eq_false_iff_not, Bool.not_eq_true', Bool.not_eq_false', beq_iff_eq, beq_eq_false_iff_ne, Int.not_lt, Int.not_le, ge_iff_le, gt_iff_lt, ne_eq, Bool.false_eq_true, Bool.true_eq_false, not_true_eq_false, not_false_eq_true, Bool.and_eq_true, Bool.not_eq_eq_eq_not, Bool.not_true, Bool.not_false, bne_iff_ne, bne_eq_false_iff_eq, Int.toNat_natCast, Nat.mul_one, Nat.add_zero, Nat.zero_add, List.take_length, List.drop_zero] at h3)
            all_goals
              refine Tree.GivesP.chk (by first | (simp only [and_self]; done) | ((repeat' with_reducible refine And.intro ?_ ?_) <;> first | trivial | omega | exact (hi_ok _).1 | exact (hi_ok _).2 | exact (lo_ok _).1 | exact (lo_ok _).2)) ?_
              refine Tree.GivesP.br (fun h4 => ?_) (fun h4 => ?_)
              · (try simp only [decide_eq_true_eq, decide_eq_false_iff_not, Bool.not_eq_true', Bool.not_eq_false', beq_iff_eq, beq_eq_false_iff_ne, Int.not_lt, Int.not_le, ge_iff_le, gt_iff_lt, ne_eq, Bool.false_eq_true, Bool.true_eq_false, not_true_eq_false, not_false_eq_true, Bool.and_eq_true, Bool.not_eq_eq_eq_not, Bool.not_true, Bool.not_false, bne_iff_ne, bne_eq_false_iff_eq, Int.toNat_natCast, Nat.mul_one, Nat.add_zero, Nat.zero_add, List.take_length, List.drop_zero] at h4)
                all_goals
                  refine Tree.GivesP.ret ?_ ?_
                  · first | (simp only [AV.le]; done) | (simp only [AV.le, beq_iff_eq, decide_eq_true_eq]; omega) | (exfalso; omega)
                  · simp only [AV.leL, AV.le, Mem.le, Mem.leP, Blk.le, Blk.pad, Data.le, Data.size, Cap.le, and_true, true_and, and_self, true_implies, implies_true, imp_self, List.length_nil]
              · (try simp only [decide_eq_true_eq, decide_eq_false_iff_not, Bool.not_eq_true', Bool.not_eq_false', beq_iff_eq, beq_eq_false_iff_ne, Int.not_lt, Int.not_le, ge_iff_le, gt_iff_lt, ne_eq, Bool.false_eq_true, Bool.true_eq_false, not_true_eq_false, not_false_eq_true, Bool.and_eq_true, Bool.not_eq_eq_eq_not, Bool.not_true, Bool.not_false, bne_iff_ne, bne_eq_false_iff_eq, Int.toNat_natCast, Nat.mul_one, Nat.add_zero, Nat.zero_add, List.take_length, List.drop_zero] at h4)
                all_goals
                  refine Tree.GivesP.chk (by first | (simp only [and_self]; done) | ((repeat' with_reducible refine And.intro ?_ ?_) <;> first | trivial | omega | exact (hi_ok _).1 | exact (hi_ok _).2 | exact (lo_ok _).1 | exact (lo_ok _).2)) ?_
                  refine Tree.GivesP.br (fun h5 => ?_) (fun h5 => ?_)
                  · (try simp only [decide_eq_true_eq, decide_eq_false_iff_not, Bool.not_eq_true', Bool.not_eq_false', beq_iff_eq, beq_eq_false_iff_ne, Int.not_lt, Int.not_le, ge_iff_le, gt_iff_lt, ne_eq, Bool.false_eq_true, Bool.true_eq_false, not_true_eq_false, not_false_eq_true, Bool.and_eq_true, Bool.not_eq_eq_eq_not, Bool.not_true, Bool.not_false, bne_iff_ne, bne_eq_false_iff_eq, Int.toNat_natCast, Nat.mul_one, Nat.add_zero, Nat.zero_add, List.take_length, List.drop_zero] at h5)
                    all_goals
                      refine Tree.GivesP.br (fun h6 => ?_) (fun h6 => ?_)
                      · (try simp only [decide_eq_true_eq, decide_eq_false_iff_not, Bool.not_eq_true', Bool.not_eq_false', beq_iff_eq, beq_eq_false_iff_ne, Int.not_lt, Int.not_le, ge_iff_le, gt_iff_lt, ne_eq, Bool.false_eq_true, Bool.true_eq_false, not_true_eq_false, not_false_eq_true, Bool.and_eq_true, Bool.not_eq_eq_eq_not, Bool.not_true, Bool.not_false, bne_iff_ne, bne_eq_false_iff_eq, Int.toNat_natCast, Nat.mul_one, Nat.add_zero, Nat.zero_add, List.take_length, List.drop_zero] at h6)
                        all_goals
                          refine Tree.GivesP.ret ?_ ?_
                          · first | (simp only [AV.le]; done) | (simp only [AV.le, beq_iff_eq, decide_eq_true_eq]; omega) | (exfalso; omega)
                          · simp only [AV.leL, AV.le, Mem.le, Mem.leP, Blk.le, Blk.pad, Data.le, Data.size, Cap.le, and_true, true_and, and_self, true_implies, implies_true, imp_self, List.length_nil]
                      · (try simp only [decide_eq_true_eq, decide_eq_false_iff_not, Bool.not_eq_true', Bool.not_eq_false', beq_iff_eq, beq_eq_false_iff_ne, Int.not_lt, Int.not_le, ge_iff_le, gt_iff_lt, ne_eq, Bool.false_eq_true, Bool.true_eq_false, not_true_eq_false, not_false_eq_true, Bool.and_eq_true, Bool.not_eq_eq_eq_not, Bool.not_true, Bool.not_false, bne_iff_ne, bne_eq_false_iff_eq, Int.toNat_natCast, Nat.mul_one, Nat.add_zero, Nat.zero_add, List.take_length, List.drop_zero] at h6)
                        all_goals
                          refine Tree.GivesP.ret ?_ ?_
                          · first | (simp only [AV.le]; done) | (simp only [AV.le, beq_iff_eq, decide_eq_true_eq]; omega) | (exfalso; omega)
                          · simp only [AV.leL, AV.le, Mem.le, Mem.leP, Blk.le, Blk.pad, Data.le, Data.size, Cap.le, and_true, true_and, and_self, true_implies, implies_true, imp_self, List.length_nil]
                  · (try simp only [decide_eq_true_eq, decide_eq_false_iff_not, Bool.not_eq_true', Bool.not_eq_false', beq_iff_eq, beq_eq_false_iff_ne, Int.not_lt, Int.not_le, ge_iff_le, gt_iff_lt, ne_eq, Bool.false_eq_true, Bool.true_eq_false, not_true_eq_false, not_false_eq_true, Bool.and_eq_true, Bool.not_eq_eq_eq_not, Bool.not_true, Bool.not_false, bne_iff_ne, bne_eq_false_iff_eq, Int.toNat_natCast, Nat.mul_one, Nat.add_zero, Nat.zero_add, List.take_length, List.drop_zero] at h5)
                    all_goals
                      refine Tree.GivesP.br (fun h6 => ?_) (fun h6 => ?_)
                      · (try simp only [decide_eq_true_eq, decide_eq_false_iff_not, Bool.not_eq_true', Bool.not_eq_false', beq_iff_eq, beq_eq_false_iff_ne, Int.not_lt, Int.not_le, ge_iff_le, gt_iff_lt, ne_eq, Bool.false_eq_true, Bool.true_eq_false, not_true_eq_false, not_false_eq_true, Bool.and_eq_true, Bool.not_eq_eq_eq_not, Bool.not_true, Bool.not_false, bne_iff_ne, bne_eq_false_iff_eq, Int.toNat_natCast, Nat.mul_one, Nat.add_zero, Nat.zero_add, List.take_length, List.drop_zero] at h6)
                        all_goals
                          refine Tree.GivesP.br (fun h7 => ?_) (fun h7 => ?_)
                          · (try simp only [decide_eq_true_eq, decide_eq_false_iff_not, Bool.not_eq_true', Bool.not_eq_false', beq_iff_eq, beq_eq_false_iff_ne, Int.not_lt, Int.not_le, ge_iff_le, gt_iff_lt, ne_eq, Bool.false_eq_true, Bool.true_eq_false, not_true_eq_false, not_false_eq_true, Bool.and_eq_true, Bool.not_eq_eq_eq_not, Bool.not_true, Bool.not_false, bne_iff_ne, bne_eq_false_iff_eq, Int.toNat_natCast, Nat.mul_one, Nat.add_zero, Nat.zero_add, List.take_length, List.drop_zero] at h7)
                            all_goals
                              refine Tree.GivesP.chk (by first | (simp only [and_self]; done) | ((repeat' with_reducible refine And.intro ?_ ?_) <;> first | trivial | omega | exact (hi_ok _).1 | exact (hi_ok _).2 | exact (lo_ok _).1 | exact (lo_ok _).2)) ?_
                              refine Tree.GivesP.chk (by first | (simp only [and_self]; done) | ((repeat' with_reducible refine And.intro ?_ ?_) <;> first | trivial | omega | exact (hi_ok _).1 | exact (hi_ok _).2 | exact (lo_ok _).1 | exact (lo_ok _).2)) ?_
                              refine Tree.GivesP.chk (by first | (simp only [and_self]; done) | ((repeat' with_reducible refine And.intro ?_ ?_) <;> first | trivial | omega | exact (hi_ok _).1 | exact (hi_ok _).2 | exact (lo_ok _).1 | exact (lo_ok _).2)) ?_
                              refine Tree.GivesP.chk (by first | (simp only [and_self]; done) | ((repeat' with_reducible refine And.intro ?_ ?_) <;> first | trivial | omega | exact (hi_ok _).1 | exact (hi_ok _).2 | exact (lo_ok _).1 | exact (lo_ok _).2)) ?_
                              refine Tree.GivesP.chk (by first | (simp only [and_self]; done) | ((repeat' with_reducible refine And.intro ?_ ?_) <;> first | trivial | omega | exact (hi_ok _).1 | exact (hi_ok _).2 | exact (lo_ok _).1 | exact (lo_ok _).2)) ?_
                              refine Tree.GivesP.br (fun h8 => ?_) (fun h8 => ?_)
                              · (try simp only [decide_eq_true_eq, decide_eq_false_iff_not, Bool.not_eq_true', Bool.not_eq_false', beq_iff_eq, beq_eq_false_iff_ne, Int.not_lt, Int.not_le, ge_iff_le, gt_iff_lt, ne_eq, Bool.false_eq_true, Bool.true_eq_false, not_true_eq_false, not_false_eq_true, Bool.and_eq_true, Bool.not_eq_eq_eq_not, Bool.not_true, Bool.not_false, bne_iff_ne, bne_eq_false_iff_eq, Int.toNat_natCast, Nat.mul_one, Nat.add_zero, Nat.zero_add, List.take_length, List.drop_zero] at h8)
                                all_goals
                                  refine Tree.GivesP.ret ?_ ?_
                                  · first | (simp only [AV.le]; done) | (simp only [AV.le, beq_iff_eq, decide_eq_true_eq]; omega) | (exfalso; omega)
                                  · simp only [AV.leL, AV.le, Mem.le, Mem.leP, Blk.le, Blk.pad, Data.le, Data.size, Cap.le, and_true, true_and, and_self, true_implies, implies_true, imp_self, List.length_nil]
                              · (try simp only [decide_eq_true_eq, decide_eq_false_iff_not, Bool.not_eq_true', Bool.not_eq_false', beq_iff_eq, beq_eq_false_iff_ne, Int.not_lt, Int.not_le, ge_iff_le, gt_iff_lt, ne_eq, Bool.false_eq_true, Bool.true_eq_false, not_true_eq_false, not_false_eq_true, Bool.and_eq_true, Bool.not_eq_eq_eq_not, Bool.not_true, Bool.not_false, bne_iff_ne, bne_eq_false_iff_eq, Int.toNat_natCast, Nat.mul_one, Nat.add_zero, Nat.zero_add, List.take_length, List.drop_zero] at h8)
                                all_goals
                                  refine Tree.GivesP.chk (by first | (simp only [and_self]; done) | ((repeat' with_reducible refine And.intro ?_ ?_) <;> first | trivial | omega | exact (hi_ok _).1 | exact (hi_ok _).2 | exact (lo_ok _).1 | exact (lo_ok _).2)) ?_
                                  refine Tree.GivesP.chk (by first | (simp only [and_self]; done) | ((repeat' with_reducible refine And.intro ?_ ?_) <;> first | trivial | omega | exact (hi_ok _).1 | exact (hi_ok _).2 | exact (lo_ok _).1 | exact (lo_ok _).2)) ?_
                                  refine Tree.GivesP.ret ?_ ?_
                                  · first | (simp only [AV.le]; done) | (simp only [AV.le, beq_iff_eq, decide_eq_true_eq]; omega) | (exfalso; omega)
                                  · simp only [AV.leL, AV.le, Mem.le, Mem.leP, Blk.le, Blk.pad, Data.le, Data.size, Cap.le, and_true, true_and, and_self, true_implies, implies_true, imp_self, List.length_nil]
                          · (try simp only [decide_eq_true_eq, decide_eq_false_iff_not, Bool.not_eq_true', Bool.not_eq_false', beq_iff_eq, beq_eq_false_iff_ne, Int.not_lt, Int.not_le, ge_iff_le, gt_iff_lt, ne_eq, Bool.false_eq_true, Bool.true_eq_false, not_true_eq_false, not_false_eq_true, Bool.and_eq_true, Bool.not_eq_eq_eq_not, Bool.not_true, Bool.not_false, bne_iff_ne, bne_eq_false_iff_eq, Int.toNat_natCast, Nat.mul_one, Nat.add_zero, Nat.zero_add, List.take_length, List.drop_zero] at h7)
                            all_goals
                              refine Tree.GivesP.ret ?_ ?_
                              · first | (simp only [AV.le]; done) | (simp only [AV.le, beq_iff_eq, decide_eq_true_eq]; omega) | (exfalso; omega)
                              · simp only [AV.leL, AV.le, Mem.le, Mem.leP, Blk.le, Blk.pad, Data.le, Data.size, Cap.le, and_true, true_and, and_self, true_implies, implies_true, imp_self, List.length_nil]
                      · (try simp only [decide_eq_true_eq, decide_eq_false_iff_not, Bool.not_eq_true', Bool.not_eq_false', beq_iff_eq, beq_eq_false_iff_ne, Int.not_lt, Int.not_le, ge_iff_le, gt_iff_lt, ne_eq, Bool.false_eq_true, Bool.true_eq_false, not_true_eq_false, not_false_eq_true, Bool.and_eq_true, Bool.not_eq_eq_eq_not, Bool.not_true, Bool.not_false, bne_iff_ne, bne_eq_false_iff_eq, Int.toNat_natCast, Nat.mul_one, Nat.add_zero, Nat.zero_add, List.take_length, List.drop_zero] at h6)
                        all_goals
                          refine Tree.GivesP.chk (by first | (simp only [and_self]; done) | ((repeat' with_reducible refine And.intro ?_ ?_) <;> first | trivial | omega | exact (hi_ok _).1 | exact (hi_ok _).2 | exact (lo_ok _).1 | exact (lo_ok _).2)) ?_
                          refine Tree.GivesP.chk (by first | (simp only [and_self]; done) | ((repeat' with_reducible refine And.intro ?_ ?_) <;> first | trivial | omega | exact (hi_ok _).1 | exact (hi_ok _).2 | exact (lo_ok _).1 | exact (lo_ok _).2)) ?_
                          refine Tree.GivesP.br (fun h7 => ?_) (fun h7 => ?_)
                          · (try simp only [decide_eq_true_eq, decide_eq_false_iff_not, Bool.not_eq_true', Bool.not_eq_false', beq_iff_eq, beq_eq_false_iff_ne, Int.not_lt, Int.not_le, ge_iff_le, gt_iff_lt, ne_eq, Bool.false_eq_true, Bool.true_eq_false, not_true_eq_false, not_false_eq_true, Bool.and_eq_true, Bool.not_eq_eq_eq_not, Bool.not_true, Bool.not_false, bne_iff_ne, bne_eq_false_iff_eq, Int.toNat_natCast, Nat.mul_one, Nat.add_zero, Nat.zero_add, List.take_length, List.drop_zero] at h7)
                            all_goals
                              refine Tree.GivesP.chk (by first | (simp only [and_self]; done) | ((repeat' with_reducible refine And.intro ?_ ?_) <;> first | trivial | omega | exact (hi_ok _).1 | exact (hi_ok _).2 | exact (lo_ok _).1 | exact (lo_ok _).2)) ?_
                              refine Tree.GivesP.chk (by first | (simp only [and_self]; done) | ((repeat' with_reducible refine And.intro ?_ ?_) <;> first | trivial | omega | exact (hi_ok _).1 | exact (hi_ok _).2 | exact (lo_ok _).1 | exact (lo_ok _).2)) ?_
                              refine Tree.GivesP.chk (by first | (simp only [and_self]; done) | ((repeat' with_reducible refine And.intro ?_ ?_) <;> first | trivial | omega | exact (hi_ok _).1 | exact (hi_ok _).2 | exact (lo_ok _).1 | exact (lo_ok _).2)) ?_
                              refine Tree.GivesP.chk (by first | (simp only [and_self]; done) | ((repeat' with_reducible refine And.intro ?_ ?_) <;> first | trivial | omega | exact (hi_ok _).1 | exact (hi_ok _).2 | exact (lo_ok _).1 | exact (lo_ok _).2)) ?_
                              refine Tree.GivesP.ret ?_ ?_
                              · first | (simp only [AV.le]; done) | (simp only [AV.le, beq_iff_eq, decide_eq_true_eq]; omega) | (exfalso; omega)
                              · simp only [AV.leL, AV.le, Mem.le, Mem.leP, Blk.le, Blk.pad, Data.le, Data.size, Cap.le, and_true, true_and, and_self, true_implies, implies_true, imp_self, List.length_nil]
                          · (try simp only [decide_eq_true_eq, decide_eq_false_iff_not, Bool.not_eq_true', Bool.not_eq_false', beq_iff_eq, beq_eq_false_iff_ne, Int.not_lt, Int.not_le, ge_iff_le, gt_iff_lt, ne_eq, Bool.false_eq_true, Bool.true_eq_false, not_true_eq_false, not_false_eq_true, Bool.and_eq_true, Bool.not_eq_eq_eq_not, Bool.not_true, Bool.not_false, bne_iff_ne, bne_eq_false_iff_eq, Int.toNat_natCast, Nat.mul_one, Nat.add_zero, Nat.zero_add, List.take_length, List.drop_zero] at h7)
                            all_goals
                              refine Tree.GivesP.ret ?_ ?_
                              · first | (simp only [AV.le]; done) | (simp only [AV.le, beq_iff_eq, decide_eq_true_eq]; omega) | (exfalso; omega)
                              · simp only [AV.leL, AV.le, Mem.le, Mem.leP, Blk.le, Blk.pad, Data.le, Data.size, Cap.le, and_true, true_and, and_self, true_implies, implies_true, imp_self, List.length_nil]
          · (try simp only [decide_eq_true_eq, decide_eq_false_iff_not, Bool.not_eq_true', Bool.not_eq_false', beq_iff_eq, beq_eq_false_iff_ne, Int.not_lt, Int.not_le, ge_iff_le, gt_iff_lt, ne_eq, Bool.false_eq_true, Bool.true_eq_false, not_true_eq_false, not_false_eq_true, Bool.and_eq_true, Bool.not_eq_eq_eq_not, Bool.not_true, Bool.not_false, bne_iff_ne, bne_eq_false_iff_eq, Int.toNat_natCast, Nat.mul_one, Nat.add_zero, Nat.zero_add, List.take_length, List.drop_zero] at h3)
            all_goals
              refine Tree.GivesP.chk (by first | (simp only [and_self]; done) | ((repeat' with_reducible refine And.intro ?_ ?_) <;> first | trivial | omega | exact (hi_ok _).1 | exact (hi_ok _).2 | exact (lo_ok _).1 | exact (lo_ok _).2)) ?_
              refine Tree.GivesP.br (fun h4 => ?_) (fun h4 => ?_)
              · (try simp only [decide_eq_true_eq, decide_eq_false_iff_not, Bool.not_eq_true', Bool.not_eq_false', beq_iff_eq, beq_eq_false_iff_ne, Int.not_lt, Int.not_le, ge_iff_le, gt_iff_lt, ne_eq, Bool.false_eq_true, Bool.true_eq_false, not_true_eq_false, not_false_eq_true, Bool.and_eq_true, Bool.not_eq_eq_eq_not, Bool.not_true, Bool.not_false, bne_iff_ne, bne_eq_false_iff_eq, Int.toNat_natCast, Nat.mul_one, Nat.add_zero, Nat.zero_add, List.take_length, List.drop_zero] at h4)
                all_goals
                  refine Tree.GivesP.ret ?_ ?_
                  · first | (simp only [AV.le]; done) | (simp only [AV.le, beq_iff_eq, decide_eq_true_eq]; omega) | (exfalso; omega)
                  · simp only [AV.leL, AV.le, Mem.le, Mem.leP, Blk.le, Blk.pad, Data.le, Data.size, Cap.le, and_true, true_and, and_self, true_implies, implies_true, imp_self, List.length_nil]
              · (try simp only [decide_eq_true_eq, decide_eq_false_iff_not, Bool.not_eq_true', Bool.not_eq_false', beq_iff_eq, beq_eq_false_iff_ne, Int.not_lt, Int.not_le, ge_iff_le, gt_iff_lt, ne_eq, Bool.false_eq_true, Bool.true_eq_false, not_true_eq_false, not_false_eq_true, Bool.and_eq_true, Bool.not_eq_eq_eq_not, Bool.not_true, Bool.not_false, bne_iff_ne, bne_eq_false_iff_eq, Int.toNat_natCast, Nat.mul_one, Nat.add_zero, Nat.zero_add, List.take_length, List.drop_zero] at h4)
                all_goals
                  refine Tree.GivesP.chk (by first | (simp only [and_self]; done) | ((repeat' with_reducible refine And.intro ?_ ?_) <;> first | trivial | omega | exact (hi_ok _).1 | exact (hi_ok _).2 | exact (lo_ok _).1 | exact (lo_ok _).2)) ?_
                  refine Tree.GivesP.br (fun h5 => ?_) (fun h5 => ?_)
                  · (try simp only [decide_eq_true_eq, decide_eq_false_iff_not, Bool.not_eq_true', Bool.not_eq_false', beq_iff_eq, beq_eq_false_iff_ne, Int.not_lt, Int.not_le, ge_iff_le, gt_iff_lt, ne_eq, Bool.false_eq_true, Bool.true_eq_false, not_true_eq_false, not_false_eq_true, Bool.and_eq_true, Bool.not_eq_eq_eq_not, Bool.not_true, Bool.not_false, bne_iff_ne, bne_eq_false_iff_eq, Int.toNat_natCast, Nat.mul_one, Nat.add_zero, Nat.zero_add, List.take_length, List.drop_zero] at h5)
                    all_goals
                      refine Tree.GivesP.br (fun h6 => ?_) (fun h6 => ?_)
                      · (try simp only [decide_eq_true_eq, decide_eq_false_iff_not, Bool.not_eq_true', Bool.not_eq_false', beq_iff_eq, beq_eq_false_iff_ne, Int.not_lt, Int.not_le, ge_iff_le, gt_iff_lt, ne_eq, Bool.false_eq_true, Bool.true_eq_false, not_true_eq_false, not_false_eq_true, Bool.and_eq_true, Bool.not_eq_eq_eq_not, Bool.not_true, Bool.not_false, bne_iff_ne, bne_eq_false_iff_eq, Int.toNat_natCast, Nat.mul_one, Nat.add_zero, Nat.zero_add, List.take_length, List.drop_zero] at h6)
                        all_goals
                          refine Tree.GivesP.ret ?_ ?_
                          · first | (simp only [AV.le]; done) | (simp only [AV.le, beq_iff_eq, decide_eq_true_eq]; omega) | (exfalso; omega)
                          · simp only [AV.leL, AV.le, Mem.le, Mem.leP, Blk.le, Blk.pad, Data.le, Data.size, Cap.le, and_true, true_and, and_self, true_implies, implies_true, imp_self, List.length_nil]
                      · (try simp only [decide_eq_true_eq, decide_eq_false_iff_not, Bool.not_eq_true', Bool.not_eq_false', beq_iff_eq, beq_eq_false_iff_ne, Int.not_lt, Int.not_le, ge_iff_le, gt_iff_lt, ne_eq, Bool.false_eq_true, Bool.true_eq_false, not_true_eq_false, not_false_eq_true, Bool.and_eq_true, Bool.not_eq_eq_eq_not, Bool.not_true, Bool.not_false, bne_iff_ne, bne_eq_false_iff_eq, Int.toNat_natCast, Nat.mul_one, Nat.add_zero, Nat.zero_add, List.take_length, List.drop_zero] at h6)
                        all_goals
                          refine Tree.GivesP.ret ?_ ?_
                          · first | (simp only [AV.le]; done) | (simp only [AV.le, beq_iff_eq, decide_eq_true_eq]; omega) | (exfalso; omega)
                          · simp only [AV.leL, AV.le, Mem.le, Mem.leP, Blk.le, Blk.pad, Data.le, Data.size, Cap.le, and_true, true_and, and_self, true_implies, implies_true, imp_self, List.length_nil]
                  · (try simp only [decide_eq_true_eq, decide_eq_false_iff_not, Bool.not_eq_true', Bool.not_eq_false', beq_iff_eq, beq_eq_false_iff_ne, Int.not_lt, Int.not_le, ge_iff_le, gt_iff_lt, ne_eq, Bool.false_eq_true, Bool.true_eq_false, not_true_eq_false, not_false_eq_true, Bool.and_eq_true, Bool.not_eq_eq_eq_not, Bool.not_true, Bool.not_false, bne_iff_ne, bne_eq_false_iff_eq, Int.toNat_natCast, Nat.mul_one, Nat.add_zero, Nat.zero_add, List.take_length, List.drop_zero] at h5)
                    all_goals
                      refine Tree.GivesP.br (fun h6 => ?_) (fun h6 => ?_)
                      · (try simp only [decide_eq_true_eq, decide_eq_false_iff_not, Bool.not_eq_true', Bool.not_eq_false', beq_iff_eq, beq_eq_false_iff_ne, Int.not_lt, Int.not_le, ge_iff_le, gt_iff_lt, ne_eq, Bool.false_eq_true, Bool.true_eq_false, not_true_eq_false, not_false_eq_true, Bool.and_eq_true, Bool.not_eq_eq_eq_not, Bool.not_true, Bool.not_false, bne_iff_ne, bne_eq_false_iff_eq, Int.toNat_natCast, Nat.mul_one, Nat.add_zero, Nat.zero_add, List.take_length, List.drop_zero] at h6)
                        all_goals
                          refine Tree.GivesP.br (fun h7 => ?_) (fun h7 => ?_)
                          · (try simp only [decide_eq_true_eq, decide_eq_false_iff_not, Bool.not_eq_true', Bool.not_eq_false', beq_iff_eq, beq_eq_false_iff_ne, Int.not_lt, Int.not_le, ge_iff_le, gt_iff_lt, ne_eq, Bool.false_eq_true, Bool.true_eq_false, not_true_eq_false, not_false_eq_true, Bool.and_eq_true, Bool.not_eq_eq_eq_not, Bool.not_true, Bool.not_false, bne_iff_ne, bne_eq_false_iff_eq, Int.toNat_natCast, Nat.mul_one, Nat.add_zero, Nat.zero_add, List.take_length, List.drop_zero] at h7)
                            all_goals
                              refine Tree.GivesP.chk (by first | (simp only [and_self]; done) | ((repeat' with_reducible refine And.intro ?_ ?_) <;> first | trivial | omega | exact (hi_ok _).1 | exact (hi_ok _).2 | exact (lo_ok _).1 | exact (lo_ok _).2)) ?_
                              refine Tree.GivesP.chk (by first | (simp only [and_self]; done) | ((repeat' with_reducible refine And.intro ?_ ?_) <;> first | trivial | omega | exact (hi_ok _).1 | exact (hi_ok _).2 | exact (lo_ok _).1 | exact (lo_ok _).2)) ?_
                              refine Tree.GivesP.chk (by first | (simp only [and_self]; done) | ((repeat' with_reducible refine And.intro ?_ ?_) <;> first | trivial | omega | exact (hi_ok _).1 | exact (hi_ok _).2 | exact (lo_ok _).1 | exact (lo_ok _).2)) ?_
                              refine Tree.GivesP.chk (by first | (simp only [and_self]; done) | ((repeat' with_reducible refine And.intro ?_ ?_) <;> first | trivial | omega | exact (hi_ok _).1 | exact (hi_ok _).2 | exact (lo_ok _).1 | exact (lo_ok _).2)) ?_
                              refine Tree.GivesP.chk (by first | (simp only [and_self]; done) | ((repeat' with_reducible refine And.intro ?_ ?_) <;> first | trivial | omega | exact (hi_ok _).1 | exact (hi_ok _).2 | exact (lo_ok _).1 | exact (lo_ok _).2)) ?_
                              refine Tree.GivesP.br (fun h8 => ?_) (fun h8 => ?_)
                              · (try simp only [decide_eq_true_eq, decide_eq_false_iff_not, Bool.not_eq_true', Bool.not_eq_false', beq_iff_eq, beq_eq_false_iff_ne, Int.not_lt, Int.not_le, ge_iff_le, gt_iff_lt, ne_eq, Bool.false_eq_true, Bool.true_eq_false, not_true_eq_false, not_false_eq_true, Bool.and_eq_true, Bool.not_eq_eq_eq_not, Bool.not_true, Bool.not_false, bne_iff_ne, bne_eq_false_iff_eq, Int.toNat_natCast, Nat.mul_one, Nat.add_zero, Nat.zero_add, List.take_length, List.drop_zero] at h8)
                                all_goals
                                  refine Tree.GivesP.ret ?_ ?_
                                  · first | (simp only [AV.le]; done) | (simp only [AV.le, beq_iff_eq, decide_eq_true_eq]; omega) | (exfalso; omega)
                                  · simp only [AV.leL, AV.le, Mem.le, Mem.leP, Blk.le, Blk.pad, Data.le, Data.size, Cap.le, and_true, true_and, and_self, true_implies, implies_true, imp_self, List.length_nil]
                              · (try simp only [decide_eq_true_eq, decide_eq_false_iff_not, Bool.not_eq_true', Bool.not_eq_false', beq_iff_eq, beq_eq_false_iff_ne, Int.not_lt, Int.not_le, ge_iff_le, gt_iff_lt, ne_eq, Bool.false_eq_true, Bool.true_eq_false, not_true_eq_false, not_false_eq_true, Bool.and_eq_true, Bool.not_eq_eq_eq_not, Bool.not_true, Bool.not_false, bne_iff_ne, bne_eq_false_iff_eq, Int.toNat_natCast, Nat.mul_one, Nat.add_zero, Nat.zero_add, List.take_length, List.drop_zero] at h8)
                                all_goals
                                  refine Tree.GivesP.chk (by first | (simp only [and_self]; done) | ((repeat' with_reducible refine And.intro ?_ ?_) <;> first | trivial | omega | exact (hi_ok _).1 | exact (hi_ok _).2 | exact (lo_ok _).1 | exact (lo_ok _).2)) ?_
                                  refine Tree.GivesP.chk (by first | (simp only [and_self]; done) | ((repeat' with_reducible refine And.intro ?_ ?_) <;> first | trivial | omega | exact (hi_ok _).1 | exact (hi_ok _).2 | exact (lo_ok _).1 | exact (lo_ok _).2)) ?_
                                  refine Tree.GivesP.ret ?_ ?_
                                  · first | (simp only [AV.le]; done) | (simp only [AV.le, beq_iff_eq, decide_eq_true_eq]; omega) | (exfalso; omega)
                                  · simp only [AV.leL, AV.le, Mem.le, Mem.leP, Blk.le, Blk.pad, Data.le, Data.size, Cap.le, and_true, true_and, and_self, true_implies, implies_true, imp_self, List.length_nil]
                          · (try simp only [decide_eq_true_eq, decide_eq_false_iff_not, Bool.not_eq_true', Bool.not_eq_false', beq_iff_eq, beq_eq_false_iff_ne, Int.not_lt, Int.not_le, ge_iff_le, gt_iff_lt, ne_eq, Bool.false_eq_true, Bool.true_eq_false, not_true_eq_false, not_false_eq_true, Bool.and_eq_true, Bool.not_eq_eq_eq_not, Bool.not_true, Bool.not_false, bne_iff_ne, bne_eq_false_iff_eq, Int.toNat_natCast, Nat.mul_one, Nat.add_zero, Nat.zero_add, List.take_length, List.drop_zero] at h7)
                            all_goals
                              refine Tree.GivesP.ret ?_ ?_
                              · first | (simp only [AV.le]; done) | (simp only [AV.le, beq_iff_eq, decide_eq_true_eq]; omega) | (exfalso; omega)
                              · simp only [AV.leL, AV.le, Mem.le, Mem.leP, Blk.le, Blk.pad, Data.le, Data.size, Cap.le, and_true, true_and, and_self, true_implies, implies_true, imp_self, List.length_nil]
                      · (try simp only [decide_eq_true_eq, decide_eq_false_iff_not, Bool.not_eq_true', Bool.not_eq_false', beq_iff_eq, beq_eq_false_iff_ne, Int.not_lt, Int.not_le, ge_iff_le, gt_iff_lt, ne_eq, Bool.false_eq_true, Bool.true_eq_false, not_true_eq_false, not_false_eq_true, Bool.and_eq_true, Bool.not_eq_eq_eq_not, Bool.not_true, Bool.not_false, bne_iff_ne, bne_eq_false_iff_eq, Int.toNat_natCast, Nat.mul_one, Nat.add_zero, Nat.zero_add, List.take_length, List.drop_zero] at h6)
                        all_goals
                          refine Tree.GivesP.chk (by first | (simp only [and_self]; done) | ((repeat' with_reducible refine And.intro ?_ ?_) <;> first | trivial | omega | exact (hi_ok _).1 | exact (hi_ok _).2 | exact (lo_ok _).1 | exact (lo_ok _).2)) ?_
                          refine Tree.GivesP.chk (by first | (simp only [and_self]; done) | ((repeat' with_reducible refine And.intro ?_ ?_) <;> first | trivial | omega | exact (hi_ok _).1 | exact (hi_ok _).2 | exact (lo_ok _).1 | exact (lo_ok _).2)) ?_
                          refine Tree.GivesP.br (fun h7 => ?_) (fun h7 => ?_)
                          · (try simp only [decide_eq_true_eq, decide_eq_false_iff_not, Bool.not_eq_true', Bool.not_eq_false', beq_iff_eq, beq_eq_false_iff_ne, Int.not_lt, Int.not_le, ge_iff_le, gt_iff_lt, ne_eq, Bool.false_eq_true, Bool.true_eq_false, not_true_eq_false, not_false_eq_true, Bool.and_eq_true, Bool.not_eq_eq_eq_not, Bool.not_true, Bool.not_false, bne_iff_ne, bne_eq_false_iff_eq, Int.toNat_natCast, Nat.mul_one, Nat.add_zero, Nat.zero_add, List.take_length, List.drop_zero] at h7)
                            all_goals
                              refine Tree.GivesP.chk (by first | (simp only [and_self]; done) | ((repeat' with_reducible refine And.intro ?_ ?_) <;> first | trivial | omega | exact (hi_ok _).1 | exact (hi_ok _).2 | exact (lo_ok _).1 | exact (lo_ok _).2)) ?_
                              refine Tree.GivesP.chk (by first | (simp only [and_self]; done) | ((repeat' with_reducible refine And.intro ?_ ?_) <;> first | trivial | omega | exact (hi_ok _).1 | exact (hi_ok _).2 | exact (lo_ok _).1 | exact (lo_ok _).2)) ?_
                              refine Tree.GivesP.chk (by first | (simp only [and_self]; done) | ((repeat' with_reducible refine And.intro ?_ ?_) <;> first | trivial | omega | exact (hi_ok _).1 | exact (hi_ok _).2 | exact (lo_ok _).1 | exact (lo_ok _).2)) ?_
                              refine Tree.GivesP.chk (by first | (simp only [and_self]; done) | ((repeat' with_reducible refine And.intro ?_ ?_) <;> first | trivial | omega | exact (hi_ok _).1 | exact (hi_ok _).2 | exact (lo_ok _).1 | exact (lo_ok _).2)) ?_
                              refine Tree.GivesP.ret ?_ ?_
                              · first | (simp only [AV.le]; done) | (simp only [AV.le, beq_iff_eq, decide_eq_true_eq]; omega) | (exfalso; omega)
                              · simp only [AV.leL, AV.le, Mem.le, Mem.leP, Blk.le, Blk.pad, Data.le, Data.size, Cap.le, and_true, true_and, and_self, true_implies, implies_true, imp_self, List.length_nil]
                          · (try simp only [decide_eq_true_eq, decide_eq_false_iff_not, Bool.not_eq_true', Bool.not_eq_false', beq_iff_eq, beq_eq_false_iff_ne, Int.not_lt, Int.not_le, ge_iff_le, gt_iff_lt, ne_eq, Bool.false_eq_true, Bool.true_eq_false, not_true_eq_false, not_false_eq_true, Bool.and_eq_true, Bool.not_eq_eq_eq_not, Bool.not_true, Bool.not_false, bne_iff_ne, bne_eq_false_iff_eq, Int.toNat_natCast, Nat.mul_one, Nat.add_zero, Nat.zero_add, List.take_length, List.drop_zero] at h7)
                            all_goals
                              refine Tree.GivesP.ret ?_ ?_
                              · first | (simp only [AV.le]; done) | (simp only [AV.le, beq_iff_eq, decide_eq_true_eq]; omega) | (exfalso; omega)
                              · simp only [AV.leL, AV.le, Mem.le, Mem.leP, Blk.le, Blk.pad, Data.le, Data.size, Cap.le, and_true, true_and, and_self, true_implies, implies_true, imp_self, List.length_nil]
      · (try simp only [decide_eq_true_eq, decide_eq_false_iff_not, Bool.not_eq_true', Bool.not_eq_false', beq_iff_eq, beq_eq_false_iff_ne, Int.not_lt, Int.not_le, ge_iff_le, gt_iff_lt, ne_eq, Bool.false_eq_true, Bool.true_eq_false, not_true_eq_false, not_false_eq_true, Bool.and_eq_true, Bool.not_eq_eq_eq_not, Bool.not_true, Bool.not_false, bne_iff_ne, bne_eq_false_iff_eq, Int.toNat_natCast, Nat.mul_one, Nat.add_zero, Nat.zero_add, List.take_length, List.drop_zero] at h2)
        all_goals
          refine Tree.GivesP.br (fun h3 => ?_) (fun h3 => ?_)
          · (try simp only [decide_eq_true_eq, decide_eq_false_iff_not, Bool.not_eq_true', Bool.not_eq_false', beq_iff_eq, beq_eq_false_iff_ne, Int.not_lt, Int.not_le, ge_iff_le, gt_iff_lt, ne_eq, Bool.false_eq_true, Bool.true_eq_false, not_true_eq_false, not_false_eq_true, Bool.and_eq_true, Bool.not_eq_eq_eq_not, Bool.not_true, Bool.not_false, bne_iff_ne, bne_eq_false_iff_eq, Int.toNat_natCast, Nat.mul_one, Nat.add_zero, Nat.zero_add, List.take_length, List.drop_zero] at h3)
            all_goals
              refine Tree.GivesP.br (fun h4 => ?_) (fun h4 => ?_)
              · (try simp only [decide_eq_true_eq, decide_eq_false_iff_not, Bool.not_eq_true', Bool.not_eq_false', beq_iff_eq, beq_eq_false_iff_ne, Int.not_lt, Int.not_le, ge_iff_le, gt_iff_lt, ne_eq, Bool.false_eq_true, Bool.true_eq_false, not_true_eq_false, not_false_eq_true, Bool.and_eq_true, Bool.not_eq_eq_eq_not, Bool.not_true, Bool.not_false, bne_iff_ne, bne_eq_false_iff_eq, Int.toNat_natCast, Nat.mul_one, Nat.add_zero, Nat.zero_add, List.take_length, List.drop_zero] at h4)
                all_goals
                  refine Tree.GivesP.chk (by first | (simp only [and_self]; done) | ((repeat' with_reducible refine And.intro ?_ ?_) <;> first | trivial | omega | exact (hi_ok _).1 | exact (hi_ok _).2 | exact (lo_ok _).1 | exact (lo_ok _).2)) ?_
                  refine Tree.GivesP.br (fun h5 => ?_) (fun h5 => ?_)
                  · (try simp only [decide_eq_true_eq, decide_eq_false_iff_not, Bool.not_eq_true', Bool.not_eq_false', beq_iff_eq, beq_eq_false_iff_ne, Int.not_lt, Int.not_le, ge_iff_le, gt_iff_lt, ne_eq, Bool.false_eq_true, Bool.true_eq_false, not_true_eq_false, not_false_eq_true, Bool.and_eq_true, Bool.not_eq_eq_eq_not, Bool.not_true, Bool.not_false, bne_iff_ne, bne_eq_false_iff_eq, Int.toNat_natCast, Nat.mul_one, Nat.add_zero, Nat.zero_add, List.take_length, List.drop_zero] at h5)
                    all_goals
                      refine Tree.GivesP.ret ?_ ?_
                      · first | (simp only [AV.le]; done) | (simp only [AV.le, beq_iff_eq, decide_eq_true_eq]; omega) | (exfalso; omega)
                      · simp only [AV.leL, AV.le, Mem.le, Mem.leP, Blk.le, Blk.pad, Data.le, Data.size, Cap.le, and_true, true_and, and_self, true_implies, implies_true, imp_self, List.length_nil]
                  · (try simp only [decide_eq_true_eq, decide_eq_false_iff_not, Bool.not_eq_true', Bool.not_eq_false', beq_iff_eq, beq_eq_false_iff_ne, Int.not_lt, Int.not_le, ge_iff_le, gt_iff_lt, ne_eq, Bool.false_eq_true, Bool.true_eq_false, not_true_eq_false, not_false_eq_true, Bool.and_eq_true, Bool.not_eq_eq_eq_not, Bool.not_true, Bool.not_false, bne_iff_ne, bne_eq_false_iff_eq, Int.toNat_natCast, Nat.mul_one, Nat.add_zero, Nat.zero_add, List.take_length, List.drop_zero] at h5)
                    all_goals
                      refine Tree.GivesP.chk (by first | (simp only [and_self]; done) | ((repeat' with_reducible refine And.intro ?_ ?_) <;> first | trivial | omega | exact (hi_ok _).1 | exact (hi_ok _).2 | exact (lo_ok _).1 | exact (lo_ok _).2)) ?_
                      refine Tree.GivesP.br (fun h6 => ?_) (fun h6 => ?_)
                      · (try simp only [decide_eq_true_eq, decide_eq_false_iff_not, Bool.not_eq_true', Bool.not_eq_false', beq_iff_eq, beq_eq_false_iff_ne, Int.not_lt, Int.not_le, ge_iff_le, gt_iff_lt, ne_eq, Bool.false_eq_true, Bool.true_eq_false, not_true_eq_false, not_false_eq_true, Bool.and_eq_true, Bool.not_eq_eq_eq_not, Bool.not_true, Bool.not_false, bne_iff_ne, bne_eq_false_iff_eq, Int.toNat_natCast, Nat.mul_one, Nat.add_zero, Nat.zero_add, List.take_length, List.drop_zero] at h6)
                        all_goals
                          refine Tree.GivesP.br (fun h7 => ?_) (fun h7 => ?_)
                          · (try simp only [decide_eq_true_eq, decide_eq_false_iff_not, Bool.not_eq_true', Bool.not_eq_false', beq_iff_eq, beq_eq_false_iff_ne, Int.not_lt, Int.not_le, ge_iff_le, gt_iff_lt, ne_eq, Bool.false_eq_true, Bool.true_eq_false, not_true_eq_false, not_false_eq_true, Bool.and_eq_true, Bool.not_eq_eq_eq_not, Bool.not_true, Bool.not_false, bne_iff_ne, bne_eq_false_iff_eq, Int.toNat_natCast, Nat.mul_one, Nat.add_zero, Nat.zero_add, List.take_length, List.drop_zero] at h7)
                            all_goals
                              refine Tree.GivesP.ret ?_ ?_
                              · first | (simp only [AV.le]; done) | (simp only [AV.le, beq_iff_eq, decide_eq_true_eq]; omega) | (exfalso; omega)
                              · simp only [AV.leL, AV.le, Mem.le, Mem.leP, Blk.le, Blk.pad, Data.le, Data.size, Cap.le, and_true, true_and, and_self, true_implies, implies_true, imp_self, List.length_nil]
                          · (try simp only [decide_eq_true_eq, decide_eq_false_iff_not, Bool.not_eq_true', Bool.not_eq_false', beq_iff_eq, beq_eq_false_iff_ne, Int.not_lt, Int.not_le, ge_iff_le, gt_iff_lt, ne_eq, Bool.false_eq_true, Bool.true_eq_false, not_true_eq_false, not_false_eq_true, Bool.and_eq_true, Bool.not_eq_eq_eq_not, Bool.not_true, Bool.not_false, bne_iff_ne, bne_eq_false_iff_eq, Int.toNat_natCast, Nat.mul_one, Nat.add_zero, Nat.zero_add, List.take_length, List.drop_zero] at h7)
                            all_goals
                              refine Tree.GivesP.ret ?_ ?_
                              · first | (simp only [AV.le]; done) | (simp only [AV.le, beq_iff_eq, decide_eq_true_eq]; omega) | (exfalso; omega)
                              · simp only [AV.leL, AV.le, Mem.le, Mem.leP, Blk.le, Blk.pad, Data.le, Data.size, Cap.le, and_true, true_and, and_self, true_implies, implies_true, imp_self, List.length_nil]
                      · (try simp only [decide_eq_true_eq, decide_eq_false_iff_not, Bool.not_eq_true', Bool.not_eq_false', beq_iff_eq, beq_eq_false_iff_ne, Int.not_lt, Int.not_le, ge_iff_le, gt_iff_lt, ne_eq, Bool.false_eq_true, Bool.true_eq_false, not_true_eq_false, not_false_eq_true, Bool.and_eq_true, Bool.not_eq_eq_eq_not, Bool.not_true, Bool.not_false, bne_iff_ne, bne_eq_false_iff_eq, Int.toNat_natCast, Nat.mul_one, Nat.add_zero, Nat.zero_add, List.take_length, List.drop_zero] at h6)
                        all_goals
                          refine Tree.GivesP.br (fun h7 => ?_) (fun h7 => ?_)
                          · (try simp only [decide_eq_true_eq, decide_eq_false_iff_not, Bool.not_eq_true', Bool.not_eq_false', beq_iff_eq, beq_eq_false_iff_ne, Int.not_lt, Int.not_le, ge_iff_le, gt_iff_lt, ne_eq, Bool.false_eq_true, Bool.true_eq_false, not_true_eq_false, not_false_eq_true, Bool.and_eq_true, Bool.not_eq_eq_eq_not, Bool.not_true, Bool.not_false, bne_iff_ne, bne_eq_false_iff_eq, Int.toNat_natCast, Nat.mul_one, Nat.add_zero, Nat.zero_add, List.take_length, List.drop_zero] at h7)
                            all_goals
                              refine Tree.GivesP.br (fun h8 => ?_) (fun h8 => ?_)
                              · (try simp only [decide_eq_true_eq, decide_eq_false_iff_not, Bool.not_eq_true', Bool.not_eq_false', beq_iff_eq, beq_eq_false_iff_ne, Int.not_lt, Int.not_le, ge_iff_le, gt_iff_lt, ne_eq, Bool.false_eq_true, Bool.true_eq_false, not_true_eq_false, not_false_eq_true, Bool.and_eq_true, Bool.not_eq_eq_eq_not, Bool.not_true, Bool.not_false, bne_iff_ne, bne_eq_false_iff_eq, Int.toNat_natCast, Nat.mul_one, Nat.add_zero, Nat.zero_add, List.take_length, List.drop_zero] at h8)
                                all_goals
                                  refine Tree.GivesP.chk (by first | (simp only [and_self]; done) | ((repeat' with_reducible refine And.intro ?_ ?_) <;> first | trivial | omega | exact (hi_ok _).1 | exact (hi_ok _).2 | exact (lo_ok _).1 | exact (lo_ok _).2)) ?_
                                  refine Tree.GivesP.chk (by first | (simp only [and_self]; done) | ((repeat' with_reducible refine And.intro ?_ ?_) <;> first | trivial | omega | exact (hi_ok _).1 | exact (hi_ok _).2 | exact (lo_ok _).1 | exact (lo_ok _).2)) ?_
                                  refine Tree.GivesP.chk (by first | (simp only [and_self]; done) | ((repeat' with_reducible refine And.intro ?_ ?_) <;> first | trivial | omega | exact (hi_ok _).1 | exact (hi_ok _).2 | exact (lo_ok _).1 | exact (lo_ok _).2)) ?_
                                  refine Tree.GivesP.chk (by first | (simp only [and_self]; done) | ((repeat' with_reducible refine And.intro ?_ ?_) <;> first | trivial | omega | exact (hi_ok _).1 | exact (hi_ok _).2 | exact (lo_ok _).1 | exact (lo_ok _).2)) ?_
                                  refine Tree.GivesP.chk (by first | (simp only [and_self]; done) | ((repeat' with_reducible refine And.intro ?_ ?_) <;> first | trivial | omega | exact (hi_ok _).1 | exact (hi_ok _).2 | exact (lo_ok _).1 | exact (lo_ok _).2)) ?_
                                  refine Tree.GivesP.br (fun h9 => ?_) (fun h9 => ?_)
                                  · (try simp only [decide_eq_true_eq, decide_eq_false_iff_not, Bool.not_eq_true', Bool.not_eq_false', beq_iff_eq, beq_eq_false_iff_ne, Int.not_lt, Int.not_le, ge_iff_le, gt_iff_lt, ne_eq, Bool.false_eq_true, Bool.true_eq_false, not_true_eq_false, not_false_eq_true, Bool.and_eq_true, Bool.not_eq_eq_eq_not, Bool.not_true, Bool.not_false, bne_iff_ne, bne_eq_false_iff_eq, Int.toNat_natCast, Nat.mul_one, Nat.add_zero, Nat.zero_add, List.take_length, List.drop_zero] at h9)
                                    all_goals
                                      refine Tree.GivesP.ret ?_ ?_
                                      · first | (simp only [AV.le]; done) | (simp only [AV.le, beq_iff_eq, decide_eq_true_eq]; omega) | (exfalso; omega)
                                      · simp only [AV.leL, AV.le, Mem.le, Mem.leP, Blk.le, Blk.pad, Data.le, Data.size, Cap.le, and_true, true_and, and_self, true_implies, implies_true, imp_self, List.length_nil]
                                  · (try simp only [decide_eq_true_eq, decide_eq_false_iff_not, Bool.not_eq_true', Bool.not_eq_false', beq_iff_eq, beq_eq_false_iff_ne, Int.not_lt, Int.not_le, ge_iff_le, gt_iff_lt, ne_eq, Bool.false_eq_true, Bool.true_eq_false, not_true_eq_false, not_false_eq_true, Bool.and_eq_true, Bool.not_eq_eq_eq_not, Bool.not_true, Bool.not_false, bne_iff_ne, bne_eq_false_iff_eq, Int.toNat_natCast, Nat.mul_one, Nat.add_zero, Nat.zero_add, List.take_length, List.drop_zero] at h9)
                                    all_goals
                                      refine Tree.GivesP.chk (by first | (simp only [and_self]; done) | ((repeat' with_reducible refine And.intro ?_ ?_) <;> first | trivial | omega | exact (hi_ok _).1 | exact (hi_ok _).2 | exact (lo_ok _).1 | exact (lo_ok _).2)) ?_
                                      refine Tree.GivesP.chk (by first | (simp only [and_self]; done) | ((repeat' with_reducible refine And.intro ?_ ?_) <;> first | trivial | omega | exact (hi_ok _).1 | exact (hi_ok _).2 | exact (lo_ok _).1 | exact (lo_ok _).2)) ?_
                                      refine Tree.GivesP.ret ?_ ?_
                                      · first | (simp only [AV.le]; done) | (simp only [AV.le, beq_iff_eq, decide_eq_true_eq]; omega) | (exfalso; omega)
                                      · simp only [AV.leL, AV.le, Mem.le, Mem.leP, Blk.le, Blk.pad, Data.le, Data.size, Cap.le, and_true, true_and, and_self, true_implies, implies_true, imp_self, List.length_nil]
                              · (try simp only [decide_eq_true_eq, decide_eq_false_iff_not, Bool.not_eq_true', Bool.not_eq_false', beq_iff_eq, beq_eq_false_iff_ne, Int.not_lt, Int.not_le, ge_iff_le, gt_iff_lt, ne_eq, Bool.false_eq_true, Bool.true_eq_false, not_true_eq_false, not_false_eq_true, Bool.and_eq_true, Bool.not_eq_eq_eq_not, Bool.not_true, Bool.not_false, bne_iff_ne, bne_eq_false_iff_eq, Int.toNat_natCast, Nat.mul_one, Nat.add_zero, Nat.zero_add, List.take_length, List.drop_zero] at h8)
                                all_goals
                                  refine Tree.GivesP.ret ?_ ?_
                                  · first | (simp only [AV.le]; done) | (simp only [AV.le, beq_iff_eq, decide_eq_true_eq]; omega) | (exfalso; omega)
                                  · simp only [AV.leL, AV.le, Mem.le, Mem.leP, Blk.le, Blk.pad, Data.le, Data.size, Cap.le, and_true, true_and, and_self, true_implies, implies_true, imp_self, List.length_nil]
                          · (try simp only [decide_eq_true_eq, decide_eq_false_iff_not, Bool.not_eq_true', Bool.not_eq_false', beq_iff_eq, beq_eq_false_iff_ne, Int.not_lt, Int.not_le, ge_iff_le, gt_iff_lt, ne_eq, Bool.false_eq_true, Bool.true_eq_false, not_true_eq_false, not_false_eq_true, Bool.and_eq_true, Bool.not_eq_eq_eq_not, Bool.not_true, Bool.not_false, bne_iff_ne, bne_eq_false_iff_eq, Int.toNat_natCast, Nat.mul_one, Nat.add_zero, Nat.zero_add, List.take_length, List.drop_zero] at h7)
                            all_goals
                              refine Tree.GivesP.chk (by first | (simp only [and_self]; done) | ((repeat' with_reducible refine And.intro ?_ ?_) <;> first | trivial | omega | exact (hi_ok _).1 | exact (hi_ok _).2 | exact (lo_ok _).1 | exact (lo_ok _).2)) ?_
                              refine Tree.GivesP.chk (by first | (simp only [and_self]; done) | ((repeat' with_reducible refine And.intro ?_ ?_) <;> first | trivial | omega | exact (hi_ok _).1 | exact (hi_ok _).2 | exact (lo_ok _).1 | exact (lo_ok _).2)) ?_
                              refine Tree.GivesP.br (fun h8 => ?_) (fun h8 => ?_)
                              · (try simp only [decide_eq_true_eq, decide_eq_false_iff_not, Bool.not_eq_true', Bool.not_eq_false', beq_iff_eq, beq_eq_false_iff_ne, Int.not_lt, Int.not_le, ge_iff_le, gt_iff_lt, ne_eq, Bool.false_eq_true, Bool.true_eq_false, not_true_eq_false, not_false_eq_true, Bool.and_eq_true, Bool.not_eq_eq_eq_not, Bool.not_true, Bool.not_false, bne_iff_ne, bne_eq_false_iff_eq, Int.toNat_natCast, Nat.mul_one, Nat.add_zero, Nat.zero_add, List.take_length, List.drop_zero] at h8)
                                all_goals
                                  refine Tree.GivesP.chk (by first | (simp only [and_self]; done) | ((repeat' with_reducible refine And.intro ?_ ?_) <;> first | trivial | omega | exact (hi_ok _).1 | exact (hi_ok _).2 | exact (lo_ok _).1 | exact (lo_ok _).2)) ?_
                                  refine Tree.GivesP.chk (by first | (simp only [and_self]; done) | ((repeat' with_reducible refine And.intro ?_ ?_) <;> first | trivial | omega | exact (hi_ok _).1 | exact (hi_ok _).2 | exact (lo_ok _).1 | exact (lo_ok _).2)) ?_
                                  refine Tree.GivesP.chk (by first | (simp only [and_self]; done) | ((repeat' with_reducible refine And.intro ?_ ?_) <;> first | trivial | omega | exact (hi_ok _).1 | exact (hi_ok _).2 | exact (lo_ok _).1 | exact (lo_ok _).2)) ?_
                                  refine Tree.GivesP.chk (by first | (simp only [and_self]; done) | ((repeat' with_reducible refine And.intro ?_ ?_) <;> first | trivial | omega | exact (hi_ok _).1 | exact (hi_ok _).2 | exact (lo_ok _).1 | exact (lo_ok _).2)) ?_
                                  refine Tree.GivesP.ret ?_ ?_
                                  · first | (simp only [AV.le]; done) | (simp only [AV.le, beq_iff_eq, decide_eq_true_eq]; omega) | (exfalso; omega)
                                  · simp only [AV.leL, AV.le, Mem.le, Mem.leP, Blk.le, Blk.pad, Data.le, Data.size, Cap.le, and_true, true_and, and_self, true_implies, implies_true, imp_self, List.length_nil]
                              · (try simp only [decide_eq_true_eq, decide_eq_false_iff_not, Bool.not_eq_true', Bool.not_eq_false', beq_iff_eq, beq_eq_false_iff_ne, Int.not_lt, Int.not_le, ge_iff_le, gt_iff_lt, ne_eq, Bool.false_eq_true, Bool.true_eq_false, not_true_eq_false, not_false_eq_true, Bool.and_eq_true, Bool.not_eq_eq_eq_not, Bool.not_true, Bool.not_false, bne_iff_ne, bne_eq_false_iff_eq, Int.toNat_natCast, Nat.mul_one, Nat.add_zero, Nat.zero_add, List.take_length, List.drop_zero] at h8)
                                all_goals
                                  refine Tree.GivesP.ret ?_ ?_
                                  · first | (simp only [AV.le]; done) | (simp only [AV.le, beq_iff_eq, decide_eq_true_eq]; omega) | (exfalso; omega)
                                  · simp only [AV.leL, AV.le, Mem.le, Mem.leP, Blk.le, Blk.pad, Data.le, Data.size, Cap.le, and_true, true_and, and_self, true_implies, implies_true, imp_self, List.length_nil]
              · (try simp only [decide_eq_true_eq, decide_eq_false_iff_not, Bool.not_eq_true', Bool.not_eq_false', beq_iff_eq, beq_eq_false_iff_ne, Int.not_lt, Int.not_le, ge_iff_le, gt_iff_lt, ne_eq, Bool.false_eq_true, Bool.true_eq_false, not_true_eq_false, not_false_eq_true, Bool.and_eq_true, Bool.not_eq_eq_eq_not, Bool.not_true, Bool.not_false, bne_iff_ne, bne_eq_false_iff_eq, Int.toNat_natCast, Nat.mul_one, Nat.add_zero, Nat.zero_add, List.take_length, List.drop_zero] at h4)
                all_goals
                  refine Tree.GivesP.chk (by first | (simp only [and_self]; done) | ((repeat' with_reducible refine And.intro ?_ ?_) <;> first | trivial | omega | exact (hi_ok _).1 | exact (hi_ok _).2 | exact (lo_ok _).1 | exact (lo_ok _).2)) ?_
                  refine Tree.GivesP.br (fun h5 => ?_) (fun h5 => ?_)
                  · (try simp only [decide_eq_true_eq, decide_eq_false_iff_not, Bool.not_eq_true', Bool.not_eq_false', beq_iff_eq, beq_eq_false_iff_ne, Int.not_lt, Int.not_le, ge_iff_le, gt_iff_lt, ne_eq, Bool.false_eq_true, Bool.true_eq_false, not_true_eq_false, not_false_eq_true, Bool.and_eq_true, Bool.not_eq_eq_eq_not, Bool.not_true, Bool.not_false, bne_iff_ne, bne_eq_false_iff_eq, Int.toNat_natCast, Nat.mul_one, Nat.add_zero, Nat.zero_add, List.take_length, List.drop_zero] at h5)
                    all_goals
                      refine Tree.GivesP.ret ?_ ?_
                      · first | (simp only [AV.le]; done) | (simp only [AV.le, beq_iff_eq, decide_eq_true_eq]; omega) | (exfalso; omega)
                      · simp only [AV.leL, AV.le, Mem.le, Mem.leP, Blk.le, Blk.pad, Data.le, Data.size, Cap.le, and_true, true_and, and_self, true_implies, implies_true, imp_self, List.length_nil]
                  · (try simp only [decide_eq_true_eq, decide_eq_false_iff_not, Bool.not_eq_true', Bool.not_eq_false', beq_iff_eq, beq_eq_false_iff_ne, Int.not_lt, Int.not_le, ge_iff_le, gt_iff_lt, ne_eq, Bool.false_eq_true, Bool.true_eq_false, not_true_eq_false, not_false_eq_true, Bool.and_eq_true, Bool.not_eq_eq_eq_not, Bool.not_true, Bool.not_false, bne_iff_ne, bne_eq_false_iff_eq, Int.toNat_natCast, Nat.mul_one, Nat.add_zero, Nat.zero_add, List.take_length, List.drop_zero] at h5)
                    all_goals
                      refine Tree.GivesP.chk (by first | (simp only [and_self]; done) | ((repeat' with_reducible refine And.intro ?_ ?_) <;> first | trivial | omega | exact (hi_ok _).1 | exact (hi_ok _).2 | exact (lo_ok _).1 | exact (lo_ok _).2)) ?_
                      refine Tree.GivesP.br (fun h6 => ?_) (fun h6 => ?_)
                      · (try simp only [decide_eq_true_eq, decide_eq_false_iff_not, Bool.not_eq_true', Bool.not_eq_false', beq_iff_eq, beq_eq_false_iff_ne, Int.not_lt, Int.not_le, ge_iff_le, gt_iff_lt, ne_eq, Bool.false_eq_true, Bool.true_eq_false, not_true_eq_false, not_false_eq_true, Bool.and_eq_true, Bool.not_eq_eq_eq_not, Bool.not_true, Bool.not_false, bne_iff_ne, bne_eq_false_iff_eq, Int.toNat_natCast, Nat.mul_one, Nat.add_zero, Nat.zero_add, List.take_length, List.drop_zero] at h6)
                        all_goals
                          refine Tree.GivesP.br (fun h7 => ?_) (fun h7 => ?_)
                          · (try simp only [decide_eq_true_eq, decide_eq_false_iff_not, Bool.not_eq_true', Bool.not_eq_false', beq_iff_eq, beq_eq_false_iff_ne, Int.not_lt, Int.not_le, ge_iff_le, gt_iff_lt, ne_eq, Bool.false_eq_true, Bool.true_eq_false, not_true_eq_false, not_false_eq_true, Bool.and_eq_true, Bool.not_eq_eq_eq_not, Bool.not_true, Bool.not_false, bne_iff_ne, bne_eq_false_iff_eq, Int.toNat_natCast, Nat.mul_one, Nat.add_zero, Nat.zero_add, List.take_length, List.drop_zero] at h7)
                            all_goals
                              refine Tree.GivesP.ret ?_ ?_
                              · first | (simp only [AV.le]; done) | (simp only [AV.le, beq_iff_eq, decide_eq_true_eq]; omega) | (exfalso; omega)
                              · simp only [AV.leL, AV.le, Mem.le, Mem.leP, Blk.le, Blk.pad, Data.le, Data.size, Cap.le, and_true, true_and, and_self, true_implies, implies_true, imp_self, List.length_nil]
                          · (try simp only [decide_eq_true_eq, decide_eq_false_iff_not, Bool.not_eq_true', Bool.not_eq_false', beq_iff_eq, beq_eq_false_iff_ne, Int.not_lt, Int.not_le, ge_iff_le, gt_iff_lt, ne_eq, Bool.false_eq_true, Bool.true_eq_false, not_true_eq_false, not_false_eq_true, Bool.and_eq_true, Bool.not_eq_eq_eq_not, Bool.not_true, Bool.not_false, bne_iff_ne, bne_eq_false_iff_eq, Int.toNat_natCast, Nat.mul_one, Nat.add_zero, Nat.zero_add, List.take_length, List.drop_zero] at h7)
                            all_goals
                              refine Tree.GivesP.ret ?_ ?_
                              · first | (simp only [AV.le]; done) | (simp only [AV.le, beq_iff_eq, decide_eq_true_eq]; omega) | (exfalso; omega)
                              · simp only [AV.leL, AV.le, Mem.le, Mem.leP, Blk.le, Blk.pad, Data.le, Data.size, Cap.le, and_true, true_and, and_self, true_implies, implies_true, imp_self, List.length_nil]
                      · (try simp only [decide_eq_true_eq, decide_eq_false_iff_not, Bool.not_eq_true', Bool.not_eq_false', beq_iff_eq, beq_eq_false_iff_ne, Int.not_lt, Int.not_le, ge_iff_le, gt_iff_lt, ne_eq, Bool.false_eq_true, Bool.true_eq_false, not_true_eq_false, not_false_eq_true, Bool.and_eq_true, Bool.not_eq_eq_eq_not, Bool.not_true, Bool.not_false, bne_iff_ne, bne_eq_false_iff_eq, Int.toNat_natCast, Nat.mul_one, Nat.add_zero, Nat.zero_add, List.take_length, List.drop_zero] at h6)
                        all_goals
                          refine Tree.GivesP.br (fun h7 => ?_) (fun h7 => ?_)
                          · (try simp only [decide_eq_true_eq, decide_eq_false_iff_not, Bool.not_eq_true', Bool.not_eq_false', beq_iff_eq, beq_eq_false_iff_ne, Int.not_lt, Int.not_le, ge_iff_le, gt_iff_lt, ne_eq, Bool.false_eq_true, Bool.true_eq_false, not_true_eq_false, not_false_eq_true, Bool.and_eq_true, Bool.not_eq_eq_eq_not, Bool.not_true, Bool.not_false, bne_iff_ne, bne_eq_false_iff_eq, Int.toNat_natCast, Nat.mul_one, Nat.add_zero, Nat.zero_add, List.take_length, List.drop_zero] at h7)
                            all_goals
                              refine Tree.GivesP.br (fun h8 => ?_) (fun h8 => ?_)
                              · (try simp only [decide_eq_true_eq, decide_eq_false_iff_not, Bool.not_eq_true', Bool.not_eq_false', beq_iff_eq, beq_eq_false_iff_ne, Int.not_lt, Int.not_le, ge_iff_le, gt_iff_lt, ne_eq, Bool.false_eq_true, Bool.true_eq_false, not_true_eq_false, not_false_eq_true, Bool.and_eq_true, Bool.not_eq_eq_eq_not, Bool.not_true, Bool.not_false, bne_iff_ne, bne_eq_false_iff_eq, Int.toNat_natCast, Nat.mul_one, Nat.add_zero, Nat.zero_add, List.take_length, List.drop_zero] at h8)
                                all_goals
                                  refine Tree.GivesP.chk (by first | (simp only [and_self]; done) | ((repeat' with_reducible refine And.intro ?_ ?_) <;> first | trivial | omega | exact (hi_ok _).1 | exact (hi_ok _).2 | exact (lo_ok _).1 | exact (lo_ok _).2)) ?_
                                  refine Tree.GivesP.chk (by first | (simp only [and_self]; done) | ((repeat' with_reducible refine And.intro ?_ ?_) <;> first | trivial | omega | exact (hi_ok _).1 | exact (hi_ok _).2 | exact (lo_ok _).1 | exact (lo_ok _).2)) ?_
                                  refine Tree.GivesP.chk (by first | (simp only [and_self]; done) | ((repeat' with_reducible refine And.intro ?_ ?_) <;> first | trivial | omega | exact (hi_ok _).1 | exact (hi_ok _).2 | exact (lo_ok _).1 | exact (lo_ok _).2)) ?_
                                  refine Tree.GivesP.chk (by first | (simp only [and_self]; done) | ((repeat' with_reducible refine And.intro ?_ ?_) <;> first | trivial | omega | exact (hi_ok _).1 | exact (hi_ok _).2 | exact (lo_ok _).1 | exact (lo_ok _).2)) ?_
                                  refine Tree.GivesP.chk (by first | (simp only [and_self]; done) | ((repeat' with_reducible refine And.intro ?_ ?_) <;> first | trivial | omega | exact (hi_ok _).1 | exact (hi_ok _).2 | exact (lo_ok _).1 | exact (lo_ok _).2)) ?_
                                  refine Tree.GivesP.br (fun h9 => ?_) (fun h9 => ?_)
                                  · (try simp only [decide_eq_true_eq, decide_eq_false_iff_not, Bool.not_eq_true', Bool.not_eq_false', beq_iff_eq, beq_eq_false_iff_ne, Int.not_lt, Int.not_le, ge_iff_le, gt_iff_lt, ne_eq, Bool.false_eq_true, Bool.true_eq_false, not_true_eq_false, not_false_eq_true, Bool.and_eq_true, Bool.not_eq_eq_eq_not, Bool.not_true, Bool.not_false, bne_iff_ne, bne_eq_false_iff_eq, Int.toNat_natCast, Nat.mul_one, Nat.add_zero, Nat.zero_add, List.take_length, List.drop_zero] at h9)
                                    all_goals
                                      refine Tree.GivesP.ret ?_ ?_
                                      · first | (simp only [AV.le]; done) | (simp only [AV.le, beq_iff_eq, decide_eq_true_eq]; omega) | (exfalso; omega)
                                      · simp only [AV.leL, AV.le, Mem.le, Mem.leP, Blk.le, Blk.pad, Data.le, Data.size, Cap.le, and_true, true_and, and_self, true_implies, implies_true, imp_self, List.length_nil]
                                  · (try simp only [decide_eq_true_eq, decide_eq_false_iff_not, Bool.not_eq_true', Bool.not_eq_false', beq_iff_eq, beq_eq_false_iff_ne, Int.not_lt, Int.not_le, ge_iff_le, gt_iff_lt, ne_eq, Bool.false_eq_true, Bool.true_eq_false, not_true_eq_false, not_false_eq_true, Bool.and_eq_true, Bool.not_eq_eq_eq_not, Bool.not_true, Bool.not_false, bne_iff_ne, bne_eq_false_iff_eq, Int.toNat_natCast, Nat.mul_one, Nat.add_zero, Nat.zero_add, List.take_length, List.drop_zero] at h9)
                                    all_goals
                                      refine Tree.GivesP.chk (by first | (simp only [and_self]; done) | ((repeat' with_reducible refine And.intro ?_ ?_) <;> first | trivial | omega | exact (hi_ok _).1 | exact (hi_ok _).2 | exact (lo_ok _).1 | exact (lo_ok _).2)) ?_
                                      refine Tree.GivesP.chk (by first | (simp only [and_self]; done) | ((repeat' with_reducible refine And.intro ?_ ?_) <;> first | trivial | omega | exact (hi_ok _).1 | exact (hi_ok _).2 | exact (lo_ok _).1 | exact (lo_ok _).2)) ?_
                                      refine Tree.GivesP.ret ?_ ?_
                                      · first | (simp only [AV.le]; done) | (simp only [AV.le, beq_iff_eq, decide_eq_true_eq]; omega) | (exfalso; omega)
                                      · simp only [AV.leL, AV.le, Mem.le, Mem.leP, Blk.le, Blk.pad, Data.le, Data.size, Cap.le, and_true, true_and, and_self, true_implies, implies_true, imp_self, List.length_nil]
                              · (try simp only [decide_eq_true_eq, decide_eq_false_iff_not, Bool.not_eq_true', Bool.not_eq_false', beq_iff_eq, beq_eq_false_iff_ne, Int.not_lt, Int.not_le, ge_iff_le, gt_iff_lt, ne_eq, Bool.false_eq_true, Bool.true_eq_false, not_true_eq_false, not_false_eq_true, Bool.and_eq_true, Bool.not_eq_eq_eq_not, Bool.not_true, Bool.not_false, bne_iff_ne, bne_eq_false_iff_eq, Int.toNat_natCast, Nat.mul_one, Nat.add_zero, Nat.zero_add, List.take_length, List.drop_zero] at h8)
                                all_goals
                                  refine Tree.GivesP.ret ?_ ?_
                                  · first | (simp only [AV.le]; done) | (simp only [AV.le, beq_iff_eq, decide_eq_true_eq]; omega) | (exfalso; omega)
                                  · simp only [AV.leL, AV.le, Mem.le, Mem.leP, Blk.le, Blk.pad, Data.le, Data.size, Cap.le, and_true, true_and, and_self, true_implies, implies_true, imp_self, List.length_nil]
                          · (try simp only [decide_eq_true_eq, decide_eq_false_iff_not, Bool.not_eq_true', Bool.not_eq_false', beq_iff_eq, beq_eq_false_iff_ne, Int.not_lt, Int.not_le, ge_iff_le, gt_iff_lt, ne_eq, Bool.false_eq_true, Bool.true_eq_false, not_true_eq_false, not_false_eq_true, Bool.and_eq_true, Bool.not_eq_eq_eq_not, Bool.not_true, Bool.not_false, bne_iff_ne, bne_eq_false_iff_eq, Int.toNat_natCast, Nat.mul_one, Nat.add_zero, Nat.zero_add, List.take_length, List.drop_zero] at h7)
                            all_goals
                              refine Tree.GivesP.chk (by first | (simp only [and_self]; done) | ((repeat' with_reducible refine And.intro ?_ ?_) <;> first | trivial | omega | exact (hi_ok _).1 | exact (hi_ok _).2 | exact (lo_ok _).1 | exact (lo_ok _).2)) ?_
                              refine Tree.GivesP.chk (by first | (simp only [and_self]; done) | ((repeat' with_reducible refine And.intro ?_ ?_) <;> first | trivial | omega | exact (hi_ok _).1 | exact (hi_ok _).2 | exact (lo_ok _).1 | exact (lo_ok _).2)) ?_
                              refine Tree.GivesP.br (fun h8 => ?_) (fun h8 => ?_)
                              · (try simp only [decide_eq_true_eq, decide_eq_false_iff_not, Bool.not_eq_true', Bool.not_eq_false', beq_iff_eq, beq_eq_false_iff_ne, Int.not_lt, Int.not_le, ge_iff_le, gt_iff_lt, ne_eq, Bool.false_eq_true, Bool.true_eq_false, not_true_eq_false, not_false_eq_true, Bool.and_eq_true, Bool.not_eq_eq_eq_not, Bool.not_true, Bool.not_false, bne_iff_ne, bne_eq_false_iff_eq, Int.toNat_natCast, Nat.mul_one, Nat.add_zero, Nat.zero_add, List.take_length, List.drop_zero] at h8)
                                all_goals
                                  refine Tree.GivesP.chk (by first | (simp only [and_self]; done) | ((repeat' with_reducible refine And.intro ?_ ?_) <;> first | trivial | omega | exact (hi_ok _).1 | exact (hi_ok _).2 | exact (lo_ok _).1 | exact (lo_ok _).2)) ?_
                                  refine Tree.GivesP.chk (by first | (simp only [and_self]; done) | ((repeat' with_reducible refine And.intro ?_ ?_) <;> first | trivial | omega | exact (hi_ok _).1 | exact (hi_ok _).2 | exact (lo_ok _).1 | exact (lo_ok _).2)) ?_
                                  refine Tree.GivesP.chk (by first | (simp only [and_self]; done) | ((repeat' with_reducible refine And.intro ?_ ?_) <;> first | trivial | omega | exact (hi_ok _).1 | exact (hi_ok _).2 | exact (lo_ok _).1 | exact (lo_ok _).2)) ?_
                                  refine Tree.GivesP.chk (by first | (simp only [and_self]; done) | ((repeat' with_reducible refine And.intro ?_ ?_) <;> first | trivial | omega | exact (hi_ok _).1 | exact (hi_ok _).2 | exact (lo_ok _).1 | exact (lo_ok _).2)) ?_
                                  refine Tree.GivesP.ret ?_ ?_
                                  · first | (simp only [AV.le]; done) | (simp only [AV.le, beq_iff_eq, decide_eq_true_eq]; omega) | (exfalso; omega)
                                  · simp only [AV.leL, AV.le, Mem.le, Mem.leP, Blk.le, Blk.pad, Data.le, Data.size, Cap.le, and_true, true_and, and_self, true_implies, implies_true, imp_self, List.length_nil]
                              · (try simp only [decide_eq_true_eq, decide_eq_false_iff_not, Bool.not_eq_true', Bool.not_eq_false', beq_iff_eq, beq_eq_false_iff_ne, Int.not_lt, Int.not_le, ge_iff_le, gt_iff_lt, ne_eq, Bool.false_eq_true, Bool.true_eq_false, not_true_eq_false, not_false_eq_true, Bool.and_eq_true, Bool.not_eq_eq_eq_not, Bool.not_true, Bool.not_false, bne_iff_ne, bne_eq_false_iff_eq, Int.toNat_natCast, Nat.mul_one, Nat.add_zero, Nat.zero_add, List.take_length, List.drop_zero] at h8)
                                all_goals
                                  refine Tree.GivesP.ret ?_ ?_
                                  · first | (simp only [AV.le]; done) | (simp only [AV.le, beq_iff_eq, decide_eq_true_eq]; omega) | (exfalso; omega)
                                  · simp only [AV.leL, AV.le, Mem.le, Mem.leP, Blk.le, Blk.pad, Data.le, Data.size, Cap.le, and_true, true_and, and_self, true_implies, implies_true, imp_self, List.length_nil]
          · (try simp only [decide_eq_true_eq, decide_eq_false_iff_not, Bool.not_eq_true', Bool.not_eq_false', beq_iff_eq, beq_eq_false_iff_ne, Int.not_lt, Int.not_le, ge_iff_le, gt_iff_lt, ne_eq, Bool.false_eq_true, Bool.true_eq_false, not_true_eq_false, not_false_eq_true, Bool.and_eq_true, Bool.not_eq_eq_eq_not, Bool.not_true, Bool.not_false, bne_iff_ne, bne_eq_false_iff_eq, Int.toNat_natCast, Nat.mul_one, Nat.add_zero, Nat.zero_add, List.take_length, List.drop_zero] at h3)
            all_goals
              refine Tree.GivesP.chk (by first | (simp only [and_self]; done) | ((repeat' with_reducible refine And.intro ?_ ?_) <;> first | trivial | omega | exact (hi_ok _).1 | exact (hi_ok _).2 | exact (lo_ok _).1 | exact (lo_ok _).2)) ?_
              refine Tree.GivesP.br (fun h4 => ?_) (fun h4 => ?_)
              · (try simp only [decide_eq_true_eq, decide_eq_false_iff_not, Bool.not_eq_true', Bool.not_eq_false', beq_iff_eq, beq_eq_false_iff_ne, Int.not_lt, Int.not_le, ge_iff_le, gt_iff_lt, ne_eq, Bool.false_eq_true, Bool.true_eq_false, not_true_eq_false, not_false_eq_true, Bool.and_eq_true, Bool.not_eq_eq_eq_not, Bool.not_true, Bool.not_false, bne_iff_ne, bne_eq_false_iff_eq, Int.toNat_natCast, Nat.mul_one, Nat.add_zero, Nat.zero_add, List.take_length, List.drop_zero] at h4)
                all_goals
                  refine Tree.GivesP.ret ?_ ?_
                  · first | (simp only [AV.le]; done) | (simp only [AV.le, beq_iff_eq, decide_eq_true_eq]; omega) | (exfalso; omega)
                  · simp only [AV.leL, AV.le, Mem.le, Mem.leP, Blk.le, Blk.pad, Data.le, Data.size, Cap.le, and_true, true_and, and_self, true_implies, implies_true, imp_self, List.length_nil]
              · (try simp only [decide_eq_true_eq, decide_eq_false_iff_not, Bool.not_eq_true', Bool.not_eq_false', beq_iff_eq, beq_eq_false_iff_ne, Int.not_lt, Int.not_le, ge_iff_le, gt_iff_lt, ne_eq, Bool.false_eq_true, Bool.true_eq_false, not_true_eq_false, not_false_eq_true, Bool.and_eq_true, Bool.not_eq_eq_eq_not, Bool.not_true, Bool.not_false, bne_iff_ne, bne_eq_false_iff_eq, Int.toNat_natCast, Nat.mul_one, Nat.add_zero, Nat.zero_add, List.take_length, List.drop_zero] at h4)
                all_goals
                  refine Tree.GivesP.chk (by first | (simp only [and_self]; done) | ((repeat' with_reducible refine And.intro ?_ ?_) <;> first | trivial | omega | exact (hi_ok _).1 | exact (hi_ok _).2 | exact (lo_ok _).1 | exact (lo_ok _).2)) ?_
                  refine Tree.GivesP.br (fun h5 => ?_) (fun h5 => ?_)
                  · (try simp only [decide_eq_true_eq, decide_eq_false_iff_not, Bool.not_eq_true', Bool.not_eq_false', beq_iff_eq, beq_eq_false_iff_ne, Int.not_lt, Int.not_le, ge_iff_le, gt_iff_lt, ne_eq, Bool.false_eq_true, Bool.true_eq_false, not_true_eq_false, not_false_eq_true, Bool.and_eq_true, Bool.not_eq_eq_eq_not, Bool.not_true, Bool.not_false, bne_iff_ne, bne_eq_false_iff_eq, Int.toNat_natCast, Nat.mul_one, Nat.add_zero, Nat.zero_add, List.take_length, List.drop_zero] at h5)
                    all_goals
                      refine Tree.GivesP.br (fun h6 => ?_) (fun h6 => ?_)
                      · (try simp only [decide_eq_true_eq, decide_eq_false_iff_not, Bool.not_eq_true', Bool.not_eq_false', beq_iff_eq, beq_eq_false_iff_ne, Int.not_lt, Int.not_le, ge_iff_le, gt_iff_lt, ne_eq, Bool.false_eq_true, Bool.true_eq_false, not_true_eq_false, not_false_eq_true, Bool.and_eq_true, Bool.not_eq_eq_eq_not, Bool.not_true, Bool.not_false, bne_iff_ne, bne_eq_false_iff_eq, Int.toNat_natCast, Nat.mul_one, Nat.add_zero, Nat.zero_add, List.take_length, List.drop_zero] at h6)
                        all_goals
                          refine Tree.GivesP.ret ?_ ?_
                          · first | (simp only [AV.le]; done) | (simp only [AV.le, beq_iff_eq, decide_eq_true_eq]; omega) | (exfalso; omega)
                          · simp only [AV.leL, AV.le, Mem.le, Mem.leP, Blk.le, Blk.pad, Data.le, Data.size, Cap.le, and_true, true_and, and_self, true_implies, implies_true, imp_self, List.length_nil]
                      · (try simp only [decide_eq_true_eq, decide_eq_false_iff_not, Bool.not_eq_true', Bool.not_eq_false', beq_iff_eq, beq_eq_false_iff_ne, Int.not_lt, Int.not_le, ge_iff_le, gt_iff_lt, ne_eq, Bool.false_eq_true, Bool.true_eq_false, not_true_eq_false, not_false_eq_true, Bool.and_eq_true, Bool.not_eq_eq_eq_not, Bool.not_true, Bool.not_false, bne_iff_ne, bne_eq_false_iff_eq, Int.toNat_natCast, Nat.mul_one, Nat.add_zero, Nat.zero_add, List.take_length, List.drop_zero] at h6)
                        all_goals
                          refine Tree.GivesP.ret ?_ ?_
                          · first | (simp only [AV.le]; done) | (simp only [AV.le, beq_iff_eq, decide_eq_true_eq]; omega) | (exfalso; omega)
                          · simp only [AV.leL, AV.le, Mem.le, Mem.leP, Blk.le, Blk.pad, Data.le, Data.size, Cap.le, and_true, true_and, and_self, true_implies, implies_true, imp_self, List.length_nil]
                  · (try simp only [decide_eq_true_eq, decide_eq_false_iff_not, Bool.not_eq_true', Bool.not_eq_false', beq_iff_eq, beq_eq_false_iff_ne, Int.not_lt, Int.not_le, ge_iff_le, gt_iff_lt, ne_eq, Bool.false_eq_true, Bool.true_eq_false, not_true_eq_false, not_false_eq_true, Bool.and_eq_true, Bool.not_eq_eq_eq_not, Bool.not_true, Bool.not_false, bne_iff_ne, bne_eq_false_iff_eq, Int.toNat_natCast, Nat.mul_one, Nat.add_zero, Nat.zero_add, List.take_length, List.drop_zero] at h5)
                    all_goals
                      refine Tree.GivesP.br (fun h6 => ?_) (fun h6 => ?_)
                      · (try simp only [decide_eq_true_eq, decide_eq_false_iff_not, Bool.not_eq_true', Bool.not_eq_false', beq_iff_eq, beq_eq_false_iff_ne, Int.not_lt, Int.not_le, ge_iff_le, gt_iff_lt, ne_eq, Bool.false_eq_true, Bool.true_eq_false, not_true_eq_false, not_false_eq_true, Bool.and_eq_true, Bool.not_eq_eq_eq_not, Bool.not_true, Bool.not_false, bne_iff_ne, bne_eq_false_iff_eq, Int.toNat_natCast, Nat.mul_one, Nat.add_zero, Nat.zero_add, List.take_length, List.drop_zero] at h6)
                        all_goals
                          refine Tree.GivesP.br (fun h7 => ?_) (fun h7 => ?_)
                          · (try simp only [decide_eq_true_eq, decide_eq_false_iff_not, Bool.not_eq_true', Bool.not_eq_false', beq_iff_eq, beq_eq_false_iff_ne, Int.not_lt, Int.not_le, ge_iff_le, gt_iff_lt, ne_eq, Bool.false_eq_true, Bool.true_eq_false, not_true_eq_false, not_false_eq_true, Bool.and_eq_true, Bool.not_eq_eq_eq_not, Bool.not_true, Bool.not_false, bne_iff_ne, bne_eq_false_iff_eq, Int.toNat_natCast, Nat.mul_one, Nat.add_zero, Nat.zero_add, List.take_length, List.drop_zero] at h7)
                            all_goals
                              refine Tree.GivesP.chk (by first | (simp only [and_self]; done) | ((repeat' with_reducible refine And.intro ?_ ?_) <;> first | trivial | omega | exact (hi_ok _).1 | exact (hi_ok _).2 | exact (lo_ok _).1 | exact (lo_ok _).2)) ?_
                              refine Tree.GivesP.chk (by first | (simp only [and_self]; done) | ((repeat' with_reducible refine And.intro ?_ ?_) <;> first | trivial | omega | exact (hi_ok _).1 | exact (hi_ok _).2 | exact (lo_ok _).1 | exact (lo_ok _).2)) ?_
                              refine Tree.GivesP.chk (by first | (simp only [and_self]; done) | ((repeat' with_reducible refine And.intro ?_ ?_) <;> first | trivial | omega | exact (hi_ok _).1 | exact (hi_ok _).2 | exact (lo_ok _).1 | exact (lo_ok _).2)) ?_
                              refine Tree.GivesP.chk (by first | (simp only [and_self]; done) | ((repeat' with_reducible refine And.intro ?_ ?_) <;> first | trivial | omega | exact (hi_ok _).1 | exact (hi_ok _).2 | exact (lo_ok _).1 | exact (lo_ok _).2)) ?_
                              refine Tree.GivesP.chk (by first | (simp only [and_self]; done) | ((repeat' with_reducible refine And.intro ?_ ?_) <;> first | trivial | omega | exact (hi_ok _).1 | exact (hi_ok _).2 | exact (lo_ok _).1 | exact (lo_ok _).2)) ?_
                              refine Tree.GivesP.br (fun h8 => ?_) (fun h8 => ?_)
                              · (try simp only [decide_eq_true_eq, decide_eq_false_iff_not, Bool.not_eq_true', Bool.not_eq_false', beq_iff_eq, beq_eq_false_iff_ne, Int.not_lt, Int.not_le, ge_iff_le, gt_iff_lt, ne_eq, Bool.false_eq_true, Bool.true_eq_false, not_true_eq_false, not_false_eq_true, Bool.and_eq_true, Bool.not_eq_eq_eq_not, Bool.not_true, Bool.not_false, bne_iff_ne, bne_eq_false_iff_eq, Int.toNat_natCast, Nat.mul_one, Nat.add_zero, Nat.zero_add, List.take_length, List.drop_zero] at h8)
                                all_goals
                                  refine Tree.GivesP.ret ?_ ?_
                                  · first | (simp only [AV.le]; done) | (simp only [AV.le, beq_iff_eq, decide_eq_true_eq]; omega) | (exfalso; omega)
                                  · simp only [AV.leL, AV.le, Mem.le, Mem.leP, Blk.le, Blk.pad, Data.le, Data.size, Cap.le, and_true, true_and, and_self, true_implies, implies_true, imp_self, List.length_nil]
                              · (try simp only [decide_eq_true_eq, decide_eq_false_iff_not, Bool.not_eq_true', Bool.not_eq_false', beq_iff_eq, beq_eq_false_iff_ne, Int.not_lt, Int.not_le, ge_iff_le, gt_iff_lt, ne_eq, Bool.false_eq_true, Bool.true_eq_false, not_true_eq_false, not_false_eq_true, Bool.and_eq_true, Bool.not_eq_eq_eq_not, Bool.not_true, Bool.not_false, bne_iff_ne, bne_eq_false_iff_eq, Int.toNat_natCast, Nat.mul_one, Nat.add_zero, Nat.zero_add, List.take_length, List.drop_zero] at h8)
                                all_goals
                                  refine Tree.GivesP.chk (by first | (simp only [and_self]; done) | ((repeat' with_reducible refine And.intro ?_ ?_) <;> first | trivial | omega | exact (hi_ok _).1 | exact (hi_ok _).2 | exact (lo_ok _).1 | exact (lo_ok _).2)) ?_
                                  refine Tree.GivesP.chk (by first | (simp only [and_self]; done) | ((repeat' with_reducible refine And.intro ?_ ?_) <;> first | trivial | omega | exact (hi_ok _).1 | exact (hi_ok _).2 | exact (lo_ok _).1 | exact (lo_ok _).2)) ?_
                                  refine Tree.GivesP.ret ?_ ?_
                                  · first | (simp only [AV.le]; done) | (simp only [AV.le, beq_iff_eq, decide_eq_true_eq]; omega) | (exfalso; omega)
                                  · simp only [AV.leL, AV.le, Mem.le, Mem.leP, Blk.le, Blk.pad, Data.le, Data.size, Cap.le, and_true, true_and, and_self, true_implies, implies_true, imp_self, List.length_nil]
                          · (try simp only [decide_eq_true_eq, decide_eq_false_iff_not, Bool.not_eq_true', Bool.not_eq_false', beq_iff_eq, beq_eq_false_iff_ne, Int.not_lt, Int.not_le, ge_iff_le, gt_iff_lt, ne_eq, Bool.false_eq_true, Bool.true_eq_false, not_true_eq_false, not_false_eq_true, Bool.and_eq_true, Bool.not_eq_eq_eq_not, Bool.not_true, Bool.not_false, bne_iff_ne, bne_eq_false_iff_eq, Int.toNat_natCast, Nat.mul_one, Nat.add_zero, Nat.zero_add, List.take_length, List.drop_zero] at h7)
                            all_goals
                              refine Tree.GivesP.ret ?_ ?_
                              · first | (simp only [AV.le]; done) | (simp only [AV.le, beq_iff_eq, decide_eq_true_eq]; omega) | (exfalso; omega)
                              · simp only [AV.leL, AV.le, Mem.le, Mem.leP, Blk.le, Blk.pad, Data.le, Data.size, Cap.le, and_true, true_and, and_self, true_implies, implies_true, imp_self, List.length_nil]
                      · (try simp only [decide_eq_true_eq, decide_eq_false_iff_not, Bool.not_eq_true', Bool.not_eq_false', beq_iff_eq, beq_eq_false_iff_ne, Int.not_lt, Int.not_le, ge_iff_le, gt_iff_lt, ne_eq, Bool.false_eq_true, Bool.true_eq_false, not_true_eq_false, not_false_eq_true, Bool.and_eq_true, Bool.not_eq_eq_eq_not, Bool.not_true, Bool.not_false, bne_iff_ne, bne_eq_false_iff_eq, Int.toNat_natCast, Nat.mul_one, Nat.add_zero, Nat.zero_add, List.take_length, List.drop_zero] at h6)
                        all_goals
                          refine Tree.GivesP.chk (by first | (simp only [and_self]; done) | ((repeat' with_reducible refine And.intro ?_ ?_) <;> first | trivial | omega | exact (hi_ok _).1 | exact (hi_ok _).2 | exact (lo_ok _).1 | exact (lo_ok _).2)) ?_
                          refine Tree.GivesP.chk (by first | (simp only [and_self]; done) | ((repeat' with_reducible refine And.intro ?_ ?_) <;> first | trivial | omega | exact (hi_ok _).1 | exact (hi_ok _).2 | exact (lo_ok _).1 | exact (lo_ok _).2)) ?_
                          refine Tree.GivesP.br (fun h7 => ?_) (fun h7 => ?_)
                          · (try simp only [decide_eq_true_eq, decide_eq_false_iff_not, Bool.not_eq_true', Bool.not_eq_false', beq_iff_eq, beq_eq_false_iff_ne, Int.not_lt, Int.not_le, ge_iff_le, gt_iff_lt, ne_eq, Bool.false_eq_true, Bool.true_eq_false, not_true_eq_false, not_false_eq_true, Bool.and_eq_true, Bool.not_eq_eq_eq_not, Bool.not_true, Bool.not_false, bne_iff_ne, bne_eq_false_iff_eq, Int.toNat_natCast, Nat.mul_one, Nat.add_zero, Nat.zero_add, List.take_length, List.drop_zero] at h7)
                            all_goals
                              refine Tree.GivesP.chk (by first | (simp only [and_self]; done) | ((repeat' with_reducible refine And.intro ?_ ?_) <;> first | trivial | omega | exact (hi_ok _).1 | exact (hi_ok _).2 | exact (lo_ok _).1 | exact (lo_ok _).2)) ?_
                              refine Tree.GivesP.chk (by first | (simp only [and_self]; done) | ((repeat' with_reducible refine And.intro ?_ ?_) <;> first | trivial | omega | exact (hi_ok _).1 | exact (hi_ok _).2 | exact (lo_ok _).1 | exact (lo_ok _).2)) ?_
                              refine Tree.GivesP.chk (by first | (simp only [and_self]; done) | ((repeat' with_reducible refine And.intro ?_ ?_) <;> first | trivial | omega | exact (hi_ok _).1 | exact (hi_ok _).2 | exact (lo_ok _).1 | exact (lo_ok _).2)) ?_
                              refine Tree.GivesP.chk (by first | (simp only [and_self]; done) | ((repeat' with_reducible refine And.intro ?_ ?_) <;> first | trivial | omega | exact (hi_ok _).1 | exact (hi_ok _).2 | exact (lo_ok _).1 | exact (lo_ok _).2)) ?_
                              refine Tree.GivesP.ret ?_ ?_
                              · first | (simp only [AV.le]; done) | (simp only [AV.le, beq_iff_eq, decide_eq_true_eq]; omega) | (exfalso; omega)
                              · simp only [AV.leL, AV.le, Mem.le, Mem.leP, Blk.le, Blk.pad, Data.le, Data.size, Cap.le, and_true, true_and, and_self, true_implies, implies_true, imp_self, List.length_nil]
                          · (try simp only [decide_eq_true_eq, decide_eq_false_iff_not, Bool.not_eq_true', Bool.not_eq_false', beq_iff_eq, beq_eq_false_iff_ne, Int.not_lt, Int.not_le, ge_iff_le, gt_iff_lt, ne_eq, Bool.false_eq_true, Bool.true_eq_false, not_true_eq_false, not_false_eq_true, Bool.and_eq_true, Bool.not_eq_eq_eq_not, Bool.not_true, Bool.not_false, bne_iff_ne, bne_eq_false_iff_eq, Int.toNat_natCast, Nat.mul_one, Nat.add_zero, Nat.zero_add, List.take_length, List.drop_zero] at h7)
                            all_goals
                              refine Tree.GivesP.ret ?_ ?_
                              · first | (simp only [AV.le]; done) | (simp only [AV.le, beq_iff_eq, decide_eq_true_eq]; omega) | (exfalso; omega)
                              · simp only [AV.leL, AV.le, Mem.le, Mem.leP, Blk.le, Blk.pad, Data.le, Data.size, Cap.le, and_true, true_and, and_self, true_implies, implies_true, imp_self, List.length_nil]
theorem sWideRaw (hall : AllOk Try.prog 0 (fun _ => none) tab15) (h : Int) (l : Int) (k : Int) (m : Int) (c : Int) (hw : -9223372036854775808 ≤ h ∧ h ≤ 9223372036854775807 ∧ -9223372036854775808 ≤ k ∧ k ≤ 9223372036854775807 ∧ -9223372036854775808 ≤ c ∧ c ≤ 9223372036854775807 ∧ 0 ≤ l ∧ l ≤ 18446744073709551615 ∧ 0 ≤ m ∧ m ≤ 18446744073709551615) : SoundAt (mkC Try.prog 0 (fun _ => none) []) 7 [.agg [.int .i64 false h, .int .u64 false l], .agg [.int .i64 false k, .int .u64 false m], .int .i64 false c] [] (.bool false true, []) := sound_ofP hall mix (tWideRaw h l k m c) (gWideRaw h l k m c hw)
end Go.Proofs.Ytldknchhgnfncaa.Rig

/- The row of the law WideRaw: whatever the input it gives true, and what came in stays. -/
namespace Go.Proofs.Ytldknchhgnfncaa.wideRaw
open Go.ChangeShapes Go.WideShapes Go.ChangeAt Go.RowKit Go.Proofs.Ytldknchhgnfncaa.Rig
open Go.ChangeMaps (open_string shut_string)
set_option linter.unusedVariables false

theorem own : ownKnob Try.prog.godebug = none := by kernel_rfl
theorem laidOut : laidOutB Try.prog = true := by kernel_rfl
theorem walk (a0_0 : Int) (a0_1 : Int) (a1_0 : Int) (a1_1 : Int) (a2 : Int) (w : World) (w0_0 : (Lit.int .i64 a0_0).wf = true) (w0_1 : (Lit.int .u64 a0_1).wf = true) (w1_0 : (Lit.int .i64 a1_0).wf = true) (w1_1 : (Lit.int .u64 a1_1).wf = true) (w2 : (Lit.int .i64 a2).wf = true) :
    Calls Try.prog 7 #[.agg #[.int .i64 a0_0, .int .u64 a0_1], .agg #[.int .i64 a1_0, .int .u64 a1_1], .int .i64 a2] w fun e w' => e = .returned (.bool true) ∧ Below w.heap.size w w' := by
  have h := sWideRaw all15 a0_0 a0_1 a1_0 a1_1 a2 ⟨(wf64 w0_0).1, (wf64 w0_0).2, (wf64 w1_0).1, (wf64 w1_0).2, (wf64 w2).1, (wf64 w2).2, (wfu64 w0_1).1, (wfu64 w0_1).2, (wfu64 w1_1).1, (wfu64 w1_1).2⟩
  refine SoundAt.top0 h (fun _ => rfl) rfl (vals := [.agg #[.int .i64 a0_0, .int .u64 a0_1], .agg #[.int .i64 a1_0, .int .u64 a1_1], .int .i64 a2]) ?_
  exact RepL.cons (by simp [RepL, Rep]) (RepL.cons (by simp [RepL, Rep]) (RepL.cons (by simp [RepL, Rep]) (RepL.nil)))
theorem flat0 : Open.flat Try.prog 40 29 = some [3, 27] := by kernel_rfl
theorem flat1 : Open.flat Try.prog 40 29 = some [3, 27] := by kernel_rfl
set_option maxRecDepth 100000 in
theorem lifted (os : Os) (started : os.Started) (H : Type) (enc : TypeId × Value → H) :
    ReturnsInHanded {} Try.checked os 7 .any (Rows.wideRawSpec.pre6 enc Try.prog Try.f7 Rows.wideRawRow.domain false) (Rows.wideRawSpec.post enc Try.prog Try.f7 false true false false) := by
  refine returnsInHanded_of_change_sized (C := Try.checked) own started (by kernel_rfl) Try.func7
    (ChangeSpec.witness6 (enc := enc) (C := Try.checked) false ⟨#[], #[.agg #[.int .i64 0, .int .u64 0], .agg #[.int .i64 0, .int .u64 0], .int .i64 0], []⟩ 8 (by kernel_rfl) (by kernel_rfl) (by kernel_rfl) (by kernel_rfl)) ?_
  intro W base args ds gs before hval0 hW hcnd hsz0 _
  have hval : ∀ (j : Nat) t v, Try.f7.params[j]? = some t → args[j]? = some v → Value.okWide Try.prog W .any base t v := hval0
  have hW' := hW
  obtain ⟨p, q, hA0, hV, rfl, hfz, hnd⟩ := hW
  have hA : DataW.TrodAll enc Try.prog W 0 (fun _ => true) true Try.f7.params.toList args.toList ds p := hA0
  rw [Try.params7] at hA hval
  obtain ⟨v0, vs0, d0, ds0, p0, z0, hargs, rfl, rfl, h0, r0⟩ := trodAll_cons hA
  obtain ⟨v1, vs1, d1, ds1, p1, z1, rfl, rfl, rfl, h1, r1⟩ := trodAll_cons r0
  obtain ⟨v2, vs2, d2, ds2, p2, z2, rfl, rfl, rfl, h2, r2⟩ := trodAll_cons r1
  obtain ⟨rfl, rfl, rfl⟩ := trodAll_nil r2
  obtain rfl : args = #[v0, v1, v2] := by cases args; simp_all
  obtain ⟨rfl, rfl⟩ := trodVars_none hV
  obtain ⟨cs0, rfl, hs0⟩ := okWide_struct Try.underlying29 (hval 0 29 v0 rfl rfl)
  have q0_0 := Open.struct_cells 40 flat0 h0
  obtain ⟨cl0⟩ := cs0
  obtain ⟨cv0_0, cr0_0, ce0_0, ⟨cm0_0, cy0_0, ct0_0⟩, q0_1⟩ := q0_0
  obtain ⟨a0_0, ca0_0, _, w0_0⟩ := DataW.trod_int Try.underlying3 ct0_0
  simp only [List.cons.injEq, and_true] at ca0_0; subst ca0_0
  obtain ⟨cv0_1, cr0_1, ce0_1, ⟨cm0_1, cy0_1, ct0_1⟩, q0_2⟩ := q0_1
  obtain ⟨a0_1, ca0_1, _, w0_1⟩ := DataW.trod_int Try.underlying27 ct0_1
  simp only [List.cons.injEq, and_true] at ca0_1; subst ca0_1
  have qe0 : cr0_1 = [] := q0_2
  subst qe0
  subst ce0_1
  simp only at ce0_0
  subst ce0_0
  have k0 := h0
  have lt0 : ∀ x ∈ p0, x.block < W.heap.size := by obtain ⟨m, hm⟩ := k0; exact DataW.trod_lt m _ _ _ hm
  obtain ⟨cs1, rfl, hs1⟩ := okWide_struct Try.underlying29 (hval 1 29 v1 rfl rfl)
  have q1_0 := Open.struct_cells 40 flat1 h1
  obtain ⟨cl1⟩ := cs1
  obtain ⟨cv1_0, cr1_0, ce1_0, ⟨cm1_0, cy1_0, ct1_0⟩, q1_1⟩ := q1_0
  obtain ⟨a1_0, ca1_0, _, w1_0⟩ := DataW.trod_int Try.underlying3 ct1_0
  simp only [List.cons.injEq, and_true] at ca1_0; subst ca1_0
  obtain ⟨cv1_1, cr1_1, ce1_1, ⟨cm1_1, cy1_1, ct1_1⟩, q1_2⟩ := q1_1
  obtain ⟨a1_1, ca1_1, _, w1_1⟩ := DataW.trod_int Try.underlying27 ct1_1
  simp only [List.cons.injEq, and_true] at ca1_1; subst ca1_1
  have qe1 : cr1_1 = [] := q1_2
  subst qe1
  subst ce1_1
  simp only at ce1_0
  subst ce1_0
  have k1 := h1
  have lt1 : ∀ x ∈ p1, x.block < W.heap.size := by obtain ⟨m, hm⟩ := k1; exact DataW.trod_lt m _ _ _ hm
  obtain ⟨a2, rfl, rfl, rfl, w2⟩ := open_int Try.underlying3 (hval 2 3 v2 rfl rfl) h2
  clear hA0 hval0 hsz0
  refine (walk a0_0 a0_1 a1_0 a1_1 a2 W w0_0 w0_1 w1_0 w1_1 w2).mono fun e W' ⟨he, bel⟩ => ?_
  subst he
  exact ⟨_, rfl, _, _, _, [], _, [], hW', trodAll_mk1 (shut_bool Try.underlying4 _), (trodAll_cons_mk (Below.trod laidOut (by kernel_rfl) (of_decide_eq_true (by kernel_rfl)) k0 bel lt0) (trodAll_cons_mk (Below.trod laidOut (by kernel_rfl) (of_decide_eq_true (by kernel_rfl)) k1 bel lt1) (trodAll_cons_mk (shut_int Try.underlying3 w2) trodAll_mk0))), rfl, bel.frame _, fun h => by cases h⟩
theorem over : Rows.wideRawRow.holds Try.pinned (OpenSpec.ofChange Rows.wideRawSpec) :=
  OpenClaim.holds_of_wide 7 Try.f7 rfl rfl rfl rfl rfl rfl rfl ⟨rfl, rfl, rfl, rfl, rfl⟩ rfl rfl rfl rfl rfl (by kernel_rfl) Try.func7 (by kernel_rfl)
    (of_decide_eq_true (by kernel_rfl)) (by unfold Func.isWrapper; first | (rw [if_pos (by decide +kernel)]; kernel_rfl) | (rw [if_neg (by decide +kernel)]; exact ⟨rfl, rfl⟩))
    (fun os started H enc _ => lifted os started H enc)
theorem proved : Rows.WideRawSaid := over
#print axioms proved
end Go.Proofs.Ytldknchhgnfncaa.wideRaw
namespace Go.Proofs.Ytldknchhgnfncaa
/-- The row, under a short name, for the claim. -/
theorem wideRaw_holds : Rows.WideRawSaid := wideRaw.proved
end Go.Proofs.Ytldknchhgnfncaa
