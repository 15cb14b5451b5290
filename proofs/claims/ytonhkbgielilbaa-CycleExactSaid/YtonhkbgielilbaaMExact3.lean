/- MExact: what is proved for the claim, part 3: functions' reckonings, and what they give. -/
import Derived.Test.YtonhkbgielilbaaMExact2
import Derived.KernelRfl
import Derived.Test.YtonhkbgielilbaaRows
import Derived.WalkKit
import Derived.ProofKit
import Derived.OpenShut
import Derived.ShutString
import Derived.ChangeOld
import Derived.Below
import Derived.SizedLaws
set_option linter.unusedVariables false
set_option linter.unusedSimpArgs false
/- LCycleExact -/
namespace Go.Proofs.Ytonhkbgielilbaa.Rig
open Go
abbrev jk : AV := .junk
set_option maxRecDepth 100000 in
theorem tLCycleExact_0 (zl : Bool) (nl : Nat) (cl : Nat → Int) (ql : Nat → Int) (x0 : Int) (x1 : Int) (x2 : Int) (x3 : Int) (x4 : Int) (x5 : Int) (x6 : Int) (x7 : Int) (x8 : Int) (x9 : Int) (x10 : Int) (x11 : Int) (x12 : Int) (x13 : Int) (x14 : Int) (x15 : Int) (x16 : Int) (x17 : Int) (x18 : Int) (x19 : Int) (x20 : Int) (x21 : Int) (x22 : Int) (t : Int) (i : Nat) : tidied TCycleExact_0 UCycleExact_0 1 (evCode (mkL Try.prog 0 (fun _ => none) [(22, eamong), (25, etotal), (23, estep), (36, esum), (41, esize), (27, echk), (43, eright), (29, eworks)] rowsCycleExact) (evCall (mkC Try.prog 0 (fun _ => none) [(22, eamong), (25, etotal), (23, estep), (36, esum), (41, esize), (27, echk), (43, eright), (29, eworks)]) 50) 10 1 fuelC (bodyAt Try.prog 10 0) (hdCycleExact_0 ⟨zl, nl, cl, ql, x0, x1, x2, x3, x4, x5, x6, x7, x8, x9, x10, x11, x12, x13, x14, x15, x16, x17, x18, x19, x20, x21, x22, t, i⟩)) =
  Tree.br (decide ((i : Int) < (nl : Int)))
    (Tree.br (decide ((i : Int) < (100 : Int)))
      (Tree.br (!zl && decide ((0 : Int) ≤ (i : Int) ∧ (i : Int) < (nl : Int)))
        (Tree.br (decide (i < nl))
          (Tree.chk ((1 : Int) ≤ (4294967297 : Int) ∧ (4294967297 : Int) ≤ (9223372036854775807 : Int))
            (Tree.br (!zl && decide ((0 : Int) ≤ (i : Int) ∧ (i : Int) < (nl : Int)))
              (Tree.br (decide (i < nl))
                (Tree.chk ((1 : Int) ≤ (60000 : Int) ∧ (60000 : Int) ≤ (9223372036854775807 : Int))
                  (Tree.chk
                    ((-9223372036854775808 : Int) ≤ IntKind.wrap IntKind.i64 (amongZ (cl i) (4294967297 : Int) - (2147483648 : Int)) ∧
                      IntKind.wrap IntKind.i64 (amongZ (cl i) (4294967297 : Int) - (2147483648 : Int)) ≤ (9223372036854775807 : Int))
                    (Tree.chk
                      ((-9223372036854775808 : Int) ≤ IntKind.wrap IntKind.i64 ((0 : Int) - IntKind.wrap IntKind.i64 (amongZ (cl i) (4294967297 : Int) - (2147483648 : Int))) ∧
                        IntKind.wrap IntKind.i64 ((0 : Int) - IntKind.wrap IntKind.i64 (amongZ (cl i) (4294967297 : Int) - (2147483648 : Int))) ≤ (9223372036854775807 : Int))
                      (Tree.br
                        (errZ (sok4 x11 x12 x13 x8 (IntKind.wrap IntKind.i64 (amongZ (cl i) (4294967297 : Int) - (2147483648 : Int))) (IntKind.wrap IntKind.i64 ((1 : Int) + amongZ (ql i) (60000 : Int)))) != (0 : Int))
                        (Tree.ret
                          (Ex.ret,
                            St.mk
                              [jk, jk, jk, jk, jk, jk, jk, jk, jk, jk, jk, jk, jk, jk, jk, jk, jk, jk, jk, jk, jk, jk, jk,
                                jk, jk, jk, jk, jk, jk, jk, jk, jk, jk, jk, jk, jk, jk, jk, jk, jk, jk, jk, jk, jk, jk, jk,
                                jk, jk, jk, jk, jk, jk, jk, jk, jk, jk, jk, jk, jk, jk, jk, jk, jk, jk, jk, jk, jk, jk, jk,
                                jk, jk, jk, jk, jk, jk, jk, jk, jk, jk, jk, jk, jk, jk, jk, jk, jk, jk, jk, jk, jk, jk, jk,
                                jk, jk, jk, jk, jk, jk, jk, jk, jk, jk, jk, jk, jk, jk, jk, jk, jk, jk, jk, jk, jk, jk, jk,
                                jk, jk]
                              [some (Blk.mk (42) false false true (Data.tab (2) nl fun i => [AV.int IntKind.i64 false (cl i), AV.int IntKind.i64 false (ql i)]))]))
                        (Tree.br
                          (errZ
                              (sok4 x11 x12 x13 x8 (IntKind.wrap IntKind.i64 ((0 : Int) - IntKind.wrap IntKind.i64 (amongZ (cl i) (4294967297 : Int) - (2147483648 : Int))))
                                (IntKind.wrap IntKind.i64 ((1 : Int) + amongZ (ql i) (60000 : Int)))) !=
                            (0 : Int))
                          (Tree.ret
                            (Ex.ret,
                              St.mk
                                [jk, jk, jk, jk, jk, jk, jk, jk, jk, jk, jk, jk, jk, jk, jk, jk, jk, jk, jk, jk, jk, jk, jk,
                                  jk, jk, jk, jk, jk, jk, jk, jk, jk, jk, jk, jk, jk, jk, jk, jk, jk, jk, jk, jk, jk, jk, jk,
                                  jk, jk, jk, jk, jk, jk, jk, jk, jk, jk, jk, jk, jk, jk, jk, jk, jk, jk, jk, jk, jk, jk, jk,
                                  jk, jk, jk, jk, jk, jk, jk, jk, jk, jk, jk, jk, jk, jk, jk, jk, jk, jk, jk, jk, jk, jk, jk,
                                  jk, jk, jk, jk, jk, jk, jk, jk, jk, jk, jk, jk, jk, jk, jk, jk, jk, jk, jk, jk, jk, jk, jk,
                                  jk, jk]
                                [some (Blk.mk (42) false false true (Data.tab (2) nl fun i => [AV.int IntKind.i64 false (cl i), AV.int IntKind.i64 false (ql i)]))]))
                          (Tree.br
                            (errZ
                                (ok4
                                  (selZ (sok4 x11 x12 x13 x8 (IntKind.wrap IntKind.i64 (amongZ (cl i) (4294967297 : Int) - (2147483648 : Int))) (IntKind.wrap IntKind.i64 ((1 : Int) + amongZ (ql i) (60000 : Int))))
                                    (min (1125899906842624000 : Int)
                                        (x11 * (1000 : Int) + x12 +
                                          sizeZ (IntKind.wrap IntKind.i64 (amongZ (cl i) (4294967297 : Int) - (2147483648 : Int))) * IntKind.wrap IntKind.i64 ((1 : Int) + amongZ (ql i) (60000 : Int))) /
                                      (1000 : Int)))
                                  (selZ (sok4 x11 x12 x13 x8 (IntKind.wrap IntKind.i64 (amongZ (cl i) (4294967297 : Int) - (2147483648 : Int))) (IntKind.wrap IntKind.i64 ((1 : Int) + amongZ (ql i) (60000 : Int))))
                                    (min (1125899906842624000 : Int)
                                        (x11 * (1000 : Int) + x12 +
                                          sizeZ (IntKind.wrap IntKind.i64 (amongZ (cl i) (4294967297 : Int) - (2147483648 : Int))) * IntKind.wrap IntKind.i64 ((1 : Int) + amongZ (ql i) (60000 : Int))) %
                                      (1000 : Int)))
                                  (selZ (sok4 x11 x12 x13 x8 (IntKind.wrap IntKind.i64 (amongZ (cl i) (4294967297 : Int) - (2147483648 : Int))) (IntKind.wrap IntKind.i64 ((1 : Int) + amongZ (ql i) (60000 : Int))))
                                    (max x13
                                      (min
                                        (min (1125899906842624000 : Int)
                                                (x11 * (1000 : Int) + x12 +
                                                  sizeZ (IntKind.wrap IntKind.i64 (amongZ (cl i) (4294967297 : Int) - (2147483648 : Int))) * IntKind.wrap IntKind.i64 ((1 : Int) + amongZ (ql i) (60000 : Int))) /
                                              (1000 : Int) /
                                            (2 : Int) /
                                          x8)
                                        (2147483647 : Int))))
                                  (selZ (sok4 x11 x12 x13 x8 (IntKind.wrap IntKind.i64 (amongZ (cl i) (4294967297 : Int) - (2147483648 : Int))) (IntKind.wrap IntKind.i64 ((1 : Int) + amongZ (ql i) (60000 : Int))))
                                    x8)) !=
                              (0 : Int))
                            (Tree.ret
                              (Ex.ret,
                                St.mk
                                  [jk, jk, jk, jk, jk, jk, jk, jk, jk, jk, jk, jk, jk, jk, jk, jk, jk, jk, jk, jk, jk, jk, jk,
                                    jk, jk, jk, jk, jk, jk, jk, jk, jk, jk, jk, jk, jk, jk, jk, jk, jk, jk, jk, jk, jk, jk, jk,
                                    jk, jk, jk, jk, jk, jk, jk, jk, jk, jk, jk, jk, jk, jk, jk, jk, jk, jk, jk, jk, jk, jk, jk,
                                    jk, jk, jk, jk, jk, jk, jk, jk, jk, jk, jk, jk, jk, jk, jk, jk, jk, jk, jk, jk, jk, jk, jk,
                                    jk, jk, jk, jk, jk, jk, jk, jk, jk, jk, jk, jk, jk, jk, jk, jk, jk, jk, jk, jk, jk, jk, jk,
                                    jk, jk]
                                  [some (Blk.mk (42) false false true (Data.tab (2) nl fun i => [AV.int IntKind.i64 false (cl i), AV.int IntKind.i64 false (ql i)]))]))
                            (Tree.br
                              (!(selZ (sok4 x11 x12 x13 x8 (IntKind.wrap IntKind.i64 (amongZ (cl i) (4294967297 : Int) - (2147483648 : Int))) (IntKind.wrap IntKind.i64 ((1 : Int) + amongZ (ql i) (60000 : Int))))
                                      x0 ==
                                    selZ
                                      (sok4 x11 x12 x13 x8 (IntKind.wrap IntKind.i64 ((0 : Int) - IntKind.wrap IntKind.i64 (amongZ (cl i) (4294967297 : Int) - (2147483648 : Int))))
                                        (IntKind.wrap IntKind.i64 ((1 : Int) + amongZ (ql i) (60000 : Int))))
                                      x0 &&
                                  (selZ (sok4 x11 x12 x13 x8 (IntKind.wrap IntKind.i64 (amongZ (cl i) (4294967297 : Int) - (2147483648 : Int))) (IntKind.wrap IntKind.i64 ((1 : Int) + amongZ (ql i) (60000 : Int))))
                                        x1 ==
                                      selZ
                                        (sok4 x11 x12 x13 x8 (IntKind.wrap IntKind.i64 ((0 : Int) - IntKind.wrap IntKind.i64 (amongZ (cl i) (4294967297 : Int) - (2147483648 : Int))))
                                          (IntKind.wrap IntKind.i64 ((1 : Int) + amongZ (ql i) (60000 : Int))))
                                        x1 &&
                                    (selZ (sok4 x11 x12 x13 x8 (IntKind.wrap IntKind.i64 (amongZ (cl i) (4294967297 : Int) - (2147483648 : Int))) (IntKind.wrap IntKind.i64 ((1 : Int) + amongZ (ql i) (60000 : Int))))
                                          x2 ==
                                        selZ
                                          (sok4 x11 x12 x13 x8 (IntKind.wrap IntKind.i64 ((0 : Int) - IntKind.wrap IntKind.i64 (amongZ (cl i) (4294967297 : Int) - (2147483648 : Int))))
                                            (IntKind.wrap IntKind.i64 ((1 : Int) + amongZ (ql i) (60000 : Int))))
                                          x2 &&
                                      (selZ (sok4 x11 x12 x13 x8 (IntKind.wrap IntKind.i64 (amongZ (cl i) (4294967297 : Int) - (2147483648 : Int))) (IntKind.wrap IntKind.i64 ((1 : Int) + amongZ (ql i) (60000 : Int))))
                                            x3 ==
                                          selZ
                                            (sok4 x11 x12 x13 x8 (IntKind.wrap IntKind.i64 ((0 : Int) - IntKind.wrap IntKind.i64 (amongZ (cl i) (4294967297 : Int) - (2147483648 : Int))))
                                              (IntKind.wrap IntKind.i64 ((1 : Int) + amongZ (ql i) (60000 : Int))))
                                            x3 &&
                                        (selZ
                                              (sok4 x11 x12 x13 x8 (IntKind.wrap IntKind.i64 (amongZ (cl i) (4294967297 : Int) - (2147483648 : Int)))
                                                (IntKind.wrap IntKind.i64 ((1 : Int) + amongZ (ql i) (60000 : Int))))
                                              x4 ==
                                            selZ
                                              (sok4 x11 x12 x13 x8 (IntKind.wrap IntKind.i64 ((0 : Int) - IntKind.wrap IntKind.i64 (amongZ (cl i) (4294967297 : Int) - (2147483648 : Int))))
                                                (IntKind.wrap IntKind.i64 ((1 : Int) + amongZ (ql i) (60000 : Int))))
                                              x4 &&
                                          (selZ
                                                (sok4 x11 x12 x13 x8 (IntKind.wrap IntKind.i64 (amongZ (cl i) (4294967297 : Int) - (2147483648 : Int)))
                                                  (IntKind.wrap IntKind.i64 ((1 : Int) + amongZ (ql i) (60000 : Int))))
                                                x5 ==
                                              selZ
                                                (sok4 x11 x12 x13 x8 (IntKind.wrap IntKind.i64 ((0 : Int) - IntKind.wrap IntKind.i64 (amongZ (cl i) (4294967297 : Int) - (2147483648 : Int))))
                                                  (IntKind.wrap IntKind.i64 ((1 : Int) + amongZ (ql i) (60000 : Int))))
                                                x5 &&
                                            (selZ
                                                  (sok4 x11 x12 x13 x8 (IntKind.wrap IntKind.i64 (amongZ (cl i) (4294967297 : Int) - (2147483648 : Int)))
                                                    (IntKind.wrap IntKind.i64 ((1 : Int) + amongZ (ql i) (60000 : Int))))
                                                  x6 ==
                                                selZ
                                                  (sok4 x11 x12 x13 x8 (IntKind.wrap IntKind.i64 ((0 : Int) - IntKind.wrap IntKind.i64 (amongZ (cl i) (4294967297 : Int) - (2147483648 : Int))))
                                                    (IntKind.wrap IntKind.i64 ((1 : Int) + amongZ (ql i) (60000 : Int))))
                                                  x6 &&
                                              (selZ
                                                    (sok4 x11 x12 x13 x8 (IntKind.wrap IntKind.i64 (amongZ (cl i) (4294967297 : Int) - (2147483648 : Int)))
                                                      (IntKind.wrap IntKind.i64 ((1 : Int) + amongZ (ql i) (60000 : Int))))
                                                    x7 ==
                                                  selZ
                                                    (sok4 x11 x12 x13 x8 (IntKind.wrap IntKind.i64 ((0 : Int) - IntKind.wrap IntKind.i64 (amongZ (cl i) (4294967297 : Int) - (2147483648 : Int))))
                                                      (IntKind.wrap IntKind.i64 ((1 : Int) + amongZ (ql i) (60000 : Int))))
                                                    x7 &&
                                                (selZ
                                                      (sok4 x11 x12 x13 x8 (IntKind.wrap IntKind.i64 (amongZ (cl i) (4294967297 : Int) - (2147483648 : Int)))
                                                        (IntKind.wrap IntKind.i64 ((1 : Int) + amongZ (ql i) (60000 : Int))))
                                                      x8 ==
                                                    selZ
                                                      (sok4 x11 x12 x13 x8 (IntKind.wrap IntKind.i64 ((0 : Int) - IntKind.wrap IntKind.i64 (amongZ (cl i) (4294967297 : Int) - (2147483648 : Int))))
                                                        (IntKind.wrap IntKind.i64 ((1 : Int) + amongZ (ql i) (60000 : Int))))
                                                      x8 &&
                                                  (selZ
                                                        (sok4 x11 x12 x13 x8 (IntKind.wrap IntKind.i64 (amongZ (cl i) (4294967297 : Int) - (2147483648 : Int)))
                                                          (IntKind.wrap IntKind.i64 ((1 : Int) + amongZ (ql i) (60000 : Int))))
                                                        x9 ==
                                                      selZ
                                                        (sok4 x11 x12 x13 x8 (IntKind.wrap IntKind.i64 ((0 : Int) - IntKind.wrap IntKind.i64 (amongZ (cl i) (4294967297 : Int) - (2147483648 : Int))))
                                                          (IntKind.wrap IntKind.i64 ((1 : Int) + amongZ (ql i) (60000 : Int))))
                                                        x9 &&
                                                    (selZ
                                                          (sok4 x11 x12 x13 x8 (IntKind.wrap IntKind.i64 (amongZ (cl i) (4294967297 : Int) - (2147483648 : Int)))
                                                            (IntKind.wrap IntKind.i64 ((1 : Int) + amongZ (ql i) (60000 : Int))))
                                                          x10 ==
                                                        selZ
                                                          (sok4 x11 x12 x13 x8 (IntKind.wrap IntKind.i64 ((0 : Int) - IntKind.wrap IntKind.i64 (amongZ (cl i) (4294967297 : Int) - (2147483648 : Int))))
                                                            (IntKind.wrap IntKind.i64 ((1 : Int) + amongZ (ql i) (60000 : Int))))
                                                          x10 &&
                                                      (selZ
                                                            (sok4 x11 x12 x13 x8 (IntKind.wrap IntKind.i64 (amongZ (cl i) (4294967297 : Int) - (2147483648 : Int)))
                                                              (IntKind.wrap IntKind.i64 ((1 : Int) + amongZ (ql i) (60000 : Int))))
                                                            (min (1125899906842624000 : Int)
                                                                (x11 * (1000 : Int) + x12 +
                                                                  sizeZ (IntKind.wrap IntKind.i64 (amongZ (cl i) (4294967297 : Int) - (2147483648 : Int))) * IntKind.wrap IntKind.i64 ((1 : Int) + amongZ (ql i) (60000 : Int))) /
                                                              (1000 : Int)) ==
                                                          selZ
                                                            (sok4 x11 x12 x13 x8 (IntKind.wrap IntKind.i64 ((0 : Int) - IntKind.wrap IntKind.i64 (amongZ (cl i) (4294967297 : Int) - (2147483648 : Int))))
                                                              (IntKind.wrap IntKind.i64 ((1 : Int) + amongZ (ql i) (60000 : Int))))
                                                            (min (1125899906842624000 : Int)
                                                                (x11 * (1000 : Int) + x12 +
                                                                  sizeZ (IntKind.wrap IntKind.i64 ((0 : Int) - IntKind.wrap IntKind.i64 (amongZ (cl i) (4294967297 : Int) - (2147483648 : Int)))) *
                                                                    IntKind.wrap IntKind.i64 ((1 : Int) + amongZ (ql i) (60000 : Int))) /
                                                              (1000 : Int)) &&
                                                        (selZ
                                                              (sok4 x11 x12 x13 x8 (IntKind.wrap IntKind.i64 (amongZ (cl i) (4294967297 : Int) - (2147483648 : Int)))
                                                                (IntKind.wrap IntKind.i64 ((1 : Int) + amongZ (ql i) (60000 : Int))))
                                                              (min (1125899906842624000 : Int)
                                                                  (x11 * (1000 : Int) + x12 +
                                                                    sizeZ (IntKind.wrap IntKind.i64 (amongZ (cl i) (4294967297 : Int) - (2147483648 : Int))) * IntKind.wrap IntKind.i64 ((1 : Int) + amongZ (ql i) (60000 : Int))) %
                                                                (1000 : Int)) ==
                                                            selZ
                                                              (sok4 x11 x12 x13 x8 (IntKind.wrap IntKind.i64 ((0 : Int) - IntKind.wrap IntKind.i64 (amongZ (cl i) (4294967297 : Int) - (2147483648 : Int))))
                                                                (IntKind.wrap IntKind.i64 ((1 : Int) + amongZ (ql i) (60000 : Int))))
                                                              (min (1125899906842624000 : Int)
                                                                  (x11 * (1000 : Int) + x12 +
                                                                    sizeZ (IntKind.wrap IntKind.i64 ((0 : Int) - IntKind.wrap IntKind.i64 (amongZ (cl i) (4294967297 : Int) - (2147483648 : Int)))) *
                                                                      IntKind.wrap IntKind.i64 ((1 : Int) + amongZ (ql i) (60000 : Int))) %
                                                                (1000 : Int)) &&
                                                          (selZ
                                                                (sok4 x11 x12 x13 x8 (IntKind.wrap IntKind.i64 (amongZ (cl i) (4294967297 : Int) - (2147483648 : Int)))
                                                                  (IntKind.wrap IntKind.i64 ((1 : Int) + amongZ (ql i) (60000 : Int))))
                                                                (max x13
                                                                  (min
                                                                    (min (1125899906842624000 : Int)
                                                                            (x11 * (1000 : Int) + x12 +
                                                                              sizeZ (IntKind.wrap IntKind.i64 (amongZ (cl i) (4294967297 : Int) - (2147483648 : Int))) *
                                                                                IntKind.wrap IntKind.i64 ((1 : Int) + amongZ (ql i) (60000 : Int))) /
                                                                          (1000 : Int) /
                                                                        (2 : Int) /
                                                                      x8)
                                                                    (2147483647 : Int))) ==
                                                              selZ
                                                                (sok4 x11 x12 x13 x8 (IntKind.wrap IntKind.i64 ((0 : Int) - IntKind.wrap IntKind.i64 (amongZ (cl i) (4294967297 : Int) - (2147483648 : Int))))
                                                                  (IntKind.wrap IntKind.i64 ((1 : Int) + amongZ (ql i) (60000 : Int))))
                                                                (max x13
                                                                  (min
                                                                    (min (1125899906842624000 : Int)
                                                                            (x11 * (1000 : Int) + x12 +
                                                                              sizeZ (IntKind.wrap IntKind.i64 ((0 : Int) - IntKind.wrap IntKind.i64 (amongZ (cl i) (4294967297 : Int) - (2147483648 : Int)))) *
                                                                                IntKind.wrap IntKind.i64 ((1 : Int) + amongZ (ql i) (60000 : Int))) /
                                                                          (1000 : Int) /
                                                                        (2 : Int) /
                                                                      x8)
                                                                    (2147483647 : Int))) &&
                                                            (selZ
                                                                  (sok4 x11 x12 x13 x8 (IntKind.wrap IntKind.i64 (amongZ (cl i) (4294967297 : Int) - (2147483648 : Int)))
                                                                    (IntKind.wrap IntKind.i64 ((1 : Int) + amongZ (ql i) (60000 : Int))))
                                                                  x14 ==
                                                                selZ
                                                                  (sok4 x11 x12 x13 x8 (IntKind.wrap IntKind.i64 ((0 : Int) - IntKind.wrap IntKind.i64 (amongZ (cl i) (4294967297 : Int) - (2147483648 : Int))))
                                                                    (IntKind.wrap IntKind.i64 ((1 : Int) + amongZ (ql i) (60000 : Int))))
                                                                  x14 &&
                                                              (selZ
                                                                      (sok4 x11 x12 x13 x8 (IntKind.wrap IntKind.i64 (amongZ (cl i) (4294967297 : Int) - (2147483648 : Int)))
                                                                        (IntKind.wrap IntKind.i64 ((1 : Int) + amongZ (ql i) (60000 : Int))))
                                                                      x15 ==
                                                                    selZ
                                                                      (sok4 x11 x12 x13 x8 (IntKind.wrap IntKind.i64 ((0 : Int) - IntKind.wrap IntKind.i64 (amongZ (cl i) (4294967297 : Int) - (2147483648 : Int))))
                                                                        (IntKind.wrap IntKind.i64 ((1 : Int) + amongZ (ql i) (60000 : Int))))
                                                                      x15 &&
                                                                  (selZ
                                                                        (sok4 x11 x12 x13 x8 (IntKind.wrap IntKind.i64 (amongZ (cl i) (4294967297 : Int) - (2147483648 : Int)))
                                                                          (IntKind.wrap IntKind.i64 ((1 : Int) + amongZ (ql i) (60000 : Int))))
                                                                        x16 ==
                                                                      selZ
                                                                        (sok4 x11 x12 x13 x8 (IntKind.wrap IntKind.i64 ((0 : Int) - IntKind.wrap IntKind.i64 (amongZ (cl i) (4294967297 : Int) - (2147483648 : Int))))
                                                                          (IntKind.wrap IntKind.i64 ((1 : Int) + amongZ (ql i) (60000 : Int))))
                                                                        x16 &&
                                                                    (selZ
                                                                          (sok4 x11 x12 x13 x8 (IntKind.wrap IntKind.i64 (amongZ (cl i) (4294967297 : Int) - (2147483648 : Int)))
                                                                            (IntKind.wrap IntKind.i64 ((1 : Int) + amongZ (ql i) (60000 : Int))))
                                                                          x17 ==
                                                                        selZ
                                                                          (sok4 x11 x12 x13 x8 (IntKind.wrap IntKind.i64 ((0 : Int) - IntKind.wrap IntKind.i64 (amongZ (cl i) (4294967297 : Int) - (2147483648 : Int))))
                                                                            (IntKind.wrap IntKind.i64 ((1 : Int) + amongZ (ql i) (60000 : Int))))
                                                                          x17 &&
                                                                      (selZ
                                                                            (sok4 x11 x12 x13 x8 (IntKind.wrap IntKind.i64 (amongZ (cl i) (4294967297 : Int) - (2147483648 : Int)))
                                                                              (IntKind.wrap IntKind.i64 ((1 : Int) + amongZ (ql i) (60000 : Int))))
                                                                            x18 ==
                                                                          selZ
                                                                            (sok4 x11 x12 x13 x8 (IntKind.wrap IntKind.i64 ((0 : Int) - IntKind.wrap IntKind.i64 (amongZ (cl i) (4294967297 : Int) - (2147483648 : Int))))
                                                                              (IntKind.wrap IntKind.i64 ((1 : Int) + amongZ (ql i) (60000 : Int))))
                                                                            x18 &&
                                                                        (selZ
                                                                              (sok4 x11 x12 x13 x8 (IntKind.wrap IntKind.i64 (amongZ (cl i) (4294967297 : Int) - (2147483648 : Int)))
                                                                                (IntKind.wrap IntKind.i64 ((1 : Int) + amongZ (ql i) (60000 : Int))))
                                                                              x19 ==
                                                                            selZ
                                                                              (sok4 x11 x12 x13 x8 (IntKind.wrap IntKind.i64 ((0 : Int) - IntKind.wrap IntKind.i64 (amongZ (cl i) (4294967297 : Int) - (2147483648 : Int))))
                                                                                (IntKind.wrap IntKind.i64 ((1 : Int) + amongZ (ql i) (60000 : Int))))
                                                                              x19 &&
                                                                          (selZ
                                                                                (sok4 x11 x12 x13 x8 (IntKind.wrap IntKind.i64 (amongZ (cl i) (4294967297 : Int) - (2147483648 : Int)))
                                                                                  (IntKind.wrap IntKind.i64 ((1 : Int) + amongZ (ql i) (60000 : Int))))
                                                                                x20 ==
                                                                              selZ
                                                                                (sok4 x11 x12 x13 x8 (IntKind.wrap IntKind.i64 ((0 : Int) - IntKind.wrap IntKind.i64 (amongZ (cl i) (4294967297 : Int) - (2147483648 : Int))))
                                                                                  (IntKind.wrap IntKind.i64 ((1 : Int) + amongZ (ql i) (60000 : Int))))
                                                                                x20 &&
                                                                            true))))) &&
                                                                (selZ
                                                                      (sok4 x11 x12 x13 x8 (IntKind.wrap IntKind.i64 (amongZ (cl i) (4294967297 : Int) - (2147483648 : Int)))
                                                                        (IntKind.wrap IntKind.i64 ((1 : Int) + amongZ (ql i) (60000 : Int))))
                                                                      x21 ==
                                                                    selZ
                                                                      (sok4 x11 x12 x13 x8 (IntKind.wrap IntKind.i64 ((0 : Int) - IntKind.wrap IntKind.i64 (amongZ (cl i) (4294967297 : Int) - (2147483648 : Int))))
                                                                        (IntKind.wrap IntKind.i64 ((1 : Int) + amongZ (ql i) (60000 : Int))))
                                                                      x21 &&
                                                                  (selZ
                                                                        (sok4 x11 x12 x13 x8 (IntKind.wrap IntKind.i64 (amongZ (cl i) (4294967297 : Int) - (2147483648 : Int)))
                                                                          (IntKind.wrap IntKind.i64 ((1 : Int) + amongZ (ql i) (60000 : Int))))
                                                                        x22 ==
                                                                      selZ
                                                                        (sok4 x11 x12 x13 x8 (IntKind.wrap IntKind.i64 ((0 : Int) - IntKind.wrap IntKind.i64 (amongZ (cl i) (4294967297 : Int) - (2147483648 : Int))))
                                                                          (IntKind.wrap IntKind.i64 ((1 : Int) + amongZ (ql i) (60000 : Int))))
                                                                        x22 &&
                                                                    true)))))))))))))))))))
                              (Tree.ret
                                (Ex.ret,
                                  St.mk
                                    [jk, jk, jk, jk, jk, jk, jk, jk, jk, jk, jk, jk, jk, jk, jk, jk, jk, jk, jk, jk, jk, jk,
                                      jk, jk, jk, jk, jk, jk, jk, jk, jk, jk, jk, jk, jk, jk, jk, jk, jk, jk, jk, jk, jk, jk,
                                      jk, jk, jk, jk, jk, jk, jk, jk, jk, jk, jk, jk, jk, jk, jk, jk, jk, jk, jk, jk, jk, jk,
                                      jk, jk, jk, jk, jk, jk, jk, jk, jk, jk, jk, jk, jk, jk, jk, jk, jk, jk, jk, jk, jk, jk,
                                      jk, jk, jk, jk, jk, jk, jk, jk, jk, jk, jk, jk, jk, jk, jk, jk, jk, jk, jk, jk, jk, jk,
                                      jk, jk, jk, jk, jk, jk, jk]
                                    [some (Blk.mk (42) false false true (Data.tab (2) nl fun i => [AV.int IntKind.i64 false (cl i), AV.int IntKind.i64 false (ql i)]))]))
                              (Tree.br
                                (selZ
                                    (ok4
                                      (selZ (sok4 x11 x12 x13 x8 (IntKind.wrap IntKind.i64 (amongZ (cl i) (4294967297 : Int) - (2147483648 : Int))) (IntKind.wrap IntKind.i64 ((1 : Int) + amongZ (ql i) (60000 : Int))))
                                        (min (1125899906842624000 : Int)
                                            (x11 * (1000 : Int) + x12 +
                                              sizeZ (IntKind.wrap IntKind.i64 (amongZ (cl i) (4294967297 : Int) - (2147483648 : Int))) * IntKind.wrap IntKind.i64 ((1 : Int) + amongZ (ql i) (60000 : Int))) /
                                          (1000 : Int)))
                                      (selZ (sok4 x11 x12 x13 x8 (IntKind.wrap IntKind.i64 (amongZ (cl i) (4294967297 : Int) - (2147483648 : Int))) (IntKind.wrap IntKind.i64 ((1 : Int) + amongZ (ql i) (60000 : Int))))
                                        (min (1125899906842624000 : Int)
                                            (x11 * (1000 : Int) + x12 +
                                              sizeZ (IntKind.wrap IntKind.i64 (amongZ (cl i) (4294967297 : Int) - (2147483648 : Int))) * IntKind.wrap IntKind.i64 ((1 : Int) + amongZ (ql i) (60000 : Int))) %
                                          (1000 : Int)))
                                      (selZ (sok4 x11 x12 x13 x8 (IntKind.wrap IntKind.i64 (amongZ (cl i) (4294967297 : Int) - (2147483648 : Int))) (IntKind.wrap IntKind.i64 ((1 : Int) + amongZ (ql i) (60000 : Int))))
                                        (max x13
                                          (min
                                            (min (1125899906842624000 : Int)
                                                    (x11 * (1000 : Int) + x12 +
                                                      sizeZ (IntKind.wrap IntKind.i64 (amongZ (cl i) (4294967297 : Int) - (2147483648 : Int))) * IntKind.wrap IntKind.i64 ((1 : Int) + amongZ (ql i) (60000 : Int))) /
                                                  (1000 : Int) /
                                                (2 : Int) /
                                              x8)
                                            (2147483647 : Int))))
                                      (selZ (sok4 x11 x12 x13 x8 (IntKind.wrap IntKind.i64 (amongZ (cl i) (4294967297 : Int) - (2147483648 : Int))) (IntKind.wrap IntKind.i64 ((1 : Int) + amongZ (ql i) (60000 : Int))))
                                        x8))
                                    (selZ (sok4 x11 x12 x13 x8 (IntKind.wrap IntKind.i64 (amongZ (cl i) (4294967297 : Int) - (2147483648 : Int))) (IntKind.wrap IntKind.i64 ((1 : Int) + amongZ (ql i) (60000 : Int))))
                                          (min (1125899906842624000 : Int)
                                              (x11 * (1000 : Int) + x12 +
                                                sizeZ (IntKind.wrap IntKind.i64 (amongZ (cl i) (4294967297 : Int) - (2147483648 : Int))) * IntKind.wrap IntKind.i64 ((1 : Int) + amongZ (ql i) (60000 : Int))) /
                                            (1000 : Int)) *
                                        (1000 : Int) +
                                      selZ (sok4 x11 x12 x13 x8 (IntKind.wrap IntKind.i64 (amongZ (cl i) (4294967297 : Int) - (2147483648 : Int))) (IntKind.wrap IntKind.i64 ((1 : Int) + amongZ (ql i) (60000 : Int))))
                                        (min (1125899906842624000 : Int)
                                            (x11 * (1000 : Int) + x12 +
                                              sizeZ (IntKind.wrap IntKind.i64 (amongZ (cl i) (4294967297 : Int) - (2147483648 : Int))) * IntKind.wrap IntKind.i64 ((1 : Int) + amongZ (ql i) (60000 : Int))) %
                                          (1000 : Int))) !=
                                  if
                                      IntKind.wrap IntKind.i64
                                          (t +
                                            IntKind.wrap IntKind.i64
                                              ((if
                                                    IntKind.wrap IntKind.i64 ((0 : Int) - IntKind.wrap IntKind.i64 (amongZ (cl i) (4294967297 : Int) - (2147483648 : Int))) >
                                                      IntKind.wrap IntKind.i64 (amongZ (cl i) (4294967297 : Int) - (2147483648 : Int)) then
                                                  IntKind.wrap IntKind.i64 ((0 : Int) - IntKind.wrap IntKind.i64 (amongZ (cl i) (4294967297 : Int) - (2147483648 : Int)))
                                                else IntKind.wrap IntKind.i64 (amongZ (cl i) (4294967297 : Int) - (2147483648 : Int))) *
                                                IntKind.wrap IntKind.i64 ((1 : Int) + amongZ (ql i) (60000 : Int)))) <
                                        (1125899906842624000 : Int) then
                                    IntKind.wrap IntKind.i64
                                      (t +
                                        IntKind.wrap IntKind.i64
                                          ((if
                                                IntKind.wrap IntKind.i64 ((0 : Int) - IntKind.wrap IntKind.i64 (amongZ (cl i) (4294967297 : Int) - (2147483648 : Int))) >
                                                  IntKind.wrap IntKind.i64 (amongZ (cl i) (4294967297 : Int) - (2147483648 : Int)) then
                                              IntKind.wrap IntKind.i64 ((0 : Int) - IntKind.wrap IntKind.i64 (amongZ (cl i) (4294967297 : Int) - (2147483648 : Int)))
                                            else IntKind.wrap IntKind.i64 (amongZ (cl i) (4294967297 : Int) - (2147483648 : Int))) *
                                            IntKind.wrap IntKind.i64 ((1 : Int) + amongZ (ql i) (60000 : Int))))
                                  else (1125899906842624000 : Int))
                                (Tree.ret
                                  (Ex.ret,
                                    St.mk
                                      [jk, jk, jk, jk, jk, jk, jk, jk, jk, jk, jk, jk, jk, jk, jk, jk, jk, jk, jk, jk, jk, jk,
                                        jk, jk, jk, jk, jk, jk, jk, jk, jk, jk, jk, jk, jk, jk, jk, jk, jk, jk, jk, jk, jk, jk,
                                        jk, jk, jk, jk, jk, jk, jk, jk, jk, jk, jk, jk, jk, jk, jk, jk, jk, jk, jk, jk, jk, jk,
                                        jk, jk, jk, jk, jk, jk, jk, jk, jk, jk, jk, jk, jk, jk, jk, jk, jk, jk, jk, jk, jk, jk,
                                        jk, jk, jk, jk, jk, jk, jk, jk, jk, jk, jk, jk, jk, jk, jk, jk, jk, jk, jk, jk, jk, jk,
                                        jk, jk, jk, jk, jk, jk, jk]
                                      [some (Blk.mk (42) false false true (Data.tab (2) nl fun i => [AV.int IntKind.i64 false (cl i), AV.int IntKind.i64 false (ql i)]))]))
                                (Tree.br
                                  (decide
                                    (selZ (sok4 x11 x12 x13 x8 (IntKind.wrap IntKind.i64 (amongZ (cl i) (4294967297 : Int) - (2147483648 : Int))) (IntKind.wrap IntKind.i64 ((1 : Int) + amongZ (ql i) (60000 : Int))))
                                        (max x13
                                          (min
                                            (min (1125899906842624000 : Int)
                                                    (x11 * (1000 : Int) + x12 +
                                                      sizeZ (IntKind.wrap IntKind.i64 (amongZ (cl i) (4294967297 : Int) - (2147483648 : Int))) * IntKind.wrap IntKind.i64 ((1 : Int) + amongZ (ql i) (60000 : Int))) /
                                                  (1000 : Int) /
                                                (2 : Int) /
                                              x8)
                                            (2147483647 : Int))) <
                                      x13))
                                  (Tree.ret
                                    (Ex.ret,
                                      St.mk
                                        [jk, jk, jk, jk, jk, jk, jk, jk, jk, jk, jk, jk, jk, jk, jk, jk, jk, jk, jk, jk, jk, jk,
                                          jk, jk, jk, jk, jk, jk, jk, jk, jk, jk, jk, jk, jk, jk, jk, jk, jk, jk, jk, jk, jk, jk,
                                          jk, jk, jk, jk, jk, jk, jk, jk, jk, jk, jk, jk, jk, jk, jk, jk, jk, jk, jk, jk, jk, jk,
                                          jk, jk, jk, jk, jk, jk, jk, jk, jk, jk, jk, jk, jk, jk, jk, jk, jk, jk, jk, jk, jk, jk,
                                          jk, jk, jk, jk, jk, jk, jk, jk, jk, jk, jk, jk, jk, jk, jk, jk, jk, jk, jk, jk, jk, jk,
                                          jk, jk, jk, jk, jk, jk, jk]
                                        [some (Blk.mk (42) false false true (Data.tab (2) nl fun i => [AV.int IntKind.i64 false (cl i), AV.int IntKind.i64 false (ql i)]))]))
                                  (Tree.ret
                                    (Ex.norm,
                                      St.mk
                                        [jk, AV.sl zl (Ref.mk (0) (0) (0) (0)) false nl Cap.any, AV.ptr (Ref.mk (1) (0) (0) (0)), jk, jk,
                                          AV.int IntKind.i64 false
                                            (selZ
                                              (ok4
                                                (selZ
                                                  (sok4 x11 x12 x13 x8 (IntKind.wrap IntKind.i64 (amongZ (cl i) (4294967297 : Int) - (2147483648 : Int)))
                                                    (IntKind.wrap IntKind.i64 ((1 : Int) + amongZ (ql i) (60000 : Int))))
                                                  (min (1125899906842624000 : Int)
                                                      (x11 * (1000 : Int) + x12 +
                                                        sizeZ (IntKind.wrap IntKind.i64 (amongZ (cl i) (4294967297 : Int) - (2147483648 : Int))) * IntKind.wrap IntKind.i64 ((1 : Int) + amongZ (ql i) (60000 : Int))) /
                                                    (1000 : Int)))
                                                (selZ
                                                  (sok4 x11 x12 x13 x8 (IntKind.wrap IntKind.i64 (amongZ (cl i) (4294967297 : Int) - (2147483648 : Int)))
                                                    (IntKind.wrap IntKind.i64 ((1 : Int) + amongZ (ql i) (60000 : Int))))
                                                  (min (1125899906842624000 : Int)
                                                      (x11 * (1000 : Int) + x12 +
                                                        sizeZ (IntKind.wrap IntKind.i64 (amongZ (cl i) (4294967297 : Int) - (2147483648 : Int))) * IntKind.wrap IntKind.i64 ((1 : Int) + amongZ (ql i) (60000 : Int))) %
                                                    (1000 : Int)))
                                                (selZ
                                                  (sok4 x11 x12 x13 x8 (IntKind.wrap IntKind.i64 (amongZ (cl i) (4294967297 : Int) - (2147483648 : Int)))
                                                    (IntKind.wrap IntKind.i64 ((1 : Int) + amongZ (ql i) (60000 : Int))))
                                                  (max x13
                                                    (min
                                                      (min (1125899906842624000 : Int)
                                                              (x11 * (1000 : Int) + x12 +
                                                                sizeZ (IntKind.wrap IntKind.i64 (amongZ (cl i) (4294967297 : Int) - (2147483648 : Int))) * IntKind.wrap IntKind.i64 ((1 : Int) + amongZ (ql i) (60000 : Int))) /
                                                            (1000 : Int) /
                                                          (2 : Int) /
                                                        x8)
                                                      (2147483647 : Int))))
                                                (selZ
                                                  (sok4 x11 x12 x13 x8 (IntKind.wrap IntKind.i64 (amongZ (cl i) (4294967297 : Int) - (2147483648 : Int)))
                                                    (IntKind.wrap IntKind.i64 ((1 : Int) + amongZ (ql i) (60000 : Int))))
                                                  x8))
                                              (selZ
                                                    (sok4 x11 x12 x13 x8 (IntKind.wrap IntKind.i64 (amongZ (cl i) (4294967297 : Int) - (2147483648 : Int)))
                                                      (IntKind.wrap IntKind.i64 ((1 : Int) + amongZ (ql i) (60000 : Int))))
                                                    (min (1125899906842624000 : Int)
                                                        (x11 * (1000 : Int) + x12 +
                                                          sizeZ (IntKind.wrap IntKind.i64 (amongZ (cl i) (4294967297 : Int) - (2147483648 : Int))) * IntKind.wrap IntKind.i64 ((1 : Int) + amongZ (ql i) (60000 : Int))) /
                                                      (1000 : Int)) *
                                                  (1000 : Int) +
                                                selZ
                                                  (sok4 x11 x12 x13 x8 (IntKind.wrap IntKind.i64 (amongZ (cl i) (4294967297 : Int) - (2147483648 : Int)))
                                                    (IntKind.wrap IntKind.i64 ((1 : Int) + amongZ (ql i) (60000 : Int))))
                                                  (min (1125899906842624000 : Int)
                                                      (x11 * (1000 : Int) + x12 +
                                                        sizeZ (IntKind.wrap IntKind.i64 (amongZ (cl i) (4294967297 : Int) - (2147483648 : Int))) * IntKind.wrap IntKind.i64 ((1 : Int) + amongZ (ql i) (60000 : Int))) %
                                                    (1000 : Int)))),
                                          jk, AV.int IntKind.i64 false (IntKind.wrap IntKind.i64 ((i : Int) + (1 : Int))), jk, jk, jk, jk, jk, jk, jk, jk, jk, jk, jk, jk, jk,
                                          jk, jk, jk, jk, jk, jk, jk, jk, jk, jk, jk, jk, jk, jk, jk, jk, jk, jk, jk, jk, jk, jk,
                                          jk, jk, jk, jk, jk, jk, jk, jk, jk, jk, jk, jk, jk, jk, jk, jk, jk, jk, jk, jk, jk, jk,
                                          jk, jk, jk, jk, jk, jk, jk, jk, jk, jk, jk, jk, jk, jk, jk, jk, jk, jk, jk, jk, jk, jk,
                                          jk, jk, jk, jk, jk, jk, jk, jk, jk, jk, jk, jk, jk, jk, jk, jk, jk, jk, jk, jk, jk, jk,
                                          jk, jk, jk, jk, jk, jk, jk, jk]
                                        [some (Blk.mk (42) false false true (Data.tab (2) nl fun i => [AV.int IntKind.i64 false (cl i), AV.int IntKind.i64 false (ql i)])),
                                          some
                                            (Blk.mk (40) true false false
                                              (Data.cells
                                                [AV.int IntKind.i64 false
                                                    (selZ
                                                      (sok4 x11 x12 x13 x8 (IntKind.wrap IntKind.i64 (amongZ (cl i) (4294967297 : Int) - (2147483648 : Int)))
                                                        (IntKind.wrap IntKind.i64 ((1 : Int) + amongZ (ql i) (60000 : Int))))
                                                      x0),
                                                  AV.int IntKind.i64 false
                                                    (selZ
                                                      (sok4 x11 x12 x13 x8 (IntKind.wrap IntKind.i64 (amongZ (cl i) (4294967297 : Int) - (2147483648 : Int)))
                                                        (IntKind.wrap IntKind.i64 ((1 : Int) + amongZ (ql i) (60000 : Int))))
                                                      x1),
                                                  AV.int IntKind.i64 false
                                                    (selZ
                                                      (sok4 x11 x12 x13 x8 (IntKind.wrap IntKind.i64 (amongZ (cl i) (4294967297 : Int) - (2147483648 : Int)))
                                                        (IntKind.wrap IntKind.i64 ((1 : Int) + amongZ (ql i) (60000 : Int))))
                                                      x2),
                                                  AV.int IntKind.i64 false
                                                    (selZ
                                                      (sok4 x11 x12 x13 x8 (IntKind.wrap IntKind.i64 (amongZ (cl i) (4294967297 : Int) - (2147483648 : Int)))
                                                        (IntKind.wrap IntKind.i64 ((1 : Int) + amongZ (ql i) (60000 : Int))))
                                                      x3),
                                                  AV.int IntKind.i64 false
                                                    (selZ
                                                      (sok4 x11 x12 x13 x8 (IntKind.wrap IntKind.i64 (amongZ (cl i) (4294967297 : Int) - (2147483648 : Int)))
                                                        (IntKind.wrap IntKind.i64 ((1 : Int) + amongZ (ql i) (60000 : Int))))
                                                      x4),
                                                  AV.int IntKind.i64 false
                                                    (selZ
                                                      (sok4 x11 x12 x13 x8 (IntKind.wrap IntKind.i64 (amongZ (cl i) (4294967297 : Int) - (2147483648 : Int)))
                                                        (IntKind.wrap IntKind.i64 ((1 : Int) + amongZ (ql i) (60000 : Int))))
                                                      x5),
                                                  AV.int IntKind.i64 false
                                                    (selZ
                                                      (sok4 x11 x12 x13 x8 (IntKind.wrap IntKind.i64 (amongZ (cl i) (4294967297 : Int) - (2147483648 : Int)))
                                                        (IntKind.wrap IntKind.i64 ((1 : Int) + amongZ (ql i) (60000 : Int))))
                                                      x6),
                                                  AV.int IntKind.i64 false
                                                    (selZ
                                                      (sok4 x11 x12 x13 x8 (IntKind.wrap IntKind.i64 (amongZ (cl i) (4294967297 : Int) - (2147483648 : Int)))
                                                        (IntKind.wrap IntKind.i64 ((1 : Int) + amongZ (ql i) (60000 : Int))))
                                                      x7),
                                                  AV.int IntKind.i64 false
                                                    (selZ
                                                      (sok4 x11 x12 x13 x8 (IntKind.wrap IntKind.i64 (amongZ (cl i) (4294967297 : Int) - (2147483648 : Int)))
                                                        (IntKind.wrap IntKind.i64 ((1 : Int) + amongZ (ql i) (60000 : Int))))
                                                      x8),
                                                  AV.int IntKind.i64 false
                                                    (selZ
                                                      (sok4 x11 x12 x13 x8 (IntKind.wrap IntKind.i64 (amongZ (cl i) (4294967297 : Int) - (2147483648 : Int)))
                                                        (IntKind.wrap IntKind.i64 ((1 : Int) + amongZ (ql i) (60000 : Int))))
                                                      x9),
                                                  AV.int IntKind.i64 false
                                                    (selZ
                                                      (sok4 x11 x12 x13 x8 (IntKind.wrap IntKind.i64 (amongZ (cl i) (4294967297 : Int) - (2147483648 : Int)))
                                                        (IntKind.wrap IntKind.i64 ((1 : Int) + amongZ (ql i) (60000 : Int))))
                                                      x10),
                                                  AV.int IntKind.i64 false
                                                    (selZ
                                                      (sok4 x11 x12 x13 x8 (IntKind.wrap IntKind.i64 (amongZ (cl i) (4294967297 : Int) - (2147483648 : Int)))
                                                        (IntKind.wrap IntKind.i64 ((1 : Int) + amongZ (ql i) (60000 : Int))))
                                                      (min (1125899906842624000 : Int)
                                                          (x11 * (1000 : Int) + x12 +
                                                            sizeZ (IntKind.wrap IntKind.i64 (amongZ (cl i) (4294967297 : Int) - (2147483648 : Int))) * IntKind.wrap IntKind.i64 ((1 : Int) + amongZ (ql i) (60000 : Int))) /
                                                        (1000 : Int))),
                                                  AV.int IntKind.i64 false
                                                    (selZ
                                                      (sok4 x11 x12 x13 x8 (IntKind.wrap IntKind.i64 (amongZ (cl i) (4294967297 : Int) - (2147483648 : Int)))
                                                        (IntKind.wrap IntKind.i64 ((1 : Int) + amongZ (ql i) (60000 : Int))))
                                                      (min (1125899906842624000 : Int)
                                                          (x11 * (1000 : Int) + x12 +
                                                            sizeZ (IntKind.wrap IntKind.i64 (amongZ (cl i) (4294967297 : Int) - (2147483648 : Int))) * IntKind.wrap IntKind.i64 ((1 : Int) + amongZ (ql i) (60000 : Int))) %
                                                        (1000 : Int))),
                                                  AV.int IntKind.i64 false
                                                    (selZ
                                                      (sok4 x11 x12 x13 x8 (IntKind.wrap IntKind.i64 (amongZ (cl i) (4294967297 : Int) - (2147483648 : Int)))
                                                        (IntKind.wrap IntKind.i64 ((1 : Int) + amongZ (ql i) (60000 : Int))))
                                                      (max x13
                                                        (min
                                                          (min (1125899906842624000 : Int)
                                                                  (x11 * (1000 : Int) + x12 +
                                                                    sizeZ (IntKind.wrap IntKind.i64 (amongZ (cl i) (4294967297 : Int) - (2147483648 : Int))) * IntKind.wrap IntKind.i64 ((1 : Int) + amongZ (ql i) (60000 : Int))) /
                                                                (1000 : Int) /
                                                              (2 : Int) /
                                                            x8)
                                                          (2147483647 : Int)))),
                                                  AV.int IntKind.i64 false
                                                    (selZ
                                                      (sok4 x11 x12 x13 x8 (IntKind.wrap IntKind.i64 (amongZ (cl i) (4294967297 : Int) - (2147483648 : Int)))
                                                        (IntKind.wrap IntKind.i64 ((1 : Int) + amongZ (ql i) (60000 : Int))))
                                                      x14),
                                                  AV.int IntKind.i64 false
                                                    (selZ
                                                      (sok4 x11 x12 x13 x8 (IntKind.wrap IntKind.i64 (amongZ (cl i) (4294967297 : Int) - (2147483648 : Int)))
                                                        (IntKind.wrap IntKind.i64 ((1 : Int) + amongZ (ql i) (60000 : Int))))
                                                      x15),
                                                  AV.int IntKind.i64 false
                                                    (selZ
                                                      (sok4 x11 x12 x13 x8 (IntKind.wrap IntKind.i64 (amongZ (cl i) (4294967297 : Int) - (2147483648 : Int)))
                                                        (IntKind.wrap IntKind.i64 ((1 : Int) + amongZ (ql i) (60000 : Int))))
                                                      x16),
                                                  AV.int IntKind.i64 false
                                                    (selZ
                                                      (sok4 x11 x12 x13 x8 (IntKind.wrap IntKind.i64 (amongZ (cl i) (4294967297 : Int) - (2147483648 : Int)))
                                                        (IntKind.wrap IntKind.i64 ((1 : Int) + amongZ (ql i) (60000 : Int))))
                                                      x17),
                                                  AV.int IntKind.i64 false
                                                    (selZ
                                                      (sok4 x11 x12 x13 x8 (IntKind.wrap IntKind.i64 (amongZ (cl i) (4294967297 : Int) - (2147483648 : Int)))
                                                        (IntKind.wrap IntKind.i64 ((1 : Int) + amongZ (ql i) (60000 : Int))))
                                                      x18),
                                                  AV.int IntKind.i64 false
                                                    (selZ
                                                      (sok4 x11 x12 x13 x8 (IntKind.wrap IntKind.i64 (amongZ (cl i) (4294967297 : Int) - (2147483648 : Int)))
                                                        (IntKind.wrap IntKind.i64 ((1 : Int) + amongZ (ql i) (60000 : Int))))
                                                      x19),
                                                  AV.int IntKind.i64 false
                                                    (selZ
                                                      (sok4 x11 x12 x13 x8 (IntKind.wrap IntKind.i64 (amongZ (cl i) (4294967297 : Int) - (2147483648 : Int)))
                                                        (IntKind.wrap IntKind.i64 ((1 : Int) + amongZ (ql i) (60000 : Int))))
                                                      x20),
                                                  AV.int IntKind.i64 false
                                                    (selZ
                                                      (sok4 x11 x12 x13 x8 (IntKind.wrap IntKind.i64 (amongZ (cl i) (4294967297 : Int) - (2147483648 : Int)))
                                                        (IntKind.wrap IntKind.i64 ((1 : Int) + amongZ (ql i) (60000 : Int))))
                                                      x21),
                                                  AV.int IntKind.i64 false
                                                    (selZ
                                                      (sok4 x11 x12 x13 x8 (IntKind.wrap IntKind.i64 (amongZ (cl i) (4294967297 : Int) - (2147483648 : Int)))
                                                        (IntKind.wrap IntKind.i64 ((1 : Int) + amongZ (ql i) (60000 : Int))))
                                                      x22)]))])))))))))))
                Tree.fail)
              Tree.fail))
          Tree.fail)
        Tree.fail)
      (Tree.ret
        (Ex.exit (0),
          St.mk
            [jk, jk, jk, jk, jk, jk, jk, jk, jk, jk, jk, jk, jk, jk, jk, jk, jk, jk, jk, jk, jk, jk, jk, jk, jk,
              jk, jk, jk, jk, jk, jk, jk, jk, jk, jk, jk, jk, jk, jk, jk, jk, jk, jk, jk, jk, jk, jk, jk, jk, jk,
              jk, jk, jk, jk, jk, jk, jk, jk, jk, jk, jk, jk, jk, jk, jk, jk, jk, jk, jk, jk, jk, jk, jk, jk, jk,
              jk, jk, jk, jk, jk, jk, jk, jk, jk, jk, jk, jk, jk, jk, jk, jk, jk, jk, jk, jk, jk, jk, jk, jk, jk,
              jk, jk, jk, jk, jk, jk, jk, jk, jk, jk, jk, jk, jk, jk, jk, jk, jk]
            [some (Blk.mk (42) false false true (Data.tab (2) nl fun i => [AV.int IntKind.i64 false (cl i), AV.int IntKind.i64 false (ql i)]))])))
    (Tree.ret
      (Ex.exit (0),
        St.mk
          [jk, jk, jk, jk, jk, jk, jk, jk, jk, jk, jk, jk, jk, jk, jk, jk, jk, jk, jk, jk, jk, jk, jk, jk, jk,
            jk, jk, jk, jk, jk, jk, jk, jk, jk, jk, jk, jk, jk, jk, jk, jk, jk, jk, jk, jk, jk, jk, jk, jk, jk,
            jk, jk, jk, jk, jk, jk, jk, jk, jk, jk, jk, jk, jk, jk, jk, jk, jk, jk, jk, jk, jk, jk, jk, jk, jk,
            jk, jk, jk, jk, jk, jk, jk, jk, jk, jk, jk, jk, jk, jk, jk, jk, jk, jk, jk, jk, jk, jk, jk, jk, jk,
            jk, jk, jk, jk, jk, jk, jk, jk, jk, jk, jk, jk, jk, jk, jk, jk, jk]
          [some (Blk.mk (42) false false true (Data.tab (2) nl fun i => [AV.int IntKind.i64 false (cl i), AV.int IntKind.i64 false (ql i)]))])) := by kernel_rfl
set_option maxHeartbeats 4000000 in
set_option maxRecDepth 100000 in
theorem stepCycleExact_0 (zl : Bool) (nl : Nat) (cl : Nat → Int) (ql : Nat → Int) (x0 : Int) (x1 : Int) (x2 : Int) (x3 : Int) (x4 : Int) (x5 : Int) (x6 : Int) (x7 : Int) (x8 : Int) (x9 : Int) (x10 : Int) (x11 : Int) (x12 : Int) (x13 : Int) (x14 : Int) (x15 : Int) (x16 : Int) (x17 : Int) (x18 : Int) (x19 : Int) (x20 : Int) (x21 : Int) (x22 : Int) (t : Int) (i : Nat) (ex : Ex) (r : St) (hok : okCycleExact_0 ⟨zl, nl, cl, ql, x0, x1, x2, x3, x4, x5, x6, x7, x8, x9, x10, x11, x12, x13, x14, x15, x16, x17, x18, x19, x20, x21, x22, t, i⟩) (hr : (outCycleExact_0 ⟨zl, nl, cl, ql, x0, x1, x2, x3, x4, x5, x6, x7, x8, x9, x10, x11, x12, x13, x14, x15, x16, x17, x18, x19, x20, x21, x22, t, i⟩).runs (ex, r)) : (Tree.br (decide ((i : Int) < (nl : Int)))
    (Tree.br (decide ((i : Int) < (100 : Int)))
      (Tree.br (!zl && decide ((0 : Int) ≤ (i : Int) ∧ (i : Int) < (nl : Int)))
        (Tree.br (decide (i < nl))
          (Tree.chk ((1 : Int) ≤ (4294967297 : Int) ∧ (4294967297 : Int) ≤ (9223372036854775807 : Int))
            (Tree.br (!zl && decide ((0 : Int) ≤ (i : Int) ∧ (i : Int) < (nl : Int)))
              (Tree.br (decide (i < nl))
                (Tree.chk ((1 : Int) ≤ (60000 : Int) ∧ (60000 : Int) ≤ (9223372036854775807 : Int))
                  (Tree.chk
                    ((-9223372036854775808 : Int) ≤ IntKind.wrap IntKind.i64 (amongZ (cl i) (4294967297 : Int) - (2147483648 : Int)) ∧
                      IntKind.wrap IntKind.i64 (amongZ (cl i) (4294967297 : Int) - (2147483648 : Int)) ≤ (9223372036854775807 : Int))
                    (Tree.chk
                      ((-9223372036854775808 : Int) ≤ IntKind.wrap IntKind.i64 ((0 : Int) - IntKind.wrap IntKind.i64 (amongZ (cl i) (4294967297 : Int) - (2147483648 : Int))) ∧
                        IntKind.wrap IntKind.i64 ((0 : Int) - IntKind.wrap IntKind.i64 (amongZ (cl i) (4294967297 : Int) - (2147483648 : Int))) ≤ (9223372036854775807 : Int))
                      (Tree.br
                        (errZ (sok4 x11 x12 x13 x8 (IntKind.wrap IntKind.i64 (amongZ (cl i) (4294967297 : Int) - (2147483648 : Int))) (IntKind.wrap IntKind.i64 ((1 : Int) + amongZ (ql i) (60000 : Int)))) != (0 : Int))
                        (Tree.ret
                          (Ex.ret,
                            St.mk
                              [jk, jk, jk, jk, jk, jk, jk, jk, jk, jk, jk, jk, jk, jk, jk, jk, jk, jk, jk, jk, jk, jk, jk,
                                jk, jk, jk, jk, jk, jk, jk, jk, jk, jk, jk, jk, jk, jk, jk, jk, jk, jk, jk, jk, jk, jk, jk,
                                jk, jk, jk, jk, jk, jk, jk, jk, jk, jk, jk, jk, jk, jk, jk, jk, jk, jk, jk, jk, jk, jk, jk,
                                jk, jk, jk, jk, jk, jk, jk, jk, jk, jk, jk, jk, jk, jk, jk, jk, jk, jk, jk, jk, jk, jk, jk,
                                jk, jk, jk, jk, jk, jk, jk, jk, jk, jk, jk, jk, jk, jk, jk, jk, jk, jk, jk, jk, jk, jk, jk,
                                jk, jk]
                              [some (Blk.mk (42) false false true (Data.tab (2) nl fun i => [AV.int IntKind.i64 false (cl i), AV.int IntKind.i64 false (ql i)]))]))
                        (Tree.br
                          (errZ
                              (sok4 x11 x12 x13 x8 (IntKind.wrap IntKind.i64 ((0 : Int) - IntKind.wrap IntKind.i64 (amongZ (cl i) (4294967297 : Int) - (2147483648 : Int))))
                                (IntKind.wrap IntKind.i64 ((1 : Int) + amongZ (ql i) (60000 : Int)))) !=
                            (0 : Int))
                          (Tree.ret
                            (Ex.ret,
                              St.mk
                                [jk, jk, jk, jk, jk, jk, jk, jk, jk, jk, jk, jk, jk, jk, jk, jk, jk, jk, jk, jk, jk, jk, jk,
                                  jk, jk, jk, jk, jk, jk, jk, jk, jk, jk, jk, jk, jk, jk, jk, jk, jk, jk, jk, jk, jk, jk, jk,
                                  jk, jk, jk, jk, jk, jk, jk, jk, jk, jk, jk, jk, jk, jk, jk, jk, jk, jk, jk, jk, jk, jk, jk,
                                  jk, jk, jk, jk, jk, jk, jk, jk, jk, jk, jk, jk, jk, jk, jk, jk, jk, jk, jk, jk, jk, jk, jk,
                                  jk, jk, jk, jk, jk, jk, jk, jk, jk, jk, jk, jk, jk, jk, jk, jk, jk, jk, jk, jk, jk, jk, jk,
                                  jk, jk]
                                [some (Blk.mk (42) false false true (Data.tab (2) nl fun i => [AV.int IntKind.i64 false (cl i), AV.int IntKind.i64 false (ql i)]))]))
                          (Tree.br
                            (errZ
                                (ok4
                                  (selZ (sok4 x11 x12 x13 x8 (IntKind.wrap IntKind.i64 (amongZ (cl i) (4294967297 : Int) - (2147483648 : Int))) (IntKind.wrap IntKind.i64 ((1 : Int) + amongZ (ql i) (60000 : Int))))
                                    (min (1125899906842624000 : Int)
                                        (x11 * (1000 : Int) + x12 +
                                          sizeZ (IntKind.wrap IntKind.i64 (amongZ (cl i) (4294967297 : Int) - (2147483648 : Int))) * IntKind.wrap IntKind.i64 ((1 : Int) + amongZ (ql i) (60000 : Int))) /
                                      (1000 : Int)))
                                  (selZ (sok4 x11 x12 x13 x8 (IntKind.wrap IntKind.i64 (amongZ (cl i) (4294967297 : Int) - (2147483648 : Int))) (IntKind.wrap IntKind.i64 ((1 : Int) + amongZ (ql i) (60000 : Int))))
                                    (min (1125899906842624000 : Int)
                                        (x11 * (1000 : Int) + x12 +
                                          sizeZ (IntKind.wrap IntKind.i64 (amongZ (cl i) (4294967297 : Int) - (2147483648 : Int))) * IntKind.wrap IntKind.i64 ((1 : Int) + amongZ (ql i) (60000 : Int))) %
                                      (1000 : Int)))
                                  (selZ (sok4 x11 x12 x13 x8 (IntKind.wrap IntKind.i64 (amongZ (cl i) (4294967297 : Int) - (2147483648 : Int))) (IntKind.wrap IntKind.i64 ((1 : Int) + amongZ (ql i) (60000 : Int))))
                                    (max x13
                                      (min
                                        (min (1125899906842624000 : Int)
                                                (x11 * (1000 : Int) + x12 +
                                                  sizeZ (IntKind.wrap IntKind.i64 (amongZ (cl i) (4294967297 : Int) - (2147483648 : Int))) * IntKind.wrap IntKind.i64 ((1 : Int) + amongZ (ql i) (60000 : Int))) /
                                              (1000 : Int) /
                                            (2 : Int) /
                                          x8)
                                        (2147483647 : Int))))
                                  (selZ (sok4 x11 x12 x13 x8 (IntKind.wrap IntKind.i64 (amongZ (cl i) (4294967297 : Int) - (2147483648 : Int))) (IntKind.wrap IntKind.i64 ((1 : Int) + amongZ (ql i) (60000 : Int))))
                                    x8)) !=
                              (0 : Int))
                            (Tree.ret
                              (Ex.ret,
                                St.mk
                                  [jk, jk, jk, jk, jk, jk, jk, jk, jk, jk, jk, jk, jk, jk, jk, jk, jk, jk, jk, jk, jk, jk, jk,
                                    jk, jk, jk, jk, jk, jk, jk, jk, jk, jk, jk, jk, jk, jk, jk, jk, jk, jk, jk, jk, jk, jk, jk,
                                    jk, jk, jk, jk, jk, jk, jk, jk, jk, jk, jk, jk, jk, jk, jk, jk, jk, jk, jk, jk, jk, jk, jk,
                                    jk, jk, jk, jk, jk, jk, jk, jk, jk, jk, jk, jk, jk, jk, jk, jk, jk, jk, jk, jk, jk, jk, jk,
                                    jk, jk, jk, jk, jk, jk, jk, jk, jk, jk, jk, jk, jk, jk, jk, jk, jk, jk, jk, jk, jk, jk, jk,
                                    jk, jk]
                                  [some (Blk.mk (42) false false true (Data.tab (2) nl fun i => [AV.int IntKind.i64 false (cl i), AV.int IntKind.i64 false (ql i)]))]))
                            (Tree.br
                              (!(selZ (sok4 x11 x12 x13 x8 (IntKind.wrap IntKind.i64 (amongZ (cl i) (4294967297 : Int) - (2147483648 : Int))) (IntKind.wrap IntKind.i64 ((1 : Int) + amongZ (ql i) (60000 : Int))))
                                      x0 ==
                                    selZ
                                      (sok4 x11 x12 x13 x8 (IntKind.wrap IntKind.i64 ((0 : Int) - IntKind.wrap IntKind.i64 (amongZ (cl i) (4294967297 : Int) - (2147483648 : Int))))
                                        (IntKind.wrap IntKind.i64 ((1 : Int) + amongZ (ql i) (60000 : Int))))
                                      x0 &&
                                  (selZ (sok4 x11 x12 x13 x8 (IntKind.wrap IntKind.i64 (amongZ (cl i) (4294967297 : Int) - (2147483648 : Int))) (IntKind.wrap IntKind.i64 ((1 : Int) + amongZ (ql i) (60000 : Int))))
                                        x1 ==
                                      selZ
                                        (sok4 x11 x12 x13 x8 (IntKind.wrap IntKind.i64 ((0 : Int) - IntKind.wrap IntKind.i64 (amongZ (cl i) (4294967297 : Int) - (2147483648 : Int))))
                                          (IntKind.wrap IntKind.i64 ((1 : Int) + amongZ (ql i) (60000 : Int))))
                                        x1 &&
                                    (selZ (sok4 x11 x12 x13 x8 (IntKind.wrap IntKind.i64 (amongZ (cl i) (4294967297 : Int) - (2147483648 : Int))) (IntKind.wrap IntKind.i64 ((1 : Int) + amongZ (ql i) (60000 : Int))))
                                          x2 ==
                                        selZ
                                          (sok4 x11 x12 x13 x8 (IntKind.wrap IntKind.i64 ((0 : Int) - IntKind.wrap IntKind.i64 (amongZ (cl i) (4294967297 : Int) - (2147483648 : Int))))
                                            (IntKind.wrap IntKind.i64 ((1 : Int) + amongZ (ql i) (60000 : Int))))
                                          x2 &&
                                      (selZ (sok4 x11 x12 x13 x8 (IntKind.wrap IntKind.i64 (amongZ (cl i) (4294967297 : Int) - (2147483648 : Int))) (IntKind.wrap IntKind.i64 ((1 : Int) + amongZ (ql i) (60000 : Int))))
                                            x3 ==
                                          selZ
                                            (sok4 x11 x12 x13 x8 (IntKind.wrap IntKind.i64 ((0 : Int) - IntKind.wrap IntKind.i64 (amongZ (cl i) (4294967297 : Int) - (2147483648 : Int))))
                                              (IntKind.wrap IntKind.i64 ((1 : Int) + amongZ (ql i) (60000 : Int))))
                                            x3 &&
                                        (selZ
                                              (sok4 x11 x12 x13 x8 (IntKind.wrap IntKind.i64 (amongZ (cl i) (4294967297 : Int) - (2147483648 : Int)))
                                                (IntKind.wrap IntKind.i64 ((1 : Int) + amongZ (ql i) (60000 : Int))))
                                              x4 ==
                                            selZ
                                              (sok4 x11 x12 x13 x8 (IntKind.wrap IntKind.i64 ((0 : Int) - IntKind.wrap IntKind.i64 (amongZ (cl i) (4294967297 : Int) - (2147483648 : Int))))
                                                (IntKind.wrap IntKind.i64 ((1 : Int) + amongZ (ql i) (60000 : Int))))
                                              x4 &&
                                          (selZ
                                                (sok4 x11 x12 x13 x8 (IntKind.wrap IntKind.i64 (amongZ (cl i) (4294967297 : Int) - (2147483648 : Int)))
                                                  (IntKind.wrap IntKind.i64 ((1 : Int) + amongZ (ql i) (60000 : Int))))
                                                x5 ==
                                              selZ
                                                (sok4 x11 x12 x13 x8 (IntKind.wrap IntKind.i64 ((0 : Int) - IntKind.wrap IntKind.i64 (amongZ (cl i) (4294967297 : Int) - (2147483648 : Int))))
                                                  (IntKind.wrap IntKind.i64 ((1 : Int) + amongZ (ql i) (60000 : Int))))
                                                x5 &&
                                            (selZ
                                                  (sok4 x11 x12 x13 x8 (IntKind.wrap IntKind.i64 (amongZ (cl i) (4294967297 : Int) - (2147483648 : Int)))
                                                    (IntKind.wrap IntKind.i64 ((1 : Int) + amongZ (ql i) (60000 : Int))))
                                                  x6 ==
                                                selZ
                                                  (sok4 x11 x12 x13 x8 (IntKind.wrap IntKind.i64 ((0 : Int) - IntKind.wrap IntKind.i64 (amongZ (cl i) (4294967297 : Int) - (2147483648 : Int))))
                                                    (IntKind.wrap IntKind.i64 ((1 : Int) + amongZ (ql i) (60000 : Int))))
                                                  x6 &&
                                              (selZ
                                                    (sok4 x11 x12 x13 x8 (IntKind.wrap IntKind.i64 (amongZ (cl i) (4294967297 : Int) - (2147483648 : Int)))
                                                      (IntKind.wrap IntKind.i64 ((1 : Int) + amongZ (ql i) (60000 : Int))))
                                                    x7 ==
                                                  selZ
                                                    (sok4 x11 x12 x13 x8 (IntKind.wrap IntKind.i64 ((0 : Int) - IntKind.wrap IntKind.i64 (amongZ (cl i) (4294967297 : Int) - (2147483648 : Int))))
                                                      (IntKind.wrap IntKind.i64 ((1 : Int) + amongZ (ql i) (60000 : Int))))
                                                    x7 &&
                                                (selZ
                                                      (sok4 x11 x12 x13 x8 (IntKind.wrap IntKind.i64 (amongZ (cl i) (4294967297 : Int) - (2147483648 : Int)))
                                                        (IntKind.wrap IntKind.i64 ((1 : Int) + amongZ (ql i) (60000 : Int))))
                                                      x8 ==
                                                    selZ
                                                      (sok4 x11 x12 x13 x8 (IntKind.wrap IntKind.i64 ((0 : Int) - IntKind.wrap IntKind.i64 (amongZ (cl i) (4294967297 : Int) - (2147483648 : Int))))
                                                        (IntKind.wrap IntKind.i64 ((1 : Int) + amongZ (ql i) (60000 : Int))))
                                                      x8 &&
                                                  (selZ
                                                        (sok4 x11 x12 x13 x8 (IntKind.wrap IntKind.i64 (amongZ (cl i) (4294967297 : Int) - (2147483648 : Int)))
                                                          (IntKind.wrap IntKind.i64 ((1 : Int) + amongZ (ql i) (60000 : Int))))
                                                        x9 ==
                                                      selZ
                                                        (sok4 x11 x12 x13 x8 (IntKind.wrap IntKind.i64 ((0 : Int) - IntKind.wrap IntKind.i64 (amongZ (cl i) (4294967297 : Int) - (2147483648 : Int))))
                                                          (IntKind.wrap IntKind.i64 ((1 : Int) + amongZ (ql i) (60000 : Int))))
                                                        x9 &&
                                                    (selZ
                                                          (sok4 x11 x12 x13 x8 (IntKind.wrap IntKind.i64 (amongZ (cl i) (4294967297 : Int) - (2147483648 : Int)))
                                                            (IntKind.wrap IntKind.i64 ((1 : Int) + amongZ (ql i) (60000 : Int))))
                                                          x10 ==
                                                        selZ
                                                          (sok4 x11 x12 x13 x8 (IntKind.wrap IntKind.i64 ((0 : Int) - IntKind.wrap IntKind.i64 (amongZ (cl i) (4294967297 : Int) - (2147483648 : Int))))
                                                            (IntKind.wrap IntKind.i64 ((1 : Int) + amongZ (ql i) (60000 : Int))))
                                                          x10 &&
                                                      (selZ
                                                            (sok4 x11 x12 x13 x8 (IntKind.wrap IntKind.i64 (amongZ (cl i) (4294967297 : Int) - (2147483648 : Int)))
                                                              (IntKind.wrap IntKind.i64 ((1 : Int) + amongZ (ql i) (60000 : Int))))
                                                            (min (1125899906842624000 : Int)
                                                                (x11 * (1000 : Int) + x12 +
                                                                  sizeZ (IntKind.wrap IntKind.i64 (amongZ (cl i) (4294967297 : Int) - (2147483648 : Int))) * IntKind.wrap IntKind.i64 ((1 : Int) + amongZ (ql i) (60000 : Int))) /
                                                              (1000 : Int)) ==
                                                          selZ
                                                            (sok4 x11 x12 x13 x8 (IntKind.wrap IntKind.i64 ((0 : Int) - IntKind.wrap IntKind.i64 (amongZ (cl i) (4294967297 : Int) - (2147483648 : Int))))
                                                              (IntKind.wrap IntKind.i64 ((1 : Int) + amongZ (ql i) (60000 : Int))))
                                                            (min (1125899906842624000 : Int)
                                                                (x11 * (1000 : Int) + x12 +
                                                                  sizeZ (IntKind.wrap IntKind.i64 ((0 : Int) - IntKind.wrap IntKind.i64 (amongZ (cl i) (4294967297 : Int) - (2147483648 : Int)))) *
                                                                    IntKind.wrap IntKind.i64 ((1 : Int) + amongZ (ql i) (60000 : Int))) /
                                                              (1000 : Int)) &&
                                                        (selZ
                                                              (sok4 x11 x12 x13 x8 (IntKind.wrap IntKind.i64 (amongZ (cl i) (4294967297 : Int) - (2147483648 : Int)))
                                                                (IntKind.wrap IntKind.i64 ((1 : Int) + amongZ (ql i) (60000 : Int))))
                                                              (min (1125899906842624000 : Int)
                                                                  (x11 * (1000 : Int) + x12 +
                                                                    sizeZ (IntKind.wrap IntKind.i64 (amongZ (cl i) (4294967297 : Int) - (2147483648 : Int))) * IntKind.wrap IntKind.i64 ((1 : Int) + amongZ (ql i) (60000 : Int))) %
                                                                (1000 : Int)) ==
                                                            selZ
                                                              (sok4 x11 x12 x13 x8 (IntKind.wrap IntKind.i64 ((0 : Int) - IntKind.wrap IntKind.i64 (amongZ (cl i) (4294967297 : Int) - (2147483648 : Int))))
                                                                (IntKind.wrap IntKind.i64 ((1 : Int) + amongZ (ql i) (60000 : Int))))
                                                              (min (1125899906842624000 : Int)
                                                                  (x11 * (1000 : Int) + x12 +
                                                                    sizeZ (IntKind.wrap IntKind.i64 ((0 : Int) - IntKind.wrap IntKind.i64 (amongZ (cl i) (4294967297 : Int) - (2147483648 : Int)))) *
                                                                      IntKind.wrap IntKind.i64 ((1 : Int) + amongZ (ql i) (60000 : Int))) %
                                                                (1000 : Int)) &&
                                                          (selZ
                                                                (sok4 x11 x12 x13 x8 (IntKind.wrap IntKind.i64 (amongZ (cl i) (4294967297 : Int) - (2147483648 : Int)))
                                                                  (IntKind.wrap IntKind.i64 ((1 : Int) + amongZ (ql i) (60000 : Int))))
                                                                (max x13
                                                                  (min
                                                                    (min (1125899906842624000 : Int)
                                                                            (x11 * (1000 : Int) + x12 +
                                                                              sizeZ (IntKind.wrap IntKind.i64 (amongZ (cl i) (4294967297 : Int) - (2147483648 : Int))) *
                                                                                IntKind.wrap IntKind.i64 ((1 : Int) + amongZ (ql i) (60000 : Int))) /
                                                                          (1000 : Int) /
                                                                        (2 : Int) /
                                                                      x8)
                                                                    (2147483647 : Int))) ==
                                                              selZ
                                                                (sok4 x11 x12 x13 x8 (IntKind.wrap IntKind.i64 ((0 : Int) - IntKind.wrap IntKind.i64 (amongZ (cl i) (4294967297 : Int) - (2147483648 : Int))))
                                                                  (IntKind.wrap IntKind.i64 ((1 : Int) + amongZ (ql i) (60000 : Int))))
                                                                (max x13
                                                                  (min
                                                                    (min (1125899906842624000 : Int)
                                                                            (x11 * (1000 : Int) + x12 +
                                                                              sizeZ (IntKind.wrap IntKind.i64 ((0 : Int) - IntKind.wrap IntKind.i64 (amongZ (cl i) (4294967297 : Int) - (2147483648 : Int)))) *
                                                                                IntKind.wrap IntKind.i64 ((1 : Int) + amongZ (ql i) (60000 : Int))) /
                                                                          (1000 : Int) /
                                                                        (2 : Int) /
                                                                      x8)
                                                                    (2147483647 : Int))) &&
                                                            (selZ
                                                                  (sok4 x11 x12 x13 x8 (IntKind.wrap IntKind.i64 (amongZ (cl i) (4294967297 : Int) - (2147483648 : Int)))
                                                                    (IntKind.wrap IntKind.i64 ((1 : Int) + amongZ (ql i) (60000 : Int))))
                                                                  x14 ==
                                                                selZ
                                                                  (sok4 x11 x12 x13 x8 (IntKind.wrap IntKind.i64 ((0 : Int) - IntKind.wrap IntKind.i64 (amongZ (cl i) (4294967297 : Int) - (2147483648 : Int))))
                                                                    (IntKind.wrap IntKind.i64 ((1 : Int) + amongZ (ql i) (60000 : Int))))
                                                                  x14 &&
                                                              (selZ
                                                                      (sok4 x11 x12 x13 x8 (IntKind.wrap IntKind.i64 (amongZ (cl i) (4294967297 : Int) - (2147483648 : Int)))
                                                                        (IntKind.wrap IntKind.i64 ((1 : Int) + amongZ (ql i) (60000 : Int))))
                                                                      x15 ==
                                                                    selZ
                                                                      (sok4 x11 x12 x13 x8 (IntKind.wrap IntKind.i64 ((0 : Int) - IntKind.wrap IntKind.i64 (amongZ (cl i) (4294967297 : Int) - (2147483648 : Int))))
                                                                        (IntKind.wrap IntKind.i64 ((1 : Int) + amongZ (ql i) (60000 : Int))))
                                                                      x15 &&
                                                                  (selZ
                                                                        (sok4 x11 x12 x13 x8 (IntKind.wrap IntKind.i64 (amongZ (cl i) (4294967297 : Int) - (2147483648 : Int)))
                                                                          (IntKind.wrap IntKind.i64 ((1 : Int) + amongZ (ql i) (60000 : Int))))
                                                                        x16 ==
                                                                      selZ
                                                                        (sok4 x11 x12 x13 x8 (IntKind.wrap IntKind.i64 ((0 : Int) - IntKind.wrap IntKind.i64 (amongZ (cl i) (4294967297 : Int) - (2147483648 : Int))))
                                                                          (IntKind.wrap IntKind.i64 ((1 : Int) + amongZ (ql i) (60000 : Int))))
                                                                        x16 &&
                                                                    (selZ
                                                                          (sok4 x11 x12 x13 x8 (IntKind.wrap IntKind.i64 (amongZ (cl i) (4294967297 : Int) - (2147483648 : Int)))
                                                                            (IntKind.wrap IntKind.i64 ((1 : Int) + amongZ (ql i) (60000 : Int))))
                                                                          x17 ==
                                                                        selZ
                                                                          (sok4 x11 x12 x13 x8 (IntKind.wrap IntKind.i64 ((0 : Int) - IntKind.wrap IntKind.i64 (amongZ (cl i) (4294967297 : Int) - (2147483648 : Int))))
                                                                            (IntKind.wrap IntKind.i64 ((1 : Int) + amongZ (ql i) (60000 : Int))))
                                                                          x17 &&
                                                                      (selZ
                                                                            (sok4 x11 x12 x13 x8 (IntKind.wrap IntKind.i64 (amongZ (cl i) (4294967297 : Int) - (2147483648 : Int)))
                                                                              (IntKind.wrap IntKind.i64 ((1 : Int) + amongZ (ql i) (60000 : Int))))
                                                                            x18 ==
                                                                          selZ
                                                                            (sok4 x11 x12 x13 x8 (IntKind.wrap IntKind.i64 ((0 : Int) - IntKind.wrap IntKind.i64 (amongZ (cl i) (4294967297 : Int) - (2147483648 : Int))))
                                                                              (IntKind.wrap IntKind.i64 ((1 : Int) + amongZ (ql i) (60000 : Int))))
                                                                            x18 &&
                                                                        (selZ
                                                                              (sok4 x11 x12 x13 x8 (IntKind.wrap IntKind.i64 (amongZ (cl i) (4294967297 : Int) - (2147483648 : Int)))
                                                                                (IntKind.wrap IntKind.i64 ((1 : Int) + amongZ (ql i) (60000 : Int))))
                                                                              x19 ==
                                                                            selZ
                                                                              (sok4 x11 x12 x13 x8 (IntKind.wrap IntKind.i64 ((0 : Int) - IntKind.wrap IntKind.i64 (amongZ (cl i) (4294967297 : Int) - (2147483648 : Int))))
                                                                                (IntKind.wrap IntKind.i64 ((1 : Int) + amongZ (ql i) (60000 : Int))))
                                                                              x19 &&
                                                                          (selZ
                                                                                (sok4 x11 x12 x13 x8 (IntKind.wrap IntKind.i64 (amongZ (cl i) (4294967297 : Int) - (2147483648 : Int)))
                                                                                  (IntKind.wrap IntKind.i64 ((1 : Int) + amongZ (ql i) (60000 : Int))))
                                                                                x20 ==
                                                                              selZ
                                                                                (sok4 x11 x12 x13 x8 (IntKind.wrap IntKind.i64 ((0 : Int) - IntKind.wrap IntKind.i64 (amongZ (cl i) (4294967297 : Int) - (2147483648 : Int))))
                                                                                  (IntKind.wrap IntKind.i64 ((1 : Int) + amongZ (ql i) (60000 : Int))))
                                                                                x20 &&
                                                                            true))))) &&
                                                                (selZ
                                                                      (sok4 x11 x12 x13 x8 (IntKind.wrap IntKind.i64 (amongZ (cl i) (4294967297 : Int) - (2147483648 : Int)))
                                                                        (IntKind.wrap IntKind.i64 ((1 : Int) + amongZ (ql i) (60000 : Int))))
                                                                      x21 ==
                                                                    selZ
                                                                      (sok4 x11 x12 x13 x8 (IntKind.wrap IntKind.i64 ((0 : Int) - IntKind.wrap IntKind.i64 (amongZ (cl i) (4294967297 : Int) - (2147483648 : Int))))
                                                                        (IntKind.wrap IntKind.i64 ((1 : Int) + amongZ (ql i) (60000 : Int))))
                                                                      x21 &&
                                                                  (selZ
                                                                        (sok4 x11 x12 x13 x8 (IntKind.wrap IntKind.i64 (amongZ (cl i) (4294967297 : Int) - (2147483648 : Int)))
                                                                          (IntKind.wrap IntKind.i64 ((1 : Int) + amongZ (ql i) (60000 : Int))))
                                                                        x22 ==
                                                                      selZ
                                                                        (sok4 x11 x12 x13 x8 (IntKind.wrap IntKind.i64 ((0 : Int) - IntKind.wrap IntKind.i64 (amongZ (cl i) (4294967297 : Int) - (2147483648 : Int))))
                                                                          (IntKind.wrap IntKind.i64 ((1 : Int) + amongZ (ql i) (60000 : Int))))
                                                                        x22 &&
                                                                    true)))))))))))))))))))
                              (Tree.ret
                                (Ex.ret,
                                  St.mk
                                    [jk, jk, jk, jk, jk, jk, jk, jk, jk, jk, jk, jk, jk, jk, jk, jk, jk, jk, jk, jk, jk, jk,
                                      jk, jk, jk, jk, jk, jk, jk, jk, jk, jk, jk, jk, jk, jk, jk, jk, jk, jk, jk, jk, jk, jk,
                                      jk, jk, jk, jk, jk, jk, jk, jk, jk, jk, jk, jk, jk, jk, jk, jk, jk, jk, jk, jk, jk, jk,
                                      jk, jk, jk, jk, jk, jk, jk, jk, jk, jk, jk, jk, jk, jk, jk, jk, jk, jk, jk, jk, jk, jk,
                                      jk, jk, jk, jk, jk, jk, jk, jk, jk, jk, jk, jk, jk, jk, jk, jk, jk, jk, jk, jk, jk, jk,
                                      jk, jk, jk, jk, jk, jk, jk]
                                    [some (Blk.mk (42) false false true (Data.tab (2) nl fun i => [AV.int IntKind.i64 false (cl i), AV.int IntKind.i64 false (ql i)]))]))
                              (Tree.br
                                (selZ
                                    (ok4
                                      (selZ (sok4 x11 x12 x13 x8 (IntKind.wrap IntKind.i64 (amongZ (cl i) (4294967297 : Int) - (2147483648 : Int))) (IntKind.wrap IntKind.i64 ((1 : Int) + amongZ (ql i) (60000 : Int))))
                                        (min (1125899906842624000 : Int)
                                            (x11 * (1000 : Int) + x12 +
                                              sizeZ (IntKind.wrap IntKind.i64 (amongZ (cl i) (4294967297 : Int) - (2147483648 : Int))) * IntKind.wrap IntKind.i64 ((1 : Int) + amongZ (ql i) (60000 : Int))) /
                                          (1000 : Int)))
                                      (selZ (sok4 x11 x12 x13 x8 (IntKind.wrap IntKind.i64 (amongZ (cl i) (4294967297 : Int) - (2147483648 : Int))) (IntKind.wrap IntKind.i64 ((1 : Int) + amongZ (ql i) (60000 : Int))))
                                        (min (1125899906842624000 : Int)
                                            (x11 * (1000 : Int) + x12 +
                                              sizeZ (IntKind.wrap IntKind.i64 (amongZ (cl i) (4294967297 : Int) - (2147483648 : Int))) * IntKind.wrap IntKind.i64 ((1 : Int) + amongZ (ql i) (60000 : Int))) %
                                          (1000 : Int)))
                                      (selZ (sok4 x11 x12 x13 x8 (IntKind.wrap IntKind.i64 (amongZ (cl i) (4294967297 : Int) - (2147483648 : Int))) (IntKind.wrap IntKind.i64 ((1 : Int) + amongZ (ql i) (60000 : Int))))
                                        (max x13
                                          (min
                                            (min (1125899906842624000 : Int)
                                                    (x11 * (1000 : Int) + x12 +
                                                      sizeZ (IntKind.wrap IntKind.i64 (amongZ (cl i) (4294967297 : Int) - (2147483648 : Int))) * IntKind.wrap IntKind.i64 ((1 : Int) + amongZ (ql i) (60000 : Int))) /
                                                  (1000 : Int) /
                                                (2 : Int) /
                                              x8)
                                            (2147483647 : Int))))
                                      (selZ (sok4 x11 x12 x13 x8 (IntKind.wrap IntKind.i64 (amongZ (cl i) (4294967297 : Int) - (2147483648 : Int))) (IntKind.wrap IntKind.i64 ((1 : Int) + amongZ (ql i) (60000 : Int))))
                                        x8))
                                    (selZ (sok4 x11 x12 x13 x8 (IntKind.wrap IntKind.i64 (amongZ (cl i) (4294967297 : Int) - (2147483648 : Int))) (IntKind.wrap IntKind.i64 ((1 : Int) + amongZ (ql i) (60000 : Int))))
                                          (min (1125899906842624000 : Int)
                                              (x11 * (1000 : Int) + x12 +
                                                sizeZ (IntKind.wrap IntKind.i64 (amongZ (cl i) (4294967297 : Int) - (2147483648 : Int))) * IntKind.wrap IntKind.i64 ((1 : Int) + amongZ (ql i) (60000 : Int))) /
                                            (1000 : Int)) *
                                        (1000 : Int) +
                                      selZ (sok4 x11 x12 x13 x8 (IntKind.wrap IntKind.i64 (amongZ (cl i) (4294967297 : Int) - (2147483648 : Int))) (IntKind.wrap IntKind.i64 ((1 : Int) + amongZ (ql i) (60000 : Int))))
                                        (min (1125899906842624000 : Int)
                                            (x11 * (1000 : Int) + x12 +
                                              sizeZ (IntKind.wrap IntKind.i64 (amongZ (cl i) (4294967297 : Int) - (2147483648 : Int))) * IntKind.wrap IntKind.i64 ((1 : Int) + amongZ (ql i) (60000 : Int))) %
                                          (1000 : Int))) !=
                                  if
                                      IntKind.wrap IntKind.i64
                                          (t +
                                            IntKind.wrap IntKind.i64
                                              ((if
                                                    IntKind.wrap IntKind.i64 ((0 : Int) - IntKind.wrap IntKind.i64 (amongZ (cl i) (4294967297 : Int) - (2147483648 : Int))) >
                                                      IntKind.wrap IntKind.i64 (amongZ (cl i) (4294967297 : Int) - (2147483648 : Int)) then
                                                  IntKind.wrap IntKind.i64 ((0 : Int) - IntKind.wrap IntKind.i64 (amongZ (cl i) (4294967297 : Int) - (2147483648 : Int)))
                                                else IntKind.wrap IntKind.i64 (amongZ (cl i) (4294967297 : Int) - (2147483648 : Int))) *
                                                IntKind.wrap IntKind.i64 ((1 : Int) + amongZ (ql i) (60000 : Int)))) <
                                        (1125899906842624000 : Int) then
                                    IntKind.wrap IntKind.i64
                                      (t +
                                        IntKind.wrap IntKind.i64
                                          ((if
                                                IntKind.wrap IntKind.i64 ((0 : Int) - IntKind.wrap IntKind.i64 (amongZ (cl i) (4294967297 : Int) - (2147483648 : Int))) >
                                                  IntKind.wrap IntKind.i64 (amongZ (cl i) (4294967297 : Int) - (2147483648 : Int)) then
                                              IntKind.wrap IntKind.i64 ((0 : Int) - IntKind.wrap IntKind.i64 (amongZ (cl i) (4294967297 : Int) - (2147483648 : Int)))
                                            else IntKind.wrap IntKind.i64 (amongZ (cl i) (4294967297 : Int) - (2147483648 : Int))) *
                                            IntKind.wrap IntKind.i64 ((1 : Int) + amongZ (ql i) (60000 : Int))))
                                  else (1125899906842624000 : Int))
                                (Tree.ret
                                  (Ex.ret,
                                    St.mk
                                      [jk, jk, jk, jk, jk, jk, jk, jk, jk, jk, jk, jk, jk, jk, jk, jk, jk, jk, jk, jk, jk, jk,
                                        jk, jk, jk, jk, jk, jk, jk, jk, jk, jk, jk, jk, jk, jk, jk, jk, jk, jk, jk, jk, jk, jk,
                                        jk, jk, jk, jk, jk, jk, jk, jk, jk, jk, jk, jk, jk, jk, jk, jk, jk, jk, jk, jk, jk, jk,
                                        jk, jk, jk, jk, jk, jk, jk, jk, jk, jk, jk, jk, jk, jk, jk, jk, jk, jk, jk, jk, jk, jk,
                                        jk, jk, jk, jk, jk, jk, jk, jk, jk, jk, jk, jk, jk, jk, jk, jk, jk, jk, jk, jk, jk, jk,
                                        jk, jk, jk, jk, jk, jk, jk]
                                      [some (Blk.mk (42) false false true (Data.tab (2) nl fun i => [AV.int IntKind.i64 false (cl i), AV.int IntKind.i64 false (ql i)]))]))
                                (Tree.br
                                  (decide
                                    (selZ (sok4 x11 x12 x13 x8 (IntKind.wrap IntKind.i64 (amongZ (cl i) (4294967297 : Int) - (2147483648 : Int))) (IntKind.wrap IntKind.i64 ((1 : Int) + amongZ (ql i) (60000 : Int))))
                                        (max x13
                                          (min
                                            (min (1125899906842624000 : Int)
                                                    (x11 * (1000 : Int) + x12 +
                                                      sizeZ (IntKind.wrap IntKind.i64 (amongZ (cl i) (4294967297 : Int) - (2147483648 : Int))) * IntKind.wrap IntKind.i64 ((1 : Int) + amongZ (ql i) (60000 : Int))) /
                                                  (1000 : Int) /
                                                (2 : Int) /
                                              x8)
                                            (2147483647 : Int))) <
                                      x13))
                                  (Tree.ret
                                    (Ex.ret,
                                      St.mk
                                        [jk, jk, jk, jk, jk, jk, jk, jk, jk, jk, jk, jk, jk, jk, jk, jk, jk, jk, jk, jk, jk, jk,
                                          jk, jk, jk, jk, jk, jk, jk, jk, jk, jk, jk, jk, jk, jk, jk, jk, jk, jk, jk, jk, jk, jk,
                                          jk, jk, jk, jk, jk, jk, jk, jk, jk, jk, jk, jk, jk, jk, jk, jk, jk, jk, jk, jk, jk, jk,
                                          jk, jk, jk, jk, jk, jk, jk, jk, jk, jk, jk, jk, jk, jk, jk, jk, jk, jk, jk, jk, jk, jk,
                                          jk, jk, jk, jk, jk, jk, jk, jk, jk, jk, jk, jk, jk, jk, jk, jk, jk, jk, jk, jk, jk, jk,
                                          jk, jk, jk, jk, jk, jk, jk]
                                        [some (Blk.mk (42) false false true (Data.tab (2) nl fun i => [AV.int IntKind.i64 false (cl i), AV.int IntKind.i64 false (ql i)]))]))
                                  (Tree.ret
                                    (Ex.norm,
                                      St.mk
                                        [jk, AV.sl zl (Ref.mk (0) (0) (0) (0)) false nl Cap.any, AV.ptr (Ref.mk (1) (0) (0) (0)), jk, jk,
                                          AV.int IntKind.i64 false
                                            (selZ
                                              (ok4
                                                (selZ
                                                  (sok4 x11 x12 x13 x8 (IntKind.wrap IntKind.i64 (amongZ (cl i) (4294967297 : Int) - (2147483648 : Int)))
                                                    (IntKind.wrap IntKind.i64 ((1 : Int) + amongZ (ql i) (60000 : Int))))
                                                  (min (1125899906842624000 : Int)
                                                      (x11 * (1000 : Int) + x12 +
                                                        sizeZ (IntKind.wrap IntKind.i64 (amongZ (cl i) (4294967297 : Int) - (2147483648 : Int))) * IntKind.wrap IntKind.i64 ((1 : Int) + amongZ (ql i) (60000 : Int))) /
                                                    (1000 : Int)))
                                                (selZ
                                                  (sok4 x11 x12 x13 x8 (IntKind.wrap IntKind.i64 (amongZ (cl i) (4294967297 : Int) - (2147483648 : Int)))
                                                    (IntKind.wrap IntKind.i64 ((1 : Int) + amongZ (ql i) (60000 : Int))))
                                                  (min (1125899906842624000 : Int)
                                                      (x11 * (1000 : Int) + x12 +
                                                        sizeZ (IntKind.wrap IntKind.i64 (amongZ (cl i) (4294967297 : Int) - (2147483648 : Int))) * IntKind.wrap IntKind.i64 ((1 : Int) + amongZ (ql i) (60000 : Int))) %
                                                    (1000 : Int)))
                                                (selZ
                                                  (sok4 x11 x12 x13 x8 (IntKind.wrap IntKind.i64 (amongZ (cl i) (4294967297 : Int) - (2147483648 : Int)))
                                                    (IntKind.wrap IntKind.i64 ((1 : Int) + amongZ (ql i) (60000 : Int))))
                                                  (max x13
                                                    (min
                                                      (min (1125899906842624000 : Int)
                                                              (x11 * (1000 : Int) + x12 +
                                                                sizeZ (IntKind.wrap IntKind.i64 (amongZ (cl i) (4294967297 : Int) - (2147483648 : Int))) * IntKind.wrap IntKind.i64 ((1 : Int) + amongZ (ql i) (60000 : Int))) /
                                                            (1000 : Int) /
                                                          (2 : Int) /
                                                        x8)
                                                      (2147483647 : Int))))
                                                (selZ
                                                  (sok4 x11 x12 x13 x8 (IntKind.wrap IntKind.i64 (amongZ (cl i) (4294967297 : Int) - (2147483648 : Int)))
                                                    (IntKind.wrap IntKind.i64 ((1 : Int) + amongZ (ql i) (60000 : Int))))
                                                  x8))
                                              (selZ
                                                    (sok4 x11 x12 x13 x8 (IntKind.wrap IntKind.i64 (amongZ (cl i) (4294967297 : Int) - (2147483648 : Int)))
                                                      (IntKind.wrap IntKind.i64 ((1 : Int) + amongZ (ql i) (60000 : Int))))
                                                    (min (1125899906842624000 : Int)
                                                        (x11 * (1000 : Int) + x12 +
                                                          sizeZ (IntKind.wrap IntKind.i64 (amongZ (cl i) (4294967297 : Int) - (2147483648 : Int))) * IntKind.wrap IntKind.i64 ((1 : Int) + amongZ (ql i) (60000 : Int))) /
                                                      (1000 : Int)) *
                                                  (1000 : Int) +
                                                selZ
                                                  (sok4 x11 x12 x13 x8 (IntKind.wrap IntKind.i64 (amongZ (cl i) (4294967297 : Int) - (2147483648 : Int)))
                                                    (IntKind.wrap IntKind.i64 ((1 : Int) + amongZ (ql i) (60000 : Int))))
                                                  (min (1125899906842624000 : Int)
                                                      (x11 * (1000 : Int) + x12 +
                                                        sizeZ (IntKind.wrap IntKind.i64 (amongZ (cl i) (4294967297 : Int) - (2147483648 : Int))) * IntKind.wrap IntKind.i64 ((1 : Int) + amongZ (ql i) (60000 : Int))) %
                                                    (1000 : Int)))),
                                          jk, AV.int IntKind.i64 false (IntKind.wrap IntKind.i64 ((i : Int) + (1 : Int))), jk, jk, jk, jk, jk, jk, jk, jk, jk, jk, jk, jk, jk,
                                          jk, jk, jk, jk, jk, jk, jk, jk, jk, jk, jk, jk, jk, jk, jk, jk, jk, jk, jk, jk, jk, jk,
                                          jk, jk, jk, jk, jk, jk, jk, jk, jk, jk, jk, jk, jk, jk, jk, jk, jk, jk, jk, jk, jk, jk,
                                          jk, jk, jk, jk, jk, jk, jk, jk, jk, jk, jk, jk, jk, jk, jk, jk, jk, jk, jk, jk, jk, jk,
                                          jk, jk, jk, jk, jk, jk, jk, jk, jk, jk, jk, jk, jk, jk, jk, jk, jk, jk, jk, jk, jk, jk,
                                          jk, jk, jk, jk, jk, jk, jk, jk]
                                        [some (Blk.mk (42) false false true (Data.tab (2) nl fun i => [AV.int IntKind.i64 false (cl i), AV.int IntKind.i64 false (ql i)])),
                                          some
                                            (Blk.mk (40) true false false
                                              (Data.cells
                                                [AV.int IntKind.i64 false
                                                    (selZ
                                                      (sok4 x11 x12 x13 x8 (IntKind.wrap IntKind.i64 (amongZ (cl i) (4294967297 : Int) - (2147483648 : Int)))
                                                        (IntKind.wrap IntKind.i64 ((1 : Int) + amongZ (ql i) (60000 : Int))))
                                                      x0),
                                                  AV.int IntKind.i64 false
                                                    (selZ
                                                      (sok4 x11 x12 x13 x8 (IntKind.wrap IntKind.i64 (amongZ (cl i) (4294967297 : Int) - (2147483648 : Int)))
                                                        (IntKind.wrap IntKind.i64 ((1 : Int) + amongZ (ql i) (60000 : Int))))
                                                      x1),
                                                  AV.int IntKind.i64 false
                                                    (selZ
                                                      (sok4 x11 x12 x13 x8 (IntKind.wrap IntKind.i64 (amongZ (cl i) (4294967297 : Int) - (2147483648 : Int)))
                                                        (IntKind.wrap IntKind.i64 ((1 : Int) + amongZ (ql i) (60000 : Int))))
                                                      x2),
                                                  AV.int IntKind.i64 false
                                                    (selZ
                                                      (sok4 x11 x12 x13 x8 (IntKind.wrap IntKind.i64 (amongZ (cl i) (4294967297 : Int) - (2147483648 : Int)))
                                                        (IntKind.wrap IntKind.i64 ((1 : Int) + amongZ (ql i) (60000 : Int))))
                                                      x3),
                                                  AV.int IntKind.i64 false
                                                    (selZ
                                                      (sok4 x11 x12 x13 x8 (IntKind.wrap IntKind.i64 (amongZ (cl i) (4294967297 : Int) - (2147483648 : Int)))
                                                        (IntKind.wrap IntKind.i64 ((1 : Int) + amongZ (ql i) (60000 : Int))))
                                                      x4),
                                                  AV.int IntKind.i64 false
                                                    (selZ
                                                      (sok4 x11 x12 x13 x8 (IntKind.wrap IntKind.i64 (amongZ (cl i) (4294967297 : Int) - (2147483648 : Int)))
                                                        (IntKind.wrap IntKind.i64 ((1 : Int) + amongZ (ql i) (60000 : Int))))
                                                      x5),
                                                  AV.int IntKind.i64 false
                                                    (selZ
                                                      (sok4 x11 x12 x13 x8 (IntKind.wrap IntKind.i64 (amongZ (cl i) (4294967297 : Int) - (2147483648 : Int)))
                                                        (IntKind.wrap IntKind.i64 ((1 : Int) + amongZ (ql i) (60000 : Int))))
                                                      x6),
                                                  AV.int IntKind.i64 false
                                                    (selZ
                                                      (sok4 x11 x12 x13 x8 (IntKind.wrap IntKind.i64 (amongZ (cl i) (4294967297 : Int) - (2147483648 : Int)))
                                                        (IntKind.wrap IntKind.i64 ((1 : Int) + amongZ (ql i) (60000 : Int))))
                                                      x7),
                                                  AV.int IntKind.i64 false
                                                    (selZ
                                                      (sok4 x11 x12 x13 x8 (IntKind.wrap IntKind.i64 (amongZ (cl i) (4294967297 : Int) - (2147483648 : Int)))
                                                        (IntKind.wrap IntKind.i64 ((1 : Int) + amongZ (ql i) (60000 : Int))))
                                                      x8),
                                                  AV.int IntKind.i64 false
                                                    (selZ
                                                      (sok4 x11 x12 x13 x8 (IntKind.wrap IntKind.i64 (amongZ (cl i) (4294967297 : Int) - (2147483648 : Int)))
                                                        (IntKind.wrap IntKind.i64 ((1 : Int) + amongZ (ql i) (60000 : Int))))
                                                      x9),
                                                  AV.int IntKind.i64 false
                                                    (selZ
                                                      (sok4 x11 x12 x13 x8 (IntKind.wrap IntKind.i64 (amongZ (cl i) (4294967297 : Int) - (2147483648 : Int)))
                                                        (IntKind.wrap IntKind.i64 ((1 : Int) + amongZ (ql i) (60000 : Int))))
                                                      x10),
                                                  AV.int IntKind.i64 false
                                                    (selZ
                                                      (sok4 x11 x12 x13 x8 (IntKind.wrap IntKind.i64 (amongZ (cl i) (4294967297 : Int) - (2147483648 : Int)))
                                                        (IntKind.wrap IntKind.i64 ((1 : Int) + amongZ (ql i) (60000 : Int))))
                                                      (min (1125899906842624000 : Int)
                                                          (x11 * (1000 : Int) + x12 +
                                                            sizeZ (IntKind.wrap IntKind.i64 (amongZ (cl i) (4294967297 : Int) - (2147483648 : Int))) * IntKind.wrap IntKind.i64 ((1 : Int) + amongZ (ql i) (60000 : Int))) /
                                                        (1000 : Int))),
                                                  AV.int IntKind.i64 false
                                                    (selZ
                                                      (sok4 x11 x12 x13 x8 (IntKind.wrap IntKind.i64 (amongZ (cl i) (4294967297 : Int) - (2147483648 : Int)))
                                                        (IntKind.wrap IntKind.i64 ((1 : Int) + amongZ (ql i) (60000 : Int))))
                                                      (min (1125899906842624000 : Int)
                                                          (x11 * (1000 : Int) + x12 +
                                                            sizeZ (IntKind.wrap IntKind.i64 (amongZ (cl i) (4294967297 : Int) - (2147483648 : Int))) * IntKind.wrap IntKind.i64 ((1 : Int) + amongZ (ql i) (60000 : Int))) %
                                                        (1000 : Int))),
                                                  AV.int IntKind.i64 false
                                                    (selZ
                                                      (sok4 x11 x12 x13 x8 (IntKind.wrap IntKind.i64 (amongZ (cl i) (4294967297 : Int) - (2147483648 : Int)))
                                                        (IntKind.wrap IntKind.i64 ((1 : Int) + amongZ (ql i) (60000 : Int))))
                                                      (max x13
                                                        (min
                                                          (min (1125899906842624000 : Int)
                                                                  (x11 * (1000 : Int) + x12 +
                                                                    sizeZ (IntKind.wrap IntKind.i64 (amongZ (cl i) (4294967297 : Int) - (2147483648 : Int))) * IntKind.wrap IntKind.i64 ((1 : Int) + amongZ (ql i) (60000 : Int))) /
                                                                (1000 : Int) /
                                                              (2 : Int) /
                                                            x8)
                                                          (2147483647 : Int)))),
                                                  AV.int IntKind.i64 false
                                                    (selZ
                                                      (sok4 x11 x12 x13 x8 (IntKind.wrap IntKind.i64 (amongZ (cl i) (4294967297 : Int) - (2147483648 : Int)))
                                                        (IntKind.wrap IntKind.i64 ((1 : Int) + amongZ (ql i) (60000 : Int))))
                                                      x14),
                                                  AV.int IntKind.i64 false
                                                    (selZ
                                                      (sok4 x11 x12 x13 x8 (IntKind.wrap IntKind.i64 (amongZ (cl i) (4294967297 : Int) - (2147483648 : Int)))
                                                        (IntKind.wrap IntKind.i64 ((1 : Int) + amongZ (ql i) (60000 : Int))))
                                                      x15),
                                                  AV.int IntKind.i64 false
                                                    (selZ
                                                      (sok4 x11 x12 x13 x8 (IntKind.wrap IntKind.i64 (amongZ (cl i) (4294967297 : Int) - (2147483648 : Int)))
                                                        (IntKind.wrap IntKind.i64 ((1 : Int) + amongZ (ql i) (60000 : Int))))
                                                      x16),
                                                  AV.int IntKind.i64 false
                                                    (selZ
                                                      (sok4 x11 x12 x13 x8 (IntKind.wrap IntKind.i64 (amongZ (cl i) (4294967297 : Int) - (2147483648 : Int)))
                                                        (IntKind.wrap IntKind.i64 ((1 : Int) + amongZ (ql i) (60000 : Int))))
                                                      x17),
                                                  AV.int IntKind.i64 false
                                                    (selZ
                                                      (sok4 x11 x12 x13 x8 (IntKind.wrap IntKind.i64 (amongZ (cl i) (4294967297 : Int) - (2147483648 : Int)))
                                                        (IntKind.wrap IntKind.i64 ((1 : Int) + amongZ (ql i) (60000 : Int))))
                                                      x18),
                                                  AV.int IntKind.i64 false
                                                    (selZ
                                                      (sok4 x11 x12 x13 x8 (IntKind.wrap IntKind.i64 (amongZ (cl i) (4294967297 : Int) - (2147483648 : Int)))
                                                        (IntKind.wrap IntKind.i64 ((1 : Int) + amongZ (ql i) (60000 : Int))))
                                                      x19),
                                                  AV.int IntKind.i64 false
                                                    (selZ
                                                      (sok4 x11 x12 x13 x8 (IntKind.wrap IntKind.i64 (amongZ (cl i) (4294967297 : Int) - (2147483648 : Int)))
                                                        (IntKind.wrap IntKind.i64 ((1 : Int) + amongZ (ql i) (60000 : Int))))
                                                      x20),
                                                  AV.int IntKind.i64 false
                                                    (selZ
                                                      (sok4 x11 x12 x13 x8 (IntKind.wrap IntKind.i64 (amongZ (cl i) (4294967297 : Int) - (2147483648 : Int)))
                                                        (IntKind.wrap IntKind.i64 ((1 : Int) + amongZ (ql i) (60000 : Int))))
                                                      x21),
                                                  AV.int IntKind.i64 false
                                                    (selZ
                                                      (sok4 x11 x12 x13 x8 (IntKind.wrap IntKind.i64 (amongZ (cl i) (4294967297 : Int) - (2147483648 : Int)))
                                                        (IntKind.wrap IntKind.i64 ((1 : Int) + amongZ (ql i) (60000 : Int))))
                                                      x22)]))])))))))))))
                Tree.fail)
              Tree.fail))
          Tree.fail)
        Tree.fail)
      (Tree.ret
        (Ex.exit (0),
          St.mk
            [jk, jk, jk, jk, jk, jk, jk, jk, jk, jk, jk, jk, jk, jk, jk, jk, jk, jk, jk, jk, jk, jk, jk, jk, jk,
              jk, jk, jk, jk, jk, jk, jk, jk, jk, jk, jk, jk, jk, jk, jk, jk, jk, jk, jk, jk, jk, jk, jk, jk, jk,
              jk, jk, jk, jk, jk, jk, jk, jk, jk, jk, jk, jk, jk, jk, jk, jk, jk, jk, jk, jk, jk, jk, jk, jk, jk,
              jk, jk, jk, jk, jk, jk, jk, jk, jk, jk, jk, jk, jk, jk, jk, jk, jk, jk, jk, jk, jk, jk, jk, jk, jk,
              jk, jk, jk, jk, jk, jk, jk, jk, jk, jk, jk, jk, jk, jk, jk, jk, jk]
            [some (Blk.mk (42) false false true (Data.tab (2) nl fun i => [AV.int IntKind.i64 false (cl i), AV.int IntKind.i64 false (ql i)]))])))
    (Tree.ret
      (Ex.exit (0),
        St.mk
          [jk, jk, jk, jk, jk, jk, jk, jk, jk, jk, jk, jk, jk, jk, jk, jk, jk, jk, jk, jk, jk, jk, jk, jk, jk,
            jk, jk, jk, jk, jk, jk, jk, jk, jk, jk, jk, jk, jk, jk, jk, jk, jk, jk, jk, jk, jk, jk, jk, jk, jk,
            jk, jk, jk, jk, jk, jk, jk, jk, jk, jk, jk, jk, jk, jk, jk, jk, jk, jk, jk, jk, jk, jk, jk, jk, jk,
            jk, jk, jk, jk, jk, jk, jk, jk, jk, jk, jk, jk, jk, jk, jk, jk, jk, jk, jk, jk, jk, jk, jk, jk, jk,
            jk, jk, jk, jk, jk, jk, jk, jk, jk, jk, jk, jk, jk, jk, jk, jk, jk]
          [some (Blk.mk (42) false false true (Data.tab (2) nl fun i => [AV.int IntKind.i64 false (cl i), AV.int IntKind.i64 false (ql i)]))])) : Tree (Ex × St)).Sat (Post hdCycleExact_0 resCycleExact_0 muCycleExact_0 ⟨zl, nl, cl, ql, x0, x1, x2, x3, x4, x5, x6, x7, x8, x9, x10, x11, x12, x13, x14, x15, x16, x17, x18, x19, x20, x21, x22, t, i⟩ ex r) := by
  simp only [okCycleExact_0, outCycleExact_0, Tree.runs] at hok hr
  obtain ⟨hk, ht, hi, hn, hz⟩ := hok
  subst ht
  have qa := amongZ_in (a := cl i) (b := 4294967297) (by omega)
  have qb := amongZ_in (a := ql i) (b := 60000) (by omega)
  generalize amongZ (cl i) 4294967297 = A at *
  generalize amongZ (ql i) 60000 = B at *
  have e1 : IntKind.i64.wrap (A - 2147483648) = A - 2147483648 := by rw [w64]; omega
  have e2 : IntKind.i64.wrap (0 - (A - 2147483648)) = -(A - 2147483648) := by rw [w64]; omega
  have e3 : IntKind.i64.wrap (1 + B) = 1 + B := by rw [w64]; omega
  simp only [e1, e2, e3]
  have pb : -2147483648 ≤ A - 2147483648 ∧ A - 2147483648 ≤ 2147483648 := by omega
  have kb : 1 ≤ 1 + B ∧ 1 + B ≤ 60000 := by omega
  generalize A - 2147483648 = p at *
  generalize 1 + B = k at *
  clear qa qb e1 e2 e3
  have hs : sok4 x11 x12 x13 x8 p k = true := sok4_iff.2 ⟨hk, (sizeZ_iff (by omega)).2 (by omega), by omega, by omega⟩
  have hs2 : sok4 x11 x12 x13 x8 (-p) k = true := sok4_iff.2 ⟨hk, (sizeZ_iff (by omega)).2 (by omega), by omega, by omega⟩
  have hz2 : sizeZ (-p) = sizeZ p := by unfold sizeZ; (repeat' split) <;> omega
  have hz3 : (if -p > p then -p else p) = sizeZ p := by unfold sizeZ; (repeat' split) <;> omega
  obtain ⟨f1, f2, f3, f4, f5, f6, f7, f8, f9, f10, f11⟩ := step_facts (a := p) (b := k) (by omega) hs
  have hw : IntKind.i64.wrap (x11 * 1000 + x12 + sizeZ p * k) = x11 * 1000 + x12 + sizeZ p * k := by rw [w64]; omega
  have hif : (if x11 * 1000 + x12 + sizeZ p * k < 1125899906842624000 then x11 * 1000 + x12 + sizeZ p * k else 1125899906842624000) = min 1125899906842624000 (x11 * 1000 + x12 + sizeZ p * k) := by split <;> omega
  simp only [hs, hs2, hz2, hz3, f2, hw, hif, selZ_t, errZ_t, selZ_f]
  clear hs hs2 hz2 hz3 hw hif f1 f2 f7
  generalize min 1125899906842624000 (x11 * 1000 + x12 + sizeZ p * k) = NW at *
  have h11b := hk
  simp only [ok4, decide_eq_true_eq] at h11b
  have p1 : 0 ≤ NW / 1000 / 2 / x8 := Int.ediv_nonneg (by omega) (by omega)
  have okn : ok4 (NW / 1000) (NW % 1000) (max x13 (min (NW / 1000 / 2 / x8) 2147483647)) x8 = true := by simp only [ok4, decide_eq_true_eq]; omega
  have eN : NW / 1000 * 1000 + NW % 1000 = NW := by omega
  have eb : (NW != NW) = false := bne_self_eq_false NW
  simp only [okn, selZ_t, errZ_t, eN, eb, errZ_bne, errZ_beq, Bool.not_false, Bool.true_eq_false, Bool.false_eq_true, b00]
  refine Tree.Sat.br (fun h1 => ?_) (fun h1 => ?_)
  · (try simp only [decide_eq_true_eq, decide_eq_false_iff_not, Bool.not_eq_true', Bool.not_eq_false', beq_iff_eq, beq_eq_false_iff_ne, Int.not_lt, Int.not_le, ge_iff_le, gt_iff_lt, ne_eq, Bool.false_eq_true, Bool.true_eq_false, not_true_eq_false, not_false_eq_true, Bool.and_eq_true, Bool.not_eq_eq_eq_not, Bool.not_true, Bool.not_false, bne_iff_ne, bne_eq_false_iff_eq, Int.toNat_natCast, Nat.mul_one, Nat.add_zero, Nat.zero_add, List.take_length, List.drop_zero, errZ_bne, errZ_beq] at h1)
    all_goals
      refine Tree.Sat.br (fun h2 => ?_) (fun h2 => ?_)
      · (try simp only [decide_eq_true_eq, decide_eq_false_iff_not, Bool.not_eq_true', Bool.not_eq_false', beq_iff_eq, beq_eq_false_iff_ne, Int.not_lt, Int.not_le, ge_iff_le, gt_iff_lt, ne_eq, Bool.false_eq_true, Bool.true_eq_false, not_true_eq_false, not_false_eq_true, Bool.and_eq_true, Bool.not_eq_eq_eq_not, Bool.not_true, Bool.not_false, bne_iff_ne, bne_eq_false_iff_eq, Int.toNat_natCast, Nat.mul_one, Nat.add_zero, Nat.zero_add, List.take_length, List.drop_zero, errZ_bne, errZ_beq] at h2)
        all_goals
          refine Tree.Sat.br (fun h3 => ?_) (fun h3 => ?_)
          · (try simp only [decide_eq_true_eq, decide_eq_false_iff_not, Bool.not_eq_true', Bool.not_eq_false', beq_iff_eq, beq_eq_false_iff_ne, Int.not_lt, Int.not_le, ge_iff_le, gt_iff_lt, ne_eq, Bool.false_eq_true, Bool.true_eq_false, not_true_eq_false, not_false_eq_true, Bool.and_eq_true, Bool.not_eq_eq_eq_not, Bool.not_true, Bool.not_false, bne_iff_ne, bne_eq_false_iff_eq, Int.toNat_natCast, Nat.mul_one, Nat.add_zero, Nat.zero_add, List.take_length, List.drop_zero, errZ_bne, errZ_beq] at h3)
            all_goals
              refine Tree.Sat.br (fun h4 => ?_) (fun h4 => ?_)
              · (try simp only [decide_eq_true_eq, decide_eq_false_iff_not, Bool.not_eq_true', Bool.not_eq_false', beq_iff_eq, beq_eq_false_iff_ne, Int.not_lt, Int.not_le, ge_iff_le, gt_iff_lt, ne_eq, Bool.false_eq_true, Bool.true_eq_false, not_true_eq_false, not_false_eq_true, Bool.and_eq_true, Bool.not_eq_eq_eq_not, Bool.not_true, Bool.not_false, bne_iff_ne, bne_eq_false_iff_eq, Int.toNat_natCast, Nat.mul_one, Nat.add_zero, Nat.zero_add, List.take_length, List.drop_zero, errZ_bne, errZ_beq] at h4)
                all_goals
                  refine Tree.Sat.chk (by first | (simp only [and_self]; done) | (omega)) ?_
                  refine Tree.Sat.br (fun h5 => ?_) (fun h5 => ?_)
                  · (try simp only [decide_eq_true_eq, decide_eq_false_iff_not, Bool.not_eq_true', Bool.not_eq_false', beq_iff_eq, beq_eq_false_iff_ne, Int.not_lt, Int.not_le, ge_iff_le, gt_iff_lt, ne_eq, Bool.false_eq_true, Bool.true_eq_false, not_true_eq_false, not_false_eq_true, Bool.and_eq_true, Bool.not_eq_eq_eq_not, Bool.not_true, Bool.not_false, bne_iff_ne, bne_eq_false_iff_eq, Int.toNat_natCast, Nat.mul_one, Nat.add_zero, Nat.zero_add, List.take_length, List.drop_zero, errZ_bne, errZ_beq] at h5)
                    all_goals
                      refine Tree.Sat.br (fun h6 => ?_) (fun h6 => ?_)
                      · (try simp only [decide_eq_true_eq, decide_eq_false_iff_not, Bool.not_eq_true', Bool.not_eq_false', beq_iff_eq, beq_eq_false_iff_ne, Int.not_lt, Int.not_le, ge_iff_le, gt_iff_lt, ne_eq, Bool.false_eq_true, Bool.true_eq_false, not_true_eq_false, not_false_eq_true, Bool.and_eq_true, Bool.not_eq_eq_eq_not, Bool.not_true, Bool.not_false, bne_iff_ne, bne_eq_false_iff_eq, Int.toNat_natCast, Nat.mul_one, Nat.add_zero, Nat.zero_add, List.take_length, List.drop_zero, errZ_bne, errZ_beq] at h6)
                        all_goals
                          refine Tree.Sat.chk (by first | (simp only [and_self]; done) | (omega)) ?_
                          refine Tree.Sat.chk (by first | (simp only [and_self]; done) | (omega)) ?_
                          refine Tree.Sat.chk (by first | (simp only [and_self]; done) | (omega)) ?_
                          refine Tree.Sat.br (fun h7 => ?_) (fun h7 => ?_)
                          · (try simp only [decide_eq_true_eq, decide_eq_false_iff_not, Bool.not_eq_true', Bool.not_eq_false', beq_iff_eq, beq_eq_false_iff_ne, Int.not_lt, Int.not_le, ge_iff_le, gt_iff_lt, ne_eq, Bool.false_eq_true, Bool.true_eq_false, not_true_eq_false, not_false_eq_true, Bool.and_eq_true, Bool.not_eq_eq_eq_not, Bool.not_true, Bool.not_false, bne_iff_ne, bne_eq_false_iff_eq, Int.toNat_natCast, Nat.mul_one, Nat.add_zero, Nat.zero_add, List.take_length, List.drop_zero, errZ_bne, errZ_beq] at h7)
                            all_goals
                              refine Tree.Sat.ret ?_
                              exfalso
                              first | omega | (cases zl <;> simp_all <;> omega)
                          · (try simp only [decide_eq_true_eq, decide_eq_false_iff_not, Bool.not_eq_true', Bool.not_eq_false', beq_iff_eq, beq_eq_false_iff_ne, Int.not_lt, Int.not_le, ge_iff_le, gt_iff_lt, ne_eq, Bool.false_eq_true, Bool.true_eq_false, not_true_eq_false, not_false_eq_true, Bool.and_eq_true, Bool.not_eq_eq_eq_not, Bool.not_true, Bool.not_false, bne_iff_ne, bne_eq_false_iff_eq, Int.toNat_natCast, Nat.mul_one, Nat.add_zero, Nat.zero_add, List.take_length, List.drop_zero, errZ_bne, errZ_beq] at h7)
                            all_goals
                              refine Tree.Sat.br (fun h8 => ?_) (fun h8 => ?_)
                              · (try simp only [decide_eq_true_eq, decide_eq_false_iff_not, Bool.not_eq_true', Bool.not_eq_false', beq_iff_eq, beq_eq_false_iff_ne, Int.not_lt, Int.not_le, ge_iff_le, gt_iff_lt, ne_eq, Bool.false_eq_true, Bool.true_eq_false, not_true_eq_false, not_false_eq_true, Bool.and_eq_true, Bool.not_eq_eq_eq_not, Bool.not_true, Bool.not_false, bne_iff_ne, bne_eq_false_iff_eq, Int.toNat_natCast, Nat.mul_one, Nat.add_zero, Nat.zero_add, List.take_length, List.drop_zero, errZ_bne, errZ_beq] at h8)
                                all_goals
                                  refine Tree.Sat.ret ?_
                                  exfalso
                                  first | omega | (cases zl <;> simp_all <;> omega)
                              · (try simp only [decide_eq_true_eq, decide_eq_false_iff_not, Bool.not_eq_true', Bool.not_eq_false', beq_iff_eq, beq_eq_false_iff_ne, Int.not_lt, Int.not_le, ge_iff_le, gt_iff_lt, ne_eq, Bool.false_eq_true, Bool.true_eq_false, not_true_eq_false, not_false_eq_true, Bool.and_eq_true, Bool.not_eq_eq_eq_not, Bool.not_true, Bool.not_false, bne_iff_ne, bne_eq_false_iff_eq, Int.toNat_natCast, Nat.mul_one, Nat.add_zero, Nat.zero_add, List.take_length, List.drop_zero, errZ_bne, errZ_beq] at h8)
                                all_goals
                                  refine Tree.Sat.br (fun h9 => ?_) (fun h9 => ?_)
                                  · (try simp only [decide_eq_true_eq, decide_eq_false_iff_not, Bool.not_eq_true', Bool.not_eq_false', beq_iff_eq, beq_eq_false_iff_ne, Int.not_lt, Int.not_le, ge_iff_le, gt_iff_lt, ne_eq, Bool.false_eq_true, Bool.true_eq_false, not_true_eq_false, not_false_eq_true, Bool.and_eq_true, Bool.not_eq_eq_eq_not, Bool.not_true, Bool.not_false, bne_iff_ne, bne_eq_false_iff_eq, Int.toNat_natCast, Nat.mul_one, Nat.add_zero, Nat.zero_add, List.take_length, List.drop_zero, errZ_bne, errZ_beq] at h9)
                                    all_goals
                                      refine Tree.Sat.ret ?_
                                      exfalso
                                      first | omega | (cases zl <;> simp_all <;> omega)
                                  · (try simp only [decide_eq_true_eq, decide_eq_false_iff_not, Bool.not_eq_true', Bool.not_eq_false', beq_iff_eq, beq_eq_false_iff_ne, Int.not_lt, Int.not_le, ge_iff_le, gt_iff_lt, ne_eq, Bool.false_eq_true, Bool.true_eq_false, not_true_eq_false, not_false_eq_true, Bool.and_eq_true, Bool.not_eq_eq_eq_not, Bool.not_true, Bool.not_false, bne_iff_ne, bne_eq_false_iff_eq, Int.toNat_natCast, Nat.mul_one, Nat.add_zero, Nat.zero_add, List.take_length, List.drop_zero, errZ_bne, errZ_beq] at h9)
                                    all_goals
                                      refine Tree.Sat.br (fun h10 => ?_) (fun h10 => ?_)
                                      · (try simp only [decide_eq_true_eq, decide_eq_false_iff_not, Bool.not_eq_true', Bool.not_eq_false', beq_iff_eq, beq_eq_false_iff_ne, Int.not_lt, Int.not_le, ge_iff_le, gt_iff_lt, ne_eq, Bool.false_eq_true, Bool.true_eq_false, not_true_eq_false, not_false_eq_true, Bool.and_eq_true, Bool.not_eq_eq_eq_not, Bool.not_true, Bool.not_false, bne_iff_ne, bne_eq_false_iff_eq, Int.toNat_natCast, Nat.mul_one, Nat.add_zero, Nat.zero_add, List.take_length, List.drop_zero, errZ_bne, errZ_beq] at h10)
                                        all_goals
                                          refine Tree.Sat.ret ?_
                                          exfalso
                                          first | omega | (cases zl <;> simp_all <;> omega)
                                      · (try simp only [decide_eq_true_eq, decide_eq_false_iff_not, Bool.not_eq_true', Bool.not_eq_false', beq_iff_eq, beq_eq_false_iff_ne, Int.not_lt, Int.not_le, ge_iff_le, gt_iff_lt, ne_eq, Bool.false_eq_true, Bool.true_eq_false, not_true_eq_false, not_false_eq_true, Bool.and_eq_true, Bool.not_eq_eq_eq_not, Bool.not_true, Bool.not_false, bne_iff_ne, bne_eq_false_iff_eq, Int.toNat_natCast, Nat.mul_one, Nat.add_zero, Nat.zero_add, List.take_length, List.drop_zero, errZ_bne, errZ_beq] at h10)
                                        all_goals
                                          refine Tree.Sat.br (fun h11 => ?_) (fun h11 => ?_)
                                          · (try simp only [decide_eq_true_eq, decide_eq_false_iff_not, Bool.not_eq_true', Bool.not_eq_false', beq_iff_eq, beq_eq_false_iff_ne, Int.not_lt, Int.not_le, ge_iff_le, gt_iff_lt, ne_eq, Bool.false_eq_true, Bool.true_eq_false, not_true_eq_false, not_false_eq_true, Bool.and_eq_true, Bool.not_eq_eq_eq_not, Bool.not_true, Bool.not_false, bne_iff_ne, bne_eq_false_iff_eq, Int.toNat_natCast, Nat.mul_one, Nat.add_zero, Nat.zero_add, List.take_length, List.drop_zero, errZ_bne, errZ_beq] at h11)
                                            all_goals
                                              refine Tree.Sat.ret ?_
                                              exfalso
                                              first | omega | (cases zl <;> simp_all <;> omega)
                                          · (try simp only [decide_eq_true_eq, decide_eq_false_iff_not, Bool.not_eq_true', Bool.not_eq_false', beq_iff_eq, beq_eq_false_iff_ne, Int.not_lt, Int.not_le, ge_iff_le, gt_iff_lt, ne_eq, Bool.false_eq_true, Bool.true_eq_false, not_true_eq_false, not_false_eq_true, Bool.and_eq_true, Bool.not_eq_eq_eq_not, Bool.not_true, Bool.not_false, bne_iff_ne, bne_eq_false_iff_eq, Int.toNat_natCast, Nat.mul_one, Nat.add_zero, Nat.zero_add, List.take_length, List.drop_zero, errZ_bne, errZ_beq] at h11)
                                            all_goals
                                              refine Tree.Sat.br (fun h12 => ?_) (fun h12 => ?_)
                                              · (try simp only [decide_eq_true_eq, decide_eq_false_iff_not, Bool.not_eq_true', Bool.not_eq_false', beq_iff_eq, beq_eq_false_iff_ne, Int.not_lt, Int.not_le, ge_iff_le, gt_iff_lt, ne_eq, Bool.false_eq_true, Bool.true_eq_false, not_true_eq_false, not_false_eq_true, Bool.and_eq_true, Bool.not_eq_eq_eq_not, Bool.not_true, Bool.not_false, bne_iff_ne, bne_eq_false_iff_eq, Int.toNat_natCast, Nat.mul_one, Nat.add_zero, Nat.zero_add, List.take_length, List.drop_zero, errZ_bne, errZ_beq] at h12)
                                                all_goals
                                                  refine Tree.Sat.ret ?_
                                                  exfalso
                                                  first | omega | (cases zl <;> simp_all <;> omega)
                                              · (try simp only [decide_eq_true_eq, decide_eq_false_iff_not, Bool.not_eq_true', Bool.not_eq_false', beq_iff_eq, beq_eq_false_iff_ne, Int.not_lt, Int.not_le, ge_iff_le, gt_iff_lt, ne_eq, Bool.false_eq_true, Bool.true_eq_false, not_true_eq_false, not_false_eq_true, Bool.and_eq_true, Bool.not_eq_eq_eq_not, Bool.not_true, Bool.not_false, bne_iff_ne, bne_eq_false_iff_eq, Int.toNat_natCast, Nat.mul_one, Nat.add_zero, Nat.zero_add, List.take_length, List.drop_zero, errZ_bne, errZ_beq] at h12)
                                                all_goals
                                                  refine Tree.Sat.ret ?_
                                                  refine .norm ⟨zl, nl, cl, ql, x0, x1, x2, x3, x4, x5, x6, x7, x8, x9, x10, NW / 1000, NW % 1000, max x13 (min (NW / 1000 / 2 / x8) 2147483647), x14, x15, x16, x17, x18, x19, x20, x21, x22, NW, i + 1⟩ ?_ ?_ ⟨?_, ?_⟩
                                                  · constructor <;> simp only [hdCycleExact_0, AV.leL, AV.le, Mem.le, Mem.leP, Blk.le, Blk.pad, Data.le, Data.size, Cap.le, and_true, true_and, and_self, true_implies, implies_true, imp_self, List.length_nil] <;> (repeat' with_reducible refine And.intro ?_ ?_) <;> (try simp only [Int.toNat_natCast, Nat.mul_one, Nat.add_zero, Nat.zero_add]) <;> (rw [w64]; omega)
                                                  · simp only [muCycleExact_0]; omega
                                                  · exact ⟨okn, eN.symm, by omega, hn, hz⟩
                                                  · exact hr
                      · (try simp only [decide_eq_true_eq, decide_eq_false_iff_not, Bool.not_eq_true', Bool.not_eq_false', beq_iff_eq, beq_eq_false_iff_ne, Int.not_lt, Int.not_le, ge_iff_le, gt_iff_lt, ne_eq, Bool.false_eq_true, Bool.true_eq_false, not_true_eq_false, not_false_eq_true, Bool.and_eq_true, Bool.not_eq_eq_eq_not, Bool.not_true, Bool.not_false, bne_iff_ne, bne_eq_false_iff_eq, Int.toNat_natCast, Nat.mul_one, Nat.add_zero, Nat.zero_add, List.take_length, List.drop_zero, errZ_bne, errZ_beq] at h6)
                        all_goals
                          exfalso
                          exfalso
                          first | omega | (cases zl <;> simp_all <;> omega)
                  · (try simp only [decide_eq_true_eq, decide_eq_false_iff_not, Bool.not_eq_true', Bool.not_eq_false', beq_iff_eq, beq_eq_false_iff_ne, Int.not_lt, Int.not_le, ge_iff_le, gt_iff_lt, ne_eq, Bool.false_eq_true, Bool.true_eq_false, not_true_eq_false, not_false_eq_true, Bool.and_eq_true, Bool.not_eq_eq_eq_not, Bool.not_true, Bool.not_false, bne_iff_ne, bne_eq_false_iff_eq, Int.toNat_natCast, Nat.mul_one, Nat.add_zero, Nat.zero_add, List.take_length, List.drop_zero, errZ_bne, errZ_beq] at h5)
                    all_goals
                      exfalso
                      exfalso
                      first | omega | (cases zl <;> simp_all <;> omega)
              · (try simp only [decide_eq_true_eq, decide_eq_false_iff_not, Bool.not_eq_true', Bool.not_eq_false', beq_iff_eq, beq_eq_false_iff_ne, Int.not_lt, Int.not_le, ge_iff_le, gt_iff_lt, ne_eq, Bool.false_eq_true, Bool.true_eq_false, not_true_eq_false, not_false_eq_true, Bool.and_eq_true, Bool.not_eq_eq_eq_not, Bool.not_true, Bool.not_false, bne_iff_ne, bne_eq_false_iff_eq, Int.toNat_natCast, Nat.mul_one, Nat.add_zero, Nat.zero_add, List.take_length, List.drop_zero, errZ_bne, errZ_beq] at h4)
                all_goals
                  exfalso
                  exfalso
                  first | omega | (cases zl <;> simp_all <;> omega)
          · (try simp only [decide_eq_true_eq, decide_eq_false_iff_not, Bool.not_eq_true', Bool.not_eq_false', beq_iff_eq, beq_eq_false_iff_ne, Int.not_lt, Int.not_le, ge_iff_le, gt_iff_lt, ne_eq, Bool.false_eq_true, Bool.true_eq_false, not_true_eq_false, not_false_eq_true, Bool.and_eq_true, Bool.not_eq_eq_eq_not, Bool.not_true, Bool.not_false, bne_iff_ne, bne_eq_false_iff_eq, Int.toNat_natCast, Nat.mul_one, Nat.add_zero, Nat.zero_add, List.take_length, List.drop_zero, errZ_bne, errZ_beq] at h3)
            all_goals
              exfalso
              exfalso
              first | omega | (cases zl <;> simp_all <;> omega)
      · (try simp only [decide_eq_true_eq, decide_eq_false_iff_not, Bool.not_eq_true', Bool.not_eq_false', beq_iff_eq, beq_eq_false_iff_ne, Int.not_lt, Int.not_le, ge_iff_le, gt_iff_lt, ne_eq, Bool.false_eq_true, Bool.true_eq_false, not_true_eq_false, not_false_eq_true, Bool.and_eq_true, Bool.not_eq_eq_eq_not, Bool.not_true, Bool.not_false, bne_iff_ne, bne_eq_false_iff_eq, Int.toNat_natCast, Nat.mul_one, Nat.add_zero, Nat.zero_add, List.take_length, List.drop_zero, errZ_bne, errZ_beq] at h2)
        all_goals
          refine Tree.Sat.ret ?_
          have hq := hr
          simp only [Prod.mk.injEq] at hq
          obtain ⟨rfl, rfl⟩ := hq
          refine .exit rfl ?_
          constructor <;> simp only [AV.leL, AV.le, Mem.le, Mem.leP, Blk.le, Blk.pad, Data.le, Data.size, Cap.le, and_true, true_and, and_self, true_implies, implies_true, imp_self, List.length_nil] <;> (repeat' with_reducible refine And.intro ?_ ?_) <;> (try simp only [Int.toNat_natCast, Nat.mul_one, Nat.add_zero, Nat.zero_add]) <;> done
  · (try simp only [decide_eq_true_eq, decide_eq_false_iff_not, Bool.not_eq_true', Bool.not_eq_false', beq_iff_eq, beq_eq_false_iff_ne, Int.not_lt, Int.not_le, ge_iff_le, gt_iff_lt, ne_eq, Bool.false_eq_true, Bool.true_eq_false, not_true_eq_false, not_false_eq_true, Bool.and_eq_true, Bool.not_eq_eq_eq_not, Bool.not_true, Bool.not_false, bne_iff_ne, bne_eq_false_iff_eq, Int.toNat_natCast, Nat.mul_one, Nat.add_zero, Nat.zero_add, List.take_length, List.drop_zero, errZ_bne, errZ_beq] at h1)
    all_goals
      refine Tree.Sat.ret ?_
      have hq := hr
      simp only [Prod.mk.injEq] at hq
      obtain ⟨rfl, rfl⟩ := hq
      refine .exit rfl ?_
      constructor <;> simp only [AV.leL, AV.le, Mem.le, Mem.leP, Blk.le, Blk.pad, Data.le, Data.size, Cap.le, and_true, true_and, and_self, true_implies, implies_true, imp_self, List.length_nil] <;> (repeat' with_reducible refine And.intro ?_ ?_) <;> (try simp only [Int.toNat_natCast, Nat.mul_one, Nat.add_zero, Nat.zero_add]) <;> done
set_option maxHeartbeats 2000000 in
set_option maxRecDepth 100000 in
theorem loopCycleExact_0 : LoopOk (mkL Try.prog 0 (fun _ => none) [(22, eamong), (25, etotal), (23, estep), (36, esum), (41, esize), (27, echk), (43, eright), (29, eworks)] rowsCycleExact) 10 1 (bodyAt Try.prog 10 0) := by
  have hkey : Code.key (bodyAt Try.prog 10 0) = 7 := by kernel_rfl
  have hin : loopsIn (bodyAt Try.prog 10 0) = [] := by kernel_rfl
  have hall := all8
  have hrow : lookL rowsCycleExact 10 (Code.key (bodyAt Try.prog 10 0)) = some rowCycleExact_0 := by rw [hkey]; rfl
  refine loop_rowP (X := XCycleExact_0) (row := rowCycleExact_0) hall mix hrow (fun b hb _ => by rw [hin] at hb; cases hb) UCycleExact_0 hdCycleExact_0 resCycleExact_0 muCycleExact_0 (fun st ex r h => ?_) (fun x ex r hr => ?_)
  · have h' : (ansCycleExact_0 st).runs (ex, r) := h
    unfold ansCycleExact_0 at h'
    split at h'
    · obtain ⟨q1, q2⟩ := Tree.chk_runs h'
      exact ⟨_, q1, q2⟩
    · exact h'.elim
  · obtain ⟨zl, nl, cl, ql, x0, x1, x2, x3, x4, x5, x6, x7, x8, x9, x10, x11, x12, x13, x14, x15, x16, x17, x18, x19, x20, x21, x22, t, i⟩ := x
    have := stepCycleExact_0 zl nl cl ql x0 x1 x2 x3 x4 x5 x6 x7 x8 x9 x10 x11 x12 x13 x14 x15 x16 x17 x18 x19 x20 x21 x22 t i ex r hr.1 hr.2
    rw [← tLCycleExact_0] at this
    (try rw [show rowCycleExact_0.tidy = TCycleExact_0 from rfl])
    exact this
theorem loopsCycleExact : ∀ i, i < (loopsAt Try.prog 10).length → LoopOk (mkL Try.prog 0 (fun _ => none) [(22, eamong), (25, etotal), (23, estep), (36, esum), (41, esize), (27, echk), (43, eright), (29, eworks)] rowsCycleExact) 10 1 (bodyAt Try.prog 10 i) := by
  intro i hi
  have hlen : (loopsAt Try.prog 10).length = 1 := by kernel_rfl
  rw [hlen] at hi
  obtain rfl : i = 0 := by omega
  · exact loopCycleExact_0
set_option maxRecDepth 100000 in
theorem tExact (x0 : Int) (x1 : Int) (x2 : Int) (x3 : Int) (x4 : Int) (x5 : Int) (x6 : Int) (x7 : Int) (x8 : Int) (x9 : Int) (x10 : Int) (x11 : Int) (x12 : Int) (x13 : Int) (x14 : Int) (x15 : Int) (x16 : Int) (x17 : Int) (x18 : Int) (x19 : Int) (x20 : Int) (x21 : Int) (x22 : Int) (zl : Bool) (nl : Nat) (cl : Nat → Int) (ql : Nat → Int) : evBody (mkL Try.prog 0 (fun _ => none) [(22, eamong), (25, etotal), (23, estep), (36, esum), (41, esize), (27, echk), (43, eright), (29, eworks)] rowsCycleExact) (evCall (mkC Try.prog 0 (fun _ => none) [(22, eamong), (25, etotal), (23, estep), (36, esum), (41, esize), (27, echk), (43, eright), (29, eworks)]) 50) 10 [.agg [.int .i64 false x0, .int .i64 false x1, .int .i64 false x2, .int .i64 false x3, .int .i64 false x4, .int .i64 false x5, .int .i64 false x6, .int .i64 false x7, .int .i64 false x8, .int .i64 false x9, .int .i64 false x10, .int .i64 false x11, .int .i64 false x12, .int .i64 false x13, .int .i64 false x14, .int .i64 false x15, .int .i64 false x16, .int .i64 false x17, .int .i64 false x18, .int .i64 false x19, .int .i64 false x20, .int .i64 false x21, .int .i64 false x22], .sl zl ⟨0, 0, 0, 0⟩ false nl .any] [some ⟨42, false, false, true, .tab 2 nl fun i => [.int .i64 false (cl i), .int .i64 false (ql i)]⟩] =
  Tree.br (errZ (ok4 x11 x12 x13 x8) != (0 : Int))
    (Tree.ret
      (AV.bool false (selZ (ok4 x11 x12 x13 x8) (x11 * (1000 : Int) + x12) == (0 : Int)),
        [some (Blk.mk (42) false false true (Data.tab (2) nl fun i => [AV.int IntKind.i64 false (cl i), AV.int IntKind.i64 false (ql i)]))]))
    (Tree.chk
      (St.le
        (St.mk
          [jk, AV.sl zl (Ref.mk (0) (0) (0) (0)) false nl Cap.any, AV.ptr (Ref.mk (1) (0) (0) (0)), jk, jk,
            AV.int IntKind.i64 false (selZ (ok4 x11 x12 x13 x8) (x11 * (1000 : Int) + x12)), jk, AV.int IntKind.i64 true (0 : Int), jk, jk, jk, jk, jk, jk, jk, jk, jk,
            jk, jk, jk, jk, jk, jk, jk, jk, jk, jk, jk, jk, jk, jk, jk, jk, jk, jk, jk, jk, jk, jk, jk, jk, jk,
            jk, jk, jk, jk, jk, jk, jk, jk, jk, jk, jk, jk, jk, jk, jk, jk, jk, jk, jk, jk, jk, jk, jk, jk, jk,
            jk, jk, jk, jk, jk, jk, jk, jk, jk, jk, jk, jk, jk, jk, jk, jk, jk, jk, jk, jk, jk, jk, jk, jk, jk,
            jk, jk, jk, jk, jk, jk, jk, jk, jk, jk, jk, jk, jk, jk, jk, jk, jk, jk, jk, jk, jk, jk, jk, jk, jk]
          [some (Blk.mk (42) false false true (Data.tab (2) nl fun i => [AV.int IntKind.i64 false (cl i), AV.int IntKind.i64 false (ql i)])),
            some
              (Blk.mk (40) true false false
                (Data.cells
                  [AV.int IntKind.i64 false x0, AV.int IntKind.i64 false x1, AV.int IntKind.i64 false x2, AV.int IntKind.i64 false x3, AV.int IntKind.i64 false x4, AV.int IntKind.i64 false x5, AV.int IntKind.i64 false x6,
                    AV.int IntKind.i64 false x7, AV.int IntKind.i64 false x8, AV.int IntKind.i64 false x9, AV.int IntKind.i64 false x10, AV.int IntKind.i64 false x11, AV.int IntKind.i64 false x12,
                    AV.int IntKind.i64 false x13, AV.int IntKind.i64 false x14, AV.int IntKind.i64 false x15, AV.int IntKind.i64 false x16, AV.int IntKind.i64 false x17, AV.int IntKind.i64 false x18,
                    AV.int IntKind.i64 false x19, AV.int IntKind.i64 false x20, AV.int IntKind.i64 false x21, AV.int IntKind.i64 false x22]))])
        (St.mk
          [jk, AV.sl zl (Ref.mk (0) (0) (0) (0)) false nl Cap.any, AV.ptr (Ref.mk (1) (0) (0) (0)), jk, jk,
            AV.int IntKind.i64 false (selZ (ok4 x11 x12 x13 x8) (x11 * (1000 : Int) + x12)), jk, AV.int IntKind.i64 false (0 : Int), jk, jk, jk, jk, jk, jk, jk, jk, jk,
            jk, jk, jk, jk, jk, jk, jk, jk, jk, jk, jk, jk, jk, jk, jk, jk, jk, jk, jk, jk, jk, jk, jk, jk, jk,
            jk, jk, jk, jk, jk, jk, jk, jk, jk, jk, jk, jk, jk, jk, jk, jk, jk, jk, jk, jk, jk, jk, jk, jk, jk,
            jk, jk, jk, jk, jk, jk, jk, jk, jk, jk, jk, jk, jk, jk, jk, jk, jk, jk, jk, jk, jk, jk, jk, jk, jk,
            jk, jk, jk, jk, jk, jk, jk, jk, jk, jk, jk, jk, jk, jk, jk, jk, jk, jk, jk, jk, jk, jk, jk, jk, jk]
          [some (Blk.mk (42) false false true (Data.tab (2) nl fun i => [AV.int IntKind.i64 false (cl i), AV.int IntKind.i64 false (ql i)])),
            some
              (Blk.mk (40) true false false
                (Data.cells
                  [AV.int IntKind.i64 false x0, AV.int IntKind.i64 false x1, AV.int IntKind.i64 false x2, AV.int IntKind.i64 false x3, AV.int IntKind.i64 false x4, AV.int IntKind.i64 false x5, AV.int IntKind.i64 false x6,
                    AV.int IntKind.i64 false x7, AV.int IntKind.i64 false x8, AV.int IntKind.i64 false x9, AV.int IntKind.i64 false x10, AV.int IntKind.i64 false x11, AV.int IntKind.i64 false x12,
                    AV.int IntKind.i64 false x13, AV.int IntKind.i64 false x14, AV.int IntKind.i64 false x15, AV.int IntKind.i64 false x16, AV.int IntKind.i64 false x17, AV.int IntKind.i64 false x18,
                    AV.int IntKind.i64 false x19, AV.int IntKind.i64 false x20, AV.int IntKind.i64 false x21, AV.int IntKind.i64 false x22]))]))
      (Tree.chk
        (okCycleExact_0
          (XCycleExact_0.mk zl nl (fun i => cl i) (fun i => ql i) x0 x1 x2 x3 x4 x5 x6 x7 x8 x9 x10 x11 x12 x13 x14 x15 x16 x17 x18 x19 x20 x21 x22
            (selZ (ok4 x11 x12 x13 x8) (x11 * (1000 : Int) + x12)) (Int.toNat (0 : Int))))
        (Tree.ret (AV.bool true true, [some (Blk.mk (42) false false true (Data.tab (2) nl fun i => [AV.int IntKind.i64 false (cl i), AV.int IntKind.i64 false (ql i)]))])))) := by kernel_rfl
set_option maxRecDepth 100000 in
theorem gExact (x0 : Int) (x1 : Int) (x2 : Int) (x3 : Int) (x4 : Int) (x5 : Int) (x6 : Int) (x7 : Int) (x8 : Int) (x9 : Int) (x10 : Int) (x11 : Int) (x12 : Int) (x13 : Int) (x14 : Int) (x15 : Int) (x16 : Int) (x17 : Int) (x18 : Int) (x19 : Int) (x20 : Int) (x21 : Int) (x22 : Int) (zl : Bool) (nl : Nat) (cl : Nat → Int) (ql : Nat → Int) (hw : nl ≤ 9223372036854775807 ∧ (zl = true → nl = 0)) : (Tree.br (errZ (ok4 x11 x12 x13 x8) != (0 : Int))
    (Tree.ret
      (AV.bool false (selZ (ok4 x11 x12 x13 x8) (x11 * (1000 : Int) + x12) == (0 : Int)),
        [some (Blk.mk (42) false false true (Data.tab (2) nl fun i => [AV.int IntKind.i64 false (cl i), AV.int IntKind.i64 false (ql i)]))]))
    (Tree.chk
      (St.le
        (St.mk
          [jk, AV.sl zl (Ref.mk (0) (0) (0) (0)) false nl Cap.any, AV.ptr (Ref.mk (1) (0) (0) (0)), jk, jk,
            AV.int IntKind.i64 false (selZ (ok4 x11 x12 x13 x8) (x11 * (1000 : Int) + x12)), jk, AV.int IntKind.i64 true (0 : Int), jk, jk, jk, jk, jk, jk, jk, jk, jk,
            jk, jk, jk, jk, jk, jk, jk, jk, jk, jk, jk, jk, jk, jk, jk, jk, jk, jk, jk, jk, jk, jk, jk, jk, jk,
            jk, jk, jk, jk, jk, jk, jk, jk, jk, jk, jk, jk, jk, jk, jk, jk, jk, jk, jk, jk, jk, jk, jk, jk, jk,
            jk, jk, jk, jk, jk, jk, jk, jk, jk, jk, jk, jk, jk, jk, jk, jk, jk, jk, jk, jk, jk, jk, jk, jk, jk,
            jk, jk, jk, jk, jk, jk, jk, jk, jk, jk, jk, jk, jk, jk, jk, jk, jk, jk, jk, jk, jk, jk, jk, jk, jk]
          [some (Blk.mk (42) false false true (Data.tab (2) nl fun i => [AV.int IntKind.i64 false (cl i), AV.int IntKind.i64 false (ql i)])),
            some
              (Blk.mk (40) true false false
                (Data.cells
                  [AV.int IntKind.i64 false x0, AV.int IntKind.i64 false x1, AV.int IntKind.i64 false x2, AV.int IntKind.i64 false x3, AV.int IntKind.i64 false x4, AV.int IntKind.i64 false x5, AV.int IntKind.i64 false x6,
                    AV.int IntKind.i64 false x7, AV.int IntKind.i64 false x8, AV.int IntKind.i64 false x9, AV.int IntKind.i64 false x10, AV.int IntKind.i64 false x11, AV.int IntKind.i64 false x12,
                    AV.int IntKind.i64 false x13, AV.int IntKind.i64 false x14, AV.int IntKind.i64 false x15, AV.int IntKind.i64 false x16, AV.int IntKind.i64 false x17, AV.int IntKind.i64 false x18,
                    AV.int IntKind.i64 false x19, AV.int IntKind.i64 false x20, AV.int IntKind.i64 false x21, AV.int IntKind.i64 false x22]))])
        (St.mk
          [jk, AV.sl zl (Ref.mk (0) (0) (0) (0)) false nl Cap.any, AV.ptr (Ref.mk (1) (0) (0) (0)), jk, jk,
            AV.int IntKind.i64 false (selZ (ok4 x11 x12 x13 x8) (x11 * (1000 : Int) + x12)), jk, AV.int IntKind.i64 false (0 : Int), jk, jk, jk, jk, jk, jk, jk, jk, jk,
            jk, jk, jk, jk, jk, jk, jk, jk, jk, jk, jk, jk, jk, jk, jk, jk, jk, jk, jk, jk, jk, jk, jk, jk, jk,
            jk, jk, jk, jk, jk, jk, jk, jk, jk, jk, jk, jk, jk, jk, jk, jk, jk, jk, jk, jk, jk, jk, jk, jk, jk,
            jk, jk, jk, jk, jk, jk, jk, jk, jk, jk, jk, jk, jk, jk, jk, jk, jk, jk, jk, jk, jk, jk, jk, jk, jk,
            jk, jk, jk, jk, jk, jk, jk, jk, jk, jk, jk, jk, jk, jk, jk, jk, jk, jk, jk, jk, jk, jk, jk, jk, jk]
          [some (Blk.mk (42) false false true (Data.tab (2) nl fun i => [AV.int IntKind.i64 false (cl i), AV.int IntKind.i64 false (ql i)])),
            some
              (Blk.mk (40) true false false
                (Data.cells
                  [AV.int IntKind.i64 false x0, AV.int IntKind.i64 false x1, AV.int IntKind.i64 false x2, AV.int IntKind.i64 false x3, AV.int IntKind.i64 false x4, AV.int IntKind.i64 false x5, AV.int IntKind.i64 false x6,
                    AV.int IntKind.i64 false x7, AV.int IntKind.i64 false x8, AV.int IntKind.i64 false x9, AV.int IntKind.i64 false x10, AV.int IntKind.i64 false x11, AV.int IntKind.i64 false x12,
                    AV.int IntKind.i64 false x13, AV.int IntKind.i64 false x14, AV.int IntKind.i64 false x15, AV.int IntKind.i64 false x16, AV.int IntKind.i64 false x17, AV.int IntKind.i64 false x18,
                    AV.int IntKind.i64 false x19, AV.int IntKind.i64 false x20, AV.int IntKind.i64 false x21, AV.int IntKind.i64 false x22]))]))
      (Tree.chk
        (okCycleExact_0
          (XCycleExact_0.mk zl nl (fun i => cl i) (fun i => ql i) x0 x1 x2 x3 x4 x5 x6 x7 x8 x9 x10 x11 x12 x13 x14 x15 x16 x17 x18 x19 x20 x21 x22
            (selZ (ok4 x11 x12 x13 x8) (x11 * (1000 : Int) + x12)) (Int.toNat (0 : Int))))
        (Tree.ret (AV.bool true true, [some (Blk.mk (42) false false true (Data.tab (2) nl fun i => [AV.int IntKind.i64 false (cl i), AV.int IntKind.i64 false (ql i)]))])))) : Tree (AV × Mem)).GivesP (.bool false true) ([some ⟨42, false, false, true, .tab 2 nl fun i => [.int .i64 false (cl i), .int .i64 false (ql i)]⟩]) := by
  obtain ⟨hn, hz⟩ := hw
  refine Tree.GivesP.br (fun h1 => ?_) (fun h1 => ?_)
  · rw [errZ_bne] at h1
    have hk : ok4 x11 x12 x13 x8 = false := by simpa using h1
    refine Tree.GivesP.ret ?_ ?_
    · simp only [AV.le, hk, selZ_f]
      decide
    · simp only [AV.leL, AV.le, Mem.le, Mem.leP, Blk.le, Blk.pad, Data.le, Data.size, Cap.le, and_true, true_and, and_self, true_implies, implies_true, imp_self, List.length_nil] <;> done
  · rw [errZ_bne] at h1
    have hk : ok4 x11 x12 x13 x8 = true := by simpa using h1
    refine Tree.GivesP.chk ?_ (Tree.GivesP.chk ?_ (Tree.GivesP.ret ?_ ?_))
    · constructor <;> simp only [hdCycleExact_0, AV.leL, AV.le, Mem.le, Mem.leP, Blk.le, Blk.pad, Data.le, Data.size, Cap.le, and_true, true_and, and_self, true_implies, implies_true, imp_self, List.length_nil, hk, selZ_t, Int.toNat_zero] <;> (repeat' with_reducible refine And.intro ?_ ?_) <;> (try simp only [Int.toNat_natCast, Nat.mul_one, Nat.add_zero, Nat.zero_add]) <;> first | done | rfl
    · exact ⟨hk, by rw [hk, selZ_t], by simp, hn, hz⟩
    · simp only [AV.le]
    · simp only [AV.leL, AV.le, Mem.le, Mem.leP, Blk.le, Blk.pad, Data.le, Data.size, Cap.le, and_true, true_and, and_self, true_implies, implies_true, imp_self, List.length_nil] <;> done
theorem lawExact (x0 : Int) (x1 : Int) (x2 : Int) (x3 : Int) (x4 : Int) (x5 : Int) (x6 : Int) (x7 : Int) (x8 : Int) (x9 : Int) (x10 : Int) (x11 : Int) (x12 : Int) (x13 : Int) (x14 : Int) (x15 : Int) (x16 : Int) (x17 : Int) (x18 : Int) (x19 : Int) (x20 : Int) (x21 : Int) (x22 : Int) (zl : Bool) (nl : Nat) (cl : Nat → Int) (ql : Nat → Int) (hw : nl ≤ 9223372036854775807 ∧ (zl = true → nl = 0)) : SoundAt (mkC Try.prog 0 (fun _ => none) []) 10 [.agg [.int .i64 false x0, .int .i64 false x1, .int .i64 false x2, .int .i64 false x3, .int .i64 false x4, .int .i64 false x5, .int .i64 false x6, .int .i64 false x7, .int .i64 false x8, .int .i64 false x9, .int .i64 false x10, .int .i64 false x11, .int .i64 false x12, .int .i64 false x13, .int .i64 false x14, .int .i64 false x15, .int .i64 false x16, .int .i64 false x17, .int .i64 false x18, .int .i64 false x19, .int .i64 false x20, .int .i64 false x21, .int .i64 false x22], .sl zl ⟨0, 0, 0, 0⟩ false nl .any] [some ⟨42, false, false, true, .tab 2 nl fun i => [.int .i64 false (cl i), .int .i64 false (ql i)]⟩] (.bool false true, [some ⟨42, false, false, true, .tab 2 nl fun i => [.int .i64 false (cl i), .int .i64 false (ql i)]⟩]) := sound_loopsP all8 mix loopsCycleExact (tExact x0 x1 x2 x3 x4 x5 x6 x7 x8 x9 x10 x11 x12 x13 x14 x15 x16 x17 x18 x19 x20 x21 x22 zl nl cl ql) (gExact x0 x1 x2 x3 x4 x5 x6 x7 x8 x9 x10 x11 x12 x13 x14 x15 x16 x17 x18 x19 x20 x21 x22 zl nl cl ql hw)
end Go.Proofs.Ytonhkbgielilbaa.Rig

/- The row of the law CycleExact: whatever the input it gives true, and what came in stays. -/
namespace Go.Proofs.Ytonhkbgielilbaa.cycleExact
open Go.ChangeShapes Go.WideShapes Go.ChangeAt Go.RowKit Go.Proofs.Ytonhkbgielilbaa.Rig
open Go.ChangeMaps (open_string shut_string)
set_option linter.unusedVariables false

theorem own : ownKnob Try.prog.godebug = none := by kernel_rfl
theorem laidOut : laidOutB Try.prog = true := by kernel_rfl
theorem walk (a0_0 : Int) (a0_1 : Int) (a0_2 : Int) (a0_3 : Int) (a0_4 : Int) (a0_5 : Int) (a0_6 : Int) (a0_7 : Int) (a0_8 : Int) (a0_9 : Int) (a0_10 : Int) (a0_11 : Int) (a0_12 : Int) (a0_13 : Int) (a0_14 : Int) (a0_15 : Int) (a0_16 : Int) (a0_17 : Int) (a0_18 : Int) (a0_19 : Int) (a0_20 : Int) (a0_21 : Int) (a0_22 : Int) (A1 : Option Addr) (len1 cap1 : Nat) (c1 q1 : Nat → Int) (w : World) (w0_0 : (Lit.int .i64 a0_0).wf = true) (w0_1 : (Lit.int .i64 a0_1).wf = true) (w0_2 : (Lit.int .i64 a0_2).wf = true) (w0_3 : (Lit.int .i64 a0_3).wf = true) (w0_4 : (Lit.int .i64 a0_4).wf = true) (w0_5 : (Lit.int .i64 a0_5).wf = true) (w0_6 : (Lit.int .i64 a0_6).wf = true) (w0_7 : (Lit.int .i64 a0_7).wf = true) (w0_8 : (Lit.int .i64 a0_8).wf = true) (w0_9 : (Lit.int .i64 a0_9).wf = true) (w0_10 : (Lit.int .i64 a0_10).wf = true) (w0_11 : (Lit.int .i64 a0_11).wf = true) (w0_12 : (Lit.int .i64 a0_12).wf = true) (w0_13 : (Lit.int .i64 a0_13).wf = true) (w0_14 : (Lit.int .i64 a0_14).wf = true) (w0_15 : (Lit.int .i64 a0_15).wf = true) (w0_16 : (Lit.int .i64 a0_16).wf = true) (w0_17 : (Lit.int .i64 a0_17).wf = true) (w0_18 : (Lit.int .i64 a0_18).wf = true) (w0_19 : (Lit.int .i64 a0_19).wf = true) (w0_20 : (Lit.int .i64 a0_20).wf = true) (w0_21 : (Lit.int .i64 a0_21).wf = true) (w0_22 : (Lit.int .i64 a0_22).wf = true) (wz1 : (A1 = none ∧ len1 = 0 ∧ cap1 = 0) ∨ ∃ x, A1 = some x ∧ len1 ≤ cap1 ∧ len1 ≤ maxLen ∧ ∀ i, i < len1 → w.cell? (x.add (i * 2)) = some (.int .i64 (c1 i)) ∧ w.cell? (x.add (i * 2 + 1)) = some (.int .i64 (q1 i)) ∧ (Lit.int .i64 (c1 i)).wf = true ∧ (Lit.int .i64 (q1 i)).wf = true) :
    Calls Try.prog 10 #[.agg #[.int .i64 a0_0, .int .i64 a0_1, .int .i64 a0_2, .int .i64 a0_3, .int .i64 a0_4, .int .i64 a0_5, .int .i64 a0_6, .int .i64 a0_7, .int .i64 a0_8, .int .i64 a0_9, .int .i64 a0_10, .int .i64 a0_11, .int .i64 a0_12, .int .i64 a0_13, .int .i64 a0_14, .int .i64 a0_15, .int .i64 a0_16, .int .i64 a0_17, .int .i64 a0_18, .int .i64 a0_19, .int .i64 a0_20, .int .i64 a0_21, .int .i64 a0_22], .slice A1 len1 cap1] w fun e w' => e = .returned (.bool true) ∧ Below w.heap.size w w' := by
  obtain ⟨z1, b1, hz1, hm1, hr1, hb1⟩ := arg_pairs 42 wz1
  have h := lawExact a0_0 a0_1 a0_2 a0_3 a0_4 a0_5 a0_6 a0_7 a0_8 a0_9 a0_10 a0_11 a0_12 a0_13 a0_14 a0_15 a0_16 a0_17 a0_18 a0_19 a0_20 a0_21 a0_22 z1 len1 c1 q1 ⟨by simpa [maxLen] using hm1, hz1⟩
  refine h.top (σ := fun i => [b1][i]?) (vals := [.agg #[.int .i64 a0_0, .int .i64 a0_1, .int .i64 a0_2, .int .i64 a0_3, .int .i64 a0_4, .int .i64 a0_5, .int .i64 a0_6, .int .i64 a0_7, .int .i64 a0_8, .int .i64 a0_9, .int .i64 a0_10, .int .i64 a0_11, .int .i64 a0_12, .int .i64 a0_13, .int .i64 a0_14, .int .i64 a0_15, .int .i64 a0_16, .int .i64 a0_17, .int .i64 a0_18, .int .i64 a0_19, .int .i64 a0_20, .int .i64 a0_21, .int .i64 a0_22], .slice A1 len1 cap1]) (fun i b hb => ?_) ?_ (rel_args _ _ rfl fun i b hb => ?_) (fun g i h => by cases h) (Nat.zero_le _)
  · rcases i with _ | i <;> simp [Mem.at] at hb <;> subst hb <;> rfl
  · exact RepL.cons (by simp [RepL, Rep]) (RepL.cons (hr1 _ 0 rfl) (RepL.nil))
  · rcases i with _ | i <;> simp [Mem.at] at hb
    · subst hb; exact ⟨_, rfl, rfl, hb1⟩
theorem flat1 : Open.flat Try.prog 40 42 = some [3, 3] := by kernel_rfl
theorem flat0 : Open.flat Try.prog 40 40 = some [3, 3, 3, 3, 3, 3, 3, 3, 3, 3, 3, 3, 3, 3, 3, 3, 3, 3, 3, 3, 3, 3, 3] := by kernel_rfl
set_option maxRecDepth 100000 in
theorem lifted (os : Os) (started : os.Started) (H : Type) (enc : TypeId × Value → H) :
    ReturnsInHanded {} Try.checked os 10 .any (Rows.cycleExactSpec.pre6 enc Try.prog Try.f10 Rows.cycleExactRow.domain false) (Rows.cycleExactSpec.post enc Try.prog Try.f10 false true false false) := by
  refine returnsInHanded_of_change_sized (C := Try.checked) own started (by kernel_rfl) Try.func10
    (ChangeSpec.witness6 (enc := enc) (C := Try.checked) false ⟨#[], #[.agg #[.int .i64 0, .int .i64 0, .int .i64 0, .int .i64 0, .int .i64 0, .int .i64 0, .int .i64 0, .int .i64 0, .int .i64 0, .int .i64 0, .int .i64 0, .int .i64 0, .int .i64 0, .int .i64 0, .int .i64 0, .int .i64 0, .int .i64 0, .int .i64 0, .int .i64 0, .int .i64 0, .int .i64 0, .int .i64 0, .int .i64 0], .slice none 0 0], []⟩ 8 (by kernel_rfl) (by kernel_rfl) (by kernel_rfl) (by kernel_rfl)) ?_
  intro W base args ds gs before hval0 hW hcnd hsz0 _
  have hval : ∀ (j : Nat) t v, Try.f10.params[j]? = some t → args[j]? = some v → Value.okWide Try.prog W .any base t v := hval0
  have hW' := hW
  obtain ⟨p, q, hA0, hV, rfl, hfz, hnd⟩ := hW
  have hA : DataW.TrodAll enc Try.prog W 0 (fun _ => true) true Try.f10.params.toList args.toList ds p := hA0
  rw [Try.params10] at hA hval
  obtain ⟨v0, vs0, d0, ds0, p0, z0, hargs, rfl, rfl, h0, r0⟩ := trodAll_cons hA
  obtain ⟨v1, vs1, d1, ds1, p1, z1, rfl, rfl, rfl, h1, r1⟩ := trodAll_cons r0
  obtain ⟨rfl, rfl, rfl⟩ := trodAll_nil r1
  obtain rfl : args = #[v0, v1] := by cases args; simp_all
  obtain ⟨rfl, rfl⟩ := trodVars_none hV
  obtain ⟨cs0, rfl, hs0⟩ := okWide_struct Try.underlying40 (hval 0 40 v0 rfl rfl)
  have q0_0 := Open.struct_cells 40 flat0 h0
  obtain ⟨cl0⟩ := cs0
  obtain ⟨cv0_0, cr0_0, ce0_0, ⟨cm0_0, cy0_0, ct0_0⟩, q0_1⟩ := q0_0
  obtain ⟨a0_0, ca0_0, _, w0_0⟩ := DataW.trod_int Try.underlying3 ct0_0
  simp only [List.cons.injEq, and_true] at ca0_0; subst ca0_0
  obtain ⟨cv0_1, cr0_1, ce0_1, ⟨cm0_1, cy0_1, ct0_1⟩, q0_2⟩ := q0_1
  obtain ⟨a0_1, ca0_1, _, w0_1⟩ := DataW.trod_int Try.underlying3 ct0_1
  simp only [List.cons.injEq, and_true] at ca0_1; subst ca0_1
  obtain ⟨cv0_2, cr0_2, ce0_2, ⟨cm0_2, cy0_2, ct0_2⟩, q0_3⟩ := q0_2
  obtain ⟨a0_2, ca0_2, _, w0_2⟩ := DataW.trod_int Try.underlying3 ct0_2
  simp only [List.cons.injEq, and_true] at ca0_2; subst ca0_2
  obtain ⟨cv0_3, cr0_3, ce0_3, ⟨cm0_3, cy0_3, ct0_3⟩, q0_4⟩ := q0_3
  obtain ⟨a0_3, ca0_3, _, w0_3⟩ := DataW.trod_int Try.underlying3 ct0_3
  simp only [List.cons.injEq, and_true] at ca0_3; subst ca0_3
  obtain ⟨cv0_4, cr0_4, ce0_4, ⟨cm0_4, cy0_4, ct0_4⟩, q0_5⟩ := q0_4
  obtain ⟨a0_4, ca0_4, _, w0_4⟩ := DataW.trod_int Try.underlying3 ct0_4
  simp only [List.cons.injEq, and_true] at ca0_4; subst ca0_4
  obtain ⟨cv0_5, cr0_5, ce0_5, ⟨cm0_5, cy0_5, ct0_5⟩, q0_6⟩ := q0_5
  obtain ⟨a0_5, ca0_5, _, w0_5⟩ := DataW.trod_int Try.underlying3 ct0_5
  simp only [List.cons.injEq, and_true] at ca0_5; subst ca0_5
  obtain ⟨cv0_6, cr0_6, ce0_6, ⟨cm0_6, cy0_6, ct0_6⟩, q0_7⟩ := q0_6
  obtain ⟨a0_6, ca0_6, _, w0_6⟩ := DataW.trod_int Try.underlying3 ct0_6
  simp only [List.cons.injEq, and_true] at ca0_6; subst ca0_6
  obtain ⟨cv0_7, cr0_7, ce0_7, ⟨cm0_7, cy0_7, ct0_7⟩, q0_8⟩ := q0_7
  obtain ⟨a0_7, ca0_7, _, w0_7⟩ := DataW.trod_int Try.underlying3 ct0_7
  simp only [List.cons.injEq, and_true] at ca0_7; subst ca0_7
  obtain ⟨cv0_8, cr0_8, ce0_8, ⟨cm0_8, cy0_8, ct0_8⟩, q0_9⟩ := q0_8
  obtain ⟨a0_8, ca0_8, _, w0_8⟩ := DataW.trod_int Try.underlying3 ct0_8
  simp only [List.cons.injEq, and_true] at ca0_8; subst ca0_8
  obtain ⟨cv0_9, cr0_9, ce0_9, ⟨cm0_9, cy0_9, ct0_9⟩, q0_10⟩ := q0_9
  obtain ⟨a0_9, ca0_9, _, w0_9⟩ := DataW.trod_int Try.underlying3 ct0_9
  simp only [List.cons.injEq, and_true] at ca0_9; subst ca0_9
  obtain ⟨cv0_10, cr0_10, ce0_10, ⟨cm0_10, cy0_10, ct0_10⟩, q0_11⟩ := q0_10
  obtain ⟨a0_10, ca0_10, _, w0_10⟩ := DataW.trod_int Try.underlying3 ct0_10
  simp only [List.cons.injEq, and_true] at ca0_10; subst ca0_10
  obtain ⟨cv0_11, cr0_11, ce0_11, ⟨cm0_11, cy0_11, ct0_11⟩, q0_12⟩ := q0_11
  obtain ⟨a0_11, ca0_11, _, w0_11⟩ := DataW.trod_int Try.underlying3 ct0_11
  simp only [List.cons.injEq, and_true] at ca0_11; subst ca0_11
  obtain ⟨cv0_12, cr0_12, ce0_12, ⟨cm0_12, cy0_12, ct0_12⟩, q0_13⟩ := q0_12
  obtain ⟨a0_12, ca0_12, _, w0_12⟩ := DataW.trod_int Try.underlying3 ct0_12
  simp only [List.cons.injEq, and_true] at ca0_12; subst ca0_12
  obtain ⟨cv0_13, cr0_13, ce0_13, ⟨cm0_13, cy0_13, ct0_13⟩, q0_14⟩ := q0_13
  obtain ⟨a0_13, ca0_13, _, w0_13⟩ := DataW.trod_int Try.underlying3 ct0_13
  simp only [List.cons.injEq, and_true] at ca0_13; subst ca0_13
  obtain ⟨cv0_14, cr0_14, ce0_14, ⟨cm0_14, cy0_14, ct0_14⟩, q0_15⟩ := q0_14
  obtain ⟨a0_14, ca0_14, _, w0_14⟩ := DataW.trod_int Try.underlying3 ct0_14
  simp only [List.cons.injEq, and_true] at ca0_14; subst ca0_14
  obtain ⟨cv0_15, cr0_15, ce0_15, ⟨cm0_15, cy0_15, ct0_15⟩, q0_16⟩ := q0_15
  obtain ⟨a0_15, ca0_15, _, w0_15⟩ := DataW.trod_int Try.underlying3 ct0_15
  simp only [List.cons.injEq, and_true] at ca0_15; subst ca0_15
  obtain ⟨cv0_16, cr0_16, ce0_16, ⟨cm0_16, cy0_16, ct0_16⟩, q0_17⟩ := q0_16
  obtain ⟨a0_16, ca0_16, _, w0_16⟩ := DataW.trod_int Try.underlying3 ct0_16
  simp only [List.cons.injEq, and_true] at ca0_16; subst ca0_16
  obtain ⟨cv0_17, cr0_17, ce0_17, ⟨cm0_17, cy0_17, ct0_17⟩, q0_18⟩ := q0_17
  obtain ⟨a0_17, ca0_17, _, w0_17⟩ := DataW.trod_int Try.underlying3 ct0_17
  simp only [List.cons.injEq, and_true] at ca0_17; subst ca0_17
  obtain ⟨cv0_18, cr0_18, ce0_18, ⟨cm0_18, cy0_18, ct0_18⟩, q0_19⟩ := q0_18
  obtain ⟨a0_18, ca0_18, _, w0_18⟩ := DataW.trod_int Try.underlying3 ct0_18
  simp only [List.cons.injEq, and_true] at ca0_18; subst ca0_18
  obtain ⟨cv0_19, cr0_19, ce0_19, ⟨cm0_19, cy0_19, ct0_19⟩, q0_20⟩ := q0_19
  obtain ⟨a0_19, ca0_19, _, w0_19⟩ := DataW.trod_int Try.underlying3 ct0_19
  simp only [List.cons.injEq, and_true] at ca0_19; subst ca0_19
  obtain ⟨cv0_20, cr0_20, ce0_20, ⟨cm0_20, cy0_20, ct0_20⟩, q0_21⟩ := q0_20
  obtain ⟨a0_20, ca0_20, _, w0_20⟩ := DataW.trod_int Try.underlying3 ct0_20
  simp only [List.cons.injEq, and_true] at ca0_20; subst ca0_20
  obtain ⟨cv0_21, cr0_21, ce0_21, ⟨cm0_21, cy0_21, ct0_21⟩, q0_22⟩ := q0_21
  obtain ⟨a0_21, ca0_21, _, w0_21⟩ := DataW.trod_int Try.underlying3 ct0_21
  simp only [List.cons.injEq, and_true] at ca0_21; subst ca0_21
  obtain ⟨cv0_22, cr0_22, ce0_22, ⟨cm0_22, cy0_22, ct0_22⟩, q0_23⟩ := q0_22
  obtain ⟨a0_22, ca0_22, _, w0_22⟩ := DataW.trod_int Try.underlying3 ct0_22
  simp only [List.cons.injEq, and_true] at ca0_22; subst ca0_22
  have qe0 : cr0_22 = [] := q0_23
  subst qe0
  subst ce0_22
  subst ce0_21
  subst ce0_20
  subst ce0_19
  subst ce0_18
  subst ce0_17
  subst ce0_16
  subst ce0_15
  subst ce0_14
  subst ce0_13
  subst ce0_12
  subst ce0_11
  subst ce0_10
  subst ce0_9
  subst ce0_8
  subst ce0_7
  subst ce0_6
  subst ce0_5
  subst ce0_4
  subst ce0_3
  subst ce0_2
  subst ce0_1
  simp only at ce0_0
  subst ce0_0
  have k0 := h0
  have lt0 : ∀ x ∈ p0, x.block < W.heap.size := by obtain ⟨m, hm⟩ := k0; exact DataW.trod_lt m _ _ _ hm
  obtain ⟨A1, len1, cap1, rfl⟩ := okWide_slice Try.underlying49 (hval 1 49 v1 rfl rfl)
  have k1 := h1
  have lt1 : ∀ x ∈ p1, x.block < W.heap.size := by obtain ⟨m, hm⟩ := k1; exact DataW.trod_lt m _ _ _ hm
  obtain ⟨c1, q1, wz1⟩ := Open.pairs_open 40 Try.underlying49 flat1 Try.underlying3 Try.underlying3 h1 (by kernel_rfl)
  clear hA0 hval0 hsz0
  refine (walk a0_0 a0_1 a0_2 a0_3 a0_4 a0_5 a0_6 a0_7 a0_8 a0_9 a0_10 a0_11 a0_12 a0_13 a0_14 a0_15 a0_16 a0_17 a0_18 a0_19 a0_20 a0_21 a0_22 A1 len1 cap1 c1 q1 W w0_0 w0_1 w0_2 w0_3 w0_4 w0_5 w0_6 w0_7 w0_8 w0_9 w0_10 w0_11 w0_12 w0_13 w0_14 w0_15 w0_16 w0_17 w0_18 w0_19 w0_20 w0_21 w0_22 wz1).mono fun e W' ⟨he, bel⟩ => ?_
  subst he
  exact ⟨_, rfl, _, _, _, [], _, [], hW', trodAll_mk1 (shut_bool Try.underlying4 _), (trodAll_cons_mk (Below.trod laidOut (by kernel_rfl) (of_decide_eq_true (by kernel_rfl)) k0 bel lt0) (trodAll_cons_mk (Below.trod laidOut (by kernel_rfl) (of_decide_eq_true (by kernel_rfl)) k1 bel lt1) trodAll_mk0)), rfl, bel.frame _, fun h => by cases h⟩
theorem over : Rows.cycleExactRow.holds Try.pinned (OpenSpec.ofChange Rows.cycleExactSpec) :=
  OpenClaim.holds_of_wide 10 Try.f10 rfl rfl rfl rfl rfl rfl rfl ⟨rfl, rfl, rfl, rfl, rfl⟩ rfl rfl rfl rfl rfl (by kernel_rfl) Try.func10 (by kernel_rfl)
    (of_decide_eq_true (by kernel_rfl)) (by unfold Func.isWrapper; first | (rw [if_pos (by decide +kernel)]; kernel_rfl) | (rw [if_neg (by decide +kernel)]; exact ⟨rfl, rfl⟩))
    (fun os started H enc _ => lifted os started H enc)
theorem proved : Rows.CycleExactSaid := over
#print axioms proved
end Go.Proofs.Ytonhkbgielilbaa.cycleExact
namespace Go.Proofs.Ytonhkbgielilbaa
/-- The row, under a short name, for the claim. -/
theorem cycleExact_holds : Rows.CycleExactSaid := cycleExact.proved
end Go.Proofs.Ytonhkbgielilbaa
