/- What function 23 gives. -/
import Derived.Test.YtonhkbgielilbaaQsum
namespace Go.Proofs.Ytonhkbgielilbaa.Rig
open Go
set_option linter.unusedVariables false in
noncomputable def estep : Ent := fun args M => match args, M with
  | [.agg [.int .i64 _ x0, .int .i64 _ x1, .int .i64 _ x2, .int .i64 _ x3, .int .i64 _ x4, .int .i64 _ x5, .int .i64 _ x6, .int .i64 _ x7, .int .i64 _ x8, .int .i64 _ x9, .int .i64 _ x10, .int .i64 _ x11, .int .i64 _ x12, .int .i64 _ x13, .int .i64 _ x14, .int .i64 _ x15, .int .i64 _ x16, .int .i64 _ x17, .int .i64 _ x18, .int .i64 _ x19, .int .i64 _ x20, .int .i64 _ x21, .int .i64 _ x22], .int .i64 _ a, .int .i64 _ b], [] => some (.chk (-9223372036854775808 ≤ a ∧ a ≤ 9223372036854775807) (.ret (.tup [.agg [.int .i64 false (selZ (sok4 x11 x12 x13 x8 a b) (x0)), .int .i64 false (selZ (sok4 x11 x12 x13 x8 a b) (x1)), .int .i64 false (selZ (sok4 x11 x12 x13 x8 a b) (x2)), .int .i64 false (selZ (sok4 x11 x12 x13 x8 a b) (x3)), .int .i64 false (selZ (sok4 x11 x12 x13 x8 a b) (x4)), .int .i64 false (selZ (sok4 x11 x12 x13 x8 a b) (x5)), .int .i64 false (selZ (sok4 x11 x12 x13 x8 a b) (x6)), .int .i64 false (selZ (sok4 x11 x12 x13 x8 a b) (x7)), .int .i64 false (selZ (sok4 x11 x12 x13 x8 a b) (x8)), .int .i64 false (selZ (sok4 x11 x12 x13 x8 a b) (x9)), .int .i64 false (selZ (sok4 x11 x12 x13 x8 a b) (x10)), .int .i64 false (selZ (sok4 x11 x12 x13 x8 a b) ((min 1125899906842624000 (x11 * 1000 + x12 + sizeZ a * b)) / 1000)), .int .i64 false (selZ (sok4 x11 x12 x13 x8 a b) ((min 1125899906842624000 (x11 * 1000 + x12 + sizeZ a * b)) % 1000)), .int .i64 false (selZ (sok4 x11 x12 x13 x8 a b) (max x13 (min ((min 1125899906842624000 (x11 * 1000 + x12 + sizeZ a * b)) / 1000 / 2 / x8) 2147483647))), .int .i64 false (selZ (sok4 x11 x12 x13 x8 a b) (x14)), .int .i64 false (selZ (sok4 x11 x12 x13 x8 a b) (x15)), .int .i64 false (selZ (sok4 x11 x12 x13 x8 a b) (x16)), .int .i64 false (selZ (sok4 x11 x12 x13 x8 a b) (x17)), .int .i64 false (selZ (sok4 x11 x12 x13 x8 a b) (x18)), .int .i64 false (selZ (sok4 x11 x12 x13 x8 a b) (x19)), .int .i64 false (selZ (sok4 x11 x12 x13 x8 a b) (x20)), .int .i64 false (selZ (sok4 x11 x12 x13 x8 a b) (x21)), .int .i64 false (selZ (sok4 x11 x12 x13 x8 a b) (x22))], .int .i64 false (errZ (sok4 x11 x12 x13 x8 a b))], [])))
  | _, _ => none
set_option maxRecDepth 100000 in
theorem tstep (x0 x1 x2 x3 x4 x5 x6 x7 x8 x9 x10 x11 x12 x13 x14 x15 x16 x17 x18 x19 x20 x21 x22 : Int) (a b : Int) : evBody (mkC Try.prog 0 (fun _ => none) [(36, esum), (26, ertotal), (25, etotal), (42, ersize), (41, esize), (28, erchk), (27, echk), (43, eright), (29, eworks)]) (evCall (mkC Try.prog 0 (fun _ => none) [(36, esum), (26, ertotal), (25, etotal), (42, ersize), (41, esize), (28, erchk), (27, echk), (43, eright), (29, eworks)]) 50) 23 [.agg [.int .i64 false x0, .int .i64 false x1, .int .i64 false x2, .int .i64 false x3, .int .i64 false x4, .int .i64 false x5, .int .i64 false x6, .int .i64 false x7, .int .i64 false x8, .int .i64 false x9, .int .i64 false x10, .int .i64 false x11, .int .i64 false x12, .int .i64 false x13, .int .i64 false x14, .int .i64 false x15, .int .i64 false x16, .int .i64 false x17, .int .i64 false x18, .int .i64 false x19, .int .i64 false x20, .int .i64 false x21, .int .i64 false x22], .int .i64 false a, .int .i64 false b] [] =
  Tree.chk (-9223372036854775808 ≤ a ∧ a ≤ 9223372036854775807)
    (Tree.br (!ok4 x11 x12 x13 x8)
      (Tree.ret
        (AV.tup
            [AV.agg
                [AV.int IntKind.i64 true 0, AV.int IntKind.i64 true 0, AV.int IntKind.i64 true 0, AV.int IntKind.i64 true 0, AV.int IntKind.i64 true 0, AV.int IntKind.i64 true 0, AV.int IntKind.i64 true 0, AV.int IntKind.i64 true 0,
                  AV.int IntKind.i64 true 0, AV.int IntKind.i64 true 0, AV.int IntKind.i64 true 0, AV.int IntKind.i64 true 0, AV.int IntKind.i64 true 0, AV.int IntKind.i64 true 0, AV.int IntKind.i64 true 0, AV.int IntKind.i64 true 0,
                  AV.int IntKind.i64 true 0, AV.int IntKind.i64 true 0, AV.int IntKind.i64 true 0, AV.int IntKind.i64 true 0, AV.int IntKind.i64 true 0, AV.int IntKind.i64 true 0, AV.int IntKind.i64 true 0],
              AV.int IntKind.i64 true 2],
          []))
      (Tree.br (decide (sizeZ a > 2147483648))
        (Tree.ret
          (AV.tup
              [AV.agg
                  [AV.int IntKind.i64 true 0, AV.int IntKind.i64 true 0, AV.int IntKind.i64 true 0, AV.int IntKind.i64 true 0, AV.int IntKind.i64 true 0, AV.int IntKind.i64 true 0, AV.int IntKind.i64 true 0, AV.int IntKind.i64 true 0,
                    AV.int IntKind.i64 true 0, AV.int IntKind.i64 true 0, AV.int IntKind.i64 true 0, AV.int IntKind.i64 true 0, AV.int IntKind.i64 true 0, AV.int IntKind.i64 true 0, AV.int IntKind.i64 true 0, AV.int IntKind.i64 true 0,
                    AV.int IntKind.i64 true 0, AV.int IntKind.i64 true 0, AV.int IntKind.i64 true 0, AV.int IntKind.i64 true 0, AV.int IntKind.i64 true 0, AV.int IntKind.i64 true 0, AV.int IntKind.i64 true 0],
                AV.int IntKind.i64 true 2],
            []))
        (Tree.br (decide (b < 1))
          (Tree.ret
            (AV.tup
                [AV.agg
                    [AV.int IntKind.i64 true 0, AV.int IntKind.i64 true 0, AV.int IntKind.i64 true 0, AV.int IntKind.i64 true 0, AV.int IntKind.i64 true 0, AV.int IntKind.i64 true 0, AV.int IntKind.i64 true 0, AV.int IntKind.i64 true 0,
                      AV.int IntKind.i64 true 0, AV.int IntKind.i64 true 0, AV.int IntKind.i64 true 0, AV.int IntKind.i64 true 0, AV.int IntKind.i64 true 0, AV.int IntKind.i64 true 0, AV.int IntKind.i64 true 0, AV.int IntKind.i64 true 0,
                      AV.int IntKind.i64 true 0, AV.int IntKind.i64 true 0, AV.int IntKind.i64 true 0, AV.int IntKind.i64 true 0, AV.int IntKind.i64 true 0, AV.int IntKind.i64 true 0, AV.int IntKind.i64 true 0],
                  AV.int IntKind.i64 true 2],
              []))
          (Tree.br (decide (b > 60000))
            (Tree.ret
              (AV.tup
                  [AV.agg
                      [AV.int IntKind.i64 true 0, AV.int IntKind.i64 true 0, AV.int IntKind.i64 true 0, AV.int IntKind.i64 true 0, AV.int IntKind.i64 true 0, AV.int IntKind.i64 true 0, AV.int IntKind.i64 true 0, AV.int IntKind.i64 true 0,
                        AV.int IntKind.i64 true 0, AV.int IntKind.i64 true 0, AV.int IntKind.i64 true 0, AV.int IntKind.i64 true 0, AV.int IntKind.i64 true 0, AV.int IntKind.i64 true 0, AV.int IntKind.i64 true 0, AV.int IntKind.i64 true 0,
                        AV.int IntKind.i64 true 0, AV.int IntKind.i64 true 0, AV.int IntKind.i64 true 0, AV.int IntKind.i64 true 0, AV.int IntKind.i64 true 0, AV.int IntKind.i64 true 0, AV.int IntKind.i64 true 0],
                    AV.int IntKind.i64 true 2],
                []))
            (Tree.chk
              (-9223372036854775808 ≤ IntKind.wrap IntKind.i64 (sizeZ a * b) ∧
                IntKind.wrap IntKind.i64 (sizeZ a * b) ≤ 9223372036854775807 ∧
                  0 ≤ IntKind.wrap IntKind.i64 (IntKind.wrap IntKind.i64 (x11 * 1000) + x12) ∧ IntKind.wrap IntKind.i64 (IntKind.wrap IntKind.i64 (x11 * 1000) + x12) ≤ 1125899906842624000)
              (Tree.br true
                (Tree.br true
                  (Tree.br true
                    (Tree.br (!decide (x8 = 0))
                      (Tree.ret
                        (AV.tup
                            [AV.agg
                                [AV.int IntKind.i64 false x0, AV.int IntKind.i64 false x1, AV.int IntKind.i64 false x2, AV.int IntKind.i64 false x3, AV.int IntKind.i64 false x4, AV.int IntKind.i64 false x5,
                                  AV.int IntKind.i64 false x6, AV.int IntKind.i64 false x7, AV.int IntKind.i64 false x8, AV.int IntKind.i64 false x9, AV.int IntKind.i64 false x10,
                                  AV.int IntKind.i64 false (IntKind.wrap IntKind.i64 (Int.tdiv (sumZ (IntKind.wrap IntKind.i64 (IntKind.wrap IntKind.i64 (x11 * 1000) + x12)) (IntKind.wrap IntKind.i64 (sizeZ a * b))) 1000)),
                                  AV.int IntKind.i64 false (Int.tmod (sumZ (IntKind.wrap IntKind.i64 (IntKind.wrap IntKind.i64 (x11 * 1000) + x12)) (IntKind.wrap IntKind.i64 (sizeZ a * b))) 1000),
                                  AV.int IntKind.i64 false
                                    (if
                                        (if
                                              2147483647 <
                                                IntKind.wrap IntKind.i64
                                                  (Int.tdiv
                                                    (IntKind.wrap IntKind.i64
                                                      (Int.tdiv (IntKind.wrap IntKind.i64 (Int.tdiv (sumZ (IntKind.wrap IntKind.i64 (IntKind.wrap IntKind.i64 (x11 * 1000) + x12)) (IntKind.wrap IntKind.i64 (sizeZ a * b))) 1000))
                                                        2))
                                                    x8) then
                                            2147483647
                                          else
                                            IntKind.wrap IntKind.i64
                                              (Int.tdiv
                                                (IntKind.wrap IntKind.i64
                                                  (Int.tdiv (IntKind.wrap IntKind.i64 (Int.tdiv (sumZ (IntKind.wrap IntKind.i64 (IntKind.wrap IntKind.i64 (x11 * 1000) + x12)) (IntKind.wrap IntKind.i64 (sizeZ a * b))) 1000)) 2))
                                                x8)) >
                                          x13 then
                                      if
                                          2147483647 <
                                            IntKind.wrap IntKind.i64
                                              (Int.tdiv
                                                (IntKind.wrap IntKind.i64
                                                  (Int.tdiv (IntKind.wrap IntKind.i64 (Int.tdiv (sumZ (IntKind.wrap IntKind.i64 (IntKind.wrap IntKind.i64 (x11 * 1000) + x12)) (IntKind.wrap IntKind.i64 (sizeZ a * b))) 1000)) 2))
                                                x8) then
                                        2147483647
                                      else
                                        IntKind.wrap IntKind.i64
                                          (Int.tdiv
                                            (IntKind.wrap IntKind.i64
                                              (Int.tdiv (IntKind.wrap IntKind.i64 (Int.tdiv (sumZ (IntKind.wrap IntKind.i64 (IntKind.wrap IntKind.i64 (x11 * 1000) + x12)) (IntKind.wrap IntKind.i64 (sizeZ a * b))) 1000)) 2))
                                            x8)
                                    else x13),
                                  AV.int IntKind.i64 false x14, AV.int IntKind.i64 false x15, AV.int IntKind.i64 false x16, AV.int IntKind.i64 false x17, AV.int IntKind.i64 false x18, AV.int IntKind.i64 false x19,
                                  AV.int IntKind.i64 false x20, AV.int IntKind.i64 false x21, AV.int IntKind.i64 false x22],
                              AV.int IntKind.i64 true 0],
                          []))
                      Tree.fail)
                    Tree.fail)
                  Tree.fail)
                Tree.fail)))))) := by kernel_rfl
set_option maxRecDepth 100000 in
theorem gstep (x0 x1 x2 x3 x4 x5 x6 x7 x8 x9 x10 x11 x12 x13 x14 x15 x16 x17 x18 x19 x20 x21 x22 : Int) (a b : Int) (hw : -9223372036854775808 ≤ a ∧ a ≤ 9223372036854775807) : (Tree.chk (-9223372036854775808 ≤ a ∧ a ≤ 9223372036854775807)
    (Tree.br (!ok4 x11 x12 x13 x8)
      (Tree.ret
        (AV.tup
            [AV.agg
                [AV.int IntKind.i64 true 0, AV.int IntKind.i64 true 0, AV.int IntKind.i64 true 0, AV.int IntKind.i64 true 0, AV.int IntKind.i64 true 0, AV.int IntKind.i64 true 0, AV.int IntKind.i64 true 0, AV.int IntKind.i64 true 0,
                  AV.int IntKind.i64 true 0, AV.int IntKind.i64 true 0, AV.int IntKind.i64 true 0, AV.int IntKind.i64 true 0, AV.int IntKind.i64 true 0, AV.int IntKind.i64 true 0, AV.int IntKind.i64 true 0, AV.int IntKind.i64 true 0,
                  AV.int IntKind.i64 true 0, AV.int IntKind.i64 true 0, AV.int IntKind.i64 true 0, AV.int IntKind.i64 true 0, AV.int IntKind.i64 true 0, AV.int IntKind.i64 true 0, AV.int IntKind.i64 true 0],
              AV.int IntKind.i64 true 2],
          []))
      (Tree.br (decide (sizeZ a > 2147483648))
        (Tree.ret
          (AV.tup
              [AV.agg
                  [AV.int IntKind.i64 true 0, AV.int IntKind.i64 true 0, AV.int IntKind.i64 true 0, AV.int IntKind.i64 true 0, AV.int IntKind.i64 true 0, AV.int IntKind.i64 true 0, AV.int IntKind.i64 true 0, AV.int IntKind.i64 true 0,
                    AV.int IntKind.i64 true 0, AV.int IntKind.i64 true 0, AV.int IntKind.i64 true 0, AV.int IntKind.i64 true 0, AV.int IntKind.i64 true 0, AV.int IntKind.i64 true 0, AV.int IntKind.i64 true 0, AV.int IntKind.i64 true 0,
                    AV.int IntKind.i64 true 0, AV.int IntKind.i64 true 0, AV.int IntKind.i64 true 0, AV.int IntKind.i64 true 0, AV.int IntKind.i64 true 0, AV.int IntKind.i64 true 0, AV.int IntKind.i64 true 0],
                AV.int IntKind.i64 true 2],
            []))
        (Tree.br (decide (b < 1))
          (Tree.ret
            (AV.tup
                [AV.agg
                    [AV.int IntKind.i64 true 0, AV.int IntKind.i64 true 0, AV.int IntKind.i64 true 0, AV.int IntKind.i64 true 0, AV.int IntKind.i64 true 0, AV.int IntKind.i64 true 0, AV.int IntKind.i64 true 0, AV.int IntKind.i64 true 0,
                      AV.int IntKind.i64 true 0, AV.int IntKind.i64 true 0, AV.int IntKind.i64 true 0, AV.int IntKind.i64 true 0, AV.int IntKind.i64 true 0, AV.int IntKind.i64 true 0, AV.int IntKind.i64 true 0, AV.int IntKind.i64 true 0,
                      AV.int IntKind.i64 true 0, AV.int IntKind.i64 true 0, AV.int IntKind.i64 true 0, AV.int IntKind.i64 true 0, AV.int IntKind.i64 true 0, AV.int IntKind.i64 true 0, AV.int IntKind.i64 true 0],
                  AV.int IntKind.i64 true 2],
              []))
          (Tree.br (decide (b > 60000))
            (Tree.ret
              (AV.tup
                  [AV.agg
                      [AV.int IntKind.i64 true 0, AV.int IntKind.i64 true 0, AV.int IntKind.i64 true 0, AV.int IntKind.i64 true 0, AV.int IntKind.i64 true 0, AV.int IntKind.i64 true 0, AV.int IntKind.i64 true 0, AV.int IntKind.i64 true 0,
                        AV.int IntKind.i64 true 0, AV.int IntKind.i64 true 0, AV.int IntKind.i64 true 0, AV.int IntKind.i64 true 0, AV.int IntKind.i64 true 0, AV.int IntKind.i64 true 0, AV.int IntKind.i64 true 0, AV.int IntKind.i64 true 0,
                        AV.int IntKind.i64 true 0, AV.int IntKind.i64 true 0, AV.int IntKind.i64 true 0, AV.int IntKind.i64 true 0, AV.int IntKind.i64 true 0, AV.int IntKind.i64 true 0, AV.int IntKind.i64 true 0],
                    AV.int IntKind.i64 true 2],
                []))
            (Tree.chk
              (-9223372036854775808 ≤ IntKind.wrap IntKind.i64 (sizeZ a * b) ∧
                IntKind.wrap IntKind.i64 (sizeZ a * b) ≤ 9223372036854775807 ∧
                  0 ≤ IntKind.wrap IntKind.i64 (IntKind.wrap IntKind.i64 (x11 * 1000) + x12) ∧ IntKind.wrap IntKind.i64 (IntKind.wrap IntKind.i64 (x11 * 1000) + x12) ≤ 1125899906842624000)
              (Tree.br true
                (Tree.br true
                  (Tree.br true
                    (Tree.br (!decide (x8 = 0))
                      (Tree.ret
                        (AV.tup
                            [AV.agg
                                [AV.int IntKind.i64 false x0, AV.int IntKind.i64 false x1, AV.int IntKind.i64 false x2, AV.int IntKind.i64 false x3, AV.int IntKind.i64 false x4, AV.int IntKind.i64 false x5,
                                  AV.int IntKind.i64 false x6, AV.int IntKind.i64 false x7, AV.int IntKind.i64 false x8, AV.int IntKind.i64 false x9, AV.int IntKind.i64 false x10,
                                  AV.int IntKind.i64 false (IntKind.wrap IntKind.i64 (Int.tdiv (sumZ (IntKind.wrap IntKind.i64 (IntKind.wrap IntKind.i64 (x11 * 1000) + x12)) (IntKind.wrap IntKind.i64 (sizeZ a * b))) 1000)),
                                  AV.int IntKind.i64 false (Int.tmod (sumZ (IntKind.wrap IntKind.i64 (IntKind.wrap IntKind.i64 (x11 * 1000) + x12)) (IntKind.wrap IntKind.i64 (sizeZ a * b))) 1000),
                                  AV.int IntKind.i64 false
                                    (if
                                        (if
                                              2147483647 <
                                                IntKind.wrap IntKind.i64
                                                  (Int.tdiv
                                                    (IntKind.wrap IntKind.i64
                                                      (Int.tdiv (IntKind.wrap IntKind.i64 (Int.tdiv (sumZ (IntKind.wrap IntKind.i64 (IntKind.wrap IntKind.i64 (x11 * 1000) + x12)) (IntKind.wrap IntKind.i64 (sizeZ a * b))) 1000))
                                                        2))
                                                    x8) then
                                            2147483647
                                          else
                                            IntKind.wrap IntKind.i64
                                              (Int.tdiv
                                                (IntKind.wrap IntKind.i64
                                                  (Int.tdiv (IntKind.wrap IntKind.i64 (Int.tdiv (sumZ (IntKind.wrap IntKind.i64 (IntKind.wrap IntKind.i64 (x11 * 1000) + x12)) (IntKind.wrap IntKind.i64 (sizeZ a * b))) 1000)) 2))
                                                x8)) >
                                          x13 then
                                      if
                                          2147483647 <
                                            IntKind.wrap IntKind.i64
                                              (Int.tdiv
                                                (IntKind.wrap IntKind.i64
                                                  (Int.tdiv (IntKind.wrap IntKind.i64 (Int.tdiv (sumZ (IntKind.wrap IntKind.i64 (IntKind.wrap IntKind.i64 (x11 * 1000) + x12)) (IntKind.wrap IntKind.i64 (sizeZ a * b))) 1000)) 2))
                                                x8) then
                                        2147483647
                                      else
                                        IntKind.wrap IntKind.i64
                                          (Int.tdiv
                                            (IntKind.wrap IntKind.i64
                                              (Int.tdiv (IntKind.wrap IntKind.i64 (Int.tdiv (sumZ (IntKind.wrap IntKind.i64 (IntKind.wrap IntKind.i64 (x11 * 1000) + x12)) (IntKind.wrap IntKind.i64 (sizeZ a * b))) 1000)) 2))
                                            x8)
                                    else x13),
                                  AV.int IntKind.i64 false x14, AV.int IntKind.i64 false x15, AV.int IntKind.i64 false x16, AV.int IntKind.i64 false x17, AV.int IntKind.i64 false x18, AV.int IntKind.i64 false x19,
                                  AV.int IntKind.i64 false x20, AV.int IntKind.i64 false x21, AV.int IntKind.i64 false x22],
                              AV.int IntKind.i64 true 0],
                          []))
                      Tree.fail)
                    Tree.fail)
                  Tree.fail)
                Tree.fail)))))) : Tree (AV × Mem)).Gives (.tup [.agg [.int .i64 false (selZ (sok4 x11 x12 x13 x8 a b) (x0)), .int .i64 false (selZ (sok4 x11 x12 x13 x8 a b) (x1)), .int .i64 false (selZ (sok4 x11 x12 x13 x8 a b) (x2)), .int .i64 false (selZ (sok4 x11 x12 x13 x8 a b) (x3)), .int .i64 false (selZ (sok4 x11 x12 x13 x8 a b) (x4)), .int .i64 false (selZ (sok4 x11 x12 x13 x8 a b) (x5)), .int .i64 false (selZ (sok4 x11 x12 x13 x8 a b) (x6)), .int .i64 false (selZ (sok4 x11 x12 x13 x8 a b) (x7)), .int .i64 false (selZ (sok4 x11 x12 x13 x8 a b) (x8)), .int .i64 false (selZ (sok4 x11 x12 x13 x8 a b) (x9)), .int .i64 false (selZ (sok4 x11 x12 x13 x8 a b) (x10)), .int .i64 false (selZ (sok4 x11 x12 x13 x8 a b) ((min 1125899906842624000 (x11 * 1000 + x12 + sizeZ a * b)) / 1000)), .int .i64 false (selZ (sok4 x11 x12 x13 x8 a b) ((min 1125899906842624000 (x11 * 1000 + x12 + sizeZ a * b)) % 1000)), .int .i64 false (selZ (sok4 x11 x12 x13 x8 a b) (max x13 (min ((min 1125899906842624000 (x11 * 1000 + x12 + sizeZ a * b)) / 1000 / 2 / x8) 2147483647))), .int .i64 false (selZ (sok4 x11 x12 x13 x8 a b) (x14)), .int .i64 false (selZ (sok4 x11 x12 x13 x8 a b) (x15)), .int .i64 false (selZ (sok4 x11 x12 x13 x8 a b) (x16)), .int .i64 false (selZ (sok4 x11 x12 x13 x8 a b) (x17)), .int .i64 false (selZ (sok4 x11 x12 x13 x8 a b) (x18)), .int .i64 false (selZ (sok4 x11 x12 x13 x8 a b) (x19)), .int .i64 false (selZ (sok4 x11 x12 x13 x8 a b) (x20)), .int .i64 false (selZ (sok4 x11 x12 x13 x8 a b) (x21)), .int .i64 false (selZ (sok4 x11 x12 x13 x8 a b) (x22))], .int .i64 false (errZ (sok4 x11 x12 x13 x8 a b))]) ([]) := by
  cases hk : sok4 x11 x12 x13 x8 a b
  · simp only [selZ_f, errZ_f]
    repeat' first
      | (refine Tree.Gives.br (fun h => ?_) (fun h => ?_) <;> (try simp only [decide_eq_true_eq, decide_eq_false_iff_not, Bool.not_eq_true', Bool.not_eq_false', beq_iff_eq, beq_eq_false_iff_ne, Int.not_lt, Int.not_le, ge_iff_le, gt_iff_lt, ne_eq, Bool.false_eq_true, Bool.true_eq_false, errZ_bne, errZ_beq] at h))
      | refine Tree.Gives.chk ?_ ?_
      | refine Tree.Gives.ret ?_ (by first | exact Mem.le_refl _ | (simp only [Mem.le, Blk.le, Data.le, AV.le, AV.leL, and_true, true_and]; done))
  
    all_goals first | exact hw | (simp only [AV.le, AV.leL, and_true, true_and]; done) | exact (sok4_no hk (by assumption) (by omega) (by omega) (by omega)).elim
  · simp only [selZ_t, errZ_t]
    obtain ⟨k1, k2, k3, k4⟩ := sok4_iff.1 hk
    obtain ⟨f1, f2, f3, f4, f5, f6, f7, f8, f9, f10, f11⟩ := step_facts hw hk
    obtain ⟨g1, g2, g3, g4⟩ := fin3 f8 f9 f10
    simp only [k1, f1, f2, f7, g1, g2, g3, g4, Bool.not_true]
    repeat' first
      | (refine Tree.Gives.br (fun h => ?_) (fun h => ?_) <;> (try simp only [decide_eq_true_eq, decide_eq_false_iff_not, Bool.not_eq_true', Bool.not_eq_false', beq_iff_eq, beq_eq_false_iff_ne, Int.not_lt, Int.not_le, ge_iff_le, gt_iff_lt, ne_eq, Bool.false_eq_true, Bool.true_eq_false, errZ_bne, errZ_beq] at h))
      | refine Tree.Gives.chk ?_ ?_
      | refine Tree.Gives.ret ?_ (by first | exact Mem.le_refl _ | (simp only [Mem.le, Blk.le, Data.le, AV.le, AV.leL, and_true, true_and]; done))
  
    all_goals first | omega | (simp only [AV.le, AV.leL, and_true, true_and]) | (exfalso; omega)
    all_goals (repeat' split) <;> omega
theorem sstep (x0 x1 x2 x3 x4 x5 x6 x7 x8 x9 x10 x11 x12 x13 x14 x15 x16 x17 x18 x19 x20 x21 x22 : Int) (a b : Int) (hw : -9223372036854775808 ≤ a ∧ a ≤ 9223372036854775807) : SoundAt (mkC Try.prog 0 (fun _ => none) []) 23 [.agg [.int .i64 false x0, .int .i64 false x1, .int .i64 false x2, .int .i64 false x3, .int .i64 false x4, .int .i64 false x5, .int .i64 false x6, .int .i64 false x7, .int .i64 false x8, .int .i64 false x9, .int .i64 false x10, .int .i64 false x11, .int .i64 false x12, .int .i64 false x13, .int .i64 false x14, .int .i64 false x15, .int .i64 false x16, .int .i64 false x17, .int .i64 false x18, .int .i64 false x19, .int .i64 false x20, .int .i64 false x21, .int .i64 false x22], .int .i64 false a, .int .i64 false b] [] (.tup [.agg [.int .i64 false (selZ (sok4 x11 x12 x13 x8 a b) (x0)), .int .i64 false (selZ (sok4 x11 x12 x13 x8 a b) (x1)), .int .i64 false (selZ (sok4 x11 x12 x13 x8 a b) (x2)), .int .i64 false (selZ (sok4 x11 x12 x13 x8 a b) (x3)), .int .i64 false (selZ (sok4 x11 x12 x13 x8 a b) (x4)), .int .i64 false (selZ (sok4 x11 x12 x13 x8 a b) (x5)), .int .i64 false (selZ (sok4 x11 x12 x13 x8 a b) (x6)), .int .i64 false (selZ (sok4 x11 x12 x13 x8 a b) (x7)), .int .i64 false (selZ (sok4 x11 x12 x13 x8 a b) (x8)), .int .i64 false (selZ (sok4 x11 x12 x13 x8 a b) (x9)), .int .i64 false (selZ (sok4 x11 x12 x13 x8 a b) (x10)), .int .i64 false (selZ (sok4 x11 x12 x13 x8 a b) ((min 1125899906842624000 (x11 * 1000 + x12 + sizeZ a * b)) / 1000)), .int .i64 false (selZ (sok4 x11 x12 x13 x8 a b) ((min 1125899906842624000 (x11 * 1000 + x12 + sizeZ a * b)) % 1000)), .int .i64 false (selZ (sok4 x11 x12 x13 x8 a b) (max x13 (min ((min 1125899906842624000 (x11 * 1000 + x12 + sizeZ a * b)) / 1000 / 2 / x8) 2147483647))), .int .i64 false (selZ (sok4 x11 x12 x13 x8 a b) (x14)), .int .i64 false (selZ (sok4 x11 x12 x13 x8 a b) (x15)), .int .i64 false (selZ (sok4 x11 x12 x13 x8 a b) (x16)), .int .i64 false (selZ (sok4 x11 x12 x13 x8 a b) (x17)), .int .i64 false (selZ (sok4 x11 x12 x13 x8 a b) (x18)), .int .i64 false (selZ (sok4 x11 x12 x13 x8 a b) (x19)), .int .i64 false (selZ (sok4 x11 x12 x13 x8 a b) (x20)), .int .i64 false (selZ (sok4 x11 x12 x13 x8 a b) (x21)), .int .i64 false (selZ (sok4 x11 x12 x13 x8 a b) (x22))], .int .i64 false (errZ (sok4 x11 x12 x13 x8 a b))], []) := sound_of all9 mix (tstep x0 x1 x2 x3 x4 x5 x6 x7 x8 x9 x10 x11 x12 x13 x14 x15 x16 x17 x18 x19 x20 x21 x22 a b) (gstep x0 x1 x2 x3 x4 x5 x6 x7 x8 x9 x10 x11 x12 x13 x14 x15 x16 x17 x18 x19 x20 x21 x22 a b hw)
theorem estep_ok : EntOk Try.prog 0 (fun _ => none) 23 estep := by
  intro args M t h r hr
  unfold estep at h
  split at h
  · cases h
    obtain ⟨hw, rfl⟩ := hr
    rename_i _ x0 _ x1 _ x2 _ x3 _ x4 _ x5 _ x6 _ x7 _ x8 _ x9 _ x10 _ x11 _ x12 _ x13 _ x14 _ x15 _ x16 _ x17 _ x18 _ x19 _ x20 _ x21 _ x22 _ a _ b
    refine SoundAt.flags (sstep x0 x1 x2 x3 x4 x5 x6 x7 x8 x9 x10 x11 x12 x13 x14 x15 x16 x17 x18 x19 x20 x21 x22 a b hw) ?_
    simp [AV.le, AV.leL, Cap.le]
  · cases h
theorem all10 : AllOk Try.prog 0 (fun _ => none) [(23, estep), (36, esum), (26, ertotal), (25, etotal), (42, ersize), (41, esize), (28, erchk), (27, echk), (43, eright), (29, eworks)] := ⟨estep_ok, all9⟩
end Go.Proofs.Ytonhkbgielilbaa.Rig
