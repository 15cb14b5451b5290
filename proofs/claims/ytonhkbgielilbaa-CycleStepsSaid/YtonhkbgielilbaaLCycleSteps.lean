/- What the law CycleSteps gives. -/
import Derived.Test.YtonhkbgielilbaaQrnext
namespace Go.Proofs.Ytonhkbgielilbaa.Rig
open Go
set_option maxRecDepth 100000 in
theorem tCycleSteps (x0 x1 x2 x3 x4 x5 x6 x7 x8 x9 x10 x11 x12 x13 x14 x15 x16 x17 x18 x19 x20 x21 x22 : Int) (a b : Int) : evBody (mkC Try.prog 0 (fun _ => none) [(31, ernext), (30, enext), (24, erstep), (23, estep), (36, esum), (26, ertotal), (25, etotal), (42, ersize), (41, esize), (28, erchk), (27, echk), (43, eright), (29, eworks)]) (evCall (mkC Try.prog 0 (fun _ => none) [(31, ernext), (30, enext), (24, erstep), (23, estep), (36, esum), (26, ertotal), (25, etotal), (42, ersize), (41, esize), (28, erchk), (27, echk), (43, eright), (29, eworks)]) 50) 8 [.agg [.int .i64 false x0, .int .i64 false x1, .int .i64 false x2, .int .i64 false x3, .int .i64 false x4, .int .i64 false x5, .int .i64 false x6, .int .i64 false x7, .int .i64 false x8, .int .i64 false x9, .int .i64 false x10, .int .i64 false x11, .int .i64 false x12, .int .i64 false x13, .int .i64 false x14, .int .i64 false x15, .int .i64 false x16, .int .i64 false x17, .int .i64 false x18, .int .i64 false x19, .int .i64 false x20, .int .i64 false x21, .int .i64 false x22], .agg [.int .i64 false a, .int .i64 false b]] [] =
  Tree.chk (-9223372036854775808 ≤ a ∧ a ≤ 9223372036854775807)
    (Tree.chk (-9223372036854775808 ≤ a ∧ a ≤ 9223372036854775807)
      (Tree.br
        (selZ (sok4 x11 x12 x13 x8 a b) x0 == selZ (sok4 x11 x12 x13 x8 a b) x0 &&
          (selZ (sok4 x11 x12 x13 x8 a b) x1 == selZ (sok4 x11 x12 x13 x8 a b) x1 &&
            (selZ (sok4 x11 x12 x13 x8 a b) x2 == selZ (sok4 x11 x12 x13 x8 a b) x2 &&
              (selZ (sok4 x11 x12 x13 x8 a b) x3 == selZ (sok4 x11 x12 x13 x8 a b) x3 &&
                (selZ (sok4 x11 x12 x13 x8 a b) x4 == selZ (sok4 x11 x12 x13 x8 a b) x4 &&
                  (selZ (sok4 x11 x12 x13 x8 a b) x5 == selZ (sok4 x11 x12 x13 x8 a b) x5 &&
                    (selZ (sok4 x11 x12 x13 x8 a b) x6 == selZ (sok4 x11 x12 x13 x8 a b) x6 &&
                      (selZ (sok4 x11 x12 x13 x8 a b) x7 == selZ (sok4 x11 x12 x13 x8 a b) x7 &&
                        (selZ (sok4 x11 x12 x13 x8 a b) x8 == selZ (sok4 x11 x12 x13 x8 a b) x8 &&
                          (selZ (sok4 x11 x12 x13 x8 a b) x9 == selZ (sok4 x11 x12 x13 x8 a b) x9 &&
                            (selZ (sok4 x11 x12 x13 x8 a b) x10 == selZ (sok4 x11 x12 x13 x8 a b) x10 &&
                              (selZ (sok4 x11 x12 x13 x8 a b) (min 1125899906842624000 (x11 * 1000 + x12 + sizeZ a * b) / 1000) ==
                                  selZ (sok4 x11 x12 x13 x8 a b) (min 1125899906842624000 (x11 * 1000 + x12 + sizeZ a * b) / 1000) &&
                                (selZ (sok4 x11 x12 x13 x8 a b) (min 1125899906842624000 (x11 * 1000 + x12 + sizeZ a * b) % 1000) ==
                                    selZ (sok4 x11 x12 x13 x8 a b) (min 1125899906842624000 (x11 * 1000 + x12 + sizeZ a * b) % 1000) &&
                                  (selZ (sok4 x11 x12 x13 x8 a b) (max x13 (min (min 1125899906842624000 (x11 * 1000 + x12 + sizeZ a * b) / 1000 / 2 / x8) 2147483647)) ==
                                      selZ (sok4 x11 x12 x13 x8 a b) (max x13 (min (min 1125899906842624000 (x11 * 1000 + x12 + sizeZ a * b) / 1000 / 2 / x8) 2147483647)) &&
                                    (selZ (sok4 x11 x12 x13 x8 a b) x14 == selZ (sok4 x11 x12 x13 x8 a b) x14 &&
                                      (selZ (sok4 x11 x12 x13 x8 a b) x15 == selZ (sok4 x11 x12 x13 x8 a b) x15 &&
                                          (selZ (sok4 x11 x12 x13 x8 a b) x16 == selZ (sok4 x11 x12 x13 x8 a b) x16 &&
                                            (selZ (sok4 x11 x12 x13 x8 a b) x17 == selZ (sok4 x11 x12 x13 x8 a b) x17 &&
                                              (selZ (sok4 x11 x12 x13 x8 a b) x18 == selZ (sok4 x11 x12 x13 x8 a b) x18 &&
                                                (selZ (sok4 x11 x12 x13 x8 a b) x19 == selZ (sok4 x11 x12 x13 x8 a b) x19 &&
                                                  (selZ (sok4 x11 x12 x13 x8 a b) x20 == selZ (sok4 x11 x12 x13 x8 a b) x20 && true))))) &&
                                        (selZ (sok4 x11 x12 x13 x8 a b) x21 == selZ (sok4 x11 x12 x13 x8 a b) x21 &&
                                          (selZ (sok4 x11 x12 x13 x8 a b) x22 == selZ (sok4 x11 x12 x13 x8 a b) x22 && true))))))))))))))))))
        (Tree.br (errZ (sok4 x11 x12 x13 x8 a b) == errZ (sok4 x11 x12 x13 x8 a b))
          (Tree.br (selZ (ok4 x11 x12 x13 x8) (x11 * 1000 + x12) == selZ (ok4 x11 x12 x13 x8) (x11 * 1000 + x12))
            (Tree.br (errZ (ok4 x11 x12 x13 x8) == errZ (ok4 x11 x12 x13 x8))
              (Tree.br (errZ (ok4 x11 x12 x13 x8) == errZ (ok4 x11 x12 x13 x8)) (Tree.ret (AV.bool true true, [])) (Tree.ret (AV.bool true false, []))) (Tree.ret (AV.bool true false, [])))
            (Tree.ret (AV.bool true false, [])))
          (Tree.ret (AV.bool true false, [])))
        (Tree.ret (AV.bool true false, [])))) := by kernel_rfl
set_option maxRecDepth 100000 in
theorem gCycleSteps (x0 x1 x2 x3 x4 x5 x6 x7 x8 x9 x10 x11 x12 x13 x14 x15 x16 x17 x18 x19 x20 x21 x22 : Int) (a b : Int) (hw : -9223372036854775808 ≤ a ∧ a ≤ 9223372036854775807) : (Tree.chk (-9223372036854775808 ≤ a ∧ a ≤ 9223372036854775807)
    (Tree.chk (-9223372036854775808 ≤ a ∧ a ≤ 9223372036854775807)
      (Tree.br
        (selZ (sok4 x11 x12 x13 x8 a b) x0 == selZ (sok4 x11 x12 x13 x8 a b) x0 &&
          (selZ (sok4 x11 x12 x13 x8 a b) x1 == selZ (sok4 x11 x12 x13 x8 a b) x1 &&
            (selZ (sok4 x11 x12 x13 x8 a b) x2 == selZ (sok4 x11 x12 x13 x8 a b) x2 &&
              (selZ (sok4 x11 x12 x13 x8 a b) x3 == selZ (sok4 x11 x12 x13 x8 a b) x3 &&
                (selZ (sok4 x11 x12 x13 x8 a b) x4 == selZ (sok4 x11 x12 x13 x8 a b) x4 &&
                  (selZ (sok4 x11 x12 x13 x8 a b) x5 == selZ (sok4 x11 x12 x13 x8 a b) x5 &&
                    (selZ (sok4 x11 x12 x13 x8 a b) x6 == selZ (sok4 x11 x12 x13 x8 a b) x6 &&
                      (selZ (sok4 x11 x12 x13 x8 a b) x7 == selZ (sok4 x11 x12 x13 x8 a b) x7 &&
                        (selZ (sok4 x11 x12 x13 x8 a b) x8 == selZ (sok4 x11 x12 x13 x8 a b) x8 &&
                          (selZ (sok4 x11 x12 x13 x8 a b) x9 == selZ (sok4 x11 x12 x13 x8 a b) x9 &&
                            (selZ (sok4 x11 x12 x13 x8 a b) x10 == selZ (sok4 x11 x12 x13 x8 a b) x10 &&
                              (selZ (sok4 x11 x12 x13 x8 a b) (min 1125899906842624000 (x11 * 1000 + x12 + sizeZ a * b) / 1000) ==
                                  selZ (sok4 x11 x12 x13 x8 a b) (min 1125899906842624000 (x11 * 1000 + x12 + sizeZ a * b) / 1000) &&
                                (selZ (sok4 x11 x12 x13 x8 a b) (min 1125899906842624000 (x11 * 1000 + x12 + sizeZ a * b) % 1000) ==
                                    selZ (sok4 x11 x12 x13 x8 a b) (min 1125899906842624000 (x11 * 1000 + x12 + sizeZ a * b) % 1000) &&
                                  (selZ (sok4 x11 x12 x13 x8 a b) (max x13 (min (min 1125899906842624000 (x11 * 1000 + x12 + sizeZ a * b) / 1000 / 2 / x8) 2147483647)) ==
                                      selZ (sok4 x11 x12 x13 x8 a b) (max x13 (min (min 1125899906842624000 (x11 * 1000 + x12 + sizeZ a * b) / 1000 / 2 / x8) 2147483647)) &&
                                    (selZ (sok4 x11 x12 x13 x8 a b) x14 == selZ (sok4 x11 x12 x13 x8 a b) x14 &&
                                      (selZ (sok4 x11 x12 x13 x8 a b) x15 == selZ (sok4 x11 x12 x13 x8 a b) x15 &&
                                          (selZ (sok4 x11 x12 x13 x8 a b) x16 == selZ (sok4 x11 x12 x13 x8 a b) x16 &&
                                            (selZ (sok4 x11 x12 x13 x8 a b) x17 == selZ (sok4 x11 x12 x13 x8 a b) x17 &&
                                              (selZ (sok4 x11 x12 x13 x8 a b) x18 == selZ (sok4 x11 x12 x13 x8 a b) x18 &&
                                                (selZ (sok4 x11 x12 x13 x8 a b) x19 == selZ (sok4 x11 x12 x13 x8 a b) x19 &&
                                                  (selZ (sok4 x11 x12 x13 x8 a b) x20 == selZ (sok4 x11 x12 x13 x8 a b) x20 && true))))) &&
                                        (selZ (sok4 x11 x12 x13 x8 a b) x21 == selZ (sok4 x11 x12 x13 x8 a b) x21 &&
                                          (selZ (sok4 x11 x12 x13 x8 a b) x22 == selZ (sok4 x11 x12 x13 x8 a b) x22 && true))))))))))))))))))
        (Tree.br (errZ (sok4 x11 x12 x13 x8 a b) == errZ (sok4 x11 x12 x13 x8 a b))
          (Tree.br (selZ (ok4 x11 x12 x13 x8) (x11 * 1000 + x12) == selZ (ok4 x11 x12 x13 x8) (x11 * 1000 + x12))
            (Tree.br (errZ (ok4 x11 x12 x13 x8) == errZ (ok4 x11 x12 x13 x8))
              (Tree.br (errZ (ok4 x11 x12 x13 x8) == errZ (ok4 x11 x12 x13 x8)) (Tree.ret (AV.bool true true, [])) (Tree.ret (AV.bool true false, []))) (Tree.ret (AV.bool true false, [])))
            (Tree.ret (AV.bool true false, [])))
          (Tree.ret (AV.bool true false, [])))
        (Tree.ret (AV.bool true false, [])))) : Tree (AV × Mem)).Gives (.bool false true) ([]) := by
  repeat' first
    | (refine Tree.Gives.br (fun h => ?_) (fun h => ?_) <;> (try simp only [decide_eq_true_eq, decide_eq_false_iff_not, Bool.not_eq_true', Bool.not_eq_false', beq_iff_eq, beq_eq_false_iff_ne, Int.not_lt, Int.not_le, ge_iff_le, gt_iff_lt, ne_eq, Bool.false_eq_true, Bool.true_eq_false, errZ_bne, errZ_beq, beq_self_eq_true, Bool.and_self, Bool.true_and, Bool.and_true, Bool.not_true] at h))
    | refine Tree.Gives.chk ?_ ?_
    | refine Tree.Gives.ret ?_ (by first | exact Mem.le_refl _ | (simp only [Mem.le, Blk.le, Data.le, AV.le, AV.leL, and_true, true_and]; done))
  all_goals first | (simp only [AV.le, AV.leL, and_true, true_and]; done) | skip
  all_goals first | exact hw | (simp only [AV.le, beq_self_eq_true, Bool.and_self]; done)
theorem lawCycleSteps (x0 x1 x2 x3 x4 x5 x6 x7 x8 x9 x10 x11 x12 x13 x14 x15 x16 x17 x18 x19 x20 x21 x22 : Int) (a b : Int) (hw : -9223372036854775808 ≤ a ∧ a ≤ 9223372036854775807) : SoundAt (mkC Try.prog 0 (fun _ => none) []) 8 [.agg [.int .i64 false x0, .int .i64 false x1, .int .i64 false x2, .int .i64 false x3, .int .i64 false x4, .int .i64 false x5, .int .i64 false x6, .int .i64 false x7, .int .i64 false x8, .int .i64 false x9, .int .i64 false x10, .int .i64 false x11, .int .i64 false x12, .int .i64 false x13, .int .i64 false x14, .int .i64 false x15, .int .i64 false x16, .int .i64 false x17, .int .i64 false x18, .int .i64 false x19, .int .i64 false x20, .int .i64 false x21, .int .i64 false x22], .agg [.int .i64 false a, .int .i64 false b]] [] (.bool false true, []) := sound_of all13 mix (tCycleSteps x0 x1 x2 x3 x4 x5 x6 x7 x8 x9 x10 x11 x12 x13 x14 x15 x16 x17 x18 x19 x20 x21 x22 a b) (gCycleSteps x0 x1 x2 x3 x4 x5 x6 x7 x8 x9 x10 x11 x12 x13 x14 x15 x16 x17 x18 x19 x20 x21 x22 a b hw)
end Go.Proofs.Ytonhkbgielilbaa.Rig
