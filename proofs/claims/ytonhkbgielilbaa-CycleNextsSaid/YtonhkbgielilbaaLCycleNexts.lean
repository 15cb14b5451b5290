/- What the law CycleNexts gives. -/
import Derived.Test.YtonhkbgielilbaaQrnext
namespace Go.Proofs.Ytonhkbgielilbaa.Rig
open Go
set_option maxRecDepth 100000 in
theorem tCycleNexts (x0 x1 x2 x3 x4 x5 x6 x7 x8 x9 x10 x11 x12 x13 x14 x15 x16 x17 x18 x19 x20 x21 x22 : Int) : evBody (mkC Try.prog 0 (fun _ => none) [(31, ernext), (30, enext), (24, erstep), (23, estep), (36, esum), (26, ertotal), (25, etotal), (42, ersize), (41, esize), (28, erchk), (27, echk), (43, eright), (29, eworks)]) (evCall (mkC Try.prog 0 (fun _ => none) [(31, ernext), (30, enext), (24, erstep), (23, estep), (36, esum), (26, ertotal), (25, etotal), (42, ersize), (41, esize), (28, erchk), (27, echk), (43, eright), (29, eworks)]) 50) 9 [.agg [.int .i64 false x0, .int .i64 false x1, .int .i64 false x2, .int .i64 false x3, .int .i64 false x4, .int .i64 false x5, .int .i64 false x6, .int .i64 false x7, .int .i64 false x8, .int .i64 false x9, .int .i64 false x10, .int .i64 false x11, .int .i64 false x12, .int .i64 false x13, .int .i64 false x14, .int .i64 false x15, .int .i64 false x16, .int .i64 false x17, .int .i64 false x18, .int .i64 false x19, .int .i64 false x20, .int .i64 false x21, .int .i64 false x22]] [] =
  Tree.br (selZ (ok4 x11 x12 x13 x8) (nextZ x8 x11 x13) == selZ (ok4 x11 x12 x13 x8) (nextZ x8 x11 x13))
    (Tree.br (errZ (ok4 x11 x12 x13 x8) == errZ (ok4 x11 x12 x13 x8)) (Tree.ret (AV.bool true true, [])) (Tree.ret (AV.bool true false, []))) (Tree.ret (AV.bool true false, [])) := by kernel_rfl
set_option maxRecDepth 100000 in
theorem gCycleNexts (x0 x1 x2 x3 x4 x5 x6 x7 x8 x9 x10 x11 x12 x13 x14 x15 x16 x17 x18 x19 x20 x21 x22 : Int) : (Tree.br (selZ (ok4 x11 x12 x13 x8) (nextZ x8 x11 x13) == selZ (ok4 x11 x12 x13 x8) (nextZ x8 x11 x13))
    (Tree.br (errZ (ok4 x11 x12 x13 x8) == errZ (ok4 x11 x12 x13 x8)) (Tree.ret (AV.bool true true, [])) (Tree.ret (AV.bool true false, []))) (Tree.ret (AV.bool true false, [])) : Tree (AV × Mem)).Gives (.bool false true) ([]) := by
  repeat' first
    | (refine Tree.Gives.br (fun h => ?_) (fun h => ?_) <;> (try simp only [decide_eq_true_eq, decide_eq_false_iff_not, Bool.not_eq_true', Bool.not_eq_false', beq_iff_eq, beq_eq_false_iff_ne, Int.not_lt, Int.not_le, ge_iff_le, gt_iff_lt, ne_eq, Bool.false_eq_true, Bool.true_eq_false, errZ_bne, errZ_beq, beq_self_eq_true, Bool.and_self, Bool.true_and, Bool.and_true, Bool.not_true] at h))
    | refine Tree.Gives.chk ?_ ?_
    | refine Tree.Gives.ret ?_ (by first | exact Mem.le_refl _ | (simp only [Mem.le, Blk.le, Data.le, AV.le, AV.leL, and_true, true_and]; done))
  all_goals first | (simp only [AV.le, AV.leL, and_true, true_and]; done) | skip
  all_goals (simp only [AV.le, beq_self_eq_true, Bool.and_self]; done)
theorem lawCycleNexts (x0 x1 x2 x3 x4 x5 x6 x7 x8 x9 x10 x11 x12 x13 x14 x15 x16 x17 x18 x19 x20 x21 x22 : Int) : SoundAt (mkC Try.prog 0 (fun _ => none) []) 9 [.agg [.int .i64 false x0, .int .i64 false x1, .int .i64 false x2, .int .i64 false x3, .int .i64 false x4, .int .i64 false x5, .int .i64 false x6, .int .i64 false x7, .int .i64 false x8, .int .i64 false x9, .int .i64 false x10, .int .i64 false x11, .int .i64 false x12, .int .i64 false x13, .int .i64 false x14, .int .i64 false x15, .int .i64 false x16, .int .i64 false x17, .int .i64 false x18, .int .i64 false x19, .int .i64 false x20, .int .i64 false x21, .int .i64 false x22]] [] (.bool false true, []) := sound_of all13 mix (tCycleNexts x0 x1 x2 x3 x4 x5 x6 x7 x8 x9 x10 x11 x12 x13 x14 x15 x16 x17 x18 x19 x20 x21 x22) (gCycleNexts x0 x1 x2 x3 x4 x5 x6 x7 x8 x9 x10 x11 x12 x13 x14 x15 x16 x17 x18 x19 x20 x21 x22)
end Go.Proofs.Ytonhkbgielilbaa.Rig
