/- What function 43 gives. -/
import Derived.Test.YtonhkbgielilbaaQworks
namespace Go.Proofs.Ytonhkbgielilbaa.Rig
open Go
set_option linter.unusedVariables false in
noncomputable def eright : Ent := fun args M => match args, M with
  | [.agg [.int .i64 _ x0, .int .i64 _ x1, .int .i64 _ x2, .int .i64 _ x3, .int .i64 _ x4, .int .i64 _ x5, .int .i64 _ x6, .int .i64 _ x7, .int .i64 _ x8, .int .i64 _ x9, .int .i64 _ x10, .int .i64 _ x11, .int .i64 _ x12, .int .i64 _ x13, .int .i64 _ x14, .int .i64 _ x15, .int .i64 _ x16, .int .i64 _ x17, .int .i64 _ x18, .int .i64 _ x19, .int .i64 _ x20, .int .i64 _ x21, .int .i64 _ x22]], [] => some (.ret (.bool false (ok4 x11 x12 x13 x8), []))
  | _, _ => none
set_option maxRecDepth 100000 in
theorem tright (x0 x1 x2 x3 x4 x5 x6 x7 x8 x9 x10 x11 x12 x13 x14 x15 x16 x17 x18 x19 x20 x21 x22 : Int) : evBody (mkC Try.prog 0 (fun _ => none) [(29, eworks)]) (evCall (mkC Try.prog 0 (fun _ => none) [(29, eworks)]) 50) 43 [.agg [.int .i64 false x0, .int .i64 false x1, .int .i64 false x2, .int .i64 false x3, .int .i64 false x4, .int .i64 false x5, .int .i64 false x6, .int .i64 false x7, .int .i64 false x8, .int .i64 false x9, .int .i64 false x10, .int .i64 false x11, .int .i64 false x12, .int .i64 false x13, .int .i64 false x14, .int .i64 false x15, .int .i64 false x16, .int .i64 false x17, .int .i64 false x18, .int .i64 false x19, .int .i64 false x20, .int .i64 false x21, .int .i64 false x22]] [] =
  Tree.br (decide (x11 < 0)) (Tree.ret (AV.bool true false, []))
    (Tree.br (decide (x11 > 1125899906842624)) (Tree.ret (AV.bool true false, []))
      (Tree.br (decide (IntKind.wrap IntKind.i64 (x8 - 1) < 0)) (Tree.ret (AV.bool true false, []))
        (Tree.br (decide (IntKind.wrap IntKind.i64 (x8 - 1) > 1125899906842624)) (Tree.ret (AV.bool true false, []))
          (Tree.br (decide (x8 < 0)) (Tree.ret (AV.bool true false, []))
            (Tree.br (decide (x8 > 1125899906842624)) (Tree.ret (AV.bool true false, []))
              (Tree.br (decide (x12 < 0)) (Tree.ret (AV.bool true false, []))
                (Tree.br (decide (x12 > 999)) (Tree.ret (AV.bool true false, []))
                  (Tree.br (decide (x13 < 0)) (Tree.ret (AV.bool true false, []))
                    (Tree.br (decide (x13 > 2147483647)) (Tree.ret (AV.bool true false, []))
                      (Tree.ret (AV.bool false (decide (IntKind.wrap IntKind.i64 (IntKind.wrap IntKind.i64 (x11 * 1000) + x12) ≤ 1125899906842624000)), []))))))))))) := by kernel_rfl
set_option maxRecDepth 100000 in
theorem gright (x0 x1 x2 x3 x4 x5 x6 x7 x8 x9 x10 x11 x12 x13 x14 x15 x16 x17 x18 x19 x20 x21 x22 : Int) : (Tree.br (decide (x11 < 0)) (Tree.ret (AV.bool true false, []))
    (Tree.br (decide (x11 > 1125899906842624)) (Tree.ret (AV.bool true false, []))
      (Tree.br (decide (IntKind.wrap IntKind.i64 (x8 - 1) < 0)) (Tree.ret (AV.bool true false, []))
        (Tree.br (decide (IntKind.wrap IntKind.i64 (x8 - 1) > 1125899906842624)) (Tree.ret (AV.bool true false, []))
          (Tree.br (decide (x8 < 0)) (Tree.ret (AV.bool true false, []))
            (Tree.br (decide (x8 > 1125899906842624)) (Tree.ret (AV.bool true false, []))
              (Tree.br (decide (x12 < 0)) (Tree.ret (AV.bool true false, []))
                (Tree.br (decide (x12 > 999)) (Tree.ret (AV.bool true false, []))
                  (Tree.br (decide (x13 < 0)) (Tree.ret (AV.bool true false, []))
                    (Tree.br (decide (x13 > 2147483647)) (Tree.ret (AV.bool true false, []))
                      (Tree.ret (AV.bool false (decide (IntKind.wrap IntKind.i64 (IntKind.wrap IntKind.i64 (x11 * 1000) + x12) ≤ 1125899906842624000)), []))))))))))) : Tree (AV × Mem)).Gives (.bool false (ok4 x11 x12 x13 x8)) ([]) := by
  repeat' first
    | (refine Tree.Gives.br (fun h => ?_) (fun h => ?_) <;> (try simp only [decide_eq_true_eq, decide_eq_false_iff_not, Bool.not_eq_true', Bool.not_eq_false', beq_iff_eq, beq_eq_false_iff_ne, Int.not_lt, Int.not_le, ge_iff_le, gt_iff_lt, ne_eq, Bool.false_eq_true, Bool.true_eq_false] at h))
    | refine Tree.Gives.chk ?_ ?_
    | refine Tree.Gives.ret ?_ (by first | exact Mem.le_refl _ | (simp only [Mem.le, Blk.le, Data.le, AV.le, AV.leL, and_true, true_and]; done))
  all_goals first | (simp only [AV.le, AV.leL, and_true, true_and]; done) | skip
  all_goals (simp only [AV.le, ok4]; first | (symm; rw [decide_eq_false_iff_not]; (try simp only [w64] at *); omega) | (rw [decide_eq_decide]; (try simp only [w64] at *); omega))
theorem sright (x0 x1 x2 x3 x4 x5 x6 x7 x8 x9 x10 x11 x12 x13 x14 x15 x16 x17 x18 x19 x20 x21 x22 : Int) : SoundAt (mkC Try.prog 0 (fun _ => none) []) 43 [.agg [.int .i64 false x0, .int .i64 false x1, .int .i64 false x2, .int .i64 false x3, .int .i64 false x4, .int .i64 false x5, .int .i64 false x6, .int .i64 false x7, .int .i64 false x8, .int .i64 false x9, .int .i64 false x10, .int .i64 false x11, .int .i64 false x12, .int .i64 false x13, .int .i64 false x14, .int .i64 false x15, .int .i64 false x16, .int .i64 false x17, .int .i64 false x18, .int .i64 false x19, .int .i64 false x20, .int .i64 false x21, .int .i64 false x22]] [] (.bool false (ok4 x11 x12 x13 x8), []) := sound_of all1 mix (tright x0 x1 x2 x3 x4 x5 x6 x7 x8 x9 x10 x11 x12 x13 x14 x15 x16 x17 x18 x19 x20 x21 x22) (gright x0 x1 x2 x3 x4 x5 x6 x7 x8 x9 x10 x11 x12 x13 x14 x15 x16 x17 x18 x19 x20 x21 x22)
theorem eright_ok : EntOk Try.prog 0 (fun _ => none) 43 eright := by
  intro args M t h r hr
  unfold eright at h
  split at h
  · cases h
    cases hr
    rename_i _ x0 _ x1 _ x2 _ x3 _ x4 _ x5 _ x6 _ x7 _ x8 _ x9 _ x10 _ x11 _ x12 _ x13 _ x14 _ x15 _ x16 _ x17 _ x18 _ x19 _ x20 _ x21 _ x22
    refine SoundAt.flags (sright x0 x1 x2 x3 x4 x5 x6 x7 x8 x9 x10 x11 x12 x13 x14 x15 x16 x17 x18 x19 x20 x21 x22) ?_
    simp [AV.le, AV.leL, Cap.le]
  · cases h
theorem all2 : AllOk Try.prog 0 (fun _ => none) [(43, eright), (29, eworks)] := ⟨eright_ok, all1⟩
end Go.Proofs.Ytonhkbgielilbaa.Rig
