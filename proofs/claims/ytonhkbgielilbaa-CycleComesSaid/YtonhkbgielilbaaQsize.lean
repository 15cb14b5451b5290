/- What function 41 gives. -/
import Derived.Test.YtonhkbgielilbaaQrchk
namespace Go.Proofs.Ytonhkbgielilbaa.Rig
open Go
set_option linter.unusedVariables false in
noncomputable def esize : Ent := fun args M => match args, M with
  | [.int .i64 _ n], [] => some (.chk (-9223372036854775808 ≤ n ∧ n ≤ 9223372036854775807) (.ret (.int .i64 false (sizeZ n), [])))
  | _, _ => none
set_option maxRecDepth 100000 in
theorem tsize (n : Int) : evBody (mkC Try.prog 0 (fun _ => none) [(28, erchk), (27, echk), (43, eright), (29, eworks)]) (evCall (mkC Try.prog 0 (fun _ => none) [(28, erchk), (27, echk), (43, eright), (29, eworks)]) 50) 41 [.int .i64 false n] [] =
  Tree.br (decide (n < 0))
    (Tree.br (decide (IntKind.wrap IntKind.i64 (0 - n) < 0)) (Tree.ret (AV.int IntKind.i64 false (IntKind.wrap IntKind.i64 (IntKind.wrap IntKind.i64 (0 - n) - 1)), []))
      (Tree.ret (AV.int IntKind.i64 false (IntKind.wrap IntKind.i64 (0 - n)), [])))
    (Tree.ret (AV.int IntKind.i64 false n, [])) := by kernel_rfl
set_option maxRecDepth 100000 in
theorem gsize (n : Int) (hw : -9223372036854775808 ≤ n ∧ n ≤ 9223372036854775807) : (Tree.br (decide (n < 0))
    (Tree.br (decide (IntKind.wrap IntKind.i64 (0 - n) < 0)) (Tree.ret (AV.int IntKind.i64 false (IntKind.wrap IntKind.i64 (IntKind.wrap IntKind.i64 (0 - n) - 1)), []))
      (Tree.ret (AV.int IntKind.i64 false (IntKind.wrap IntKind.i64 (0 - n)), [])))
    (Tree.ret (AV.int IntKind.i64 false n, [])) : Tree (AV × Mem)).Gives (.int .i64 false (sizeZ n)) ([]) := by
  repeat' first
    | (refine Tree.Gives.br (fun h => ?_) (fun h => ?_) <;> (try simp only [decide_eq_true_eq, decide_eq_false_iff_not, Bool.not_eq_true', Bool.not_eq_false', beq_iff_eq, beq_eq_false_iff_ne, Int.not_lt, Int.not_le, ge_iff_le, gt_iff_lt, ne_eq, Bool.false_eq_true, Bool.true_eq_false] at h))
    | refine Tree.Gives.chk ?_ ?_
    | refine Tree.Gives.ret ?_ (by first | exact Mem.le_refl _ | (simp only [Mem.le, Blk.le, Data.le, AV.le, AV.leL, and_true, true_and]; done))
  all_goals first | (simp only [AV.le, AV.leL, and_true, true_and]; done) | skip
  all_goals ((try simp only [AV.le, true_and]); (try simp only [w64] at *); unfold sizeZ; split <;> (try split) <;> omega)
theorem ssize (n : Int) (hw : -9223372036854775808 ≤ n ∧ n ≤ 9223372036854775807) : SoundAt (mkC Try.prog 0 (fun _ => none) []) 41 [.int .i64 false n] [] (.int .i64 false (sizeZ n), []) := sound_of all4 mix (tsize n) (gsize n hw)
theorem esize_ok : EntOk Try.prog 0 (fun _ => none) 41 esize := by
  intro args M t h r hr
  unfold esize at h
  split at h
  · cases h
    obtain ⟨hw, rfl⟩ := hr
    rename_i _ n
    refine SoundAt.flags (ssize n hw) ?_
    simp [AV.le, AV.leL, Cap.le]
  · cases h
theorem all5 : AllOk Try.prog 0 (fun _ => none) [(41, esize), (28, erchk), (27, echk), (43, eright), (29, eworks)] := ⟨esize_ok, all4⟩
end Go.Proofs.Ytonhkbgielilbaa.Rig
