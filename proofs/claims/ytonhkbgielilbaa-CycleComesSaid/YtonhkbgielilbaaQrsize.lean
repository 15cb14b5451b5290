/- What function 42 gives. -/
import Derived.Test.YtonhkbgielilbaaQsize
namespace Go.Proofs.Ytonhkbgielilbaa.Rig
open Go
set_option linter.unusedVariables false in
noncomputable def ersize : Ent := fun args M => match args, M with
  | [.int .i64 _ n], [] => some (.chk (-9223372036854775808 ≤ n ∧ n ≤ 9223372036854775807) (.ret (.int .i64 false (sizeZ n), [])))
  | _, _ => none
set_option maxRecDepth 100000 in
theorem trsize (n : Int) : evBody (mkC Try.prog 0 (fun _ => none) [(41, esize), (28, erchk), (27, echk), (43, eright), (29, eworks)]) (evCall (mkC Try.prog 0 (fun _ => none) [(41, esize), (28, erchk), (27, echk), (43, eright), (29, eworks)]) 50) 42 [.int .i64 false n] [] =
  Tree.br (n == -9223372036854775808) (Tree.ret (AV.int IntKind.i64 true 9223372036854775807, []))
    (Tree.br (decide (n < 0)) (Tree.ret (AV.int IntKind.i64 false (IntKind.wrap IntKind.i64 (0 - n)), [])) (Tree.ret (AV.int IntKind.i64 false n, []))) := by kernel_rfl
set_option maxRecDepth 100000 in
theorem grsize (n : Int) (hw : -9223372036854775808 ≤ n ∧ n ≤ 9223372036854775807) : (Tree.br (n == -9223372036854775808) (Tree.ret (AV.int IntKind.i64 true 9223372036854775807, []))
    (Tree.br (decide (n < 0)) (Tree.ret (AV.int IntKind.i64 false (IntKind.wrap IntKind.i64 (0 - n)), [])) (Tree.ret (AV.int IntKind.i64 false n, []))) : Tree (AV × Mem)).Gives (.int .i64 false (sizeZ n)) ([]) := by
  repeat' first
    | (refine Tree.Gives.br (fun h => ?_) (fun h => ?_) <;> (try simp only [decide_eq_true_eq, decide_eq_false_iff_not, Bool.not_eq_true', Bool.not_eq_false', beq_iff_eq, beq_eq_false_iff_ne, Int.not_lt, Int.not_le, ge_iff_le, gt_iff_lt, ne_eq, Bool.false_eq_true, Bool.true_eq_false] at h))
    | refine Tree.Gives.chk ?_ ?_
    | refine Tree.Gives.ret ?_ (by first | exact Mem.le_refl _ | (simp only [Mem.le, Blk.le, Data.le, AV.le, AV.leL, and_true, true_and]; done))
  all_goals first | (simp only [AV.le, AV.leL, and_true, true_and]; done) | skip
  all_goals ((try simp only [AV.le, true_and]); (try simp only [w64] at *); unfold sizeZ; split <;> (try split) <;> omega)
theorem srsize (n : Int) (hw : -9223372036854775808 ≤ n ∧ n ≤ 9223372036854775807) : SoundAt (mkC Try.prog 0 (fun _ => none) []) 42 [.int .i64 false n] [] (.int .i64 false (sizeZ n), []) := sound_of all5 mix (trsize n) (grsize n hw)
theorem ersize_ok : EntOk Try.prog 0 (fun _ => none) 42 ersize := by
  intro args M t h r hr
  unfold ersize at h
  split at h
  · cases h
    obtain ⟨hw, rfl⟩ := hr
    rename_i _ n
    refine SoundAt.flags (srsize n hw) ?_
    simp [AV.le, AV.leL, Cap.le]
  · cases h
theorem all6 : AllOk Try.prog 0 (fun _ => none) [(42, ersize), (41, esize), (28, erchk), (27, echk), (43, eright), (29, eworks)] := ⟨ersize_ok, all5⟩
end Go.Proofs.Ytonhkbgielilbaa.Rig
