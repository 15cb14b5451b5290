/- What function 29 gives. -/
import Derived.Test.YtonhkbgielilbaaQ0
namespace Go.Proofs.Ytonhkbgielilbaa.Rig
open Go
set_option linter.unusedVariables false in
noncomputable def eworks : Ent := fun args M => match args, M with
  | [], [] => some (.ret (.bool true true, []))
  | _, _ => none
set_option maxRecDepth 100000 in
theorem tworks  : evBody (mkC Try.prog 0 (fun _ => none) []) (evCall (mkC Try.prog 0 (fun _ => none) []) 50) 29 [] [] =
  Tree.ret (AV.bool true true, []) := by kernel_rfl
set_option maxRecDepth 100000 in
theorem gworks  : (Tree.ret (AV.bool true true, []) : Tree (AV × Mem)).Gives (.bool true true) ([]) := by
  repeat' first
    | (refine Tree.Gives.br (fun h => ?_) (fun h => ?_) <;> (try simp only [decide_eq_true_eq, decide_eq_false_iff_not, Bool.not_eq_true', Bool.not_eq_false', beq_iff_eq, beq_eq_false_iff_ne, Int.not_lt, Int.not_le, ge_iff_le, gt_iff_lt, ne_eq, Bool.false_eq_true, Bool.true_eq_false] at h))
    | refine Tree.Gives.chk ?_ ?_
    | refine Tree.Gives.ret ?_ (by first | exact Mem.le_refl _ | (simp only [Mem.le, Blk.le, Data.le, AV.le, AV.leL, and_true, true_and]; done))
  all_goals first | (simp only [AV.le, AV.leL, and_true, true_and]; done) | skip
  skip
theorem sworks  : SoundAt (mkC Try.prog 0 (fun _ => none) []) 29 [] [] (.bool true true, []) := sound_of all0 mix (tworks ) (gworks )
theorem eworks_ok : EntOk Try.prog 0 (fun _ => none) 29 eworks := by
  intro args M t h r hr
  unfold eworks at h
  split at h
  · cases h
    cases hr
    refine SoundAt.flags (sworks ) ?_
    simp [AV.le, AV.leL, Cap.le]
  · cases h
theorem all1 : AllOk Try.prog 0 (fun _ => none) [(29, eworks)] := ⟨eworks_ok, all0⟩
end Go.Proofs.Ytonhkbgielilbaa.Rig
