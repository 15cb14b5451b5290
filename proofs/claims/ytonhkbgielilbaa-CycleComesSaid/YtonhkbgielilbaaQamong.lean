/- What function 22 gives. -/
import Derived.Test.YtonhkbgielilbaaQsteps
namespace Go.Proofs.Ytonhkbgielilbaa.Rig
open Go
def amongZ (a b : Int) : Int := (a % 18446744073709551616) % b
theorem amongZ_in {a b : Int} (h : 1 ≤ b) : 0 ≤ amongZ a b ∧ amongZ a b < b := ⟨Int.emod_nonneg _ (by omega), Int.emod_lt_of_pos _ (by omega)⟩
theorem among_eq {a b : Int} (h : 1 ≤ b ∧ b ≤ 9223372036854775807) : IntKind.i64.wrap (Int.tmod (IntKind.u64.wrap a) (IntKind.u64.wrap b)) = amongZ a b := by
  have h1 := amongZ_in (a := a) h.1
  have e : IntKind.u64.wrap b = b := by rw [wu64]; omega
  rw [e, wu64, Int.tmod_eq_emod_of_nonneg (by omega)]
  show IntKind.i64.wrap (amongZ a b) = _
  rw [w64]
  omega
set_option linter.unusedVariables false in
noncomputable def eamong : Ent := fun args M => match args, M with
  | [.int .i64 _ a, .int .i64 _ b], [] => some (.chk (1 ≤ b ∧ b ≤ 9223372036854775807) (.ret (.int .i64 false (amongZ a b), [])))
  | _, _ => none
set_option maxRecDepth 100000 in
theorem tamong (a b : Int) : evBody (mkC Try.prog 0 (fun _ => none) [(32, esteps), (31, ernext), (30, enext), (24, erstep), (23, estep), (36, esum), (26, ertotal), (25, etotal), (42, ersize), (41, esize), (28, erchk), (27, echk), (43, eright), (29, eworks)]) (evCall (mkC Try.prog 0 (fun _ => none) [(32, esteps), (31, ernext), (30, enext), (24, erstep), (23, estep), (36, esum), (26, ertotal), (25, etotal), (42, ersize), (41, esize), (28, erchk), (27, echk), (43, eright), (29, eworks)]) 50) 22 [.int .i64 false a, .int .i64 false b] [] =
  Tree.br (decide (b < 1)) (Tree.ret (AV.int IntKind.i64 true 0, []))
    (Tree.br (!decide (IntKind.wrap IntKind.u64 b = 0)) (Tree.ret (AV.int IntKind.i64 false (IntKind.wrap IntKind.i64 (Int.tmod (IntKind.wrap IntKind.u64 a) (IntKind.wrap IntKind.u64 b))), [])) Tree.fail) := by kernel_rfl
set_option maxRecDepth 100000 in
theorem gamong (a b : Int) (hw : 1 ≤ b ∧ b ≤ 9223372036854775807) : (Tree.br (decide (b < 1)) (Tree.ret (AV.int IntKind.i64 true 0, []))
    (Tree.br (!decide (IntKind.wrap IntKind.u64 b = 0)) (Tree.ret (AV.int IntKind.i64 false (IntKind.wrap IntKind.i64 (Int.tmod (IntKind.wrap IntKind.u64 a) (IntKind.wrap IntKind.u64 b))), [])) Tree.fail) : Tree (AV × Mem)).Gives (.int .i64 false (amongZ a b)) ([]) := by
  repeat' first
    | (refine Tree.Gives.br (fun h => ?_) (fun h => ?_) <;> (try simp only [decide_eq_true_eq, decide_eq_false_iff_not, Bool.not_eq_true', Bool.not_eq_false', beq_iff_eq, beq_eq_false_iff_ne, Int.not_lt, Int.not_le, ge_iff_le, gt_iff_lt, ne_eq, Bool.false_eq_true, Bool.true_eq_false, not_true_eq_false, not_false_eq_true, errZ_bne, errZ_beq, beq_self_eq_true, Bool.and_self, Bool.true_and, Bool.and_true, Bool.not_true] at h))
    | refine Tree.Gives.chk ?_ ?_
    | refine Tree.Gives.ret ?_ (by first | exact Mem.le_refl _ | (simp only [Mem.le, Blk.le, Data.le, AV.le, AV.leL, and_true, true_and]; done))
  all_goals first | (simp only [AV.le, AV.leL, and_true, true_and]; done) | skip
  all_goals first
    | (exfalso; omega)
    | (exfalso; simp only [wu64] at *; omega)
    | (simp only [AV.le, true_and]; exact among_eq hw)
theorem samong (a b : Int) (hw : 1 ≤ b ∧ b ≤ 9223372036854775807) : SoundAt (mkC Try.prog 0 (fun _ => none) []) 22 [.int .i64 false a, .int .i64 false b] [] (.int .i64 false (amongZ a b), []) := sound_of all14 mix (tamong a b) (gamong a b hw)
theorem eamong_ok : EntOk Try.prog 0 (fun _ => none) 22 eamong := by
  intro args M t h r hr
  unfold eamong at h
  split at h
  · cases h
    obtain ⟨hw, rfl⟩ := hr
    rename_i _ a _ b
    refine SoundAt.flags (samong a b hw) ?_
    simp [AV.le, AV.leL, Cap.le]
  · cases h
theorem all15 : AllOk Try.prog 0 (fun _ => none) [(22, eamong), (32, esteps), (31, ernext), (30, enext), (24, erstep), (23, estep), (36, esum), (26, ertotal), (25, etotal), (42, ersize), (41, esize), (28, erchk), (27, echk), (43, eright), (29, eworks)] := ⟨eamong_ok, all14⟩
end Go.Proofs.Ytonhkbgielilbaa.Rig
