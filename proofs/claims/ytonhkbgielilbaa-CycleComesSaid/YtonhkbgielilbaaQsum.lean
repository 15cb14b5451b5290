/- What function 36 gives. -/
import Derived.Test.YtonhkbgielilbaaQrtotal
namespace Go.Proofs.Ytonhkbgielilbaa.Rig
open Go
set_option linter.unusedVariables false in
noncomputable def esum : Ent := fun args M => match args, M with
  | [.int .i64 _ 1125899906842624000, .sl false ⟨0, 0, 0, 0⟩ true 2 .exact], [some ⟨e, true, false, true, .cells [.int .i64 false x, .int .i64 false y]⟩] => some (.chk (-9223372036854775808 ≤ y ∧ y ≤ 9223372036854775807 ∧ 0 ≤ x ∧ x ≤ 1125899906842624000) (.ret (.tup [.int .i64 false (sumZ x y), .int .i64 false 0], [some ⟨e, true, false, true, .cells [.int .i64 false x, .int .i64 false y]⟩])))
  | _, _ => none
set_option maxRecDepth 100000 in
theorem tsum (e : TypeId) (x y : Int) : evBody (mkC Try.prog 0 (fun _ => none) [(26, ertotal), (25, etotal), (42, ersize), (41, esize), (28, erchk), (27, echk), (43, eright), (29, eworks)]) (evCall (mkC Try.prog 0 (fun _ => none) [(26, ertotal), (25, etotal), (42, ersize), (41, esize), (28, erchk), (27, echk), (43, eright), (29, eworks)]) 50) 36 [.int .i64 false 1125899906842624000, .sl false ⟨0, 0, 0, 0⟩ true 2 .exact] [some ⟨e, true, false, true, .cells [.int .i64 false x, .int .i64 false y]⟩] =
  Tree.br false (Tree.ret (AV.tup [AV.int IntKind.i64 true 0, AV.int IntKind.i64 true 2], [some (Blk.mk e true false true (Data.cells [AV.int IntKind.i64 false x, AV.int IntKind.i64 false y]))]))
    (Tree.br false (Tree.ret (AV.tup [AV.int IntKind.i64 true 0, AV.int IntKind.i64 true 2], [some (Blk.mk e true false true (Data.cells [AV.int IntKind.i64 false x, AV.int IntKind.i64 false y]))]))
      (Tree.br (decide (x < -1125899906842624000))
        (Tree.br (decide (y < 0))
          (Tree.ret (AV.tup [AV.int IntKind.i64 false (-1125899906842624000), AV.int IntKind.i64 true 0], [some (Blk.mk e true false true (Data.cells [AV.int IntKind.i64 false x, AV.int IntKind.i64 false y]))]))
          (Tree.br (decide (y > 2251799813685248000))
            (Tree.ret (AV.tup [AV.int IntKind.i64 false 1125899906842624000, AV.int IntKind.i64 true 0], [some (Blk.mk e true false true (Data.cells [AV.int IntKind.i64 false x, AV.int IntKind.i64 false y]))]))
            (Tree.ret
              (AV.tup [AV.int IntKind.i64 false (IntKind.wrap IntKind.i64 (-1125899906842624000 + y)), AV.int IntKind.i64 true 0],
                [some (Blk.mk e true false true (Data.cells [AV.int IntKind.i64 false x, AV.int IntKind.i64 false y]))]))))
        (Tree.br (decide (x > 1125899906842624000))
          (Tree.br (decide (y < -2251799813685248000))
            (Tree.ret (AV.tup [AV.int IntKind.i64 false (-1125899906842624000), AV.int IntKind.i64 true 0], [some (Blk.mk e true false true (Data.cells [AV.int IntKind.i64 false x, AV.int IntKind.i64 false y]))]))
            (Tree.br (decide (y > 0))
              (Tree.ret (AV.tup [AV.int IntKind.i64 false 1125899906842624000, AV.int IntKind.i64 true 0], [some (Blk.mk e true false true (Data.cells [AV.int IntKind.i64 false x, AV.int IntKind.i64 false y]))]))
              (Tree.ret
                (AV.tup [AV.int IntKind.i64 false (IntKind.wrap IntKind.i64 (1125899906842624000 + y)), AV.int IntKind.i64 true 0],
                  [some (Blk.mk e true false true (Data.cells [AV.int IntKind.i64 false x, AV.int IntKind.i64 false y]))]))))
          (Tree.br (decide (y < IntKind.wrap IntKind.i64 (-1125899906842624000 - IntKind.wrap IntKind.i64 (0 + x))))
            (Tree.ret
              (AV.tup [AV.int IntKind.i64 false (IntKind.wrap IntKind.i64 (IntKind.wrap IntKind.i64 (0 + x) + IntKind.wrap IntKind.i64 (-1125899906842624000 - IntKind.wrap IntKind.i64 (0 + x)))), AV.int IntKind.i64 true 0],
                [some (Blk.mk e true false true (Data.cells [AV.int IntKind.i64 false x, AV.int IntKind.i64 false y]))]))
            (Tree.br (decide (y > IntKind.wrap IntKind.i64 (1125899906842624000 - IntKind.wrap IntKind.i64 (0 + x))))
              (Tree.ret
                (AV.tup [AV.int IntKind.i64 false (IntKind.wrap IntKind.i64 (IntKind.wrap IntKind.i64 (0 + x) + IntKind.wrap IntKind.i64 (1125899906842624000 - IntKind.wrap IntKind.i64 (0 + x)))), AV.int IntKind.i64 true 0],
                  [some (Blk.mk e true false true (Data.cells [AV.int IntKind.i64 false x, AV.int IntKind.i64 false y]))]))
              (Tree.ret
                (AV.tup [AV.int IntKind.i64 false (IntKind.wrap IntKind.i64 (IntKind.wrap IntKind.i64 (0 + x) + y)), AV.int IntKind.i64 true 0],
                  [some (Blk.mk e true false true (Data.cells [AV.int IntKind.i64 false x, AV.int IntKind.i64 false y]))]))))))) := by kernel_rfl
set_option maxRecDepth 100000 in
theorem gsum (e : TypeId) (x y : Int) (hw : -9223372036854775808 ≤ y ∧ y ≤ 9223372036854775807 ∧ 0 ≤ x ∧ x ≤ 1125899906842624000) : (Tree.br false (Tree.ret (AV.tup [AV.int IntKind.i64 true 0, AV.int IntKind.i64 true 2], [some (Blk.mk e true false true (Data.cells [AV.int IntKind.i64 false x, AV.int IntKind.i64 false y]))]))
    (Tree.br false (Tree.ret (AV.tup [AV.int IntKind.i64 true 0, AV.int IntKind.i64 true 2], [some (Blk.mk e true false true (Data.cells [AV.int IntKind.i64 false x, AV.int IntKind.i64 false y]))]))
      (Tree.br (decide (x < -1125899906842624000))
        (Tree.br (decide (y < 0))
          (Tree.ret (AV.tup [AV.int IntKind.i64 false (-1125899906842624000), AV.int IntKind.i64 true 0], [some (Blk.mk e true false true (Data.cells [AV.int IntKind.i64 false x, AV.int IntKind.i64 false y]))]))
          (Tree.br (decide (y > 2251799813685248000))
            (Tree.ret (AV.tup [AV.int IntKind.i64 false 1125899906842624000, AV.int IntKind.i64 true 0], [some (Blk.mk e true false true (Data.cells [AV.int IntKind.i64 false x, AV.int IntKind.i64 false y]))]))
            (Tree.ret
              (AV.tup [AV.int IntKind.i64 false (IntKind.wrap IntKind.i64 (-1125899906842624000 + y)), AV.int IntKind.i64 true 0],
                [some (Blk.mk e true false true (Data.cells [AV.int IntKind.i64 false x, AV.int IntKind.i64 false y]))]))))
        (Tree.br (decide (x > 1125899906842624000))
          (Tree.br (decide (y < -2251799813685248000))
            (Tree.ret (AV.tup [AV.int IntKind.i64 false (-1125899906842624000), AV.int IntKind.i64 true 0], [some (Blk.mk e true false true (Data.cells [AV.int IntKind.i64 false x, AV.int IntKind.i64 false y]))]))
            (Tree.br (decide (y > 0))
              (Tree.ret (AV.tup [AV.int IntKind.i64 false 1125899906842624000, AV.int IntKind.i64 true 0], [some (Blk.mk e true false true (Data.cells [AV.int IntKind.i64 false x, AV.int IntKind.i64 false y]))]))
              (Tree.ret
                (AV.tup [AV.int IntKind.i64 false (IntKind.wrap IntKind.i64 (1125899906842624000 + y)), AV.int IntKind.i64 true 0],
                  [some (Blk.mk e true false true (Data.cells [AV.int IntKind.i64 false x, AV.int IntKind.i64 false y]))]))))
          (Tree.br (decide (y < IntKind.wrap IntKind.i64 (-1125899906842624000 - IntKind.wrap IntKind.i64 (0 + x))))
            (Tree.ret
              (AV.tup [AV.int IntKind.i64 false (IntKind.wrap IntKind.i64 (IntKind.wrap IntKind.i64 (0 + x) + IntKind.wrap IntKind.i64 (-1125899906842624000 - IntKind.wrap IntKind.i64 (0 + x)))), AV.int IntKind.i64 true 0],
                [some (Blk.mk e true false true (Data.cells [AV.int IntKind.i64 false x, AV.int IntKind.i64 false y]))]))
            (Tree.br (decide (y > IntKind.wrap IntKind.i64 (1125899906842624000 - IntKind.wrap IntKind.i64 (0 + x))))
              (Tree.ret
                (AV.tup [AV.int IntKind.i64 false (IntKind.wrap IntKind.i64 (IntKind.wrap IntKind.i64 (0 + x) + IntKind.wrap IntKind.i64 (1125899906842624000 - IntKind.wrap IntKind.i64 (0 + x)))), AV.int IntKind.i64 true 0],
                  [some (Blk.mk e true false true (Data.cells [AV.int IntKind.i64 false x, AV.int IntKind.i64 false y]))]))
              (Tree.ret
                (AV.tup [AV.int IntKind.i64 false (IntKind.wrap IntKind.i64 (IntKind.wrap IntKind.i64 (0 + x) + y)), AV.int IntKind.i64 true 0],
                  [some (Blk.mk e true false true (Data.cells [AV.int IntKind.i64 false x, AV.int IntKind.i64 false y]))]))))))) : Tree (AV × Mem)).Gives (.tup [.int .i64 false (sumZ x y), .int .i64 false 0]) ([some ⟨e, true, false, true, .cells [.int .i64 false x, .int .i64 false y]⟩]) := by
  repeat' first
    | (refine Tree.Gives.br (fun h => ?_) (fun h => ?_) <;> (try simp only [decide_eq_true_eq, decide_eq_false_iff_not, Bool.not_eq_true', Bool.not_eq_false', beq_iff_eq, beq_eq_false_iff_ne, Int.not_lt, Int.not_le, ge_iff_le, gt_iff_lt, ne_eq, Bool.false_eq_true, Bool.true_eq_false, errZ_bne, errZ_beq] at h))
    | refine Tree.Gives.chk ?_ ?_
    | refine Tree.Gives.ret ?_ (by first | exact Mem.le_refl _ | (simp only [Mem.le, Blk.le, Data.le, AV.le, AV.leL, and_true, true_and]; done))
  all_goals first | (simp only [AV.le, AV.leL, and_true, true_and]; done) | skip
  all_goals (try simp only [AV.le, AV.leL, and_true, true_and])
  all_goals (try unfold sumZ; (try simp only [w64] at *); omega)
theorem ssum (e : TypeId) (x y : Int) (hw : -9223372036854775808 ≤ y ∧ y ≤ 9223372036854775807 ∧ 0 ≤ x ∧ x ≤ 1125899906842624000) : SoundAt (mkC Try.prog 0 (fun _ => none) []) 36 [.int .i64 false 1125899906842624000, .sl false ⟨0, 0, 0, 0⟩ true 2 .exact] [some ⟨e, true, false, true, .cells [.int .i64 false x, .int .i64 false y]⟩] (.tup [.int .i64 false (sumZ x y), .int .i64 false 0], [some ⟨e, true, false, true, .cells [.int .i64 false x, .int .i64 false y]⟩]) := sound_of all8 mix (tsum e x y) (gsum e x y hw)
theorem esum_ok : EntOk Try.prog 0 (fun _ => none) 36 esum := by
  intro args M t h r hr
  unfold esum at h
  split at h
  · cases h
    obtain ⟨hw, rfl⟩ := hr
    rename_i _ e x y
    refine SoundAt.flags (ssum e x y hw) ?_
    simp [AV.le, AV.leL, Cap.le]
  · cases h
theorem all9 : AllOk Try.prog 0 (fun _ => none) [(36, esum), (26, ertotal), (25, etotal), (42, ersize), (41, esize), (28, erchk), (27, echk), (43, eright), (29, eworks)] := ⟨esum_ok, all8⟩
end Go.Proofs.Ytonhkbgielilbaa.Rig
