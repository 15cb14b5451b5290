/- What function 32 gives. -/
import Derived.Test.YtonhkbgielilbaaQL32
namespace Go.Proofs.Ytonhkbgielilbaa.Rig
open Go
set_option linter.unusedVariables false in
noncomputable def esteps : Ent := fun args M => match args, M with
  | [.agg [.int .i64 _ x0, .int .i64 _ x1, .int .i64 _ x2, .int .i64 _ x3, .int .i64 _ x4, .int .i64 _ x5, .int .i64 _ x6, .int .i64 _ x7, .int .i64 _ x8, .int .i64 _ x9, .int .i64 _ x10, .int .i64 _ x11, .int .i64 _ x12, .int .i64 _ x13, .int .i64 _ x14, .int .i64 _ x15, .int .i64 _ x16, .int .i64 _ x17, .int .i64 _ x18, .int .i64 _ x19, .int .i64 _ x20, .int .i64 _ x21, .int .i64 _ x22], .int .i64 _ n], [] => some (.chk (ok32 ⟨x0, x1, x2, x3, x4, x5, x6, x7, x8, x9, x10, x11, x12, x13, x14, x15, x16, x17, x18, x19, x20, x21, x22, n⟩) (.ret (.agg [.int .i64 false (x0), .int .i64 false (x1), .int .i64 false (x2), .int .i64 false (x3), .int .i64 false (x4), .int .i64 false (x5), .int .i64 false (x6), .int .i64 false (x7), .int .i64 false (x8), .int .i64 false (x9), .int .i64 false (x10), .int .i64 false (x11 + n), .int .i64 false (x12), .int .i64 false (stepsC x8 x11 x13 n), .int .i64 false (x14), .int .i64 false (x15), .int .i64 false (x16), .int .i64 false (x17), .int .i64 false (x18), .int .i64 false (x19), .int .i64 false (x20), .int .i64 false (x21), .int .i64 false (x22)], [])))
  | _, _ => none
set_option maxRecDepth 100000 in
theorem tsteps (x0 x1 x2 x3 x4 x5 x6 x7 x8 x9 x10 x11 x12 x13 x14 x15 x16 x17 x18 x19 x20 x21 x22 : Int) (n : Int) : evBody (mkL Try.prog 0 (fun _ => none) [(31, ernext), (30, enext), (24, erstep), (23, estep), (36, esum), (26, ertotal), (25, etotal), (42, ersize), (41, esize), (28, erchk), (27, echk), (43, eright), (29, eworks)] [⟨32, 1, ⟨[], [1, 2, 4]⟩, ans32⟩]) (evCall (mkC Try.prog 0 (fun _ => none) [(31, ernext), (30, enext), (24, erstep), (23, estep), (36, esum), (26, ertotal), (25, etotal), (42, ersize), (41, esize), (28, erchk), (27, echk), (43, eright), (29, eworks)]) 50) 32 [.agg [.int .i64 false x0, .int .i64 false x1, .int .i64 false x2, .int .i64 false x3, .int .i64 false x4, .int .i64 false x5, .int .i64 false x6, .int .i64 false x7, .int .i64 false x8, .int .i64 false x9, .int .i64 false x10, .int .i64 false x11, .int .i64 false x12, .int .i64 false x13, .int .i64 false x14, .int .i64 false x15, .int .i64 false x16, .int .i64 false x17, .int .i64 false x18, .int .i64 false x19, .int .i64 false x20, .int .i64 false x21, .int .i64 false x22], .int .i64 false n] [] =
  Tree.chk
    (St.le
      (St.mk
        [AV.junk, AV.int IntKind.i64 false n, AV.ptr (Ref.mk 0 0 0 0), AV.junk, AV.ptr (Ref.mk 1 0 0 0), AV.junk, AV.junk, AV.junk, AV.junk, AV.junk, AV.junk, AV.junk, AV.junk, AV.junk, AV.junk, AV.junk, AV.junk, AV.junk, AV.junk, AV.junk,
          AV.junk, AV.junk, AV.junk, AV.junk, AV.junk, AV.junk]
        [some
            (Blk.mk 40 true false false
              (Data.cells
                [AV.int IntKind.i64 false x0, AV.int IntKind.i64 false x1, AV.int IntKind.i64 false x2, AV.int IntKind.i64 false x3, AV.int IntKind.i64 false x4, AV.int IntKind.i64 false x5, AV.int IntKind.i64 false x6,
                  AV.int IntKind.i64 false x7, AV.int IntKind.i64 false x8, AV.int IntKind.i64 false x9, AV.int IntKind.i64 false x10, AV.int IntKind.i64 false x11, AV.int IntKind.i64 false x12,
                  AV.int IntKind.i64 false x13, AV.int IntKind.i64 false x14, AV.int IntKind.i64 false x15, AV.int IntKind.i64 false x16, AV.int IntKind.i64 false x17, AV.int IntKind.i64 false x18,
                  AV.int IntKind.i64 false x19, AV.int IntKind.i64 false x20, AV.int IntKind.i64 false x21, AV.int IntKind.i64 false x22])),
          some
            (Blk.mk 40 true false false
              (Data.cells
                [AV.int IntKind.i64 true 0, AV.int IntKind.i64 true 0, AV.int IntKind.i64 true 0, AV.int IntKind.i64 true 0, AV.int IntKind.i64 true 0, AV.int IntKind.i64 true 0, AV.int IntKind.i64 true 0, AV.int IntKind.i64 true 0,
                  AV.int IntKind.i64 true 0, AV.int IntKind.i64 true 0, AV.int IntKind.i64 true 0, AV.int IntKind.i64 true 0, AV.int IntKind.i64 true 0, AV.int IntKind.i64 true 0, AV.int IntKind.i64 true 0, AV.int IntKind.i64 true 0,
                  AV.int IntKind.i64 true 0, AV.int IntKind.i64 true 0, AV.int IntKind.i64 true 0, AV.int IntKind.i64 true 0, AV.int IntKind.i64 true 0, AV.int IntKind.i64 true 0, AV.int IntKind.i64 true 0]))])
      (St.mk
        [AV.junk, AV.int IntKind.i64 false n, AV.ptr (Ref.mk 0 0 0 0), AV.junk, AV.ptr (Ref.mk 1 0 0 0), AV.junk, AV.junk, AV.junk, AV.junk, AV.junk, AV.junk, AV.junk, AV.junk, AV.junk, AV.junk, AV.junk, AV.junk, AV.junk, AV.junk, AV.junk,
          AV.junk, AV.junk, AV.junk, AV.junk, AV.junk, AV.junk]
        [some
            (Blk.mk 40 true false false
              (Data.cells
                [AV.int IntKind.i64 false x0, AV.int IntKind.i64 false x1, AV.int IntKind.i64 false x2, AV.int IntKind.i64 false x3, AV.int IntKind.i64 false x4, AV.int IntKind.i64 false x5, AV.int IntKind.i64 false x6,
                  AV.int IntKind.i64 false x7, AV.int IntKind.i64 false x8, AV.int IntKind.i64 false x9, AV.int IntKind.i64 false x10, AV.int IntKind.i64 false x11, AV.int IntKind.i64 false x12,
                  AV.int IntKind.i64 false x13, AV.int IntKind.i64 false x14, AV.int IntKind.i64 false x15, AV.int IntKind.i64 false x16, AV.int IntKind.i64 false x17, AV.int IntKind.i64 false x18,
                  AV.int IntKind.i64 false x19, AV.int IntKind.i64 false x20, AV.int IntKind.i64 false x21, AV.int IntKind.i64 false x22])),
          some
            (Blk.mk 40 true false false
              (Data.cells [AV.junk, AV.junk, AV.junk, AV.junk, AV.junk, AV.junk, AV.junk, AV.junk, AV.junk, AV.junk, AV.junk, AV.junk, AV.junk, AV.junk, AV.junk, AV.junk, AV.junk, AV.junk, AV.junk, AV.junk, AV.junk, AV.junk, AV.junk]))]))
    (Tree.chk (ok32 (X32.mk x0 x1 x2 x3 x4 x5 x6 x7 x8 x9 x10 x11 x12 x13 x14 x15 x16 x17 x18 x19 x20 x21 x22 n))
      (Tree.ret
        (AV.agg
            [AV.int IntKind.i64 false x0, AV.int IntKind.i64 false x1, AV.int IntKind.i64 false x2, AV.int IntKind.i64 false x3, AV.int IntKind.i64 false x4, AV.int IntKind.i64 false x5, AV.int IntKind.i64 false x6,
              AV.int IntKind.i64 false x7, AV.int IntKind.i64 false x8, AV.int IntKind.i64 false x9, AV.int IntKind.i64 false x10, AV.int IntKind.i64 false (x11 + n), AV.int IntKind.i64 false x12,
              AV.int IntKind.i64 false (stepsC x8 x11 x13 n), AV.int IntKind.i64 false x14, AV.int IntKind.i64 false x15, AV.int IntKind.i64 false x16, AV.int IntKind.i64 false x17, AV.int IntKind.i64 false x18,
              AV.int IntKind.i64 false x19, AV.int IntKind.i64 false x20, AV.int IntKind.i64 false x21, AV.int IntKind.i64 false x22],
          []))) := by kernel_rfl
set_option maxRecDepth 100000 in
theorem gsteps (x0 x1 x2 x3 x4 x5 x6 x7 x8 x9 x10 x11 x12 x13 x14 x15 x16 x17 x18 x19 x20 x21 x22 : Int) (n : Int) (hw : ok32 ⟨x0, x1, x2, x3, x4, x5, x6, x7, x8, x9, x10, x11, x12, x13, x14, x15, x16, x17, x18, x19, x20, x21, x22, n⟩) : (Tree.chk
    (St.le
      (St.mk
        [AV.junk, AV.int IntKind.i64 false n, AV.ptr (Ref.mk 0 0 0 0), AV.junk, AV.ptr (Ref.mk 1 0 0 0), AV.junk, AV.junk, AV.junk, AV.junk, AV.junk, AV.junk, AV.junk, AV.junk, AV.junk, AV.junk, AV.junk, AV.junk, AV.junk, AV.junk, AV.junk,
          AV.junk, AV.junk, AV.junk, AV.junk, AV.junk, AV.junk]
        [some
            (Blk.mk 40 true false false
              (Data.cells
                [AV.int IntKind.i64 false x0, AV.int IntKind.i64 false x1, AV.int IntKind.i64 false x2, AV.int IntKind.i64 false x3, AV.int IntKind.i64 false x4, AV.int IntKind.i64 false x5, AV.int IntKind.i64 false x6,
                  AV.int IntKind.i64 false x7, AV.int IntKind.i64 false x8, AV.int IntKind.i64 false x9, AV.int IntKind.i64 false x10, AV.int IntKind.i64 false x11, AV.int IntKind.i64 false x12,
                  AV.int IntKind.i64 false x13, AV.int IntKind.i64 false x14, AV.int IntKind.i64 false x15, AV.int IntKind.i64 false x16, AV.int IntKind.i64 false x17, AV.int IntKind.i64 false x18,
                  AV.int IntKind.i64 false x19, AV.int IntKind.i64 false x20, AV.int IntKind.i64 false x21, AV.int IntKind.i64 false x22])),
          some
            (Blk.mk 40 true false false
              (Data.cells
                [AV.int IntKind.i64 true 0, AV.int IntKind.i64 true 0, AV.int IntKind.i64 true 0, AV.int IntKind.i64 true 0, AV.int IntKind.i64 true 0, AV.int IntKind.i64 true 0, AV.int IntKind.i64 true 0, AV.int IntKind.i64 true 0,
                  AV.int IntKind.i64 true 0, AV.int IntKind.i64 true 0, AV.int IntKind.i64 true 0, AV.int IntKind.i64 true 0, AV.int IntKind.i64 true 0, AV.int IntKind.i64 true 0, AV.int IntKind.i64 true 0, AV.int IntKind.i64 true 0,
                  AV.int IntKind.i64 true 0, AV.int IntKind.i64 true 0, AV.int IntKind.i64 true 0, AV.int IntKind.i64 true 0, AV.int IntKind.i64 true 0, AV.int IntKind.i64 true 0, AV.int IntKind.i64 true 0]))])
      (St.mk
        [AV.junk, AV.int IntKind.i64 false n, AV.ptr (Ref.mk 0 0 0 0), AV.junk, AV.ptr (Ref.mk 1 0 0 0), AV.junk, AV.junk, AV.junk, AV.junk, AV.junk, AV.junk, AV.junk, AV.junk, AV.junk, AV.junk, AV.junk, AV.junk, AV.junk, AV.junk, AV.junk,
          AV.junk, AV.junk, AV.junk, AV.junk, AV.junk, AV.junk]
        [some
            (Blk.mk 40 true false false
              (Data.cells
                [AV.int IntKind.i64 false x0, AV.int IntKind.i64 false x1, AV.int IntKind.i64 false x2, AV.int IntKind.i64 false x3, AV.int IntKind.i64 false x4, AV.int IntKind.i64 false x5, AV.int IntKind.i64 false x6,
                  AV.int IntKind.i64 false x7, AV.int IntKind.i64 false x8, AV.int IntKind.i64 false x9, AV.int IntKind.i64 false x10, AV.int IntKind.i64 false x11, AV.int IntKind.i64 false x12,
                  AV.int IntKind.i64 false x13, AV.int IntKind.i64 false x14, AV.int IntKind.i64 false x15, AV.int IntKind.i64 false x16, AV.int IntKind.i64 false x17, AV.int IntKind.i64 false x18,
                  AV.int IntKind.i64 false x19, AV.int IntKind.i64 false x20, AV.int IntKind.i64 false x21, AV.int IntKind.i64 false x22])),
          some
            (Blk.mk 40 true false false
              (Data.cells [AV.junk, AV.junk, AV.junk, AV.junk, AV.junk, AV.junk, AV.junk, AV.junk, AV.junk, AV.junk, AV.junk, AV.junk, AV.junk, AV.junk, AV.junk, AV.junk, AV.junk, AV.junk, AV.junk, AV.junk, AV.junk, AV.junk, AV.junk]))]))
    (Tree.chk (ok32 (X32.mk x0 x1 x2 x3 x4 x5 x6 x7 x8 x9 x10 x11 x12 x13 x14 x15 x16 x17 x18 x19 x20 x21 x22 n))
      (Tree.ret
        (AV.agg
            [AV.int IntKind.i64 false x0, AV.int IntKind.i64 false x1, AV.int IntKind.i64 false x2, AV.int IntKind.i64 false x3, AV.int IntKind.i64 false x4, AV.int IntKind.i64 false x5, AV.int IntKind.i64 false x6,
              AV.int IntKind.i64 false x7, AV.int IntKind.i64 false x8, AV.int IntKind.i64 false x9, AV.int IntKind.i64 false x10, AV.int IntKind.i64 false (x11 + n), AV.int IntKind.i64 false x12,
              AV.int IntKind.i64 false (stepsC x8 x11 x13 n), AV.int IntKind.i64 false x14, AV.int IntKind.i64 false x15, AV.int IntKind.i64 false x16, AV.int IntKind.i64 false x17, AV.int IntKind.i64 false x18,
              AV.int IntKind.i64 false x19, AV.int IntKind.i64 false x20, AV.int IntKind.i64 false x21, AV.int IntKind.i64 false x22],
          []))) : Tree (AV × Mem)).Gives (.agg [.int .i64 false (x0), .int .i64 false (x1), .int .i64 false (x2), .int .i64 false (x3), .int .i64 false (x4), .int .i64 false (x5), .int .i64 false (x6), .int .i64 false (x7), .int .i64 false (x8), .int .i64 false (x9), .int .i64 false (x10), .int .i64 false (x11 + n), .int .i64 false (x12), .int .i64 false (stepsC x8 x11 x13 n), .int .i64 false (x14), .int .i64 false (x15), .int .i64 false (x16), .int .i64 false (x17), .int .i64 false (x18), .int .i64 false (x19), .int .i64 false (x20), .int .i64 false (x21), .int .i64 false (x22)]) ([]) := by
  repeat' first
    | (refine Tree.Gives.br (fun h => ?_) (fun h => ?_) <;> (try simp only [decide_eq_true_eq, decide_eq_false_iff_not, Bool.not_eq_true', Bool.not_eq_false', beq_iff_eq, beq_eq_false_iff_ne, Int.not_lt, Int.not_le, ge_iff_le, gt_iff_lt, ne_eq, Bool.false_eq_true, Bool.true_eq_false, not_true_eq_false, not_false_eq_true, errZ_bne, errZ_beq, beq_self_eq_true, Bool.and_self, Bool.true_and, Bool.and_true, Bool.not_true] at h))
    | refine Tree.Gives.chk ?_ ?_
    | refine Tree.Gives.ret ?_ (by first | exact Mem.le_refl _ | (simp only [Mem.le, Blk.le, Data.le, AV.le, AV.leL, and_true, true_and]; done))
  all_goals first | (simp only [AV.le, AV.leL, and_true, true_and]; done) | skip
  all_goals first
    | exact hw
    | exact ⟨by simp only [hd32, AV.leL, AV.le, and_self], by simp only [hd32, Mem.le, Blk.le, Data.le, AV.leL, AV.le, and_self, and_true, true_and, imp_self, implies_true]⟩
    | (simp only [AV.le, AV.leL, and_true, true_and, and_self]; done)
theorem ssteps (x0 x1 x2 x3 x4 x5 x6 x7 x8 x9 x10 x11 x12 x13 x14 x15 x16 x17 x18 x19 x20 x21 x22 : Int) (n : Int) (hw : ok32 ⟨x0, x1, x2, x3, x4, x5, x6, x7, x8, x9, x10, x11, x12, x13, x14, x15, x16, x17, x18, x19, x20, x21, x22, n⟩) : SoundAt (mkC Try.prog 0 (fun _ => none) []) 32 [.agg [.int .i64 false x0, .int .i64 false x1, .int .i64 false x2, .int .i64 false x3, .int .i64 false x4, .int .i64 false x5, .int .i64 false x6, .int .i64 false x7, .int .i64 false x8, .int .i64 false x9, .int .i64 false x10, .int .i64 false x11, .int .i64 false x12, .int .i64 false x13, .int .i64 false x14, .int .i64 false x15, .int .i64 false x16, .int .i64 false x17, .int .i64 false x18, .int .i64 false x19, .int .i64 false x20, .int .i64 false x21, .int .i64 false x22], .int .i64 false n] [] (.agg [.int .i64 false (x0), .int .i64 false (x1), .int .i64 false (x2), .int .i64 false (x3), .int .i64 false (x4), .int .i64 false (x5), .int .i64 false (x6), .int .i64 false (x7), .int .i64 false (x8), .int .i64 false (x9), .int .i64 false (x10), .int .i64 false (x11 + n), .int .i64 false (x12), .int .i64 false (stepsC x8 x11 x13 n), .int .i64 false (x14), .int .i64 false (x15), .int .i64 false (x16), .int .i64 false (x17), .int .i64 false (x18), .int .i64 false (x19), .int .i64 false (x20), .int .i64 false (x21), .int .i64 false (x22)], []) := sound_loops all13 mix loop32 (tsteps x0 x1 x2 x3 x4 x5 x6 x7 x8 x9 x10 x11 x12 x13 x14 x15 x16 x17 x18 x19 x20 x21 x22 n) (gsteps x0 x1 x2 x3 x4 x5 x6 x7 x8 x9 x10 x11 x12 x13 x14 x15 x16 x17 x18 x19 x20 x21 x22 n hw)
theorem esteps_ok : EntOk Try.prog 0 (fun _ => none) 32 esteps := by
  intro args M t h r hr
  unfold esteps at h
  split at h
  · cases h
    obtain ⟨hw, rfl⟩ := hr
    rename_i _ x0 _ x1 _ x2 _ x3 _ x4 _ x5 _ x6 _ x7 _ x8 _ x9 _ x10 _ x11 _ x12 _ x13 _ x14 _ x15 _ x16 _ x17 _ x18 _ x19 _ x20 _ x21 _ x22 _ n
    refine SoundAt.flags (ssteps x0 x1 x2 x3 x4 x5 x6 x7 x8 x9 x10 x11 x12 x13 x14 x15 x16 x17 x18 x19 x20 x21 x22 n hw) ?_
    simp [AV.le, AV.leL, Cap.le]
  · cases h
theorem all14 : AllOk Try.prog 0 (fun _ => none) [(32, esteps), (31, ernext), (30, enext), (24, erstep), (23, estep), (36, esum), (26, ertotal), (25, etotal), (42, ersize), (41, esize), (28, erchk), (27, echk), (43, eright), (29, eworks)] := ⟨esteps_ok, all13⟩
end Go.Proofs.Ytonhkbgielilbaa.Rig
