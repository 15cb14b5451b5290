/- What the law CycleComes gives. -/
import Derived.Test.YtonhkbgielilbaaQamong
namespace Go.Proofs.Ytonhkbgielilbaa.Rig
open Go
theorem comes_facts {th su cy ca n : Int} (hok : ok4 th su cy ca = true) (hn : nextZ ca th cy = n) (h2 : 2 ≤ n) (h3 : n ≤ 1073741824) :
    ok4 th 0 cy ca = true ∧ th + n ≤ 1125899906842624 ∧ 0 ≤ th ∧ 0 ≤ cy ∧ cy + 1 ≤ 2147483647 ∧ stepsC ca th cy n = cy + 1 ∧ ∀ m, 0 ≤ m → m < n → stepsC ca th cy m = cy := by
  simp only [ok4, decide_eq_true_eq] at hok ⊢
  have hD := next_facts (ca := ca) (by omega) (by omega)
  have hcy : cy < min (1125899906842624 / (2 * ca)) 2147483647 := by
    unfold nextZ at hn
    split at hn <;> omega
  have hP : (cy + 1) * (2 * ca) ≤ 1125899906842624 := Int.mul_le_of_le_ediv (by omega) (by omega)
  have hn' : (cy + 1) * (2 * ca) = th + n := by
    unfold nextZ at hn
    split at hn <;> omega
  have e1 : (th + n) / 2 / ca = cy + 1 := by
    rw [Int.ediv_ediv_of_nonneg (by omega), ← hn', Int.mul_ediv_cancel _ (by omega)]
  refine ⟨by omega, by omega, by omega, by omega, by omega, ?_, fun m h0 hm => ?_⟩
  · unfold stepsC
    rw [if_pos (by omega), e1]
    omega
  · have e2 : (th + m) / 2 / ca < cy + 1 := by
      rw [Int.ediv_ediv_of_nonneg (by omega)]
      exact Int.ediv_lt_of_lt_mul (by omega) (by rw [hn']; omega)
    unfold stepsC
    split <;> omega
set_option maxRecDepth 100000 in
theorem tCycleComes (x0 x1 x2 x3 x4 x5 x6 x7 x8 x9 x10 x11 x12 x13 x14 x15 x16 x17 x18 x19 x20 x21 x22 : Int) (less : Int) : evBody (mkC Try.prog 0 (fun _ => none) [(22, eamong), (32, esteps), (31, ernext), (30, enext), (24, erstep), (23, estep), (36, esum), (26, ertotal), (25, etotal), (42, ersize), (41, esize), (28, erchk), (27, echk), (43, eright), (29, eworks)]) (evCall (mkC Try.prog 0 (fun _ => none) [(22, eamong), (32, esteps), (31, ernext), (30, enext), (24, erstep), (23, estep), (36, esum), (26, ertotal), (25, etotal), (42, ersize), (41, esize), (28, erchk), (27, echk), (43, eright), (29, eworks)]) 50) 12 [.agg [.int .i64 false x0, .int .i64 false x1, .int .i64 false x2, .int .i64 false x3, .int .i64 false x4, .int .i64 false x5, .int .i64 false x6, .int .i64 false x7, .int .i64 false x8, .int .i64 false x9, .int .i64 false x10, .int .i64 false x11, .int .i64 false x12, .int .i64 false x13, .int .i64 false x14, .int .i64 false x15, .int .i64 false x16, .int .i64 false x17, .int .i64 false x18, .int .i64 false x19, .int .i64 false x20, .int .i64 false x21, .int .i64 false x22], .int .i64 false less] [] =
  Tree.br (errZ (ok4 x11 x12 x13 x8) != 0)
    (Tree.br (errZ (ok4 x11 x12 x13 x8) == 0) (Tree.ret (AV.bool true true, [])) (Tree.ret (AV.bool false (selZ (ok4 x11 x12 x13 x8) (nextZ x8 x11 x13) == 0), [])))
    (Tree.br (decide (selZ (ok4 x11 x12 x13 x8) (nextZ x8 x11 x13) < 2))
      (Tree.br (errZ (ok4 x11 x12 x13 x8) == 0) (Tree.ret (AV.bool true true, [])) (Tree.ret (AV.bool false (selZ (ok4 x11 x12 x13 x8) (nextZ x8 x11 x13) == 0), [])))
      (Tree.br (decide (selZ (ok4 x11 x12 x13 x8) (nextZ x8 x11 x13) > 1073741824))
        (Tree.br (errZ (ok4 x11 x12 x13 x8) == 0) (Tree.ret (AV.bool true true, [])) (Tree.ret (AV.bool false (selZ (ok4 x11 x12 x13 x8) (nextZ x8 x11 x13) == 0), [])))
        (Tree.chk (1 ≤ IntKind.wrap IntKind.i64 (selZ (ok4 x11 x12 x13 x8) (nextZ x8 x11 x13) - 1) ∧ IntKind.wrap IntKind.i64 (selZ (ok4 x11 x12 x13 x8) (nextZ x8 x11 x13) - 1) ≤ 9223372036854775807)
          (Tree.chk
            (ok32 (X32.mk x0 x1 x2 x3 x4 x5 x6 x7 x8 x9 x10 x11 0 x13 x14 x15 x16 x17 x18 x19 x20 x21 x22 (selZ (ok4 x11 x12 x13 x8) (nextZ x8 x11 x13))))
            (Tree.chk
              (ok32
                (X32.mk x0 x1 x2 x3 x4 x5 x6 x7 x8 x9 x10 x11 0 x13 x14 x15 x16 x17 x18 x19 x20 x21 x22
                  (IntKind.wrap IntKind.i64
                    (selZ (ok4 x11 x12 x13 x8) (nextZ x8 x11 x13) - IntKind.wrap IntKind.i64 (1 + amongZ less (IntKind.wrap IntKind.i64 (selZ (ok4 x11 x12 x13 x8) (nextZ x8 x11 x13) - 1)))))))
              (Tree.br (stepsC x8 x11 x13 (selZ (ok4 x11 x12 x13 x8) (nextZ x8 x11 x13)) == IntKind.wrap IntKind.i64 (x13 + 1))
                (Tree.br
                  (stepsC x8 x11 x13
                      (IntKind.wrap IntKind.i64
                        (selZ (ok4 x11 x12 x13 x8) (nextZ x8 x11 x13) - IntKind.wrap IntKind.i64 (1 + amongZ less (IntKind.wrap IntKind.i64 (selZ (ok4 x11 x12 x13 x8) (nextZ x8 x11 x13) - 1))))) ==
                    x13)
                  (Tree.ret (AV.bool false (x11 + selZ (ok4 x11 x12 x13 x8) (nextZ x8 x11 x13) == IntKind.wrap IntKind.i64 (x11 + selZ (ok4 x11 x12 x13 x8) (nextZ x8 x11 x13))), []))
                  (Tree.ret (AV.bool true false, [])))
                (Tree.ret (AV.bool true false, [])))))))) := by kernel_rfl
set_option maxRecDepth 100000 in
theorem gCycleComes (x0 x1 x2 x3 x4 x5 x6 x7 x8 x9 x10 x11 x12 x13 x14 x15 x16 x17 x18 x19 x20 x21 x22 : Int) (less : Int) : (Tree.br (errZ (ok4 x11 x12 x13 x8) != 0)
    (Tree.br (errZ (ok4 x11 x12 x13 x8) == 0) (Tree.ret (AV.bool true true, [])) (Tree.ret (AV.bool false (selZ (ok4 x11 x12 x13 x8) (nextZ x8 x11 x13) == 0), [])))
    (Tree.br (decide (selZ (ok4 x11 x12 x13 x8) (nextZ x8 x11 x13) < 2))
      (Tree.br (errZ (ok4 x11 x12 x13 x8) == 0) (Tree.ret (AV.bool true true, [])) (Tree.ret (AV.bool false (selZ (ok4 x11 x12 x13 x8) (nextZ x8 x11 x13) == 0), [])))
      (Tree.br (decide (selZ (ok4 x11 x12 x13 x8) (nextZ x8 x11 x13) > 1073741824))
        (Tree.br (errZ (ok4 x11 x12 x13 x8) == 0) (Tree.ret (AV.bool true true, [])) (Tree.ret (AV.bool false (selZ (ok4 x11 x12 x13 x8) (nextZ x8 x11 x13) == 0), [])))
        (Tree.chk (1 ≤ IntKind.wrap IntKind.i64 (selZ (ok4 x11 x12 x13 x8) (nextZ x8 x11 x13) - 1) ∧ IntKind.wrap IntKind.i64 (selZ (ok4 x11 x12 x13 x8) (nextZ x8 x11 x13) - 1) ≤ 9223372036854775807)
          (Tree.chk
            (ok32 (X32.mk x0 x1 x2 x3 x4 x5 x6 x7 x8 x9 x10 x11 0 x13 x14 x15 x16 x17 x18 x19 x20 x21 x22 (selZ (ok4 x11 x12 x13 x8) (nextZ x8 x11 x13))))
            (Tree.chk
              (ok32
                (X32.mk x0 x1 x2 x3 x4 x5 x6 x7 x8 x9 x10 x11 0 x13 x14 x15 x16 x17 x18 x19 x20 x21 x22
                  (IntKind.wrap IntKind.i64
                    (selZ (ok4 x11 x12 x13 x8) (nextZ x8 x11 x13) - IntKind.wrap IntKind.i64 (1 + amongZ less (IntKind.wrap IntKind.i64 (selZ (ok4 x11 x12 x13 x8) (nextZ x8 x11 x13) - 1)))))))
              (Tree.br (stepsC x8 x11 x13 (selZ (ok4 x11 x12 x13 x8) (nextZ x8 x11 x13)) == IntKind.wrap IntKind.i64 (x13 + 1))
                (Tree.br
                  (stepsC x8 x11 x13
                      (IntKind.wrap IntKind.i64
                        (selZ (ok4 x11 x12 x13 x8) (nextZ x8 x11 x13) - IntKind.wrap IntKind.i64 (1 + amongZ less (IntKind.wrap IntKind.i64 (selZ (ok4 x11 x12 x13 x8) (nextZ x8 x11 x13) - 1))))) ==
                    x13)
                  (Tree.ret (AV.bool false (x11 + selZ (ok4 x11 x12 x13 x8) (nextZ x8 x11 x13) == IntKind.wrap IntKind.i64 (x11 + selZ (ok4 x11 x12 x13 x8) (nextZ x8 x11 x13))), []))
                  (Tree.ret (AV.bool true false, [])))
                (Tree.ret (AV.bool true false, [])))))))) : Tree (AV × Mem)).Gives (.bool false true) ([]) := by
  cases hok : ok4 x11 x12 x13 x8
  · simp only [selZ_f, errZ_f, b20, b00]
    repeat' first
        | (refine Tree.Gives.br (fun h => ?_) (fun h => ?_) <;> (try simp only [decide_eq_true_eq, decide_eq_false_iff_not, Bool.not_eq_true', Bool.not_eq_false', beq_iff_eq, beq_eq_false_iff_ne, Int.not_lt, Int.not_le, ge_iff_le, gt_iff_lt, ne_eq, Bool.false_eq_true, Bool.true_eq_false, not_true_eq_false, not_false_eq_true] at h))
        | refine Tree.Gives.chk ?_ ?_
        | refine Tree.Gives.ret ?_ (by first | exact Mem.le_refl _ | (simp only [Mem.le, Blk.le, Data.le, AV.le, AV.leL, and_true, true_and]; done))
    
    all_goals first | (simp only [AV.le, AV.leL, and_true, true_and]; done) | (simp only [AV.le]; decide) | (exfalso; rename_i h; revert h; decide)
  · simp only [selZ_t, errZ_t, b20, b00]
    generalize hn : nextZ x8 x11 x13 = n
    by_cases hr : 2 ≤ n ∧ n ≤ 1073741824
    · obtain ⟨f1, f2, f3, f4, f5, f6, f7⟩ := comes_facts hok hn hr.1 hr.2
      have hw1 : IntKind.i64.wrap (n - 1) = n - 1 := by rw [w64]; omega
      obtain ⟨a1, a2⟩ := amongZ_in (a := less) (b := n - 1) (by omega)
      have hw2 : IntKind.i64.wrap (1 + amongZ less (n - 1)) = 1 + amongZ less (n - 1) := by rw [w64]; omega
      have hw3 : IntKind.i64.wrap (n - (1 + amongZ less (n - 1))) = n - (1 + amongZ less (n - 1)) := by rw [w64]; omega
      have hw4 : IntKind.i64.wrap (x13 + 1) = x13 + 1 := by rw [w64]; omega
      have hw5 : IntKind.i64.wrap (x11 + n) = x11 + n := by rw [w64]; omega
      have hm := f7 (n - (1 + amongZ less (n - 1))) (by omega) (by omega)
      simp only [hw1, hw2, hw3, hw4, hw5, f6, hm, beq_self_eq_true]
      repeat' first
        | (refine Tree.Gives.br (fun h => ?_) (fun h => ?_) <;> (try simp only [decide_eq_true_eq, decide_eq_false_iff_not, Bool.not_eq_true', Bool.not_eq_false', beq_iff_eq, beq_eq_false_iff_ne, Int.not_lt, Int.not_le, ge_iff_le, gt_iff_lt, ne_eq, Bool.false_eq_true, Bool.true_eq_false, not_true_eq_false, not_false_eq_true] at h))
        | refine Tree.Gives.chk ?_ ?_
        | refine Tree.Gives.ret ?_ (by first | exact Mem.le_refl _ | (simp only [Mem.le, Blk.le, Data.le, AV.le, AV.leL, and_true, true_and]; done))
    
      all_goals first
        | omega
        | exact ⟨rfl, f1, by omega, by omega, by omega⟩
        | (simp only [AV.le, AV.leL, and_true, true_and]; done)
        | (exfalso; rename_i h; revert h; decide)
    · repeat' first
        | (refine Tree.Gives.br (fun h => ?_) (fun h => ?_) <;> (try simp only [decide_eq_true_eq, decide_eq_false_iff_not, Bool.not_eq_true', Bool.not_eq_false', beq_iff_eq, beq_eq_false_iff_ne, Int.not_lt, Int.not_le, ge_iff_le, gt_iff_lt, ne_eq, Bool.false_eq_true, Bool.true_eq_false, not_true_eq_false, not_false_eq_true] at h))
        | refine Tree.Gives.chk ?_ ?_
        | refine Tree.Gives.ret ?_ (by first | exact Mem.le_refl _ | (simp only [Mem.le, Blk.le, Data.le, AV.le, AV.leL, and_true, true_and]; done))
    
      all_goals first
        | (exfalso; omega)
        | (exfalso; simp only [decide_eq_true_eq, decide_eq_false_iff_not] at *; omega)
        | (exfalso; have h1 := of_decide_eq_true (by assumption : decide (n < 2) = true); omega)
        | (exfalso; have h1 := of_decide_eq_false (by assumption : decide (n < 2) = false); omega)
        | (simp only [AV.le, AV.leL, and_true, true_and]; done)
        | (exfalso; simp_all; done)
theorem lawCycleComes (x0 x1 x2 x3 x4 x5 x6 x7 x8 x9 x10 x11 x12 x13 x14 x15 x16 x17 x18 x19 x20 x21 x22 : Int) (less : Int) : SoundAt (mkC Try.prog 0 (fun _ => none) []) 12 [.agg [.int .i64 false x0, .int .i64 false x1, .int .i64 false x2, .int .i64 false x3, .int .i64 false x4, .int .i64 false x5, .int .i64 false x6, .int .i64 false x7, .int .i64 false x8, .int .i64 false x9, .int .i64 false x10, .int .i64 false x11, .int .i64 false x12, .int .i64 false x13, .int .i64 false x14, .int .i64 false x15, .int .i64 false x16, .int .i64 false x17, .int .i64 false x18, .int .i64 false x19, .int .i64 false x20, .int .i64 false x21, .int .i64 false x22], .int .i64 false less] [] (.bool false true, []) := sound_of all15 mix (tCycleComes x0 x1 x2 x3 x4 x5 x6 x7 x8 x9 x10 x11 x12 x13 x14 x15 x16 x17 x18 x19 x20 x21 x22 less) (gCycleComes x0 x1 x2 x3 x4 x5 x6 x7 x8 x9 x10 x11 x12 x13 x14 x15 x16 x17 x18 x19 x20 x21 x22 less)
end Go.Proofs.Ytonhkbgielilbaa.Rig
