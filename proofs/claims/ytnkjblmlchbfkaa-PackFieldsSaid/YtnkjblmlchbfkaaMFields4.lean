/- MFields: what is proved for the claim, part 4: functions' reckonings, and what they give. -/
import Derived.Test.YtnkjblmlchbfkaaMFields3
import Derived.KernelRfl
set_option linter.unusedVariables false
set_option linter.unusedSimpArgs false
/- Qget -/
namespace Go.Proofs.Ytnkjblmlchbfkaa.Rig
open Go
set_option maxRecDepth 100000 in
theorem tget (k : Int) (zl : Bool) (l : List Int) : evBody (mkC Try.prog 0 (fun _ => none) tab14) (evCall (mkC Try.prog 0 (fun _ => none) tab14) 50) 15 [.int .i64 false k, .sl zl ⟨0, 0, 0, 0⟩ false l.length .any] [some ⟨3, false, false, true, .ints .i64 l⟩] =
  Tree.chk ((True ∧ 0 + List.length l ≤ List.length l ∧ True) ∧ short (List.take (List.length l) (List.drop (0) l)) ∧ (zl = true → List.take (List.length l) (List.drop (0) l) = []))
  (Tree.br (rawE k (List.take (List.length l) (List.drop (0) l)) != (0 : Int))
  (Tree.ret (AV.tup [AV.int IntKind.i64 true (0 : Int), AV.int IntKind.i64 false (rawE k (List.take (List.length l) (List.drop (0) l)))], [some (Blk.mk (3) false false true (Data.ints IntKind.i64 l))]))
  (Tree.br (!decide (IntKind.wrap IntKind.i64 ((64 : Int) - IntKind.wrap IntKind.i64 ((16 : Int) * k)) < (0 : Int)))
  (Tree.br (!decide (IntKind.wrap IntKind.i64 ((64 : Int) - IntKind.wrap IntKind.i64 ((16 : Int) * k)) < (0 : Int)))
  (Tree.ret
  (AV.tup
  [AV.int IntKind.i64 false
  (Int.fdiv
  (IntKind.wrap IntKind.i64
  (IntKind.wrap IntKind.i64 (rawV k (List.take (List.length l) (List.drop (0) l))) *
  (2 : Int) ^ min (Int.toNat (IntKind.wrap IntKind.i64 ((64 : Int) - IntKind.wrap IntKind.i64 ((16 : Int) * k)))) (64)))
  ((2 : Int) ^ min (Int.toNat (IntKind.wrap IntKind.i64 ((64 : Int) - IntKind.wrap IntKind.i64 ((16 : Int) * k)))) (64))),
  AV.int IntKind.i64 false (rawE k (List.take (List.length l) (List.drop (0) l)))],
  [some (Blk.mk (3) false false true (Data.ints IntKind.i64 l))]))
  Tree.fail)
  Tree.fail)) := by kernel_rfl
set_option maxRecDepth 100000 in
theorem gget (k : Int) (zl : Bool) (l : List Int) (hw : short l ∧ (zl = true → l = [])) : (Tree.chk ((True ∧ 0 + List.length l ≤ List.length l ∧ True) ∧ short (List.take (List.length l) (List.drop (0) l)) ∧ (zl = true → List.take (List.length l) (List.drop (0) l) = []))
  (Tree.br (rawE k (List.take (List.length l) (List.drop (0) l)) != (0 : Int))
  (Tree.ret (AV.tup [AV.int IntKind.i64 true (0 : Int), AV.int IntKind.i64 false (rawE k (List.take (List.length l) (List.drop (0) l)))], [some (Blk.mk (3) false false true (Data.ints IntKind.i64 l))]))
  (Tree.br (!decide (IntKind.wrap IntKind.i64 ((64 : Int) - IntKind.wrap IntKind.i64 ((16 : Int) * k)) < (0 : Int)))
  (Tree.br (!decide (IntKind.wrap IntKind.i64 ((64 : Int) - IntKind.wrap IntKind.i64 ((16 : Int) * k)) < (0 : Int)))
  (Tree.ret
  (AV.tup
  [AV.int IntKind.i64 false
  (Int.fdiv
  (IntKind.wrap IntKind.i64
  (IntKind.wrap IntKind.i64 (rawV k (List.take (List.length l) (List.drop (0) l))) *
  (2 : Int) ^ min (Int.toNat (IntKind.wrap IntKind.i64 ((64 : Int) - IntKind.wrap IntKind.i64 ((16 : Int) * k)))) (64)))
  ((2 : Int) ^ min (Int.toNat (IntKind.wrap IntKind.i64 ((64 : Int) - IntKind.wrap IntKind.i64 ((16 : Int) * k)))) (64))),
  AV.int IntKind.i64 false (rawE k (List.take (List.length l) (List.drop (0) l)))],
  [some (Blk.mk (3) false false true (Data.ints IntKind.i64 l))]))
  Tree.fail)
  Tree.fail)) : Tree (AV × Mem)).GivesP (.tup [.int .i64 false (getV k l), .int .i64 false (rawE k l)]) ([some ⟨3, false, false, true, .ints .i64 l⟩]) := by
  have hr := raw_facts k l
  refine Tree.GivesP.chk (by first | (simp only [and_self]; done) | (simp only [List.take_length, List.drop_zero]; exact ⟨⟨trivial, by omega, trivial⟩, hw.1, hw.2⟩)) ?_
  refine Tree.GivesP.br (fun h1 => ?_) (fun h1 => ?_)
  · (try simp only [decide_eq_true_eq, decide_eq_false_iff_not, Bool.not_eq_true', Bool.not_eq_false', beq_iff_eq, beq_eq_false_iff_ne, Int.not_lt, Int.not_le, ge_iff_le, gt_iff_lt, ne_eq, Bool.false_eq_true, Bool.true_eq_false, not_true_eq_false, not_false_eq_true, Bool.and_eq_true, Bool.not_eq_eq_eq_not, Bool.not_true, Bool.not_false, bne_iff_ne, bne_eq_false_iff_eq, Int.toNat_natCast, Nat.mul_one, Nat.add_zero, Nat.zero_add, List.take_length, List.drop_zero, List.take_length, List.drop_zero] at h1)
    all_goals
      refine Tree.GivesP.ret ?_ ?_
      · simp only [List.take_length, List.drop_zero, AV.le, AV.leL, true_and, and_true]; exact (get_bad h1).symm
      · simp only [AV.leL, AV.le, Mem.le, Mem.leP, Blk.le, Blk.pad, Data.le, Data.size, Cap.le, and_true, true_and, and_self, true_implies, implies_true, imp_self, List.length_nil]
  · (try simp only [decide_eq_true_eq, decide_eq_false_iff_not, Bool.not_eq_true', Bool.not_eq_false', beq_iff_eq, beq_eq_false_iff_ne, Int.not_lt, Int.not_le, ge_iff_le, gt_iff_lt, ne_eq, Bool.false_eq_true, Bool.true_eq_false, not_true_eq_false, not_false_eq_true, Bool.and_eq_true, Bool.not_eq_eq_eq_not, Bool.not_true, Bool.not_false, bne_iff_ne, bne_eq_false_iff_eq, Int.toNat_natCast, Nat.mul_one, Nat.add_zero, Nat.zero_add, List.take_length, List.drop_zero, List.take_length, List.drop_zero] at h1)
    all_goals
      refine Tree.GivesP.br (fun h2 => ?_) (fun h2 => ?_)
      · (try simp only [decide_eq_true_eq, decide_eq_false_iff_not, Bool.not_eq_true', Bool.not_eq_false', beq_iff_eq, beq_eq_false_iff_ne, Int.not_lt, Int.not_le, ge_iff_le, gt_iff_lt, ne_eq, Bool.false_eq_true, Bool.true_eq_false, not_true_eq_false, not_false_eq_true, Bool.and_eq_true, Bool.not_eq_eq_eq_not, Bool.not_true, Bool.not_false, bne_iff_ne, bne_eq_false_iff_eq, Int.toNat_natCast, Nat.mul_one, Nat.add_zero, Nat.zero_add, List.take_length, List.drop_zero, List.take_length, List.drop_zero] at h2)
        all_goals
          refine Tree.GivesP.br (fun h3 => ?_) (fun h3 => ?_)
          · (try simp only [decide_eq_true_eq, decide_eq_false_iff_not, Bool.not_eq_true', Bool.not_eq_false', beq_iff_eq, beq_eq_false_iff_ne, Int.not_lt, Int.not_le, ge_iff_le, gt_iff_lt, ne_eq, Bool.false_eq_true, Bool.true_eq_false, not_true_eq_false, not_false_eq_true, Bool.and_eq_true, Bool.not_eq_eq_eq_not, Bool.not_true, Bool.not_false, bne_iff_ne, bne_eq_false_iff_eq, Int.toNat_natCast, Nat.mul_one, Nat.add_zero, Nat.zero_add, List.take_length, List.drop_zero, List.take_length, List.drop_zero] at h3)
            all_goals
              refine Tree.GivesP.ret ?_ ?_
              · simp only [List.take_length, List.drop_zero, AV.le, AV.leL, true_and, and_true]; exact get_good h1
              · simp only [AV.leL, AV.le, Mem.le, Mem.leP, Blk.le, Blk.pad, Data.le, Data.size, Cap.le, and_true, true_and, and_self, true_implies, implies_true, imp_self, List.length_nil]
          · (try simp only [decide_eq_true_eq, decide_eq_false_iff_not, Bool.not_eq_true', Bool.not_eq_false', beq_iff_eq, beq_eq_false_iff_ne, Int.not_lt, Int.not_le, ge_iff_le, gt_iff_lt, ne_eq, Bool.false_eq_true, Bool.true_eq_false, not_true_eq_false, not_false_eq_true, Bool.and_eq_true, Bool.not_eq_eq_eq_not, Bool.not_true, Bool.not_false, bne_iff_ne, bne_eq_false_iff_eq, Int.toNat_natCast, Nat.mul_one, Nat.add_zero, Nat.zero_add, List.take_length, List.drop_zero, List.take_length, List.drop_zero] at h3)
            all_goals
              exfalso
              have := hr.2.2 h1
              simp only [w64] at *; omega
      · (try simp only [decide_eq_true_eq, decide_eq_false_iff_not, Bool.not_eq_true', Bool.not_eq_false', beq_iff_eq, beq_eq_false_iff_ne, Int.not_lt, Int.not_le, ge_iff_le, gt_iff_lt, ne_eq, Bool.false_eq_true, Bool.true_eq_false, not_true_eq_false, not_false_eq_true, Bool.and_eq_true, Bool.not_eq_eq_eq_not, Bool.not_true, Bool.not_false, bne_iff_ne, bne_eq_false_iff_eq, Int.toNat_natCast, Nat.mul_one, Nat.add_zero, Nat.zero_add, List.take_length, List.drop_zero, List.take_length, List.drop_zero] at h2)
        all_goals
          exfalso
          have := hr.2.2 h1
          simp only [w64] at *; omega
theorem sget (hall : AllOk Try.prog 0 (fun _ => none) tab14) (k : Int) (zl : Bool) (l : List Int) (hw : short l ∧ (zl = true → l = [])) : SoundAt (mkC Try.prog 0 (fun _ => none) []) 15 [.int .i64 false k, .sl zl ⟨0, 0, 0, 0⟩ false l.length .any] [some ⟨3, false, false, true, .ints .i64 l⟩] (.tup [.int .i64 false (getV k l), .int .i64 false (rawE k l)], [some ⟨3, false, false, true, .ints .i64 l⟩]) := sound_ofP hall mix (tget k zl l) (gget k zl l hw)
theorem Fget_ok (hall : AllOk Try.prog 0 (fun _ => none) tab14) : PureF Try.prog 3 15 Fget := by
  intro xs c v news h hc
  unfold Fget at h
  split at h
  · rename_i _ k zl l
    cases h
    refine ⟨(by intro b hb; cases hb), SoundAt.flags (sget hall k zl l hc) ?_⟩
    simp [PA.avs, AV.le, AV.leL, Cap.le]
  · cases h
end Go.Proofs.Ytnkjblmlchbfkaa.Rig

/- Qsize -/
namespace Go.Proofs.Ytnkjblmlchbfkaa.Rig
open Go
set_option maxRecDepth 100000 in
theorem tLsize_0 (zl : Bool) (l : List Int) (i : Nat) : tidied Tsize_0 Usize_0 1 (evCode (mkL Try.prog 0 (fun _ => none) tab15 rowssize) (evCall (mkC Try.prog 0 (fun _ => none) tab15) 50) 23 1 fuelC (bodyAt Try.prog 23 0) (hdsize_0 ⟨zl, l, i⟩)) =
  Tree.br (decide ((i : Int) < ((List.length l) : Int)))
  (Tree.br (!zl && decide ((0 : Int) ≤ (i : Int) ∧ (i : Int) < ((List.length l) : Int)))
  (Tree.br (decide (Int.toNat (i : Int) * 1 + 0 + 1 ≤ List.length l))
  (Tree.br (decide (List.getD l (Int.toNat (i : Int) * 1 + 0 + 0) (0 : Int) < (1 : Int)))
  (Tree.ret
  (Ex.ret,
  St.mk
  [AV.junk, AV.junk, AV.int IntKind.i64 true (0 : Int), AV.junk, AV.junk, AV.junk, AV.junk, AV.junk, AV.junk, AV.junk, AV.junk, AV.junk, AV.junk, AV.junk, AV.junk, AV.junk, AV.junk, AV.junk, AV.junk, AV.junk, AV.junk, AV.junk,
  AV.junk, AV.junk, AV.junk, AV.junk]
  [some (Blk.mk (3) false false true (Data.ints IntKind.i64 l))]))
  (Tree.br (decide (List.getD l (Int.toNat (i : Int) * 1 + 0 + 0) (0 : Int) > (16 : Int)))
  (Tree.ret
  (Ex.ret,
  St.mk
  [AV.junk, AV.junk, AV.int IntKind.i64 true (0 : Int), AV.junk, AV.junk, AV.junk, AV.junk, AV.junk, AV.junk, AV.junk, AV.junk, AV.junk, AV.junk, AV.junk, AV.junk, AV.junk, AV.junk, AV.junk, AV.junk, AV.junk, AV.junk, AV.junk,
  AV.junk, AV.junk, AV.junk, AV.junk]
  [some (Blk.mk (3) false false true (Data.ints IntKind.i64 l))]))
  (Tree.ret
  (Ex.norm,
  St.mk
  [AV.junk, AV.junk, AV.junk, AV.int IntKind.i64 false (IntKind.wrap IntKind.i64 (sumI (List.take i l) + List.getD l (Int.toNat (i : Int) * 1 + 0 + 0) (0 : Int))), AV.junk, AV.junk,
  AV.sl zl (Ref.mk (0) (0) (0) (0)) false (List.length l) Cap.any, AV.int IntKind.i64 false ((List.length l) : Int), AV.int IntKind.i64 false (IntKind.wrap IntKind.i64 ((i : Int) + (1 : Int))),
  AV.junk, AV.junk, AV.junk, AV.junk, AV.junk, AV.junk, AV.junk, AV.junk, AV.junk, AV.junk, AV.junk, AV.junk, AV.junk, AV.junk, AV.junk, AV.junk, AV.junk]
  [some (Blk.mk (3) false false true (Data.ints IntKind.i64 l))]))))
  Tree.fail)
  Tree.fail)
  (Tree.ret
  (Ex.exit (0),
  St.mk
  [AV.junk, AV.junk, AV.junk, AV.int IntKind.i64 false (sumI (List.take i l)), AV.junk, AV.junk, AV.junk, AV.junk, AV.junk, AV.junk, AV.junk, AV.junk, AV.junk, AV.junk, AV.junk, AV.junk, AV.junk, AV.junk, AV.junk, AV.junk,
  AV.junk, AV.junk, AV.junk, AV.junk, AV.junk, AV.junk]
  [some (Blk.mk (3) false false true (Data.ints IntKind.i64 l))])) := by kernel_rfl
set_option maxRecDepth 100000 in
theorem stepsize_0 (zl : Bool) (l : List Int) (i : Nat) (ex : Ex) (r : St) (hok : oksize_0 ⟨zl, l, i⟩) (hr : (outsize_0 ⟨zl, l, i⟩).runs (ex, r)) : (Tree.br (decide ((i : Int) < ((List.length l) : Int)))
  (Tree.br (!zl && decide ((0 : Int) ≤ (i : Int) ∧ (i : Int) < ((List.length l) : Int)))
  (Tree.br (decide (Int.toNat (i : Int) * 1 + 0 + 1 ≤ List.length l))
  (Tree.br (decide (List.getD l (Int.toNat (i : Int) * 1 + 0 + 0) (0 : Int) < (1 : Int)))
  (Tree.ret
  (Ex.ret,
  St.mk
  [AV.junk, AV.junk, AV.int IntKind.i64 true (0 : Int), AV.junk, AV.junk, AV.junk, AV.junk, AV.junk, AV.junk, AV.junk, AV.junk, AV.junk, AV.junk, AV.junk, AV.junk, AV.junk, AV.junk, AV.junk, AV.junk, AV.junk, AV.junk, AV.junk,
  AV.junk, AV.junk, AV.junk, AV.junk]
  [some (Blk.mk (3) false false true (Data.ints IntKind.i64 l))]))
  (Tree.br (decide (List.getD l (Int.toNat (i : Int) * 1 + 0 + 0) (0 : Int) > (16 : Int)))
  (Tree.ret
  (Ex.ret,
  St.mk
  [AV.junk, AV.junk, AV.int IntKind.i64 true (0 : Int), AV.junk, AV.junk, AV.junk, AV.junk, AV.junk, AV.junk, AV.junk, AV.junk, AV.junk, AV.junk, AV.junk, AV.junk, AV.junk, AV.junk, AV.junk, AV.junk, AV.junk, AV.junk, AV.junk,
  AV.junk, AV.junk, AV.junk, AV.junk]
  [some (Blk.mk (3) false false true (Data.ints IntKind.i64 l))]))
  (Tree.ret
  (Ex.norm,
  St.mk
  [AV.junk, AV.junk, AV.junk, AV.int IntKind.i64 false (IntKind.wrap IntKind.i64 (sumI (List.take i l) + List.getD l (Int.toNat (i : Int) * 1 + 0 + 0) (0 : Int))), AV.junk, AV.junk,
  AV.sl zl (Ref.mk (0) (0) (0) (0)) false (List.length l) Cap.any, AV.int IntKind.i64 false ((List.length l) : Int), AV.int IntKind.i64 false (IntKind.wrap IntKind.i64 ((i : Int) + (1 : Int))),
  AV.junk, AV.junk, AV.junk, AV.junk, AV.junk, AV.junk, AV.junk, AV.junk, AV.junk, AV.junk, AV.junk, AV.junk, AV.junk, AV.junk, AV.junk, AV.junk, AV.junk]
  [some (Blk.mk (3) false false true (Data.ints IntKind.i64 l))]))))
  Tree.fail)
  Tree.fail)
  (Tree.ret
  (Ex.exit (0),
  St.mk
  [AV.junk, AV.junk, AV.junk, AV.int IntKind.i64 false (sumI (List.take i l)), AV.junk, AV.junk, AV.junk, AV.junk, AV.junk, AV.junk, AV.junk, AV.junk, AV.junk, AV.junk, AV.junk, AV.junk, AV.junk, AV.junk, AV.junk, AV.junk,
  AV.junk, AV.junk, AV.junk, AV.junk, AV.junk, AV.junk]
  [some (Blk.mk (3) false false true (Data.ints IntKind.i64 l))])) : Tree (Ex × St)).Sat (Post hdsize_0 ressize_0 musize_0 ⟨zl, l, i⟩ ex r) := by
  simp only [oksize_0, outsize_0, Tree.runs] at hok hr
  obtain ⟨hs, hz, hi, ha⟩ := hok
  have hsum := sum_take ha
  have hsum2 : (0 : Int) ≤ sumI (l.take i) ∧ sumI (l.take i) ≤ 16 * (i : Int) := ⟨hsum.1, by have := hsum.2; rw [List.length_take] at this; omega⟩
  refine Tree.Sat.br (fun h1 => ?_) (fun h1 => ?_)
  · (try simp only [decide_eq_true_eq, decide_eq_false_iff_not, Bool.not_eq_true', Bool.not_eq_false', beq_iff_eq, beq_eq_false_iff_ne, Int.not_lt, Int.not_le, ge_iff_le, gt_iff_lt, ne_eq, Bool.false_eq_true, Bool.true_eq_false, not_true_eq_false, not_false_eq_true, Bool.and_eq_true, Bool.not_eq_eq_eq_not, Bool.not_true, Bool.not_false, bne_iff_ne, bne_eq_false_iff_eq, Int.toNat_natCast, Nat.mul_one, Nat.add_zero, Nat.zero_add, List.take_length, List.drop_zero] at h1)
    all_goals
      refine Tree.Sat.br (fun h2 => ?_) (fun h2 => ?_)
      · (try simp only [decide_eq_true_eq, decide_eq_false_iff_not, Bool.not_eq_true', Bool.not_eq_false', beq_iff_eq, beq_eq_false_iff_ne, Int.not_lt, Int.not_le, ge_iff_le, gt_iff_lt, ne_eq, Bool.false_eq_true, Bool.true_eq_false, not_true_eq_false, not_false_eq_true, Bool.and_eq_true, Bool.not_eq_eq_eq_not, Bool.not_true, Bool.not_false, bne_iff_ne, bne_eq_false_iff_eq, Int.toNat_natCast, Nat.mul_one, Nat.add_zero, Nat.zero_add, List.take_length, List.drop_zero] at h2)
        all_goals
          refine Tree.Sat.br (fun h3 => ?_) (fun h3 => ?_)
          · (try simp only [decide_eq_true_eq, decide_eq_false_iff_not, Bool.not_eq_true', Bool.not_eq_false', beq_iff_eq, beq_eq_false_iff_ne, Int.not_lt, Int.not_le, ge_iff_le, gt_iff_lt, ne_eq, Bool.false_eq_true, Bool.true_eq_false, not_true_eq_false, not_false_eq_true, Bool.and_eq_true, Bool.not_eq_eq_eq_not, Bool.not_true, Bool.not_false, bne_iff_ne, bne_eq_false_iff_eq, Int.toNat_natCast, Nat.mul_one, Nat.add_zero, Nat.zero_add, List.take_length, List.drop_zero] at h3)
            all_goals
              refine Tree.Sat.br (fun h4 => ?_) (fun h4 => ?_)
              · (try simp only [decide_eq_true_eq, decide_eq_false_iff_not, Bool.not_eq_true', Bool.not_eq_false', beq_iff_eq, beq_eq_false_iff_ne, Int.not_lt, Int.not_le, ge_iff_le, gt_iff_lt, ne_eq, Bool.false_eq_true, Bool.true_eq_false, not_true_eq_false, not_false_eq_true, Bool.and_eq_true, Bool.not_eq_eq_eq_not, Bool.not_true, Bool.not_false, bne_iff_ne, bne_eq_false_iff_eq, Int.toNat_natCast, Nat.mul_one, Nat.add_zero, Nat.zero_add, List.take_length, List.drop_zero] at h4)
                all_goals
                  refine Tree.Sat.ret ?_
                  first
                    | (
                      have hq := hr.1 (any_hit (i := i) (by omega) (by simp only [badV, Bool.or_eq_true, decide_eq_true_eq]; omega))
                      simp only [Prod.mk.injEq] at hq
                      obtain ⟨rfl, rfl⟩ := hq
                      refine .ret rfl ?_
                      constructor <;> simp only [AV.leL, AV.le, Mem.le, Mem.leP, Blk.le, Blk.pad, Data.le, Data.size, Cap.le, and_true, true_and, and_self, true_implies, implies_true, imp_self, List.length_nil] <;> (repeat' with_reducible refine And.intro ?_ ?_) <;> (try simp only [Int.toNat_natCast, Nat.mul_one, Nat.add_zero, Nat.zero_add]) <;> done)
                    | (
                      have hq := hr.2 (by rw [List.take_of_length_le (by omega)] at ha; exact ha)
                      simp only [Prod.mk.injEq] at hq
                      obtain ⟨rfl, rfl⟩ := hq
                      refine .exit rfl ?_
                      constructor <;> simp only [AV.leL, AV.le, Mem.le, Mem.leP, Blk.le, Blk.pad, Data.le, Data.size, Cap.le, and_true, true_and, and_self, true_implies, implies_true, imp_self, List.length_nil] <;> (repeat' with_reducible refine And.intro ?_ ?_) <;> (try simp only [Int.toNat_natCast, Nat.mul_one, Nat.add_zero, Nat.zero_add]) <;> rw [List.take_of_length_le (by omega)])
              · (try simp only [decide_eq_true_eq, decide_eq_false_iff_not, Bool.not_eq_true', Bool.not_eq_false', beq_iff_eq, beq_eq_false_iff_ne, Int.not_lt, Int.not_le, ge_iff_le, gt_iff_lt, ne_eq, Bool.false_eq_true, Bool.true_eq_false, not_true_eq_false, not_false_eq_true, Bool.and_eq_true, Bool.not_eq_eq_eq_not, Bool.not_true, Bool.not_false, bne_iff_ne, bne_eq_false_iff_eq, Int.toNat_natCast, Nat.mul_one, Nat.add_zero, Nat.zero_add, List.take_length, List.drop_zero] at h4)
                all_goals
                  refine Tree.Sat.br (fun h5 => ?_) (fun h5 => ?_)
                  · (try simp only [decide_eq_true_eq, decide_eq_false_iff_not, Bool.not_eq_true', Bool.not_eq_false', beq_iff_eq, beq_eq_false_iff_ne, Int.not_lt, Int.not_le, ge_iff_le, gt_iff_lt, ne_eq, Bool.false_eq_true, Bool.true_eq_false, not_true_eq_false, not_false_eq_true, Bool.and_eq_true, Bool.not_eq_eq_eq_not, Bool.not_true, Bool.not_false, bne_iff_ne, bne_eq_false_iff_eq, Int.toNat_natCast, Nat.mul_one, Nat.add_zero, Nat.zero_add, List.take_length, List.drop_zero] at h5)
                    all_goals
                      refine Tree.Sat.ret ?_
                      first
                        | (
                          have hq := hr.1 (any_hit (i := i) (by omega) (by simp only [badV, Bool.or_eq_true, decide_eq_true_eq]; omega))
                          simp only [Prod.mk.injEq] at hq
                          obtain ⟨rfl, rfl⟩ := hq
                          refine .ret rfl ?_
                          constructor <;> simp only [AV.leL, AV.le, Mem.le, Mem.leP, Blk.le, Blk.pad, Data.le, Data.size, Cap.le, and_true, true_and, and_self, true_implies, implies_true, imp_self, List.length_nil] <;> (repeat' with_reducible refine And.intro ?_ ?_) <;> (try simp only [Int.toNat_natCast, Nat.mul_one, Nat.add_zero, Nat.zero_add]) <;> done)
                        | (
                          have hq := hr.2 (by rw [List.take_of_length_le (by omega)] at ha; exact ha)
                          simp only [Prod.mk.injEq] at hq
                          obtain ⟨rfl, rfl⟩ := hq
                          refine .exit rfl ?_
                          constructor <;> simp only [AV.leL, AV.le, Mem.le, Mem.leP, Blk.le, Blk.pad, Data.le, Data.size, Cap.le, and_true, true_and, and_self, true_implies, implies_true, imp_self, List.length_nil] <;> (repeat' with_reducible refine And.intro ?_ ?_) <;> (try simp only [Int.toNat_natCast, Nat.mul_one, Nat.add_zero, Nat.zero_add]) <;> rw [List.take_of_length_le (by omega)])
                  · (try simp only [decide_eq_true_eq, decide_eq_false_iff_not, Bool.not_eq_true', Bool.not_eq_false', beq_iff_eq, beq_eq_false_iff_ne, Int.not_lt, Int.not_le, ge_iff_le, gt_iff_lt, ne_eq, Bool.false_eq_true, Bool.true_eq_false, not_true_eq_false, not_false_eq_true, Bool.and_eq_true, Bool.not_eq_eq_eq_not, Bool.not_true, Bool.not_false, bne_iff_ne, bne_eq_false_iff_eq, Int.toNat_natCast, Nat.mul_one, Nat.add_zero, Nat.zero_add, List.take_length, List.drop_zero] at h5)
                    all_goals
                      refine Tree.Sat.ret ?_
                      refine .norm ⟨zl, l, i + 1⟩ ?_ ?_ ⟨?_, ?_⟩
                      · constructor <;> simp only [hdsize_0, AV.leL, AV.le, Mem.le, Mem.leP, Blk.le, Blk.pad, Data.le, Data.size, Cap.le, and_true, true_and, and_self, true_implies, implies_true, imp_self, List.length_nil] <;> (repeat' with_reducible refine And.intro ?_ ?_) <;> (try simp only [Int.toNat_natCast, Nat.mul_one, Nat.add_zero, Nat.zero_add]) <;> first | exact wadd1 (by omega) | exact sum_step (l := l) (i := i) (by omega) (by omega) (by omega)
                      · simp only [musize_0]; omega
                      · exact ⟨hs, hz, by omega, any_take_succ (by omega) ha (by simp only [badV, Bool.or_eq_false_iff, decide_eq_false_iff_not]; omega)⟩
                      · exact hr
          · (try simp only [decide_eq_true_eq, decide_eq_false_iff_not, Bool.not_eq_true', Bool.not_eq_false', beq_iff_eq, beq_eq_false_iff_ne, Int.not_lt, Int.not_le, ge_iff_le, gt_iff_lt, ne_eq, Bool.false_eq_true, Bool.true_eq_false, not_true_eq_false, not_false_eq_true, Bool.and_eq_true, Bool.not_eq_eq_eq_not, Bool.not_true, Bool.not_false, bne_iff_ne, bne_eq_false_iff_eq, Int.toNat_natCast, Nat.mul_one, Nat.add_zero, Nat.zero_add, List.take_length, List.drop_zero] at h3)
            all_goals
              exfalso
              first | omega | (simp only [w64] at *; omega) | (cases zl <;> simp_all; done) | (cases zl <;> simp_all <;> omega)
      · (try simp only [decide_eq_true_eq, decide_eq_false_iff_not, Bool.not_eq_true', Bool.not_eq_false', beq_iff_eq, beq_eq_false_iff_ne, Int.not_lt, Int.not_le, ge_iff_le, gt_iff_lt, ne_eq, Bool.false_eq_true, Bool.true_eq_false, not_true_eq_false, not_false_eq_true, Bool.and_eq_true, Bool.not_eq_eq_eq_not, Bool.not_true, Bool.not_false, bne_iff_ne, bne_eq_false_iff_eq, Int.toNat_natCast, Nat.mul_one, Nat.add_zero, Nat.zero_add, List.take_length, List.drop_zero] at h2)
        all_goals
          exfalso
          first | omega | (simp only [w64] at *; omega) | (cases zl <;> simp_all; done) | (cases zl <;> simp_all <;> omega)
  · (try simp only [decide_eq_true_eq, decide_eq_false_iff_not, Bool.not_eq_true', Bool.not_eq_false', beq_iff_eq, beq_eq_false_iff_ne, Int.not_lt, Int.not_le, ge_iff_le, gt_iff_lt, ne_eq, Bool.false_eq_true, Bool.true_eq_false, not_true_eq_false, not_false_eq_true, Bool.and_eq_true, Bool.not_eq_eq_eq_not, Bool.not_true, Bool.not_false, bne_iff_ne, bne_eq_false_iff_eq, Int.toNat_natCast, Nat.mul_one, Nat.add_zero, Nat.zero_add, List.take_length, List.drop_zero] at h1)
    all_goals
      refine Tree.Sat.ret ?_
      first
        | (
          have hq := hr.1 (any_hit (i := i) (by omega) (by simp only [badV, Bool.or_eq_true, decide_eq_true_eq]; omega))
          simp only [Prod.mk.injEq] at hq
          obtain ⟨rfl, rfl⟩ := hq
          refine .ret rfl ?_
          constructor <;> simp only [AV.leL, AV.le, Mem.le, Mem.leP, Blk.le, Blk.pad, Data.le, Data.size, Cap.le, and_true, true_and, and_self, true_implies, implies_true, imp_self, List.length_nil] <;> (repeat' with_reducible refine And.intro ?_ ?_) <;> (try simp only [Int.toNat_natCast, Nat.mul_one, Nat.add_zero, Nat.zero_add]) <;> done)
        | (
          have hq := hr.2 (by rw [List.take_of_length_le (by omega)] at ha; exact ha)
          simp only [Prod.mk.injEq] at hq
          obtain ⟨rfl, rfl⟩ := hq
          refine .exit rfl ?_
          constructor <;> simp only [AV.leL, AV.le, Mem.le, Mem.leP, Blk.le, Blk.pad, Data.le, Data.size, Cap.le, and_true, true_and, and_self, true_implies, implies_true, imp_self, List.length_nil] <;> (repeat' with_reducible refine And.intro ?_ ?_) <;> (try simp only [Int.toNat_natCast, Nat.mul_one, Nat.add_zero, Nat.zero_add]) <;> rw [List.take_of_length_le (by omega)])
set_option maxHeartbeats 2000000 in
set_option maxRecDepth 100000 in
theorem loopsize_0 (hall : AllOk Try.prog 0 (fun _ => none) tab15) : LoopOk (mkL Try.prog 0 (fun _ => none) tab15 rowssize) 23 1 (bodyAt Try.prog 23 0) := by
  have hkey : Code.key (bodyAt Try.prog 23 0) = 3 := by kernel_rfl
  have hin : loopsIn (bodyAt Try.prog 23 0) = [] := by kernel_rfl
  have hrow : lookL rowssize 23 (Code.key (bodyAt Try.prog 23 0)) = some rowsize_0 := by rw [hkey]; rfl
  refine loop_rowP (X := Xsize_0) (row := rowsize_0) hall mix hrow (fun b hb _ => by rw [hin] at hb; cases hb) Usize_0 hdsize_0 ressize_0 musize_0 (fun st ex r h => ?_) (fun x ex r hr => ?_)
  · have h' : (anssize_0 st).runs (ex, r) := h
    unfold anssize_0 at h'
    split at h'
    · obtain ⟨q1, q2⟩ := Tree.chk_runs h'
      exact ⟨_, q1, q2⟩
    · exact h'.elim
  · obtain ⟨zl, l, i⟩ := x
    have := stepsize_0 zl l i ex r hr.1 hr.2
    rw [← tLsize_0] at this
    (try rw [show rowsize_0.tidy = Tsize_0 from rfl])
    exact this
theorem loopssize (hall : AllOk Try.prog 0 (fun _ => none) tab15) : ∀ i, i < (loopsAt Try.prog 23).length → LoopOk (mkL Try.prog 0 (fun _ => none) tab15 rowssize) 23 1 (bodyAt Try.prog 23 i) := by
  intro i hi
  have hlen : (loopsAt Try.prog 23).length = 1 := by kernel_rfl
  rw [hlen] at hi
  obtain rfl : i = 0 := by omega
  · exact loopsize_0 hall
set_option maxRecDepth 100000 in
theorem tsize (zl : Bool) (l : List Int) : evBody (mkL Try.prog 0 (fun _ => none) tab15 rowssize) (evCall (mkC Try.prog 0 (fun _ => none) tab15) 50) 23 [.sl zl ⟨0, 0, 0, 0⟩ false l.length .any] [some ⟨3, false, false, true, .ints .i64 l⟩] =
  Tree.chk
  (St.le
  (St.mk
  [AV.junk, AV.junk, AV.junk, AV.int IntKind.i64 true (0 : Int), AV.junk, AV.junk, AV.sl zl (Ref.mk (0) (0) (0) (0)) false (List.length l) Cap.any, AV.int IntKind.i64 false ((List.length l) : Int),
  AV.int IntKind.i64 true (0 : Int), AV.junk, AV.junk, AV.junk, AV.junk, AV.junk, AV.junk, AV.junk, AV.junk, AV.junk, AV.junk, AV.junk, AV.junk, AV.junk, AV.junk, AV.junk, AV.junk, AV.junk]
  [some (Blk.mk (3) false false true (Data.ints IntKind.i64 l))])
  (St.mk
  [AV.junk, AV.junk, AV.junk, AV.int IntKind.i64 false (sumI (List.take (Int.toNat (0 : Int)) l)), AV.junk, AV.junk, AV.sl zl (Ref.mk (0) (0) (0) (0)) false (List.length l) Cap.any,
  AV.int IntKind.i64 false ((List.length l) : Int), AV.int IntKind.i64 false (0 : Int), AV.junk, AV.junk, AV.junk, AV.junk, AV.junk, AV.junk, AV.junk, AV.junk, AV.junk, AV.junk, AV.junk, AV.junk, AV.junk, AV.junk, AV.junk, AV.junk,
  AV.junk]
  [some (Blk.mk (3) false false true (Data.ints IntKind.i64 l))]))
  (Tree.chk (oksize_0 (Xsize_0.mk zl l (Int.toNat (0 : Int))))
  (Tree.br (List.any l badV) (Tree.ret (AV.int IntKind.i64 true (0 : Int), [some (Blk.mk (3) false false true (Data.ints IntKind.i64 l))]))
  (Tree.br true
  (Tree.ret
  (AV.int IntKind.i64 false (IntKind.wrap IntKind.i64 (Int.tdiv (IntKind.wrap IntKind.i64 (IntKind.wrap IntKind.i64 (sumI l + (16 : Int)) - (1 : Int))) (16 : Int))),
  [some (Blk.mk (3) false false true (Data.ints IntKind.i64 l))]))
  Tree.fail))) := by kernel_rfl
set_option maxRecDepth 100000 in
theorem gsize (zl : Bool) (l : List Int) (hw : l.length ≤ 1000000 ∧ (zl = true → l = [])) : (Tree.chk
  (St.le
  (St.mk
  [AV.junk, AV.junk, AV.junk, AV.int IntKind.i64 true (0 : Int), AV.junk, AV.junk, AV.sl zl (Ref.mk (0) (0) (0) (0)) false (List.length l) Cap.any, AV.int IntKind.i64 false ((List.length l) : Int),
  AV.int IntKind.i64 true (0 : Int), AV.junk, AV.junk, AV.junk, AV.junk, AV.junk, AV.junk, AV.junk, AV.junk, AV.junk, AV.junk, AV.junk, AV.junk, AV.junk, AV.junk, AV.junk, AV.junk, AV.junk]
  [some (Blk.mk (3) false false true (Data.ints IntKind.i64 l))])
  (St.mk
  [AV.junk, AV.junk, AV.junk, AV.int IntKind.i64 false (sumI (List.take (Int.toNat (0 : Int)) l)), AV.junk, AV.junk, AV.sl zl (Ref.mk (0) (0) (0) (0)) false (List.length l) Cap.any,
  AV.int IntKind.i64 false ((List.length l) : Int), AV.int IntKind.i64 false (0 : Int), AV.junk, AV.junk, AV.junk, AV.junk, AV.junk, AV.junk, AV.junk, AV.junk, AV.junk, AV.junk, AV.junk, AV.junk, AV.junk, AV.junk, AV.junk, AV.junk,
  AV.junk]
  [some (Blk.mk (3) false false true (Data.ints IntKind.i64 l))]))
  (Tree.chk (oksize_0 (Xsize_0.mk zl l (Int.toNat (0 : Int))))
  (Tree.br (List.any l badV) (Tree.ret (AV.int IntKind.i64 true (0 : Int), [some (Blk.mk (3) false false true (Data.ints IntKind.i64 l))]))
  (Tree.br true
  (Tree.ret
  (AV.int IntKind.i64 false (IntKind.wrap IntKind.i64 (Int.tdiv (IntKind.wrap IntKind.i64 (IntKind.wrap IntKind.i64 (sumI l + (16 : Int)) - (1 : Int))) (16 : Int))),
  [some (Blk.mk (3) false false true (Data.ints IntKind.i64 l))]))
  Tree.fail))) : Tree (AV × Mem)).GivesP (.int .i64 false (sizeZ l)) ([some ⟨3, false, false, true, .ints .i64 l⟩]) := by
  refine Tree.GivesP.chk (by first | (simp only [and_self]; done) | (constructor <;> simp only [hdsize_0, Int.toNat_zero, Int.cast_ofNat_Int, AV.leL, AV.le, Mem.le, Mem.leP, Blk.le, Blk.pad, Data.le, Data.size, Cap.le, and_true, true_and, and_self, true_implies, implies_true, imp_self, List.length_nil] <;> (try simp only [List.take_zero]) <;> (try rfl))) ?_
  refine Tree.GivesP.chk (by first | (simp only [and_self]; done) | (exact ⟨hw.1, hw.2, Nat.zero_le _, rfl⟩)) ?_
  refine Tree.GivesP.br (fun h1 => ?_) (fun h1 => ?_)
  · (try simp only [decide_eq_true_eq, decide_eq_false_iff_not, Bool.not_eq_true', Bool.not_eq_false', beq_iff_eq, beq_eq_false_iff_ne, Int.not_lt, Int.not_le, ge_iff_le, gt_iff_lt, ne_eq, Bool.false_eq_true, Bool.true_eq_false, not_true_eq_false, not_false_eq_true, Bool.and_eq_true, Bool.not_eq_eq_eq_not, Bool.not_true, Bool.not_false, bne_iff_ne, bne_eq_false_iff_eq, Int.toNat_natCast, Nat.mul_one, Nat.add_zero, Nat.zero_add, List.take_length, List.drop_zero] at h1)
    all_goals
      refine Tree.GivesP.ret ?_ ?_
      · simp only [AV.le, sizeZ, true_and, h1, if_true]
      · simp only [AV.leL, AV.le, Mem.le, Mem.leP, Blk.le, Blk.pad, Data.le, Data.size, Cap.le, and_true, true_and, and_self, true_implies, implies_true, imp_self, List.length_nil]
  · (try simp only [decide_eq_true_eq, decide_eq_false_iff_not, Bool.not_eq_true', Bool.not_eq_false', beq_iff_eq, beq_eq_false_iff_ne, Int.not_lt, Int.not_le, ge_iff_le, gt_iff_lt, ne_eq, Bool.false_eq_true, Bool.true_eq_false, not_true_eq_false, not_false_eq_true, Bool.and_eq_true, Bool.not_eq_eq_eq_not, Bool.not_true, Bool.not_false, bne_iff_ne, bne_eq_false_iff_eq, Int.toNat_natCast, Nat.mul_one, Nat.add_zero, Nat.zero_add, List.take_length, List.drop_zero] at h1)
    all_goals
      refine Tree.GivesP.br (fun h2 => ?_) (fun h2 => ?_)
      · (try simp only [decide_eq_true_eq, decide_eq_false_iff_not, Bool.not_eq_true', Bool.not_eq_false', beq_iff_eq, beq_eq_false_iff_ne, Int.not_lt, Int.not_le, ge_iff_le, gt_iff_lt, ne_eq, Bool.false_eq_true, Bool.true_eq_false, not_true_eq_false, not_false_eq_true, Bool.and_eq_true, Bool.not_eq_eq_eq_not, Bool.not_true, Bool.not_false, bne_iff_ne, bne_eq_false_iff_eq, Int.toNat_natCast, Nat.mul_one, Nat.add_zero, Nat.zero_add, List.take_length, List.drop_zero] at h2)
        all_goals
          refine Tree.GivesP.ret ?_ ?_
          · simp only [AV.le, sizeZ, true_and, h1, Bool.false_eq_true, if_false]; exact size_fin h1 hw.1
          · simp only [AV.leL, AV.le, Mem.le, Mem.leP, Blk.le, Blk.pad, Data.le, Data.size, Cap.le, and_true, true_and, and_self, true_implies, implies_true, imp_self, List.length_nil]
      · (try simp only [decide_eq_true_eq, decide_eq_false_iff_not, Bool.not_eq_true', Bool.not_eq_false', beq_iff_eq, beq_eq_false_iff_ne, Int.not_lt, Int.not_le, ge_iff_le, gt_iff_lt, ne_eq, Bool.false_eq_true, Bool.true_eq_false, not_true_eq_false, not_false_eq_true, Bool.and_eq_true, Bool.not_eq_eq_eq_not, Bool.not_true, Bool.not_false, bne_iff_ne, bne_eq_false_iff_eq, Int.toNat_natCast, Nat.mul_one, Nat.add_zero, Nat.zero_add, List.take_length, List.drop_zero] at h2)
        all_goals
          exfalso
          omega
theorem ssize (hall : AllOk Try.prog 0 (fun _ => none) tab15) (zl : Bool) (l : List Int) (hw : l.length ≤ 1000000 ∧ (zl = true → l = [])) : SoundAt (mkC Try.prog 0 (fun _ => none) []) 23 [.sl zl ⟨0, 0, 0, 0⟩ false l.length .any] [some ⟨3, false, false, true, .ints .i64 l⟩] (.int .i64 false (sizeZ l), [some ⟨3, false, false, true, .ints .i64 l⟩]) := sound_loopsP hall mix (loopssize hall) (tsize zl l) (gsize zl l hw)
theorem Fsize_ok (hall : AllOk Try.prog 0 (fun _ => none) tab15) : PureF Try.prog 3 23 Fsize := by
  intro xs c v news h hc
  unfold Fsize at h
  split at h
  · rename_i zl l
    cases h
    refine ⟨(by intro b hb; cases hb), SoundAt.flags (ssize hall zl l hc) ?_⟩
    simp [PA.avs, AV.le, AV.leL, Cap.le]
  · cases h
end Go.Proofs.Ytnkjblmlchbfkaa.Rig

/- Qrsize -/
namespace Go.Proofs.Ytnkjblmlchbfkaa.Rig
open Go
set_option maxRecDepth 100000 in
theorem tLrsize_0 (zl : Bool) (l : List Int) (i : Nat) : tidied Trsize_0 Ursize_0 1 (evCode (mkL Try.prog 0 (fun _ => none) tab16 rowsrsize) (evCall (mkC Try.prog 0 (fun _ => none) tab16) 50) 24 1 fuelC (bodyAt Try.prog 24 0) (hdrsize_0 ⟨zl, l, i⟩)) =
  Tree.br (decide ((i : Int) < ((List.length l) : Int)))
  (Tree.br (!zl && decide ((0 : Int) ≤ (i : Int) ∧ (i : Int) < ((List.length l) : Int)))
  (Tree.br (decide (Int.toNat (i : Int) * 1 + 0 + 1 ≤ List.length l))
  (Tree.br (decide (List.getD l (Int.toNat (i : Int) * 1 + 0 + 0) (0 : Int) < (1 : Int)))
  (Tree.ret
  (Ex.ret,
  St.mk
  [AV.junk, AV.junk, AV.int IntKind.i64 true (0 : Int), AV.junk, AV.junk, AV.junk, AV.junk, AV.junk, AV.junk, AV.junk, AV.junk, AV.junk, AV.junk, AV.junk, AV.junk, AV.junk, AV.junk, AV.junk, AV.junk, AV.junk, AV.junk, AV.junk,
  AV.junk, AV.junk, AV.junk, AV.junk, AV.junk, AV.junk, AV.junk, AV.junk, AV.junk, AV.junk]
  [some (Blk.mk (3) false false true (Data.ints IntKind.i64 l))]))
  (Tree.br (!zl && decide ((0 : Int) ≤ (i : Int) ∧ (i : Int) < ((List.length l) : Int)))
  (Tree.br (decide (Int.toNat (i : Int) * 1 + 0 + 1 ≤ List.length l))
  (Tree.br (decide (List.getD l (Int.toNat (i : Int) * 1 + 0 + 0) (0 : Int) > (16 : Int)))
  (Tree.ret
  (Ex.ret,
  St.mk
  [AV.junk, AV.junk, AV.int IntKind.i64 true (0 : Int), AV.junk, AV.junk, AV.junk, AV.junk, AV.junk, AV.junk, AV.junk, AV.junk, AV.junk, AV.junk, AV.junk, AV.junk, AV.junk, AV.junk, AV.junk, AV.junk, AV.junk, AV.junk,
  AV.junk, AV.junk, AV.junk, AV.junk, AV.junk, AV.junk, AV.junk, AV.junk, AV.junk, AV.junk, AV.junk]
  [some (Blk.mk (3) false false true (Data.ints IntKind.i64 l))]))
  (Tree.br (!zl && decide ((0 : Int) ≤ (i : Int) ∧ (i : Int) < ((List.length l) : Int)))
  (Tree.br (decide (Int.toNat (i : Int) * 1 + 0 + 1 ≤ List.length l))
  (Tree.ret
  (Ex.norm,
  St.mk
  [AV.sl zl (Ref.mk (0) (0) (0) (0)) false (List.length l) Cap.any, AV.junk, AV.junk,
  AV.int IntKind.i64 false (IntKind.wrap IntKind.i64 (sumI (List.take i l) + List.getD l (Int.toNat (i : Int) * 1 + 0 + 0) (0 : Int))),
  AV.int IntKind.i64 false (IntKind.wrap IntKind.i64 ((i : Int) + (1 : Int))), AV.junk, AV.junk, AV.junk, AV.junk, AV.junk, AV.junk, AV.junk, AV.junk, AV.junk, AV.junk, AV.junk, AV.junk, AV.junk, AV.junk, AV.junk,
  AV.junk, AV.junk, AV.junk, AV.junk, AV.junk, AV.junk, AV.junk, AV.junk, AV.junk, AV.junk, AV.junk, AV.junk]
  [some (Blk.mk (3) false false true (Data.ints IntKind.i64 l))]))
  Tree.fail)
  Tree.fail))
  Tree.fail)
  Tree.fail))
  Tree.fail)
  Tree.fail)
  (Tree.ret
  (Ex.exit (0),
  St.mk
  [AV.junk, AV.junk, AV.junk, AV.int IntKind.i64 false (sumI (List.take i l)), AV.junk, AV.junk, AV.junk, AV.junk, AV.junk, AV.junk, AV.junk, AV.junk, AV.junk, AV.junk, AV.junk, AV.junk, AV.junk, AV.junk, AV.junk, AV.junk,
  AV.junk, AV.junk, AV.junk, AV.junk, AV.junk, AV.junk, AV.junk, AV.junk, AV.junk, AV.junk, AV.junk, AV.junk]
  [some (Blk.mk (3) false false true (Data.ints IntKind.i64 l))])) := by kernel_rfl
set_option maxRecDepth 100000 in
theorem steprsize_0 (zl : Bool) (l : List Int) (i : Nat) (ex : Ex) (r : St) (hok : okrsize_0 ⟨zl, l, i⟩) (hr : (outrsize_0 ⟨zl, l, i⟩).runs (ex, r)) : (Tree.br (decide ((i : Int) < ((List.length l) : Int)))
  (Tree.br (!zl && decide ((0 : Int) ≤ (i : Int) ∧ (i : Int) < ((List.length l) : Int)))
  (Tree.br (decide (Int.toNat (i : Int) * 1 + 0 + 1 ≤ List.length l))
  (Tree.br (decide (List.getD l (Int.toNat (i : Int) * 1 + 0 + 0) (0 : Int) < (1 : Int)))
  (Tree.ret
  (Ex.ret,
  St.mk
  [AV.junk, AV.junk, AV.int IntKind.i64 true (0 : Int), AV.junk, AV.junk, AV.junk, AV.junk, AV.junk, AV.junk, AV.junk, AV.junk, AV.junk, AV.junk, AV.junk, AV.junk, AV.junk, AV.junk, AV.junk, AV.junk, AV.junk, AV.junk, AV.junk,
  AV.junk, AV.junk, AV.junk, AV.junk, AV.junk, AV.junk, AV.junk, AV.junk, AV.junk, AV.junk]
  [some (Blk.mk (3) false false true (Data.ints IntKind.i64 l))]))
  (Tree.br (!zl && decide ((0 : Int) ≤ (i : Int) ∧ (i : Int) < ((List.length l) : Int)))
  (Tree.br (decide (Int.toNat (i : Int) * 1 + 0 + 1 ≤ List.length l))
  (Tree.br (decide (List.getD l (Int.toNat (i : Int) * 1 + 0 + 0) (0 : Int) > (16 : Int)))
  (Tree.ret
  (Ex.ret,
  St.mk
  [AV.junk, AV.junk, AV.int IntKind.i64 true (0 : Int), AV.junk, AV.junk, AV.junk, AV.junk, AV.junk, AV.junk, AV.junk, AV.junk, AV.junk, AV.junk, AV.junk, AV.junk, AV.junk, AV.junk, AV.junk, AV.junk, AV.junk, AV.junk,
  AV.junk, AV.junk, AV.junk, AV.junk, AV.junk, AV.junk, AV.junk, AV.junk, AV.junk, AV.junk, AV.junk]
  [some (Blk.mk (3) false false true (Data.ints IntKind.i64 l))]))
  (Tree.br (!zl && decide ((0 : Int) ≤ (i : Int) ∧ (i : Int) < ((List.length l) : Int)))
  (Tree.br (decide (Int.toNat (i : Int) * 1 + 0 + 1 ≤ List.length l))
  (Tree.ret
  (Ex.norm,
  St.mk
  [AV.sl zl (Ref.mk (0) (0) (0) (0)) false (List.length l) Cap.any, AV.junk, AV.junk,
  AV.int IntKind.i64 false (IntKind.wrap IntKind.i64 (sumI (List.take i l) + List.getD l (Int.toNat (i : Int) * 1 + 0 + 0) (0 : Int))),
  AV.int IntKind.i64 false (IntKind.wrap IntKind.i64 ((i : Int) + (1 : Int))), AV.junk, AV.junk, AV.junk, AV.junk, AV.junk, AV.junk, AV.junk, AV.junk, AV.junk, AV.junk, AV.junk, AV.junk, AV.junk, AV.junk, AV.junk,
  AV.junk, AV.junk, AV.junk, AV.junk, AV.junk, AV.junk, AV.junk, AV.junk, AV.junk, AV.junk, AV.junk, AV.junk]
  [some (Blk.mk (3) false false true (Data.ints IntKind.i64 l))]))
  Tree.fail)
  Tree.fail))
  Tree.fail)
  Tree.fail))
  Tree.fail)
  Tree.fail)
  (Tree.ret
  (Ex.exit (0),
  St.mk
  [AV.junk, AV.junk, AV.junk, AV.int IntKind.i64 false (sumI (List.take i l)), AV.junk, AV.junk, AV.junk, AV.junk, AV.junk, AV.junk, AV.junk, AV.junk, AV.junk, AV.junk, AV.junk, AV.junk, AV.junk, AV.junk, AV.junk, AV.junk,
  AV.junk, AV.junk, AV.junk, AV.junk, AV.junk, AV.junk, AV.junk, AV.junk, AV.junk, AV.junk, AV.junk, AV.junk]
  [some (Blk.mk (3) false false true (Data.ints IntKind.i64 l))])) : Tree (Ex × St)).Sat (Post hdrsize_0 resrsize_0 mursize_0 ⟨zl, l, i⟩ ex r) := by
  simp only [okrsize_0, outrsize_0, Tree.runs] at hok hr
  obtain ⟨hs, hz, hi, ha⟩ := hok
  have hsum := sum_take ha
  have hsum2 : (0 : Int) ≤ sumI (l.take i) ∧ sumI (l.take i) ≤ 16 * (i : Int) := ⟨hsum.1, by have := hsum.2; rw [List.length_take] at this; omega⟩
  refine Tree.Sat.br (fun h1 => ?_) (fun h1 => ?_)
  · (try simp only [decide_eq_true_eq, decide_eq_false_iff_not, Bool.not_eq_true', Bool.not_eq_false', beq_iff_eq, beq_eq_false_iff_ne, Int.not_lt, Int.not_le, ge_iff_le, gt_iff_lt, ne_eq, Bool.false_eq_true, Bool.true_eq_false, not_true_eq_false, not_false_eq_true, Bool.and_eq_true, Bool.not_eq_eq_eq_not, Bool.not_true, Bool.not_false, bne_iff_ne, bne_eq_false_iff_eq, Int.toNat_natCast, Nat.mul_one, Nat.add_zero, Nat.zero_add, List.take_length, List.drop_zero] at h1)
    all_goals
      refine Tree.Sat.br (fun h2 => ?_) (fun h2 => ?_)
      · (try simp only [decide_eq_true_eq, decide_eq_false_iff_not, Bool.not_eq_true', Bool.not_eq_false', beq_iff_eq, beq_eq_false_iff_ne, Int.not_lt, Int.not_le, ge_iff_le, gt_iff_lt, ne_eq, Bool.false_eq_true, Bool.true_eq_false, not_true_eq_false, not_false_eq_true, Bool.and_eq_true, Bool.not_eq_eq_eq_not, Bool.not_true, Bool.not_false, bne_iff_ne, bne_eq_false_iff_eq, Int.toNat_natCast, Nat.mul_one, Nat.add_zero, Nat.zero_add, List.take_length, List.drop_zero] at h2)
        all_goals
          refine Tree.Sat.br (fun h3 => ?_) (fun h3 => ?_)
          · (try simp only [decide_eq_true_eq, decide_eq_false_iff_not, Bool.not_eq_true', Bool.not_eq_false', beq_iff_eq, beq_eq_false_iff_ne, Int.not_lt, Int.not_le, ge_iff_le, gt_iff_lt, ne_eq, Bool.false_eq_true, Bool.true_eq_false, not_true_eq_false, not_false_eq_true, Bool.and_eq_true, Bool.not_eq_eq_eq_not, Bool.not_true, Bool.not_false, bne_iff_ne, bne_eq_false_iff_eq, Int.toNat_natCast, Nat.mul_one, Nat.add_zero, Nat.zero_add, List.take_length, List.drop_zero] at h3)
            all_goals
              refine Tree.Sat.br (fun h4 => ?_) (fun h4 => ?_)
              · (try simp only [decide_eq_true_eq, decide_eq_false_iff_not, Bool.not_eq_true', Bool.not_eq_false', beq_iff_eq, beq_eq_false_iff_ne, Int.not_lt, Int.not_le, ge_iff_le, gt_iff_lt, ne_eq, Bool.false_eq_true, Bool.true_eq_false, not_true_eq_false, not_false_eq_true, Bool.and_eq_true, Bool.not_eq_eq_eq_not, Bool.not_true, Bool.not_false, bne_iff_ne, bne_eq_false_iff_eq, Int.toNat_natCast, Nat.mul_one, Nat.add_zero, Nat.zero_add, List.take_length, List.drop_zero] at h4)
                all_goals
                  refine Tree.Sat.ret ?_
                  first
                    | (
                      have hq := hr.1 (any_hit (i := i) (by omega) (by simp only [badV, Bool.or_eq_true, decide_eq_true_eq]; omega))
                      simp only [Prod.mk.injEq] at hq
                      obtain ⟨rfl, rfl⟩ := hq
                      refine .ret rfl ?_
                      constructor <;> simp only [AV.leL, AV.le, Mem.le, Mem.leP, Blk.le, Blk.pad, Data.le, Data.size, Cap.le, and_true, true_and, and_self, true_implies, implies_true, imp_self, List.length_nil] <;> (repeat' with_reducible refine And.intro ?_ ?_) <;> (try simp only [Int.toNat_natCast, Nat.mul_one, Nat.add_zero, Nat.zero_add]) <;> done)
                    | (
                      have hq := hr.2 (by rw [List.take_of_length_le (by omega)] at ha; exact ha)
                      simp only [Prod.mk.injEq] at hq
                      obtain ⟨rfl, rfl⟩ := hq
                      refine .exit rfl ?_
                      constructor <;> simp only [AV.leL, AV.le, Mem.le, Mem.leP, Blk.le, Blk.pad, Data.le, Data.size, Cap.le, and_true, true_and, and_self, true_implies, implies_true, imp_self, List.length_nil] <;> (repeat' with_reducible refine And.intro ?_ ?_) <;> (try simp only [Int.toNat_natCast, Nat.mul_one, Nat.add_zero, Nat.zero_add]) <;> rw [List.take_of_length_le (by omega)])
              · (try simp only [decide_eq_true_eq, decide_eq_false_iff_not, Bool.not_eq_true', Bool.not_eq_false', beq_iff_eq, beq_eq_false_iff_ne, Int.not_lt, Int.not_le, ge_iff_le, gt_iff_lt, ne_eq, Bool.false_eq_true, Bool.true_eq_false, not_true_eq_false, not_false_eq_true, Bool.and_eq_true, Bool.not_eq_eq_eq_not, Bool.not_true, Bool.not_false, bne_iff_ne, bne_eq_false_iff_eq, Int.toNat_natCast, Nat.mul_one, Nat.add_zero, Nat.zero_add, List.take_length, List.drop_zero] at h4)
                all_goals
                  refine Tree.Sat.br (fun h5 => ?_) (fun h5 => ?_)
                  · (try simp only [decide_eq_true_eq, decide_eq_false_iff_not, Bool.not_eq_true', Bool.not_eq_false', beq_iff_eq, beq_eq_false_iff_ne, Int.not_lt, Int.not_le, ge_iff_le, gt_iff_lt, ne_eq, Bool.false_eq_true, Bool.true_eq_false, not_true_eq_false, not_false_eq_true, Bool.and_eq_true, Bool.not_eq_eq_eq_not, Bool.not_true, Bool.not_false, bne_iff_ne, bne_eq_false_iff_eq, Int.toNat_natCast, Nat.mul_one, Nat.add_zero, Nat.zero_add, List.take_length, List.drop_zero] at h5)
                    all_goals
                      refine Tree.Sat.br (fun h6 => ?_) (fun h6 => ?_)
                      · (try simp only [decide_eq_true_eq, decide_eq_false_iff_not, Bool.not_eq_true', Bool.not_eq_false', beq_iff_eq, beq_eq_false_iff_ne, Int.not_lt, Int.not_le, ge_iff_le, gt_iff_lt, ne_eq, Bool.false_eq_true, Bool.true_eq_false, not_true_eq_false, not_false_eq_true, Bool.and_eq_true, Bool.not_eq_eq_eq_not, Bool.not_true, Bool.not_false, bne_iff_ne, bne_eq_false_iff_eq, Int.toNat_natCast, Nat.mul_one, Nat.add_zero, Nat.zero_add, List.take_length, List.drop_zero] at h6)
                        all_goals
                          refine Tree.Sat.br (fun h7 => ?_) (fun h7 => ?_)
                          · (try simp only [decide_eq_true_eq, decide_eq_false_iff_not, Bool.not_eq_true', Bool.not_eq_false', beq_iff_eq, beq_eq_false_iff_ne, Int.not_lt, Int.not_le, ge_iff_le, gt_iff_lt, ne_eq, Bool.false_eq_true, Bool.true_eq_false, not_true_eq_false, not_false_eq_true, Bool.and_eq_true, Bool.not_eq_eq_eq_not, Bool.not_true, Bool.not_false, bne_iff_ne, bne_eq_false_iff_eq, Int.toNat_natCast, Nat.mul_one, Nat.add_zero, Nat.zero_add, List.take_length, List.drop_zero] at h7)
                            all_goals
                              refine Tree.Sat.ret ?_
                              first
                                | (
                                  have hq := hr.1 (any_hit (i := i) (by omega) (by simp only [badV, Bool.or_eq_true, decide_eq_true_eq]; omega))
                                  simp only [Prod.mk.injEq] at hq
                                  obtain ⟨rfl, rfl⟩ := hq
                                  refine .ret rfl ?_
                                  constructor <;> simp only [AV.leL, AV.le, Mem.le, Mem.leP, Blk.le, Blk.pad, Data.le, Data.size, Cap.le, and_true, true_and, and_self, true_implies, implies_true, imp_self, List.length_nil] <;> (repeat' with_reducible refine And.intro ?_ ?_) <;> (try simp only [Int.toNat_natCast, Nat.mul_one, Nat.add_zero, Nat.zero_add]) <;> done)
                                | (
                                  have hq := hr.2 (by rw [List.take_of_length_le (by omega)] at ha; exact ha)
                                  simp only [Prod.mk.injEq] at hq
                                  obtain ⟨rfl, rfl⟩ := hq
                                  refine .exit rfl ?_
                                  constructor <;> simp only [AV.leL, AV.le, Mem.le, Mem.leP, Blk.le, Blk.pad, Data.le, Data.size, Cap.le, and_true, true_and, and_self, true_implies, implies_true, imp_self, List.length_nil] <;> (repeat' with_reducible refine And.intro ?_ ?_) <;> (try simp only [Int.toNat_natCast, Nat.mul_one, Nat.add_zero, Nat.zero_add]) <;> rw [List.take_of_length_le (by omega)])
                          · (try simp only [decide_eq_true_eq, decide_eq_false_iff_not, Bool.not_eq_true', Bool.not_eq_false', beq_iff_eq, beq_eq_false_iff_ne, Int.not_lt, Int.not_le, ge_iff_le, gt_iff_lt, ne_eq, Bool.false_eq_true, Bool.true_eq_false, not_true_eq_false, not_false_eq_true, Bool.and_eq_true, Bool.not_eq_eq_eq_not, Bool.not_true, Bool.not_false, bne_iff_ne, bne_eq_false_iff_eq, Int.toNat_natCast, Nat.mul_one, Nat.add_zero, Nat.zero_add, List.take_length, List.drop_zero] at h7)
                            all_goals
                              refine Tree.Sat.br (fun h8 => ?_) (fun h8 => ?_)
                              · (try simp only [decide_eq_true_eq, decide_eq_false_iff_not, Bool.not_eq_true', Bool.not_eq_false', beq_iff_eq, beq_eq_false_iff_ne, Int.not_lt, Int.not_le, ge_iff_le, gt_iff_lt, ne_eq, Bool.false_eq_true, Bool.true_eq_false, not_true_eq_false, not_false_eq_true, Bool.and_eq_true, Bool.not_eq_eq_eq_not, Bool.not_true, Bool.not_false, bne_iff_ne, bne_eq_false_iff_eq, Int.toNat_natCast, Nat.mul_one, Nat.add_zero, Nat.zero_add, List.take_length, List.drop_zero] at h8)
                                all_goals
                                  refine Tree.Sat.br (fun h9 => ?_) (fun h9 => ?_)
                                  · (try simp only [decide_eq_true_eq, decide_eq_false_iff_not, Bool.not_eq_true', Bool.not_eq_false', beq_iff_eq, beq_eq_false_iff_ne, Int.not_lt, Int.not_le, ge_iff_le, gt_iff_lt, ne_eq, Bool.false_eq_true, Bool.true_eq_false, not_true_eq_false, not_false_eq_true, Bool.and_eq_true, Bool.not_eq_eq_eq_not, Bool.not_true, Bool.not_false, bne_iff_ne, bne_eq_false_iff_eq, Int.toNat_natCast, Nat.mul_one, Nat.add_zero, Nat.zero_add, List.take_length, List.drop_zero] at h9)
                                    all_goals
                                      refine Tree.Sat.ret ?_
                                      refine .norm ⟨zl, l, i + 1⟩ ?_ ?_ ⟨?_, ?_⟩
                                      · constructor <;> simp only [hdrsize_0, AV.leL, AV.le, Mem.le, Mem.leP, Blk.le, Blk.pad, Data.le, Data.size, Cap.le, and_true, true_and, and_self, true_implies, implies_true, imp_self, List.length_nil] <;> (repeat' with_reducible refine And.intro ?_ ?_) <;> (try simp only [Int.toNat_natCast, Nat.mul_one, Nat.add_zero, Nat.zero_add]) <;> first | exact wadd1 (by omega) | exact sum_step (l := l) (i := i) (by omega) (by omega) (by omega)
                                      · simp only [mursize_0]; omega
                                      · exact ⟨hs, hz, by omega, any_take_succ (by omega) ha (by simp only [badV, Bool.or_eq_false_iff, decide_eq_false_iff_not]; omega)⟩
                                      · exact hr
                                  · (try simp only [decide_eq_true_eq, decide_eq_false_iff_not, Bool.not_eq_true', Bool.not_eq_false', beq_iff_eq, beq_eq_false_iff_ne, Int.not_lt, Int.not_le, ge_iff_le, gt_iff_lt, ne_eq, Bool.false_eq_true, Bool.true_eq_false, not_true_eq_false, not_false_eq_true, Bool.and_eq_true, Bool.not_eq_eq_eq_not, Bool.not_true, Bool.not_false, bne_iff_ne, bne_eq_false_iff_eq, Int.toNat_natCast, Nat.mul_one, Nat.add_zero, Nat.zero_add, List.take_length, List.drop_zero] at h9)
                                    all_goals
                                      exfalso
                                      first | omega | (simp only [w64] at *; omega) | (cases zl <;> simp_all; done) | (cases zl <;> simp_all <;> omega)
                              · (try simp only [decide_eq_true_eq, decide_eq_false_iff_not, Bool.not_eq_true', Bool.not_eq_false', beq_iff_eq, beq_eq_false_iff_ne, Int.not_lt, Int.not_le, ge_iff_le, gt_iff_lt, ne_eq, Bool.false_eq_true, Bool.true_eq_false, not_true_eq_false, not_false_eq_true, Bool.and_eq_true, Bool.not_eq_eq_eq_not, Bool.not_true, Bool.not_false, bne_iff_ne, bne_eq_false_iff_eq, Int.toNat_natCast, Nat.mul_one, Nat.add_zero, Nat.zero_add, List.take_length, List.drop_zero] at h8)
                                all_goals
                                  exfalso
                                  first | omega | (simp only [w64] at *; omega) | (cases zl <;> simp_all; done) | (cases zl <;> simp_all <;> omega)
                      · (try simp only [decide_eq_true_eq, decide_eq_false_iff_not, Bool.not_eq_true', Bool.not_eq_false', beq_iff_eq, beq_eq_false_iff_ne, Int.not_lt, Int.not_le, ge_iff_le, gt_iff_lt, ne_eq, Bool.false_eq_true, Bool.true_eq_false, not_true_eq_false, not_false_eq_true, Bool.and_eq_true, Bool.not_eq_eq_eq_not, Bool.not_true, Bool.not_false, bne_iff_ne, bne_eq_false_iff_eq, Int.toNat_natCast, Nat.mul_one, Nat.add_zero, Nat.zero_add, List.take_length, List.drop_zero] at h6)
                        all_goals
                          exfalso
                          first | omega | (simp only [w64] at *; omega) | (cases zl <;> simp_all; done) | (cases zl <;> simp_all <;> omega)
                  · (try simp only [decide_eq_true_eq, decide_eq_false_iff_not, Bool.not_eq_true', Bool.not_eq_false', beq_iff_eq, beq_eq_false_iff_ne, Int.not_lt, Int.not_le, ge_iff_le, gt_iff_lt, ne_eq, Bool.false_eq_true, Bool.true_eq_false, not_true_eq_false, not_false_eq_true, Bool.and_eq_true, Bool.not_eq_eq_eq_not, Bool.not_true, Bool.not_false, bne_iff_ne, bne_eq_false_iff_eq, Int.toNat_natCast, Nat.mul_one, Nat.add_zero, Nat.zero_add, List.take_length, List.drop_zero] at h5)
                    all_goals
                      exfalso
                      first | omega | (simp only [w64] at *; omega) | (cases zl <;> simp_all; done) | (cases zl <;> simp_all <;> omega)
          · (try simp only [decide_eq_true_eq, decide_eq_false_iff_not, Bool.not_eq_true', Bool.not_eq_false', beq_iff_eq, beq_eq_false_iff_ne, Int.not_lt, Int.not_le, ge_iff_le, gt_iff_lt, ne_eq, Bool.false_eq_true, Bool.true_eq_false, not_true_eq_false, not_false_eq_true, Bool.and_eq_true, Bool.not_eq_eq_eq_not, Bool.not_true, Bool.not_false, bne_iff_ne, bne_eq_false_iff_eq, Int.toNat_natCast, Nat.mul_one, Nat.add_zero, Nat.zero_add, List.take_length, List.drop_zero] at h3)
            all_goals
              exfalso
              first | omega | (simp only [w64] at *; omega) | (cases zl <;> simp_all; done) | (cases zl <;> simp_all <;> omega)
      · (try simp only [decide_eq_true_eq, decide_eq_false_iff_not, Bool.not_eq_true', Bool.not_eq_false', beq_iff_eq, beq_eq_false_iff_ne, Int.not_lt, Int.not_le, ge_iff_le, gt_iff_lt, ne_eq, Bool.false_eq_true, Bool.true_eq_false, not_true_eq_false, not_false_eq_true, Bool.and_eq_true, Bool.not_eq_eq_eq_not, Bool.not_true, Bool.not_false, bne_iff_ne, bne_eq_false_iff_eq, Int.toNat_natCast, Nat.mul_one, Nat.add_zero, Nat.zero_add, List.take_length, List.drop_zero] at h2)
        all_goals
          exfalso
          first | omega | (simp only [w64] at *; omega) | (cases zl <;> simp_all; done) | (cases zl <;> simp_all <;> omega)
  · (try simp only [decide_eq_true_eq, decide_eq_false_iff_not, Bool.not_eq_true', Bool.not_eq_false', beq_iff_eq, beq_eq_false_iff_ne, Int.not_lt, Int.not_le, ge_iff_le, gt_iff_lt, ne_eq, Bool.false_eq_true, Bool.true_eq_false, not_true_eq_false, not_false_eq_true, Bool.and_eq_true, Bool.not_eq_eq_eq_not, Bool.not_true, Bool.not_false, bne_iff_ne, bne_eq_false_iff_eq, Int.toNat_natCast, Nat.mul_one, Nat.add_zero, Nat.zero_add, List.take_length, List.drop_zero] at h1)
    all_goals
      refine Tree.Sat.ret ?_
      first
        | (
          have hq := hr.1 (any_hit (i := i) (by omega) (by simp only [badV, Bool.or_eq_true, decide_eq_true_eq]; omega))
          simp only [Prod.mk.injEq] at hq
          obtain ⟨rfl, rfl⟩ := hq
          refine .ret rfl ?_
          constructor <;> simp only [AV.leL, AV.le, Mem.le, Mem.leP, Blk.le, Blk.pad, Data.le, Data.size, Cap.le, and_true, true_and, and_self, true_implies, implies_true, imp_self, List.length_nil] <;> (repeat' with_reducible refine And.intro ?_ ?_) <;> (try simp only [Int.toNat_natCast, Nat.mul_one, Nat.add_zero, Nat.zero_add]) <;> done)
        | (
          have hq := hr.2 (by rw [List.take_of_length_le (by omega)] at ha; exact ha)
          simp only [Prod.mk.injEq] at hq
          obtain ⟨rfl, rfl⟩ := hq
          refine .exit rfl ?_
          constructor <;> simp only [AV.leL, AV.le, Mem.le, Mem.leP, Blk.le, Blk.pad, Data.le, Data.size, Cap.le, and_true, true_and, and_self, true_implies, implies_true, imp_self, List.length_nil] <;> (repeat' with_reducible refine And.intro ?_ ?_) <;> (try simp only [Int.toNat_natCast, Nat.mul_one, Nat.add_zero, Nat.zero_add]) <;> rw [List.take_of_length_le (by omega)])
set_option maxHeartbeats 2000000 in
set_option maxRecDepth 100000 in
theorem looprsize_0 (hall : AllOk Try.prog 0 (fun _ => none) tab16) : LoopOk (mkL Try.prog 0 (fun _ => none) tab16 rowsrsize) 24 1 (bodyAt Try.prog 24 0) := by
  have hkey : Code.key (bodyAt Try.prog 24 0) = 3 := by kernel_rfl
  have hin : loopsIn (bodyAt Try.prog 24 0) = [] := by kernel_rfl
  have hrow : lookL rowsrsize 24 (Code.key (bodyAt Try.prog 24 0)) = some rowrsize_0 := by rw [hkey]; rfl
  refine loop_rowP (X := Xrsize_0) (row := rowrsize_0) hall mix hrow (fun b hb _ => by rw [hin] at hb; cases hb) Ursize_0 hdrsize_0 resrsize_0 mursize_0 (fun st ex r h => ?_) (fun x ex r hr => ?_)
  · have h' : (ansrsize_0 st).runs (ex, r) := h
    unfold ansrsize_0 at h'
    split at h'
    · obtain ⟨q1, q2⟩ := Tree.chk_runs h'
      exact ⟨_, q1, q2⟩
    · exact h'.elim
  · obtain ⟨zl, l, i⟩ := x
    have := steprsize_0 zl l i ex r hr.1 hr.2
    rw [← tLrsize_0] at this
    (try rw [show rowrsize_0.tidy = Trsize_0 from rfl])
    exact this
theorem loopsrsize (hall : AllOk Try.prog 0 (fun _ => none) tab16) : ∀ i, i < (loopsAt Try.prog 24).length → LoopOk (mkL Try.prog 0 (fun _ => none) tab16 rowsrsize) 24 1 (bodyAt Try.prog 24 i) := by
  intro i hi
  have hlen : (loopsAt Try.prog 24).length = 1 := by kernel_rfl
  rw [hlen] at hi
  obtain rfl : i = 0 := by omega
  · exact looprsize_0 hall
set_option maxRecDepth 100000 in
theorem trsize (zl : Bool) (l : List Int) : evBody (mkL Try.prog 0 (fun _ => none) tab16 rowsrsize) (evCall (mkC Try.prog 0 (fun _ => none) tab16) 50) 24 [.sl zl ⟨0, 0, 0, 0⟩ false l.length .any] [some ⟨3, false, false, true, .ints .i64 l⟩] =
  Tree.chk
  (St.le
  (St.mk
  [AV.sl zl (Ref.mk (0) (0) (0) (0)) false (List.length l) Cap.any, AV.junk, AV.junk, AV.int IntKind.i64 true (0 : Int), AV.int IntKind.i64 true (0 : Int), AV.junk, AV.junk, AV.junk, AV.junk,
  AV.junk, AV.junk, AV.junk, AV.junk, AV.junk, AV.junk, AV.junk, AV.junk, AV.junk, AV.junk, AV.junk, AV.junk, AV.junk, AV.junk, AV.junk, AV.junk, AV.junk, AV.junk, AV.junk, AV.junk, AV.junk, AV.junk, AV.junk]
  [some (Blk.mk (3) false false true (Data.ints IntKind.i64 l))])
  (St.mk
  [AV.sl zl (Ref.mk (0) (0) (0) (0)) false (List.length l) Cap.any, AV.junk, AV.junk, AV.int IntKind.i64 false (sumI (List.take (Int.toNat (0 : Int)) l)), AV.int IntKind.i64 false (0 : Int),
  AV.junk, AV.junk, AV.junk, AV.junk, AV.junk, AV.junk, AV.junk, AV.junk, AV.junk, AV.junk, AV.junk, AV.junk, AV.junk, AV.junk, AV.junk, AV.junk, AV.junk, AV.junk, AV.junk, AV.junk, AV.junk, AV.junk, AV.junk, AV.junk, AV.junk,
  AV.junk, AV.junk]
  [some (Blk.mk (3) false false true (Data.ints IntKind.i64 l))]))
  (Tree.chk (okrsize_0 (Xrsize_0.mk zl l (Int.toNat (0 : Int))))
  (Tree.br (List.any l badV) (Tree.ret (AV.int IntKind.i64 true (0 : Int), [some (Blk.mk (3) false false true (Data.ints IntKind.i64 l))]))
  (Tree.br true (Tree.ret (AV.int IntKind.i64 false (IntKind.wrap IntKind.i64 (Int.tdiv (IntKind.wrap IntKind.i64 (sumI l + (15 : Int))) (16 : Int))), [some (Blk.mk (3) false false true (Data.ints IntKind.i64 l))]))
  Tree.fail))) := by kernel_rfl
set_option maxRecDepth 100000 in
theorem grsize (zl : Bool) (l : List Int) (hw : l.length ≤ 1000000 ∧ (zl = true → l = [])) : (Tree.chk
  (St.le
  (St.mk
  [AV.sl zl (Ref.mk (0) (0) (0) (0)) false (List.length l) Cap.any, AV.junk, AV.junk, AV.int IntKind.i64 true (0 : Int), AV.int IntKind.i64 true (0 : Int), AV.junk, AV.junk, AV.junk, AV.junk,
  AV.junk, AV.junk, AV.junk, AV.junk, AV.junk, AV.junk, AV.junk, AV.junk, AV.junk, AV.junk, AV.junk, AV.junk, AV.junk, AV.junk, AV.junk, AV.junk, AV.junk, AV.junk, AV.junk, AV.junk, AV.junk, AV.junk, AV.junk]
  [some (Blk.mk (3) false false true (Data.ints IntKind.i64 l))])
  (St.mk
  [AV.sl zl (Ref.mk (0) (0) (0) (0)) false (List.length l) Cap.any, AV.junk, AV.junk, AV.int IntKind.i64 false (sumI (List.take (Int.toNat (0 : Int)) l)), AV.int IntKind.i64 false (0 : Int),
  AV.junk, AV.junk, AV.junk, AV.junk, AV.junk, AV.junk, AV.junk, AV.junk, AV.junk, AV.junk, AV.junk, AV.junk, AV.junk, AV.junk, AV.junk, AV.junk, AV.junk, AV.junk, AV.junk, AV.junk, AV.junk, AV.junk, AV.junk, AV.junk, AV.junk,
  AV.junk, AV.junk]
  [some (Blk.mk (3) false false true (Data.ints IntKind.i64 l))]))
  (Tree.chk (okrsize_0 (Xrsize_0.mk zl l (Int.toNat (0 : Int))))
  (Tree.br (List.any l badV) (Tree.ret (AV.int IntKind.i64 true (0 : Int), [some (Blk.mk (3) false false true (Data.ints IntKind.i64 l))]))
  (Tree.br true (Tree.ret (AV.int IntKind.i64 false (IntKind.wrap IntKind.i64 (Int.tdiv (IntKind.wrap IntKind.i64 (sumI l + (15 : Int))) (16 : Int))), [some (Blk.mk (3) false false true (Data.ints IntKind.i64 l))]))
  Tree.fail))) : Tree (AV × Mem)).GivesP (.int .i64 false (sizeZ l)) ([some ⟨3, false, false, true, .ints .i64 l⟩]) := by
  refine Tree.GivesP.chk (by first | (simp only [and_self]; done) | (constructor <;> simp only [hdrsize_0, Int.toNat_zero, Int.cast_ofNat_Int, AV.leL, AV.le, Mem.le, Mem.leP, Blk.le, Blk.pad, Data.le, Data.size, Cap.le, and_true, true_and, and_self, true_implies, implies_true, imp_self, List.length_nil] <;> (try simp only [List.take_zero]) <;> (try rfl))) ?_
  refine Tree.GivesP.chk (by first | (simp only [and_self]; done) | (exact ⟨hw.1, hw.2, Nat.zero_le _, rfl⟩)) ?_
  refine Tree.GivesP.br (fun h1 => ?_) (fun h1 => ?_)
  · (try simp only [decide_eq_true_eq, decide_eq_false_iff_not, Bool.not_eq_true', Bool.not_eq_false', beq_iff_eq, beq_eq_false_iff_ne, Int.not_lt, Int.not_le, ge_iff_le, gt_iff_lt, ne_eq, Bool.false_eq_true, Bool.true_eq_false, not_true_eq_false, not_false_eq_true, Bool.and_eq_true, Bool.not_eq_eq_eq_not, Bool.not_true, Bool.not_false, bne_iff_ne, bne_eq_false_iff_eq, Int.toNat_natCast, Nat.mul_one, Nat.add_zero, Nat.zero_add, List.take_length, List.drop_zero] at h1)
    all_goals
      refine Tree.GivesP.ret ?_ ?_
      · simp only [AV.le, sizeZ, true_and, h1, if_true]
      · simp only [AV.leL, AV.le, Mem.le, Mem.leP, Blk.le, Blk.pad, Data.le, Data.size, Cap.le, and_true, true_and, and_self, true_implies, implies_true, imp_self, List.length_nil]
  · (try simp only [decide_eq_true_eq, decide_eq_false_iff_not, Bool.not_eq_true', Bool.not_eq_false', beq_iff_eq, beq_eq_false_iff_ne, Int.not_lt, Int.not_le, ge_iff_le, gt_iff_lt, ne_eq, Bool.false_eq_true, Bool.true_eq_false, not_true_eq_false, not_false_eq_true, Bool.and_eq_true, Bool.not_eq_eq_eq_not, Bool.not_true, Bool.not_false, bne_iff_ne, bne_eq_false_iff_eq, Int.toNat_natCast, Nat.mul_one, Nat.add_zero, Nat.zero_add, List.take_length, List.drop_zero] at h1)
    all_goals
      refine Tree.GivesP.br (fun h2 => ?_) (fun h2 => ?_)
      · (try simp only [decide_eq_true_eq, decide_eq_false_iff_not, Bool.not_eq_true', Bool.not_eq_false', beq_iff_eq, beq_eq_false_iff_ne, Int.not_lt, Int.not_le, ge_iff_le, gt_iff_lt, ne_eq, Bool.false_eq_true, Bool.true_eq_false, not_true_eq_false, not_false_eq_true, Bool.and_eq_true, Bool.not_eq_eq_eq_not, Bool.not_true, Bool.not_false, bne_iff_ne, bne_eq_false_iff_eq, Int.toNat_natCast, Nat.mul_one, Nat.add_zero, Nat.zero_add, List.take_length, List.drop_zero] at h2)
        all_goals
          refine Tree.GivesP.ret ?_ ?_
          · simp only [AV.le, sizeZ, true_and, h1, Bool.false_eq_true, if_false]; exact size_finR h1 hw.1
          · simp only [AV.leL, AV.le, Mem.le, Mem.leP, Blk.le, Blk.pad, Data.le, Data.size, Cap.le, and_true, true_and, and_self, true_implies, implies_true, imp_self, List.length_nil]
      · (try simp only [decide_eq_true_eq, decide_eq_false_iff_not, Bool.not_eq_true', Bool.not_eq_false', beq_iff_eq, beq_eq_false_iff_ne, Int.not_lt, Int.not_le, ge_iff_le, gt_iff_lt, ne_eq, Bool.false_eq_true, Bool.true_eq_false, not_true_eq_false, not_false_eq_true, Bool.and_eq_true, Bool.not_eq_eq_eq_not, Bool.not_true, Bool.not_false, bne_iff_ne, bne_eq_false_iff_eq, Int.toNat_natCast, Nat.mul_one, Nat.add_zero, Nat.zero_add, List.take_length, List.drop_zero] at h2)
        all_goals
          exfalso
          omega
theorem srsize (hall : AllOk Try.prog 0 (fun _ => none) tab16) (zl : Bool) (l : List Int) (hw : l.length ≤ 1000000 ∧ (zl = true → l = [])) : SoundAt (mkC Try.prog 0 (fun _ => none) []) 24 [.sl zl ⟨0, 0, 0, 0⟩ false l.length .any] [some ⟨3, false, false, true, .ints .i64 l⟩] (.int .i64 false (sizeZ l), [some ⟨3, false, false, true, .ints .i64 l⟩]) := sound_loopsP hall mix (loopsrsize hall) (trsize zl l) (grsize zl l hw)
theorem Frsize_ok (hall : AllOk Try.prog 0 (fun _ => none) tab16) : PureF Try.prog 3 24 Frsize := by
  intro xs c v news h hc
  unfold Frsize at h
  split at h
  · rename_i zl l
    cases h
    refine ⟨(by intro b hb; cases hb), SoundAt.flags (srsize hall zl l hc) ?_⟩
    simp [PA.avs, AV.le, AV.leL, Cap.le]
  · cases h
end Go.Proofs.Ytnkjblmlchbfkaa.Rig

/- Qpower -/
namespace Go.Proofs.Ytnkjblmlchbfkaa.Rig
open Go
set_option maxRecDepth 100000 in
theorem tLpower_0 (n : Int) (i : Nat) : tidied Tpower_0 Upower_0 0 (evCode (mkL Try.prog 0 (fun _ => none) tab17 rowspower) (evCall (mkC Try.prog 0 (fun _ => none) tab17) 50) 33 0 fuelC (bodyAt Try.prog 33 0) (hdpower_0 ⟨n, i⟩)) =
  Tree.br (decide ((i : Int) < n))
  (Tree.ret
  (Ex.norm,
  St.mk
  [AV.int IntKind.i64 false n, AV.junk, AV.junk, AV.int IntKind.i64 false (IntKind.wrap IntKind.i64 ((2 : Int) * (2 : Int) ^ i)), AV.int IntKind.i64 false (IntKind.wrap IntKind.i64 ((i : Int) + (1 : Int))), AV.junk, AV.junk,
  AV.junk, AV.junk, AV.junk, AV.junk, AV.junk, AV.junk]
  []))
  (Tree.ret (Ex.exit (0), St.mk [AV.junk, AV.junk, AV.junk, AV.int IntKind.i64 false ((2 : Int) ^ i), AV.junk, AV.junk, AV.junk, AV.junk, AV.junk, AV.junk, AV.junk, AV.junk, AV.junk] [])) := by kernel_rfl
set_option maxRecDepth 100000 in
theorem steppower_0 (n : Int) (i : Nat) (ex : Ex) (r : St) (hok : okpower_0 ⟨n, i⟩) (hr : (outpower_0 ⟨n, i⟩).runs (ex, r)) : (Tree.br (decide ((i : Int) < n))
  (Tree.ret
  (Ex.norm,
  St.mk
  [AV.int IntKind.i64 false n, AV.junk, AV.junk, AV.int IntKind.i64 false (IntKind.wrap IntKind.i64 ((2 : Int) * (2 : Int) ^ i)), AV.int IntKind.i64 false (IntKind.wrap IntKind.i64 ((i : Int) + (1 : Int))), AV.junk, AV.junk,
  AV.junk, AV.junk, AV.junk, AV.junk, AV.junk, AV.junk]
  []))
  (Tree.ret (Ex.exit (0), St.mk [AV.junk, AV.junk, AV.junk, AV.int IntKind.i64 false ((2 : Int) ^ i), AV.junk, AV.junk, AV.junk, AV.junk, AV.junk, AV.junk, AV.junk, AV.junk, AV.junk] [])) : Tree (Ex × St)).Sat (Post hdpower_0 respower_0 mupower_0 ⟨n, i⟩ ex r) := by
  simp only [okpower_0, outpower_0, Tree.runs] at hok hr
  obtain ⟨h62, hi⟩ := hok
  refine Tree.Sat.br (fun h1 => ?_) (fun h1 => ?_)
  · (try simp only [decide_eq_true_eq, decide_eq_false_iff_not, Bool.not_eq_true', Bool.not_eq_false', beq_iff_eq, beq_eq_false_iff_ne, Int.not_lt, Int.not_le, ge_iff_le, gt_iff_lt, ne_eq, Bool.false_eq_true, Bool.true_eq_false, not_true_eq_false, not_false_eq_true, Bool.and_eq_true, Bool.not_eq_eq_eq_not, Bool.not_true, Bool.not_false, bne_iff_ne, bne_eq_false_iff_eq, Int.toNat_natCast, Nat.mul_one, Nat.add_zero, Nat.zero_add, List.take_length, List.drop_zero] at h1)
    all_goals
      refine Tree.Sat.ret ?_
      refine .norm ⟨n, i + 1⟩ ?_ ?_ ⟨?_, ?_⟩
      · constructor <;> simp only [hdpower_0, AV.leL, AV.le, Mem.le, Mem.leP, Blk.le, Blk.pad, Data.le, Data.size, Cap.le, and_true, true_and, and_self, true_implies, implies_true, imp_self, List.length_nil] <;> (repeat' with_reducible refine And.intro ?_ ?_) <;> (try simp only [Int.toNat_natCast, Nat.mul_one, Nat.add_zero, Nat.zero_add]) <;> first | exact wadd1 (by omega) | exact power_step (i := i) (by omega)
      · simp only [mupower_0]; omega
      · exact ⟨h62, by omega⟩
      · exact hr
  · (try simp only [decide_eq_true_eq, decide_eq_false_iff_not, Bool.not_eq_true', Bool.not_eq_false', beq_iff_eq, beq_eq_false_iff_ne, Int.not_lt, Int.not_le, ge_iff_le, gt_iff_lt, ne_eq, Bool.false_eq_true, Bool.true_eq_false, not_true_eq_false, not_false_eq_true, Bool.and_eq_true, Bool.not_eq_eq_eq_not, Bool.not_true, Bool.not_false, bne_iff_ne, bne_eq_false_iff_eq, Int.toNat_natCast, Nat.mul_one, Nat.add_zero, Nat.zero_add, List.take_length, List.drop_zero] at h1)
    all_goals
      refine Tree.Sat.ret ?_
      have hq := hr
      simp only [Prod.mk.injEq] at hq
      obtain ⟨rfl, rfl⟩ := hq
      refine .exit rfl ?_
      constructor <;> simp only [AV.leL, AV.le, Mem.le, Mem.leP, Blk.le, Blk.pad, Data.le, Data.size, Cap.le, and_true, true_and, and_self, true_implies, implies_true, imp_self, List.length_nil] <;> (repeat' with_reducible refine And.intro ?_ ?_) <;> (try simp only [Int.toNat_natCast, Nat.mul_one, Nat.add_zero, Nat.zero_add]) <;> rw [show i = n.toNat by omega]
set_option maxHeartbeats 2000000 in
set_option maxRecDepth 100000 in
theorem looppower_0 (hall : AllOk Try.prog 0 (fun _ => none) tab17) : LoopOk (mkL Try.prog 0 (fun _ => none) tab17 rowspower) 33 0 (bodyAt Try.prog 33 0) := by
  have hkey : Code.key (bodyAt Try.prog 33 0) = 3 := by kernel_rfl
  have hin : loopsIn (bodyAt Try.prog 33 0) = [] := by kernel_rfl
  have hrow : lookL rowspower 33 (Code.key (bodyAt Try.prog 33 0)) = some rowpower_0 := by rw [hkey]; rfl
  refine loop_rowP (X := Xpower_0) (row := rowpower_0) hall mix hrow (fun b hb _ => by rw [hin] at hb; cases hb) Upower_0 hdpower_0 respower_0 mupower_0 (fun st ex r h => ?_) (fun x ex r hr => ?_)
  · have h' : (anspower_0 st).runs (ex, r) := h
    unfold anspower_0 at h'
    split at h'
    · obtain ⟨q1, q2⟩ := Tree.chk_runs h'
      exact ⟨_, q1, q2⟩
    · exact h'.elim
  · obtain ⟨n, i⟩ := x
    have := steppower_0 n i ex r hr.1 hr.2
    rw [← tLpower_0] at this
    (try rw [show rowpower_0.tidy = Tpower_0 from rfl])
    exact this
theorem loopspower (hall : AllOk Try.prog 0 (fun _ => none) tab17) : ∀ i, i < (loopsAt Try.prog 33).length → LoopOk (mkL Try.prog 0 (fun _ => none) tab17 rowspower) 33 0 (bodyAt Try.prog 33 i) := by
  intro i hi
  have hlen : (loopsAt Try.prog 33).length = 1 := by kernel_rfl
  rw [hlen] at hi
  obtain rfl : i = 0 := by omega
  · exact looppower_0 hall
set_option maxRecDepth 100000 in
theorem tpower (n : Int) : evBody (mkL Try.prog 0 (fun _ => none) tab17 rowspower) (evCall (mkC Try.prog 0 (fun _ => none) tab17) 50) 33 [.int .i64 false n] [] =
  Tree.chk
  (St.le (St.mk [AV.int IntKind.i64 false n, AV.junk, AV.junk, AV.int IntKind.i64 true (1 : Int), AV.int IntKind.i64 true (0 : Int), AV.junk, AV.junk, AV.junk, AV.junk, AV.junk, AV.junk, AV.junk, AV.junk] [])
  (St.mk [AV.int IntKind.i64 false n, AV.junk, AV.junk, AV.int IntKind.i64 false (1 : Int), AV.int IntKind.i64 false (0 : Int), AV.junk, AV.junk, AV.junk, AV.junk, AV.junk, AV.junk, AV.junk, AV.junk] []))
  (Tree.chk (okpower_0 (Xpower_0.mk n (Int.toNat (0 : Int)))) (Tree.ret (AV.int IntKind.i64 false ((2 : Int) ^ Int.toNat n), []))) := by kernel_rfl
set_option maxRecDepth 100000 in
theorem gpower (n : Int) (hw : n ≤ 62) : (Tree.chk
  (St.le (St.mk [AV.int IntKind.i64 false n, AV.junk, AV.junk, AV.int IntKind.i64 true (1 : Int), AV.int IntKind.i64 true (0 : Int), AV.junk, AV.junk, AV.junk, AV.junk, AV.junk, AV.junk, AV.junk, AV.junk] [])
  (St.mk [AV.int IntKind.i64 false n, AV.junk, AV.junk, AV.int IntKind.i64 false (1 : Int), AV.int IntKind.i64 false (0 : Int), AV.junk, AV.junk, AV.junk, AV.junk, AV.junk, AV.junk, AV.junk, AV.junk] []))
  (Tree.chk (okpower_0 (Xpower_0.mk n (Int.toNat (0 : Int)))) (Tree.ret (AV.int IntKind.i64 false ((2 : Int) ^ Int.toNat n), []))) : Tree (AV × Mem)).GivesP (.int .i64 false ((2 : Int) ^ n.toNat)) ([]) := by
  refine Tree.GivesP.chk (by first | (simp only [and_self]; done) | (constructor <;> simp only [hdpower_0, Int.toNat_zero, Int.cast_ofNat_Int, AV.leL, AV.le, Mem.le, Mem.leP, Blk.le, Blk.pad, Data.le, Data.size, Cap.le, and_true, true_and, and_self, true_implies, implies_true, imp_self, List.length_nil] <;> (try simp only [List.take_zero]) <;> (try rfl))) ?_
  refine Tree.GivesP.chk (by first | (simp only [and_self]; done) | (exact ⟨hw, Nat.zero_le _⟩)) ?_
  refine Tree.GivesP.ret ?_ ?_
  · simp only [AV.le, AV.leL, and_true, true_and, and_self]
  · simp only [AV.leL, AV.le, Mem.le, Mem.leP, Blk.le, Blk.pad, Data.le, Data.size, Cap.le, and_true, true_and, and_self, true_implies, implies_true, imp_self, List.length_nil]
theorem spower (hall : AllOk Try.prog 0 (fun _ => none) tab17) (n : Int) (hw : n ≤ 62) : SoundAt (mkC Try.prog 0 (fun _ => none) []) 33 [.int .i64 false n] [] (.int .i64 false ((2 : Int) ^ n.toNat), []) := sound_loopsP hall mix (loopspower hall) (tpower n) (gpower n hw)
theorem Fpower_ok (hall : AllOk Try.prog 0 (fun _ => none) tab17) : PureF Try.prog 3 33 Fpower := by
  intro xs c v news h hc
  unfold Fpower at h
  split at h
  · rename_i _ n
    cases h
    refine ⟨(by intro b hb; cases hb), SoundAt.flags (spower hall n hc) ?_⟩
    simp [PA.avs, AV.le, AV.leL, Cap.le]
  · cases h
end Go.Proofs.Ytnkjblmlchbfkaa.Rig

/- Qrmay -/
namespace Go.Proofs.Ytnkjblmlchbfkaa.Rig
open Go
set_option maxRecDepth 100000 in
theorem tLrmay_0 (zl : Bool) (l : List Int) (i : Nat) : tidied Trmay_0 Urmay_0 1 (evCode (mkL Try.prog 0 (fun _ => none) tab18 rowsrmay) (evCall (mkC Try.prog 0 (fun _ => none) tab18) 50) 32 1 fuelC (bodyAt Try.prog 32 0) (hdrmay_0 ⟨zl, l, i⟩)) =
  Tree.br (decide ((i : Int) < ((List.length l) : Int)))
  (Tree.br (!zl && decide ((0 : Int) ≤ (i : Int) ∧ (i : Int) < ((List.length l) : Int)))
  (Tree.br (decide (Int.toNat (i : Int) * 1 + 0 + 1 ≤ List.length l))
  (Tree.br (decide (List.getD l (Int.toNat (i : Int) * 1 + 0 + 0) (0 : Int) < (1 : Int)))
  (Tree.ret
  (Ex.ret,
  St.mk
  [AV.junk, AV.junk, AV.int IntKind.i64 true (2 : Int), AV.junk, AV.junk, AV.junk, AV.junk, AV.junk, AV.junk, AV.junk, AV.junk, AV.junk, AV.junk, AV.junk, AV.junk, AV.junk, AV.junk, AV.junk, AV.junk, AV.junk, AV.junk, AV.junk,
  AV.junk, AV.junk, AV.junk]
  [some (Blk.mk (3) false false true (Data.ints IntKind.i64 l))]))
  (Tree.br (!zl && decide ((0 : Int) ≤ (i : Int) ∧ (i : Int) < ((List.length l) : Int)))
  (Tree.br (decide (Int.toNat (i : Int) * 1 + 0 + 1 ≤ List.length l))
  (Tree.br (decide (List.getD l (Int.toNat (i : Int) * 1 + 0 + 0) (0 : Int) > (16 : Int)))
  (Tree.ret
  (Ex.ret,
  St.mk
  [AV.junk, AV.junk, AV.int IntKind.i64 true (2 : Int), AV.junk, AV.junk, AV.junk, AV.junk, AV.junk, AV.junk, AV.junk, AV.junk, AV.junk, AV.junk, AV.junk, AV.junk, AV.junk, AV.junk, AV.junk, AV.junk, AV.junk, AV.junk,
  AV.junk, AV.junk, AV.junk, AV.junk]
  [some (Blk.mk (3) false false true (Data.ints IntKind.i64 l))]))
  (Tree.ret
  (Ex.norm,
  St.mk
  [AV.sl zl (Ref.mk (0) (0) (0) (0)) false (List.length l) Cap.any, AV.junk, AV.junk, AV.int IntKind.i64 false (IntKind.wrap IntKind.i64 ((i : Int) + (1 : Int))), AV.junk, AV.junk,
  AV.junk, AV.junk, AV.junk, AV.junk, AV.junk, AV.junk, AV.junk, AV.junk, AV.junk, AV.junk, AV.junk, AV.junk, AV.junk, AV.junk, AV.junk, AV.junk, AV.junk, AV.junk, AV.junk]
  [some (Blk.mk (3) false false true (Data.ints IntKind.i64 l))])))
  Tree.fail)
  Tree.fail))
  Tree.fail)
  Tree.fail)
  (Tree.ret
  (Ex.exit (0),
  St.mk [AV.junk, AV.junk, AV.junk, AV.junk, AV.junk, AV.junk, AV.junk, AV.junk, AV.junk, AV.junk, AV.junk, AV.junk, AV.junk, AV.junk, AV.junk, AV.junk, AV.junk, AV.junk, AV.junk, AV.junk, AV.junk, AV.junk, AV.junk, AV.junk, AV.junk]
  [some (Blk.mk (3) false false true (Data.ints IntKind.i64 l))])) := by kernel_rfl
set_option maxRecDepth 100000 in
theorem steprmay_0 (zl : Bool) (l : List Int) (i : Nat) (ex : Ex) (r : St) (hok : okrmay_0 ⟨zl, l, i⟩) (hr : (outrmay_0 ⟨zl, l, i⟩).runs (ex, r)) : (Tree.br (decide ((i : Int) < ((List.length l) : Int)))
  (Tree.br (!zl && decide ((0 : Int) ≤ (i : Int) ∧ (i : Int) < ((List.length l) : Int)))
  (Tree.br (decide (Int.toNat (i : Int) * 1 + 0 + 1 ≤ List.length l))
  (Tree.br (decide (List.getD l (Int.toNat (i : Int) * 1 + 0 + 0) (0 : Int) < (1 : Int)))
  (Tree.ret
  (Ex.ret,
  St.mk
  [AV.junk, AV.junk, AV.int IntKind.i64 true (2 : Int), AV.junk, AV.junk, AV.junk, AV.junk, AV.junk, AV.junk, AV.junk, AV.junk, AV.junk, AV.junk, AV.junk, AV.junk, AV.junk, AV.junk, AV.junk, AV.junk, AV.junk, AV.junk, AV.junk,
  AV.junk, AV.junk, AV.junk]
  [some (Blk.mk (3) false false true (Data.ints IntKind.i64 l))]))
  (Tree.br (!zl && decide ((0 : Int) ≤ (i : Int) ∧ (i : Int) < ((List.length l) : Int)))
  (Tree.br (decide (Int.toNat (i : Int) * 1 + 0 + 1 ≤ List.length l))
  (Tree.br (decide (List.getD l (Int.toNat (i : Int) * 1 + 0 + 0) (0 : Int) > (16 : Int)))
  (Tree.ret
  (Ex.ret,
  St.mk
  [AV.junk, AV.junk, AV.int IntKind.i64 true (2 : Int), AV.junk, AV.junk, AV.junk, AV.junk, AV.junk, AV.junk, AV.junk, AV.junk, AV.junk, AV.junk, AV.junk, AV.junk, AV.junk, AV.junk, AV.junk, AV.junk, AV.junk, AV.junk,
  AV.junk, AV.junk, AV.junk, AV.junk]
  [some (Blk.mk (3) false false true (Data.ints IntKind.i64 l))]))
  (Tree.ret
  (Ex.norm,
  St.mk
  [AV.sl zl (Ref.mk (0) (0) (0) (0)) false (List.length l) Cap.any, AV.junk, AV.junk, AV.int IntKind.i64 false (IntKind.wrap IntKind.i64 ((i : Int) + (1 : Int))), AV.junk, AV.junk,
  AV.junk, AV.junk, AV.junk, AV.junk, AV.junk, AV.junk, AV.junk, AV.junk, AV.junk, AV.junk, AV.junk, AV.junk, AV.junk, AV.junk, AV.junk, AV.junk, AV.junk, AV.junk, AV.junk]
  [some (Blk.mk (3) false false true (Data.ints IntKind.i64 l))])))
  Tree.fail)
  Tree.fail))
  Tree.fail)
  Tree.fail)
  (Tree.ret
  (Ex.exit (0),
  St.mk [AV.junk, AV.junk, AV.junk, AV.junk, AV.junk, AV.junk, AV.junk, AV.junk, AV.junk, AV.junk, AV.junk, AV.junk, AV.junk, AV.junk, AV.junk, AV.junk, AV.junk, AV.junk, AV.junk, AV.junk, AV.junk, AV.junk, AV.junk, AV.junk, AV.junk]
  [some (Blk.mk (3) false false true (Data.ints IntKind.i64 l))])) : Tree (Ex × St)).Sat (Post hdrmay_0 resrmay_0 murmay_0 ⟨zl, l, i⟩ ex r) := by
  simp only [okrmay_0, outrmay_0, Tree.runs] at hok hr
  obtain ⟨hs, hz, hi, ha⟩ := hok
  refine Tree.Sat.br (fun h1 => ?_) (fun h1 => ?_)
  · (try simp only [decide_eq_true_eq, decide_eq_false_iff_not, Bool.not_eq_true', Bool.not_eq_false', beq_iff_eq, beq_eq_false_iff_ne, Int.not_lt, Int.not_le, ge_iff_le, gt_iff_lt, ne_eq, Bool.false_eq_true, Bool.true_eq_false, not_true_eq_false, not_false_eq_true, Bool.and_eq_true, Bool.not_eq_eq_eq_not, Bool.not_true, Bool.not_false, bne_iff_ne, bne_eq_false_iff_eq, Int.toNat_natCast, Nat.mul_one, Nat.add_zero, Nat.zero_add, List.take_length, List.drop_zero] at h1)
    all_goals
      refine Tree.Sat.br (fun h2 => ?_) (fun h2 => ?_)
      · (try simp only [decide_eq_true_eq, decide_eq_false_iff_not, Bool.not_eq_true', Bool.not_eq_false', beq_iff_eq, beq_eq_false_iff_ne, Int.not_lt, Int.not_le, ge_iff_le, gt_iff_lt, ne_eq, Bool.false_eq_true, Bool.true_eq_false, not_true_eq_false, not_false_eq_true, Bool.and_eq_true, Bool.not_eq_eq_eq_not, Bool.not_true, Bool.not_false, bne_iff_ne, bne_eq_false_iff_eq, Int.toNat_natCast, Nat.mul_one, Nat.add_zero, Nat.zero_add, List.take_length, List.drop_zero] at h2)
        all_goals
          refine Tree.Sat.br (fun h3 => ?_) (fun h3 => ?_)
          · (try simp only [decide_eq_true_eq, decide_eq_false_iff_not, Bool.not_eq_true', Bool.not_eq_false', beq_iff_eq, beq_eq_false_iff_ne, Int.not_lt, Int.not_le, ge_iff_le, gt_iff_lt, ne_eq, Bool.false_eq_true, Bool.true_eq_false, not_true_eq_false, not_false_eq_true, Bool.and_eq_true, Bool.not_eq_eq_eq_not, Bool.not_true, Bool.not_false, bne_iff_ne, bne_eq_false_iff_eq, Int.toNat_natCast, Nat.mul_one, Nat.add_zero, Nat.zero_add, List.take_length, List.drop_zero] at h3)
            all_goals
              refine Tree.Sat.br (fun h4 => ?_) (fun h4 => ?_)
              · (try simp only [decide_eq_true_eq, decide_eq_false_iff_not, Bool.not_eq_true', Bool.not_eq_false', beq_iff_eq, beq_eq_false_iff_ne, Int.not_lt, Int.not_le, ge_iff_le, gt_iff_lt, ne_eq, Bool.false_eq_true, Bool.true_eq_false, not_true_eq_false, not_false_eq_true, Bool.and_eq_true, Bool.not_eq_eq_eq_not, Bool.not_true, Bool.not_false, bne_iff_ne, bne_eq_false_iff_eq, Int.toNat_natCast, Nat.mul_one, Nat.add_zero, Nat.zero_add, List.take_length, List.drop_zero] at h4)
                all_goals
                  refine Tree.Sat.ret ?_
                  first
                    | (
                      have hq := hr.1 (any_hit (i := i) (by omega) (by simp only [badV, Bool.or_eq_true, decide_eq_true_eq]; omega))
                      simp only [Prod.mk.injEq] at hq
                      obtain ⟨rfl, rfl⟩ := hq
                      refine .ret rfl ?_
                      constructor <;> simp only [AV.leL, AV.le, Mem.le, Mem.leP, Blk.le, Blk.pad, Data.le, Data.size, Cap.le, and_true, true_and, and_self, true_implies, implies_true, imp_self, List.length_nil] <;> (repeat' with_reducible refine And.intro ?_ ?_) <;> (try simp only [Int.toNat_natCast, Nat.mul_one, Nat.add_zero, Nat.zero_add]) <;> done)
                    | (
                      have hq := hr.2 (by rw [List.take_of_length_le (by omega)] at ha; exact ha)
                      simp only [Prod.mk.injEq] at hq
                      obtain ⟨rfl, rfl⟩ := hq
                      refine .exit rfl ?_
                      constructor <;> simp only [AV.leL, AV.le, Mem.le, Mem.leP, Blk.le, Blk.pad, Data.le, Data.size, Cap.le, and_true, true_and, and_self, true_implies, implies_true, imp_self, List.length_nil] <;> (repeat' with_reducible refine And.intro ?_ ?_) <;> (try simp only [Int.toNat_natCast, Nat.mul_one, Nat.add_zero, Nat.zero_add]) <;> done)
              · (try simp only [decide_eq_true_eq, decide_eq_false_iff_not, Bool.not_eq_true', Bool.not_eq_false', beq_iff_eq, beq_eq_false_iff_ne, Int.not_lt, Int.not_le, ge_iff_le, gt_iff_lt, ne_eq, Bool.false_eq_true, Bool.true_eq_false, not_true_eq_false, not_false_eq_true, Bool.and_eq_true, Bool.not_eq_eq_eq_not, Bool.not_true, Bool.not_false, bne_iff_ne, bne_eq_false_iff_eq, Int.toNat_natCast, Nat.mul_one, Nat.add_zero, Nat.zero_add, List.take_length, List.drop_zero] at h4)
                all_goals
                  refine Tree.Sat.br (fun h5 => ?_) (fun h5 => ?_)
                  · (try simp only [decide_eq_true_eq, decide_eq_false_iff_not, Bool.not_eq_true', Bool.not_eq_false', beq_iff_eq, beq_eq_false_iff_ne, Int.not_lt, Int.not_le, ge_iff_le, gt_iff_lt, ne_eq, Bool.false_eq_true, Bool.true_eq_false, not_true_eq_false, not_false_eq_true, Bool.and_eq_true, Bool.not_eq_eq_eq_not, Bool.not_true, Bool.not_false, bne_iff_ne, bne_eq_false_iff_eq, Int.toNat_natCast, Nat.mul_one, Nat.add_zero, Nat.zero_add, List.take_length, List.drop_zero] at h5)
                    all_goals
                      refine Tree.Sat.br (fun h6 => ?_) (fun h6 => ?_)
                      · (try simp only [decide_eq_true_eq, decide_eq_false_iff_not, Bool.not_eq_true', Bool.not_eq_false', beq_iff_eq, beq_eq_false_iff_ne, Int.not_lt, Int.not_le, ge_iff_le, gt_iff_lt, ne_eq, Bool.false_eq_true, Bool.true_eq_false, not_true_eq_false, not_false_eq_true, Bool.and_eq_true, Bool.not_eq_eq_eq_not, Bool.not_true, Bool.not_false, bne_iff_ne, bne_eq_false_iff_eq, Int.toNat_natCast, Nat.mul_one, Nat.add_zero, Nat.zero_add, List.take_length, List.drop_zero] at h6)
                        all_goals
                          refine Tree.Sat.br (fun h7 => ?_) (fun h7 => ?_)
                          · (try simp only [decide_eq_true_eq, decide_eq_false_iff_not, Bool.not_eq_true', Bool.not_eq_false', beq_iff_eq, beq_eq_false_iff_ne, Int.not_lt, Int.not_le, ge_iff_le, gt_iff_lt, ne_eq, Bool.false_eq_true, Bool.true_eq_false, not_true_eq_false, not_false_eq_true, Bool.and_eq_true, Bool.not_eq_eq_eq_not, Bool.not_true, Bool.not_false, bne_iff_ne, bne_eq_false_iff_eq, Int.toNat_natCast, Nat.mul_one, Nat.add_zero, Nat.zero_add, List.take_length, List.drop_zero] at h7)
                            all_goals
                              refine Tree.Sat.ret ?_
                              first
                                | (
                                  have hq := hr.1 (any_hit (i := i) (by omega) (by simp only [badV, Bool.or_eq_true, decide_eq_true_eq]; omega))
                                  simp only [Prod.mk.injEq] at hq
                                  obtain ⟨rfl, rfl⟩ := hq
                                  refine .ret rfl ?_
                                  constructor <;> simp only [AV.leL, AV.le, Mem.le, Mem.leP, Blk.le, Blk.pad, Data.le, Data.size, Cap.le, and_true, true_and, and_self, true_implies, implies_true, imp_self, List.length_nil] <;> (repeat' with_reducible refine And.intro ?_ ?_) <;> (try simp only [Int.toNat_natCast, Nat.mul_one, Nat.add_zero, Nat.zero_add]) <;> done)
                                | (
                                  have hq := hr.2 (by rw [List.take_of_length_le (by omega)] at ha; exact ha)
                                  simp only [Prod.mk.injEq] at hq
                                  obtain ⟨rfl, rfl⟩ := hq
                                  refine .exit rfl ?_
                                  constructor <;> simp only [AV.leL, AV.le, Mem.le, Mem.leP, Blk.le, Blk.pad, Data.le, Data.size, Cap.le, and_true, true_and, and_self, true_implies, implies_true, imp_self, List.length_nil] <;> (repeat' with_reducible refine And.intro ?_ ?_) <;> (try simp only [Int.toNat_natCast, Nat.mul_one, Nat.add_zero, Nat.zero_add]) <;> done)
                          · (try simp only [decide_eq_true_eq, decide_eq_false_iff_not, Bool.not_eq_true', Bool.not_eq_false', beq_iff_eq, beq_eq_false_iff_ne, Int.not_lt, Int.not_le, ge_iff_le, gt_iff_lt, ne_eq, Bool.false_eq_true, Bool.true_eq_false, not_true_eq_false, not_false_eq_true, Bool.and_eq_true, Bool.not_eq_eq_eq_not, Bool.not_true, Bool.not_false, bne_iff_ne, bne_eq_false_iff_eq, Int.toNat_natCast, Nat.mul_one, Nat.add_zero, Nat.zero_add, List.take_length, List.drop_zero] at h7)
                            all_goals
                              refine Tree.Sat.ret ?_
                              refine .norm ⟨zl, l, i + 1⟩ ?_ ?_ ⟨?_, ?_⟩
                              · constructor <;> simp only [hdrmay_0, AV.leL, AV.le, Mem.le, Mem.leP, Blk.le, Blk.pad, Data.le, Data.size, Cap.le, and_true, true_and, and_self, true_implies, implies_true, imp_self, List.length_nil] <;> (repeat' with_reducible refine And.intro ?_ ?_) <;> (try simp only [Int.toNat_natCast, Nat.mul_one, Nat.add_zero, Nat.zero_add]) <;> first | exact wadd1 (by omega) | omega
                              · simp only [murmay_0]; omega
                              · exact ⟨hs, hz, by omega, any_take_succ (by omega) ha (by simp only [badV, Bool.or_eq_false_iff, decide_eq_false_iff_not]; omega)⟩
                              · exact hr
                      · (try simp only [decide_eq_true_eq, decide_eq_false_iff_not, Bool.not_eq_true', Bool.not_eq_false', beq_iff_eq, beq_eq_false_iff_ne, Int.not_lt, Int.not_le, ge_iff_le, gt_iff_lt, ne_eq, Bool.false_eq_true, Bool.true_eq_false, not_true_eq_false, not_false_eq_true, Bool.and_eq_true, Bool.not_eq_eq_eq_not, Bool.not_true, Bool.not_false, bne_iff_ne, bne_eq_false_iff_eq, Int.toNat_natCast, Nat.mul_one, Nat.add_zero, Nat.zero_add, List.take_length, List.drop_zero] at h6)
                        all_goals
                          exfalso
                          first | omega | (simp only [w64] at *; omega) | (cases zl <;> simp_all; done) | (cases zl <;> simp_all <;> omega)
                  · (try simp only [decide_eq_true_eq, decide_eq_false_iff_not, Bool.not_eq_true', Bool.not_eq_false', beq_iff_eq, beq_eq_false_iff_ne, Int.not_lt, Int.not_le, ge_iff_le, gt_iff_lt, ne_eq, Bool.false_eq_true, Bool.true_eq_false, not_true_eq_false, not_false_eq_true, Bool.and_eq_true, Bool.not_eq_eq_eq_not, Bool.not_true, Bool.not_false, bne_iff_ne, bne_eq_false_iff_eq, Int.toNat_natCast, Nat.mul_one, Nat.add_zero, Nat.zero_add, List.take_length, List.drop_zero] at h5)
                    all_goals
                      exfalso
                      first | omega | (simp only [w64] at *; omega) | (cases zl <;> simp_all; done) | (cases zl <;> simp_all <;> omega)
          · (try simp only [decide_eq_true_eq, decide_eq_false_iff_not, Bool.not_eq_true', Bool.not_eq_false', beq_iff_eq, beq_eq_false_iff_ne, Int.not_lt, Int.not_le, ge_iff_le, gt_iff_lt, ne_eq, Bool.false_eq_true, Bool.true_eq_false, not_true_eq_false, not_false_eq_true, Bool.and_eq_true, Bool.not_eq_eq_eq_not, Bool.not_true, Bool.not_false, bne_iff_ne, bne_eq_false_iff_eq, Int.toNat_natCast, Nat.mul_one, Nat.add_zero, Nat.zero_add, List.take_length, List.drop_zero] at h3)
            all_goals
              exfalso
              first | omega | (simp only [w64] at *; omega) | (cases zl <;> simp_all; done) | (cases zl <;> simp_all <;> omega)
      · (try simp only [decide_eq_true_eq, decide_eq_false_iff_not, Bool.not_eq_true', Bool.not_eq_false', beq_iff_eq, beq_eq_false_iff_ne, Int.not_lt, Int.not_le, ge_iff_le, gt_iff_lt, ne_eq, Bool.false_eq_true, Bool.true_eq_false, not_true_eq_false, not_false_eq_true, Bool.and_eq_true, Bool.not_eq_eq_eq_not, Bool.not_true, Bool.not_false, bne_iff_ne, bne_eq_false_iff_eq, Int.toNat_natCast, Nat.mul_one, Nat.add_zero, Nat.zero_add, List.take_length, List.drop_zero] at h2)
        all_goals
          exfalso
          first | omega | (simp only [w64] at *; omega) | (cases zl <;> simp_all; done) | (cases zl <;> simp_all <;> omega)
  · (try simp only [decide_eq_true_eq, decide_eq_false_iff_not, Bool.not_eq_true', Bool.not_eq_false', beq_iff_eq, beq_eq_false_iff_ne, Int.not_lt, Int.not_le, ge_iff_le, gt_iff_lt, ne_eq, Bool.false_eq_true, Bool.true_eq_false, not_true_eq_false, not_false_eq_true, Bool.and_eq_true, Bool.not_eq_eq_eq_not, Bool.not_true, Bool.not_false, bne_iff_ne, bne_eq_false_iff_eq, Int.toNat_natCast, Nat.mul_one, Nat.add_zero, Nat.zero_add, List.take_length, List.drop_zero] at h1)
    all_goals
      refine Tree.Sat.ret ?_
      first
        | (
          have hq := hr.1 (any_hit (i := i) (by omega) (by simp only [badV, Bool.or_eq_true, decide_eq_true_eq]; omega))
          simp only [Prod.mk.injEq] at hq
          obtain ⟨rfl, rfl⟩ := hq
          refine .ret rfl ?_
          constructor <;> simp only [AV.leL, AV.le, Mem.le, Mem.leP, Blk.le, Blk.pad, Data.le, Data.size, Cap.le, and_true, true_and, and_self, true_implies, implies_true, imp_self, List.length_nil] <;> (repeat' with_reducible refine And.intro ?_ ?_) <;> (try simp only [Int.toNat_natCast, Nat.mul_one, Nat.add_zero, Nat.zero_add]) <;> done)
        | (
          have hq := hr.2 (by rw [List.take_of_length_le (by omega)] at ha; exact ha)
          simp only [Prod.mk.injEq] at hq
          obtain ⟨rfl, rfl⟩ := hq
          refine .exit rfl ?_
          constructor <;> simp only [AV.leL, AV.le, Mem.le, Mem.leP, Blk.le, Blk.pad, Data.le, Data.size, Cap.le, and_true, true_and, and_self, true_implies, implies_true, imp_self, List.length_nil] <;> (repeat' with_reducible refine And.intro ?_ ?_) <;> (try simp only [Int.toNat_natCast, Nat.mul_one, Nat.add_zero, Nat.zero_add]) <;> done)
set_option maxHeartbeats 2000000 in
set_option maxRecDepth 100000 in
theorem looprmay_0 (hall : AllOk Try.prog 0 (fun _ => none) tab18) : LoopOk (mkL Try.prog 0 (fun _ => none) tab18 rowsrmay) 32 1 (bodyAt Try.prog 32 0) := by
  have hkey : Code.key (bodyAt Try.prog 32 0) = 4 := by kernel_rfl
  have hin : loopsIn (bodyAt Try.prog 32 0) = [] := by kernel_rfl
  have hrow : lookL rowsrmay 32 (Code.key (bodyAt Try.prog 32 0)) = some rowrmay_0 := by rw [hkey]; rfl
  refine loop_rowP (X := Xrmay_0) (row := rowrmay_0) hall mix hrow (fun b hb _ => by rw [hin] at hb; cases hb) Urmay_0 hdrmay_0 resrmay_0 murmay_0 (fun st ex r h => ?_) (fun x ex r hr => ?_)
  · have h' : (ansrmay_0 st).runs (ex, r) := h
    unfold ansrmay_0 at h'
    split at h'
    · obtain ⟨q1, q2⟩ := Tree.chk_runs h'
      exact ⟨_, q1, q2⟩
    · exact h'.elim
  · obtain ⟨zl, l, i⟩ := x
    have := steprmay_0 zl l i ex r hr.1 hr.2
    rw [← tLrmay_0] at this
    (try rw [show rowrmay_0.tidy = Trmay_0 from rfl])
    exact this
theorem loopsrmay (hall : AllOk Try.prog 0 (fun _ => none) tab18) : ∀ i, i < (loopsAt Try.prog 32).length → LoopOk (mkL Try.prog 0 (fun _ => none) tab18 rowsrmay) 32 1 (bodyAt Try.prog 32 i) := by
  intro i hi
  have hlen : (loopsAt Try.prog 32).length = 1 := by kernel_rfl
  rw [hlen] at hi
  obtain rfl : i = 0 := by omega
  · exact looprmay_0 hall
set_option maxRecDepth 100000 in
theorem trmay (zl : Bool) (l : List Int) : evBody (mkL Try.prog 0 (fun _ => none) tab18 rowsrmay) (evCall (mkC Try.prog 0 (fun _ => none) tab18) 50) 32 [.sl zl ⟨0, 0, 0, 0⟩ false l.length .any] [some ⟨3, false, false, true, .ints .i64 l⟩] =
  Tree.br (decide (((List.length l) : Int) > (256 : Int))) (Tree.ret (AV.int IntKind.i64 true (3 : Int), [some (Blk.mk (3) false false true (Data.ints IntKind.i64 l))]))
  (Tree.chk
  (St.le
  (St.mk
  [AV.sl zl (Ref.mk (0) (0) (0) (0)) false (List.length l) Cap.any, AV.junk, AV.junk, AV.int IntKind.i64 true (0 : Int), AV.junk, AV.junk, AV.junk, AV.junk, AV.junk, AV.junk, AV.junk, AV.junk,
  AV.junk, AV.junk, AV.junk, AV.junk, AV.junk, AV.junk, AV.junk, AV.junk, AV.junk, AV.junk, AV.junk, AV.junk, AV.junk]
  [some (Blk.mk (3) false false true (Data.ints IntKind.i64 l))])
  (St.mk
  [AV.sl zl (Ref.mk (0) (0) (0) (0)) false (List.length l) Cap.any, AV.junk, AV.junk, AV.int IntKind.i64 false (0 : Int), AV.junk, AV.junk, AV.junk, AV.junk, AV.junk, AV.junk, AV.junk, AV.junk,
  AV.junk, AV.junk, AV.junk, AV.junk, AV.junk, AV.junk, AV.junk, AV.junk, AV.junk, AV.junk, AV.junk, AV.junk, AV.junk]
  [some (Blk.mk (3) false false true (Data.ints IntKind.i64 l))]))
  (Tree.chk (okrmay_0 (Xrmay_0.mk zl l (Int.toNat (0 : Int))))
  (Tree.br (List.any l badV) (Tree.ret (AV.int IntKind.i64 true (2 : Int), [some (Blk.mk (3) false false true (Data.ints IntKind.i64 l))]))
  (Tree.ret (AV.int IntKind.i64 true (0 : Int), [some (Blk.mk (3) false false true (Data.ints IntKind.i64 l))]))))) := by kernel_rfl
set_option maxRecDepth 100000 in
theorem grmay (zl : Bool) (l : List Int) (hw : short l ∧ (zl = true → l = [])) : (Tree.br (decide (((List.length l) : Int) > (256 : Int))) (Tree.ret (AV.int IntKind.i64 true (3 : Int), [some (Blk.mk (3) false false true (Data.ints IntKind.i64 l))]))
  (Tree.chk
  (St.le
  (St.mk
  [AV.sl zl (Ref.mk (0) (0) (0) (0)) false (List.length l) Cap.any, AV.junk, AV.junk, AV.int IntKind.i64 true (0 : Int), AV.junk, AV.junk, AV.junk, AV.junk, AV.junk, AV.junk, AV.junk, AV.junk,
  AV.junk, AV.junk, AV.junk, AV.junk, AV.junk, AV.junk, AV.junk, AV.junk, AV.junk, AV.junk, AV.junk, AV.junk, AV.junk]
  [some (Blk.mk (3) false false true (Data.ints IntKind.i64 l))])
  (St.mk
  [AV.sl zl (Ref.mk (0) (0) (0) (0)) false (List.length l) Cap.any, AV.junk, AV.junk, AV.int IntKind.i64 false (0 : Int), AV.junk, AV.junk, AV.junk, AV.junk, AV.junk, AV.junk, AV.junk, AV.junk,
  AV.junk, AV.junk, AV.junk, AV.junk, AV.junk, AV.junk, AV.junk, AV.junk, AV.junk, AV.junk, AV.junk, AV.junk, AV.junk]
  [some (Blk.mk (3) false false true (Data.ints IntKind.i64 l))]))
  (Tree.chk (okrmay_0 (Xrmay_0.mk zl l (Int.toNat (0 : Int))))
  (Tree.br (List.any l badV) (Tree.ret (AV.int IntKind.i64 true (2 : Int), [some (Blk.mk (3) false false true (Data.ints IntKind.i64 l))]))
  (Tree.ret (AV.int IntKind.i64 true (0 : Int), [some (Blk.mk (3) false false true (Data.ints IntKind.i64 l))]))))) : Tree (AV × Mem)).GivesP (.int .i64 false (mayZ l)) ([some ⟨3, false, false, true, .ints .i64 l⟩]) := by
  refine Tree.GivesP.br (fun h1 => ?_) (fun h1 => ?_)
  · (try simp only [decide_eq_true_eq, decide_eq_false_iff_not, Bool.not_eq_true', Bool.not_eq_false', beq_iff_eq, beq_eq_false_iff_ne, Int.not_lt, Int.not_le, ge_iff_le, gt_iff_lt, ne_eq, Bool.false_eq_true, Bool.true_eq_false, not_true_eq_false, not_false_eq_true, Bool.and_eq_true, Bool.not_eq_eq_eq_not, Bool.not_true, Bool.not_false, bne_iff_ne, bne_eq_false_iff_eq, Int.toNat_natCast, Nat.mul_one, Nat.add_zero, Nat.zero_add, List.take_length, List.drop_zero] at h1)
    all_goals
      refine Tree.GivesP.ret ?_ ?_
      · simp only [AV.le, mayZ, true_and]; rw [if_pos h1]
      · simp only [AV.leL, AV.le, Mem.le, Mem.leP, Blk.le, Blk.pad, Data.le, Data.size, Cap.le, and_true, true_and, and_self, true_implies, implies_true, imp_self, List.length_nil]
  · (try simp only [decide_eq_true_eq, decide_eq_false_iff_not, Bool.not_eq_true', Bool.not_eq_false', beq_iff_eq, beq_eq_false_iff_ne, Int.not_lt, Int.not_le, ge_iff_le, gt_iff_lt, ne_eq, Bool.false_eq_true, Bool.true_eq_false, not_true_eq_false, not_false_eq_true, Bool.and_eq_true, Bool.not_eq_eq_eq_not, Bool.not_true, Bool.not_false, bne_iff_ne, bne_eq_false_iff_eq, Int.toNat_natCast, Nat.mul_one, Nat.add_zero, Nat.zero_add, List.take_length, List.drop_zero] at h1)
    all_goals
      refine Tree.GivesP.chk (by first | (simp only [and_self]; done) | (constructor <;> simp only [hdrmay_0, Int.toNat_zero, Int.cast_ofNat_Int, AV.leL, AV.le, Mem.le, Mem.leP, Blk.le, Blk.pad, Data.le, Data.size, Cap.le, and_true, true_and, and_self, true_implies, implies_true, imp_self, List.length_nil] <;> (try simp only [List.take_zero]) <;> (try rfl))) ?_
      refine Tree.GivesP.chk (by first | (simp only [and_self]; done) | (exact ⟨by omega, hw.2, Nat.zero_le _, rfl⟩)) ?_
      refine Tree.GivesP.br (fun h2 => ?_) (fun h2 => ?_)
      · (try simp only [decide_eq_true_eq, decide_eq_false_iff_not, Bool.not_eq_true', Bool.not_eq_false', beq_iff_eq, beq_eq_false_iff_ne, Int.not_lt, Int.not_le, ge_iff_le, gt_iff_lt, ne_eq, Bool.false_eq_true, Bool.true_eq_false, not_true_eq_false, not_false_eq_true, Bool.and_eq_true, Bool.not_eq_eq_eq_not, Bool.not_true, Bool.not_false, bne_iff_ne, bne_eq_false_iff_eq, Int.toNat_natCast, Nat.mul_one, Nat.add_zero, Nat.zero_add, List.take_length, List.drop_zero] at h2)
        all_goals
          refine Tree.GivesP.ret ?_ ?_
          · simp only [AV.le, mayZ, true_and, h2, if_true]; rw [if_neg (by omega)]
          · simp only [AV.leL, AV.le, Mem.le, Mem.leP, Blk.le, Blk.pad, Data.le, Data.size, Cap.le, and_true, true_and, and_self, true_implies, implies_true, imp_self, List.length_nil]
      · (try simp only [decide_eq_true_eq, decide_eq_false_iff_not, Bool.not_eq_true', Bool.not_eq_false', beq_iff_eq, beq_eq_false_iff_ne, Int.not_lt, Int.not_le, ge_iff_le, gt_iff_lt, ne_eq, Bool.false_eq_true, Bool.true_eq_false, not_true_eq_false, not_false_eq_true, Bool.and_eq_true, Bool.not_eq_eq_eq_not, Bool.not_true, Bool.not_false, bne_iff_ne, bne_eq_false_iff_eq, Int.toNat_natCast, Nat.mul_one, Nat.add_zero, Nat.zero_add, List.take_length, List.drop_zero] at h2)
        all_goals
          refine Tree.GivesP.ret ?_ ?_
          · simp only [AV.le, mayZ, true_and, h2, Bool.false_eq_true, if_false]; rw [if_neg (by omega)]
          · simp only [AV.leL, AV.le, Mem.le, Mem.leP, Blk.le, Blk.pad, Data.le, Data.size, Cap.le, and_true, true_and, and_self, true_implies, implies_true, imp_self, List.length_nil]
theorem srmay (hall : AllOk Try.prog 0 (fun _ => none) tab18) (zl : Bool) (l : List Int) (hw : short l ∧ (zl = true → l = [])) : SoundAt (mkC Try.prog 0 (fun _ => none) []) 32 [.sl zl ⟨0, 0, 0, 0⟩ false l.length .any] [some ⟨3, false, false, true, .ints .i64 l⟩] (.int .i64 false (mayZ l), [some ⟨3, false, false, true, .ints .i64 l⟩]) := sound_loopsP hall mix (loopsrmay hall) (trmay zl l) (grmay zl l hw)
theorem Frmay_ok (hall : AllOk Try.prog 0 (fun _ => none) tab18) : PureF Try.prog 3 32 Frmay := by
  intro xs c v news h hc
  unfold Frmay at h
  split at h
  · rename_i zl l
    cases h
    refine ⟨(by intro b hb; cases hb), SoundAt.flags (srmay hall zl l hc) ?_⟩
    simp [PA.avs, AV.le, AV.leL, Cap.le]
  · cases h
end Go.Proofs.Ytnkjblmlchbfkaa.Rig

/- Qworks -/
namespace Go.Proofs.Ytnkjblmlchbfkaa.Rig
open Go
set_option maxRecDepth 100000 in
theorem tworks  : evBody (mkC Try.prog 0 (fun _ => none) tab19) (evCall (mkC Try.prog 0 (fun _ => none) tab19) 50) 14 [] [] =
  Tree.chk
  ((True ∧ 0 + 1 ≤ List.length [(-2 : Int)] ∧ True) ∧
  List.length (List.take 1 (List.drop (0) [(-2 : Int)])) ≤ 100000 ∧ wf64L (List.take 1 (List.drop (0) [(-2 : Int)])) ∧ (false = true → List.take 1 (List.drop (0) [(-2 : Int)]) = []))
  (Tree.chk
  ((0 + 2 ≤ List.length [(4 : Int), (12 : Int)] ∧ True) ∧
  short (List.take 2 (List.drop (0) [(4 : Int), (12 : Int)])) ∧ (false = true → List.take 2 (List.drop (0) [(4 : Int), (12 : Int)]) = []))
  (Tree.br false
  (Tree.chk
  ((True ∧ 0 + List.length (putL true (2 : Int) (List.take 1 (List.drop (0) [(-2 : Int)]))) ≤ List.length (putL true (2 : Int) (List.take 1 (List.drop (0) [(-2 : Int)]))) ∧ True) ∧
  short (List.take (List.length (putL true (2 : Int) (List.take 1 (List.drop (0) [(-2 : Int)])))) (List.drop (0) (putL true (2 : Int) (List.take 1 (List.drop (0) [(-2 : Int)]))))) ∧
  (decide (putL true (2 : Int) (List.take 1 (List.drop (0) [(-2 : Int)])) = []) = true →
  List.take (List.length (putL true (2 : Int) (List.take 1 (List.drop (0) [(-2 : Int)])))) (List.drop (0) (putL true (2 : Int) (List.take 1 (List.drop (0) [(-2 : Int)])))) = []))
  (Tree.chk
  ((0 + List.length (putL true (2 : Int) (List.take 1 (List.drop (0) [(-2 : Int)]))) ≤ List.length (putL true (2 : Int) (List.take 1 (List.drop (0) [(-2 : Int)]))) ∧
  0 + 2 ≤ List.length [(65535 : Int), (65534 : Int)] ∧ True) ∧
  short (List.take (List.length (putL true (2 : Int) (List.take 1 (List.drop (0) [(-2 : Int)])))) (List.drop (0) (putL true (2 : Int) (List.take 1 (List.drop (0) [(-2 : Int)]))))) ∧
  (decide (putL true (2 : Int) (List.take 1 (List.drop (0) [(-2 : Int)])) = []) = true →
  List.take (List.length (putL true (2 : Int) (List.take 1 (List.drop (0) [(-2 : Int)])))) (List.drop (0) (putL true (2 : Int) (List.take 1 (List.drop (0) [(-2 : Int)])))) = []) ∧
  (false = true → List.take 2 (List.drop (0) [(65535 : Int), (65534 : Int)]) = []))
  (Tree.br true
  (Tree.br true
  (Tree.chk ((0 = 0 ∧ 0 + 1 ≤ List.length [(4098 : Int)] ∧ True) ∧ short [] ∧ (true = true → ([] : List Int) = []) ∧ (false = true → List.take 1 (List.drop (0) [(4098 : Int)]) = []))
  (Tree.br false
  (Tree.br true
  (Tree.br true
  (Tree.br true
  (Tree.chk
  ((0 + 3 ≤ List.length [(4 : Int), (12 : Int), (1 : Int)] ∧ True) ∧
  List.length (List.take 3 (List.drop (0) [(4 : Int), (12 : Int), (1 : Int)])) ≤ 1000000 ∧
  (false = true → List.take 3 (List.drop (0) [(4 : Int), (12 : Int), (1 : Int)]) = []))
  (Tree.ret (AV.bool false true, [])))
  (Tree.ret (AV.bool true false, [])))
  (Tree.ret (AV.bool true false, [])))
  (Tree.ret (AV.bool true false, [])))
  (Tree.ret (AV.bool true false, []))))
  (Tree.ret (AV.bool true false, [])))
  (Tree.ret (AV.bool true false, [])))))
  (Tree.chk
  ((True ∧ 0 + List.length (putL true (2 : Int) (List.take 1 (List.drop (0) [(-2 : Int)]))) ≤ List.length (putL true (2 : Int) (List.take 1 (List.drop (0) [(-2 : Int)]))) ∧ True) ∧
  short (List.take (List.length (putL true (2 : Int) (List.take 1 (List.drop (0) [(-2 : Int)])))) (List.drop (0) (putL true (2 : Int) (List.take 1 (List.drop (0) [(-2 : Int)]))))) ∧
  (decide (putL true (2 : Int) (List.take 1 (List.drop (0) [(-2 : Int)])) = []) = true →
  List.take (List.length (putL true (2 : Int) (List.take 1 (List.drop (0) [(-2 : Int)])))) (List.drop (0) (putL true (2 : Int) (List.take 1 (List.drop (0) [(-2 : Int)])))) = []))
  (Tree.chk
  ((0 + List.length (putL true (2 : Int) (List.take 1 (List.drop (0) [(-2 : Int)]))) ≤ List.length (putL true (2 : Int) (List.take 1 (List.drop (0) [(-2 : Int)]))) ∧
  0 + 2 ≤ List.length [(65535 : Int), (65534 : Int)] ∧ True) ∧
  short (List.take (List.length (putL true (2 : Int) (List.take 1 (List.drop (0) [(-2 : Int)])))) (List.drop (0) (putL true (2 : Int) (List.take 1 (List.drop (0) [(-2 : Int)]))))) ∧
  (decide (putL true (2 : Int) (List.take 1 (List.drop (0) [(-2 : Int)])) = []) = true →
  List.take (List.length (putL true (2 : Int) (List.take 1 (List.drop (0) [(-2 : Int)])))) (List.drop (0) (putL true (2 : Int) (List.take 1 (List.drop (0) [(-2 : Int)])))) = []) ∧
  (false = true → List.take 2 (List.drop (0) [(65535 : Int), (65534 : Int)]) = []))
  (Tree.br true
  (Tree.br true
  (Tree.chk
  ((0 + (0 + 1) ≤ List.length [(4098 : Int)] ∧ 0 + 1 ≤ List.length [(4098 : Int)] ∧ True) ∧
  short (List.take (0 + 1) (List.drop (0) [(4098 : Int)])) ∧
  (false = true → List.take (0 + 1) (List.drop (0) [(4098 : Int)]) = []) ∧ (false = true → List.take 1 (List.drop (0) [(4098 : Int)]) = []))
  (Tree.br true
  (Tree.br true
  (Tree.br true
  (Tree.chk
  ((0 + 3 ≤ List.length [(4 : Int), (12 : Int), (1 : Int)] ∧ True) ∧
  List.length (List.take 3 (List.drop (0) [(4 : Int), (12 : Int), (1 : Int)])) ≤ 1000000 ∧ (false = true → List.take 3 (List.drop (0) [(4 : Int), (12 : Int), (1 : Int)]) = []))
  (Tree.ret (AV.bool false true, [])))
  (Tree.ret (AV.bool true false, [])))
  (Tree.ret (AV.bool true false, [])))
  (Tree.ret (AV.bool true false, []))))
  (Tree.ret (AV.bool true false, [])))
  (Tree.ret (AV.bool true false, []))))))) := by kernel_rfl
set_option maxRecDepth 100000 in
theorem gworks  (hw : True) : (Tree.chk
  ((True ∧ 0 + 1 ≤ List.length [(-2 : Int)] ∧ True) ∧
  List.length (List.take 1 (List.drop (0) [(-2 : Int)])) ≤ 100000 ∧ wf64L (List.take 1 (List.drop (0) [(-2 : Int)])) ∧ (false = true → List.take 1 (List.drop (0) [(-2 : Int)]) = []))
  (Tree.chk
  ((0 + 2 ≤ List.length [(4 : Int), (12 : Int)] ∧ True) ∧
  short (List.take 2 (List.drop (0) [(4 : Int), (12 : Int)])) ∧ (false = true → List.take 2 (List.drop (0) [(4 : Int), (12 : Int)]) = []))
  (Tree.br false
  (Tree.chk
  ((True ∧ 0 + List.length (putL true (2 : Int) (List.take 1 (List.drop (0) [(-2 : Int)]))) ≤ List.length (putL true (2 : Int) (List.take 1 (List.drop (0) [(-2 : Int)]))) ∧ True) ∧
  short (List.take (List.length (putL true (2 : Int) (List.take 1 (List.drop (0) [(-2 : Int)])))) (List.drop (0) (putL true (2 : Int) (List.take 1 (List.drop (0) [(-2 : Int)]))))) ∧
  (decide (putL true (2 : Int) (List.take 1 (List.drop (0) [(-2 : Int)])) = []) = true →
  List.take (List.length (putL true (2 : Int) (List.take 1 (List.drop (0) [(-2 : Int)])))) (List.drop (0) (putL true (2 : Int) (List.take 1 (List.drop (0) [(-2 : Int)])))) = []))
  (Tree.chk
  ((0 + List.length (putL true (2 : Int) (List.take 1 (List.drop (0) [(-2 : Int)]))) ≤ List.length (putL true (2 : Int) (List.take 1 (List.drop (0) [(-2 : Int)]))) ∧
  0 + 2 ≤ List.length [(65535 : Int), (65534 : Int)] ∧ True) ∧
  short (List.take (List.length (putL true (2 : Int) (List.take 1 (List.drop (0) [(-2 : Int)])))) (List.drop (0) (putL true (2 : Int) (List.take 1 (List.drop (0) [(-2 : Int)]))))) ∧
  (decide (putL true (2 : Int) (List.take 1 (List.drop (0) [(-2 : Int)])) = []) = true →
  List.take (List.length (putL true (2 : Int) (List.take 1 (List.drop (0) [(-2 : Int)])))) (List.drop (0) (putL true (2 : Int) (List.take 1 (List.drop (0) [(-2 : Int)])))) = []) ∧
  (false = true → List.take 2 (List.drop (0) [(65535 : Int), (65534 : Int)]) = []))
  (Tree.br true
  (Tree.br true
  (Tree.chk ((0 = 0 ∧ 0 + 1 ≤ List.length [(4098 : Int)] ∧ True) ∧ short [] ∧ (true = true → ([] : List Int) = []) ∧ (false = true → List.take 1 (List.drop (0) [(4098 : Int)]) = []))
  (Tree.br false
  (Tree.br true
  (Tree.br true
  (Tree.br true
  (Tree.chk
  ((0 + 3 ≤ List.length [(4 : Int), (12 : Int), (1 : Int)] ∧ True) ∧
  List.length (List.take 3 (List.drop (0) [(4 : Int), (12 : Int), (1 : Int)])) ≤ 1000000 ∧
  (false = true → List.take 3 (List.drop (0) [(4 : Int), (12 : Int), (1 : Int)]) = []))
  (Tree.ret (AV.bool false true, [])))
  (Tree.ret (AV.bool true false, [])))
  (Tree.ret (AV.bool true false, [])))
  (Tree.ret (AV.bool true false, [])))
  (Tree.ret (AV.bool true false, []))))
  (Tree.ret (AV.bool true false, [])))
  (Tree.ret (AV.bool true false, [])))))
  (Tree.chk
  ((True ∧ 0 + List.length (putL true (2 : Int) (List.take 1 (List.drop (0) [(-2 : Int)]))) ≤ List.length (putL true (2 : Int) (List.take 1 (List.drop (0) [(-2 : Int)]))) ∧ True) ∧
  short (List.take (List.length (putL true (2 : Int) (List.take 1 (List.drop (0) [(-2 : Int)])))) (List.drop (0) (putL true (2 : Int) (List.take 1 (List.drop (0) [(-2 : Int)]))))) ∧
  (decide (putL true (2 : Int) (List.take 1 (List.drop (0) [(-2 : Int)])) = []) = true →
  List.take (List.length (putL true (2 : Int) (List.take 1 (List.drop (0) [(-2 : Int)])))) (List.drop (0) (putL true (2 : Int) (List.take 1 (List.drop (0) [(-2 : Int)])))) = []))
  (Tree.chk
  ((0 + List.length (putL true (2 : Int) (List.take 1 (List.drop (0) [(-2 : Int)]))) ≤ List.length (putL true (2 : Int) (List.take 1 (List.drop (0) [(-2 : Int)]))) ∧
  0 + 2 ≤ List.length [(65535 : Int), (65534 : Int)] ∧ True) ∧
  short (List.take (List.length (putL true (2 : Int) (List.take 1 (List.drop (0) [(-2 : Int)])))) (List.drop (0) (putL true (2 : Int) (List.take 1 (List.drop (0) [(-2 : Int)]))))) ∧
  (decide (putL true (2 : Int) (List.take 1 (List.drop (0) [(-2 : Int)])) = []) = true →
  List.take (List.length (putL true (2 : Int) (List.take 1 (List.drop (0) [(-2 : Int)])))) (List.drop (0) (putL true (2 : Int) (List.take 1 (List.drop (0) [(-2 : Int)])))) = []) ∧
  (false = true → List.take 2 (List.drop (0) [(65535 : Int), (65534 : Int)]) = []))
  (Tree.br true
  (Tree.br true
  (Tree.chk
  ((0 + (0 + 1) ≤ List.length [(4098 : Int)] ∧ 0 + 1 ≤ List.length [(4098 : Int)] ∧ True) ∧
  short (List.take (0 + 1) (List.drop (0) [(4098 : Int)])) ∧
  (false = true → List.take (0 + 1) (List.drop (0) [(4098 : Int)]) = []) ∧ (false = true → List.take 1 (List.drop (0) [(4098 : Int)]) = []))
  (Tree.br true
  (Tree.br true
  (Tree.br true
  (Tree.chk
  ((0 + 3 ≤ List.length [(4 : Int), (12 : Int), (1 : Int)] ∧ True) ∧
  List.length (List.take 3 (List.drop (0) [(4 : Int), (12 : Int), (1 : Int)])) ≤ 1000000 ∧ (false = true → List.take 3 (List.drop (0) [(4 : Int), (12 : Int), (1 : Int)]) = []))
  (Tree.ret (AV.bool false true, [])))
  (Tree.ret (AV.bool true false, [])))
  (Tree.ret (AV.bool true false, [])))
  (Tree.ret (AV.bool true false, []))))
  (Tree.ret (AV.bool true false, [])))
  (Tree.ret (AV.bool true false, []))))))) : Tree (AV × Mem)).GivesP (.bool false true) ([]) := by
  refine Tree.GivesP.chk (by first | (simp only [and_self]; done) | ((repeat' with_reducible refine And.intro ?_ ?_) <;> first | trivial | (intro n hn; simp at hn; omega) | (intro hh; cases hh; done) | (simp only [short]; decide +kernel) | decide +kernel | (intro hh; revert hh; decide +kernel))) ?_
  refine Tree.GivesP.chk (by first | (simp only [and_self]; done) | ((repeat' with_reducible refine And.intro ?_ ?_) <;> first | trivial | (intro n hn; simp at hn; omega) | (intro hh; cases hh; done) | (simp only [short]; decide +kernel) | decide +kernel | (intro hh; revert hh; decide +kernel))) ?_
  refine Tree.GivesP.br (fun h1 => ?_) (fun h1 => ?_)
  · (try simp only [decide_eq_true_eq, decide_eq_false_iff_not, Bool.not_eq_true', Bool.not_eq_false', beq_iff_eq, beq_eq_false_iff_ne, Int.not_lt, Int.not_le, ge_iff_le, gt_iff_lt, ne_eq, Bool.false_eq_true, Bool.true_eq_false, not_true_eq_false, not_false_eq_true, Bool.and_eq_true, Bool.not_eq_eq_eq_not, Bool.not_true, Bool.not_false, bne_iff_ne, bne_eq_false_iff_eq, Int.toNat_natCast, Nat.mul_one, Nat.add_zero, Nat.zero_add, List.take_length, List.drop_zero] at h1)
    all_goals
      refine Tree.GivesP.chk (by first | (simp only [and_self]; done) | ((repeat' with_reducible refine And.intro ?_ ?_) <;> first | trivial | (intro n hn; simp at hn; omega) | (intro hh; cases hh; done) | (simp only [short]; decide +kernel) | decide +kernel | (intro hh; revert hh; decide +kernel))) ?_
      refine Tree.GivesP.chk (by first | (simp only [and_self]; done) | ((repeat' with_reducible refine And.intro ?_ ?_) <;> first | trivial | (intro n hn; simp at hn; omega) | (intro hh; cases hh; done) | (simp only [short]; decide +kernel) | decide +kernel | (intro hh; revert hh; decide +kernel))) ?_
      refine Tree.GivesP.br (fun h2 => ?_) (fun h2 => ?_)
      · (try simp only [decide_eq_true_eq, decide_eq_false_iff_not, Bool.not_eq_true', Bool.not_eq_false', beq_iff_eq, beq_eq_false_iff_ne, Int.not_lt, Int.not_le, ge_iff_le, gt_iff_lt, ne_eq, Bool.false_eq_true, Bool.true_eq_false, not_true_eq_false, not_false_eq_true, Bool.and_eq_true, Bool.not_eq_eq_eq_not, Bool.not_true, Bool.not_false, bne_iff_ne, bne_eq_false_iff_eq, Int.toNat_natCast, Nat.mul_one, Nat.add_zero, Nat.zero_add, List.take_length, List.drop_zero] at h2)
        all_goals
          refine Tree.GivesP.br (fun h3 => ?_) (fun h3 => ?_)
          · (try simp only [decide_eq_true_eq, decide_eq_false_iff_not, Bool.not_eq_true', Bool.not_eq_false', beq_iff_eq, beq_eq_false_iff_ne, Int.not_lt, Int.not_le, ge_iff_le, gt_iff_lt, ne_eq, Bool.false_eq_true, Bool.true_eq_false, not_true_eq_false, not_false_eq_true, Bool.and_eq_true, Bool.not_eq_eq_eq_not, Bool.not_true, Bool.not_false, bne_iff_ne, bne_eq_false_iff_eq, Int.toNat_natCast, Nat.mul_one, Nat.add_zero, Nat.zero_add, List.take_length, List.drop_zero] at h3)
            all_goals
              refine Tree.GivesP.chk (by first | (simp only [and_self]; done) | ((repeat' with_reducible refine And.intro ?_ ?_) <;> first | trivial | (intro n hn; simp at hn; omega) | (intro hh; cases hh; done) | (simp only [short]; decide +kernel) | decide +kernel | (intro hh; revert hh; decide +kernel))) ?_
              refine Tree.GivesP.br (fun h4 => ?_) (fun h4 => ?_)
              · (try simp only [decide_eq_true_eq, decide_eq_false_iff_not, Bool.not_eq_true', Bool.not_eq_false', beq_iff_eq, beq_eq_false_iff_ne, Int.not_lt, Int.not_le, ge_iff_le, gt_iff_lt, ne_eq, Bool.false_eq_true, Bool.true_eq_false, not_true_eq_false, not_false_eq_true, Bool.and_eq_true, Bool.not_eq_eq_eq_not, Bool.not_true, Bool.not_false, bne_iff_ne, bne_eq_false_iff_eq, Int.toNat_natCast, Nat.mul_one, Nat.add_zero, Nat.zero_add, List.take_length, List.drop_zero] at h4)
                all_goals
                  refine Tree.GivesP.br (fun h5 => ?_) (fun h5 => ?_)
                  · (try simp only [decide_eq_true_eq, decide_eq_false_iff_not, Bool.not_eq_true', Bool.not_eq_false', beq_iff_eq, beq_eq_false_iff_ne, Int.not_lt, Int.not_le, ge_iff_le, gt_iff_lt, ne_eq, Bool.false_eq_true, Bool.true_eq_false, not_true_eq_false, not_false_eq_true, Bool.and_eq_true, Bool.not_eq_eq_eq_not, Bool.not_true, Bool.not_false, bne_iff_ne, bne_eq_false_iff_eq, Int.toNat_natCast, Nat.mul_one, Nat.add_zero, Nat.zero_add, List.take_length, List.drop_zero] at h5)
                    all_goals
                      refine Tree.GivesP.br (fun h6 => ?_) (fun h6 => ?_)
                      · (try simp only [decide_eq_true_eq, decide_eq_false_iff_not, Bool.not_eq_true', Bool.not_eq_false', beq_iff_eq, beq_eq_false_iff_ne, Int.not_lt, Int.not_le, ge_iff_le, gt_iff_lt, ne_eq, Bool.false_eq_true, Bool.true_eq_false, not_true_eq_false, not_false_eq_true, Bool.and_eq_true, Bool.not_eq_eq_eq_not, Bool.not_true, Bool.not_false, bne_iff_ne, bne_eq_false_iff_eq, Int.toNat_natCast, Nat.mul_one, Nat.add_zero, Nat.zero_add, List.take_length, List.drop_zero] at h6)
                        all_goals
                          refine Tree.GivesP.br (fun h7 => ?_) (fun h7 => ?_)
                          · (try simp only [decide_eq_true_eq, decide_eq_false_iff_not, Bool.not_eq_true', Bool.not_eq_false', beq_iff_eq, beq_eq_false_iff_ne, Int.not_lt, Int.not_le, ge_iff_le, gt_iff_lt, ne_eq, Bool.false_eq_true, Bool.true_eq_false, not_true_eq_false, not_false_eq_true, Bool.and_eq_true, Bool.not_eq_eq_eq_not, Bool.not_true, Bool.not_false, bne_iff_ne, bne_eq_false_iff_eq, Int.toNat_natCast, Nat.mul_one, Nat.add_zero, Nat.zero_add, List.take_length, List.drop_zero] at h7)
                            all_goals
                              refine Tree.GivesP.chk (by first | (simp only [and_self]; done) | ((repeat' with_reducible refine And.intro ?_ ?_) <;> first | trivial | (intro n hn; simp at hn; omega) | (intro hh; cases hh; done) | (simp only [short]; decide +kernel) | decide +kernel | (intro hh; revert hh; decide +kernel))) ?_
                              refine Tree.GivesP.ret ?_ ?_
                              · simp only [AV.le]
                              · simp only [AV.leL, AV.le, Mem.le, Mem.leP, Blk.le, Blk.pad, Data.le, Data.size, Cap.le, and_true, true_and, and_self, true_implies, implies_true, imp_self, List.length_nil]
                          · (try simp only [decide_eq_true_eq, decide_eq_false_iff_not, Bool.not_eq_true', Bool.not_eq_false', beq_iff_eq, beq_eq_false_iff_ne, Int.not_lt, Int.not_le, ge_iff_le, gt_iff_lt, ne_eq, Bool.false_eq_true, Bool.true_eq_false, not_true_eq_false, not_false_eq_true, Bool.and_eq_true, Bool.not_eq_eq_eq_not, Bool.not_true, Bool.not_false, bne_iff_ne, bne_eq_false_iff_eq, Int.toNat_natCast, Nat.mul_one, Nat.add_zero, Nat.zero_add, List.take_length, List.drop_zero] at h7)
                            all_goals
                              refine Tree.GivesP.ret ?_ ?_
                              · simp only [AV.le]
                              · simp only [AV.leL, AV.le, Mem.le, Mem.leP, Blk.le, Blk.pad, Data.le, Data.size, Cap.le, and_true, true_and, and_self, true_implies, implies_true, imp_self, List.length_nil]
                      · (try simp only [decide_eq_true_eq, decide_eq_false_iff_not, Bool.not_eq_true', Bool.not_eq_false', beq_iff_eq, beq_eq_false_iff_ne, Int.not_lt, Int.not_le, ge_iff_le, gt_iff_lt, ne_eq, Bool.false_eq_true, Bool.true_eq_false, not_true_eq_false, not_false_eq_true, Bool.and_eq_true, Bool.not_eq_eq_eq_not, Bool.not_true, Bool.not_false, bne_iff_ne, bne_eq_false_iff_eq, Int.toNat_natCast, Nat.mul_one, Nat.add_zero, Nat.zero_add, List.take_length, List.drop_zero] at h6)
                        all_goals
                          refine Tree.GivesP.ret ?_ ?_
                          · simp only [AV.le]
                          · simp only [AV.leL, AV.le, Mem.le, Mem.leP, Blk.le, Blk.pad, Data.le, Data.size, Cap.le, and_true, true_and, and_self, true_implies, implies_true, imp_self, List.length_nil]
                  · (try simp only [decide_eq_true_eq, decide_eq_false_iff_not, Bool.not_eq_true', Bool.not_eq_false', beq_iff_eq, beq_eq_false_iff_ne, Int.not_lt, Int.not_le, ge_iff_le, gt_iff_lt, ne_eq, Bool.false_eq_true, Bool.true_eq_false, not_true_eq_false, not_false_eq_true, Bool.and_eq_true, Bool.not_eq_eq_eq_not, Bool.not_true, Bool.not_false, bne_iff_ne, bne_eq_false_iff_eq, Int.toNat_natCast, Nat.mul_one, Nat.add_zero, Nat.zero_add, List.take_length, List.drop_zero] at h5)
                    all_goals
                      refine Tree.GivesP.ret ?_ ?_
                      · simp only [AV.le]
                      · simp only [AV.leL, AV.le, Mem.le, Mem.leP, Blk.le, Blk.pad, Data.le, Data.size, Cap.le, and_true, true_and, and_self, true_implies, implies_true, imp_self, List.length_nil]
              · (try simp only [decide_eq_true_eq, decide_eq_false_iff_not, Bool.not_eq_true', Bool.not_eq_false', beq_iff_eq, beq_eq_false_iff_ne, Int.not_lt, Int.not_le, ge_iff_le, gt_iff_lt, ne_eq, Bool.false_eq_true, Bool.true_eq_false, not_true_eq_false, not_false_eq_true, Bool.and_eq_true, Bool.not_eq_eq_eq_not, Bool.not_true, Bool.not_false, bne_iff_ne, bne_eq_false_iff_eq, Int.toNat_natCast, Nat.mul_one, Nat.add_zero, Nat.zero_add, List.take_length, List.drop_zero] at h4)
                all_goals
                  refine Tree.GivesP.ret ?_ ?_
                  · simp only [AV.le]
                  · simp only [AV.leL, AV.le, Mem.le, Mem.leP, Blk.le, Blk.pad, Data.le, Data.size, Cap.le, and_true, true_and, and_self, true_implies, implies_true, imp_self, List.length_nil]
          · (try simp only [decide_eq_true_eq, decide_eq_false_iff_not, Bool.not_eq_true', Bool.not_eq_false', beq_iff_eq, beq_eq_false_iff_ne, Int.not_lt, Int.not_le, ge_iff_le, gt_iff_lt, ne_eq, Bool.false_eq_true, Bool.true_eq_false, not_true_eq_false, not_false_eq_true, Bool.and_eq_true, Bool.not_eq_eq_eq_not, Bool.not_true, Bool.not_false, bne_iff_ne, bne_eq_false_iff_eq, Int.toNat_natCast, Nat.mul_one, Nat.add_zero, Nat.zero_add, List.take_length, List.drop_zero] at h3)
            all_goals
              refine Tree.GivesP.ret ?_ ?_
              · simp only [AV.le]
              · simp only [AV.leL, AV.le, Mem.le, Mem.leP, Blk.le, Blk.pad, Data.le, Data.size, Cap.le, and_true, true_and, and_self, true_implies, implies_true, imp_self, List.length_nil]
      · (try simp only [decide_eq_true_eq, decide_eq_false_iff_not, Bool.not_eq_true', Bool.not_eq_false', beq_iff_eq, beq_eq_false_iff_ne, Int.not_lt, Int.not_le, ge_iff_le, gt_iff_lt, ne_eq, Bool.false_eq_true, Bool.true_eq_false, not_true_eq_false, not_false_eq_true, Bool.and_eq_true, Bool.not_eq_eq_eq_not, Bool.not_true, Bool.not_false, bne_iff_ne, bne_eq_false_iff_eq, Int.toNat_natCast, Nat.mul_one, Nat.add_zero, Nat.zero_add, List.take_length, List.drop_zero] at h2)
        all_goals
          refine Tree.GivesP.ret ?_ ?_
          · simp only [AV.le]
          · simp only [AV.leL, AV.le, Mem.le, Mem.leP, Blk.le, Blk.pad, Data.le, Data.size, Cap.le, and_true, true_and, and_self, true_implies, implies_true, imp_self, List.length_nil]
  · (try simp only [decide_eq_true_eq, decide_eq_false_iff_not, Bool.not_eq_true', Bool.not_eq_false', beq_iff_eq, beq_eq_false_iff_ne, Int.not_lt, Int.not_le, ge_iff_le, gt_iff_lt, ne_eq, Bool.false_eq_true, Bool.true_eq_false, not_true_eq_false, not_false_eq_true, Bool.and_eq_true, Bool.not_eq_eq_eq_not, Bool.not_true, Bool.not_false, bne_iff_ne, bne_eq_false_iff_eq, Int.toNat_natCast, Nat.mul_one, Nat.add_zero, Nat.zero_add, List.take_length, List.drop_zero] at h1)
    all_goals
      refine Tree.GivesP.chk (by first | (simp only [and_self]; done) | ((repeat' with_reducible refine And.intro ?_ ?_) <;> first | trivial | (intro n hn; simp at hn; omega) | (intro hh; cases hh; done) | (simp only [short]; decide +kernel) | decide +kernel | (intro hh; revert hh; decide +kernel))) ?_
      refine Tree.GivesP.chk (by first | (simp only [and_self]; done) | ((repeat' with_reducible refine And.intro ?_ ?_) <;> first | trivial | (intro n hn; simp at hn; omega) | (intro hh; cases hh; done) | (simp only [short]; decide +kernel) | decide +kernel | (intro hh; revert hh; decide +kernel))) ?_
      refine Tree.GivesP.br (fun h2 => ?_) (fun h2 => ?_)
      · (try simp only [decide_eq_true_eq, decide_eq_false_iff_not, Bool.not_eq_true', Bool.not_eq_false', beq_iff_eq, beq_eq_false_iff_ne, Int.not_lt, Int.not_le, ge_iff_le, gt_iff_lt, ne_eq, Bool.false_eq_true, Bool.true_eq_false, not_true_eq_false, not_false_eq_true, Bool.and_eq_true, Bool.not_eq_eq_eq_not, Bool.not_true, Bool.not_false, bne_iff_ne, bne_eq_false_iff_eq, Int.toNat_natCast, Nat.mul_one, Nat.add_zero, Nat.zero_add, List.take_length, List.drop_zero] at h2)
        all_goals
          refine Tree.GivesP.br (fun h3 => ?_) (fun h3 => ?_)
          · (try simp only [decide_eq_true_eq, decide_eq_false_iff_not, Bool.not_eq_true', Bool.not_eq_false', beq_iff_eq, beq_eq_false_iff_ne, Int.not_lt, Int.not_le, ge_iff_le, gt_iff_lt, ne_eq, Bool.false_eq_true, Bool.true_eq_false, not_true_eq_false, not_false_eq_true, Bool.and_eq_true, Bool.not_eq_eq_eq_not, Bool.not_true, Bool.not_false, bne_iff_ne, bne_eq_false_iff_eq, Int.toNat_natCast, Nat.mul_one, Nat.add_zero, Nat.zero_add, List.take_length, List.drop_zero] at h3)
            all_goals
              refine Tree.GivesP.chk (by first | (simp only [and_self]; done) | ((repeat' with_reducible refine And.intro ?_ ?_) <;> first | trivial | (intro n hn; simp at hn; omega) | (intro hh; cases hh; done) | (simp only [short]; decide +kernel) | decide +kernel | (intro hh; revert hh; decide +kernel))) ?_
              refine Tree.GivesP.br (fun h4 => ?_) (fun h4 => ?_)
              · (try simp only [decide_eq_true_eq, decide_eq_false_iff_not, Bool.not_eq_true', Bool.not_eq_false', beq_iff_eq, beq_eq_false_iff_ne, Int.not_lt, Int.not_le, ge_iff_le, gt_iff_lt, ne_eq, Bool.false_eq_true, Bool.true_eq_false, not_true_eq_false, not_false_eq_true, Bool.and_eq_true, Bool.not_eq_eq_eq_not, Bool.not_true, Bool.not_false, bne_iff_ne, bne_eq_false_iff_eq, Int.toNat_natCast, Nat.mul_one, Nat.add_zero, Nat.zero_add, List.take_length, List.drop_zero] at h4)
                all_goals
                  refine Tree.GivesP.br (fun h5 => ?_) (fun h5 => ?_)
                  · (try simp only [decide_eq_true_eq, decide_eq_false_iff_not, Bool.not_eq_true', Bool.not_eq_false', beq_iff_eq, beq_eq_false_iff_ne, Int.not_lt, Int.not_le, ge_iff_le, gt_iff_lt, ne_eq, Bool.false_eq_true, Bool.true_eq_false, not_true_eq_false, not_false_eq_true, Bool.and_eq_true, Bool.not_eq_eq_eq_not, Bool.not_true, Bool.not_false, bne_iff_ne, bne_eq_false_iff_eq, Int.toNat_natCast, Nat.mul_one, Nat.add_zero, Nat.zero_add, List.take_length, List.drop_zero] at h5)
                    all_goals
                      refine Tree.GivesP.br (fun h6 => ?_) (fun h6 => ?_)
                      · (try simp only [decide_eq_true_eq, decide_eq_false_iff_not, Bool.not_eq_true', Bool.not_eq_false', beq_iff_eq, beq_eq_false_iff_ne, Int.not_lt, Int.not_le, ge_iff_le, gt_iff_lt, ne_eq, Bool.false_eq_true, Bool.true_eq_false, not_true_eq_false, not_false_eq_true, Bool.and_eq_true, Bool.not_eq_eq_eq_not, Bool.not_true, Bool.not_false, bne_iff_ne, bne_eq_false_iff_eq, Int.toNat_natCast, Nat.mul_one, Nat.add_zero, Nat.zero_add, List.take_length, List.drop_zero] at h6)
                        all_goals
                          refine Tree.GivesP.chk (by first | (simp only [and_self]; done) | ((repeat' with_reducible refine And.intro ?_ ?_) <;> first | trivial | (intro n hn; simp at hn; omega) | (intro hh; cases hh; done) | (simp only [short]; decide +kernel) | decide +kernel | (intro hh; revert hh; decide +kernel))) ?_
                          refine Tree.GivesP.ret ?_ ?_
                          · simp only [AV.le]
                          · simp only [AV.leL, AV.le, Mem.le, Mem.leP, Blk.le, Blk.pad, Data.le, Data.size, Cap.le, and_true, true_and, and_self, true_implies, implies_true, imp_self, List.length_nil]
                      · (try simp only [decide_eq_true_eq, decide_eq_false_iff_not, Bool.not_eq_true', Bool.not_eq_false', beq_iff_eq, beq_eq_false_iff_ne, Int.not_lt, Int.not_le, ge_iff_le, gt_iff_lt, ne_eq, Bool.false_eq_true, Bool.true_eq_false, not_true_eq_false, not_false_eq_true, Bool.and_eq_true, Bool.not_eq_eq_eq_not, Bool.not_true, Bool.not_false, bne_iff_ne, bne_eq_false_iff_eq, Int.toNat_natCast, Nat.mul_one, Nat.add_zero, Nat.zero_add, List.take_length, List.drop_zero] at h6)
                        all_goals
                          refine Tree.GivesP.ret ?_ ?_
                          · simp only [AV.le]
                          · simp only [AV.leL, AV.le, Mem.le, Mem.leP, Blk.le, Blk.pad, Data.le, Data.size, Cap.le, and_true, true_and, and_self, true_implies, implies_true, imp_self, List.length_nil]
                  · (try simp only [decide_eq_true_eq, decide_eq_false_iff_not, Bool.not_eq_true', Bool.not_eq_false', beq_iff_eq, beq_eq_false_iff_ne, Int.not_lt, Int.not_le, ge_iff_le, gt_iff_lt, ne_eq, Bool.false_eq_true, Bool.true_eq_false, not_true_eq_false, not_false_eq_true, Bool.and_eq_true, Bool.not_eq_eq_eq_not, Bool.not_true, Bool.not_false, bne_iff_ne, bne_eq_false_iff_eq, Int.toNat_natCast, Nat.mul_one, Nat.add_zero, Nat.zero_add, List.take_length, List.drop_zero] at h5)
                    all_goals
                      refine Tree.GivesP.ret ?_ ?_
                      · simp only [AV.le]
                      · simp only [AV.leL, AV.le, Mem.le, Mem.leP, Blk.le, Blk.pad, Data.le, Data.size, Cap.le, and_true, true_and, and_self, true_implies, implies_true, imp_self, List.length_nil]
              · (try simp only [decide_eq_true_eq, decide_eq_false_iff_not, Bool.not_eq_true', Bool.not_eq_false', beq_iff_eq, beq_eq_false_iff_ne, Int.not_lt, Int.not_le, ge_iff_le, gt_iff_lt, ne_eq, Bool.false_eq_true, Bool.true_eq_false, not_true_eq_false, not_false_eq_true, Bool.and_eq_true, Bool.not_eq_eq_eq_not, Bool.not_true, Bool.not_false, bne_iff_ne, bne_eq_false_iff_eq, Int.toNat_natCast, Nat.mul_one, Nat.add_zero, Nat.zero_add, List.take_length, List.drop_zero] at h4)
                all_goals
                  refine Tree.GivesP.ret ?_ ?_
                  · simp only [AV.le]
                  · simp only [AV.leL, AV.le, Mem.le, Mem.leP, Blk.le, Blk.pad, Data.le, Data.size, Cap.le, and_true, true_and, and_self, true_implies, implies_true, imp_self, List.length_nil]
          · (try simp only [decide_eq_true_eq, decide_eq_false_iff_not, Bool.not_eq_true', Bool.not_eq_false', beq_iff_eq, beq_eq_false_iff_ne, Int.not_lt, Int.not_le, ge_iff_le, gt_iff_lt, ne_eq, Bool.false_eq_true, Bool.true_eq_false, not_true_eq_false, not_false_eq_true, Bool.and_eq_true, Bool.not_eq_eq_eq_not, Bool.not_true, Bool.not_false, bne_iff_ne, bne_eq_false_iff_eq, Int.toNat_natCast, Nat.mul_one, Nat.add_zero, Nat.zero_add, List.take_length, List.drop_zero] at h3)
            all_goals
              refine Tree.GivesP.ret ?_ ?_
              · simp only [AV.le]
              · simp only [AV.leL, AV.le, Mem.le, Mem.leP, Blk.le, Blk.pad, Data.le, Data.size, Cap.le, and_true, true_and, and_self, true_implies, implies_true, imp_self, List.length_nil]
      · (try simp only [decide_eq_true_eq, decide_eq_false_iff_not, Bool.not_eq_true', Bool.not_eq_false', beq_iff_eq, beq_eq_false_iff_ne, Int.not_lt, Int.not_le, ge_iff_le, gt_iff_lt, ne_eq, Bool.false_eq_true, Bool.true_eq_false, not_true_eq_false, not_false_eq_true, Bool.and_eq_true, Bool.not_eq_eq_eq_not, Bool.not_true, Bool.not_false, bne_iff_ne, bne_eq_false_iff_eq, Int.toNat_natCast, Nat.mul_one, Nat.add_zero, Nat.zero_add, List.take_length, List.drop_zero] at h2)
        all_goals
          refine Tree.GivesP.ret ?_ ?_
          · simp only [AV.le]
          · simp only [AV.leL, AV.le, Mem.le, Mem.leP, Blk.le, Blk.pad, Data.le, Data.size, Cap.le, and_true, true_and, and_self, true_implies, implies_true, imp_self, List.length_nil]
theorem sworks (hall : AllOk Try.prog 0 (fun _ => none) tab19)  (hw : True) : SoundAt (mkC Try.prog 0 (fun _ => none) []) 14 [] [] (.bool false true, []) := sound_ofP hall mix (tworks ) (gworks  hw)
theorem Fworks_ok (hall : AllOk Try.prog 0 (fun _ => none) tab19) : PureF Try.prog 3 14 Fworks := by
  intro xs c v news h hc
  unfold Fworks at h
  split at h
  · skip
    cases h
    refine ⟨(by intro b hb; cases hb), SoundAt.flags (sworks hall  hc) ?_⟩
    simp [PA.avs, AV.le, AV.leL, Cap.le]
  · cases h
end Go.Proofs.Ytnkjblmlchbfkaa.Rig

/- Qfields -/
namespace Go.Proofs.Ytnkjblmlchbfkaa.Rig
open Go
set_option maxRecDepth 100000 in
theorem tLfields_0 (zws : Bool) (ws : List Int) (zvs : Bool) (vs : List Int) (i : Nat) : tidied Tfields_0 Ufields_0 2 (evCode (mkL Try.prog 0 (fun _ => none) tab20 rowsfields) (evCall (mkC Try.prog 0 (fun _ => none) tab20) 50) 19 2 fuelC (bodyAt Try.prog 19 0) (hdfields_0 ⟨zws, ws, zvs, vs, i⟩)) =
  Tree.br (decide ((i : Int) < ((List.length ws) : Int)))
  (Tree.br (!zws && decide ((0 : Int) ≤ (i : Int) ∧ (i : Int) < ((List.length ws) : Int)))
  (Tree.br (decide (Int.toNat (i : Int) * 1 + 0 + 1 ≤ List.length ws))
  (Tree.br (!zvs && decide ((0 : Int) ≤ (i : Int) ∧ (i : Int) < ((List.length vs) : Int)))
  (Tree.br (decide (Int.toNat (i : Int) * 1 + 0 + 1 ≤ List.length vs))
  (Tree.br (decide (List.getD vs (Int.toNat (i : Int) * 1 + 0 + 0) (0 : Int) < (0 : Int)))
  (Tree.ret
  (Ex.ret,
  St.mk
  [AV.junk, AV.junk, AV.junk, AV.junk, AV.sl true (Ref.mk (0) (0) (0) (0)) true (0) Cap.exact, AV.int IntKind.i64 true (2 : Int), AV.junk, AV.junk, AV.junk, AV.junk, AV.junk, AV.junk,
  AV.junk, AV.junk, AV.junk, AV.junk, AV.junk, AV.junk, AV.junk, AV.junk, AV.junk, AV.junk, AV.junk, AV.junk, AV.junk, AV.junk, AV.junk, AV.junk, AV.junk, AV.junk, AV.junk, AV.junk, AV.junk, AV.junk, AV.junk, AV.junk,
  AV.junk, AV.junk, AV.junk, AV.junk, AV.junk, AV.junk, AV.junk, AV.junk, AV.junk, AV.junk, AV.junk, AV.junk, AV.junk, AV.junk, AV.junk, AV.junk, AV.junk, AV.junk, AV.junk, AV.junk, AV.junk, AV.junk, AV.junk, AV.junk,
  AV.junk, AV.junk, AV.junk, AV.junk, AV.junk, AV.junk, AV.junk, AV.junk, AV.junk, AV.junk, AV.junk, AV.junk, AV.junk, AV.junk, AV.junk, AV.junk, AV.junk, AV.junk, AV.junk, AV.junk]
  [some (Blk.mk (3) false false true (Data.ints IntKind.i64 ws)), some (Blk.mk (3) false false true (Data.ints IntKind.i64 vs))]))
  (Tree.br (!zvs && decide ((0 : Int) ≤ (i : Int) ∧ (i : Int) < ((List.length vs) : Int)))
  (Tree.br (decide (Int.toNat (i : Int) * 1 + 0 + 1 ≤ List.length vs))
  (Tree.br (!decide (List.getD ws (Int.toNat (i : Int) * 1 + 0 + 0) (0 : Int) < (0 : Int)))
  (Tree.br
  (Int.fdiv (List.getD vs (Int.toNat (i : Int) * 1 + 0 + 0) (0 : Int)) ((2 : Int) ^ min (Int.toNat (List.getD ws (Int.toNat (i : Int) * 1 + 0 + 0) (0 : Int))) (64)) !=
  (0 : Int))
  (Tree.ret
  (Ex.ret,
  St.mk
  [AV.junk, AV.junk, AV.junk, AV.junk, AV.sl true (Ref.mk (0) (0) (0) (0)) true (0) Cap.exact, AV.int IntKind.i64 true (2 : Int), AV.junk, AV.junk, AV.junk, AV.junk, AV.junk,
  AV.junk, AV.junk, AV.junk, AV.junk, AV.junk, AV.junk, AV.junk, AV.junk, AV.junk, AV.junk, AV.junk, AV.junk, AV.junk, AV.junk, AV.junk, AV.junk, AV.junk, AV.junk, AV.junk, AV.junk, AV.junk, AV.junk, AV.junk,
  AV.junk, AV.junk, AV.junk, AV.junk, AV.junk, AV.junk, AV.junk, AV.junk, AV.junk, AV.junk, AV.junk, AV.junk, AV.junk, AV.junk, AV.junk, AV.junk, AV.junk, AV.junk, AV.junk, AV.junk, AV.junk, AV.junk, AV.junk,
  AV.junk, AV.junk, AV.junk, AV.junk, AV.junk, AV.junk, AV.junk, AV.junk, AV.junk, AV.junk, AV.junk, AV.junk, AV.junk, AV.junk, AV.junk, AV.junk, AV.junk, AV.junk, AV.junk, AV.junk, AV.junk, AV.junk, AV.junk]
  [some (Blk.mk (3) false false true (Data.ints IntKind.i64 ws)), some (Blk.mk (3) false false true (Data.ints IntKind.i64 vs))]))
  (Tree.br (!decide (List.getD ws (Int.toNat (i : Int) * 1 + 0 + 0) (0 : Int) < (0 : Int)))
  (Tree.br (!zvs && decide ((0 : Int) ≤ (i : Int) ∧ (i : Int) < ((List.length vs) : Int)))
  (Tree.br (decide (Int.toNat (i : Int) * 1 + 0 + 1 ≤ List.length vs))
  (Tree.br (decide (IntKind.wrap IntKind.i64 (roomTo ws vs i + List.getD ws (Int.toNat (i : Int) * 1 + 0 + 0) (0 : Int)) ≥ (16 : Int)))
  (Tree.br (!decide (IntKind.wrap IntKind.i64 (IntKind.wrap IntKind.i64 (roomTo ws vs i + List.getD ws (Int.toNat (i : Int) * 1 + 0 + 0) (0 : Int)) - (16 : Int)) < (0 : Int)))
  (Tree.br (decide (((List.length (outTo ws vs i) + 1) : Int) ≤ most48 ∧ (((List.length (outTo ws vs i) + 1) * 8) : Int) ≤ most48))
  (Tree.br
  (decide
  (List.length (outTo ws vs i) * 1 = Data.size (Data.ints IntKind.i64 (outTo ws vs i)) ∧
  Data.size
  (Data.cells
  (List.take (1 * 1)
  (List.drop (0)
  (List.take (0 * 1) (zerosOf (List.map ofCell [Value.int IntKind.i64 (0 : Int)]) 1) ++
  (AV.parts
  (opnd (mkL Try.prog 0 (fun x => none) tab20 rowsfields)
  [AV.junk, AV.sl zvs (Ref.mk 1 0 0 0) false (List.length vs) Cap.any, AV.junk, AV.junk, AV.junk, AV.junk, AV.junk,
  AV.sl (decide (outTo ws vs i = [])) (Ref.mk 2 0 0 0) false (List.length (outTo ws vs i)) Cap.own,
  AV.int IntKind.i64 false
  (IntKind.wrap IntKind.i64 (IntKind.wrap IntKind.i64 (roomTo ws vs i + List.getD ws (Int.toNat (i : Int) * 1 + 0 + 0) (0 : Int)) - (16 : Int))),
  AV.int IntKind.i64 false
  (IntKind.wrap IntKind.i64
  ((BitVec.toNat
  (BitVec.ofInt (64)
  (IntKind.wrap IntKind.i64
  (lastTo ws vs i * (2 : Int) ^ min (Int.toNat (List.getD ws (Int.toNat (i : Int) * 1 + 0 + 0) (0 : Int))) (64))) |||
  BitVec.ofInt (64) (List.getD vs (Int.toNat (i : Int) * 1 + 0 + 0) (0 : Int)))) : Int)),
  AV.int IntKind.i64 false (i : Int), AV.int IntKind.i64 false (List.getD ws (Int.toNat (i : Int) * 1 + 0 + 0) (0 : Int)), AV.junk, AV.junk, AV.junk, AV.junk,
  AV.junk, AV.junk, AV.junk, AV.junk, AV.junk, AV.junk, AV.sl zws (Ref.mk 0 0 0 0) false (List.length ws) Cap.any,
  AV.int IntKind.i64 false ((List.length ws) : Int), AV.int IntKind.i64 false (i : Int), AV.bool true true, AV.int IntKind.i64 false (i : Int),
  AV.ptr (Ref.mk (0) (Int.toNat (i : Int)) (1) (0)), AV.int IntKind.i64 false (List.getD ws (Int.toNat (i : Int) * 1 + 0 + 0) (0 : Int)),
  AV.sl zvs (Ref.mk 1 0 0 0) false (List.length vs) Cap.any, AV.int IntKind.i64 false (i : Int),
  AV.ptr (Ref.mk (1) (Int.toNat (i : Int)) (1) (0)), AV.int IntKind.i64 false (List.getD vs (Int.toNat (i : Int) * 1 + 0 + 0) (0 : Int)),
  AV.bool false (decide (List.getD vs (Int.toNat (i : Int) * 1 + 0 + 0) (0 : Int) < (0 : Int))), AV.bool true false,
  AV.sl zvs (Ref.mk 1 0 0 0) false (List.length vs) Cap.any, AV.int IntKind.i64 false (i : Int),
  AV.ptr (Ref.mk (1) (Int.toNat (i : Int)) (1) (0)), AV.int IntKind.i64 false (List.getD vs (Int.toNat (i : Int) * 1 + 0 + 0) (0 : Int)),
  AV.int IntKind.i64 false (List.getD ws (Int.toNat (i : Int) * 1 + 0 + 0) (0 : Int)),
  AV.int IntKind.i64 false
  (Int.fdiv (List.getD vs (Int.toNat (i : Int) * 1 + 0 + 0) (0 : Int))
  ((2 : Int) ^ min (Int.toNat (List.getD ws (Int.toNat (i : Int) * 1 + 0 + 0) (0 : Int))) (64))),
  AV.bool false
  (Int.fdiv (List.getD vs (Int.toNat (i : Int) * 1 + 0 + 0) (0 : Int))
  ((2 : Int) ^ min (Int.toNat (List.getD ws (Int.toNat (i : Int) * 1 + 0 + 0) (0 : Int))) (64)) !=
  (0 : Int)),
  AV.bool true false, AV.int IntKind.i64 false (lastTo ws vs i), AV.int IntKind.i64 false (List.getD ws (Int.toNat (i : Int) * 1 + 0 + 0) (0 : Int)),
  AV.int IntKind.i64 false
  (IntKind.wrap IntKind.i64 (lastTo ws vs i * (2 : Int) ^ min (Int.toNat (List.getD ws (Int.toNat (i : Int) * 1 + 0 + 0) (0 : Int))) (64))),
  AV.sl zvs (Ref.mk 1 0 0 0) false (List.length vs) Cap.any, AV.int IntKind.i64 false (i : Int),
  AV.ptr (Ref.mk (1) (Int.toNat (i : Int)) (1) (0)), AV.int IntKind.i64 false (List.getD vs (Int.toNat (i : Int) * 1 + 0 + 0) (0 : Int)),
  AV.int IntKind.i64 false
  (IntKind.wrap IntKind.i64
  ((BitVec.toNat
  (BitVec.ofInt (64)
  (IntKind.wrap IntKind.i64
  (lastTo ws vs i * (2 : Int) ^ min (Int.toNat (List.getD ws (Int.toNat (i : Int) * 1 + 0 + 0) (0 : Int))) (64))) |||
  BitVec.ofInt (64) (List.getD vs (Int.toNat (i : Int) * 1 + 0 + 0) (0 : Int)))) : Int)),
  AV.int IntKind.i64 false (roomTo ws vs i), AV.int IntKind.i64 false (List.getD ws (Int.toNat (i : Int) * 1 + 0 + 0) (0 : Int)),
  AV.int IntKind.i64 false (IntKind.wrap IntKind.i64 (roomTo ws vs i + List.getD ws (Int.toNat (i : Int) * 1 + 0 + 0) (0 : Int))),
  AV.int IntKind.i64 false (IntKind.wrap IntKind.i64 (roomTo ws vs i + List.getD ws (Int.toNat (i : Int) * 1 + 0 + 0) (0 : Int))), AV.bool true true,
  AV.int IntKind.i64 false (IntKind.wrap IntKind.i64 (roomTo ws vs i + List.getD ws (Int.toNat (i : Int) * 1 + 0 + 0) (0 : Int))),
  AV.int IntKind.i64 false
  (IntKind.wrap IntKind.i64 (IntKind.wrap IntKind.i64 (roomTo ws vs i + List.getD ws (Int.toNat (i : Int) * 1 + 0 + 0) (0 : Int)) - (16 : Int))),
  AV.sl (decide (outTo ws vs i = [])) (Ref.mk 2 0 0 0) false (List.length (outTo ws vs i)) Cap.own,
  AV.int IntKind.i64 false
  (IntKind.wrap IntKind.i64
  ((BitVec.toNat
  (BitVec.ofInt (64)
  (IntKind.wrap IntKind.i64
  (lastTo ws vs i * (2 : Int) ^ min (Int.toNat (List.getD ws (Int.toNat (i : Int) * 1 + 0 + 0) (0 : Int))) (64))) |||
  BitVec.ofInt (64) (List.getD vs (Int.toNat (i : Int) * 1 + 0 + 0) (0 : Int)))) : Int)),
  AV.int IntKind.i64 false
  (IntKind.wrap IntKind.i64 (IntKind.wrap IntKind.i64 (roomTo ws vs i + List.getD ws (Int.toNat (i : Int) * 1 + 0 + 0) (0 : Int)) - (16 : Int))),
  AV.int IntKind.i64 false
  (Int.fdiv
  (IntKind.wrap IntKind.i64
  ((BitVec.toNat
  (BitVec.ofInt (64)
  (IntKind.wrap IntKind.i64
  (lastTo ws vs i * (2 : Int) ^ min (Int.toNat (List.getD ws (Int.toNat (i : Int) * 1 + 0 + 0) (0 : Int))) (64))) |||
  BitVec.ofInt (64) (List.getD vs (Int.toNat (i : Int) * 1 + 0 + 0) (0 : Int)))) : Int))
  ((2 : Int) ^
  min
  (Int.toNat
  (IntKind.wrap IntKind.i64
  (IntKind.wrap IntKind.i64 (roomTo ws vs i + List.getD ws (Int.toNat (i : Int) * 1 + 0 + 0) (0 : Int)) - (16 : Int))))
  (64))),
  AV.junk, AV.junk, AV.junk, AV.junk, AV.junk, AV.junk, AV.junk, AV.junk, AV.junk, AV.junk, AV.junk, AV.junk, AV.junk, AV.junk, AV.junk, AV.junk, AV.junk, AV.junk]
  (Operand.tmp 61)) ++
  List.drop (0 * 1 + 1) (zerosOf (List.map ofCell [Value.int IntKind.i64 (0 : Int)]) 1)))))) =
  1 * 1) &&
  decide (outTo ws vs i = []) == decide ((outTo ws vs i) = []))
  (Tree.br (!decide (IntKind.wrap IntKind.i64 (IntKind.wrap IntKind.i64 (roomTo ws vs i + List.getD ws (Int.toNat (i : Int) * 1 + 0 + 0) (0 : Int)) - (16 : Int)) < (0 : Int)))
  (Tree.ret
  (Ex.norm,
  St.mk
  [AV.junk, AV.sl zvs (Ref.mk (1) (0) (0) (0)) false (List.length vs) Cap.any, AV.junk, AV.junk, AV.junk, AV.junk, AV.junk,
  AV.sl (decide (outTo ws vs i = []) && decide (1 = 0)) (Ref.mk (2) (0) (0) (0)) false (List.length (outTo ws vs i) + 1)
  Cap.own,
  AV.int IntKind.i64 false
  (IntKind.wrap IntKind.i64 (IntKind.wrap IntKind.i64 (roomTo ws vs i + List.getD ws (Int.toNat (i : Int) * 1 + 0 + 0) (0 : Int)) - (16 : Int))),
  AV.int IntKind.i64 false
  (IntKind.wrap IntKind.i64
  ((BitVec.toNat
  (BitVec.ofInt (64)
  (IntKind.wrap IntKind.i64
  ((BitVec.toNat
  (BitVec.ofInt (64)
  (IntKind.wrap IntKind.i64
  (lastTo ws vs i * (2 : Int) ^ min (Int.toNat (List.getD ws (Int.toNat (i : Int) * 1 + 0 + 0) (0 : Int))) (64))) |||
  BitVec.ofInt (64) (List.getD vs (Int.toNat (i : Int) * 1 + 0 + 0) (0 : Int)))) : Int)) &&&
  BitVec.ofInt (64)
  (IntKind.wrap IntKind.i64
  (IntKind.wrap IntKind.i64
  ((1 : Int) *
  (2 : Int) ^
  min
  (Int.toNat
  (IntKind.wrap IntKind.i64
  (IntKind.wrap IntKind.i64 (roomTo ws vs i + List.getD ws (Int.toNat (i : Int) * 1 + 0 + 0) (0 : Int)) - (16 : Int))))
  (64)) -
  (1 : Int))))) : Int)),
  AV.junk, AV.junk, AV.junk, AV.junk, AV.junk, AV.junk, AV.junk, AV.junk, AV.junk, AV.junk, AV.junk, AV.junk,
  AV.sl zws (Ref.mk (0) (0) (0) (0)) false (List.length ws) Cap.any, AV.int IntKind.i64 false ((List.length ws) : Int),
  AV.int IntKind.i64 false (IntKind.wrap IntKind.i64 ((i : Int) + (1 : Int))), AV.junk, AV.junk, AV.junk, AV.junk, AV.junk, AV.junk, AV.junk, AV.junk, AV.junk, AV.junk, AV.junk, AV.junk, AV.junk,
  AV.junk, AV.junk, AV.junk, AV.junk, AV.junk, AV.junk, AV.junk, AV.junk, AV.junk, AV.junk, AV.junk, AV.junk, AV.junk, AV.junk, AV.junk, AV.junk, AV.junk, AV.junk, AV.junk, AV.junk, AV.junk,
  AV.junk, AV.junk, AV.junk, AV.junk, AV.junk, AV.junk, AV.junk, AV.junk, AV.junk, AV.junk, AV.junk, AV.junk, AV.junk, AV.junk, AV.junk, AV.junk, AV.junk, AV.junk, AV.junk, AV.junk, AV.junk]
  [some (Blk.mk (3) false false true (Data.ints IntKind.i64 ws)), some (Blk.mk (3) false false true (Data.ints IntKind.i64 vs)),
  some
  (Blk.mk (3) true (Bool.rec false (decide (1 = 0)) (decide ((outTo ws vs i) = []))) true
  (Data.ints IntKind.i64
  (outTo ws vs i ++
  [Int.fdiv
  (IntKind.wrap IntKind.i64
  ((BitVec.toNat
  (BitVec.ofInt (64)
  (IntKind.wrap IntKind.i64
  (lastTo ws vs i * (2 : Int) ^ min (Int.toNat (List.getD ws (Int.toNat (i : Int) * 1 + 0 + 0) (0 : Int))) (64))) |||
  BitVec.ofInt (64) (List.getD vs (Int.toNat (i : Int) * 1 + 0 + 0) (0 : Int)))) : Int))
  ((2 : Int) ^
  min
  (Int.toNat
  (IntKind.wrap IntKind.i64 (IntKind.wrap IntKind.i64 (roomTo ws vs i + List.getD ws (Int.toNat (i : Int) * 1 + 0 + 0) (0 : Int)) - (16 : Int))))
  (64))])))]))
  Tree.fail)
  Tree.fail)
  Tree.fail)
  Tree.fail)
  (Tree.ret
  (Ex.norm,
  St.mk
  [AV.junk, AV.sl zvs (Ref.mk (1) (0) (0) (0)) false (List.length vs) Cap.any, AV.junk, AV.junk, AV.junk, AV.junk, AV.junk,
  AV.sl (decide (outTo ws vs i = [])) (Ref.mk (2) (0) (0) (0)) false (List.length (outTo ws vs i)) Cap.own,
  AV.int IntKind.i64 false (IntKind.wrap IntKind.i64 (roomTo ws vs i + List.getD ws (Int.toNat (i : Int) * 1 + 0 + 0) (0 : Int))),
  AV.int IntKind.i64 false
  (IntKind.wrap IntKind.i64
  ((BitVec.toNat
  (BitVec.ofInt (64)
  (IntKind.wrap IntKind.i64 (lastTo ws vs i * (2 : Int) ^ min (Int.toNat (List.getD ws (Int.toNat (i : Int) * 1 + 0 + 0) (0 : Int))) (64))) |||
  BitVec.ofInt (64) (List.getD vs (Int.toNat (i : Int) * 1 + 0 + 0) (0 : Int)))) : Int)),
  AV.junk, AV.junk, AV.junk, AV.junk, AV.junk, AV.junk, AV.junk, AV.junk, AV.junk, AV.junk, AV.junk, AV.junk,
  AV.sl zws (Ref.mk (0) (0) (0) (0)) false (List.length ws) Cap.any, AV.int IntKind.i64 false ((List.length ws) : Int),
  AV.int IntKind.i64 false (IntKind.wrap IntKind.i64 ((i : Int) + (1 : Int))), AV.junk, AV.junk, AV.junk, AV.junk, AV.junk, AV.junk, AV.junk, AV.junk, AV.junk, AV.junk, AV.junk, AV.junk, AV.junk, AV.junk,
  AV.junk, AV.junk, AV.junk, AV.junk, AV.junk, AV.junk, AV.junk, AV.junk, AV.junk, AV.junk, AV.junk, AV.junk, AV.junk, AV.junk, AV.junk, AV.junk, AV.junk, AV.junk, AV.junk, AV.junk, AV.junk, AV.junk,
  AV.junk, AV.junk, AV.junk, AV.junk, AV.junk, AV.junk, AV.junk, AV.junk, AV.junk, AV.junk, AV.junk, AV.junk, AV.junk, AV.junk, AV.junk, AV.junk, AV.junk, AV.junk, AV.junk]
  [some (Blk.mk (3) false false true (Data.ints IntKind.i64 ws)), some (Blk.mk (3) false false true (Data.ints IntKind.i64 vs)),
  some (Blk.mk (3) true (decide ((outTo ws vs i) = [])) true (Data.ints IntKind.i64 (outTo ws vs i)))])))
  Tree.fail)
  Tree.fail)
  Tree.fail))
  Tree.fail)
  Tree.fail)
  Tree.fail))
  Tree.fail)
  Tree.fail)
  Tree.fail)
  Tree.fail)
  (Tree.ret
  (Ex.exit (0),
  St.mk
  [AV.junk, AV.junk, AV.junk, AV.junk, AV.junk, AV.junk, AV.junk, AV.sl (decide (outTo ws vs i = [])) (Ref.mk (2) (0) (0) (0)) false (List.length (outTo ws vs i)) Cap.own,
  AV.int IntKind.i64 false (roomTo ws vs i), AV.int IntKind.i64 false (lastTo ws vs i), AV.junk, AV.junk, AV.junk, AV.junk, AV.junk, AV.junk, AV.junk, AV.junk, AV.junk, AV.junk, AV.junk, AV.junk, AV.junk, AV.junk,
  AV.junk, AV.junk, AV.junk, AV.junk, AV.junk, AV.junk, AV.junk, AV.junk, AV.junk, AV.junk, AV.junk, AV.junk, AV.junk, AV.junk, AV.junk, AV.junk, AV.junk, AV.junk, AV.junk, AV.junk, AV.junk, AV.junk, AV.junk, AV.junk, AV.junk,
  AV.junk, AV.junk, AV.junk, AV.junk, AV.junk, AV.junk, AV.junk, AV.junk, AV.junk, AV.junk, AV.junk, AV.junk, AV.junk, AV.junk, AV.junk, AV.junk, AV.junk, AV.junk, AV.junk, AV.junk, AV.junk, AV.junk, AV.junk, AV.junk, AV.junk,
  AV.junk, AV.junk, AV.junk, AV.junk, AV.junk, AV.junk]
  [some (Blk.mk (3) false false true (Data.ints IntKind.i64 ws)), some (Blk.mk (3) false false true (Data.ints IntKind.i64 vs)),
  some (Blk.mk (3) true (decide ((outTo ws vs i) = [])) true (Data.ints IntKind.i64 (outTo ws vs i)))])) := by kernel_rfl
set_option maxRecDepth 100000 in
theorem stepfields_0 (zws : Bool) (ws : List Int) (zvs : Bool) (vs : List Int) (i : Nat) (ex : Ex) (r : St) (hok : okfields_0 ⟨zws, ws, zvs, vs, i⟩) (hr : (outfields_0 ⟨zws, ws, zvs, vs, i⟩).runs (ex, r)) : (Tree.br (decide ((i : Int) < ((List.length ws) : Int)))
  (Tree.br (!zws && decide ((0 : Int) ≤ (i : Int) ∧ (i : Int) < ((List.length ws) : Int)))
  (Tree.br (decide (Int.toNat (i : Int) * 1 + 0 + 1 ≤ List.length ws))
  (Tree.br (!zvs && decide ((0 : Int) ≤ (i : Int) ∧ (i : Int) < ((List.length vs) : Int)))
  (Tree.br (decide (Int.toNat (i : Int) * 1 + 0 + 1 ≤ List.length vs))
  (Tree.br (decide (List.getD vs (Int.toNat (i : Int) * 1 + 0 + 0) (0 : Int) < (0 : Int)))
  (Tree.ret
  (Ex.ret,
  St.mk
  [AV.junk, AV.junk, AV.junk, AV.junk, AV.sl true (Ref.mk (0) (0) (0) (0)) true (0) Cap.exact, AV.int IntKind.i64 true (2 : Int), AV.junk, AV.junk, AV.junk, AV.junk, AV.junk, AV.junk,
  AV.junk, AV.junk, AV.junk, AV.junk, AV.junk, AV.junk, AV.junk, AV.junk, AV.junk, AV.junk, AV.junk, AV.junk, AV.junk, AV.junk, AV.junk, AV.junk, AV.junk, AV.junk, AV.junk, AV.junk, AV.junk, AV.junk, AV.junk, AV.junk,
  AV.junk, AV.junk, AV.junk, AV.junk, AV.junk, AV.junk, AV.junk, AV.junk, AV.junk, AV.junk, AV.junk, AV.junk, AV.junk, AV.junk, AV.junk, AV.junk, AV.junk, AV.junk, AV.junk, AV.junk, AV.junk, AV.junk, AV.junk, AV.junk,
  AV.junk, AV.junk, AV.junk, AV.junk, AV.junk, AV.junk, AV.junk, AV.junk, AV.junk, AV.junk, AV.junk, AV.junk, AV.junk, AV.junk, AV.junk, AV.junk, AV.junk, AV.junk, AV.junk, AV.junk]
  [some (Blk.mk (3) false false true (Data.ints IntKind.i64 ws)), some (Blk.mk (3) false false true (Data.ints IntKind.i64 vs))]))
  (Tree.br (!zvs && decide ((0 : Int) ≤ (i : Int) ∧ (i : Int) < ((List.length vs) : Int)))
  (Tree.br (decide (Int.toNat (i : Int) * 1 + 0 + 1 ≤ List.length vs))
  (Tree.br (!decide (List.getD ws (Int.toNat (i : Int) * 1 + 0 + 0) (0 : Int) < (0 : Int)))
  (Tree.br
  (Int.fdiv (List.getD vs (Int.toNat (i : Int) * 1 + 0 + 0) (0 : Int)) ((2 : Int) ^ min (Int.toNat (List.getD ws (Int.toNat (i : Int) * 1 + 0 + 0) (0 : Int))) (64)) !=
  (0 : Int))
  (Tree.ret
  (Ex.ret,
  St.mk
  [AV.junk, AV.junk, AV.junk, AV.junk, AV.sl true (Ref.mk (0) (0) (0) (0)) true (0) Cap.exact, AV.int IntKind.i64 true (2 : Int), AV.junk, AV.junk, AV.junk, AV.junk, AV.junk,
  AV.junk, AV.junk, AV.junk, AV.junk, AV.junk, AV.junk, AV.junk, AV.junk, AV.junk, AV.junk, AV.junk, AV.junk, AV.junk, AV.junk, AV.junk, AV.junk, AV.junk, AV.junk, AV.junk, AV.junk, AV.junk, AV.junk, AV.junk,
  AV.junk, AV.junk, AV.junk, AV.junk, AV.junk, AV.junk, AV.junk, AV.junk, AV.junk, AV.junk, AV.junk, AV.junk, AV.junk, AV.junk, AV.junk, AV.junk, AV.junk, AV.junk, AV.junk, AV.junk, AV.junk, AV.junk, AV.junk,
  AV.junk, AV.junk, AV.junk, AV.junk, AV.junk, AV.junk, AV.junk, AV.junk, AV.junk, AV.junk, AV.junk, AV.junk, AV.junk, AV.junk, AV.junk, AV.junk, AV.junk, AV.junk, AV.junk, AV.junk, AV.junk, AV.junk, AV.junk]
  [some (Blk.mk (3) false false true (Data.ints IntKind.i64 ws)), some (Blk.mk (3) false false true (Data.ints IntKind.i64 vs))]))
  (Tree.br (!decide (List.getD ws (Int.toNat (i : Int) * 1 + 0 + 0) (0 : Int) < (0 : Int)))
  (Tree.br (!zvs && decide ((0 : Int) ≤ (i : Int) ∧ (i : Int) < ((List.length vs) : Int)))
  (Tree.br (decide (Int.toNat (i : Int) * 1 + 0 + 1 ≤ List.length vs))
  (Tree.br (decide (IntKind.wrap IntKind.i64 (roomTo ws vs i + List.getD ws (Int.toNat (i : Int) * 1 + 0 + 0) (0 : Int)) ≥ (16 : Int)))
  (Tree.br (!decide (IntKind.wrap IntKind.i64 (IntKind.wrap IntKind.i64 (roomTo ws vs i + List.getD ws (Int.toNat (i : Int) * 1 + 0 + 0) (0 : Int)) - (16 : Int)) < (0 : Int)))
  (Tree.br (decide (((List.length (outTo ws vs i) + 1) : Int) ≤ most48 ∧ (((List.length (outTo ws vs i) + 1) * 8) : Int) ≤ most48))
  (Tree.br
  (decide
  (List.length (outTo ws vs i) * 1 = Data.size (Data.ints IntKind.i64 (outTo ws vs i)) ∧
  Data.size
  (Data.cells
  (List.take (1 * 1)
  (List.drop (0)
  (List.take (0 * 1) (zerosOf (List.map ofCell [Value.int IntKind.i64 (0 : Int)]) 1) ++
  (AV.parts
  (opnd (mkL Try.prog 0 (fun x => none) tab20 rowsfields)
  [AV.junk, AV.sl zvs (Ref.mk 1 0 0 0) false (List.length vs) Cap.any, AV.junk, AV.junk, AV.junk, AV.junk, AV.junk,
  AV.sl (decide (outTo ws vs i = [])) (Ref.mk 2 0 0 0) false (List.length (outTo ws vs i)) Cap.own,
  AV.int IntKind.i64 false
  (IntKind.wrap IntKind.i64 (IntKind.wrap IntKind.i64 (roomTo ws vs i + List.getD ws (Int.toNat (i : Int) * 1 + 0 + 0) (0 : Int)) - (16 : Int))),
  AV.int IntKind.i64 false
  (IntKind.wrap IntKind.i64
  ((BitVec.toNat
  (BitVec.ofInt (64)
  (IntKind.wrap IntKind.i64
  (lastTo ws vs i * (2 : Int) ^ min (Int.toNat (List.getD ws (Int.toNat (i : Int) * 1 + 0 + 0) (0 : Int))) (64))) |||
  BitVec.ofInt (64) (List.getD vs (Int.toNat (i : Int) * 1 + 0 + 0) (0 : Int)))) : Int)),
  AV.int IntKind.i64 false (i : Int), AV.int IntKind.i64 false (List.getD ws (Int.toNat (i : Int) * 1 + 0 + 0) (0 : Int)), AV.junk, AV.junk, AV.junk, AV.junk,
  AV.junk, AV.junk, AV.junk, AV.junk, AV.junk, AV.junk, AV.sl zws (Ref.mk 0 0 0 0) false (List.length ws) Cap.any,
  AV.int IntKind.i64 false ((List.length ws) : Int), AV.int IntKind.i64 false (i : Int), AV.bool true true, AV.int IntKind.i64 false (i : Int),
  AV.ptr (Ref.mk (0) (Int.toNat (i : Int)) (1) (0)), AV.int IntKind.i64 false (List.getD ws (Int.toNat (i : Int) * 1 + 0 + 0) (0 : Int)),
  AV.sl zvs (Ref.mk 1 0 0 0) false (List.length vs) Cap.any, AV.int IntKind.i64 false (i : Int),
  AV.ptr (Ref.mk (1) (Int.toNat (i : Int)) (1) (0)), AV.int IntKind.i64 false (List.getD vs (Int.toNat (i : Int) * 1 + 0 + 0) (0 : Int)),
  AV.bool false (decide (List.getD vs (Int.toNat (i : Int) * 1 + 0 + 0) (0 : Int) < (0 : Int))), AV.bool true false,
  AV.sl zvs (Ref.mk 1 0 0 0) false (List.length vs) Cap.any, AV.int IntKind.i64 false (i : Int),
  AV.ptr (Ref.mk (1) (Int.toNat (i : Int)) (1) (0)), AV.int IntKind.i64 false (List.getD vs (Int.toNat (i : Int) * 1 + 0 + 0) (0 : Int)),
  AV.int IntKind.i64 false (List.getD ws (Int.toNat (i : Int) * 1 + 0 + 0) (0 : Int)),
  AV.int IntKind.i64 false
  (Int.fdiv (List.getD vs (Int.toNat (i : Int) * 1 + 0 + 0) (0 : Int))
  ((2 : Int) ^ min (Int.toNat (List.getD ws (Int.toNat (i : Int) * 1 + 0 + 0) (0 : Int))) (64))),
  AV.bool false
  (Int.fdiv (List.getD vs (Int.toNat (i : Int) * 1 + 0 + 0) (0 : Int))
  ((2 : Int) ^ min (Int.toNat (List.getD ws (Int.toNat (i : Int) * 1 + 0 + 0) (0 : Int))) (64)) !=
  (0 : Int)),
  AV.bool true false, AV.int IntKind.i64 false (lastTo ws vs i), AV.int IntKind.i64 false (List.getD ws (Int.toNat (i : Int) * 1 + 0 + 0) (0 : Int)),
  AV.int IntKind.i64 false
  (IntKind.wrap IntKind.i64 (lastTo ws vs i * (2 : Int) ^ min (Int.toNat (List.getD ws (Int.toNat (i : Int) * 1 + 0 + 0) (0 : Int))) (64))),
  AV.sl zvs (Ref.mk 1 0 0 0) false (List.length vs) Cap.any, AV.int IntKind.i64 false (i : Int),
  AV.ptr (Ref.mk (1) (Int.toNat (i : Int)) (1) (0)), AV.int IntKind.i64 false (List.getD vs (Int.toNat (i : Int) * 1 + 0 + 0) (0 : Int)),
  AV.int IntKind.i64 false
  (IntKind.wrap IntKind.i64
  ((BitVec.toNat
  (BitVec.ofInt (64)
  (IntKind.wrap IntKind.i64
  (lastTo ws vs i * (2 : Int) ^ min (Int.toNat (List.getD ws (Int.toNat (i : Int) * 1 + 0 + 0) (0 : Int))) (64))) |||
  BitVec.ofInt (64) (List.getD vs (Int.toNat (i : Int) * 1 + 0 + 0) (0 : Int)))) : Int)),
  AV.int IntKind.i64 false (roomTo ws vs i), AV.int IntKind.i64 false (List.getD ws (Int.toNat (i : Int) * 1 + 0 + 0) (0 : Int)),
  AV.int IntKind.i64 false (IntKind.wrap IntKind.i64 (roomTo ws vs i + List.getD ws (Int.toNat (i : Int) * 1 + 0 + 0) (0 : Int))),
  AV.int IntKind.i64 false (IntKind.wrap IntKind.i64 (roomTo ws vs i + List.getD ws (Int.toNat (i : Int) * 1 + 0 + 0) (0 : Int))), AV.bool true true,
  AV.int IntKind.i64 false (IntKind.wrap IntKind.i64 (roomTo ws vs i + List.getD ws (Int.toNat (i : Int) * 1 + 0 + 0) (0 : Int))),
  AV.int IntKind.i64 false
  (IntKind.wrap IntKind.i64 (IntKind.wrap IntKind.i64 (roomTo ws vs i + List.getD ws (Int.toNat (i : Int) * 1 + 0 + 0) (0 : Int)) - (16 : Int))),
  AV.sl (decide (outTo ws vs i = [])) (Ref.mk 2 0 0 0) false (List.length (outTo ws vs i)) Cap.own,
  AV.int IntKind.i64 false
  (IntKind.wrap IntKind.i64
  ((BitVec.toNat
  (BitVec.ofInt (64)
  (IntKind.wrap IntKind.i64
  (lastTo ws vs i * (2 : Int) ^ min (Int.toNat (List.getD ws (Int.toNat (i : Int) * 1 + 0 + 0) (0 : Int))) (64))) |||
  BitVec.ofInt (64) (List.getD vs (Int.toNat (i : Int) * 1 + 0 + 0) (0 : Int)))) : Int)),
  AV.int IntKind.i64 false
  (IntKind.wrap IntKind.i64 (IntKind.wrap IntKind.i64 (roomTo ws vs i + List.getD ws (Int.toNat (i : Int) * 1 + 0 + 0) (0 : Int)) - (16 : Int))),
  AV.int IntKind.i64 false
  (Int.fdiv
  (IntKind.wrap IntKind.i64
  ((BitVec.toNat
  (BitVec.ofInt (64)
  (IntKind.wrap IntKind.i64
  (lastTo ws vs i * (2 : Int) ^ min (Int.toNat (List.getD ws (Int.toNat (i : Int) * 1 + 0 + 0) (0 : Int))) (64))) |||
  BitVec.ofInt (64) (List.getD vs (Int.toNat (i : Int) * 1 + 0 + 0) (0 : Int)))) : Int))
  ((2 : Int) ^
  min
  (Int.toNat
  (IntKind.wrap IntKind.i64
  (IntKind.wrap IntKind.i64 (roomTo ws vs i + List.getD ws (Int.toNat (i : Int) * 1 + 0 + 0) (0 : Int)) - (16 : Int))))
  (64))),
  AV.junk, AV.junk, AV.junk, AV.junk, AV.junk, AV.junk, AV.junk, AV.junk, AV.junk, AV.junk, AV.junk, AV.junk, AV.junk, AV.junk, AV.junk, AV.junk, AV.junk, AV.junk]
  (Operand.tmp 61)) ++
  List.drop (0 * 1 + 1) (zerosOf (List.map ofCell [Value.int IntKind.i64 (0 : Int)]) 1)))))) =
  1 * 1) &&
  decide (outTo ws vs i = []) == decide ((outTo ws vs i) = []))
  (Tree.br (!decide (IntKind.wrap IntKind.i64 (IntKind.wrap IntKind.i64 (roomTo ws vs i + List.getD ws (Int.toNat (i : Int) * 1 + 0 + 0) (0 : Int)) - (16 : Int)) < (0 : Int)))
  (Tree.ret
  (Ex.norm,
  St.mk
  [AV.junk, AV.sl zvs (Ref.mk (1) (0) (0) (0)) false (List.length vs) Cap.any, AV.junk, AV.junk, AV.junk, AV.junk, AV.junk,
  AV.sl (decide (outTo ws vs i = []) && decide (1 = 0)) (Ref.mk (2) (0) (0) (0)) false (List.length (outTo ws vs i) + 1)
  Cap.own,
  AV.int IntKind.i64 false
  (IntKind.wrap IntKind.i64 (IntKind.wrap IntKind.i64 (roomTo ws vs i + List.getD ws (Int.toNat (i : Int) * 1 + 0 + 0) (0 : Int)) - (16 : Int))),
  AV.int IntKind.i64 false
  (IntKind.wrap IntKind.i64
  ((BitVec.toNat
  (BitVec.ofInt (64)
  (IntKind.wrap IntKind.i64
  ((BitVec.toNat
  (BitVec.ofInt (64)
  (IntKind.wrap IntKind.i64
  (lastTo ws vs i * (2 : Int) ^ min (Int.toNat (List.getD ws (Int.toNat (i : Int) * 1 + 0 + 0) (0 : Int))) (64))) |||
  BitVec.ofInt (64) (List.getD vs (Int.toNat (i : Int) * 1 + 0 + 0) (0 : Int)))) : Int)) &&&
  BitVec.ofInt (64)
  (IntKind.wrap IntKind.i64
  (IntKind.wrap IntKind.i64
  ((1 : Int) *
  (2 : Int) ^
  min
  (Int.toNat
  (IntKind.wrap IntKind.i64
  (IntKind.wrap IntKind.i64 (roomTo ws vs i + List.getD ws (Int.toNat (i : Int) * 1 + 0 + 0) (0 : Int)) - (16 : Int))))
  (64)) -
  (1 : Int))))) : Int)),
  AV.junk, AV.junk, AV.junk, AV.junk, AV.junk, AV.junk, AV.junk, AV.junk, AV.junk, AV.junk, AV.junk, AV.junk,
  AV.sl zws (Ref.mk (0) (0) (0) (0)) false (List.length ws) Cap.any, AV.int IntKind.i64 false ((List.length ws) : Int),
  AV.int IntKind.i64 false (IntKind.wrap IntKind.i64 ((i : Int) + (1 : Int))), AV.junk, AV.junk, AV.junk, AV.junk, AV.junk, AV.junk, AV.junk, AV.junk, AV.junk, AV.junk, AV.junk, AV.junk, AV.junk,
  AV.junk, AV.junk, AV.junk, AV.junk, AV.junk, AV.junk, AV.junk, AV.junk, AV.junk, AV.junk, AV.junk, AV.junk, AV.junk, AV.junk, AV.junk, AV.junk, AV.junk, AV.junk, AV.junk, AV.junk, AV.junk,
  AV.junk, AV.junk, AV.junk, AV.junk, AV.junk, AV.junk, AV.junk, AV.junk, AV.junk, AV.junk, AV.junk, AV.junk, AV.junk, AV.junk, AV.junk, AV.junk, AV.junk, AV.junk, AV.junk, AV.junk, AV.junk]
  [some (Blk.mk (3) false false true (Data.ints IntKind.i64 ws)), some (Blk.mk (3) false false true (Data.ints IntKind.i64 vs)),
  some
  (Blk.mk (3) true (Bool.rec false (decide (1 = 0)) (decide ((outTo ws vs i) = []))) true
  (Data.ints IntKind.i64
  (outTo ws vs i ++
  [Int.fdiv
  (IntKind.wrap IntKind.i64
  ((BitVec.toNat
  (BitVec.ofInt (64)
  (IntKind.wrap IntKind.i64
  (lastTo ws vs i * (2 : Int) ^ min (Int.toNat (List.getD ws (Int.toNat (i : Int) * 1 + 0 + 0) (0 : Int))) (64))) |||
  BitVec.ofInt (64) (List.getD vs (Int.toNat (i : Int) * 1 + 0 + 0) (0 : Int)))) : Int))
  ((2 : Int) ^
  min
  (Int.toNat
  (IntKind.wrap IntKind.i64 (IntKind.wrap IntKind.i64 (roomTo ws vs i + List.getD ws (Int.toNat (i : Int) * 1 + 0 + 0) (0 : Int)) - (16 : Int))))
  (64))])))]))
  Tree.fail)
  Tree.fail)
  Tree.fail)
  Tree.fail)
  (Tree.ret
  (Ex.norm,
  St.mk
  [AV.junk, AV.sl zvs (Ref.mk (1) (0) (0) (0)) false (List.length vs) Cap.any, AV.junk, AV.junk, AV.junk, AV.junk, AV.junk,
  AV.sl (decide (outTo ws vs i = [])) (Ref.mk (2) (0) (0) (0)) false (List.length (outTo ws vs i)) Cap.own,
  AV.int IntKind.i64 false (IntKind.wrap IntKind.i64 (roomTo ws vs i + List.getD ws (Int.toNat (i : Int) * 1 + 0 + 0) (0 : Int))),
  AV.int IntKind.i64 false
  (IntKind.wrap IntKind.i64
  ((BitVec.toNat
  (BitVec.ofInt (64)
  (IntKind.wrap IntKind.i64 (lastTo ws vs i * (2 : Int) ^ min (Int.toNat (List.getD ws (Int.toNat (i : Int) * 1 + 0 + 0) (0 : Int))) (64))) |||
  BitVec.ofInt (64) (List.getD vs (Int.toNat (i : Int) * 1 + 0 + 0) (0 : Int)))) : Int)),
  AV.junk, AV.junk, AV.junk, AV.junk, AV.junk, AV.junk, AV.junk, AV.junk, AV.junk, AV.junk, AV.junk, AV.junk,
  AV.sl zws (Ref.mk (0) (0) (0) (0)) false (List.length ws) Cap.any, AV.int IntKind.i64 false ((List.length ws) : Int),
  AV.int IntKind.i64 false (IntKind.wrap IntKind.i64 ((i : Int) + (1 : Int))), AV.junk, AV.junk, AV.junk, AV.junk, AV.junk, AV.junk, AV.junk, AV.junk, AV.junk, AV.junk, AV.junk, AV.junk, AV.junk, AV.junk,
  AV.junk, AV.junk, AV.junk, AV.junk, AV.junk, AV.junk, AV.junk, AV.junk, AV.junk, AV.junk, AV.junk, AV.junk, AV.junk, AV.junk, AV.junk, AV.junk, AV.junk, AV.junk, AV.junk, AV.junk, AV.junk, AV.junk,
  AV.junk, AV.junk, AV.junk, AV.junk, AV.junk, AV.junk, AV.junk, AV.junk, AV.junk, AV.junk, AV.junk, AV.junk, AV.junk, AV.junk, AV.junk, AV.junk, AV.junk, AV.junk, AV.junk]
  [some (Blk.mk (3) false false true (Data.ints IntKind.i64 ws)), some (Blk.mk (3) false false true (Data.ints IntKind.i64 vs)),
  some (Blk.mk (3) true (decide ((outTo ws vs i) = [])) true (Data.ints IntKind.i64 (outTo ws vs i)))])))
  Tree.fail)
  Tree.fail)
  Tree.fail))
  Tree.fail)
  Tree.fail)
  Tree.fail))
  Tree.fail)
  Tree.fail)
  Tree.fail)
  Tree.fail)
  (Tree.ret
  (Ex.exit (0),
  St.mk
  [AV.junk, AV.junk, AV.junk, AV.junk, AV.junk, AV.junk, AV.junk, AV.sl (decide (outTo ws vs i = [])) (Ref.mk (2) (0) (0) (0)) false (List.length (outTo ws vs i)) Cap.own,
  AV.int IntKind.i64 false (roomTo ws vs i), AV.int IntKind.i64 false (lastTo ws vs i), AV.junk, AV.junk, AV.junk, AV.junk, AV.junk, AV.junk, AV.junk, AV.junk, AV.junk, AV.junk, AV.junk, AV.junk, AV.junk, AV.junk,
  AV.junk, AV.junk, AV.junk, AV.junk, AV.junk, AV.junk, AV.junk, AV.junk, AV.junk, AV.junk, AV.junk, AV.junk, AV.junk, AV.junk, AV.junk, AV.junk, AV.junk, AV.junk, AV.junk, AV.junk, AV.junk, AV.junk, AV.junk, AV.junk, AV.junk,
  AV.junk, AV.junk, AV.junk, AV.junk, AV.junk, AV.junk, AV.junk, AV.junk, AV.junk, AV.junk, AV.junk, AV.junk, AV.junk, AV.junk, AV.junk, AV.junk, AV.junk, AV.junk, AV.junk, AV.junk, AV.junk, AV.junk, AV.junk, AV.junk, AV.junk,
  AV.junk, AV.junk, AV.junk, AV.junk, AV.junk, AV.junk]
  [some (Blk.mk (3) false false true (Data.ints IntKind.i64 ws)), some (Blk.mk (3) false false true (Data.ints IntKind.i64 vs)),
  some (Blk.mk (3) true (decide ((outTo ws vs i) = [])) true (Data.ints IntKind.i64 (outTo ws vs i)))])) : Tree (Ex × St)).Sat (Post hdfields_0 resfields_0 mufields_0 ⟨zws, ws, zvs, vs, i⟩ ex r) := by
  simp only [okfields_0, outfields_0, Tree.runs] at hok hr
  obtain ⟨hm, hl, hzw, hzv, hwv, hi, hf⟩ := hok
  obtain ⟨h256, hbv⟩ := may_ok hm
  have hg := fun h => badV_get (i := i) hbv h
  have hvb := fun h => wfL_get (i := i) hwv h
  obtain ⟨r0, r1, t0, t1, t2⟩ := to_bounds ws vs i
  have hol := outTo_len (i := i) hbv hl hi
  have ew : i < ws.length → IntKind.i64.wrap (roomTo ws vs i + ws.getD i 0) = roomTo ws vs i + ws.getD i 0 := fun h => by have := hg h; rw [w64]; omega
  simp only [Int.toNat_natCast, Nat.mul_one, Nat.add_zero]
  refine Tree.Sat.br (fun h1 => ?_) (fun h1 => ?_)
  · (try simp only [decide_eq_true_eq, decide_eq_false_iff_not, Bool.not_eq_true', Bool.not_eq_false', beq_iff_eq, beq_eq_false_iff_ne, Int.not_lt, Int.not_le, ge_iff_le, gt_iff_lt, ne_eq, Bool.false_eq_true, Bool.true_eq_false, not_true_eq_false, not_false_eq_true, Bool.and_eq_true, Bool.not_eq_eq_eq_not, Bool.not_true, Bool.not_false, bne_iff_ne, bne_eq_false_iff_eq, Int.toNat_natCast, Nat.mul_one, Nat.add_zero, Nat.zero_add, List.take_length, List.drop_zero] at h1)
    all_goals
      refine Tree.Sat.br (fun h2 => ?_) (fun h2 => ?_)
      · (try simp only [decide_eq_true_eq, decide_eq_false_iff_not, Bool.not_eq_true', Bool.not_eq_false', beq_iff_eq, beq_eq_false_iff_ne, Int.not_lt, Int.not_le, ge_iff_le, gt_iff_lt, ne_eq, Bool.false_eq_true, Bool.true_eq_false, not_true_eq_false, not_false_eq_true, Bool.and_eq_true, Bool.not_eq_eq_eq_not, Bool.not_true, Bool.not_false, bne_iff_ne, bne_eq_false_iff_eq, Int.toNat_natCast, Nat.mul_one, Nat.add_zero, Nat.zero_add, List.take_length, List.drop_zero] at h2)
        all_goals
          refine Tree.Sat.br (fun h3 => ?_) (fun h3 => ?_)
          · (try simp only [decide_eq_true_eq, decide_eq_false_iff_not, Bool.not_eq_true', Bool.not_eq_false', beq_iff_eq, beq_eq_false_iff_ne, Int.not_lt, Int.not_le, ge_iff_le, gt_iff_lt, ne_eq, Bool.false_eq_true, Bool.true_eq_false, not_true_eq_false, not_false_eq_true, Bool.and_eq_true, Bool.not_eq_eq_eq_not, Bool.not_true, Bool.not_false, bne_iff_ne, bne_eq_false_iff_eq, Int.toNat_natCast, Nat.mul_one, Nat.add_zero, Nat.zero_add, List.take_length, List.drop_zero] at h3)
            all_goals
              refine Tree.Sat.br (fun h4 => ?_) (fun h4 => ?_)
              · (try simp only [decide_eq_true_eq, decide_eq_false_iff_not, Bool.not_eq_true', Bool.not_eq_false', beq_iff_eq, beq_eq_false_iff_ne, Int.not_lt, Int.not_le, ge_iff_le, gt_iff_lt, ne_eq, Bool.false_eq_true, Bool.true_eq_false, not_true_eq_false, not_false_eq_true, Bool.and_eq_true, Bool.not_eq_eq_eq_not, Bool.not_true, Bool.not_false, bne_iff_ne, bne_eq_false_iff_eq, Int.toNat_natCast, Nat.mul_one, Nat.add_zero, Nat.zero_add, List.take_length, List.drop_zero] at h4)
                all_goals
                  refine Tree.Sat.br (fun h5 => ?_) (fun h5 => ?_)
                  · (try simp only [decide_eq_true_eq, decide_eq_false_iff_not, Bool.not_eq_true', Bool.not_eq_false', beq_iff_eq, beq_eq_false_iff_ne, Int.not_lt, Int.not_le, ge_iff_le, gt_iff_lt, ne_eq, Bool.false_eq_true, Bool.true_eq_false, not_true_eq_false, not_false_eq_true, Bool.and_eq_true, Bool.not_eq_eq_eq_not, Bool.not_true, Bool.not_false, bne_iff_ne, bne_eq_false_iff_eq, Int.toNat_natCast, Nat.mul_one, Nat.add_zero, Nat.zero_add, List.take_length, List.drop_zero] at h5)
                    all_goals
                      refine Tree.Sat.br (fun h6 => ?_) (fun h6 => ?_)
                      · (try simp only [decide_eq_true_eq, decide_eq_false_iff_not, Bool.not_eq_true', Bool.not_eq_false', beq_iff_eq, beq_eq_false_iff_ne, Int.not_lt, Int.not_le, ge_iff_le, gt_iff_lt, ne_eq, Bool.false_eq_true, Bool.true_eq_false, not_true_eq_false, not_false_eq_true, Bool.and_eq_true, Bool.not_eq_eq_eq_not, Bool.not_true, Bool.not_false, bne_iff_ne, bne_eq_false_iff_eq, Int.toNat_natCast, Nat.mul_one, Nat.add_zero, Nat.zero_add, List.take_length, List.drop_zero] at h6)
                        all_goals
                          refine Tree.Sat.ret ?_
                          have hq := hr.2 (fitF_miss (i := i) (by omega) hl (fun hh => absurd hh.1 (by omega)))
                          simp only [Prod.mk.injEq] at hq
                          obtain ⟨rfl, rfl⟩ := hq
                          refine .ret rfl ?_
                          constructor <;> simp only [AV.leL, AV.le, Mem.le, Mem.leP, Blk.le, Blk.pad, Data.le, Data.size, Cap.le, and_true, true_and, and_self, true_implies, implies_true, imp_self, List.length_nil] <;> (repeat' with_reducible refine And.intro ?_ ?_) <;> (try simp only [Int.toNat_natCast, Nat.mul_one, Nat.add_zero, Nat.zero_add]) <;> done
                      · (try simp only [decide_eq_true_eq, decide_eq_false_iff_not, Bool.not_eq_true', Bool.not_eq_false', beq_iff_eq, beq_eq_false_iff_ne, Int.not_lt, Int.not_le, ge_iff_le, gt_iff_lt, ne_eq, Bool.false_eq_true, Bool.true_eq_false, not_true_eq_false, not_false_eq_true, Bool.and_eq_true, Bool.not_eq_eq_eq_not, Bool.not_true, Bool.not_false, bne_iff_ne, bne_eq_false_iff_eq, Int.toNat_natCast, Nat.mul_one, Nat.add_zero, Nat.zero_add, List.take_length, List.drop_zero] at h6)
                        all_goals
                          refine Tree.Sat.br (fun h7 => ?_) (fun h7 => ?_)
                          · (try simp only [decide_eq_true_eq, decide_eq_false_iff_not, Bool.not_eq_true', Bool.not_eq_false', beq_iff_eq, beq_eq_false_iff_ne, Int.not_lt, Int.not_le, ge_iff_le, gt_iff_lt, ne_eq, Bool.false_eq_true, Bool.true_eq_false, not_true_eq_false, not_false_eq_true, Bool.and_eq_true, Bool.not_eq_eq_eq_not, Bool.not_true, Bool.not_false, bne_iff_ne, bne_eq_false_iff_eq, Int.toNat_natCast, Nat.mul_one, Nat.add_zero, Nat.zero_add, List.take_length, List.drop_zero] at h7)
                            all_goals
                              refine Tree.Sat.br (fun h8 => ?_) (fun h8 => ?_)
                              · (try simp only [decide_eq_true_eq, decide_eq_false_iff_not, Bool.not_eq_true', Bool.not_eq_false', beq_iff_eq, beq_eq_false_iff_ne, Int.not_lt, Int.not_le, ge_iff_le, gt_iff_lt, ne_eq, Bool.false_eq_true, Bool.true_eq_false, not_true_eq_false, not_false_eq_true, Bool.and_eq_true, Bool.not_eq_eq_eq_not, Bool.not_true, Bool.not_false, bne_iff_ne, bne_eq_false_iff_eq, Int.toNat_natCast, Nat.mul_one, Nat.add_zero, Nat.zero_add, List.take_length, List.drop_zero] at h8)
                                all_goals
                                  refine Tree.Sat.br (fun h9 => ?_) (fun h9 => ?_)
                                  · (try simp only [decide_eq_true_eq, decide_eq_false_iff_not, Bool.not_eq_true', Bool.not_eq_false', beq_iff_eq, beq_eq_false_iff_ne, Int.not_lt, Int.not_le, ge_iff_le, gt_iff_lt, ne_eq, Bool.false_eq_true, Bool.true_eq_false, not_true_eq_false, not_false_eq_true, Bool.and_eq_true, Bool.not_eq_eq_eq_not, Bool.not_true, Bool.not_false, bne_iff_ne, bne_eq_false_iff_eq, Int.toNat_natCast, Nat.mul_one, Nat.add_zero, Nat.zero_add, List.take_length, List.drop_zero] at h9)
                                    all_goals
                                      refine Tree.Sat.br (fun h10 => ?_) (fun h10 => ?_)
                                      · (try simp only [decide_eq_true_eq, decide_eq_false_iff_not, Bool.not_eq_true', Bool.not_eq_false', beq_iff_eq, beq_eq_false_iff_ne, Int.not_lt, Int.not_le, ge_iff_le, gt_iff_lt, ne_eq, Bool.false_eq_true, Bool.true_eq_false, not_true_eq_false, not_false_eq_true, Bool.and_eq_true, Bool.not_eq_eq_eq_not, Bool.not_true, Bool.not_false, bne_iff_ne, bne_eq_false_iff_eq, Int.toNat_natCast, Nat.mul_one, Nat.add_zero, Nat.zero_add, List.take_length, List.drop_zero] at h10)
                                        all_goals
                                          refine Tree.Sat.ret ?_
                                          have hq := hr.2 (fitF_miss (i := i) (by omega) hl (shift_bad (by omega) (by have := hg (by omega); omega) h10))
                                          simp only [Prod.mk.injEq] at hq
                                          obtain ⟨rfl, rfl⟩ := hq
                                          refine .ret rfl ?_
                                          constructor <;> simp only [AV.leL, AV.le, Mem.le, Mem.leP, Blk.le, Blk.pad, Data.le, Data.size, Cap.le, and_true, true_and, and_self, true_implies, implies_true, imp_self, List.length_nil] <;> (repeat' with_reducible refine And.intro ?_ ?_) <;> (try simp only [Int.toNat_natCast, Nat.mul_one, Nat.add_zero, Nat.zero_add]) <;> done
                                      · (try simp only [decide_eq_true_eq, decide_eq_false_iff_not, Bool.not_eq_true', Bool.not_eq_false', beq_iff_eq, beq_eq_false_iff_ne, Int.not_lt, Int.not_le, ge_iff_le, gt_iff_lt, ne_eq, Bool.false_eq_true, Bool.true_eq_false, not_true_eq_false, not_false_eq_true, Bool.and_eq_true, Bool.not_eq_eq_eq_not, Bool.not_true, Bool.not_false, bne_iff_ne, bne_eq_false_iff_eq, Int.toNat_natCast, Nat.mul_one, Nat.add_zero, Nat.zero_add, List.take_length, List.drop_zero] at h10)
                                        all_goals
                                          refine Tree.Sat.br (fun h11 => ?_) (fun h11 => ?_)
                                          · (try simp only [decide_eq_true_eq, decide_eq_false_iff_not, Bool.not_eq_true', Bool.not_eq_false', beq_iff_eq, beq_eq_false_iff_ne, Int.not_lt, Int.not_le, ge_iff_le, gt_iff_lt, ne_eq, Bool.false_eq_true, Bool.true_eq_false, not_true_eq_false, not_false_eq_true, Bool.and_eq_true, Bool.not_eq_eq_eq_not, Bool.not_true, Bool.not_false, bne_iff_ne, bne_eq_false_iff_eq, Int.toNat_natCast, Nat.mul_one, Nat.add_zero, Nat.zero_add, List.take_length, List.drop_zero] at h11)
                                            all_goals
                                              refine Tree.Sat.br (fun h12 => ?_) (fun h12 => ?_)
                                              · (try simp only [decide_eq_true_eq, decide_eq_false_iff_not, Bool.not_eq_true', Bool.not_eq_false', beq_iff_eq, beq_eq_false_iff_ne, Int.not_lt, Int.not_le, ge_iff_le, gt_iff_lt, ne_eq, Bool.false_eq_true, Bool.true_eq_false, not_true_eq_false, not_false_eq_true, Bool.and_eq_true, Bool.not_eq_eq_eq_not, Bool.not_true, Bool.not_false, bne_iff_ne, bne_eq_false_iff_eq, Int.toNat_natCast, Nat.mul_one, Nat.add_zero, Nat.zero_add, List.take_length, List.drop_zero] at h12)
                                                all_goals
                                                  refine Tree.Sat.br (fun h13 => ?_) (fun h13 => ?_)
                                                  · (try simp only [decide_eq_true_eq, decide_eq_false_iff_not, Bool.not_eq_true', Bool.not_eq_false', beq_iff_eq, beq_eq_false_iff_ne, Int.not_lt, Int.not_le, ge_iff_le, gt_iff_lt, ne_eq, Bool.false_eq_true, Bool.true_eq_false, not_true_eq_false, not_false_eq_true, Bool.and_eq_true, Bool.not_eq_eq_eq_not, Bool.not_true, Bool.not_false, bne_iff_ne, bne_eq_false_iff_eq, Int.toNat_natCast, Nat.mul_one, Nat.add_zero, Nat.zero_add, List.take_length, List.drop_zero] at h13)
                                                    all_goals
                                                      refine Tree.Sat.br (fun h14 => ?_) (fun h14 => ?_)
                                                      · (try simp only [decide_eq_true_eq, decide_eq_false_iff_not, Bool.not_eq_true', Bool.not_eq_false', beq_iff_eq, beq_eq_false_iff_ne, Int.not_lt, Int.not_le, ge_iff_le, gt_iff_lt, ne_eq, Bool.false_eq_true, Bool.true_eq_false, not_true_eq_false, not_false_eq_true, Bool.and_eq_true, Bool.not_eq_eq_eq_not, Bool.not_true, Bool.not_false, bne_iff_ne, bne_eq_false_iff_eq, Int.toNat_natCast, Nat.mul_one, Nat.add_zero, Nat.zero_add, List.take_length, List.drop_zero] at h14)
                                                        all_goals
                                                          refine Tree.Sat.br (fun h15 => ?_) (fun h15 => ?_)
                                                          · (try simp only [decide_eq_true_eq, decide_eq_false_iff_not, Bool.not_eq_true', Bool.not_eq_false', beq_iff_eq, beq_eq_false_iff_ne, Int.not_lt, Int.not_le, ge_iff_le, gt_iff_lt, ne_eq, Bool.false_eq_true, Bool.true_eq_false, not_true_eq_false, not_false_eq_true, Bool.and_eq_true, Bool.not_eq_eq_eq_not, Bool.not_true, Bool.not_false, bne_iff_ne, bne_eq_false_iff_eq, Int.toNat_natCast, Nat.mul_one, Nat.add_zero, Nat.zero_add, List.take_length, List.drop_zero] at h15)
                                                            all_goals
                                                              refine Tree.Sat.br (fun h16 => ?_) (fun h16 => ?_)
                                                              · (try simp only [decide_eq_true_eq, decide_eq_false_iff_not, Bool.not_eq_true', Bool.not_eq_false', beq_iff_eq, beq_eq_false_iff_ne, Int.not_lt, Int.not_le, ge_iff_le, gt_iff_lt, ne_eq, Bool.false_eq_true, Bool.true_eq_false, not_true_eq_false, not_false_eq_true, Bool.and_eq_true, Bool.not_eq_eq_eq_not, Bool.not_true, Bool.not_false, bne_iff_ne, bne_eq_false_iff_eq, Int.toNat_natCast, Nat.mul_one, Nat.add_zero, Nat.zero_add, List.take_length, List.drop_zero] at h16)
                                                                all_goals
                                                                  refine Tree.Sat.br (fun h17 => ?_) (fun h17 => ?_)
                                                                  · (try simp only [decide_eq_true_eq, decide_eq_false_iff_not, Bool.not_eq_true', Bool.not_eq_false', beq_iff_eq, beq_eq_false_iff_ne, Int.not_lt, Int.not_le, ge_iff_le, gt_iff_lt, ne_eq, Bool.false_eq_true, Bool.true_eq_false, not_true_eq_false, not_false_eq_true, Bool.and_eq_true, Bool.not_eq_eq_eq_not, Bool.not_true, Bool.not_false, bne_iff_ne, bne_eq_false_iff_eq, Int.toNat_natCast, Nat.mul_one, Nat.add_zero, Nat.zero_add, List.take_length, List.drop_zero] at h17)
                                                                    all_goals
                                                                      refine Tree.Sat.br (fun h18 => ?_) (fun h18 => ?_)
                                                                      · (try simp only [decide_eq_true_eq, decide_eq_false_iff_not, Bool.not_eq_true', Bool.not_eq_false', beq_iff_eq, beq_eq_false_iff_ne, Int.not_lt, Int.not_le, ge_iff_le, gt_iff_lt, ne_eq, Bool.false_eq_true, Bool.true_eq_false, not_true_eq_false, not_false_eq_true, Bool.and_eq_true, Bool.not_eq_eq_eq_not, Bool.not_true, Bool.not_false, bne_iff_ne, bne_eq_false_iff_eq, Int.toNat_natCast, Nat.mul_one, Nat.add_zero, Nat.zero_add, List.take_length, List.drop_zero] at h18)
                                                                        all_goals
                                                                          refine Tree.Sat.ret ?_
                                                                          have g := hg (by omega)
                                                                          have sv := shift_good (v := vs.getD i 0) (w := (ws.getD i 0).toNat) (by omega) (by omega) h10
                                                                          have oe := or_eq (w := (ws.getD i 0).toNat) t0 t2 (by omega) sv.1 sv.2
                                                                          have ew2 := ew (by omega)
                                                                          have e := to_ge (i := i) (by omega) hl (by omega) sv.1 sv.2 (by omega)
                                                                          have ew1 := ew (by omega)
                                                                          have er : IntKind.i64.wrap (IntKind.i64.wrap (roomTo ws vs i + ws.getD i 0) - 16) = roomTo ws vs i + ((ws.getD i 0).toNat : Int) - 16 := by rw [ew1, w64]; omega
                                                                          have hmn : min (Int.toNat (roomTo ws vs i + ((ws.getD i 0).toNat : Int) - 16)) 64 = (roomTo ws vs i + ((ws.getD i 0).toNat : Int) - 16).toNat := by omega
                                                                          have p16 := pow16 (w := (roomTo ws vs i + ((ws.getD i 0).toNat : Int) - 16).toNat) (by omega)
                                                                          have p0 := pow_pos (roomTo ws vs i + ((ws.getD i 0).toNat : Int) - 16).toNat
                                                                          have eM : IntKind.i64.wrap (IntKind.i64.wrap (1 * 2 ^ (roomTo ws vs i + ((ws.getD i 0).toNat : Int) - 16).toNat) - 1) = 2 ^ (roomTo ws vs i + ((ws.getD i 0).toNat : Int) - 16).toNat - 1 := wm1 (by omega) p16
                                                                          refine .norm ⟨zws, ws, zvs, vs, i + 1⟩ ?_ ?_ ⟨?_, ?_⟩
                                                                          · constructor <;> simp only [hdfields_0, AV.leL, AV.le, Mem.le, Mem.leP, Blk.le, Blk.pad, Data.le, Data.size, Cap.le, and_true, true_and, and_self, true_implies, implies_true, imp_self, List.length_nil] <;> (repeat' with_reducible refine And.intro ?_ ?_) <;> (try simp only [Int.toNat_natCast, Nat.mul_one, Nat.add_zero, Nat.zero_add]) <;> first | exact wadd1 (by omega) | (rw [e.2.1]; exact er) | (rw [er, hmn, eM, bv_mask _ _ (by omega), oe.1, e.2.2]) | (rw [e.1, List.length_append]; rfl) | (rw [er, hmn, oe.1, fdiv_pow, e.1]) | (rw [e.1]; cases decide (outTo ws vs i = []) <;> simp)
                                                                          · simp only [mufields_0]; omega
                                                                          · refine ⟨hm, hl, hzw, hzv, hwv, by omega, ?_⟩
                                                                            rw [fitF_take_succ (by omega) hl, hf, Bool.true_and, decide_eq_true_eq]
                                                                            exact sv
                                                                          · exact hr
                                                                      · (try simp only [decide_eq_true_eq, decide_eq_false_iff_not, Bool.not_eq_true', Bool.not_eq_false', beq_iff_eq, beq_eq_false_iff_ne, Int.not_lt, Int.not_le, ge_iff_le, gt_iff_lt, ne_eq, Bool.false_eq_true, Bool.true_eq_false, not_true_eq_false, not_false_eq_true, Bool.and_eq_true, Bool.not_eq_eq_eq_not, Bool.not_true, Bool.not_false, bne_iff_ne, bne_eq_false_iff_eq, Int.toNat_natCast, Nat.mul_one, Nat.add_zero, Nat.zero_add, List.take_length, List.drop_zero] at h18)
                                                                        all_goals
                                                                          exfalso
                                                                          first | omega | (have g := hg (by omega); have ew1 := ew (by omega); simp only [w64] at *; omega) | (clear hf hr; cases zws <;> cases zvs <;> simp_all; done) | (clear hf hr; cases zws <;> cases zvs <;> simp_all <;> omega)
                                                                  · (try simp only [decide_eq_true_eq, decide_eq_false_iff_not, Bool.not_eq_true', Bool.not_eq_false', beq_iff_eq, beq_eq_false_iff_ne, Int.not_lt, Int.not_le, ge_iff_le, gt_iff_lt, ne_eq, Bool.false_eq_true, Bool.true_eq_false, not_true_eq_false, not_false_eq_true, Bool.and_eq_true, Bool.not_eq_eq_eq_not, Bool.not_true, Bool.not_false, bne_iff_ne, bne_eq_false_iff_eq, Int.toNat_natCast, Nat.mul_one, Nat.add_zero, Nat.zero_add, List.take_length, List.drop_zero] at h17)
                                                                    all_goals
                                                                      exfalso
                                                                      rw [Bool.and_eq_false_iff] at h17
                                                                      rcases h17 with h17 | h17
                                                                      · rw [decide_eq_false_iff_not] at h17
                                                                        exact h17 ⟨by first | rfl | (simp only [Data.size]; omega), by first | rfl | kernel_rfl⟩
                                                                      · exact absurd h17 (by simp)
                                                              · (try simp only [decide_eq_true_eq, decide_eq_false_iff_not, Bool.not_eq_true', Bool.not_eq_false', beq_iff_eq, beq_eq_false_iff_ne, Int.not_lt, Int.not_le, ge_iff_le, gt_iff_lt, ne_eq, Bool.false_eq_true, Bool.true_eq_false, not_true_eq_false, not_false_eq_true, Bool.and_eq_true, Bool.not_eq_eq_eq_not, Bool.not_true, Bool.not_false, bne_iff_ne, bne_eq_false_iff_eq, Int.toNat_natCast, Nat.mul_one, Nat.add_zero, Nat.zero_add, List.take_length, List.drop_zero] at h16)
                                                                all_goals
                                                                  exfalso
                                                                  simp [most48] at h16
                                                                  omega
                                                          · (try simp only [decide_eq_true_eq, decide_eq_false_iff_not, Bool.not_eq_true', Bool.not_eq_false', beq_iff_eq, beq_eq_false_iff_ne, Int.not_lt, Int.not_le, ge_iff_le, gt_iff_lt, ne_eq, Bool.false_eq_true, Bool.true_eq_false, not_true_eq_false, not_false_eq_true, Bool.and_eq_true, Bool.not_eq_eq_eq_not, Bool.not_true, Bool.not_false, bne_iff_ne, bne_eq_false_iff_eq, Int.toNat_natCast, Nat.mul_one, Nat.add_zero, Nat.zero_add, List.take_length, List.drop_zero] at h15)
                                                            all_goals
                                                              exfalso
                                                              first | omega | (have g := hg (by omega); have ew1 := ew (by omega); simp only [w64] at *; omega) | (clear hf hr; cases zws <;> cases zvs <;> simp_all; done) | (clear hf hr; cases zws <;> cases zvs <;> simp_all <;> omega)
                                                      · (try simp only [decide_eq_true_eq, decide_eq_false_iff_not, Bool.not_eq_true', Bool.not_eq_false', beq_iff_eq, beq_eq_false_iff_ne, Int.not_lt, Int.not_le, ge_iff_le, gt_iff_lt, ne_eq, Bool.false_eq_true, Bool.true_eq_false, not_true_eq_false, not_false_eq_true, Bool.and_eq_true, Bool.not_eq_eq_eq_not, Bool.not_true, Bool.not_false, bne_iff_ne, bne_eq_false_iff_eq, Int.toNat_natCast, Nat.mul_one, Nat.add_zero, Nat.zero_add, List.take_length, List.drop_zero] at h14)
                                                        all_goals
                                                          refine Tree.Sat.ret ?_
                                                          have g := hg (by omega)
                                                          have sv := shift_good (v := vs.getD i 0) (w := (ws.getD i 0).toNat) (by omega) (by omega) h10
                                                          have oe := or_eq (w := (ws.getD i 0).toNat) t0 t2 (by omega) sv.1 sv.2
                                                          have ew2 := ew (by omega)
                                                          have e := to_lt (i := i) (by omega) hl sv.1 sv.2 (by omega)
                                                          refine .norm ⟨zws, ws, zvs, vs, i + 1⟩ ?_ ?_ ⟨?_, ?_⟩
                                                          · constructor <;> simp only [hdfields_0, AV.leL, AV.le, Mem.le, Mem.leP, Blk.le, Blk.pad, Data.le, Data.size, Cap.le, and_true, true_and, and_self, true_implies, implies_true, imp_self, List.length_nil] <;> (repeat' with_reducible refine And.intro ?_ ?_) <;> (try simp only [Int.toNat_natCast, Nat.mul_one, Nat.add_zero, Nat.zero_add]) <;> first | exact wadd1 (by omega) | (rw [e.1]; done) | (rw [e.2.1]; have := ew (by omega); omega) | (rw [e.2.2]; exact oe.1)
                                                          · simp only [mufields_0]; omega
                                                          · refine ⟨hm, hl, hzw, hzv, hwv, by omega, ?_⟩
                                                            rw [fitF_take_succ (by omega) hl, hf, Bool.true_and, decide_eq_true_eq]
                                                            exact sv
                                                          · exact hr
                                                  · (try simp only [decide_eq_true_eq, decide_eq_false_iff_not, Bool.not_eq_true', Bool.not_eq_false', beq_iff_eq, beq_eq_false_iff_ne, Int.not_lt, Int.not_le, ge_iff_le, gt_iff_lt, ne_eq, Bool.false_eq_true, Bool.true_eq_false, not_true_eq_false, not_false_eq_true, Bool.and_eq_true, Bool.not_eq_eq_eq_not, Bool.not_true, Bool.not_false, bne_iff_ne, bne_eq_false_iff_eq, Int.toNat_natCast, Nat.mul_one, Nat.add_zero, Nat.zero_add, List.take_length, List.drop_zero] at h13)
                                                    all_goals
                                                      exfalso
                                                      first | omega | (have g := hg (by omega); have ew1 := ew (by omega); simp only [w64] at *; omega) | (clear hf hr; cases zws <;> cases zvs <;> simp_all; done) | (clear hf hr; cases zws <;> cases zvs <;> simp_all <;> omega)
                                              · (try simp only [decide_eq_true_eq, decide_eq_false_iff_not, Bool.not_eq_true', Bool.not_eq_false', beq_iff_eq, beq_eq_false_iff_ne, Int.not_lt, Int.not_le, ge_iff_le, gt_iff_lt, ne_eq, Bool.false_eq_true, Bool.true_eq_false, not_true_eq_false, not_false_eq_true, Bool.and_eq_true, Bool.not_eq_eq_eq_not, Bool.not_true, Bool.not_false, bne_iff_ne, bne_eq_false_iff_eq, Int.toNat_natCast, Nat.mul_one, Nat.add_zero, Nat.zero_add, List.take_length, List.drop_zero] at h12)
                                                all_goals
                                                  exfalso
                                                  first | omega | (have g := hg (by omega); have ew1 := ew (by omega); simp only [w64] at *; omega) | (clear hf hr; cases zws <;> cases zvs <;> simp_all; done) | (clear hf hr; cases zws <;> cases zvs <;> simp_all <;> omega)
                                          · (try simp only [decide_eq_true_eq, decide_eq_false_iff_not, Bool.not_eq_true', Bool.not_eq_false', beq_iff_eq, beq_eq_false_iff_ne, Int.not_lt, Int.not_le, ge_iff_le, gt_iff_lt, ne_eq, Bool.false_eq_true, Bool.true_eq_false, not_true_eq_false, not_false_eq_true, Bool.and_eq_true, Bool.not_eq_eq_eq_not, Bool.not_true, Bool.not_false, bne_iff_ne, bne_eq_false_iff_eq, Int.toNat_natCast, Nat.mul_one, Nat.add_zero, Nat.zero_add, List.take_length, List.drop_zero] at h11)
                                            all_goals
                                              exfalso
                                              first | omega | (have g := hg (by omega); have ew1 := ew (by omega); simp only [w64] at *; omega) | (clear hf hr; cases zws <;> cases zvs <;> simp_all; done) | (clear hf hr; cases zws <;> cases zvs <;> simp_all <;> omega)
                                  · (try simp only [decide_eq_true_eq, decide_eq_false_iff_not, Bool.not_eq_true', Bool.not_eq_false', beq_iff_eq, beq_eq_false_iff_ne, Int.not_lt, Int.not_le, ge_iff_le, gt_iff_lt, ne_eq, Bool.false_eq_true, Bool.true_eq_false, not_true_eq_false, not_false_eq_true, Bool.and_eq_true, Bool.not_eq_eq_eq_not, Bool.not_true, Bool.not_false, bne_iff_ne, bne_eq_false_iff_eq, Int.toNat_natCast, Nat.mul_one, Nat.add_zero, Nat.zero_add, List.take_length, List.drop_zero] at h9)
                                    all_goals
                                      exfalso
                                      first | omega | (have g := hg (by omega); have ew1 := ew (by omega); simp only [w64] at *; omega) | (clear hf hr; cases zws <;> cases zvs <;> simp_all; done) | (clear hf hr; cases zws <;> cases zvs <;> simp_all <;> omega)
                              · (try simp only [decide_eq_true_eq, decide_eq_false_iff_not, Bool.not_eq_true', Bool.not_eq_false', beq_iff_eq, beq_eq_false_iff_ne, Int.not_lt, Int.not_le, ge_iff_le, gt_iff_lt, ne_eq, Bool.false_eq_true, Bool.true_eq_false, not_true_eq_false, not_false_eq_true, Bool.and_eq_true, Bool.not_eq_eq_eq_not, Bool.not_true, Bool.not_false, bne_iff_ne, bne_eq_false_iff_eq, Int.toNat_natCast, Nat.mul_one, Nat.add_zero, Nat.zero_add, List.take_length, List.drop_zero] at h8)
                                all_goals
                                  exfalso
                                  first | omega | (have g := hg (by omega); have ew1 := ew (by omega); simp only [w64] at *; omega) | (clear hf hr; cases zws <;> cases zvs <;> simp_all; done) | (clear hf hr; cases zws <;> cases zvs <;> simp_all <;> omega)
                          · (try simp only [decide_eq_true_eq, decide_eq_false_iff_not, Bool.not_eq_true', Bool.not_eq_false', beq_iff_eq, beq_eq_false_iff_ne, Int.not_lt, Int.not_le, ge_iff_le, gt_iff_lt, ne_eq, Bool.false_eq_true, Bool.true_eq_false, not_true_eq_false, not_false_eq_true, Bool.and_eq_true, Bool.not_eq_eq_eq_not, Bool.not_true, Bool.not_false, bne_iff_ne, bne_eq_false_iff_eq, Int.toNat_natCast, Nat.mul_one, Nat.add_zero, Nat.zero_add, List.take_length, List.drop_zero] at h7)
                            all_goals
                              exfalso
                              first | omega | (have g := hg (by omega); have ew1 := ew (by omega); simp only [w64] at *; omega) | (clear hf hr; cases zws <;> cases zvs <;> simp_all; done) | (clear hf hr; cases zws <;> cases zvs <;> simp_all <;> omega)
                  · (try simp only [decide_eq_true_eq, decide_eq_false_iff_not, Bool.not_eq_true', Bool.not_eq_false', beq_iff_eq, beq_eq_false_iff_ne, Int.not_lt, Int.not_le, ge_iff_le, gt_iff_lt, ne_eq, Bool.false_eq_true, Bool.true_eq_false, not_true_eq_false, not_false_eq_true, Bool.and_eq_true, Bool.not_eq_eq_eq_not, Bool.not_true, Bool.not_false, bne_iff_ne, bne_eq_false_iff_eq, Int.toNat_natCast, Nat.mul_one, Nat.add_zero, Nat.zero_add, List.take_length, List.drop_zero] at h5)
                    all_goals
                      exfalso
                      first | omega | (have g := hg (by omega); have ew1 := ew (by omega); simp only [w64] at *; omega) | (clear hf hr; cases zws <;> cases zvs <;> simp_all; done) | (clear hf hr; cases zws <;> cases zvs <;> simp_all <;> omega)
              · (try simp only [decide_eq_true_eq, decide_eq_false_iff_not, Bool.not_eq_true', Bool.not_eq_false', beq_iff_eq, beq_eq_false_iff_ne, Int.not_lt, Int.not_le, ge_iff_le, gt_iff_lt, ne_eq, Bool.false_eq_true, Bool.true_eq_false, not_true_eq_false, not_false_eq_true, Bool.and_eq_true, Bool.not_eq_eq_eq_not, Bool.not_true, Bool.not_false, bne_iff_ne, bne_eq_false_iff_eq, Int.toNat_natCast, Nat.mul_one, Nat.add_zero, Nat.zero_add, List.take_length, List.drop_zero] at h4)
                all_goals
                  exfalso
                  first | omega | (have g := hg (by omega); have ew1 := ew (by omega); simp only [w64] at *; omega) | (clear hf hr; cases zws <;> cases zvs <;> simp_all; done) | (clear hf hr; cases zws <;> cases zvs <;> simp_all <;> omega)
          · (try simp only [decide_eq_true_eq, decide_eq_false_iff_not, Bool.not_eq_true', Bool.not_eq_false', beq_iff_eq, beq_eq_false_iff_ne, Int.not_lt, Int.not_le, ge_iff_le, gt_iff_lt, ne_eq, Bool.false_eq_true, Bool.true_eq_false, not_true_eq_false, not_false_eq_true, Bool.and_eq_true, Bool.not_eq_eq_eq_not, Bool.not_true, Bool.not_false, bne_iff_ne, bne_eq_false_iff_eq, Int.toNat_natCast, Nat.mul_one, Nat.add_zero, Nat.zero_add, List.take_length, List.drop_zero] at h3)
            all_goals
              exfalso
              first | omega | (have g := hg (by omega); have ew1 := ew (by omega); simp only [w64] at *; omega) | (clear hf hr; cases zws <;> cases zvs <;> simp_all; done) | (clear hf hr; cases zws <;> cases zvs <;> simp_all <;> omega)
      · (try simp only [decide_eq_true_eq, decide_eq_false_iff_not, Bool.not_eq_true', Bool.not_eq_false', beq_iff_eq, beq_eq_false_iff_ne, Int.not_lt, Int.not_le, ge_iff_le, gt_iff_lt, ne_eq, Bool.false_eq_true, Bool.true_eq_false, not_true_eq_false, not_false_eq_true, Bool.and_eq_true, Bool.not_eq_eq_eq_not, Bool.not_true, Bool.not_false, bne_iff_ne, bne_eq_false_iff_eq, Int.toNat_natCast, Nat.mul_one, Nat.add_zero, Nat.zero_add, List.take_length, List.drop_zero] at h2)
        all_goals
          exfalso
          first | omega | (have g := hg (by omega); have ew1 := ew (by omega); simp only [w64] at *; omega) | (clear hf hr; cases zws <;> cases zvs <;> simp_all; done) | (clear hf hr; cases zws <;> cases zvs <;> simp_all <;> omega)
  · (try simp only [decide_eq_true_eq, decide_eq_false_iff_not, Bool.not_eq_true', Bool.not_eq_false', beq_iff_eq, beq_eq_false_iff_ne, Int.not_lt, Int.not_le, ge_iff_le, gt_iff_lt, ne_eq, Bool.false_eq_true, Bool.true_eq_false, not_true_eq_false, not_false_eq_true, Bool.and_eq_true, Bool.not_eq_eq_eq_not, Bool.not_true, Bool.not_false, bne_iff_ne, bne_eq_false_iff_eq, Int.toNat_natCast, Nat.mul_one, Nat.add_zero, Nat.zero_add, List.take_length, List.drop_zero] at h1)
    all_goals
      refine Tree.Sat.ret ?_
      have hq := hr.1 (by rw [List.take_of_length_le (by omega), List.take_of_length_le (by omega)] at hf; exact hf)
      simp only [Prod.mk.injEq] at hq
      obtain ⟨rfl, rfl⟩ := hq
      refine .exit rfl ?_
      constructor <;> simp only [AV.leL, AV.le, Mem.le, Mem.leP, Blk.le, Blk.pad, Data.le, Data.size, Cap.le, and_true, true_and, and_self, true_implies, implies_true, imp_self, List.length_nil] <;> (repeat' with_reducible refine And.intro ?_ ?_) <;> (try simp only [Int.toNat_natCast, Nat.mul_one, Nat.add_zero, Nat.zero_add]) <;> rw [show i = ws.length by omega]
set_option maxHeartbeats 2000000 in
set_option maxRecDepth 100000 in
theorem loopfields_0 (hall : AllOk Try.prog 0 (fun _ => none) tab20) : LoopOk (mkL Try.prog 0 (fun _ => none) tab20 rowsfields) 19 2 (bodyAt Try.prog 19 0) := by
  have hkey : Code.key (bodyAt Try.prog 19 0) = 9 := by kernel_rfl
  have hin : loopsIn (bodyAt Try.prog 19 0) = [] := by kernel_rfl
  have hrow : lookL rowsfields 19 (Code.key (bodyAt Try.prog 19 0)) = some rowfields_0 := by rw [hkey]; rfl
  refine loop_rowP (X := Xfields_0) (row := rowfields_0) hall mix hrow (fun b hb _ => by rw [hin] at hb; cases hb) Ufields_0 hdfields_0 resfields_0 mufields_0 (fun st ex r h => ?_) (fun x ex r hr => ?_)
  · have h' : (ansfields_0 st).runs (ex, r) := h
    unfold ansfields_0 at h'
    split at h'
    · obtain ⟨q1, q2⟩ := Tree.chk_runs h'
      exact ⟨_, q1, q2⟩
    · exact h'.elim
  · obtain ⟨zws, ws, zvs, vs, i⟩ := x
    have := stepfields_0 zws ws zvs vs i ex r hr.1 hr.2
    rw [← tLfields_0] at this
    (try rw [show rowfields_0.tidy = Tfields_0 from rfl])
    exact this
theorem loopsfields (hall : AllOk Try.prog 0 (fun _ => none) tab20) : ∀ i, i < (loopsAt Try.prog 19).length → LoopOk (mkL Try.prog 0 (fun _ => none) tab20 rowsfields) 19 2 (bodyAt Try.prog 19 i) := by
  intro i hi
  have hlen : (loopsAt Try.prog 19).length = 1 := by kernel_rfl
  rw [hlen] at hi
  obtain rfl : i = 0 := by omega
  · exact loopfields_0 hall
set_option maxRecDepth 100000 in
theorem tfields (zws : Bool) (ws : List Int) (zvs : Bool) (vs : List Int) : evBody (mkL Try.prog 0 (fun _ => none) tab20 rowsfields) (evCall (mkC Try.prog 0 (fun _ => none) tab20) 50) 19 [.sl zws ⟨0, 0, 0, 0⟩ false ws.length .any, .sl zvs ⟨1, 0, 0, 0⟩ false vs.length .any] [some ⟨3, false, false, true, .ints .i64 ws⟩, some ⟨3, false, false, true, .ints .i64 vs⟩] =
  Tree.chk ((0 + List.length ws ≤ List.length ws ∧ True) ∧ short (List.take (List.length ws) (List.drop (0) ws)) ∧ (zws = true → List.take (List.length ws) (List.drop (0) ws) = []))
  (Tree.br (mayZ (List.take (List.length ws) (List.drop (0) ws)) != (0 : Int))
  (Tree.ret
  (AV.tup [AV.sl true (Ref.mk (0) (0) (0) (0)) true (0) Cap.exact, AV.int IntKind.i64 false (mayZ (List.take (List.length ws) (List.drop (0) ws)))],
  [some (Blk.mk (3) false false true (Data.ints IntKind.i64 ws)), some (Blk.mk (3) false false true (Data.ints IntKind.i64 vs))]))
  (Tree.br (((List.length ws) : Int) != ((List.length vs) : Int))
  (Tree.ret
  (AV.tup [AV.sl true (Ref.mk (0) (0) (0) (0)) true (0) Cap.exact, AV.int IntKind.i64 true (2 : Int)],
  [some (Blk.mk (3) false false true (Data.ints IntKind.i64 ws)), some (Blk.mk (3) false false true (Data.ints IntKind.i64 vs))]))
  (Tree.chk
  (St.le
  (St.mk
  [AV.junk, AV.sl zvs (Ref.mk (1) (0) (0) (0)) false (List.length vs) Cap.any, AV.junk, AV.junk, AV.junk, AV.junk, AV.junk,
  AV.sl true (Ref.mk (2) (0) (0) (0)) false (0) Cap.own, AV.int IntKind.i64 true (0 : Int), AV.int IntKind.i64 true (0 : Int), AV.junk, AV.junk, AV.junk, AV.junk, AV.junk, AV.junk,
  AV.junk, AV.junk, AV.junk, AV.junk, AV.junk, AV.junk, AV.sl zws (Ref.mk (0) (0) (0) (0)) false (List.length ws) Cap.any, AV.int IntKind.i64 false ((List.length ws) : Int),
  AV.int IntKind.i64 true (0 : Int), AV.junk, AV.junk, AV.junk, AV.junk, AV.junk, AV.junk, AV.junk, AV.junk, AV.junk, AV.junk, AV.junk, AV.junk, AV.junk, AV.junk, AV.junk, AV.junk, AV.junk, AV.junk, AV.junk, AV.junk, AV.junk,
  AV.junk, AV.junk, AV.junk, AV.junk, AV.junk, AV.junk, AV.junk, AV.junk, AV.junk, AV.junk, AV.junk, AV.junk, AV.junk, AV.junk, AV.junk, AV.junk, AV.junk, AV.junk, AV.junk, AV.junk, AV.junk, AV.junk, AV.junk, AV.junk, AV.junk,
  AV.junk, AV.junk, AV.junk, AV.junk, AV.junk, AV.junk, AV.junk, AV.junk, AV.junk]
  [some (Blk.mk (3) false false true (Data.ints IntKind.i64 ws)), some (Blk.mk (3) false false true (Data.ints IntKind.i64 vs)), some (Blk.mk (3) true true true (Data.ints IntKind.i64 []))])
  (St.mk
  [AV.junk, AV.sl zvs (Ref.mk (1) (0) (0) (0)) false (List.length vs) Cap.any, AV.junk, AV.junk, AV.junk, AV.junk, AV.junk,
  AV.sl true (Ref.mk (2) (0) (0) (0)) false (0) Cap.own, AV.int IntKind.i64 false (roomTo ws vs (Int.toNat (0 : Int))),
  AV.int IntKind.i64 false (lastTo ws vs (Int.toNat (0 : Int))), AV.junk, AV.junk, AV.junk, AV.junk, AV.junk, AV.junk, AV.junk, AV.junk, AV.junk, AV.junk, AV.junk, AV.junk,
  AV.sl zws (Ref.mk (0) (0) (0) (0)) false (List.length ws) Cap.any, AV.int IntKind.i64 false ((List.length ws) : Int), AV.int IntKind.i64 false (0 : Int), AV.junk, AV.junk, AV.junk, AV.junk,
  AV.junk, AV.junk, AV.junk, AV.junk, AV.junk, AV.junk, AV.junk, AV.junk, AV.junk, AV.junk, AV.junk, AV.junk, AV.junk, AV.junk, AV.junk, AV.junk, AV.junk, AV.junk, AV.junk, AV.junk, AV.junk, AV.junk, AV.junk, AV.junk, AV.junk,
  AV.junk, AV.junk, AV.junk, AV.junk, AV.junk, AV.junk, AV.junk, AV.junk, AV.junk, AV.junk, AV.junk, AV.junk, AV.junk, AV.junk, AV.junk, AV.junk, AV.junk, AV.junk, AV.junk, AV.junk, AV.junk, AV.junk, AV.junk, AV.junk, AV.junk,
  AV.junk]
  [some (Blk.mk (3) false false true (Data.ints IntKind.i64 ws)), some (Blk.mk (3) false false true (Data.ints IntKind.i64 vs)),
  some (Blk.mk (3) true true true (Data.ints IntKind.i64 (outTo ws vs (Int.toNat (0 : Int)))))]))
  (Tree.chk (okfields_0 (Xfields_0.mk zws ws zvs vs (Int.toNat (0 : Int))))
  (Tree.br (fitF ws vs)
  (Tree.br (decide (roomTo ws vs (List.length ws) > (0 : Int)))
  (Tree.br (!decide (IntKind.wrap IntKind.i64 ((16 : Int) - roomTo ws vs (List.length ws)) < (0 : Int)))
  (Tree.br (decide (((List.length (outTo ws vs (List.length ws)) + 1) : Int) ≤ most48 ∧ (((List.length (outTo ws vs (List.length ws)) + 1) * 8) : Int) ≤ most48))
  (Tree.br
  (decide
  (List.length (outTo ws vs (List.length ws)) * 1 = Data.size (Data.ints IntKind.i64 (outTo ws vs (List.length ws))) ∧
  Data.size
  (Data.cells
  (List.take (1 * 1)
  (List.drop (0)
  (List.take (0 * 1) (zerosOf (List.map ofCell [Value.int IntKind.i64 (0 : Int)]) 1) ++
  (AV.parts
  (opnd (mkL Try.prog 0 (fun x => none) tab20 rowsfields)
  [AV.junk, AV.junk, AV.junk, AV.junk, AV.junk, AV.junk, AV.junk,
  AV.sl (decide (outTo ws vs (List.length ws) = [])) (Ref.mk 2 0 0 0) false (List.length (outTo ws vs (List.length ws))) Cap.own,
  AV.int IntKind.i64 false (roomTo ws vs (List.length ws)), AV.int IntKind.i64 false (lastTo ws vs (List.length ws)), AV.junk, AV.junk, AV.junk, AV.junk, AV.junk, AV.junk,
  AV.junk, AV.junk, AV.junk, AV.junk, AV.junk, AV.junk, AV.junk, AV.junk, AV.junk, AV.junk, AV.junk, AV.junk, AV.junk, AV.junk, AV.junk, AV.junk, AV.junk, AV.junk, AV.junk, AV.junk, AV.junk,
  AV.junk, AV.junk, AV.junk, AV.junk, AV.junk, AV.junk, AV.junk, AV.junk, AV.junk, AV.junk, AV.junk, AV.junk, AV.junk, AV.junk, AV.junk, AV.junk, AV.junk, AV.junk, AV.junk, AV.junk, AV.junk,
  AV.junk, AV.junk, AV.junk, AV.junk, AV.junk, AV.junk, AV.junk, AV.junk, AV.junk, AV.junk, AV.junk, AV.junk, AV.int IntKind.i64 false (roomTo ws vs (List.length ws)), AV.bool true true,
  AV.sl (decide (outTo ws vs (List.length ws) = [])) (Ref.mk 2 0 0 0) false (List.length (outTo ws vs (List.length ws))) Cap.own,
  AV.int IntKind.i64 false (lastTo ws vs (List.length ws)), AV.int IntKind.i64 false (roomTo ws vs (List.length ws)),
  AV.int IntKind.i64 false (IntKind.wrap IntKind.i64 ((16 : Int) - roomTo ws vs (List.length ws))),
  AV.int IntKind.i64 false
  (IntKind.wrap IntKind.i64 (lastTo ws vs (List.length ws) * (2 : Int) ^ min (Int.toNat (IntKind.wrap IntKind.i64 ((16 : Int) - roomTo ws vs (List.length ws)))) (64))),
  AV.junk, AV.junk, AV.junk]
  (Operand.tmp 76)) ++
  List.drop (0 * 1 + 1) (zerosOf (List.map ofCell [Value.int IntKind.i64 (0 : Int)]) 1)))))) =
  1 * 1) &&
  decide (outTo ws vs (List.length ws) = []) == decide ((outTo ws vs (List.length ws)) = []))
  (Tree.ret
  (AV.tup
  [AV.sl (decide (outTo ws vs (List.length ws) = []) && decide (1 = 0)) (Ref.mk (2) (0) (0) (0)) false
  (List.length (outTo ws vs (List.length ws)) + 1) Cap.own,
  AV.int IntKind.i64 true (0 : Int)],
  [some (Blk.mk (3) false false true (Data.ints IntKind.i64 ws)), some (Blk.mk (3) false false true (Data.ints IntKind.i64 vs)),
  some
  (Blk.mk (3) true (Bool.rec false (decide (1 = 0)) (decide ((outTo ws vs (List.length ws)) = []))) true
  (Data.ints IntKind.i64
  (outTo ws vs (List.length ws) ++
  [IntKind.wrap IntKind.i64 (lastTo ws vs (List.length ws) * (2 : Int) ^ min (Int.toNat (IntKind.wrap IntKind.i64 ((16 : Int) - roomTo ws vs (List.length ws)))) (64))])))]))
  Tree.fail)
  Tree.fail)
  Tree.fail)
  (Tree.ret
  (AV.tup
  [AV.sl (decide (outTo ws vs (List.length ws) = [])) (Ref.mk (2) (0) (0) (0)) false (List.length (outTo ws vs (List.length ws))) Cap.own,
  AV.int IntKind.i64 true (0 : Int)],
  [some (Blk.mk (3) false false true (Data.ints IntKind.i64 ws)), some (Blk.mk (3) false false true (Data.ints IntKind.i64 vs)),
  some (Blk.mk (3) true (decide ((outTo ws vs (List.length ws)) = [])) true (Data.ints IntKind.i64 (outTo ws vs (List.length ws))))])))
  (Tree.ret
  (AV.tup [AV.sl true (Ref.mk (0) (0) (0) (0)) true (0) Cap.exact, AV.int IntKind.i64 true (2 : Int)],
  [some (Blk.mk (3) false false true (Data.ints IntKind.i64 ws)), some (Blk.mk (3) false false true (Data.ints IntKind.i64 vs))]))))))) := by kernel_rfl
set_option maxRecDepth 100000 in
theorem gfields (zws : Bool) (ws : List Int) (zvs : Bool) (vs : List Int) (hw : short ws ∧ short vs ∧ (zws = true → ws = []) ∧ (zvs = true → vs = []) ∧ wf64L vs) : (Tree.chk ((0 + List.length ws ≤ List.length ws ∧ True) ∧ short (List.take (List.length ws) (List.drop (0) ws)) ∧ (zws = true → List.take (List.length ws) (List.drop (0) ws) = []))
  (Tree.br (mayZ (List.take (List.length ws) (List.drop (0) ws)) != (0 : Int))
  (Tree.ret
  (AV.tup [AV.sl true (Ref.mk (0) (0) (0) (0)) true (0) Cap.exact, AV.int IntKind.i64 false (mayZ (List.take (List.length ws) (List.drop (0) ws)))],
  [some (Blk.mk (3) false false true (Data.ints IntKind.i64 ws)), some (Blk.mk (3) false false true (Data.ints IntKind.i64 vs))]))
  (Tree.br (((List.length ws) : Int) != ((List.length vs) : Int))
  (Tree.ret
  (AV.tup [AV.sl true (Ref.mk (0) (0) (0) (0)) true (0) Cap.exact, AV.int IntKind.i64 true (2 : Int)],
  [some (Blk.mk (3) false false true (Data.ints IntKind.i64 ws)), some (Blk.mk (3) false false true (Data.ints IntKind.i64 vs))]))
  (Tree.chk
  (St.le
  (St.mk
  [AV.junk, AV.sl zvs (Ref.mk (1) (0) (0) (0)) false (List.length vs) Cap.any, AV.junk, AV.junk, AV.junk, AV.junk, AV.junk,
  AV.sl true (Ref.mk (2) (0) (0) (0)) false (0) Cap.own, AV.int IntKind.i64 true (0 : Int), AV.int IntKind.i64 true (0 : Int), AV.junk, AV.junk, AV.junk, AV.junk, AV.junk, AV.junk,
  AV.junk, AV.junk, AV.junk, AV.junk, AV.junk, AV.junk, AV.sl zws (Ref.mk (0) (0) (0) (0)) false (List.length ws) Cap.any, AV.int IntKind.i64 false ((List.length ws) : Int),
  AV.int IntKind.i64 true (0 : Int), AV.junk, AV.junk, AV.junk, AV.junk, AV.junk, AV.junk, AV.junk, AV.junk, AV.junk, AV.junk, AV.junk, AV.junk, AV.junk, AV.junk, AV.junk, AV.junk, AV.junk, AV.junk, AV.junk, AV.junk, AV.junk,
  AV.junk, AV.junk, AV.junk, AV.junk, AV.junk, AV.junk, AV.junk, AV.junk, AV.junk, AV.junk, AV.junk, AV.junk, AV.junk, AV.junk, AV.junk, AV.junk, AV.junk, AV.junk, AV.junk, AV.junk, AV.junk, AV.junk, AV.junk, AV.junk, AV.junk,
  AV.junk, AV.junk, AV.junk, AV.junk, AV.junk, AV.junk, AV.junk, AV.junk, AV.junk]
  [some (Blk.mk (3) false false true (Data.ints IntKind.i64 ws)), some (Blk.mk (3) false false true (Data.ints IntKind.i64 vs)), some (Blk.mk (3) true true true (Data.ints IntKind.i64 []))])
  (St.mk
  [AV.junk, AV.sl zvs (Ref.mk (1) (0) (0) (0)) false (List.length vs) Cap.any, AV.junk, AV.junk, AV.junk, AV.junk, AV.junk,
  AV.sl true (Ref.mk (2) (0) (0) (0)) false (0) Cap.own, AV.int IntKind.i64 false (roomTo ws vs (Int.toNat (0 : Int))),
  AV.int IntKind.i64 false (lastTo ws vs (Int.toNat (0 : Int))), AV.junk, AV.junk, AV.junk, AV.junk, AV.junk, AV.junk, AV.junk, AV.junk, AV.junk, AV.junk, AV.junk, AV.junk,
  AV.sl zws (Ref.mk (0) (0) (0) (0)) false (List.length ws) Cap.any, AV.int IntKind.i64 false ((List.length ws) : Int), AV.int IntKind.i64 false (0 : Int), AV.junk, AV.junk, AV.junk, AV.junk,
  AV.junk, AV.junk, AV.junk, AV.junk, AV.junk, AV.junk, AV.junk, AV.junk, AV.junk, AV.junk, AV.junk, AV.junk, AV.junk, AV.junk, AV.junk, AV.junk, AV.junk, AV.junk, AV.junk, AV.junk, AV.junk, AV.junk, AV.junk, AV.junk, AV.junk,
  AV.junk, AV.junk, AV.junk, AV.junk, AV.junk, AV.junk, AV.junk, AV.junk, AV.junk, AV.junk, AV.junk, AV.junk, AV.junk, AV.junk, AV.junk, AV.junk, AV.junk, AV.junk, AV.junk, AV.junk, AV.junk, AV.junk, AV.junk, AV.junk, AV.junk,
  AV.junk]
  [some (Blk.mk (3) false false true (Data.ints IntKind.i64 ws)), some (Blk.mk (3) false false true (Data.ints IntKind.i64 vs)),
  some (Blk.mk (3) true true true (Data.ints IntKind.i64 (outTo ws vs (Int.toNat (0 : Int)))))]))
  (Tree.chk (okfields_0 (Xfields_0.mk zws ws zvs vs (Int.toNat (0 : Int))))
  (Tree.br (fitF ws vs)
  (Tree.br (decide (roomTo ws vs (List.length ws) > (0 : Int)))
  (Tree.br (!decide (IntKind.wrap IntKind.i64 ((16 : Int) - roomTo ws vs (List.length ws)) < (0 : Int)))
  (Tree.br (decide (((List.length (outTo ws vs (List.length ws)) + 1) : Int) ≤ most48 ∧ (((List.length (outTo ws vs (List.length ws)) + 1) * 8) : Int) ≤ most48))
  (Tree.br
  (decide
  (List.length (outTo ws vs (List.length ws)) * 1 = Data.size (Data.ints IntKind.i64 (outTo ws vs (List.length ws))) ∧
  Data.size
  (Data.cells
  (List.take (1 * 1)
  (List.drop (0)
  (List.take (0 * 1) (zerosOf (List.map ofCell [Value.int IntKind.i64 (0 : Int)]) 1) ++
  (AV.parts
  (opnd (mkL Try.prog 0 (fun x => none) tab20 rowsfields)
  [AV.junk, AV.junk, AV.junk, AV.junk, AV.junk, AV.junk, AV.junk,
  AV.sl (decide (outTo ws vs (List.length ws) = [])) (Ref.mk 2 0 0 0) false (List.length (outTo ws vs (List.length ws))) Cap.own,
  AV.int IntKind.i64 false (roomTo ws vs (List.length ws)), AV.int IntKind.i64 false (lastTo ws vs (List.length ws)), AV.junk, AV.junk, AV.junk, AV.junk, AV.junk, AV.junk,
  AV.junk, AV.junk, AV.junk, AV.junk, AV.junk, AV.junk, AV.junk, AV.junk, AV.junk, AV.junk, AV.junk, AV.junk, AV.junk, AV.junk, AV.junk, AV.junk, AV.junk, AV.junk, AV.junk, AV.junk, AV.junk,
  AV.junk, AV.junk, AV.junk, AV.junk, AV.junk, AV.junk, AV.junk, AV.junk, AV.junk, AV.junk, AV.junk, AV.junk, AV.junk, AV.junk, AV.junk, AV.junk, AV.junk, AV.junk, AV.junk, AV.junk, AV.junk,
  AV.junk, AV.junk, AV.junk, AV.junk, AV.junk, AV.junk, AV.junk, AV.junk, AV.junk, AV.junk, AV.junk, AV.junk, AV.int IntKind.i64 false (roomTo ws vs (List.length ws)), AV.bool true true,
  AV.sl (decide (outTo ws vs (List.length ws) = [])) (Ref.mk 2 0 0 0) false (List.length (outTo ws vs (List.length ws))) Cap.own,
  AV.int IntKind.i64 false (lastTo ws vs (List.length ws)), AV.int IntKind.i64 false (roomTo ws vs (List.length ws)),
  AV.int IntKind.i64 false (IntKind.wrap IntKind.i64 ((16 : Int) - roomTo ws vs (List.length ws))),
  AV.int IntKind.i64 false
  (IntKind.wrap IntKind.i64 (lastTo ws vs (List.length ws) * (2 : Int) ^ min (Int.toNat (IntKind.wrap IntKind.i64 ((16 : Int) - roomTo ws vs (List.length ws)))) (64))),
  AV.junk, AV.junk, AV.junk]
  (Operand.tmp 76)) ++
  List.drop (0 * 1 + 1) (zerosOf (List.map ofCell [Value.int IntKind.i64 (0 : Int)]) 1)))))) =
  1 * 1) &&
  decide (outTo ws vs (List.length ws) = []) == decide ((outTo ws vs (List.length ws)) = []))
  (Tree.ret
  (AV.tup
  [AV.sl (decide (outTo ws vs (List.length ws) = []) && decide (1 = 0)) (Ref.mk (2) (0) (0) (0)) false
  (List.length (outTo ws vs (List.length ws)) + 1) Cap.own,
  AV.int IntKind.i64 true (0 : Int)],
  [some (Blk.mk (3) false false true (Data.ints IntKind.i64 ws)), some (Blk.mk (3) false false true (Data.ints IntKind.i64 vs)),
  some
  (Blk.mk (3) true (Bool.rec false (decide (1 = 0)) (decide ((outTo ws vs (List.length ws)) = []))) true
  (Data.ints IntKind.i64
  (outTo ws vs (List.length ws) ++
  [IntKind.wrap IntKind.i64 (lastTo ws vs (List.length ws) * (2 : Int) ^ min (Int.toNat (IntKind.wrap IntKind.i64 ((16 : Int) - roomTo ws vs (List.length ws)))) (64))])))]))
  Tree.fail)
  Tree.fail)
  Tree.fail)
  (Tree.ret
  (AV.tup
  [AV.sl (decide (outTo ws vs (List.length ws) = [])) (Ref.mk (2) (0) (0) (0)) false (List.length (outTo ws vs (List.length ws))) Cap.own,
  AV.int IntKind.i64 true (0 : Int)],
  [some (Blk.mk (3) false false true (Data.ints IntKind.i64 ws)), some (Blk.mk (3) false false true (Data.ints IntKind.i64 vs)),
  some (Blk.mk (3) true (decide ((outTo ws vs (List.length ws)) = [])) true (Data.ints IntKind.i64 (outTo ws vs (List.length ws))))])))
  (Tree.ret
  (AV.tup [AV.sl true (Ref.mk (0) (0) (0) (0)) true (0) Cap.exact, AV.int IntKind.i64 true (2 : Int)],
  [some (Blk.mk (3) false false true (Data.ints IntKind.i64 ws)), some (Blk.mk (3) false false true (Data.ints IntKind.i64 vs))]))))))) : Tree (AV × Mem)).GivesP (.tup [.sl (decide (fieldsL ws vs = [])) ⟨2, 0, 0, 0⟩ false (fieldsL ws vs).length .own, .int .i64 false (fieldsE ws vs)]) ([some ⟨3, false, false, true, .ints .i64 ws⟩, some ⟨3, false, false, true, .ints .i64 vs⟩, some (⟨3, true, decide (fieldsL ws vs = []), true, .ints .i64 (fieldsL ws vs)⟩)]) := by
  obtain ⟨hs, hs2, hzw, hzv, hwv⟩ := hw
  simp only [List.take_length, List.drop_zero]
  refine Tree.GivesP.chk (by first | (simp only [and_self]; done) | (exact ⟨⟨by omega, trivial⟩, hs, hzw⟩)) ?_
  refine Tree.GivesP.br (fun h1 => ?_) (fun h1 => ?_)
  · (try simp only [decide_eq_true_eq, decide_eq_false_iff_not, Bool.not_eq_true', Bool.not_eq_false', beq_iff_eq, beq_eq_false_iff_ne, Int.not_lt, Int.not_le, ge_iff_le, gt_iff_lt, ne_eq, Bool.false_eq_true, Bool.true_eq_false, not_true_eq_false, not_false_eq_true, Bool.and_eq_true, Bool.not_eq_eq_eq_not, Bool.not_true, Bool.not_false, bne_iff_ne, bne_eq_false_iff_eq, Int.toNat_natCast, Nat.mul_one, Nat.add_zero, Nat.zero_add, List.take_length, List.drop_zero] at h1)
    all_goals
      refine Tree.GivesP.ret ?_ ?_
      · have e := fields_may (vs := vs) h1
        simp [AV.le, AV.leL, Cap.le, e.1, e.2] <;> first | assumption | exact pl.symm
      · have e := fields_may (vs := vs) h1
        simp [Mem.leP, Blk.le, Blk.pad, Data.le, Data.size, AV.le, AV.leL, e.1, e.2] <;> first | assumption | (cases decide (outTo ws vs ws.length = []) <;> rfl)
  · (try simp only [decide_eq_true_eq, decide_eq_false_iff_not, Bool.not_eq_true', Bool.not_eq_false', beq_iff_eq, beq_eq_false_iff_ne, Int.not_lt, Int.not_le, ge_iff_le, gt_iff_lt, ne_eq, Bool.false_eq_true, Bool.true_eq_false, not_true_eq_false, not_false_eq_true, Bool.and_eq_true, Bool.not_eq_eq_eq_not, Bool.not_true, Bool.not_false, bne_iff_ne, bne_eq_false_iff_eq, Int.toNat_natCast, Nat.mul_one, Nat.add_zero, Nat.zero_add, List.take_length, List.drop_zero] at h1)
    all_goals
      refine Tree.GivesP.br (fun h2 => ?_) (fun h2 => ?_)
      · (try simp only [decide_eq_true_eq, decide_eq_false_iff_not, Bool.not_eq_true', Bool.not_eq_false', beq_iff_eq, beq_eq_false_iff_ne, Int.not_lt, Int.not_le, ge_iff_le, gt_iff_lt, ne_eq, Bool.false_eq_true, Bool.true_eq_false, not_true_eq_false, not_false_eq_true, Bool.and_eq_true, Bool.not_eq_eq_eq_not, Bool.not_true, Bool.not_false, bne_iff_ne, bne_eq_false_iff_eq, Int.toNat_natCast, Nat.mul_one, Nat.add_zero, Nat.zero_add, List.take_length, List.drop_zero] at h2)
        all_goals
          refine Tree.GivesP.ret ?_ ?_
          · have e := fields_bad h1 (fun hh => h2 (by rw [hh.1]))
            simp [AV.le, AV.leL, Cap.le, e.1, e.2] <;> first | assumption | exact pl.symm
          · have e := fields_bad h1 (fun hh => h2 (by rw [hh.1]))
            simp [Mem.leP, Blk.le, Blk.pad, Data.le, Data.size, AV.le, AV.leL, e.1, e.2] <;> first | assumption | (cases decide (outTo ws vs ws.length = []) <;> rfl)
      · (try simp only [decide_eq_true_eq, decide_eq_false_iff_not, Bool.not_eq_true', Bool.not_eq_false', beq_iff_eq, beq_eq_false_iff_ne, Int.not_lt, Int.not_le, ge_iff_le, gt_iff_lt, ne_eq, Bool.false_eq_true, Bool.true_eq_false, not_true_eq_false, not_false_eq_true, Bool.and_eq_true, Bool.not_eq_eq_eq_not, Bool.not_true, Bool.not_false, bne_iff_ne, bne_eq_false_iff_eq, Int.toNat_natCast, Nat.mul_one, Nat.add_zero, Nat.zero_add, List.take_length, List.drop_zero] at h2)
        all_goals
          refine Tree.GivesP.chk (by first | (simp only [and_self]; done) | (constructor <;> simp only [hdfields_0, Int.toNat_zero, Int.cast_ofNat_Int, AV.leL, AV.le, Mem.le, Mem.leP, Blk.le, Blk.pad, Data.le, Data.size, Cap.le, and_true, true_and, and_self, true_implies, implies_true, imp_self, List.length_nil] <;> (try simp only [List.take_zero]) <;> (try rfl) <;> (try (repeat' with_reducible refine And.intro ?_ ?_)) <;> first | rfl | exact (to_zero ws vs).1.symm | exact (to_zero ws vs).2.1.symm | exact (to_zero ws vs).2.2.symm)) ?_
          refine Tree.GivesP.chk (by first | (simp only [and_self]; done) | (exact ⟨h1, by omega, hzw, hzv, hwv, Nat.zero_le _, rfl⟩)) ?_
          refine Tree.GivesP.br (fun h3 => ?_) (fun h3 => ?_)
          · (try simp only [decide_eq_true_eq, decide_eq_false_iff_not, Bool.not_eq_true', Bool.not_eq_false', beq_iff_eq, beq_eq_false_iff_ne, Int.not_lt, Int.not_le, ge_iff_le, gt_iff_lt, ne_eq, Bool.false_eq_true, Bool.true_eq_false, not_true_eq_false, not_false_eq_true, Bool.and_eq_true, Bool.not_eq_eq_eq_not, Bool.not_true, Bool.not_false, bne_iff_ne, bne_eq_false_iff_eq, Int.toNat_natCast, Nat.mul_one, Nat.add_zero, Nat.zero_add, List.take_length, List.drop_zero] at h3)
            all_goals
              refine Tree.GivesP.br (fun h4 => ?_) (fun h4 => ?_)
              · (try simp only [decide_eq_true_eq, decide_eq_false_iff_not, Bool.not_eq_true', Bool.not_eq_false', beq_iff_eq, beq_eq_false_iff_ne, Int.not_lt, Int.not_le, ge_iff_le, gt_iff_lt, ne_eq, Bool.false_eq_true, Bool.true_eq_false, not_true_eq_false, not_false_eq_true, Bool.and_eq_true, Bool.not_eq_eq_eq_not, Bool.not_true, Bool.not_false, bne_iff_ne, bne_eq_false_iff_eq, Int.toNat_natCast, Nat.mul_one, Nat.add_zero, Nat.zero_add, List.take_length, List.drop_zero] at h4)
                all_goals
                  refine Tree.GivesP.br (fun h5 => ?_) (fun h5 => ?_)
                  · (try simp only [decide_eq_true_eq, decide_eq_false_iff_not, Bool.not_eq_true', Bool.not_eq_false', beq_iff_eq, beq_eq_false_iff_ne, Int.not_lt, Int.not_le, ge_iff_le, gt_iff_lt, ne_eq, Bool.false_eq_true, Bool.true_eq_false, not_true_eq_false, not_false_eq_true, Bool.and_eq_true, Bool.not_eq_eq_eq_not, Bool.not_true, Bool.not_false, bne_iff_ne, bne_eq_false_iff_eq, Int.toNat_natCast, Nat.mul_one, Nat.add_zero, Nat.zero_add, List.take_length, List.drop_zero] at h5)
                    all_goals
                      refine Tree.GivesP.br (fun h6 => ?_) (fun h6 => ?_)
                      · (try simp only [decide_eq_true_eq, decide_eq_false_iff_not, Bool.not_eq_true', Bool.not_eq_false', beq_iff_eq, beq_eq_false_iff_ne, Int.not_lt, Int.not_le, ge_iff_le, gt_iff_lt, ne_eq, Bool.false_eq_true, Bool.true_eq_false, not_true_eq_false, not_false_eq_true, Bool.and_eq_true, Bool.not_eq_eq_eq_not, Bool.not_true, Bool.not_false, bne_iff_ne, bne_eq_false_iff_eq, Int.toNat_natCast, Nat.mul_one, Nat.add_zero, Nat.zero_add, List.take_length, List.drop_zero] at h6)
                        all_goals
                          refine Tree.GivesP.br (fun h7 => ?_) (fun h7 => ?_)
                          · (try simp only [decide_eq_true_eq, decide_eq_false_iff_not, Bool.not_eq_true', Bool.not_eq_false', beq_iff_eq, beq_eq_false_iff_ne, Int.not_lt, Int.not_le, ge_iff_le, gt_iff_lt, ne_eq, Bool.false_eq_true, Bool.true_eq_false, not_true_eq_false, not_false_eq_true, Bool.and_eq_true, Bool.not_eq_eq_eq_not, Bool.not_true, Bool.not_false, bne_iff_ne, bne_eq_false_iff_eq, Int.toNat_natCast, Nat.mul_one, Nat.add_zero, Nat.zero_add, List.take_length, List.drop_zero] at h7)
                            all_goals
                              refine Tree.GivesP.ret ?_ ?_
                              · have e := fields_end h1 (by omega) h3
                                rw [if_pos h4] at e
                                obtain ⟨r0, r1, t0, t1, t2⟩ := to_bounds ws vs ws.length
                                have er : IntKind.i64.wrap (16 - roomTo ws vs ws.length) = 16 - roomTo ws vs ws.length := by rw [w64]; omega
                                have hmn : min (16 - roomTo ws vs ws.length).toNat 64 = (16 - roomTo ws vs ws.length).toNat := by omega
                                have m16 := mul16 (w := (16 - roomTo ws vs ws.length).toNat) t0 t2 (by omega)
                                have el : IntKind.i64.wrap (lastTo ws vs ws.length * 2 ^ (16 - roomTo ws vs ws.length).toNat) = lastTo ws vs ws.length * 2 ^ (16 - roomTo ws vs ws.length).toNat := by rw [w64]; omega
                                (try simp only [er, hmn, el])
                                simp [AV.le, AV.leL, Cap.le, e.1, e.2] <;> first | assumption | exact pl.symm
                              · have e := fields_end h1 (by omega) h3
                                rw [if_pos h4] at e
                                obtain ⟨r0, r1, t0, t1, t2⟩ := to_bounds ws vs ws.length
                                have er : IntKind.i64.wrap (16 - roomTo ws vs ws.length) = 16 - roomTo ws vs ws.length := by rw [w64]; omega
                                have hmn : min (16 - roomTo ws vs ws.length).toNat 64 = (16 - roomTo ws vs ws.length).toNat := by omega
                                have m16 := mul16 (w := (16 - roomTo ws vs ws.length).toNat) t0 t2 (by omega)
                                have el : IntKind.i64.wrap (lastTo ws vs ws.length * 2 ^ (16 - roomTo ws vs ws.length).toNat) = lastTo ws vs ws.length * 2 ^ (16 - roomTo ws vs ws.length).toNat := by rw [w64]; omega
                                (try simp only [er, hmn, el])
                                simp [Mem.leP, Blk.le, Blk.pad, Data.le, Data.size, AV.le, AV.leL, e.1, e.2] <;> first | assumption | (cases decide (outTo ws vs ws.length = []) <;> rfl)
                          · (try simp only [decide_eq_true_eq, decide_eq_false_iff_not, Bool.not_eq_true', Bool.not_eq_false', beq_iff_eq, beq_eq_false_iff_ne, Int.not_lt, Int.not_le, ge_iff_le, gt_iff_lt, ne_eq, Bool.false_eq_true, Bool.true_eq_false, not_true_eq_false, not_false_eq_true, Bool.and_eq_true, Bool.not_eq_eq_eq_not, Bool.not_true, Bool.not_false, bne_iff_ne, bne_eq_false_iff_eq, Int.toNat_natCast, Nat.mul_one, Nat.add_zero, Nat.zero_add, List.take_length, List.drop_zero] at h7)
                            all_goals
                              exfalso
                              rw [Bool.and_eq_false_iff] at h7
                              rcases h7 with h7 | h7
                              · rw [decide_eq_false_iff_not] at h7
                                exact h7 ⟨by first | rfl | (simp only [Data.size]; omega), by first | rfl | kernel_rfl⟩
                              · exact absurd h7 (by simp)
                      · (try simp only [decide_eq_true_eq, decide_eq_false_iff_not, Bool.not_eq_true', Bool.not_eq_false', beq_iff_eq, beq_eq_false_iff_ne, Int.not_lt, Int.not_le, ge_iff_le, gt_iff_lt, ne_eq, Bool.false_eq_true, Bool.true_eq_false, not_true_eq_false, not_false_eq_true, Bool.and_eq_true, Bool.not_eq_eq_eq_not, Bool.not_true, Bool.not_false, bne_iff_ne, bne_eq_false_iff_eq, Int.toNat_natCast, Nat.mul_one, Nat.add_zero, Nat.zero_add, List.take_length, List.drop_zero] at h6)
                        all_goals
                          exfalso
                          simp [most48] at h6
                          have ol := outTo_len (ws := ws) (vs := vs) (i := ws.length) (may_ok h1).2 (by omega) (Nat.le_refl _)
                          have := (may_ok h1).1
                          omega
                  · (try simp only [decide_eq_true_eq, decide_eq_false_iff_not, Bool.not_eq_true', Bool.not_eq_false', beq_iff_eq, beq_eq_false_iff_ne, Int.not_lt, Int.not_le, ge_iff_le, gt_iff_lt, ne_eq, Bool.false_eq_true, Bool.true_eq_false, not_true_eq_false, not_false_eq_true, Bool.and_eq_true, Bool.not_eq_eq_eq_not, Bool.not_true, Bool.not_false, bne_iff_ne, bne_eq_false_iff_eq, Int.toNat_natCast, Nat.mul_one, Nat.add_zero, Nat.zero_add, List.take_length, List.drop_zero] at h5)
                    all_goals
                      exfalso
                      have tb := to_bounds ws vs ws.length
                      simp only [w64] at h5
                      omega
              · (try simp only [decide_eq_true_eq, decide_eq_false_iff_not, Bool.not_eq_true', Bool.not_eq_false', beq_iff_eq, beq_eq_false_iff_ne, Int.not_lt, Int.not_le, ge_iff_le, gt_iff_lt, ne_eq, Bool.false_eq_true, Bool.true_eq_false, not_true_eq_false, not_false_eq_true, Bool.and_eq_true, Bool.not_eq_eq_eq_not, Bool.not_true, Bool.not_false, bne_iff_ne, bne_eq_false_iff_eq, Int.toNat_natCast, Nat.mul_one, Nat.add_zero, Nat.zero_add, List.take_length, List.drop_zero] at h4)
                all_goals
                  refine Tree.GivesP.ret ?_ ?_
                  · have e := fields_end h1 (by omega) h3
                    rw [if_neg (by omega)] at e
                    simp [AV.le, AV.leL, Cap.le, e.1, e.2] <;> first | assumption | exact pl.symm
                  · have e := fields_end h1 (by omega) h3
                    rw [if_neg (by omega)] at e
                    simp [Mem.leP, Blk.le, Blk.pad, Data.le, Data.size, AV.le, AV.leL, e.1, e.2] <;> first | assumption | (cases decide (outTo ws vs ws.length = []) <;> rfl)
          · (try simp only [decide_eq_true_eq, decide_eq_false_iff_not, Bool.not_eq_true', Bool.not_eq_false', beq_iff_eq, beq_eq_false_iff_ne, Int.not_lt, Int.not_le, ge_iff_le, gt_iff_lt, ne_eq, Bool.false_eq_true, Bool.true_eq_false, not_true_eq_false, not_false_eq_true, Bool.and_eq_true, Bool.not_eq_eq_eq_not, Bool.not_true, Bool.not_false, bne_iff_ne, bne_eq_false_iff_eq, Int.toNat_natCast, Nat.mul_one, Nat.add_zero, Nat.zero_add, List.take_length, List.drop_zero] at h3)
            all_goals
              refine Tree.GivesP.ret ?_ ?_
              · have e := fields_bad h1 (fun hh => by rw [hh.2] at h3; cases h3)
                simp [AV.le, AV.leL, Cap.le, e.1, e.2] <;> first | assumption | exact pl.symm
              · have e := fields_bad h1 (fun hh => by rw [hh.2] at h3; cases h3)
                simp [Mem.leP, Blk.le, Blk.pad, Data.le, Data.size, AV.le, AV.leL, e.1, e.2] <;> first | assumption | (cases decide (outTo ws vs ws.length = []) <;> rfl)
theorem sfields (hall : AllOk Try.prog 0 (fun _ => none) tab20) (zws : Bool) (ws : List Int) (zvs : Bool) (vs : List Int) (hw : short ws ∧ short vs ∧ (zws = true → ws = []) ∧ (zvs = true → vs = []) ∧ wf64L vs) : SoundAt (mkC Try.prog 0 (fun _ => none) []) 19 [.sl zws ⟨0, 0, 0, 0⟩ false ws.length .any, .sl zvs ⟨1, 0, 0, 0⟩ false vs.length .any] [some ⟨3, false, false, true, .ints .i64 ws⟩, some ⟨3, false, false, true, .ints .i64 vs⟩] (.tup [.sl (decide (fieldsL ws vs = [])) ⟨2, 0, 0, 0⟩ false (fieldsL ws vs).length .own, .int .i64 false (fieldsE ws vs)], [some ⟨3, false, false, true, .ints .i64 ws⟩, some ⟨3, false, false, true, .ints .i64 vs⟩, some (⟨3, true, decide (fieldsL ws vs = []), true, .ints .i64 (fieldsL ws vs)⟩)]) := sound_loopsP hall mix (loopsfields hall) (tfields zws ws zvs vs) (gfields zws ws zvs vs hw)
theorem Ffields_ok (hall : AllOk Try.prog 0 (fun _ => none) tab20) : PureF Try.prog 3 19 Ffields := by
  intro xs c v news h hc
  unfold Ffields at h
  split at h
  · rename_i zws ws zvs vs
    cases h
    refine ⟨(by simp), SoundAt.flags (sfields hall zws ws zvs vs hc) ?_⟩
    simp [PA.avs, AV.le, AV.leL, Cap.le]
  · cases h
end Go.Proofs.Ytnkjblmlchbfkaa.Rig
