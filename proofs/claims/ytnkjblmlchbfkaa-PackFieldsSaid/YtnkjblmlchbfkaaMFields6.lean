/- MFields: what is proved for the claim, part 6: functions' reckonings, and what they give. -/
import Derived.Test.YtnkjblmlchbfkaaMFields5
import Derived.KernelRfl
import Derived.Test.YtnkjblmlchbfkaaRows
import Derived.WalkKit
import Derived.ProofKit
import Derived.OpenShut
import Derived.ShutString
import Derived.ChangeOld
import Derived.Below
import Derived.SizedLaws
set_option linter.unusedVariables false
set_option linter.unusedSimpArgs false
/- Qrsplit -/
namespace Go.Proofs.Ytnkjblmlchbfkaa.Rig
open Go
set_option maxRecDepth 100000 in
theorem tLrsplit_2 (zws : Bool) (ws : List Int) (zl : Bool) (l : List Int) (i : Nat) (b : Nat) : tidied Trsplit_2 Ursplit_2 2 (evCode (mkL Try.prog 0 (fun _ => none) tab23 rowsrsplit) (evCall (mkC Try.prog 0 (fun _ => none) tab23) 50) 22 2 fuelC (bodyAt Try.prog 22 2) (hdrsplit_2 ⟨zws, ws, zl, l, i, b⟩)) =
  Tree.br (!zws && decide ((0 : Int) ≤ (i : Int) ∧ (i : Int) < ((List.length ws) : Int)))
  (Tree.br (decide (Int.toNat (i : Int) * 1 + 0 + 1 ≤ List.length ws))
  (Tree.br (decide ((b : Int) < List.getD ws (Int.toNat (i : Int) * 1 + 0 + 0) (0 : Int)))
  (Tree.br true
  (Tree.br
  (!zl && decide ((0 : Int) ≤ IntKind.wrap IntKind.i64 (Int.tdiv (sumI (List.take i ws) + (b : Int)) (16 : Int)) ∧ IntKind.wrap IntKind.i64 (Int.tdiv (sumI (List.take i ws) + (b : Int)) (16 : Int)) < ((List.length l) : Int)))
  (Tree.br (decide (Int.toNat (IntKind.wrap IntKind.i64 (Int.tdiv (sumI (List.take i ws) + (b : Int)) (16 : Int))) * 1 + 0 + 1 ≤ List.length l))
  (Tree.br true
  (Tree.chk ((True ∧ True) ∧ IntKind.wrap IntKind.i64 ((15 : Int) - Int.tmod (sumI (List.take i ws) + (b : Int)) (16 : Int)) ≤ (62 : Int))
  (Tree.br (!decide ((2 : Int) ^ Int.toNat (IntKind.wrap IntKind.i64 ((15 : Int) - Int.tmod (sumI (List.take i ws) + (b : Int)) (16 : Int))) = (0 : Int)))
  (Tree.br true
  (Tree.ret
  (Ex.norm,
  St.mk
  [AV.sl zws (Ref.mk (0) (0) (0) (0)) false (List.length ws) Cap.any, AV.sl zl (Ref.mk (1) (0) (0) (0)) false (List.length l) Cap.any,
  AV.junk, AV.junk, AV.junk, AV.junk, AV.junk, AV.junk, AV.junk, AV.sl false (Ref.mk (2) (0) (0) (0)) false (List.length (splitF l 0 (List.take i ws))) Cap.own,
  AV.int IntKind.i64 false (IntKind.wrap IntKind.i64 (sumI (List.take i ws) + (b : Int) + (1 : Int))), AV.int IntKind.i64 false (i : Int),
  AV.int IntKind.i64 false
  (IntKind.wrap IntKind.i64
  (IntKind.wrap IntKind.i64 ((2 : Int) * partAt l (Int.toNat (sumI (List.take i ws))) b) +
  Int.tmod
  (IntKind.wrap IntKind.i64
  (Int.tdiv (List.getD l (Int.toNat (IntKind.wrap IntKind.i64 (Int.tdiv (sumI (List.take i ws) + (b : Int)) (16 : Int))) * 1 + 0 + 0) (0 : Int))
  ((2 : Int) ^ Int.toNat (IntKind.wrap IntKind.i64 ((15 : Int) - Int.tmod (sumI (List.take i ws) + (b : Int)) (16 : Int))))))
  (2 : Int))),
  AV.int IntKind.i64 false (IntKind.wrap IntKind.i64 ((b : Int) + (1 : Int))), AV.junk, AV.junk, AV.junk, AV.junk, AV.junk, AV.junk, AV.junk, AV.junk, AV.junk, AV.junk, AV.junk, AV.junk, AV.junk, AV.junk, AV.junk,
  AV.junk, AV.junk, AV.junk, AV.junk, AV.junk, AV.junk, AV.junk, AV.junk, AV.junk, AV.junk, AV.junk, AV.junk, AV.junk, AV.junk, AV.junk, AV.junk, AV.junk, AV.junk, AV.junk, AV.junk, AV.junk, AV.junk, AV.junk,
  AV.junk, AV.junk, AV.junk, AV.junk, AV.junk, AV.junk, AV.junk, AV.junk, AV.junk, AV.junk, AV.junk, AV.junk, AV.junk, AV.junk, AV.junk, AV.junk, AV.junk, AV.junk, AV.junk, AV.junk, AV.junk, AV.junk, AV.junk,
  AV.junk, AV.junk, AV.junk, AV.junk, AV.junk, AV.junk, AV.junk, AV.junk, AV.junk]
  [some (Blk.mk (3) false false true (Data.ints IntKind.i64 ws)), some (Blk.mk (3) false false true (Data.ints IntKind.i64 l)),
  some (Blk.mk (3) true false true (Data.ints IntKind.i64 (splitF l 0 (List.take i ws))))]))
  Tree.fail)
  Tree.fail))
  Tree.fail)
  Tree.fail)
  Tree.fail)
  Tree.fail)
  (Tree.ret
  (Ex.exit (4),
  St.mk
  [AV.sl zws (Ref.mk (0) (0) (0) (0)) false (List.length ws) Cap.any, AV.sl zl (Ref.mk (1) (0) (0) (0)) false (List.length l) Cap.any, AV.junk, AV.junk,
  AV.junk, AV.junk, AV.junk, AV.junk, AV.junk, AV.sl false (Ref.mk (2) (0) (0) (0)) false (List.length (splitF l 0 (List.take i ws))) Cap.own,
  AV.int IntKind.i64 false (sumI (List.take i ws) + (b : Int)), AV.int IntKind.i64 false (i : Int), AV.int IntKind.i64 false (partAt l (Int.toNat (sumI (List.take i ws))) b), AV.junk, AV.junk, AV.junk, AV.junk,
  AV.junk, AV.junk, AV.junk, AV.junk, AV.junk, AV.junk, AV.junk, AV.junk, AV.junk, AV.junk, AV.junk, AV.junk, AV.junk, AV.junk, AV.junk, AV.junk, AV.junk, AV.junk, AV.junk, AV.junk, AV.junk, AV.junk, AV.junk, AV.junk, AV.junk,
  AV.junk, AV.junk, AV.junk, AV.junk, AV.junk, AV.junk, AV.junk, AV.junk, AV.junk, AV.junk, AV.junk, AV.junk, AV.junk, AV.junk, AV.junk, AV.junk, AV.junk, AV.junk, AV.junk, AV.junk, AV.junk, AV.junk, AV.junk, AV.junk, AV.junk,
  AV.junk, AV.junk, AV.junk, AV.junk, AV.junk, AV.junk, AV.junk, AV.junk, AV.junk, AV.junk, AV.junk, AV.junk, AV.junk, AV.junk, AV.junk, AV.junk, AV.junk]
  [some (Blk.mk (3) false false true (Data.ints IntKind.i64 ws)), some (Blk.mk (3) false false true (Data.ints IntKind.i64 l)),
  some (Blk.mk (3) true false true (Data.ints IntKind.i64 (splitF l 0 (List.take i ws))))])))
  Tree.fail)
  Tree.fail := by kernel_rfl
set_option maxRecDepth 100000 in
theorem steprsplit_2 (zws : Bool) (ws : List Int) (zl : Bool) (l : List Int) (i : Nat) (b : Nat) (ex : Ex) (r : St) (hok : okrsplit_2 ⟨zws, ws, zl, l, i, b⟩) (hr : (outrsplit_2 ⟨zws, ws, zl, l, i, b⟩).runs (ex, r)) : (Tree.br (!zws && decide ((0 : Int) ≤ (i : Int) ∧ (i : Int) < ((List.length ws) : Int)))
  (Tree.br (decide (Int.toNat (i : Int) * 1 + 0 + 1 ≤ List.length ws))
  (Tree.br (decide ((b : Int) < List.getD ws (Int.toNat (i : Int) * 1 + 0 + 0) (0 : Int)))
  (Tree.br true
  (Tree.br
  (!zl && decide ((0 : Int) ≤ IntKind.wrap IntKind.i64 (Int.tdiv (sumI (List.take i ws) + (b : Int)) (16 : Int)) ∧ IntKind.wrap IntKind.i64 (Int.tdiv (sumI (List.take i ws) + (b : Int)) (16 : Int)) < ((List.length l) : Int)))
  (Tree.br (decide (Int.toNat (IntKind.wrap IntKind.i64 (Int.tdiv (sumI (List.take i ws) + (b : Int)) (16 : Int))) * 1 + 0 + 1 ≤ List.length l))
  (Tree.br true
  (Tree.chk ((True ∧ True) ∧ IntKind.wrap IntKind.i64 ((15 : Int) - Int.tmod (sumI (List.take i ws) + (b : Int)) (16 : Int)) ≤ (62 : Int))
  (Tree.br (!decide ((2 : Int) ^ Int.toNat (IntKind.wrap IntKind.i64 ((15 : Int) - Int.tmod (sumI (List.take i ws) + (b : Int)) (16 : Int))) = (0 : Int)))
  (Tree.br true
  (Tree.ret
  (Ex.norm,
  St.mk
  [AV.sl zws (Ref.mk (0) (0) (0) (0)) false (List.length ws) Cap.any, AV.sl zl (Ref.mk (1) (0) (0) (0)) false (List.length l) Cap.any,
  AV.junk, AV.junk, AV.junk, AV.junk, AV.junk, AV.junk, AV.junk, AV.sl false (Ref.mk (2) (0) (0) (0)) false (List.length (splitF l 0 (List.take i ws))) Cap.own,
  AV.int IntKind.i64 false (IntKind.wrap IntKind.i64 (sumI (List.take i ws) + (b : Int) + (1 : Int))), AV.int IntKind.i64 false (i : Int),
  AV.int IntKind.i64 false
  (IntKind.wrap IntKind.i64
  (IntKind.wrap IntKind.i64 ((2 : Int) * partAt l (Int.toNat (sumI (List.take i ws))) b) +
  Int.tmod
  (IntKind.wrap IntKind.i64
  (Int.tdiv (List.getD l (Int.toNat (IntKind.wrap IntKind.i64 (Int.tdiv (sumI (List.take i ws) + (b : Int)) (16 : Int))) * 1 + 0 + 0) (0 : Int))
  ((2 : Int) ^ Int.toNat (IntKind.wrap IntKind.i64 ((15 : Int) - Int.tmod (sumI (List.take i ws) + (b : Int)) (16 : Int))))))
  (2 : Int))),
  AV.int IntKind.i64 false (IntKind.wrap IntKind.i64 ((b : Int) + (1 : Int))), AV.junk, AV.junk, AV.junk, AV.junk, AV.junk, AV.junk, AV.junk, AV.junk, AV.junk, AV.junk, AV.junk, AV.junk, AV.junk, AV.junk, AV.junk,
  AV.junk, AV.junk, AV.junk, AV.junk, AV.junk, AV.junk, AV.junk, AV.junk, AV.junk, AV.junk, AV.junk, AV.junk, AV.junk, AV.junk, AV.junk, AV.junk, AV.junk, AV.junk, AV.junk, AV.junk, AV.junk, AV.junk, AV.junk,
  AV.junk, AV.junk, AV.junk, AV.junk, AV.junk, AV.junk, AV.junk, AV.junk, AV.junk, AV.junk, AV.junk, AV.junk, AV.junk, AV.junk, AV.junk, AV.junk, AV.junk, AV.junk, AV.junk, AV.junk, AV.junk, AV.junk, AV.junk,
  AV.junk, AV.junk, AV.junk, AV.junk, AV.junk, AV.junk, AV.junk, AV.junk, AV.junk]
  [some (Blk.mk (3) false false true (Data.ints IntKind.i64 ws)), some (Blk.mk (3) false false true (Data.ints IntKind.i64 l)),
  some (Blk.mk (3) true false true (Data.ints IntKind.i64 (splitF l 0 (List.take i ws))))]))
  Tree.fail)
  Tree.fail))
  Tree.fail)
  Tree.fail)
  Tree.fail)
  Tree.fail)
  (Tree.ret
  (Ex.exit (4),
  St.mk
  [AV.sl zws (Ref.mk (0) (0) (0) (0)) false (List.length ws) Cap.any, AV.sl zl (Ref.mk (1) (0) (0) (0)) false (List.length l) Cap.any, AV.junk, AV.junk,
  AV.junk, AV.junk, AV.junk, AV.junk, AV.junk, AV.sl false (Ref.mk (2) (0) (0) (0)) false (List.length (splitF l 0 (List.take i ws))) Cap.own,
  AV.int IntKind.i64 false (sumI (List.take i ws) + (b : Int)), AV.int IntKind.i64 false (i : Int), AV.int IntKind.i64 false (partAt l (Int.toNat (sumI (List.take i ws))) b), AV.junk, AV.junk, AV.junk, AV.junk,
  AV.junk, AV.junk, AV.junk, AV.junk, AV.junk, AV.junk, AV.junk, AV.junk, AV.junk, AV.junk, AV.junk, AV.junk, AV.junk, AV.junk, AV.junk, AV.junk, AV.junk, AV.junk, AV.junk, AV.junk, AV.junk, AV.junk, AV.junk, AV.junk, AV.junk,
  AV.junk, AV.junk, AV.junk, AV.junk, AV.junk, AV.junk, AV.junk, AV.junk, AV.junk, AV.junk, AV.junk, AV.junk, AV.junk, AV.junk, AV.junk, AV.junk, AV.junk, AV.junk, AV.junk, AV.junk, AV.junk, AV.junk, AV.junk, AV.junk, AV.junk,
  AV.junk, AV.junk, AV.junk, AV.junk, AV.junk, AV.junk, AV.junk, AV.junk, AV.junk, AV.junk, AV.junk, AV.junk, AV.junk, AV.junk, AV.junk, AV.junk, AV.junk]
  [some (Blk.mk (3) false false true (Data.ints IntKind.i64 ws)), some (Blk.mk (3) false false true (Data.ints IntKind.i64 l)),
  some (Blk.mk (3) true false true (Data.ints IntKind.i64 (splitF l 0 (List.take i ws))))])))
  Tree.fail)
  Tree.fail : Tree (Ex × St)).Sat (Post hdrsplit_2 resrsplit_2 mursplit_2 ⟨zws, ws, zl, l, i, b⟩ ex r) := by
  simp only [okrsplit_2, outrsplit_2, Tree.runs] at hok hr
  obtain ⟨⟨hm, hs, hzw, hzl, hlk⟩, hi, hb⟩ := hok
  obtain ⟨h256, hbv⟩ := may_ok hm
  have hg := badV_get (i := i) hbv hi
  obtain ⟨lk1, lk2⟩ := look_ok hlk
  have sz := size_small hm
  have sq := sumN_eq (ws.take i) (any_take_no hbv i)
  have sl := sum_next (ws := ws) (i := i) hbv hi
  rw [List.length_take] at sq
  obtain ⟨a, ha⟩ := Int.eq_ofNat_of_zero_le sq.2.1
  have hta : (sumI (ws.take i)).toNat = a := by omega
  have hq : (b : Int) < ws.getD i 0 → (a + b) / 16 < l.length ∧ 0 ≤ l.getD ((a + b) / 16) 0 ∧ l.getD ((a + b) / 16) 0 ≤ 65535 := fun h => ⟨by omega, look_get lk1 (by omega) (by omega)⟩
  have e1 : IntKind.i64.wrap (Int.tdiv (sumI (ws.take i) + (b : Int)) 16) = (((a + b) / 16 : Nat) : Int) := by rw [ha, Int.tdiv_eq_ediv_of_nonneg (by omega), w64]; omega
  have e3 : IntKind.i64.wrap (15 - Int.tmod (sumI (ws.take i) + (b : Int)) 16) = ((15 - (a + b) % 16 : Nat) : Int) := by rw [ha, Int.tmod_eq_emod_of_nonneg (by omega), w64]; omega
  have pb := part_bound l a b
  have p16 := pow16 (w := b) (by omega)
  have pp := pow_pos (15 - (a + b) % 16)
  simp only [Int.toNat_natCast, Nat.mul_one, Nat.add_zero, e1, e3, hta]
  refine Tree.Sat.br (fun h1 => ?_) (fun h1 => ?_)
  · (try simp only [decide_eq_true_eq, decide_eq_false_iff_not, Bool.not_eq_true', Bool.not_eq_false', beq_iff_eq, beq_eq_false_iff_ne, Int.not_lt, Int.not_le, ge_iff_le, gt_iff_lt, ne_eq, Bool.false_eq_true, Bool.true_eq_false, not_true_eq_false, not_false_eq_true, Bool.and_eq_true, Bool.not_eq_eq_eq_not, Bool.not_true, Bool.not_false, bne_iff_ne, bne_eq_false_iff_eq, Int.toNat_natCast, Nat.mul_one, Nat.add_zero, Nat.zero_add, List.take_length, List.drop_zero] at h1)
    all_goals
      refine Tree.Sat.br (fun h2 => ?_) (fun h2 => ?_)
      · (try simp only [decide_eq_true_eq, decide_eq_false_iff_not, Bool.not_eq_true', Bool.not_eq_false', beq_iff_eq, beq_eq_false_iff_ne, Int.not_lt, Int.not_le, ge_iff_le, gt_iff_lt, ne_eq, Bool.false_eq_true, Bool.true_eq_false, not_true_eq_false, not_false_eq_true, Bool.and_eq_true, Bool.not_eq_eq_eq_not, Bool.not_true, Bool.not_false, bne_iff_ne, bne_eq_false_iff_eq, Int.toNat_natCast, Nat.mul_one, Nat.add_zero, Nat.zero_add, List.take_length, List.drop_zero] at h2)
        all_goals
          refine Tree.Sat.br (fun h3 => ?_) (fun h3 => ?_)
          · (try simp only [decide_eq_true_eq, decide_eq_false_iff_not, Bool.not_eq_true', Bool.not_eq_false', beq_iff_eq, beq_eq_false_iff_ne, Int.not_lt, Int.not_le, ge_iff_le, gt_iff_lt, ne_eq, Bool.false_eq_true, Bool.true_eq_false, not_true_eq_false, not_false_eq_true, Bool.and_eq_true, Bool.not_eq_eq_eq_not, Bool.not_true, Bool.not_false, bne_iff_ne, bne_eq_false_iff_eq, Int.toNat_natCast, Nat.mul_one, Nat.add_zero, Nat.zero_add, List.take_length, List.drop_zero] at h3)
            all_goals
              refine Tree.Sat.br (fun h4 => ?_) (fun h4 => ?_)
              · (try simp only [decide_eq_true_eq, decide_eq_false_iff_not, Bool.not_eq_true', Bool.not_eq_false', beq_iff_eq, beq_eq_false_iff_ne, Int.not_lt, Int.not_le, ge_iff_le, gt_iff_lt, ne_eq, Bool.false_eq_true, Bool.true_eq_false, not_true_eq_false, not_false_eq_true, Bool.and_eq_true, Bool.not_eq_eq_eq_not, Bool.not_true, Bool.not_false, bne_iff_ne, bne_eq_false_iff_eq, Int.toNat_natCast, Nat.mul_one, Nat.add_zero, Nat.zero_add, List.take_length, List.drop_zero] at h4)
                all_goals
                  refine Tree.Sat.br (fun h5 => ?_) (fun h5 => ?_)
                  · (try simp only [decide_eq_true_eq, decide_eq_false_iff_not, Bool.not_eq_true', Bool.not_eq_false', beq_iff_eq, beq_eq_false_iff_ne, Int.not_lt, Int.not_le, ge_iff_le, gt_iff_lt, ne_eq, Bool.false_eq_true, Bool.true_eq_false, not_true_eq_false, not_false_eq_true, Bool.and_eq_true, Bool.not_eq_eq_eq_not, Bool.not_true, Bool.not_false, bne_iff_ne, bne_eq_false_iff_eq, Int.toNat_natCast, Nat.mul_one, Nat.add_zero, Nat.zero_add, List.take_length, List.drop_zero] at h5)
                    all_goals
                      refine Tree.Sat.br (fun h6 => ?_) (fun h6 => ?_)
                      · (try simp only [decide_eq_true_eq, decide_eq_false_iff_not, Bool.not_eq_true', Bool.not_eq_false', beq_iff_eq, beq_eq_false_iff_ne, Int.not_lt, Int.not_le, ge_iff_le, gt_iff_lt, ne_eq, Bool.false_eq_true, Bool.true_eq_false, not_true_eq_false, not_false_eq_true, Bool.and_eq_true, Bool.not_eq_eq_eq_not, Bool.not_true, Bool.not_false, bne_iff_ne, bne_eq_false_iff_eq, Int.toNat_natCast, Nat.mul_one, Nat.add_zero, Nat.zero_add, List.take_length, List.drop_zero] at h6)
                        all_goals
                          refine Tree.Sat.br (fun h7 => ?_) (fun h7 => ?_)
                          · (try simp only [decide_eq_true_eq, decide_eq_false_iff_not, Bool.not_eq_true', Bool.not_eq_false', beq_iff_eq, beq_eq_false_iff_ne, Int.not_lt, Int.not_le, ge_iff_le, gt_iff_lt, ne_eq, Bool.false_eq_true, Bool.true_eq_false, not_true_eq_false, not_false_eq_true, Bool.and_eq_true, Bool.not_eq_eq_eq_not, Bool.not_true, Bool.not_false, bne_iff_ne, bne_eq_false_iff_eq, Int.toNat_natCast, Nat.mul_one, Nat.add_zero, Nat.zero_add, List.take_length, List.drop_zero] at h7)
                            all_goals
                              refine Tree.Sat.chk (by first | (simp only [and_self]; done) | (exact ⟨⟨trivial, trivial⟩, by omega⟩)) ?_
                              refine Tree.Sat.br (fun h8 => ?_) (fun h8 => ?_)
                              · (try simp only [decide_eq_true_eq, decide_eq_false_iff_not, Bool.not_eq_true', Bool.not_eq_false', beq_iff_eq, beq_eq_false_iff_ne, Int.not_lt, Int.not_le, ge_iff_le, gt_iff_lt, ne_eq, Bool.false_eq_true, Bool.true_eq_false, not_true_eq_false, not_false_eq_true, Bool.and_eq_true, Bool.not_eq_eq_eq_not, Bool.not_true, Bool.not_false, bne_iff_ne, bne_eq_false_iff_eq, Int.toNat_natCast, Nat.mul_one, Nat.add_zero, Nat.zero_add, List.take_length, List.drop_zero] at h8)
                                all_goals
                                  refine Tree.Sat.br (fun h9 => ?_) (fun h9 => ?_)
                                  · (try simp only [decide_eq_true_eq, decide_eq_false_iff_not, Bool.not_eq_true', Bool.not_eq_false', beq_iff_eq, beq_eq_false_iff_ne, Int.not_lt, Int.not_le, ge_iff_le, gt_iff_lt, ne_eq, Bool.false_eq_true, Bool.true_eq_false, not_true_eq_false, not_false_eq_true, Bool.and_eq_true, Bool.not_eq_eq_eq_not, Bool.not_true, Bool.not_false, bne_iff_ne, bne_eq_false_iff_eq, Int.toNat_natCast, Nat.mul_one, Nat.add_zero, Nat.zero_add, List.take_length, List.drop_zero] at h9)
                                    all_goals
                                      refine Tree.Sat.ret ?_
                                      have q := hq (by omega)
                                      have ev := bit_val (n := 15 - (a + b) % 16) q.2.1 q.2.2
                                      refine .norm ⟨zws, ws, zl, l, i, b + 1⟩ ?_ ?_ ⟨?_, ?_⟩
                                      · constructor <;> simp only [hdrsplit_2, AV.leL, AV.le, Mem.le, Mem.leP, Blk.le, Blk.pad, Data.le, Data.size, Cap.le, and_true, true_and, and_self, true_implies, implies_true, imp_self, List.length_nil] <;> (repeat' with_reducible refine And.intro ?_ ?_) <;> (try simp only [Int.toNat_natCast, Nat.mul_one, Nat.add_zero, Nat.zero_add]) <;> first | exact wadd1 (by omega) | (rw [w64]; omega) | (rw [ev, hta, partAt_succ]; simp only [w64]; omega)
                                      · simp only [mursplit_2]; omega
                                      · exact ⟨⟨hm, hs, hzw, hzl, hlk⟩, hi, by omega⟩
                                      · exact hr
                                  · (try simp only [decide_eq_true_eq, decide_eq_false_iff_not, Bool.not_eq_true', Bool.not_eq_false', beq_iff_eq, beq_eq_false_iff_ne, Int.not_lt, Int.not_le, ge_iff_le, gt_iff_lt, ne_eq, Bool.false_eq_true, Bool.true_eq_false, not_true_eq_false, not_false_eq_true, Bool.and_eq_true, Bool.not_eq_eq_eq_not, Bool.not_true, Bool.not_false, bne_iff_ne, bne_eq_false_iff_eq, Int.toNat_natCast, Nat.mul_one, Nat.add_zero, Nat.zero_add, List.take_length, List.drop_zero] at h9)
                                    all_goals
                                      exfalso
                                      first | omega | (have q := hq (by omega); omega) | (clear hr; cases zws <;> cases zl <;> simp_all; done) | (clear hr; have q := hq (by omega); cases zws <;> cases zl <;> simp_all; done) | (clear hr; have q := hq (by omega); cases zws <;> cases zl <;> simp_all <;> omega)
                              · (try simp only [decide_eq_true_eq, decide_eq_false_iff_not, Bool.not_eq_true', Bool.not_eq_false', beq_iff_eq, beq_eq_false_iff_ne, Int.not_lt, Int.not_le, ge_iff_le, gt_iff_lt, ne_eq, Bool.false_eq_true, Bool.true_eq_false, not_true_eq_false, not_false_eq_true, Bool.and_eq_true, Bool.not_eq_eq_eq_not, Bool.not_true, Bool.not_false, bne_iff_ne, bne_eq_false_iff_eq, Int.toNat_natCast, Nat.mul_one, Nat.add_zero, Nat.zero_add, List.take_length, List.drop_zero] at h8)
                                all_goals
                                  exfalso
                                  first | omega | (have q := hq (by omega); omega) | (clear hr; cases zws <;> cases zl <;> simp_all; done) | (clear hr; have q := hq (by omega); cases zws <;> cases zl <;> simp_all; done) | (clear hr; have q := hq (by omega); cases zws <;> cases zl <;> simp_all <;> omega)
                          · (try simp only [decide_eq_true_eq, decide_eq_false_iff_not, Bool.not_eq_true', Bool.not_eq_false', beq_iff_eq, beq_eq_false_iff_ne, Int.not_lt, Int.not_le, ge_iff_le, gt_iff_lt, ne_eq, Bool.false_eq_true, Bool.true_eq_false, not_true_eq_false, not_false_eq_true, Bool.and_eq_true, Bool.not_eq_eq_eq_not, Bool.not_true, Bool.not_false, bne_iff_ne, bne_eq_false_iff_eq, Int.toNat_natCast, Nat.mul_one, Nat.add_zero, Nat.zero_add, List.take_length, List.drop_zero] at h7)
                            all_goals
                              exfalso
                              first | omega | (have q := hq (by omega); omega) | (clear hr; cases zws <;> cases zl <;> simp_all; done) | (clear hr; have q := hq (by omega); cases zws <;> cases zl <;> simp_all; done) | (clear hr; have q := hq (by omega); cases zws <;> cases zl <;> simp_all <;> omega)
                      · (try simp only [decide_eq_true_eq, decide_eq_false_iff_not, Bool.not_eq_true', Bool.not_eq_false', beq_iff_eq, beq_eq_false_iff_ne, Int.not_lt, Int.not_le, ge_iff_le, gt_iff_lt, ne_eq, Bool.false_eq_true, Bool.true_eq_false, not_true_eq_false, not_false_eq_true, Bool.and_eq_true, Bool.not_eq_eq_eq_not, Bool.not_true, Bool.not_false, bne_iff_ne, bne_eq_false_iff_eq, Int.toNat_natCast, Nat.mul_one, Nat.add_zero, Nat.zero_add, List.take_length, List.drop_zero] at h6)
                        all_goals
                          exfalso
                          first | omega | (have q := hq (by omega); omega) | (clear hr; cases zws <;> cases zl <;> simp_all; done) | (clear hr; have q := hq (by omega); cases zws <;> cases zl <;> simp_all; done) | (clear hr; have q := hq (by omega); cases zws <;> cases zl <;> simp_all <;> omega)
                  · (try simp only [decide_eq_true_eq, decide_eq_false_iff_not, Bool.not_eq_true', Bool.not_eq_false', beq_iff_eq, beq_eq_false_iff_ne, Int.not_lt, Int.not_le, ge_iff_le, gt_iff_lt, ne_eq, Bool.false_eq_true, Bool.true_eq_false, not_true_eq_false, not_false_eq_true, Bool.and_eq_true, Bool.not_eq_eq_eq_not, Bool.not_true, Bool.not_false, bne_iff_ne, bne_eq_false_iff_eq, Int.toNat_natCast, Nat.mul_one, Nat.add_zero, Nat.zero_add, List.take_length, List.drop_zero] at h5)
                    all_goals
                      exfalso
                      first | omega | (have q := hq (by omega); omega) | (clear hr; cases zws <;> cases zl <;> simp_all; done) | (clear hr; have q := hq (by omega); cases zws <;> cases zl <;> simp_all; done) | (clear hr; have q := hq (by omega); cases zws <;> cases zl <;> simp_all <;> omega)
              · (try simp only [decide_eq_true_eq, decide_eq_false_iff_not, Bool.not_eq_true', Bool.not_eq_false', beq_iff_eq, beq_eq_false_iff_ne, Int.not_lt, Int.not_le, ge_iff_le, gt_iff_lt, ne_eq, Bool.false_eq_true, Bool.true_eq_false, not_true_eq_false, not_false_eq_true, Bool.and_eq_true, Bool.not_eq_eq_eq_not, Bool.not_true, Bool.not_false, bne_iff_ne, bne_eq_false_iff_eq, Int.toNat_natCast, Nat.mul_one, Nat.add_zero, Nat.zero_add, List.take_length, List.drop_zero] at h4)
                all_goals
                  exfalso
                  first | omega | (have q := hq (by omega); omega) | (clear hr; cases zws <;> cases zl <;> simp_all; done) | (clear hr; have q := hq (by omega); cases zws <;> cases zl <;> simp_all; done) | (clear hr; have q := hq (by omega); cases zws <;> cases zl <;> simp_all <;> omega)
          · (try simp only [decide_eq_true_eq, decide_eq_false_iff_not, Bool.not_eq_true', Bool.not_eq_false', beq_iff_eq, beq_eq_false_iff_ne, Int.not_lt, Int.not_le, ge_iff_le, gt_iff_lt, ne_eq, Bool.false_eq_true, Bool.true_eq_false, not_true_eq_false, not_false_eq_true, Bool.and_eq_true, Bool.not_eq_eq_eq_not, Bool.not_true, Bool.not_false, bne_iff_ne, bne_eq_false_iff_eq, Int.toNat_natCast, Nat.mul_one, Nat.add_zero, Nat.zero_add, List.take_length, List.drop_zero] at h3)
            all_goals
              refine Tree.Sat.ret ?_
              have hq := hr
              simp only [Prod.mk.injEq] at hq
              obtain ⟨rfl, rfl⟩ := hq
              refine .exit rfl ?_
              constructor <;> simp only [AV.leL, AV.le, Mem.le, Mem.leP, Blk.le, Blk.pad, Data.le, Data.size, Cap.le, and_true, true_and, and_self, true_implies, implies_true, imp_self, List.length_nil] <;> (repeat' with_reducible refine And.intro ?_ ?_) <;> (try simp only [Int.toNat_natCast, Nat.mul_one, Nat.add_zero, Nat.zero_add]) <;> first | (rw [take_succ_getD hi, sumI_append]; omega) | (rw [show (ws.getD i 0).toNat = b by omega, hta]; rfl)
      · (try simp only [decide_eq_true_eq, decide_eq_false_iff_not, Bool.not_eq_true', Bool.not_eq_false', beq_iff_eq, beq_eq_false_iff_ne, Int.not_lt, Int.not_le, ge_iff_le, gt_iff_lt, ne_eq, Bool.false_eq_true, Bool.true_eq_false, not_true_eq_false, not_false_eq_true, Bool.and_eq_true, Bool.not_eq_eq_eq_not, Bool.not_true, Bool.not_false, bne_iff_ne, bne_eq_false_iff_eq, Int.toNat_natCast, Nat.mul_one, Nat.add_zero, Nat.zero_add, List.take_length, List.drop_zero] at h2)
        all_goals
          exfalso
          first | omega | (have q := hq (by omega); omega) | (clear hr; cases zws <;> cases zl <;> simp_all; done) | (clear hr; have q := hq (by omega); cases zws <;> cases zl <;> simp_all; done) | (clear hr; have q := hq (by omega); cases zws <;> cases zl <;> simp_all <;> omega)
  · (try simp only [decide_eq_true_eq, decide_eq_false_iff_not, Bool.not_eq_true', Bool.not_eq_false', beq_iff_eq, beq_eq_false_iff_ne, Int.not_lt, Int.not_le, ge_iff_le, gt_iff_lt, ne_eq, Bool.false_eq_true, Bool.true_eq_false, not_true_eq_false, not_false_eq_true, Bool.and_eq_true, Bool.not_eq_eq_eq_not, Bool.not_true, Bool.not_false, bne_iff_ne, bne_eq_false_iff_eq, Int.toNat_natCast, Nat.mul_one, Nat.add_zero, Nat.zero_add, List.take_length, List.drop_zero] at h1)
    all_goals
      exfalso
      first | omega | (have q := hq (by omega); omega) | (clear hr; cases zws <;> cases zl <;> simp_all; done) | (clear hr; have q := hq (by omega); cases zws <;> cases zl <;> simp_all; done) | (clear hr; have q := hq (by omega); cases zws <;> cases zl <;> simp_all <;> omega)
set_option maxHeartbeats 2000000 in
set_option maxRecDepth 100000 in
theorem looprsplit_2 (hall : AllOk Try.prog 0 (fun _ => none) tab23) : LoopOk (mkL Try.prog 0 (fun _ => none) tab23 rowsrsplit) 22 2 (bodyAt Try.prog 22 2) := by
  have hkey : Code.key (bodyAt Try.prog 22 2) = 19 := by kernel_rfl
  have hin : loopsIn (bodyAt Try.prog 22 2) = [] := by kernel_rfl
  have hrow : lookL rowsrsplit 22 (Code.key (bodyAt Try.prog 22 2)) = some rowrsplit_2 := by rw [hkey]; rfl
  refine loop_rowP (X := Xrsplit_2) (row := rowrsplit_2) hall mix hrow (fun b hb _ => by rw [hin] at hb; cases hb) Ursplit_2 hdrsplit_2 resrsplit_2 mursplit_2 (fun st ex r h => ?_) (fun x ex r hr => ?_)
  · have h' : (ansrsplit_2 st).runs (ex, r) := h
    unfold ansrsplit_2 at h'
    split at h'
    · obtain ⟨q1, q2⟩ := Tree.chk_runs h'
      exact ⟨_, q1, q2⟩
    · exact h'.elim
  · obtain ⟨zws, ws, zl, l, i, b⟩ := x
    have := steprsplit_2 zws ws zl l i b ex r hr.1 hr.2
    rw [← tLrsplit_2] at this
    (try rw [show rowrsplit_2.tidy = Trsplit_2 from rfl])
    exact this
set_option maxRecDepth 100000 in
theorem tLrsplit_1 (zws : Bool) (ws : List Int) (zl : Bool) (l : List Int) (i : Nat) : tidied Trsplit_1 Ursplit_1 2 (evCode (mkL Try.prog 0 (fun _ => none) tab23 rowsrsplit) (evCall (mkC Try.prog 0 (fun _ => none) tab23) 50) 22 2 fuelC (bodyAt Try.prog 22 1) (hdrsplit_1 ⟨zws, ws, zl, l, i⟩)) =
  Tree.br (decide ((i : Int) < ((List.length ws) : Int)))
  (Tree.chk
  (St.le
  (St.mk
  [AV.sl zws (Ref.mk (0) (0) (0) (0)) false (List.length ws) Cap.any, AV.sl zl (Ref.mk (1) (0) (0) (0)) false (List.length l) Cap.any, AV.junk, AV.junk,
  AV.junk, AV.junk, AV.junk, AV.junk, AV.junk, AV.sl false (Ref.mk (2) (0) (0) (0)) false (List.length (splitF l 0 (List.take i ws))) Cap.own,
  AV.int IntKind.i64 false (sumI (List.take i ws)), AV.int IntKind.i64 false (i : Int), AV.int IntKind.i64 true (0 : Int), AV.int IntKind.i64 true (0 : Int), AV.junk, AV.junk, AV.junk, AV.junk, AV.junk, AV.junk, AV.junk, AV.junk,
  AV.junk, AV.junk, AV.junk, AV.junk, AV.junk, AV.junk, AV.junk, AV.junk, AV.junk, AV.junk, AV.junk, AV.junk, AV.junk, AV.junk, AV.junk, AV.junk, AV.junk, AV.junk, AV.junk, AV.junk, AV.junk, AV.junk, AV.junk, AV.junk, AV.junk,
  AV.junk, AV.junk, AV.junk, AV.junk, AV.junk, AV.junk, AV.junk, AV.junk, AV.junk, AV.junk, AV.junk, AV.junk, AV.junk, AV.junk, AV.junk, AV.junk, AV.junk, AV.junk, AV.junk, AV.junk, AV.junk, AV.junk, AV.junk, AV.junk, AV.junk,
  AV.junk, AV.junk, AV.junk, AV.junk, AV.junk, AV.junk, AV.junk, AV.junk, AV.junk, AV.junk, AV.junk, AV.junk]
  [some (Blk.mk (3) false false true (Data.ints IntKind.i64 ws)), some (Blk.mk (3) false false true (Data.ints IntKind.i64 l)),
  some (Blk.mk (3) true false true (Data.ints IntKind.i64 (splitF l 0 (List.take i ws))))])
  (St.mk
  [AV.sl zws (Ref.mk (0) (0) (0) (0)) false (List.length ws) Cap.any, AV.sl zl (Ref.mk (1) (0) (0) (0)) false (List.length l) Cap.any, AV.junk, AV.junk,
  AV.junk, AV.junk, AV.junk, AV.junk, AV.junk, AV.sl false (Ref.mk (2) (0) (0) (0)) false (List.length (splitF l 0 (List.take (Int.toNat (i : Int)) ws))) Cap.own,
  AV.int IntKind.i64 false (sumI (List.take (Int.toNat (i : Int)) ws) + (0 : Int)), AV.int IntKind.i64 false ((Int.toNat (i : Int)) : Int),
  AV.int IntKind.i64 false (partAt l (Int.toNat (sumI (List.take (Int.toNat (i : Int)) ws))) (Int.toNat (0 : Int))), AV.int IntKind.i64 false (0 : Int), AV.junk, AV.junk, AV.junk, AV.junk, AV.junk, AV.junk, AV.junk, AV.junk,
  AV.junk, AV.junk, AV.junk, AV.junk, AV.junk, AV.junk, AV.junk, AV.junk, AV.junk, AV.junk, AV.junk, AV.junk, AV.junk, AV.junk, AV.junk, AV.junk, AV.junk, AV.junk, AV.junk, AV.junk, AV.junk, AV.junk, AV.junk, AV.junk, AV.junk,
  AV.junk, AV.junk, AV.junk, AV.junk, AV.junk, AV.junk, AV.junk, AV.junk, AV.junk, AV.junk, AV.junk, AV.junk, AV.junk, AV.junk, AV.junk, AV.junk, AV.junk, AV.junk, AV.junk, AV.junk, AV.junk, AV.junk, AV.junk, AV.junk, AV.junk,
  AV.junk, AV.junk, AV.junk, AV.junk, AV.junk, AV.junk, AV.junk, AV.junk, AV.junk, AV.junk, AV.junk, AV.junk]
  [some (Blk.mk (3) false false true (Data.ints IntKind.i64 ws)), some (Blk.mk (3) false false true (Data.ints IntKind.i64 l)),
  some (Blk.mk (3) true false true (Data.ints IntKind.i64 (splitF l 0 (List.take (Int.toNat (i : Int)) ws))))]))
  (Tree.chk (okrsplit_2 (Xrsplit_2.mk zws ws zl l (Int.toNat (i : Int)) (Int.toNat (0 : Int))))
  (Tree.br (decide (((List.length (splitF l 0 (List.take (Int.toNat (i : Int)) ws)) + 1) : Int) ≤ most48 ∧ (((List.length (splitF l 0 (List.take (Int.toNat (i : Int)) ws)) + 1) * 8) : Int) ≤ most48))
  (Tree.br
  (decide
  (List.length (splitF l 0 (List.take (Int.toNat (i : Int)) ws)) * 1 = Data.size (Data.ints IntKind.i64 (splitF l 0 (List.take (Int.toNat (i : Int)) ws))) ∧
  Data.size
  (Data.cells
  (List.take (1 * 1)
  (List.drop (0)
  (List.take (0 * 1) (zerosOf (List.map ofCell [Value.int IntKind.i64 (0 : Int)]) 1) ++
  (AV.parts
  (opnd (mkL Try.prog 0 (fun x => none) tab23 rowsrsplit)
  [AV.sl zws (Ref.mk 0 0 0 0) false (List.length ws) Cap.any, AV.sl zl (Ref.mk 1 0 0 0) false (List.length l) Cap.any, AV.junk,
  AV.junk, AV.junk, AV.junk, AV.junk, AV.junk, AV.junk, AV.sl false (Ref.mk 2 0 0 0) false (List.length (splitF l 0 (List.take (Int.toNat (i : Int)) ws))) Cap.own,
  AV.int IntKind.i64 false (sumI (List.take (Int.toNat (i : Int) + 1) ws)), AV.int IntKind.i64 false ((Int.toNat (i : Int)) : Int),
  AV.int IntKind.i64 false (fieldAt l (Int.toNat (sumI (List.take (Int.toNat (i : Int)) ws))) (Int.toNat (List.getD ws (Int.toNat (i : Int)) (0 : Int)))), AV.junk, AV.junk, AV.junk, AV.junk, AV.junk,
  AV.junk, AV.junk, AV.junk, AV.junk, AV.junk, AV.junk, AV.junk, AV.junk, AV.junk, AV.junk, AV.junk, AV.junk, AV.junk, AV.junk, AV.junk, AV.junk, AV.junk, AV.junk, AV.junk, AV.junk, AV.junk, AV.junk,
  AV.junk, AV.junk, AV.junk, AV.junk, AV.junk, AV.junk, AV.junk, AV.junk, AV.junk, AV.junk, AV.junk, AV.junk, AV.junk, AV.junk, AV.junk, AV.junk, AV.junk, AV.junk, AV.junk, AV.junk, AV.junk, AV.junk,
  AV.junk, AV.junk, AV.junk, AV.junk, AV.junk, AV.junk, AV.junk, AV.junk, AV.junk, AV.junk, AV.junk, AV.junk, AV.junk, AV.junk, AV.junk, AV.junk, AV.junk,
  AV.sl false (Ref.mk 2 0 0 0) false (List.length (splitF l 0 (List.take (Int.toNat (i : Int)) ws))) Cap.own,
  AV.int IntKind.i64 false (fieldAt l (Int.toNat (sumI (List.take (Int.toNat (i : Int)) ws))) (Int.toNat (List.getD ws (Int.toNat (i : Int)) (0 : Int)))), AV.junk, AV.junk, AV.junk]
  (Operand.tmp 80)) ++
  List.drop (0 * 1 + 1) (zerosOf (List.map ofCell [Value.int IntKind.i64 (0 : Int)]) 1)))))) =
  1 * 1) &&
  false == false)
  (Tree.ret
  (Ex.norm,
  St.mk
  [AV.sl zws (Ref.mk (0) (0) (0) (0)) false (List.length ws) Cap.any, AV.sl zl (Ref.mk (1) (0) (0) (0)) false (List.length l) Cap.any, AV.junk,
  AV.junk, AV.junk, AV.junk, AV.junk, AV.junk, AV.junk,
  AV.sl false (Ref.mk (2) (0) (0) (0)) false (List.length (splitF l 0 (List.take (Int.toNat (i : Int)) ws)) + 1) Cap.own,
  AV.int IntKind.i64 false (sumI (List.take (Int.toNat (i : Int) + 1) ws)), AV.int IntKind.i64 false (IntKind.wrap IntKind.i64 (((Int.toNat (i : Int)) : Int) + (1 : Int))), AV.junk, AV.junk, AV.junk, AV.junk, AV.junk, AV.junk,
  AV.junk, AV.junk, AV.junk, AV.junk, AV.junk, AV.junk, AV.junk, AV.junk, AV.junk, AV.junk, AV.junk, AV.junk, AV.junk, AV.junk, AV.junk, AV.junk, AV.junk, AV.junk, AV.junk, AV.junk, AV.junk, AV.junk, AV.junk, AV.junk,
  AV.junk, AV.junk, AV.junk, AV.junk, AV.junk, AV.junk, AV.junk, AV.junk, AV.junk, AV.junk, AV.junk, AV.junk, AV.junk, AV.junk, AV.junk, AV.junk, AV.junk, AV.junk, AV.junk, AV.junk, AV.junk, AV.junk, AV.junk, AV.junk,
  AV.junk, AV.junk, AV.junk, AV.junk, AV.junk, AV.junk, AV.junk, AV.junk, AV.junk, AV.junk, AV.junk, AV.junk, AV.junk, AV.junk, AV.junk, AV.junk, AV.junk, AV.junk]
  [some (Blk.mk (3) false false true (Data.ints IntKind.i64 ws)), some (Blk.mk (3) false false true (Data.ints IntKind.i64 l)),
  some
  (Blk.mk (3) true false true
  (Data.ints IntKind.i64 (splitF l 0 (List.take (Int.toNat (i : Int)) ws) ++ [fieldAt l (Int.toNat (sumI (List.take (Int.toNat (i : Int)) ws))) (Int.toNat (List.getD ws (Int.toNat (i : Int)) (0 : Int)))])))]))
  Tree.fail)
  Tree.fail)))
  (Tree.ret
  (Ex.exit (2),
  St.mk
  [AV.junk, AV.junk, AV.junk, AV.junk, AV.junk, AV.junk, AV.junk, AV.junk, AV.junk, AV.sl false (Ref.mk (2) (0) (0) (0)) false (List.length (splitF l 0 (List.take i ws))) Cap.own,
  AV.junk, AV.junk, AV.junk, AV.junk, AV.junk, AV.junk, AV.junk, AV.junk, AV.junk, AV.junk, AV.junk, AV.junk, AV.junk, AV.junk, AV.junk, AV.junk, AV.junk, AV.junk, AV.junk, AV.junk, AV.junk, AV.junk, AV.junk, AV.junk, AV.junk,
  AV.junk, AV.junk, AV.junk, AV.junk, AV.junk, AV.junk, AV.junk, AV.junk, AV.junk, AV.junk, AV.junk, AV.junk, AV.junk, AV.junk, AV.junk, AV.junk, AV.junk, AV.junk, AV.junk, AV.junk, AV.junk, AV.junk, AV.junk, AV.junk, AV.junk,
  AV.junk, AV.junk, AV.junk, AV.junk, AV.junk, AV.junk, AV.junk, AV.junk, AV.junk, AV.junk, AV.junk, AV.junk, AV.junk, AV.junk, AV.junk, AV.junk, AV.junk, AV.junk, AV.junk, AV.junk, AV.junk, AV.junk, AV.junk, AV.junk]
  [some (Blk.mk (3) false false true (Data.ints IntKind.i64 ws)), some (Blk.mk (3) false false true (Data.ints IntKind.i64 l)),
  some (Blk.mk (3) true false true (Data.ints IntKind.i64 (splitF l 0 (List.take i ws))))])) := by kernel_rfl
set_option maxRecDepth 100000 in
theorem steprsplit_1 (zws : Bool) (ws : List Int) (zl : Bool) (l : List Int) (i : Nat) (ex : Ex) (r : St) (hok : okrsplit_1 ⟨zws, ws, zl, l, i⟩) (hr : (outrsplit_1 ⟨zws, ws, zl, l, i⟩).runs (ex, r)) : (Tree.br (decide ((i : Int) < ((List.length ws) : Int)))
  (Tree.chk
  (St.le
  (St.mk
  [AV.sl zws (Ref.mk (0) (0) (0) (0)) false (List.length ws) Cap.any, AV.sl zl (Ref.mk (1) (0) (0) (0)) false (List.length l) Cap.any, AV.junk, AV.junk,
  AV.junk, AV.junk, AV.junk, AV.junk, AV.junk, AV.sl false (Ref.mk (2) (0) (0) (0)) false (List.length (splitF l 0 (List.take i ws))) Cap.own,
  AV.int IntKind.i64 false (sumI (List.take i ws)), AV.int IntKind.i64 false (i : Int), AV.int IntKind.i64 true (0 : Int), AV.int IntKind.i64 true (0 : Int), AV.junk, AV.junk, AV.junk, AV.junk, AV.junk, AV.junk, AV.junk, AV.junk,
  AV.junk, AV.junk, AV.junk, AV.junk, AV.junk, AV.junk, AV.junk, AV.junk, AV.junk, AV.junk, AV.junk, AV.junk, AV.junk, AV.junk, AV.junk, AV.junk, AV.junk, AV.junk, AV.junk, AV.junk, AV.junk, AV.junk, AV.junk, AV.junk, AV.junk,
  AV.junk, AV.junk, AV.junk, AV.junk, AV.junk, AV.junk, AV.junk, AV.junk, AV.junk, AV.junk, AV.junk, AV.junk, AV.junk, AV.junk, AV.junk, AV.junk, AV.junk, AV.junk, AV.junk, AV.junk, AV.junk, AV.junk, AV.junk, AV.junk, AV.junk,
  AV.junk, AV.junk, AV.junk, AV.junk, AV.junk, AV.junk, AV.junk, AV.junk, AV.junk, AV.junk, AV.junk, AV.junk]
  [some (Blk.mk (3) false false true (Data.ints IntKind.i64 ws)), some (Blk.mk (3) false false true (Data.ints IntKind.i64 l)),
  some (Blk.mk (3) true false true (Data.ints IntKind.i64 (splitF l 0 (List.take i ws))))])
  (St.mk
  [AV.sl zws (Ref.mk (0) (0) (0) (0)) false (List.length ws) Cap.any, AV.sl zl (Ref.mk (1) (0) (0) (0)) false (List.length l) Cap.any, AV.junk, AV.junk,
  AV.junk, AV.junk, AV.junk, AV.junk, AV.junk, AV.sl false (Ref.mk (2) (0) (0) (0)) false (List.length (splitF l 0 (List.take (Int.toNat (i : Int)) ws))) Cap.own,
  AV.int IntKind.i64 false (sumI (List.take (Int.toNat (i : Int)) ws) + (0 : Int)), AV.int IntKind.i64 false ((Int.toNat (i : Int)) : Int),
  AV.int IntKind.i64 false (partAt l (Int.toNat (sumI (List.take (Int.toNat (i : Int)) ws))) (Int.toNat (0 : Int))), AV.int IntKind.i64 false (0 : Int), AV.junk, AV.junk, AV.junk, AV.junk, AV.junk, AV.junk, AV.junk, AV.junk,
  AV.junk, AV.junk, AV.junk, AV.junk, AV.junk, AV.junk, AV.junk, AV.junk, AV.junk, AV.junk, AV.junk, AV.junk, AV.junk, AV.junk, AV.junk, AV.junk, AV.junk, AV.junk, AV.junk, AV.junk, AV.junk, AV.junk, AV.junk, AV.junk, AV.junk,
  AV.junk, AV.junk, AV.junk, AV.junk, AV.junk, AV.junk, AV.junk, AV.junk, AV.junk, AV.junk, AV.junk, AV.junk, AV.junk, AV.junk, AV.junk, AV.junk, AV.junk, AV.junk, AV.junk, AV.junk, AV.junk, AV.junk, AV.junk, AV.junk, AV.junk,
  AV.junk, AV.junk, AV.junk, AV.junk, AV.junk, AV.junk, AV.junk, AV.junk, AV.junk, AV.junk, AV.junk, AV.junk]
  [some (Blk.mk (3) false false true (Data.ints IntKind.i64 ws)), some (Blk.mk (3) false false true (Data.ints IntKind.i64 l)),
  some (Blk.mk (3) true false true (Data.ints IntKind.i64 (splitF l 0 (List.take (Int.toNat (i : Int)) ws))))]))
  (Tree.chk (okrsplit_2 (Xrsplit_2.mk zws ws zl l (Int.toNat (i : Int)) (Int.toNat (0 : Int))))
  (Tree.br (decide (((List.length (splitF l 0 (List.take (Int.toNat (i : Int)) ws)) + 1) : Int) ≤ most48 ∧ (((List.length (splitF l 0 (List.take (Int.toNat (i : Int)) ws)) + 1) * 8) : Int) ≤ most48))
  (Tree.br
  (decide
  (List.length (splitF l 0 (List.take (Int.toNat (i : Int)) ws)) * 1 = Data.size (Data.ints IntKind.i64 (splitF l 0 (List.take (Int.toNat (i : Int)) ws))) ∧
  Data.size
  (Data.cells
  (List.take (1 * 1)
  (List.drop (0)
  (List.take (0 * 1) (zerosOf (List.map ofCell [Value.int IntKind.i64 (0 : Int)]) 1) ++
  (AV.parts
  (opnd (mkL Try.prog 0 (fun x => none) tab23 rowsrsplit)
  [AV.sl zws (Ref.mk 0 0 0 0) false (List.length ws) Cap.any, AV.sl zl (Ref.mk 1 0 0 0) false (List.length l) Cap.any, AV.junk,
  AV.junk, AV.junk, AV.junk, AV.junk, AV.junk, AV.junk, AV.sl false (Ref.mk 2 0 0 0) false (List.length (splitF l 0 (List.take (Int.toNat (i : Int)) ws))) Cap.own,
  AV.int IntKind.i64 false (sumI (List.take (Int.toNat (i : Int) + 1) ws)), AV.int IntKind.i64 false ((Int.toNat (i : Int)) : Int),
  AV.int IntKind.i64 false (fieldAt l (Int.toNat (sumI (List.take (Int.toNat (i : Int)) ws))) (Int.toNat (List.getD ws (Int.toNat (i : Int)) (0 : Int)))), AV.junk, AV.junk, AV.junk, AV.junk, AV.junk,
  AV.junk, AV.junk, AV.junk, AV.junk, AV.junk, AV.junk, AV.junk, AV.junk, AV.junk, AV.junk, AV.junk, AV.junk, AV.junk, AV.junk, AV.junk, AV.junk, AV.junk, AV.junk, AV.junk, AV.junk, AV.junk, AV.junk,
  AV.junk, AV.junk, AV.junk, AV.junk, AV.junk, AV.junk, AV.junk, AV.junk, AV.junk, AV.junk, AV.junk, AV.junk, AV.junk, AV.junk, AV.junk, AV.junk, AV.junk, AV.junk, AV.junk, AV.junk, AV.junk, AV.junk,
  AV.junk, AV.junk, AV.junk, AV.junk, AV.junk, AV.junk, AV.junk, AV.junk, AV.junk, AV.junk, AV.junk, AV.junk, AV.junk, AV.junk, AV.junk, AV.junk, AV.junk,
  AV.sl false (Ref.mk 2 0 0 0) false (List.length (splitF l 0 (List.take (Int.toNat (i : Int)) ws))) Cap.own,
  AV.int IntKind.i64 false (fieldAt l (Int.toNat (sumI (List.take (Int.toNat (i : Int)) ws))) (Int.toNat (List.getD ws (Int.toNat (i : Int)) (0 : Int)))), AV.junk, AV.junk, AV.junk]
  (Operand.tmp 80)) ++
  List.drop (0 * 1 + 1) (zerosOf (List.map ofCell [Value.int IntKind.i64 (0 : Int)]) 1)))))) =
  1 * 1) &&
  false == false)
  (Tree.ret
  (Ex.norm,
  St.mk
  [AV.sl zws (Ref.mk (0) (0) (0) (0)) false (List.length ws) Cap.any, AV.sl zl (Ref.mk (1) (0) (0) (0)) false (List.length l) Cap.any, AV.junk,
  AV.junk, AV.junk, AV.junk, AV.junk, AV.junk, AV.junk,
  AV.sl false (Ref.mk (2) (0) (0) (0)) false (List.length (splitF l 0 (List.take (Int.toNat (i : Int)) ws)) + 1) Cap.own,
  AV.int IntKind.i64 false (sumI (List.take (Int.toNat (i : Int) + 1) ws)), AV.int IntKind.i64 false (IntKind.wrap IntKind.i64 (((Int.toNat (i : Int)) : Int) + (1 : Int))), AV.junk, AV.junk, AV.junk, AV.junk, AV.junk, AV.junk,
  AV.junk, AV.junk, AV.junk, AV.junk, AV.junk, AV.junk, AV.junk, AV.junk, AV.junk, AV.junk, AV.junk, AV.junk, AV.junk, AV.junk, AV.junk, AV.junk, AV.junk, AV.junk, AV.junk, AV.junk, AV.junk, AV.junk, AV.junk, AV.junk,
  AV.junk, AV.junk, AV.junk, AV.junk, AV.junk, AV.junk, AV.junk, AV.junk, AV.junk, AV.junk, AV.junk, AV.junk, AV.junk, AV.junk, AV.junk, AV.junk, AV.junk, AV.junk, AV.junk, AV.junk, AV.junk, AV.junk, AV.junk, AV.junk,
  AV.junk, AV.junk, AV.junk, AV.junk, AV.junk, AV.junk, AV.junk, AV.junk, AV.junk, AV.junk, AV.junk, AV.junk, AV.junk, AV.junk, AV.junk, AV.junk, AV.junk, AV.junk]
  [some (Blk.mk (3) false false true (Data.ints IntKind.i64 ws)), some (Blk.mk (3) false false true (Data.ints IntKind.i64 l)),
  some
  (Blk.mk (3) true false true
  (Data.ints IntKind.i64 (splitF l 0 (List.take (Int.toNat (i : Int)) ws) ++ [fieldAt l (Int.toNat (sumI (List.take (Int.toNat (i : Int)) ws))) (Int.toNat (List.getD ws (Int.toNat (i : Int)) (0 : Int)))])))]))
  Tree.fail)
  Tree.fail)))
  (Tree.ret
  (Ex.exit (2),
  St.mk
  [AV.junk, AV.junk, AV.junk, AV.junk, AV.junk, AV.junk, AV.junk, AV.junk, AV.junk, AV.sl false (Ref.mk (2) (0) (0) (0)) false (List.length (splitF l 0 (List.take i ws))) Cap.own,
  AV.junk, AV.junk, AV.junk, AV.junk, AV.junk, AV.junk, AV.junk, AV.junk, AV.junk, AV.junk, AV.junk, AV.junk, AV.junk, AV.junk, AV.junk, AV.junk, AV.junk, AV.junk, AV.junk, AV.junk, AV.junk, AV.junk, AV.junk, AV.junk, AV.junk,
  AV.junk, AV.junk, AV.junk, AV.junk, AV.junk, AV.junk, AV.junk, AV.junk, AV.junk, AV.junk, AV.junk, AV.junk, AV.junk, AV.junk, AV.junk, AV.junk, AV.junk, AV.junk, AV.junk, AV.junk, AV.junk, AV.junk, AV.junk, AV.junk, AV.junk,
  AV.junk, AV.junk, AV.junk, AV.junk, AV.junk, AV.junk, AV.junk, AV.junk, AV.junk, AV.junk, AV.junk, AV.junk, AV.junk, AV.junk, AV.junk, AV.junk, AV.junk, AV.junk, AV.junk, AV.junk, AV.junk, AV.junk, AV.junk, AV.junk]
  [some (Blk.mk (3) false false true (Data.ints IntKind.i64 ws)), some (Blk.mk (3) false false true (Data.ints IntKind.i64 l)),
  some (Blk.mk (3) true false true (Data.ints IntKind.i64 (splitF l 0 (List.take i ws))))])) : Tree (Ex × St)).Sat (Post hdrsplit_1 resrsplit_1 mursplit_1 ⟨zws, ws, zl, l, i⟩ ex r) := by
  simp only [okrsplit_1, outrsplit_1, Tree.runs] at hok hr
  obtain ⟨⟨hm, hs, hzw, hzl, hlk⟩, hi⟩ := hok
  obtain ⟨h256, hbv⟩ := may_ok hm
  have hg := fun h => badV_get (i := i) hbv h
  have sq := sumN_eq (ws.take i) (any_take_no hbv i)
  have hln := splitF_len l (ws.take i) 0
  rw [List.length_take] at sq hln
  obtain ⟨a, ha⟩ := Int.eq_ofNat_of_zero_le sq.2.1
  simp only [Int.toNat_natCast, Nat.mul_one, Nat.add_zero]
  refine Tree.Sat.br (fun h1 => ?_) (fun h1 => ?_)
  · (try simp only [decide_eq_true_eq, decide_eq_false_iff_not, Bool.not_eq_true', Bool.not_eq_false', beq_iff_eq, beq_eq_false_iff_ne, Int.not_lt, Int.not_le, ge_iff_le, gt_iff_lt, ne_eq, Bool.false_eq_true, Bool.true_eq_false, not_true_eq_false, not_false_eq_true, Bool.and_eq_true, Bool.not_eq_eq_eq_not, Bool.not_true, Bool.not_false, bne_iff_ne, bne_eq_false_iff_eq, Int.toNat_natCast, Nat.mul_one, Nat.add_zero, Nat.zero_add, List.take_length, List.drop_zero] at h1)
    all_goals
      refine Tree.Sat.chk (by first | (simp only [and_self]; done) | (constructor <;> simp only [hdrsplit_2, Int.toNat_natCast, AV.leL, AV.le, Mem.le, Mem.leP, Blk.le, Blk.pad, Data.le, Data.size, Cap.le, and_true, true_and, and_self, true_implies, implies_true, imp_self, List.length_nil] <;> (repeat' with_reducible refine And.intro ?_ ?_) <;> first | rfl | trivial | omega | (simp [partAt, numZ]))) ?_
      refine Tree.Sat.chk (by first | (simp only [and_self]; done) | (have g := hg (by omega); simp only [okrsplit_2, Int.toNat_natCast]; exact ⟨⟨hm, hs, hzw, hzl, hlk⟩, by omega, by omega⟩)) ?_
      refine Tree.Sat.br (fun h2 => ?_) (fun h2 => ?_)
      · (try simp only [decide_eq_true_eq, decide_eq_false_iff_not, Bool.not_eq_true', Bool.not_eq_false', beq_iff_eq, beq_eq_false_iff_ne, Int.not_lt, Int.not_le, ge_iff_le, gt_iff_lt, ne_eq, Bool.false_eq_true, Bool.true_eq_false, not_true_eq_false, not_false_eq_true, Bool.and_eq_true, Bool.not_eq_eq_eq_not, Bool.not_true, Bool.not_false, bne_iff_ne, bne_eq_false_iff_eq, Int.toNat_natCast, Nat.mul_one, Nat.add_zero, Nat.zero_add, List.take_length, List.drop_zero] at h2)
        all_goals
          refine Tree.Sat.br (fun h3 => ?_) (fun h3 => ?_)
          · (try simp only [decide_eq_true_eq, decide_eq_false_iff_not, Bool.not_eq_true', Bool.not_eq_false', beq_iff_eq, beq_eq_false_iff_ne, Int.not_lt, Int.not_le, ge_iff_le, gt_iff_lt, ne_eq, Bool.false_eq_true, Bool.true_eq_false, not_true_eq_false, not_false_eq_true, Bool.and_eq_true, Bool.not_eq_eq_eq_not, Bool.not_true, Bool.not_false, bne_iff_ne, bne_eq_false_iff_eq, Int.toNat_natCast, Nat.mul_one, Nat.add_zero, Nat.zero_add, List.take_length, List.drop_zero] at h3)
            all_goals
              refine Tree.Sat.ret ?_
              have e := splitF_next (l := l) hbv (by omega) ha
              have hta : (sumI (ws.take i)).toNat = a := by omega
              refine .norm ⟨zws, ws, zl, l, i + 1⟩ ?_ ?_ ⟨?_, ?_⟩
              · constructor <;> simp only [hdrsplit_1, AV.leL, AV.le, Mem.le, Mem.leP, Blk.le, Blk.pad, Data.le, Data.size, Cap.le, and_true, true_and, and_self, true_implies, implies_true, imp_self, List.length_nil] <;> (repeat' with_reducible refine And.intro ?_ ?_) <;> (try simp only [Int.toNat_natCast, Nat.mul_one, Nat.add_zero, Nat.zero_add]) <;> first | exact wadd1 (by omega) | rfl | (rw [e, List.length_append]; rfl) | (rw [e, hta])
              · simp only [mursplit_1]; omega
              · exact ⟨⟨hm, hs, hzw, hzl, hlk⟩, by omega⟩
              · exact hr
          · (try simp only [decide_eq_true_eq, decide_eq_false_iff_not, Bool.not_eq_true', Bool.not_eq_false', beq_iff_eq, beq_eq_false_iff_ne, Int.not_lt, Int.not_le, ge_iff_le, gt_iff_lt, ne_eq, Bool.false_eq_true, Bool.true_eq_false, not_true_eq_false, not_false_eq_true, Bool.and_eq_true, Bool.not_eq_eq_eq_not, Bool.not_true, Bool.not_false, bne_iff_ne, bne_eq_false_iff_eq, Int.toNat_natCast, Nat.mul_one, Nat.add_zero, Nat.zero_add, List.take_length, List.drop_zero] at h3)
            all_goals
              exfalso
              rw [Bool.and_eq_false_iff] at h3
              rcases h3 with h3 | h3
              · rw [decide_eq_false_iff_not] at h3
                exact h3 ⟨by first | rfl | (simp only [Data.size]; omega), by first | rfl | kernel_rfl⟩
              · exact absurd h3 (by simp)
      · (try simp only [decide_eq_true_eq, decide_eq_false_iff_not, Bool.not_eq_true', Bool.not_eq_false', beq_iff_eq, beq_eq_false_iff_ne, Int.not_lt, Int.not_le, ge_iff_le, gt_iff_lt, ne_eq, Bool.false_eq_true, Bool.true_eq_false, not_true_eq_false, not_false_eq_true, Bool.and_eq_true, Bool.not_eq_eq_eq_not, Bool.not_true, Bool.not_false, bne_iff_ne, bne_eq_false_iff_eq, Int.toNat_natCast, Nat.mul_one, Nat.add_zero, Nat.zero_add, List.take_length, List.drop_zero] at h2)
        all_goals
          exfalso
          simp [most48] at h2
          omega
  · (try simp only [decide_eq_true_eq, decide_eq_false_iff_not, Bool.not_eq_true', Bool.not_eq_false', beq_iff_eq, beq_eq_false_iff_ne, Int.not_lt, Int.not_le, ge_iff_le, gt_iff_lt, ne_eq, Bool.false_eq_true, Bool.true_eq_false, not_true_eq_false, not_false_eq_true, Bool.and_eq_true, Bool.not_eq_eq_eq_not, Bool.not_true, Bool.not_false, bne_iff_ne, bne_eq_false_iff_eq, Int.toNat_natCast, Nat.mul_one, Nat.add_zero, Nat.zero_add, List.take_length, List.drop_zero] at h1)
    all_goals
      refine Tree.Sat.ret ?_
      have hq := hr
      simp only [Prod.mk.injEq] at hq
      obtain ⟨rfl, rfl⟩ := hq
      refine .exit rfl ?_
      constructor <;> simp only [AV.leL, AV.le, Mem.le, Mem.leP, Blk.le, Blk.pad, Data.le, Data.size, Cap.le, and_true, true_and, and_self, true_implies, implies_true, imp_self, List.length_nil] <;> (repeat' with_reducible refine And.intro ?_ ?_) <;> (try simp only [Int.toNat_natCast, Nat.mul_one, Nat.add_zero, Nat.zero_add]) <;> rw [List.take_of_length_le (by omega)]
set_option maxHeartbeats 2000000 in
set_option maxRecDepth 100000 in
theorem looprsplit_1 (hall : AllOk Try.prog 0 (fun _ => none) tab23) : LoopOk (mkL Try.prog 0 (fun _ => none) tab23 rowsrsplit) 22 2 (bodyAt Try.prog 22 1) := by
  have hkey : Code.key (bodyAt Try.prog 22 1) = 15 := by kernel_rfl
  have hin : loopsIn (bodyAt Try.prog 22 1) = [bodyAt Try.prog 22 2] := by kernel_rfl
  have hrow : lookL rowsrsplit 22 (Code.key (bodyAt Try.prog 22 1)) = some rowrsplit_1 := by rw [hkey]; rfl
  refine loop_rowP (X := Xrsplit_1) (row := rowrsplit_1) hall mix hrow (fun b hb _ => by rw [hin] at hb; simp only [List.mem_cons, List.not_mem_nil, or_false] at hb; rcases hb with rfl <;> first | exact looprsplit_2 hall) Ursplit_1 hdrsplit_1 resrsplit_1 mursplit_1 (fun st ex r h => ?_) (fun x ex r hr => ?_)
  · have h' : (ansrsplit_1 st).runs (ex, r) := h
    unfold ansrsplit_1 at h'
    split at h'
    · obtain ⟨q1, q2⟩ := Tree.chk_runs h'
      exact ⟨_, q1, q2⟩
    · exact h'.elim
  · obtain ⟨zws, ws, zl, l, i⟩ := x
    have := steprsplit_1 zws ws zl l i ex r hr.1 hr.2
    rw [← tLrsplit_1] at this
    (try rw [show rowrsplit_1.tidy = Trsplit_1 from rfl])
    exact this
set_option maxRecDepth 100000 in
theorem tLrsplit_0 (zws : Bool) (ws : List Int) (zl : Bool) (l : List Int) (i : Nat) : tidied Trsplit_0 Ursplit_0 2 (evCode (mkL Try.prog 0 (fun _ => none) tab23 rowsrsplit) (evCall (mkC Try.prog 0 (fun _ => none) tab23) 50) 22 2 fuelC (bodyAt Try.prog 22 0) (hdrsplit_0 ⟨zws, ws, zl, l, i⟩)) =
  Tree.br (decide ((i : Int) < ((List.length l) : Int)))
  (Tree.br (decide ((i : Int) < sizeZ ws))
  (Tree.br (!zl && decide ((0 : Int) ≤ (i : Int) ∧ (i : Int) < ((List.length l) : Int)))
  (Tree.br (decide (Int.toNat (i : Int) * 1 + 0 + 1 ≤ List.length l))
  (Tree.br (decide (List.getD l (Int.toNat (i : Int) * 1 + 0 + 0) (0 : Int) < (0 : Int)))
  (Tree.ret
  (Ex.ret,
  St.mk
  [AV.junk, AV.junk, AV.junk, AV.junk, AV.sl true (Ref.mk (0) (0) (0) (0)) true (0) Cap.exact, AV.int IntKind.i64 true (2 : Int), AV.junk, AV.junk, AV.junk, AV.junk, AV.junk, AV.junk,
  AV.junk, AV.junk, AV.junk, AV.junk, AV.junk, AV.junk, AV.junk, AV.junk, AV.junk, AV.junk, AV.junk, AV.junk, AV.junk, AV.junk, AV.junk, AV.junk, AV.junk, AV.junk, AV.junk, AV.junk, AV.junk, AV.junk, AV.junk, AV.junk,
  AV.junk, AV.junk, AV.junk, AV.junk, AV.junk, AV.junk, AV.junk, AV.junk, AV.junk, AV.junk, AV.junk, AV.junk, AV.junk, AV.junk, AV.junk, AV.junk, AV.junk, AV.junk, AV.junk, AV.junk, AV.junk, AV.junk, AV.junk, AV.junk,
  AV.junk, AV.junk, AV.junk, AV.junk, AV.junk, AV.junk, AV.junk, AV.junk, AV.junk, AV.junk, AV.junk, AV.junk, AV.junk, AV.junk, AV.junk, AV.junk, AV.junk, AV.junk, AV.junk, AV.junk, AV.junk, AV.junk, AV.junk, AV.junk]
  [some (Blk.mk (3) false false true (Data.ints IntKind.i64 ws)), some (Blk.mk (3) false false true (Data.ints IntKind.i64 l))]))
  (Tree.br (!zl && decide ((0 : Int) ≤ (i : Int) ∧ (i : Int) < ((List.length l) : Int)))
  (Tree.br (decide (Int.toNat (i : Int) * 1 + 0 + 1 ≤ List.length l))
  (Tree.br (decide (List.getD l (Int.toNat (i : Int) * 1 + 0 + 0) (0 : Int) > (65535 : Int)))
  (Tree.ret
  (Ex.ret,
  St.mk
  [AV.junk, AV.junk, AV.junk, AV.junk, AV.sl true (Ref.mk (0) (0) (0) (0)) true (0) Cap.exact, AV.int IntKind.i64 true (2 : Int), AV.junk, AV.junk, AV.junk, AV.junk, AV.junk,
  AV.junk, AV.junk, AV.junk, AV.junk, AV.junk, AV.junk, AV.junk, AV.junk, AV.junk, AV.junk, AV.junk, AV.junk, AV.junk, AV.junk, AV.junk, AV.junk, AV.junk, AV.junk, AV.junk, AV.junk, AV.junk, AV.junk, AV.junk, AV.junk,
  AV.junk, AV.junk, AV.junk, AV.junk, AV.junk, AV.junk, AV.junk, AV.junk, AV.junk, AV.junk, AV.junk, AV.junk, AV.junk, AV.junk, AV.junk, AV.junk, AV.junk, AV.junk, AV.junk, AV.junk, AV.junk, AV.junk, AV.junk, AV.junk,
  AV.junk, AV.junk, AV.junk, AV.junk, AV.junk, AV.junk, AV.junk, AV.junk, AV.junk, AV.junk, AV.junk, AV.junk, AV.junk, AV.junk, AV.junk, AV.junk, AV.junk, AV.junk, AV.junk, AV.junk, AV.junk, AV.junk, AV.junk, AV.junk,
  AV.junk]
  [some (Blk.mk (3) false false true (Data.ints IntKind.i64 ws)), some (Blk.mk (3) false false true (Data.ints IntKind.i64 l))]))
  (Tree.ret
  (Ex.norm,
  St.mk
  [AV.sl zws (Ref.mk (0) (0) (0) (0)) false (List.length ws) Cap.any, AV.sl zl (Ref.mk (1) (0) (0) (0)) false (List.length l) Cap.any, AV.junk,
  AV.junk, AV.junk, AV.junk, AV.junk, AV.int IntKind.i64 false (sizeZ ws), AV.int IntKind.i64 false (IntKind.wrap IntKind.i64 ((i : Int) + (1 : Int))), AV.junk, AV.junk, AV.junk, AV.junk, AV.junk, AV.junk, AV.junk,
  AV.junk, AV.junk, AV.junk, AV.junk, AV.junk, AV.junk, AV.junk, AV.junk, AV.junk, AV.junk, AV.junk, AV.junk, AV.junk, AV.junk, AV.junk, AV.junk, AV.junk, AV.junk, AV.junk, AV.junk, AV.junk, AV.junk, AV.junk, AV.junk,
  AV.junk, AV.junk, AV.junk, AV.junk, AV.junk, AV.junk, AV.junk, AV.junk, AV.junk, AV.junk, AV.junk, AV.junk, AV.junk, AV.junk, AV.junk, AV.junk, AV.junk, AV.junk, AV.junk, AV.junk, AV.junk, AV.junk, AV.junk, AV.junk,
  AV.junk, AV.junk, AV.junk, AV.junk, AV.junk, AV.junk, AV.junk, AV.junk, AV.junk, AV.junk, AV.junk, AV.junk, AV.junk, AV.junk, AV.junk, AV.junk, AV.junk, AV.junk, AV.junk, AV.junk]
  [some (Blk.mk (3) false false true (Data.ints IntKind.i64 ws)), some (Blk.mk (3) false false true (Data.ints IntKind.i64 l))])))
  Tree.fail)
  Tree.fail))
  Tree.fail)
  Tree.fail)
  (Tree.ret
  (Ex.exit (0),
  St.mk
  [AV.sl zws (Ref.mk (0) (0) (0) (0)) false (List.length ws) Cap.any, AV.sl zl (Ref.mk (1) (0) (0) (0)) false (List.length l) Cap.any, AV.junk, AV.junk,
  AV.junk, AV.junk, AV.junk, AV.int IntKind.i64 false (sizeZ ws), AV.junk, AV.junk, AV.junk, AV.junk, AV.junk, AV.junk, AV.junk, AV.junk, AV.junk, AV.junk, AV.junk, AV.junk, AV.junk, AV.junk, AV.junk, AV.junk, AV.junk, AV.junk,
  AV.junk, AV.junk, AV.junk, AV.junk, AV.junk, AV.junk, AV.junk, AV.junk, AV.junk, AV.junk, AV.junk, AV.junk, AV.junk, AV.junk, AV.junk, AV.junk, AV.junk, AV.junk, AV.junk, AV.junk, AV.junk, AV.junk, AV.junk, AV.junk, AV.junk,
  AV.junk, AV.junk, AV.junk, AV.junk, AV.junk, AV.junk, AV.junk, AV.junk, AV.junk, AV.junk, AV.junk, AV.junk, AV.junk, AV.junk, AV.junk, AV.junk, AV.junk, AV.junk, AV.junk, AV.junk, AV.junk, AV.junk, AV.junk, AV.junk, AV.junk,
  AV.junk, AV.junk, AV.junk, AV.junk, AV.junk, AV.junk, AV.junk, AV.junk]
  [some (Blk.mk (3) false false true (Data.ints IntKind.i64 ws)), some (Blk.mk (3) false false true (Data.ints IntKind.i64 l))])))
  (Tree.ret
  (Ex.exit (0),
  St.mk
  [AV.sl zws (Ref.mk (0) (0) (0) (0)) false (List.length ws) Cap.any, AV.sl zl (Ref.mk (1) (0) (0) (0)) false (List.length l) Cap.any, AV.junk, AV.junk,
  AV.junk, AV.junk, AV.junk, AV.int IntKind.i64 false (sizeZ ws), AV.junk, AV.junk, AV.junk, AV.junk, AV.junk, AV.junk, AV.junk, AV.junk, AV.junk, AV.junk, AV.junk, AV.junk, AV.junk, AV.junk, AV.junk, AV.junk, AV.junk, AV.junk,
  AV.junk, AV.junk, AV.junk, AV.junk, AV.junk, AV.junk, AV.junk, AV.junk, AV.junk, AV.junk, AV.junk, AV.junk, AV.junk, AV.junk, AV.junk, AV.junk, AV.junk, AV.junk, AV.junk, AV.junk, AV.junk, AV.junk, AV.junk, AV.junk, AV.junk,
  AV.junk, AV.junk, AV.junk, AV.junk, AV.junk, AV.junk, AV.junk, AV.junk, AV.junk, AV.junk, AV.junk, AV.junk, AV.junk, AV.junk, AV.junk, AV.junk, AV.junk, AV.junk, AV.junk, AV.junk, AV.junk, AV.junk, AV.junk, AV.junk, AV.junk,
  AV.junk, AV.junk, AV.junk, AV.junk, AV.junk, AV.junk, AV.junk, AV.junk]
  [some (Blk.mk (3) false false true (Data.ints IntKind.i64 ws)), some (Blk.mk (3) false false true (Data.ints IntKind.i64 l))])) := by kernel_rfl
set_option maxRecDepth 100000 in
theorem steprsplit_0 (zws : Bool) (ws : List Int) (zl : Bool) (l : List Int) (i : Nat) (ex : Ex) (r : St) (hok : okrsplit_0 ⟨zws, ws, zl, l, i⟩) (hr : (outrsplit_0 ⟨zws, ws, zl, l, i⟩).runs (ex, r)) : (Tree.br (decide ((i : Int) < ((List.length l) : Int)))
  (Tree.br (decide ((i : Int) < sizeZ ws))
  (Tree.br (!zl && decide ((0 : Int) ≤ (i : Int) ∧ (i : Int) < ((List.length l) : Int)))
  (Tree.br (decide (Int.toNat (i : Int) * 1 + 0 + 1 ≤ List.length l))
  (Tree.br (decide (List.getD l (Int.toNat (i : Int) * 1 + 0 + 0) (0 : Int) < (0 : Int)))
  (Tree.ret
  (Ex.ret,
  St.mk
  [AV.junk, AV.junk, AV.junk, AV.junk, AV.sl true (Ref.mk (0) (0) (0) (0)) true (0) Cap.exact, AV.int IntKind.i64 true (2 : Int), AV.junk, AV.junk, AV.junk, AV.junk, AV.junk, AV.junk,
  AV.junk, AV.junk, AV.junk, AV.junk, AV.junk, AV.junk, AV.junk, AV.junk, AV.junk, AV.junk, AV.junk, AV.junk, AV.junk, AV.junk, AV.junk, AV.junk, AV.junk, AV.junk, AV.junk, AV.junk, AV.junk, AV.junk, AV.junk, AV.junk,
  AV.junk, AV.junk, AV.junk, AV.junk, AV.junk, AV.junk, AV.junk, AV.junk, AV.junk, AV.junk, AV.junk, AV.junk, AV.junk, AV.junk, AV.junk, AV.junk, AV.junk, AV.junk, AV.junk, AV.junk, AV.junk, AV.junk, AV.junk, AV.junk,
  AV.junk, AV.junk, AV.junk, AV.junk, AV.junk, AV.junk, AV.junk, AV.junk, AV.junk, AV.junk, AV.junk, AV.junk, AV.junk, AV.junk, AV.junk, AV.junk, AV.junk, AV.junk, AV.junk, AV.junk, AV.junk, AV.junk, AV.junk, AV.junk]
  [some (Blk.mk (3) false false true (Data.ints IntKind.i64 ws)), some (Blk.mk (3) false false true (Data.ints IntKind.i64 l))]))
  (Tree.br (!zl && decide ((0 : Int) ≤ (i : Int) ∧ (i : Int) < ((List.length l) : Int)))
  (Tree.br (decide (Int.toNat (i : Int) * 1 + 0 + 1 ≤ List.length l))
  (Tree.br (decide (List.getD l (Int.toNat (i : Int) * 1 + 0 + 0) (0 : Int) > (65535 : Int)))
  (Tree.ret
  (Ex.ret,
  St.mk
  [AV.junk, AV.junk, AV.junk, AV.junk, AV.sl true (Ref.mk (0) (0) (0) (0)) true (0) Cap.exact, AV.int IntKind.i64 true (2 : Int), AV.junk, AV.junk, AV.junk, AV.junk, AV.junk,
  AV.junk, AV.junk, AV.junk, AV.junk, AV.junk, AV.junk, AV.junk, AV.junk, AV.junk, AV.junk, AV.junk, AV.junk, AV.junk, AV.junk, AV.junk, AV.junk, AV.junk, AV.junk, AV.junk, AV.junk, AV.junk, AV.junk, AV.junk, AV.junk,
  AV.junk, AV.junk, AV.junk, AV.junk, AV.junk, AV.junk, AV.junk, AV.junk, AV.junk, AV.junk, AV.junk, AV.junk, AV.junk, AV.junk, AV.junk, AV.junk, AV.junk, AV.junk, AV.junk, AV.junk, AV.junk, AV.junk, AV.junk, AV.junk,
  AV.junk, AV.junk, AV.junk, AV.junk, AV.junk, AV.junk, AV.junk, AV.junk, AV.junk, AV.junk, AV.junk, AV.junk, AV.junk, AV.junk, AV.junk, AV.junk, AV.junk, AV.junk, AV.junk, AV.junk, AV.junk, AV.junk, AV.junk, AV.junk,
  AV.junk]
  [some (Blk.mk (3) false false true (Data.ints IntKind.i64 ws)), some (Blk.mk (3) false false true (Data.ints IntKind.i64 l))]))
  (Tree.ret
  (Ex.norm,
  St.mk
  [AV.sl zws (Ref.mk (0) (0) (0) (0)) false (List.length ws) Cap.any, AV.sl zl (Ref.mk (1) (0) (0) (0)) false (List.length l) Cap.any, AV.junk,
  AV.junk, AV.junk, AV.junk, AV.junk, AV.int IntKind.i64 false (sizeZ ws), AV.int IntKind.i64 false (IntKind.wrap IntKind.i64 ((i : Int) + (1 : Int))), AV.junk, AV.junk, AV.junk, AV.junk, AV.junk, AV.junk, AV.junk,
  AV.junk, AV.junk, AV.junk, AV.junk, AV.junk, AV.junk, AV.junk, AV.junk, AV.junk, AV.junk, AV.junk, AV.junk, AV.junk, AV.junk, AV.junk, AV.junk, AV.junk, AV.junk, AV.junk, AV.junk, AV.junk, AV.junk, AV.junk, AV.junk,
  AV.junk, AV.junk, AV.junk, AV.junk, AV.junk, AV.junk, AV.junk, AV.junk, AV.junk, AV.junk, AV.junk, AV.junk, AV.junk, AV.junk, AV.junk, AV.junk, AV.junk, AV.junk, AV.junk, AV.junk, AV.junk, AV.junk, AV.junk, AV.junk,
  AV.junk, AV.junk, AV.junk, AV.junk, AV.junk, AV.junk, AV.junk, AV.junk, AV.junk, AV.junk, AV.junk, AV.junk, AV.junk, AV.junk, AV.junk, AV.junk, AV.junk, AV.junk, AV.junk, AV.junk]
  [some (Blk.mk (3) false false true (Data.ints IntKind.i64 ws)), some (Blk.mk (3) false false true (Data.ints IntKind.i64 l))])))
  Tree.fail)
  Tree.fail))
  Tree.fail)
  Tree.fail)
  (Tree.ret
  (Ex.exit (0),
  St.mk
  [AV.sl zws (Ref.mk (0) (0) (0) (0)) false (List.length ws) Cap.any, AV.sl zl (Ref.mk (1) (0) (0) (0)) false (List.length l) Cap.any, AV.junk, AV.junk,
  AV.junk, AV.junk, AV.junk, AV.int IntKind.i64 false (sizeZ ws), AV.junk, AV.junk, AV.junk, AV.junk, AV.junk, AV.junk, AV.junk, AV.junk, AV.junk, AV.junk, AV.junk, AV.junk, AV.junk, AV.junk, AV.junk, AV.junk, AV.junk, AV.junk,
  AV.junk, AV.junk, AV.junk, AV.junk, AV.junk, AV.junk, AV.junk, AV.junk, AV.junk, AV.junk, AV.junk, AV.junk, AV.junk, AV.junk, AV.junk, AV.junk, AV.junk, AV.junk, AV.junk, AV.junk, AV.junk, AV.junk, AV.junk, AV.junk, AV.junk,
  AV.junk, AV.junk, AV.junk, AV.junk, AV.junk, AV.junk, AV.junk, AV.junk, AV.junk, AV.junk, AV.junk, AV.junk, AV.junk, AV.junk, AV.junk, AV.junk, AV.junk, AV.junk, AV.junk, AV.junk, AV.junk, AV.junk, AV.junk, AV.junk, AV.junk,
  AV.junk, AV.junk, AV.junk, AV.junk, AV.junk, AV.junk, AV.junk, AV.junk]
  [some (Blk.mk (3) false false true (Data.ints IntKind.i64 ws)), some (Blk.mk (3) false false true (Data.ints IntKind.i64 l))])))
  (Tree.ret
  (Ex.exit (0),
  St.mk
  [AV.sl zws (Ref.mk (0) (0) (0) (0)) false (List.length ws) Cap.any, AV.sl zl (Ref.mk (1) (0) (0) (0)) false (List.length l) Cap.any, AV.junk, AV.junk,
  AV.junk, AV.junk, AV.junk, AV.int IntKind.i64 false (sizeZ ws), AV.junk, AV.junk, AV.junk, AV.junk, AV.junk, AV.junk, AV.junk, AV.junk, AV.junk, AV.junk, AV.junk, AV.junk, AV.junk, AV.junk, AV.junk, AV.junk, AV.junk, AV.junk,
  AV.junk, AV.junk, AV.junk, AV.junk, AV.junk, AV.junk, AV.junk, AV.junk, AV.junk, AV.junk, AV.junk, AV.junk, AV.junk, AV.junk, AV.junk, AV.junk, AV.junk, AV.junk, AV.junk, AV.junk, AV.junk, AV.junk, AV.junk, AV.junk, AV.junk,
  AV.junk, AV.junk, AV.junk, AV.junk, AV.junk, AV.junk, AV.junk, AV.junk, AV.junk, AV.junk, AV.junk, AV.junk, AV.junk, AV.junk, AV.junk, AV.junk, AV.junk, AV.junk, AV.junk, AV.junk, AV.junk, AV.junk, AV.junk, AV.junk, AV.junk,
  AV.junk, AV.junk, AV.junk, AV.junk, AV.junk, AV.junk, AV.junk, AV.junk]
  [some (Blk.mk (3) false false true (Data.ints IntKind.i64 ws)), some (Blk.mk (3) false false true (Data.ints IntKind.i64 l))])) : Tree (Ex × St)).Sat (Post hdrsplit_0 resrsplit_0 mursplit_0 ⟨zws, ws, zl, l, i⟩ ex r) := by
  simp only [okrsplit_0, outrsplit_0, Tree.runs] at hok hr
  obtain ⟨hm, hs, hzw, hzl, hi, his, ha⟩ := hok
  have sz := size_small hm
  simp only [Int.toNat_natCast, Nat.mul_one, Nat.add_zero]
  refine Tree.Sat.br (fun h1 => ?_) (fun h1 => ?_)
  · (try simp only [decide_eq_true_eq, decide_eq_false_iff_not, Bool.not_eq_true', Bool.not_eq_false', beq_iff_eq, beq_eq_false_iff_ne, Int.not_lt, Int.not_le, ge_iff_le, gt_iff_lt, ne_eq, Bool.false_eq_true, Bool.true_eq_false, not_true_eq_false, not_false_eq_true, Bool.and_eq_true, Bool.not_eq_eq_eq_not, Bool.not_true, Bool.not_false, bne_iff_ne, bne_eq_false_iff_eq, Int.toNat_natCast, Nat.mul_one, Nat.add_zero, Nat.zero_add, List.take_length, List.drop_zero] at h1)
    all_goals
      refine Tree.Sat.br (fun h2 => ?_) (fun h2 => ?_)
      · (try simp only [decide_eq_true_eq, decide_eq_false_iff_not, Bool.not_eq_true', Bool.not_eq_false', beq_iff_eq, beq_eq_false_iff_ne, Int.not_lt, Int.not_le, ge_iff_le, gt_iff_lt, ne_eq, Bool.false_eq_true, Bool.true_eq_false, not_true_eq_false, not_false_eq_true, Bool.and_eq_true, Bool.not_eq_eq_eq_not, Bool.not_true, Bool.not_false, bne_iff_ne, bne_eq_false_iff_eq, Int.toNat_natCast, Nat.mul_one, Nat.add_zero, Nat.zero_add, List.take_length, List.drop_zero] at h2)
        all_goals
          refine Tree.Sat.br (fun h3 => ?_) (fun h3 => ?_)
          · (try simp only [decide_eq_true_eq, decide_eq_false_iff_not, Bool.not_eq_true', Bool.not_eq_false', beq_iff_eq, beq_eq_false_iff_ne, Int.not_lt, Int.not_le, ge_iff_le, gt_iff_lt, ne_eq, Bool.false_eq_true, Bool.true_eq_false, not_true_eq_false, not_false_eq_true, Bool.and_eq_true, Bool.not_eq_eq_eq_not, Bool.not_true, Bool.not_false, bne_iff_ne, bne_eq_false_iff_eq, Int.toNat_natCast, Nat.mul_one, Nat.add_zero, Nat.zero_add, List.take_length, List.drop_zero] at h3)
            all_goals
              refine Tree.Sat.br (fun h4 => ?_) (fun h4 => ?_)
              · (try simp only [decide_eq_true_eq, decide_eq_false_iff_not, Bool.not_eq_true', Bool.not_eq_false', beq_iff_eq, beq_eq_false_iff_ne, Int.not_lt, Int.not_le, ge_iff_le, gt_iff_lt, ne_eq, Bool.false_eq_true, Bool.true_eq_false, not_true_eq_false, not_false_eq_true, Bool.and_eq_true, Bool.not_eq_eq_eq_not, Bool.not_true, Bool.not_false, bne_iff_ne, bne_eq_false_iff_eq, Int.toNat_natCast, Nat.mul_one, Nat.add_zero, Nat.zero_add, List.take_length, List.drop_zero] at h4)
                all_goals
                  refine Tree.Sat.br (fun h5 => ?_) (fun h5 => ?_)
                  · (try simp only [decide_eq_true_eq, decide_eq_false_iff_not, Bool.not_eq_true', Bool.not_eq_false', beq_iff_eq, beq_eq_false_iff_ne, Int.not_lt, Int.not_le, ge_iff_le, gt_iff_lt, ne_eq, Bool.false_eq_true, Bool.true_eq_false, not_true_eq_false, not_false_eq_true, Bool.and_eq_true, Bool.not_eq_eq_eq_not, Bool.not_true, Bool.not_false, bne_iff_ne, bne_eq_false_iff_eq, Int.toNat_natCast, Nat.mul_one, Nat.add_zero, Nat.zero_add, List.take_length, List.drop_zero] at h5)
                    all_goals
                      refine Tree.Sat.ret ?_
                      have hq := hr.1 (any_hit_take (i := i) (by omega) (by omega) (by simp only [badW, Bool.or_eq_true, decide_eq_true_eq]; omega))
                      simp only [Prod.mk.injEq] at hq
                      obtain ⟨rfl, rfl⟩ := hq
                      refine .ret rfl ?_
                      constructor <;> simp only [AV.leL, AV.le, Mem.le, Mem.leP, Blk.le, Blk.pad, Data.le, Data.size, Cap.le, and_true, true_and, and_self, true_implies, implies_true, imp_self, List.length_nil] <;> (repeat' with_reducible refine And.intro ?_ ?_) <;> (try simp only [Int.toNat_natCast, Nat.mul_one, Nat.add_zero, Nat.zero_add]) <;> done
                  · (try simp only [decide_eq_true_eq, decide_eq_false_iff_not, Bool.not_eq_true', Bool.not_eq_false', beq_iff_eq, beq_eq_false_iff_ne, Int.not_lt, Int.not_le, ge_iff_le, gt_iff_lt, ne_eq, Bool.false_eq_true, Bool.true_eq_false, not_true_eq_false, not_false_eq_true, Bool.and_eq_true, Bool.not_eq_eq_eq_not, Bool.not_true, Bool.not_false, bne_iff_ne, bne_eq_false_iff_eq, Int.toNat_natCast, Nat.mul_one, Nat.add_zero, Nat.zero_add, List.take_length, List.drop_zero] at h5)
                    all_goals
                      refine Tree.Sat.br (fun h6 => ?_) (fun h6 => ?_)
                      · (try simp only [decide_eq_true_eq, decide_eq_false_iff_not, Bool.not_eq_true', Bool.not_eq_false', beq_iff_eq, beq_eq_false_iff_ne, Int.not_lt, Int.not_le, ge_iff_le, gt_iff_lt, ne_eq, Bool.false_eq_true, Bool.true_eq_false, not_true_eq_false, not_false_eq_true, Bool.and_eq_true, Bool.not_eq_eq_eq_not, Bool.not_true, Bool.not_false, bne_iff_ne, bne_eq_false_iff_eq, Int.toNat_natCast, Nat.mul_one, Nat.add_zero, Nat.zero_add, List.take_length, List.drop_zero] at h6)
                        all_goals
                          refine Tree.Sat.br (fun h7 => ?_) (fun h7 => ?_)
                          · (try simp only [decide_eq_true_eq, decide_eq_false_iff_not, Bool.not_eq_true', Bool.not_eq_false', beq_iff_eq, beq_eq_false_iff_ne, Int.not_lt, Int.not_le, ge_iff_le, gt_iff_lt, ne_eq, Bool.false_eq_true, Bool.true_eq_false, not_true_eq_false, not_false_eq_true, Bool.and_eq_true, Bool.not_eq_eq_eq_not, Bool.not_true, Bool.not_false, bne_iff_ne, bne_eq_false_iff_eq, Int.toNat_natCast, Nat.mul_one, Nat.add_zero, Nat.zero_add, List.take_length, List.drop_zero] at h7)
                            all_goals
                              refine Tree.Sat.br (fun h8 => ?_) (fun h8 => ?_)
                              · (try simp only [decide_eq_true_eq, decide_eq_false_iff_not, Bool.not_eq_true', Bool.not_eq_false', beq_iff_eq, beq_eq_false_iff_ne, Int.not_lt, Int.not_le, ge_iff_le, gt_iff_lt, ne_eq, Bool.false_eq_true, Bool.true_eq_false, not_true_eq_false, not_false_eq_true, Bool.and_eq_true, Bool.not_eq_eq_eq_not, Bool.not_true, Bool.not_false, bne_iff_ne, bne_eq_false_iff_eq, Int.toNat_natCast, Nat.mul_one, Nat.add_zero, Nat.zero_add, List.take_length, List.drop_zero] at h8)
                                all_goals
                                  refine Tree.Sat.ret ?_
                                  have hq := hr.1 (any_hit_take (i := i) (by omega) (by omega) (by simp only [badW, Bool.or_eq_true, decide_eq_true_eq]; omega))
                                  simp only [Prod.mk.injEq] at hq
                                  obtain ⟨rfl, rfl⟩ := hq
                                  refine .ret rfl ?_
                                  constructor <;> simp only [AV.leL, AV.le, Mem.le, Mem.leP, Blk.le, Blk.pad, Data.le, Data.size, Cap.le, and_true, true_and, and_self, true_implies, implies_true, imp_self, List.length_nil] <;> (repeat' with_reducible refine And.intro ?_ ?_) <;> (try simp only [Int.toNat_natCast, Nat.mul_one, Nat.add_zero, Nat.zero_add]) <;> done
                              · (try simp only [decide_eq_true_eq, decide_eq_false_iff_not, Bool.not_eq_true', Bool.not_eq_false', beq_iff_eq, beq_eq_false_iff_ne, Int.not_lt, Int.not_le, ge_iff_le, gt_iff_lt, ne_eq, Bool.false_eq_true, Bool.true_eq_false, not_true_eq_false, not_false_eq_true, Bool.and_eq_true, Bool.not_eq_eq_eq_not, Bool.not_true, Bool.not_false, bne_iff_ne, bne_eq_false_iff_eq, Int.toNat_natCast, Nat.mul_one, Nat.add_zero, Nat.zero_add, List.take_length, List.drop_zero] at h8)
                                all_goals
                                  refine Tree.Sat.ret ?_
                                  refine .norm ⟨zws, ws, zl, l, i + 1⟩ ?_ ?_ ⟨?_, ?_⟩
                                  · constructor <;> simp only [hdrsplit_0, AV.leL, AV.le, Mem.le, Mem.leP, Blk.le, Blk.pad, Data.le, Data.size, Cap.le, and_true, true_and, and_self, true_implies, implies_true, imp_self, List.length_nil] <;> (repeat' with_reducible refine And.intro ?_ ?_) <;> (try simp only [Int.toNat_natCast, Nat.mul_one, Nat.add_zero, Nat.zero_add]) <;> first | exact wadd1 (by omega) | omega
                                  · simp only [mursplit_0]; omega
                                  · exact ⟨hm, hs, hzw, hzl, by omega, by omega, any_take_succ (by omega) ha (by simp only [badW, Bool.or_eq_false_iff, decide_eq_false_iff_not]; omega)⟩
                                  · exact hr
                          · (try simp only [decide_eq_true_eq, decide_eq_false_iff_not, Bool.not_eq_true', Bool.not_eq_false', beq_iff_eq, beq_eq_false_iff_ne, Int.not_lt, Int.not_le, ge_iff_le, gt_iff_lt, ne_eq, Bool.false_eq_true, Bool.true_eq_false, not_true_eq_false, not_false_eq_true, Bool.and_eq_true, Bool.not_eq_eq_eq_not, Bool.not_true, Bool.not_false, bne_iff_ne, bne_eq_false_iff_eq, Int.toNat_natCast, Nat.mul_one, Nat.add_zero, Nat.zero_add, List.take_length, List.drop_zero] at h7)
                            all_goals
                              exfalso
                              first | omega | (clear hr; cases zws <;> cases zl <;> simp_all; done) | (clear hr; cases zws <;> cases zl <;> simp_all <;> omega)
                      · (try simp only [decide_eq_true_eq, decide_eq_false_iff_not, Bool.not_eq_true', Bool.not_eq_false', beq_iff_eq, beq_eq_false_iff_ne, Int.not_lt, Int.not_le, ge_iff_le, gt_iff_lt, ne_eq, Bool.false_eq_true, Bool.true_eq_false, not_true_eq_false, not_false_eq_true, Bool.and_eq_true, Bool.not_eq_eq_eq_not, Bool.not_true, Bool.not_false, bne_iff_ne, bne_eq_false_iff_eq, Int.toNat_natCast, Nat.mul_one, Nat.add_zero, Nat.zero_add, List.take_length, List.drop_zero] at h6)
                        all_goals
                          exfalso
                          first | omega | (clear hr; cases zws <;> cases zl <;> simp_all; done) | (clear hr; cases zws <;> cases zl <;> simp_all <;> omega)
              · (try simp only [decide_eq_true_eq, decide_eq_false_iff_not, Bool.not_eq_true', Bool.not_eq_false', beq_iff_eq, beq_eq_false_iff_ne, Int.not_lt, Int.not_le, ge_iff_le, gt_iff_lt, ne_eq, Bool.false_eq_true, Bool.true_eq_false, not_true_eq_false, not_false_eq_true, Bool.and_eq_true, Bool.not_eq_eq_eq_not, Bool.not_true, Bool.not_false, bne_iff_ne, bne_eq_false_iff_eq, Int.toNat_natCast, Nat.mul_one, Nat.add_zero, Nat.zero_add, List.take_length, List.drop_zero] at h4)
                all_goals
                  exfalso
                  first | omega | (clear hr; cases zws <;> cases zl <;> simp_all; done) | (clear hr; cases zws <;> cases zl <;> simp_all <;> omega)
          · (try simp only [decide_eq_true_eq, decide_eq_false_iff_not, Bool.not_eq_true', Bool.not_eq_false', beq_iff_eq, beq_eq_false_iff_ne, Int.not_lt, Int.not_le, ge_iff_le, gt_iff_lt, ne_eq, Bool.false_eq_true, Bool.true_eq_false, not_true_eq_false, not_false_eq_true, Bool.and_eq_true, Bool.not_eq_eq_eq_not, Bool.not_true, Bool.not_false, bne_iff_ne, bne_eq_false_iff_eq, Int.toNat_natCast, Nat.mul_one, Nat.add_zero, Nat.zero_add, List.take_length, List.drop_zero] at h3)
            all_goals
              exfalso
              first | omega | (clear hr; cases zws <;> cases zl <;> simp_all; done) | (clear hr; cases zws <;> cases zl <;> simp_all <;> omega)
      · (try simp only [decide_eq_true_eq, decide_eq_false_iff_not, Bool.not_eq_true', Bool.not_eq_false', beq_iff_eq, beq_eq_false_iff_ne, Int.not_lt, Int.not_le, ge_iff_le, gt_iff_lt, ne_eq, Bool.false_eq_true, Bool.true_eq_false, not_true_eq_false, not_false_eq_true, Bool.and_eq_true, Bool.not_eq_eq_eq_not, Bool.not_true, Bool.not_false, bne_iff_ne, bne_eq_false_iff_eq, Int.toNat_natCast, Nat.mul_one, Nat.add_zero, Nat.zero_add, List.take_length, List.drop_zero] at h2)
        all_goals
          refine Tree.Sat.ret ?_
          have hq := hr.2 (by rw [show (sizeZ ws).toNat = i by omega]; exact ha)
          simp only [Prod.mk.injEq] at hq
          obtain ⟨rfl, rfl⟩ := hq
          refine .exit rfl ?_
          constructor <;> simp only [AV.leL, AV.le, Mem.le, Mem.leP, Blk.le, Blk.pad, Data.le, Data.size, Cap.le, and_true, true_and, and_self, true_implies, implies_true, imp_self, List.length_nil] <;> (repeat' with_reducible refine And.intro ?_ ?_) <;> (try simp only [Int.toNat_natCast, Nat.mul_one, Nat.add_zero, Nat.zero_add]) <;> done
  · (try simp only [decide_eq_true_eq, decide_eq_false_iff_not, Bool.not_eq_true', Bool.not_eq_false', beq_iff_eq, beq_eq_false_iff_ne, Int.not_lt, Int.not_le, ge_iff_le, gt_iff_lt, ne_eq, Bool.false_eq_true, Bool.true_eq_false, not_true_eq_false, not_false_eq_true, Bool.and_eq_true, Bool.not_eq_eq_eq_not, Bool.not_true, Bool.not_false, bne_iff_ne, bne_eq_false_iff_eq, Int.toNat_natCast, Nat.mul_one, Nat.add_zero, Nat.zero_add, List.take_length, List.drop_zero] at h1)
    all_goals
      refine Tree.Sat.ret ?_
      have hq := hr.2 (by rw [List.take_of_length_le (by omega)] at ha ⊢; exact ha)
      simp only [Prod.mk.injEq] at hq
      obtain ⟨rfl, rfl⟩ := hq
      refine .exit rfl ?_
      constructor <;> simp only [AV.leL, AV.le, Mem.le, Mem.leP, Blk.le, Blk.pad, Data.le, Data.size, Cap.le, and_true, true_and, and_self, true_implies, implies_true, imp_self, List.length_nil] <;> (repeat' with_reducible refine And.intro ?_ ?_) <;> (try simp only [Int.toNat_natCast, Nat.mul_one, Nat.add_zero, Nat.zero_add]) <;> done
set_option maxHeartbeats 2000000 in
set_option maxRecDepth 100000 in
theorem looprsplit_0 (hall : AllOk Try.prog 0 (fun _ => none) tab23) : LoopOk (mkL Try.prog 0 (fun _ => none) tab23 rowsrsplit) 22 2 (bodyAt Try.prog 22 0) := by
  have hkey : Code.key (bodyAt Try.prog 22 0) = 6 := by kernel_rfl
  have hin : loopsIn (bodyAt Try.prog 22 0) = [] := by kernel_rfl
  have hrow : lookL rowsrsplit 22 (Code.key (bodyAt Try.prog 22 0)) = some rowrsplit_0 := by rw [hkey]; rfl
  refine loop_rowP (X := Xrsplit_0) (row := rowrsplit_0) hall mix hrow (fun b hb _ => by rw [hin] at hb; cases hb) Ursplit_0 hdrsplit_0 resrsplit_0 mursplit_0 (fun st ex r h => ?_) (fun x ex r hr => ?_)
  · have h' : (ansrsplit_0 st).runs (ex, r) := h
    unfold ansrsplit_0 at h'
    split at h'
    · obtain ⟨q1, q2⟩ := Tree.chk_runs h'
      exact ⟨_, q1, q2⟩
    · exact h'.elim
  · obtain ⟨zws, ws, zl, l, i⟩ := x
    have := steprsplit_0 zws ws zl l i ex r hr.1 hr.2
    rw [← tLrsplit_0] at this
    (try rw [show rowrsplit_0.tidy = Trsplit_0 from rfl])
    exact this
theorem loopsrsplit (hall : AllOk Try.prog 0 (fun _ => none) tab23) : ∀ i, i < (loopsAt Try.prog 22).length → LoopOk (mkL Try.prog 0 (fun _ => none) tab23 rowsrsplit) 22 2 (bodyAt Try.prog 22 i) := by
  intro i hi
  have hlen : (loopsAt Try.prog 22).length = 3 := by kernel_rfl
  rw [hlen] at hi
  obtain rfl | rfl | rfl : i = 0 ∨ i = 1 ∨ i = 2 := by omega
  · exact looprsplit_0 hall
  · exact looprsplit_1 hall
  · exact looprsplit_2 hall
set_option maxRecDepth 100000 in
theorem trsplit (zws : Bool) (ws : List Int) (zl : Bool) (l : List Int) : evBody (mkL Try.prog 0 (fun _ => none) tab23 rowsrsplit) (evCall (mkC Try.prog 0 (fun _ => none) tab23) 50) 22 [.sl zws ⟨0, 0, 0, 0⟩ false ws.length .any, .sl zl ⟨1, 0, 0, 0⟩ false l.length .any] [some ⟨3, false, false, true, .ints .i64 ws⟩, some ⟨3, false, false, true, .ints .i64 l⟩] =
  Tree.chk ((0 + List.length ws ≤ List.length ws ∧ True) ∧ short (List.take (List.length ws) (List.drop (0) ws)) ∧ (zws = true → List.take (List.length ws) (List.drop (0) ws) = []))
  (Tree.br (mayZ (List.take (List.length ws) (List.drop (0) ws)) != (0 : Int))
  (Tree.ret
  (AV.tup [AV.sl true (Ref.mk (0) (0) (0) (0)) true (0) Cap.exact, AV.int IntKind.i64 false (mayZ (List.take (List.length ws) (List.drop (0) ws)))],
  [some (Blk.mk (3) false false true (Data.ints IntKind.i64 ws)), some (Blk.mk (3) false false true (Data.ints IntKind.i64 l))]))
  (Tree.chk
  ((0 + List.length ws ≤ List.length ws ∧ True) ∧
  List.length (List.take (List.length ws) (List.drop (0) ws)) ≤ 1000000 ∧ (zws = true → List.take (List.length ws) (List.drop (0) ws) = []))
  (Tree.chk
  (St.le
  (St.mk
  [AV.sl zws (Ref.mk (0) (0) (0) (0)) false (List.length ws) Cap.any, AV.sl zl (Ref.mk (1) (0) (0) (0)) false (List.length l) Cap.any, AV.junk, AV.junk,
  AV.junk, AV.junk, AV.junk, AV.int IntKind.i64 false (sizeZ (List.take (List.length ws) (List.drop (0) ws))), AV.int IntKind.i64 true (0 : Int), AV.junk, AV.junk, AV.junk, AV.junk, AV.junk, AV.junk, AV.junk,
  AV.junk, AV.junk, AV.junk, AV.junk, AV.junk, AV.junk, AV.junk, AV.junk, AV.junk, AV.junk, AV.junk, AV.junk, AV.junk, AV.junk, AV.junk, AV.junk, AV.junk, AV.junk, AV.junk, AV.junk, AV.junk, AV.junk, AV.junk, AV.junk, AV.junk,
  AV.junk, AV.junk, AV.junk, AV.junk, AV.junk, AV.junk, AV.junk, AV.junk, AV.junk, AV.junk, AV.junk, AV.junk, AV.junk, AV.junk, AV.junk, AV.junk, AV.junk, AV.junk, AV.junk, AV.junk, AV.junk, AV.junk, AV.junk, AV.junk, AV.junk,
  AV.junk, AV.junk, AV.junk, AV.junk, AV.junk, AV.junk, AV.junk, AV.junk, AV.junk, AV.junk, AV.junk, AV.junk, AV.junk, AV.junk, AV.junk, AV.junk, AV.junk, AV.junk]
  [some (Blk.mk (3) false false true (Data.ints IntKind.i64 ws)), some (Blk.mk (3) false false true (Data.ints IntKind.i64 l))])
  (St.mk
  [AV.sl zws (Ref.mk (0) (0) (0) (0)) false (List.length ws) Cap.any, AV.sl zl (Ref.mk (1) (0) (0) (0)) false (List.length l) Cap.any, AV.junk, AV.junk,
  AV.junk, AV.junk, AV.junk, AV.int IntKind.i64 false (sizeZ ws), AV.int IntKind.i64 false (0 : Int), AV.junk, AV.junk, AV.junk, AV.junk, AV.junk, AV.junk, AV.junk, AV.junk, AV.junk, AV.junk, AV.junk, AV.junk, AV.junk,
  AV.junk, AV.junk, AV.junk, AV.junk, AV.junk, AV.junk, AV.junk, AV.junk, AV.junk, AV.junk, AV.junk, AV.junk, AV.junk, AV.junk, AV.junk, AV.junk, AV.junk, AV.junk, AV.junk, AV.junk, AV.junk, AV.junk, AV.junk, AV.junk, AV.junk,
  AV.junk, AV.junk, AV.junk, AV.junk, AV.junk, AV.junk, AV.junk, AV.junk, AV.junk, AV.junk, AV.junk, AV.junk, AV.junk, AV.junk, AV.junk, AV.junk, AV.junk, AV.junk, AV.junk, AV.junk, AV.junk, AV.junk, AV.junk, AV.junk, AV.junk,
  AV.junk, AV.junk, AV.junk, AV.junk, AV.junk, AV.junk, AV.junk, AV.junk, AV.junk, AV.junk, AV.junk, AV.junk]
  [some (Blk.mk (3) false false true (Data.ints IntKind.i64 ws)), some (Blk.mk (3) false false true (Data.ints IntKind.i64 l))]))
  (Tree.chk (okrsplit_0 (Xrsplit_0.mk zws ws zl l (Int.toNat (0 : Int))))
  (Tree.br (List.any (List.take (Int.toNat (sizeZ ws)) l) badW)
  (Tree.ret
  (AV.tup [AV.sl true (Ref.mk (0) (0) (0) (0)) true (0) Cap.exact, AV.int IntKind.i64 true (2 : Int)],
  [some (Blk.mk (3) false false true (Data.ints IntKind.i64 ws)), some (Blk.mk (3) false false true (Data.ints IntKind.i64 l))]))
  (Tree.br (decide (((List.length l) : Int) < sizeZ ws))
  (Tree.ret
  (AV.tup [AV.sl true (Ref.mk (0) (0) (0) (0)) true (0) Cap.exact, AV.int IntKind.i64 true (7 : Int)],
  [some (Blk.mk (3) false false true (Data.ints IntKind.i64 ws)), some (Blk.mk (3) false false true (Data.ints IntKind.i64 l))]))
  (Tree.chk
  (St.le
  (St.mk
  [AV.sl zws (Ref.mk (0) (0) (0) (0)) false (List.length ws) Cap.any, AV.sl zl (Ref.mk (1) (0) (0) (0)) false (List.length l) Cap.any, AV.junk,
  AV.junk, AV.junk, AV.junk, AV.junk, AV.junk, AV.junk, AV.sl false (Ref.mk (2) (0) (0) (0)) true (0) Cap.own, AV.int IntKind.i64 true (0 : Int), AV.int IntKind.i64 true (0 : Int),
  AV.junk, AV.junk, AV.junk, AV.junk, AV.junk, AV.junk, AV.junk, AV.junk, AV.junk, AV.junk, AV.junk, AV.junk, AV.junk, AV.junk, AV.junk, AV.junk, AV.junk, AV.junk, AV.junk, AV.junk, AV.junk, AV.junk, AV.junk, AV.junk,
  AV.junk, AV.junk, AV.junk, AV.junk, AV.junk, AV.junk, AV.junk, AV.junk, AV.junk, AV.junk, AV.junk, AV.junk, AV.junk, AV.junk, AV.junk, AV.junk, AV.junk, AV.junk, AV.junk, AV.junk, AV.junk, AV.junk, AV.junk, AV.junk,
  AV.junk, AV.junk, AV.junk, AV.junk, AV.junk, AV.junk, AV.junk, AV.junk, AV.junk, AV.junk, AV.junk, AV.junk, AV.junk, AV.junk, AV.junk, AV.junk, AV.junk, AV.junk, AV.junk, AV.junk, AV.junk, AV.junk, AV.junk, AV.junk]
  [some (Blk.mk (3) false false true (Data.ints IntKind.i64 ws)), some (Blk.mk (3) false false true (Data.ints IntKind.i64 l)), some (Blk.mk (3) true false true (Data.cells []))])
  (St.mk
  [AV.sl zws (Ref.mk (0) (0) (0) (0)) false (List.length ws) Cap.any, AV.sl zl (Ref.mk (1) (0) (0) (0)) false (List.length l) Cap.any, AV.junk,
  AV.junk, AV.junk, AV.junk, AV.junk, AV.junk, AV.junk, AV.sl false (Ref.mk (2) (0) (0) (0)) false (0) Cap.own,
  AV.int IntKind.i64 false (sumI (List.take (Int.toNat (0 : Int)) ws)), AV.int IntKind.i64 false (0 : Int), AV.junk, AV.junk, AV.junk, AV.junk, AV.junk, AV.junk, AV.junk, AV.junk, AV.junk, AV.junk, AV.junk, AV.junk,
  AV.junk, AV.junk, AV.junk, AV.junk, AV.junk, AV.junk, AV.junk, AV.junk, AV.junk, AV.junk, AV.junk, AV.junk, AV.junk, AV.junk, AV.junk, AV.junk, AV.junk, AV.junk, AV.junk, AV.junk, AV.junk, AV.junk, AV.junk, AV.junk,
  AV.junk, AV.junk, AV.junk, AV.junk, AV.junk, AV.junk, AV.junk, AV.junk, AV.junk, AV.junk, AV.junk, AV.junk, AV.junk, AV.junk, AV.junk, AV.junk, AV.junk, AV.junk, AV.junk, AV.junk, AV.junk, AV.junk, AV.junk, AV.junk,
  AV.junk, AV.junk, AV.junk, AV.junk, AV.junk, AV.junk, AV.junk, AV.junk, AV.junk, AV.junk, AV.junk, AV.junk]
  [some (Blk.mk (3) false false true (Data.ints IntKind.i64 ws)), some (Blk.mk (3) false false true (Data.ints IntKind.i64 l)),
  some (Blk.mk (3) true false true (Data.ints IntKind.i64 (splitF l 0 (List.take (Int.toNat (0 : Int)) ws))))]))
  (Tree.chk (okrsplit_1 (Xrsplit_1.mk zws ws zl l (Int.toNat (0 : Int))))
  (Tree.ret
  (AV.tup [AV.sl false (Ref.mk (2) (0) (0) (0)) false (List.length (splitF l 0 ws)) Cap.own, AV.int IntKind.i64 true (0 : Int)],
  [some (Blk.mk (3) false false true (Data.ints IntKind.i64 ws)), some (Blk.mk (3) false false true (Data.ints IntKind.i64 l)),
  some (Blk.mk (3) true false true (Data.ints IntKind.i64 (splitF l 0 ws)))])))))))))) := by kernel_rfl
set_option maxRecDepth 100000 in
theorem grsplit (zws : Bool) (ws : List Int) (zl : Bool) (l : List Int) (hw : short ws ∧ short l ∧ (zws = true → ws = []) ∧ (zl = true → l = [])) : (Tree.chk ((0 + List.length ws ≤ List.length ws ∧ True) ∧ short (List.take (List.length ws) (List.drop (0) ws)) ∧ (zws = true → List.take (List.length ws) (List.drop (0) ws) = []))
  (Tree.br (mayZ (List.take (List.length ws) (List.drop (0) ws)) != (0 : Int))
  (Tree.ret
  (AV.tup [AV.sl true (Ref.mk (0) (0) (0) (0)) true (0) Cap.exact, AV.int IntKind.i64 false (mayZ (List.take (List.length ws) (List.drop (0) ws)))],
  [some (Blk.mk (3) false false true (Data.ints IntKind.i64 ws)), some (Blk.mk (3) false false true (Data.ints IntKind.i64 l))]))
  (Tree.chk
  ((0 + List.length ws ≤ List.length ws ∧ True) ∧
  List.length (List.take (List.length ws) (List.drop (0) ws)) ≤ 1000000 ∧ (zws = true → List.take (List.length ws) (List.drop (0) ws) = []))
  (Tree.chk
  (St.le
  (St.mk
  [AV.sl zws (Ref.mk (0) (0) (0) (0)) false (List.length ws) Cap.any, AV.sl zl (Ref.mk (1) (0) (0) (0)) false (List.length l) Cap.any, AV.junk, AV.junk,
  AV.junk, AV.junk, AV.junk, AV.int IntKind.i64 false (sizeZ (List.take (List.length ws) (List.drop (0) ws))), AV.int IntKind.i64 true (0 : Int), AV.junk, AV.junk, AV.junk, AV.junk, AV.junk, AV.junk, AV.junk,
  AV.junk, AV.junk, AV.junk, AV.junk, AV.junk, AV.junk, AV.junk, AV.junk, AV.junk, AV.junk, AV.junk, AV.junk, AV.junk, AV.junk, AV.junk, AV.junk, AV.junk, AV.junk, AV.junk, AV.junk, AV.junk, AV.junk, AV.junk, AV.junk, AV.junk,
  AV.junk, AV.junk, AV.junk, AV.junk, AV.junk, AV.junk, AV.junk, AV.junk, AV.junk, AV.junk, AV.junk, AV.junk, AV.junk, AV.junk, AV.junk, AV.junk, AV.junk, AV.junk, AV.junk, AV.junk, AV.junk, AV.junk, AV.junk, AV.junk, AV.junk,
  AV.junk, AV.junk, AV.junk, AV.junk, AV.junk, AV.junk, AV.junk, AV.junk, AV.junk, AV.junk, AV.junk, AV.junk, AV.junk, AV.junk, AV.junk, AV.junk, AV.junk, AV.junk]
  [some (Blk.mk (3) false false true (Data.ints IntKind.i64 ws)), some (Blk.mk (3) false false true (Data.ints IntKind.i64 l))])
  (St.mk
  [AV.sl zws (Ref.mk (0) (0) (0) (0)) false (List.length ws) Cap.any, AV.sl zl (Ref.mk (1) (0) (0) (0)) false (List.length l) Cap.any, AV.junk, AV.junk,
  AV.junk, AV.junk, AV.junk, AV.int IntKind.i64 false (sizeZ ws), AV.int IntKind.i64 false (0 : Int), AV.junk, AV.junk, AV.junk, AV.junk, AV.junk, AV.junk, AV.junk, AV.junk, AV.junk, AV.junk, AV.junk, AV.junk, AV.junk,
  AV.junk, AV.junk, AV.junk, AV.junk, AV.junk, AV.junk, AV.junk, AV.junk, AV.junk, AV.junk, AV.junk, AV.junk, AV.junk, AV.junk, AV.junk, AV.junk, AV.junk, AV.junk, AV.junk, AV.junk, AV.junk, AV.junk, AV.junk, AV.junk, AV.junk,
  AV.junk, AV.junk, AV.junk, AV.junk, AV.junk, AV.junk, AV.junk, AV.junk, AV.junk, AV.junk, AV.junk, AV.junk, AV.junk, AV.junk, AV.junk, AV.junk, AV.junk, AV.junk, AV.junk, AV.junk, AV.junk, AV.junk, AV.junk, AV.junk, AV.junk,
  AV.junk, AV.junk, AV.junk, AV.junk, AV.junk, AV.junk, AV.junk, AV.junk, AV.junk, AV.junk, AV.junk, AV.junk]
  [some (Blk.mk (3) false false true (Data.ints IntKind.i64 ws)), some (Blk.mk (3) false false true (Data.ints IntKind.i64 l))]))
  (Tree.chk (okrsplit_0 (Xrsplit_0.mk zws ws zl l (Int.toNat (0 : Int))))
  (Tree.br (List.any (List.take (Int.toNat (sizeZ ws)) l) badW)
  (Tree.ret
  (AV.tup [AV.sl true (Ref.mk (0) (0) (0) (0)) true (0) Cap.exact, AV.int IntKind.i64 true (2 : Int)],
  [some (Blk.mk (3) false false true (Data.ints IntKind.i64 ws)), some (Blk.mk (3) false false true (Data.ints IntKind.i64 l))]))
  (Tree.br (decide (((List.length l) : Int) < sizeZ ws))
  (Tree.ret
  (AV.tup [AV.sl true (Ref.mk (0) (0) (0) (0)) true (0) Cap.exact, AV.int IntKind.i64 true (7 : Int)],
  [some (Blk.mk (3) false false true (Data.ints IntKind.i64 ws)), some (Blk.mk (3) false false true (Data.ints IntKind.i64 l))]))
  (Tree.chk
  (St.le
  (St.mk
  [AV.sl zws (Ref.mk (0) (0) (0) (0)) false (List.length ws) Cap.any, AV.sl zl (Ref.mk (1) (0) (0) (0)) false (List.length l) Cap.any, AV.junk,
  AV.junk, AV.junk, AV.junk, AV.junk, AV.junk, AV.junk, AV.sl false (Ref.mk (2) (0) (0) (0)) true (0) Cap.own, AV.int IntKind.i64 true (0 : Int), AV.int IntKind.i64 true (0 : Int),
  AV.junk, AV.junk, AV.junk, AV.junk, AV.junk, AV.junk, AV.junk, AV.junk, AV.junk, AV.junk, AV.junk, AV.junk, AV.junk, AV.junk, AV.junk, AV.junk, AV.junk, AV.junk, AV.junk, AV.junk, AV.junk, AV.junk, AV.junk, AV.junk,
  AV.junk, AV.junk, AV.junk, AV.junk, AV.junk, AV.junk, AV.junk, AV.junk, AV.junk, AV.junk, AV.junk, AV.junk, AV.junk, AV.junk, AV.junk, AV.junk, AV.junk, AV.junk, AV.junk, AV.junk, AV.junk, AV.junk, AV.junk, AV.junk,
  AV.junk, AV.junk, AV.junk, AV.junk, AV.junk, AV.junk, AV.junk, AV.junk, AV.junk, AV.junk, AV.junk, AV.junk, AV.junk, AV.junk, AV.junk, AV.junk, AV.junk, AV.junk, AV.junk, AV.junk, AV.junk, AV.junk, AV.junk, AV.junk]
  [some (Blk.mk (3) false false true (Data.ints IntKind.i64 ws)), some (Blk.mk (3) false false true (Data.ints IntKind.i64 l)), some (Blk.mk (3) true false true (Data.cells []))])
  (St.mk
  [AV.sl zws (Ref.mk (0) (0) (0) (0)) false (List.length ws) Cap.any, AV.sl zl (Ref.mk (1) (0) (0) (0)) false (List.length l) Cap.any, AV.junk,
  AV.junk, AV.junk, AV.junk, AV.junk, AV.junk, AV.junk, AV.sl false (Ref.mk (2) (0) (0) (0)) false (0) Cap.own,
  AV.int IntKind.i64 false (sumI (List.take (Int.toNat (0 : Int)) ws)), AV.int IntKind.i64 false (0 : Int), AV.junk, AV.junk, AV.junk, AV.junk, AV.junk, AV.junk, AV.junk, AV.junk, AV.junk, AV.junk, AV.junk, AV.junk,
  AV.junk, AV.junk, AV.junk, AV.junk, AV.junk, AV.junk, AV.junk, AV.junk, AV.junk, AV.junk, AV.junk, AV.junk, AV.junk, AV.junk, AV.junk, AV.junk, AV.junk, AV.junk, AV.junk, AV.junk, AV.junk, AV.junk, AV.junk, AV.junk,
  AV.junk, AV.junk, AV.junk, AV.junk, AV.junk, AV.junk, AV.junk, AV.junk, AV.junk, AV.junk, AV.junk, AV.junk, AV.junk, AV.junk, AV.junk, AV.junk, AV.junk, AV.junk, AV.junk, AV.junk, AV.junk, AV.junk, AV.junk, AV.junk,
  AV.junk, AV.junk, AV.junk, AV.junk, AV.junk, AV.junk, AV.junk, AV.junk, AV.junk, AV.junk, AV.junk, AV.junk]
  [some (Blk.mk (3) false false true (Data.ints IntKind.i64 ws)), some (Blk.mk (3) false false true (Data.ints IntKind.i64 l)),
  some (Blk.mk (3) true false true (Data.ints IntKind.i64 (splitF l 0 (List.take (Int.toNat (0 : Int)) ws))))]))
  (Tree.chk (okrsplit_1 (Xrsplit_1.mk zws ws zl l (Int.toNat (0 : Int))))
  (Tree.ret
  (AV.tup [AV.sl false (Ref.mk (2) (0) (0) (0)) false (List.length (splitF l 0 ws)) Cap.own, AV.int IntKind.i64 true (0 : Int)],
  [some (Blk.mk (3) false false true (Data.ints IntKind.i64 ws)), some (Blk.mk (3) false false true (Data.ints IntKind.i64 l)),
  some (Blk.mk (3) true false true (Data.ints IntKind.i64 (splitF l 0 ws)))])))))))))) : Tree (AV × Mem)).GivesP (.tup [.sl (decide (splitE ws l ≠ 0)) ⟨2, 0, 0, 0⟩ false (splitL ws l).length .own, .int .i64 false (splitE ws l)]) ([some ⟨3, false, false, true, .ints .i64 ws⟩, some ⟨3, false, false, true, .ints .i64 l⟩, some (⟨3, true, decide (splitE ws l ≠ 0), true, .ints .i64 (splitL ws l)⟩)]) := by
  obtain ⟨hs, hs2, hzw, hzl⟩ := hw
  simp only [List.take_length, List.drop_zero]
  refine Tree.GivesP.chk (by first | (simp only [and_self]; done) | (exact ⟨⟨by omega, trivial⟩, hs, hzw⟩)) ?_
  refine Tree.GivesP.br (fun h1 => ?_) (fun h1 => ?_)
  · (try simp only [decide_eq_true_eq, decide_eq_false_iff_not, Bool.not_eq_true', Bool.not_eq_false', beq_iff_eq, beq_eq_false_iff_ne, Int.not_lt, Int.not_le, ge_iff_le, gt_iff_lt, ne_eq, Bool.false_eq_true, Bool.true_eq_false, not_true_eq_false, not_false_eq_true, Bool.and_eq_true, Bool.not_eq_eq_eq_not, Bool.not_true, Bool.not_false, bne_iff_ne, bne_eq_false_iff_eq, Int.toNat_natCast, Nat.mul_one, Nat.add_zero, Nat.zero_add, List.take_length, List.drop_zero] at h1)
    all_goals
      refine Tree.GivesP.ret ?_ ?_
      · have e := split_may (l := l) h1
        simp [AV.le, AV.leL, Cap.le, e.1, e.2] <;> first | assumption | exact pl.symm
      · have e := split_may (l := l) h1
        simp [Mem.leP, Blk.le, Blk.pad, Data.le, Data.size, AV.le, AV.leL, e.1, e.2] <;> first | assumption | (cases decide (outTo ws vs ws.length = []) <;> rfl)
  · (try simp only [decide_eq_true_eq, decide_eq_false_iff_not, Bool.not_eq_true', Bool.not_eq_false', beq_iff_eq, beq_eq_false_iff_ne, Int.not_lt, Int.not_le, ge_iff_le, gt_iff_lt, ne_eq, Bool.false_eq_true, Bool.true_eq_false, not_true_eq_false, not_false_eq_true, Bool.and_eq_true, Bool.not_eq_eq_eq_not, Bool.not_true, Bool.not_false, bne_iff_ne, bne_eq_false_iff_eq, Int.toNat_natCast, Nat.mul_one, Nat.add_zero, Nat.zero_add, List.take_length, List.drop_zero] at h1)
    all_goals
      refine Tree.GivesP.chk (by first | (simp only [and_self]; done) | (exact ⟨⟨by omega, trivial⟩, by have := (may_ok h1).1; omega, hzw⟩)) ?_
      refine Tree.GivesP.chk (by first | (simp only [and_self]; done) | (constructor <;> simp only [hdrsplit_0, Int.toNat_zero, Int.cast_ofNat_Int, AV.leL, AV.le, Mem.le, Mem.leP, Blk.le, Blk.pad, Data.le, Data.size, Cap.le, and_true, true_and, and_self, true_implies, implies_true, imp_self, List.length_nil] <;> (try simp only [List.take_zero]) <;> (try rfl) <;> (try (repeat' with_reducible refine And.intro ?_ ?_)) <;> rfl)) ?_
      refine Tree.GivesP.chk (by first | (simp only [and_self]; done) | (exact ⟨h1, hs2, hzw, hzl, Nat.zero_le _, by have := size_small h1; simp; omega, rfl⟩)) ?_
      refine Tree.GivesP.br (fun h2 => ?_) (fun h2 => ?_)
      · (try simp only [decide_eq_true_eq, decide_eq_false_iff_not, Bool.not_eq_true', Bool.not_eq_false', beq_iff_eq, beq_eq_false_iff_ne, Int.not_lt, Int.not_le, ge_iff_le, gt_iff_lt, ne_eq, Bool.false_eq_true, Bool.true_eq_false, not_true_eq_false, not_false_eq_true, Bool.and_eq_true, Bool.not_eq_eq_eq_not, Bool.not_true, Bool.not_false, bne_iff_ne, bne_eq_false_iff_eq, Int.toNat_natCast, Nat.mul_one, Nat.add_zero, Nat.zero_add, List.take_length, List.drop_zero] at h2)
        all_goals
          refine Tree.GivesP.ret ?_ ?_
          · have e := split_look (l := l) h1 (by unfold lookZ; rw [if_pos h2]; decide)
            have k : lookZ (sizeZ ws) l = 2 := by unfold lookZ; rw [if_pos h2]
            rw [k] at e
            simp [AV.le, AV.leL, Cap.le, e.1, e.2] <;> first | assumption | exact pl.symm
          · have e := split_look (l := l) h1 (by unfold lookZ; rw [if_pos h2]; decide)
            have k : lookZ (sizeZ ws) l = 2 := by unfold lookZ; rw [if_pos h2]
            rw [k] at e
            simp [Mem.leP, Blk.le, Blk.pad, Data.le, Data.size, AV.le, AV.leL, e.1, e.2] <;> first | assumption | (cases decide (outTo ws vs ws.length = []) <;> rfl)
      · (try simp only [decide_eq_true_eq, decide_eq_false_iff_not, Bool.not_eq_true', Bool.not_eq_false', beq_iff_eq, beq_eq_false_iff_ne, Int.not_lt, Int.not_le, ge_iff_le, gt_iff_lt, ne_eq, Bool.false_eq_true, Bool.true_eq_false, not_true_eq_false, not_false_eq_true, Bool.and_eq_true, Bool.not_eq_eq_eq_not, Bool.not_true, Bool.not_false, bne_iff_ne, bne_eq_false_iff_eq, Int.toNat_natCast, Nat.mul_one, Nat.add_zero, Nat.zero_add, List.take_length, List.drop_zero] at h2)
        all_goals
          refine Tree.GivesP.br (fun h3 => ?_) (fun h3 => ?_)
          · (try simp only [decide_eq_true_eq, decide_eq_false_iff_not, Bool.not_eq_true', Bool.not_eq_false', beq_iff_eq, beq_eq_false_iff_ne, Int.not_lt, Int.not_le, ge_iff_le, gt_iff_lt, ne_eq, Bool.false_eq_true, Bool.true_eq_false, not_true_eq_false, not_false_eq_true, Bool.and_eq_true, Bool.not_eq_eq_eq_not, Bool.not_true, Bool.not_false, bne_iff_ne, bne_eq_false_iff_eq, Int.toNat_natCast, Nat.mul_one, Nat.add_zero, Nat.zero_add, List.take_length, List.drop_zero] at h3)
            all_goals
              refine Tree.GivesP.ret ?_ ?_
              · have e := split_look (l := l) h1 (by unfold lookZ; rw [h2, if_neg (by decide), if_pos h3]; decide)
                have k : lookZ (sizeZ ws) l = 7 := by unfold lookZ; rw [h2, if_neg (by decide), if_pos h3]
                rw [k] at e
                simp [AV.le, AV.leL, Cap.le, e.1, e.2] <;> first | assumption | exact pl.symm
              · have e := split_look (l := l) h1 (by unfold lookZ; rw [h2, if_neg (by decide), if_pos h3]; decide)
                have k : lookZ (sizeZ ws) l = 7 := by unfold lookZ; rw [h2, if_neg (by decide), if_pos h3]
                rw [k] at e
                simp [Mem.leP, Blk.le, Blk.pad, Data.le, Data.size, AV.le, AV.leL, e.1, e.2] <;> first | assumption | (cases decide (outTo ws vs ws.length = []) <;> rfl)
          · (try simp only [decide_eq_true_eq, decide_eq_false_iff_not, Bool.not_eq_true', Bool.not_eq_false', beq_iff_eq, beq_eq_false_iff_ne, Int.not_lt, Int.not_le, ge_iff_le, gt_iff_lt, ne_eq, Bool.false_eq_true, Bool.true_eq_false, not_true_eq_false, not_false_eq_true, Bool.and_eq_true, Bool.not_eq_eq_eq_not, Bool.not_true, Bool.not_false, bne_iff_ne, bne_eq_false_iff_eq, Int.toNat_natCast, Nat.mul_one, Nat.add_zero, Nat.zero_add, List.take_length, List.drop_zero] at h3)
            all_goals
              refine Tree.GivesP.chk (by first | (simp only [and_self]; done) | (constructor <;> simp only [hdrsplit_1, Int.toNat_zero, Int.cast_ofNat_Int, AV.leL, AV.le, Mem.le, Mem.leP, Blk.le, Blk.pad, Data.le, Data.size, Cap.le, and_true, true_and, and_self, true_implies, implies_true, imp_self, List.length_nil] <;> (try simp only [List.take_zero]) <;> (try rfl) <;> (try (repeat' with_reducible refine And.intro ?_ ?_)) <;> rfl)) ?_
              refine Tree.GivesP.chk (by first | (simp only [and_self]; done) | (have h2' : (l.take (sizeZ ws).toNat).any badW = false := (by simpa using h2); exact ⟨⟨h1, hs2, hzw, hzl, by unfold lookZ; rw [h2', if_neg (by decide), if_neg (by omega)]⟩, Nat.zero_le _⟩)) ?_
              refine Tree.GivesP.ret ?_ ?_
              · have e := split_good (l := l) h1 (by unfold lookZ; rw [h2, if_neg (by decide), if_neg (by omega)])
                simp [AV.le, AV.leL, Cap.le, e.1, e.2] <;> first | assumption | exact pl.symm
              · have e := split_good (l := l) h1 (by unfold lookZ; rw [h2, if_neg (by decide), if_neg (by omega)])
                simp [Mem.leP, Blk.le, Blk.pad, Data.le, Data.size, AV.le, AV.leL, e.1, e.2] <;> first | assumption | (cases decide (outTo ws vs ws.length = []) <;> rfl)
theorem srsplit (hall : AllOk Try.prog 0 (fun _ => none) tab23) (zws : Bool) (ws : List Int) (zl : Bool) (l : List Int) (hw : short ws ∧ short l ∧ (zws = true → ws = []) ∧ (zl = true → l = [])) : SoundAt (mkC Try.prog 0 (fun _ => none) []) 22 [.sl zws ⟨0, 0, 0, 0⟩ false ws.length .any, .sl zl ⟨1, 0, 0, 0⟩ false l.length .any] [some ⟨3, false, false, true, .ints .i64 ws⟩, some ⟨3, false, false, true, .ints .i64 l⟩] (.tup [.sl (decide (splitE ws l ≠ 0)) ⟨2, 0, 0, 0⟩ false (splitL ws l).length .own, .int .i64 false (splitE ws l)], [some ⟨3, false, false, true, .ints .i64 ws⟩, some ⟨3, false, false, true, .ints .i64 l⟩, some (⟨3, true, decide (splitE ws l ≠ 0), true, .ints .i64 (splitL ws l)⟩)]) := sound_loopsP hall mix (loopsrsplit hall) (trsplit zws ws zl l) (grsplit zws ws zl l hw)
theorem Frsplit_ok (hall : AllOk Try.prog 0 (fun _ => none) tab23) : PureF Try.prog 3 22 Frsplit := by
  intro xs c v news h hc
  unfold Frsplit at h
  split at h
  · rename_i zws ws zl l
    cases h
    refine ⟨(by simp), SoundAt.flags (srsplit hall zws ws zl l hc) ?_⟩
    simp [PA.avs, AV.le, AV.leL, Cap.le]
  · cases h
end Go.Proofs.Ytnkjblmlchbfkaa.Rig

/- All24 -/
namespace Go.Proofs.Ytnkjblmlchbfkaa.Rig
open Go
theorem Flook1_okx : PureF Try.prog 3 38 Flook1 := Flook1_ok all0
theorem all1 : AllOk Try.prog 0 (fun _ => none) tab1 := ⟨pureEnt_ok Flook1_okx, all0⟩
theorem Fmay1_okx : PureF Try.prog 3 36 Fmay1 := Fmay1_ok all1
theorem all2 : AllOk Try.prog 0 (fun _ => none) tab2 := ⟨pureEnt_ok Fmay1_okx, all1⟩
theorem Fidx38_okx : PureF Try.prog 3 39 Fidx38 := Fidx38_ok all2
theorem all3 : AllOk Try.prog 0 (fun _ => none) tab3 := ⟨pureEnt_ok Fidx38_okx, all2⟩
theorem Fidx36o_okx : PureF Try.prog 3 39 Fidx36o := PureF.or Fidx38_okx (Fidx36_ok all3)
theorem all4 : AllOk Try.prog 0 (fun _ => none) tab4 := ⟨pureEnt_ok Fidx36o_okx, all3⟩
theorem Fcon38_okx : PureF Try.prog 3 37 Fcon38 := Fcon38_ok all4
theorem all5 : AllOk Try.prog 0 (fun _ => none) tab5 := ⟨pureEnt_ok Fcon38_okx, all4⟩
theorem Fcon36o_okx : PureF Try.prog 3 37 Fcon36o := PureF.or Fcon38_okx (Fcon36_ok all5)
theorem all6 : AllOk Try.prog 0 (fun _ => none) tab6 := ⟨pureEnt_ok Fcon36o_okx, all5⟩
theorem Fwords_okx : PureF Try.prog 3 35 Fwords := Fwords_ok all6
theorem all7 : AllOk Try.prog 0 (fun _ => none) tab7 := ⟨pureEnt_ok Fwords_okx, all6⟩
theorem Flook_okx : PureF Try.prog 3 34 Flook := Flook_ok all7
theorem all8 : AllOk Try.prog 0 (fun _ => none) tab8 := ⟨pureEnt_ok Flook_okx, all7⟩
theorem Fmay_okx : PureF Try.prog 3 31 Fmay := Fmay_ok all8
theorem all9 : AllOk Try.prog 0 (fun _ => none) tab9 := ⟨pureEnt_ok Fmay_okx, all8⟩
theorem Fints_okx : PureF Try.prog 3 10 Fints := Fints_ok all9
theorem all10 : AllOk Try.prog 0 (fun _ => none) tab10 := ⟨pureEnt_ok Fints_okx, all9⟩
theorem Fsame_okx : PureF Try.prog 3 13 Fsame := Fsame_ok all10
theorem all11 : AllOk Try.prog 0 (fun _ => none) tab11 := ⟨pureEnt_ok Fsame_okx, all10⟩
theorem Fall26_okx : PureF Try.prog 3 25 Fall26 := Fall26_ok all11
theorem all12 : AllOk Try.prog 0 (fun _ => none) tab12 := ⟨pureEnt_ok Fall26_okx, all11⟩
theorem Fsigned_okx : PureF Try.prog 3 9 Fsigned := Fsigned_ok all12
theorem all13 : AllOk Try.prog 0 (fun _ => none) tab13 := ⟨pureEnt_ok Fsigned_okx, all12⟩
theorem Fraw_okx : PureF Try.prog 3 29 Fraw := Fraw_ok all13
theorem all14 : AllOk Try.prog 0 (fun _ => none) tab14 := ⟨pureEnt_ok Fraw_okx, all13⟩
theorem Fget_okx : PureF Try.prog 3 15 Fget := Fget_ok all14
theorem all15 : AllOk Try.prog 0 (fun _ => none) tab15 := ⟨pureEnt_ok Fget_okx, all14⟩
theorem Fsize_okx : PureF Try.prog 3 23 Fsize := Fsize_ok all15
theorem all16 : AllOk Try.prog 0 (fun _ => none) tab16 := ⟨pureEnt_ok Fsize_okx, all15⟩
theorem Frsize_okx : PureF Try.prog 3 24 Frsize := Frsize_ok all16
theorem all17 : AllOk Try.prog 0 (fun _ => none) tab17 := ⟨pureEnt_ok Frsize_okx, all16⟩
theorem Fpower_okx : PureF Try.prog 3 33 Fpower := Fpower_ok all17
theorem all18 : AllOk Try.prog 0 (fun _ => none) tab18 := ⟨pureEnt_ok Fpower_okx, all17⟩
theorem Frmay_okx : PureF Try.prog 3 32 Frmay := Frmay_ok all18
theorem all19 : AllOk Try.prog 0 (fun _ => none) tab19 := ⟨pureEnt_ok Frmay_okx, all18⟩
theorem Fworks_okx : PureF Try.prog 3 14 Fworks := Fworks_ok all19
theorem all20 : AllOk Try.prog 0 (fun _ => none) tab20 := ⟨pureEnt_ok Fworks_okx, all19⟩
theorem Ffields_okx : PureF Try.prog 3 19 Ffields := Ffields_ok all20
theorem all21 : AllOk Try.prog 0 (fun _ => none) tab21 := ⟨pureEnt_ok Ffields_okx, all20⟩
theorem Fsplit_okx : PureF Try.prog 3 21 Fsplit := Fsplit_ok all21
theorem all22 : AllOk Try.prog 0 (fun _ => none) tab22 := ⟨pureEnt_ok Fsplit_okx, all21⟩
theorem Frfields_okx : PureF Try.prog 3 20 Frfields := Frfields_ok all22
theorem all23 : AllOk Try.prog 0 (fun _ => none) tab23 := ⟨pureEnt_ok Frfields_okx, all22⟩
theorem Frsplit_okx : PureF Try.prog 3 22 Frsplit := Frsplit_ok all23
theorem all24 : AllOk Try.prog 0 (fun _ => none) tab24 := ⟨pureEnt_ok Frsplit_okx, all23⟩
end Go.Proofs.Ytnkjblmlchbfkaa.Rig

/- QPackFields -/
namespace Go.Proofs.Ytnkjblmlchbfkaa.Rig
open Go
set_option maxRecDepth 100000 in
theorem tPackFields (zwidths : Bool) (widths : List Int) (zvalues : Bool) (values : List Int) (zwords : Bool) (words : List Int) : evBody (mkC Try.prog 0 (fun _ => none) tab24) (evCall (mkC Try.prog 0 (fun _ => none) tab24) 50) 7 [.sl zwidths ⟨0, 0, 0, 0⟩ false widths.length .any, .sl zvalues ⟨1, 0, 0, 0⟩ false values.length .any, .sl zwords ⟨2, 0, 0, 0⟩ false words.length .any] [some ⟨3, false, false, true, .ints .i64 widths⟩, some ⟨3, false, false, true, .ints .i64 values⟩, some ⟨3, false, false, true, .ints .i64 words⟩] =
  Tree.br (decide (((List.length widths) : Int) > (600 : Int)))
  (Tree.ret
  (AV.bool true true,
  [some (Blk.mk (3) false false true (Data.ints IntKind.i64 widths)), some (Blk.mk (3) false false true (Data.ints IntKind.i64 values)),
  some (Blk.mk (3) false false true (Data.ints IntKind.i64 words))]))
  (Tree.br (decide (((List.length values) : Int) > (600 : Int)))
  (Tree.ret
  (AV.bool true true,
  [some (Blk.mk (3) false false true (Data.ints IntKind.i64 widths)), some (Blk.mk (3) false false true (Data.ints IntKind.i64 values)),
  some (Blk.mk (3) false false true (Data.ints IntKind.i64 words))]))
  (Tree.br (decide (((List.length words) : Int) > (600 : Int)))
  (Tree.ret
  (AV.bool true true,
  [some (Blk.mk (3) false false true (Data.ints IntKind.i64 widths)), some (Blk.mk (3) false false true (Data.ints IntKind.i64 values)),
  some (Blk.mk (3) false false true (Data.ints IntKind.i64 words))]))
  (Tree.chk
  ((0 + List.length widths ≤ List.length widths ∧ True) ∧
  List.length (List.take (List.length widths) (List.drop (0) widths)) ≤ 1000000 ∧ (zwidths = true → List.take (List.length widths) (List.drop (0) widths) = []))
  (Tree.chk
  ((0 + List.length values ≤ List.length values ∧ True) ∧
  List.length (List.take (List.length values) (List.drop (0) values)) ≤ 1000000 ∧ (zvalues = true → List.take (List.length values) (List.drop (0) values) = []))
  (Tree.chk
  ((0 + List.length (List.take (List.length widths) (List.drop (0) widths)) ≤ List.length (List.take (List.length widths) (List.drop (0) widths)) ∧
  0 + List.length (List.take (List.length values) (List.drop (0) values)) ≤ List.length (List.take (List.length values) (List.drop (0) values)) ∧ True) ∧
  short (List.take (List.length (List.take (List.length widths) (List.drop (0) widths))) (List.drop (0) (List.take (List.length widths) (List.drop (0) widths)))) ∧
  short (List.take (List.length (List.take (List.length values) (List.drop (0) values))) (List.drop (0) (List.take (List.length values) (List.drop (0) values)))) ∧
  (false = true → List.take (List.length (List.take (List.length widths) (List.drop (0) widths))) (List.drop (0) (List.take (List.length widths) (List.drop (0) widths))) = []) ∧
  (false = true → List.take (List.length (List.take (List.length values) (List.drop (0) values))) (List.drop (0) (List.take (List.length values) (List.drop (0) values))) = []) ∧
  wf64L (List.take (List.length (List.take (List.length values) (List.drop (0) values))) (List.drop (0) (List.take (List.length values) (List.drop (0) values)))))
  (Tree.chk
  ((0 + List.length widths ≤ List.length widths ∧ 0 + List.length values ≤ List.length values ∧ True) ∧
  short (List.take (List.length widths) (List.drop (0) widths)) ∧
  short (List.take (List.length values) (List.drop (0) values)) ∧
  (zwidths = true → List.take (List.length widths) (List.drop (0) widths) = []) ∧
  (zvalues = true → List.take (List.length values) (List.drop (0) values) = []) ∧ wf64L (List.take (List.length values) (List.drop (0) values)))
  (Tree.chk
  ((0 + List.length widths ≤ List.length widths ∧ True) ∧
  List.length (List.take (List.length widths) (List.drop (0) widths)) ≤ 1000000 ∧ (zwidths = true → List.take (List.length widths) (List.drop (0) widths) = []))
  (Tree.chk
  ((0 + List.length words ≤ List.length words ∧ True) ∧
  List.length (List.take (List.length words) (List.drop (0) words)) ≤ 1000000 ∧ (zwords = true → List.take (List.length words) (List.drop (0) words) = []))
  (Tree.chk
  ((0 + List.length (List.take (List.length widths) (List.drop (0) widths)) ≤ List.length (List.take (List.length widths) (List.drop (0) widths)) ∧
  0 + List.length (List.take (List.length words) (List.drop (0) words)) ≤ List.length (List.take (List.length words) (List.drop (0) words)) ∧ True) ∧
  short (List.take (List.length (List.take (List.length widths) (List.drop (0) widths))) (List.drop (0) (List.take (List.length widths) (List.drop (0) widths)))) ∧
  short (List.take (List.length (List.take (List.length words) (List.drop (0) words))) (List.drop (0) (List.take (List.length words) (List.drop (0) words)))) ∧
  (false = true → List.take (List.length (List.take (List.length widths) (List.drop (0) widths))) (List.drop (0) (List.take (List.length widths) (List.drop (0) widths))) = []) ∧
  (false = true → List.take (List.length (List.take (List.length words) (List.drop (0) words))) (List.drop (0) (List.take (List.length words) (List.drop (0) words))) = []))
  (Tree.chk
  ((0 + List.length widths ≤ List.length widths ∧ 0 + List.length words ≤ List.length words ∧ True) ∧
  short (List.take (List.length widths) (List.drop (0) widths)) ∧
  short (List.take (List.length words) (List.drop (0) words)) ∧
  (zwidths = true → List.take (List.length widths) (List.drop (0) widths) = []) ∧ (zwords = true → List.take (List.length words) (List.drop (0) words) = []))
  (Tree.chk
  ((0 +
  List.length
  (fieldsL (List.take (List.length (List.take (List.length widths) (List.drop (0) widths))) (List.drop (0) (List.take (List.length widths) (List.drop (0) widths))))
  (List.take (List.length (List.take (List.length values) (List.drop (0) values))) (List.drop (0) (List.take (List.length values) (List.drop (0) values))))) ≤
  List.length
  (fieldsL (List.take (List.length (List.take (List.length widths) (List.drop (0) widths))) (List.drop (0) (List.take (List.length widths) (List.drop (0) widths))))
  (List.take (List.length (List.take (List.length values) (List.drop (0) values))) (List.drop (0) (List.take (List.length values) (List.drop (0) values))))) ∧
  0 + List.length (fieldsL (List.take (List.length widths) (List.drop (0) widths)) (List.take (List.length values) (List.drop (0) values))) ≤
  List.length (fieldsL (List.take (List.length widths) (List.drop (0) widths)) (List.take (List.length values) (List.drop (0) values))) ∧
  True) ∧
  short
  (List.take
  (List.length
  (fieldsL (List.take (List.length (List.take (List.length widths) (List.drop (0) widths))) (List.drop (0) (List.take (List.length widths) (List.drop (0) widths))))
  (List.take (List.length (List.take (List.length values) (List.drop (0) values))) (List.drop (0) (List.take (List.length values) (List.drop (0) values))))))
  (List.drop (0)
  (fieldsL (List.take (List.length (List.take (List.length widths) (List.drop (0) widths))) (List.drop (0) (List.take (List.length widths) (List.drop (0) widths))))
  (List.take (List.length (List.take (List.length values) (List.drop (0) values))) (List.drop (0) (List.take (List.length values) (List.drop (0) values))))))) ∧
  (decide
  (fieldsL (List.take (List.length (List.take (List.length widths) (List.drop (0) widths))) (List.drop (0) (List.take (List.length widths) (List.drop (0) widths))))
  (List.take (List.length (List.take (List.length values) (List.drop (0) values))) (List.drop (0) (List.take (List.length values) (List.drop (0) values)))) =
  []) =
  true →
  List.take
  (List.length
  (fieldsL (List.take (List.length (List.take (List.length widths) (List.drop (0) widths))) (List.drop (0) (List.take (List.length widths) (List.drop (0) widths))))
  (List.take (List.length (List.take (List.length values) (List.drop (0) values))) (List.drop (0) (List.take (List.length values) (List.drop (0) values))))))
  (List.drop (0)
  (fieldsL (List.take (List.length (List.take (List.length widths) (List.drop (0) widths))) (List.drop (0) (List.take (List.length widths) (List.drop (0) widths))))
  (List.take (List.length (List.take (List.length values) (List.drop (0) values))) (List.drop (0) (List.take (List.length values) (List.drop (0) values)))))) =
  []) ∧
  (decide (fieldsE (List.take (List.length widths) (List.drop (0) widths)) (List.take (List.length values) (List.drop (0) values)) ≠ (0 : Int)) = true →
  List.take (List.length (fieldsL (List.take (List.length widths) (List.drop (0) widths)) (List.take (List.length values) (List.drop (0) values))))
  (List.drop (0) (fieldsL (List.take (List.length widths) (List.drop (0) widths)) (List.take (List.length values) (List.drop (0) values)))) =
  []))
  (Tree.br
  (decide
  (List.take
  (List.length
  (fieldsL (List.take (List.length (List.take (List.length widths) (List.drop (0) widths))) (List.drop (0) (List.take (List.length widths) (List.drop (0) widths))))
  (List.take (List.length (List.take (List.length values) (List.drop (0) values))) (List.drop (0) (List.take (List.length values) (List.drop (0) values))))))
  (List.drop (0)
  (fieldsL (List.take (List.length (List.take (List.length widths) (List.drop (0) widths))) (List.drop (0) (List.take (List.length widths) (List.drop (0) widths))))
  (List.take (List.length (List.take (List.length values) (List.drop (0) values))) (List.drop (0) (List.take (List.length values) (List.drop (0) values)))))) =
  List.take (List.length (fieldsL (List.take (List.length widths) (List.drop (0) widths)) (List.take (List.length values) (List.drop (0) values))))
  (List.drop (0) (fieldsL (List.take (List.length widths) (List.drop (0) widths)) (List.take (List.length values) (List.drop (0) values))))))
  (Tree.br
  (fieldsE (List.take (List.length (List.take (List.length widths) (List.drop (0) widths))) (List.drop (0) (List.take (List.length widths) (List.drop (0) widths))))
  (List.take (List.length (List.take (List.length values) (List.drop (0) values))) (List.drop (0) (List.take (List.length values) (List.drop (0) values)))) ==
  fieldsE (List.take (List.length widths) (List.drop (0) widths)) (List.take (List.length values) (List.drop (0) values)))
  (Tree.chk
  ((0 +
  List.length
  (splitL (List.take (List.length (List.take (List.length widths) (List.drop (0) widths))) (List.drop (0) (List.take (List.length widths) (List.drop (0) widths))))
  (List.take (List.length (List.take (List.length words) (List.drop (0) words))) (List.drop (0) (List.take (List.length words) (List.drop (0) words))))) ≤
  List.length
  (splitL (List.take (List.length (List.take (List.length widths) (List.drop (0) widths))) (List.drop (0) (List.take (List.length widths) (List.drop (0) widths))))
  (List.take (List.length (List.take (List.length words) (List.drop (0) words))) (List.drop (0) (List.take (List.length words) (List.drop (0) words))))) ∧
  0 + List.length (splitL (List.take (List.length widths) (List.drop (0) widths)) (List.take (List.length words) (List.drop (0) words))) ≤
  List.length (splitL (List.take (List.length widths) (List.drop (0) widths)) (List.take (List.length words) (List.drop (0) words))) ∧
  True) ∧
  short
  (List.take
  (List.length
  (splitL (List.take (List.length (List.take (List.length widths) (List.drop (0) widths))) (List.drop (0) (List.take (List.length widths) (List.drop (0) widths))))
  (List.take (List.length (List.take (List.length words) (List.drop (0) words))) (List.drop (0) (List.take (List.length words) (List.drop (0) words))))))
  (List.drop (0)
  (splitL (List.take (List.length (List.take (List.length widths) (List.drop (0) widths))) (List.drop (0) (List.take (List.length widths) (List.drop (0) widths))))
  (List.take (List.length (List.take (List.length words) (List.drop (0) words))) (List.drop (0) (List.take (List.length words) (List.drop (0) words))))))) ∧
  (decide
  (splitL (List.take (List.length (List.take (List.length widths) (List.drop (0) widths))) (List.drop (0) (List.take (List.length widths) (List.drop (0) widths))))
  (List.take (List.length (List.take (List.length words) (List.drop (0) words))) (List.drop (0) (List.take (List.length words) (List.drop (0) words)))) =
  []) =
  true →
  List.take
  (List.length
  (splitL
  (List.take (List.length (List.take (List.length widths) (List.drop (0) widths))) (List.drop (0) (List.take (List.length widths) (List.drop (0) widths))))
  (List.take (List.length (List.take (List.length words) (List.drop (0) words))) (List.drop (0) (List.take (List.length words) (List.drop (0) words))))))
  (List.drop (0)
  (splitL
  (List.take (List.length (List.take (List.length widths) (List.drop (0) widths))) (List.drop (0) (List.take (List.length widths) (List.drop (0) widths))))
  (List.take (List.length (List.take (List.length words) (List.drop (0) words))) (List.drop (0) (List.take (List.length words) (List.drop (0) words)))))) =
  []) ∧
  (decide (splitE (List.take (List.length widths) (List.drop (0) widths)) (List.take (List.length words) (List.drop (0) words)) ≠ (0 : Int)) = true →
  List.take (List.length (splitL (List.take (List.length widths) (List.drop (0) widths)) (List.take (List.length words) (List.drop (0) words))))
  (List.drop (0) (splitL (List.take (List.length widths) (List.drop (0) widths)) (List.take (List.length words) (List.drop (0) words)))) =
  []))
  (Tree.br
  (decide
  (List.take
  (List.length
  (splitL (List.take (List.length (List.take (List.length widths) (List.drop (0) widths))) (List.drop (0) (List.take (List.length widths) (List.drop (0) widths))))
  (List.take (List.length (List.take (List.length words) (List.drop (0) words))) (List.drop (0) (List.take (List.length words) (List.drop (0) words))))))
  (List.drop (0)
  (splitL (List.take (List.length (List.take (List.length widths) (List.drop (0) widths))) (List.drop (0) (List.take (List.length widths) (List.drop (0) widths))))
  (List.take (List.length (List.take (List.length words) (List.drop (0) words))) (List.drop (0) (List.take (List.length words) (List.drop (0) words)))))) =
  List.take (List.length (splitL (List.take (List.length widths) (List.drop (0) widths)) (List.take (List.length words) (List.drop (0) words))))
  (List.drop (0) (splitL (List.take (List.length widths) (List.drop (0) widths)) (List.take (List.length words) (List.drop (0) words))))))
  (Tree.br
  (splitE (List.take (List.length (List.take (List.length widths) (List.drop (0) widths))) (List.drop (0) (List.take (List.length widths) (List.drop (0) widths))))
  (List.take (List.length (List.take (List.length words) (List.drop (0) words))) (List.drop (0) (List.take (List.length words) (List.drop (0) words)))) ==
  splitE (List.take (List.length widths) (List.drop (0) widths)) (List.take (List.length words) (List.drop (0) words)))
  (Tree.chk
  ((0 + List.length widths ≤ List.length widths ∧ True) ∧
  List.length (List.take (List.length widths) (List.drop (0) widths)) ≤ 1000000 ∧ (zwidths = true → List.take (List.length widths) (List.drop (0) widths) = []))
  (Tree.chk
  ((0 + List.length (List.take (List.length widths) (List.drop (0) widths)) ≤ List.length (List.take (List.length widths) (List.drop (0) widths)) ∧ True) ∧
  List.length
  (List.take (List.length (List.take (List.length widths) (List.drop (0) widths))) (List.drop (0) (List.take (List.length widths) (List.drop (0) widths)))) ≤
  1000000 ∧
  (false = true →
  List.take (List.length (List.take (List.length widths) (List.drop (0) widths))) (List.drop (0) (List.take (List.length widths) (List.drop (0) widths))) = []))
  (Tree.chk
  ((0 + List.length widths ≤ List.length widths ∧ True) ∧
  List.length (List.take (List.length widths) (List.drop (0) widths)) ≤ 1000000 ∧ (zwidths = true → List.take (List.length widths) (List.drop (0) widths) = []))
  (Tree.br
  (sizeZ
  (List.take (List.length (List.take (List.length widths) (List.drop (0) widths))) (List.drop (0) (List.take (List.length widths) (List.drop (0) widths)))) ==
  sizeZ (List.take (List.length widths) (List.drop (0) widths)))
  (Tree.chk (True ∧ True)
  (Tree.ret
  (AV.bool false true,
  [some (Blk.mk (3) false false true (Data.ints IntKind.i64 widths)), some (Blk.mk (3) false false true (Data.ints IntKind.i64 values)),
  some (Blk.mk (3) false false true (Data.ints IntKind.i64 words))])))
  (Tree.ret
  (AV.bool true false,
  [some (Blk.mk (3) false false true (Data.ints IntKind.i64 widths)), some (Blk.mk (3) false false true (Data.ints IntKind.i64 values)),
  some (Blk.mk (3) false false true (Data.ints IntKind.i64 words))]))))))
  (Tree.ret
  (AV.bool true false,
  [some (Blk.mk (3) false false true (Data.ints IntKind.i64 widths)), some (Blk.mk (3) false false true (Data.ints IntKind.i64 values)),
  some (Blk.mk (3) false false true (Data.ints IntKind.i64 words))])))
  (Tree.ret
  (AV.bool true false,
  [some (Blk.mk (3) false false true (Data.ints IntKind.i64 widths)), some (Blk.mk (3) false false true (Data.ints IntKind.i64 values)),
  some (Blk.mk (3) false false true (Data.ints IntKind.i64 words))]))))
  (Tree.ret
  (AV.bool true false,
  [some (Blk.mk (3) false false true (Data.ints IntKind.i64 widths)), some (Blk.mk (3) false false true (Data.ints IntKind.i64 values)),
  some (Blk.mk (3) false false true (Data.ints IntKind.i64 words))])))
  (Tree.ret
  (AV.bool true false,
  [some (Blk.mk (3) false false true (Data.ints IntKind.i64 widths)), some (Blk.mk (3) false false true (Data.ints IntKind.i64 values)),
  some (Blk.mk (3) false false true (Data.ints IntKind.i64 words))])))))))))))))) := by kernel_rfl
set_option maxRecDepth 100000 in
theorem gPackFields (zwidths : Bool) (widths : List Int) (zvalues : Bool) (values : List Int) (zwords : Bool) (words : List Int) (hw : widths.length ≤ 9223372036854775807 ∧ (zwidths = true → widths = []) ∧ values.length ≤ 9223372036854775807 ∧ (zvalues = true → values = []) ∧ words.length ≤ 9223372036854775807 ∧ (zwords = true → words = []) ∧ wf64L values ∧ wf64L words ∧ wf64L widths) : (Tree.br (decide (((List.length widths) : Int) > (600 : Int)))
  (Tree.ret
  (AV.bool true true,
  [some (Blk.mk (3) false false true (Data.ints IntKind.i64 widths)), some (Blk.mk (3) false false true (Data.ints IntKind.i64 values)),
  some (Blk.mk (3) false false true (Data.ints IntKind.i64 words))]))
  (Tree.br (decide (((List.length values) : Int) > (600 : Int)))
  (Tree.ret
  (AV.bool true true,
  [some (Blk.mk (3) false false true (Data.ints IntKind.i64 widths)), some (Blk.mk (3) false false true (Data.ints IntKind.i64 values)),
  some (Blk.mk (3) false false true (Data.ints IntKind.i64 words))]))
  (Tree.br (decide (((List.length words) : Int) > (600 : Int)))
  (Tree.ret
  (AV.bool true true,
  [some (Blk.mk (3) false false true (Data.ints IntKind.i64 widths)), some (Blk.mk (3) false false true (Data.ints IntKind.i64 values)),
  some (Blk.mk (3) false false true (Data.ints IntKind.i64 words))]))
  (Tree.chk
  ((0 + List.length widths ≤ List.length widths ∧ True) ∧
  List.length (List.take (List.length widths) (List.drop (0) widths)) ≤ 1000000 ∧ (zwidths = true → List.take (List.length widths) (List.drop (0) widths) = []))
  (Tree.chk
  ((0 + List.length values ≤ List.length values ∧ True) ∧
  List.length (List.take (List.length values) (List.drop (0) values)) ≤ 1000000 ∧ (zvalues = true → List.take (List.length values) (List.drop (0) values) = []))
  (Tree.chk
  ((0 + List.length (List.take (List.length widths) (List.drop (0) widths)) ≤ List.length (List.take (List.length widths) (List.drop (0) widths)) ∧
  0 + List.length (List.take (List.length values) (List.drop (0) values)) ≤ List.length (List.take (List.length values) (List.drop (0) values)) ∧ True) ∧
  short (List.take (List.length (List.take (List.length widths) (List.drop (0) widths))) (List.drop (0) (List.take (List.length widths) (List.drop (0) widths)))) ∧
  short (List.take (List.length (List.take (List.length values) (List.drop (0) values))) (List.drop (0) (List.take (List.length values) (List.drop (0) values)))) ∧
  (false = true → List.take (List.length (List.take (List.length widths) (List.drop (0) widths))) (List.drop (0) (List.take (List.length widths) (List.drop (0) widths))) = []) ∧
  (false = true → List.take (List.length (List.take (List.length values) (List.drop (0) values))) (List.drop (0) (List.take (List.length values) (List.drop (0) values))) = []) ∧
  wf64L (List.take (List.length (List.take (List.length values) (List.drop (0) values))) (List.drop (0) (List.take (List.length values) (List.drop (0) values)))))
  (Tree.chk
  ((0 + List.length widths ≤ List.length widths ∧ 0 + List.length values ≤ List.length values ∧ True) ∧
  short (List.take (List.length widths) (List.drop (0) widths)) ∧
  short (List.take (List.length values) (List.drop (0) values)) ∧
  (zwidths = true → List.take (List.length widths) (List.drop (0) widths) = []) ∧
  (zvalues = true → List.take (List.length values) (List.drop (0) values) = []) ∧ wf64L (List.take (List.length values) (List.drop (0) values)))
  (Tree.chk
  ((0 + List.length widths ≤ List.length widths ∧ True) ∧
  List.length (List.take (List.length widths) (List.drop (0) widths)) ≤ 1000000 ∧ (zwidths = true → List.take (List.length widths) (List.drop (0) widths) = []))
  (Tree.chk
  ((0 + List.length words ≤ List.length words ∧ True) ∧
  List.length (List.take (List.length words) (List.drop (0) words)) ≤ 1000000 ∧ (zwords = true → List.take (List.length words) (List.drop (0) words) = []))
  (Tree.chk
  ((0 + List.length (List.take (List.length widths) (List.drop (0) widths)) ≤ List.length (List.take (List.length widths) (List.drop (0) widths)) ∧
  0 + List.length (List.take (List.length words) (List.drop (0) words)) ≤ List.length (List.take (List.length words) (List.drop (0) words)) ∧ True) ∧
  short (List.take (List.length (List.take (List.length widths) (List.drop (0) widths))) (List.drop (0) (List.take (List.length widths) (List.drop (0) widths)))) ∧
  short (List.take (List.length (List.take (List.length words) (List.drop (0) words))) (List.drop (0) (List.take (List.length words) (List.drop (0) words)))) ∧
  (false = true → List.take (List.length (List.take (List.length widths) (List.drop (0) widths))) (List.drop (0) (List.take (List.length widths) (List.drop (0) widths))) = []) ∧
  (false = true → List.take (List.length (List.take (List.length words) (List.drop (0) words))) (List.drop (0) (List.take (List.length words) (List.drop (0) words))) = []))
  (Tree.chk
  ((0 + List.length widths ≤ List.length widths ∧ 0 + List.length words ≤ List.length words ∧ True) ∧
  short (List.take (List.length widths) (List.drop (0) widths)) ∧
  short (List.take (List.length words) (List.drop (0) words)) ∧
  (zwidths = true → List.take (List.length widths) (List.drop (0) widths) = []) ∧ (zwords = true → List.take (List.length words) (List.drop (0) words) = []))
  (Tree.chk
  ((0 +
  List.length
  (fieldsL (List.take (List.length (List.take (List.length widths) (List.drop (0) widths))) (List.drop (0) (List.take (List.length widths) (List.drop (0) widths))))
  (List.take (List.length (List.take (List.length values) (List.drop (0) values))) (List.drop (0) (List.take (List.length values) (List.drop (0) values))))) ≤
  List.length
  (fieldsL (List.take (List.length (List.take (List.length widths) (List.drop (0) widths))) (List.drop (0) (List.take (List.length widths) (List.drop (0) widths))))
  (List.take (List.length (List.take (List.length values) (List.drop (0) values))) (List.drop (0) (List.take (List.length values) (List.drop (0) values))))) ∧
  0 + List.length (fieldsL (List.take (List.length widths) (List.drop (0) widths)) (List.take (List.length values) (List.drop (0) values))) ≤
  List.length (fieldsL (List.take (List.length widths) (List.drop (0) widths)) (List.take (List.length values) (List.drop (0) values))) ∧
  True) ∧
  short
  (List.take
  (List.length
  (fieldsL (List.take (List.length (List.take (List.length widths) (List.drop (0) widths))) (List.drop (0) (List.take (List.length widths) (List.drop (0) widths))))
  (List.take (List.length (List.take (List.length values) (List.drop (0) values))) (List.drop (0) (List.take (List.length values) (List.drop (0) values))))))
  (List.drop (0)
  (fieldsL (List.take (List.length (List.take (List.length widths) (List.drop (0) widths))) (List.drop (0) (List.take (List.length widths) (List.drop (0) widths))))
  (List.take (List.length (List.take (List.length values) (List.drop (0) values))) (List.drop (0) (List.take (List.length values) (List.drop (0) values))))))) ∧
  (decide
  (fieldsL (List.take (List.length (List.take (List.length widths) (List.drop (0) widths))) (List.drop (0) (List.take (List.length widths) (List.drop (0) widths))))
  (List.take (List.length (List.take (List.length values) (List.drop (0) values))) (List.drop (0) (List.take (List.length values) (List.drop (0) values)))) =
  []) =
  true →
  List.take
  (List.length
  (fieldsL (List.take (List.length (List.take (List.length widths) (List.drop (0) widths))) (List.drop (0) (List.take (List.length widths) (List.drop (0) widths))))
  (List.take (List.length (List.take (List.length values) (List.drop (0) values))) (List.drop (0) (List.take (List.length values) (List.drop (0) values))))))
  (List.drop (0)
  (fieldsL (List.take (List.length (List.take (List.length widths) (List.drop (0) widths))) (List.drop (0) (List.take (List.length widths) (List.drop (0) widths))))
  (List.take (List.length (List.take (List.length values) (List.drop (0) values))) (List.drop (0) (List.take (List.length values) (List.drop (0) values)))))) =
  []) ∧
  (decide (fieldsE (List.take (List.length widths) (List.drop (0) widths)) (List.take (List.length values) (List.drop (0) values)) ≠ (0 : Int)) = true →
  List.take (List.length (fieldsL (List.take (List.length widths) (List.drop (0) widths)) (List.take (List.length values) (List.drop (0) values))))
  (List.drop (0) (fieldsL (List.take (List.length widths) (List.drop (0) widths)) (List.take (List.length values) (List.drop (0) values)))) =
  []))
  (Tree.br
  (decide
  (List.take
  (List.length
  (fieldsL (List.take (List.length (List.take (List.length widths) (List.drop (0) widths))) (List.drop (0) (List.take (List.length widths) (List.drop (0) widths))))
  (List.take (List.length (List.take (List.length values) (List.drop (0) values))) (List.drop (0) (List.take (List.length values) (List.drop (0) values))))))
  (List.drop (0)
  (fieldsL (List.take (List.length (List.take (List.length widths) (List.drop (0) widths))) (List.drop (0) (List.take (List.length widths) (List.drop (0) widths))))
  (List.take (List.length (List.take (List.length values) (List.drop (0) values))) (List.drop (0) (List.take (List.length values) (List.drop (0) values)))))) =
  List.take (List.length (fieldsL (List.take (List.length widths) (List.drop (0) widths)) (List.take (List.length values) (List.drop (0) values))))
  (List.drop (0) (fieldsL (List.take (List.length widths) (List.drop (0) widths)) (List.take (List.length values) (List.drop (0) values))))))
  (Tree.br
  (fieldsE (List.take (List.length (List.take (List.length widths) (List.drop (0) widths))) (List.drop (0) (List.take (List.length widths) (List.drop (0) widths))))
  (List.take (List.length (List.take (List.length values) (List.drop (0) values))) (List.drop (0) (List.take (List.length values) (List.drop (0) values)))) ==
  fieldsE (List.take (List.length widths) (List.drop (0) widths)) (List.take (List.length values) (List.drop (0) values)))
  (Tree.chk
  ((0 +
  List.length
  (splitL (List.take (List.length (List.take (List.length widths) (List.drop (0) widths))) (List.drop (0) (List.take (List.length widths) (List.drop (0) widths))))
  (List.take (List.length (List.take (List.length words) (List.drop (0) words))) (List.drop (0) (List.take (List.length words) (List.drop (0) words))))) ≤
  List.length
  (splitL (List.take (List.length (List.take (List.length widths) (List.drop (0) widths))) (List.drop (0) (List.take (List.length widths) (List.drop (0) widths))))
  (List.take (List.length (List.take (List.length words) (List.drop (0) words))) (List.drop (0) (List.take (List.length words) (List.drop (0) words))))) ∧
  0 + List.length (splitL (List.take (List.length widths) (List.drop (0) widths)) (List.take (List.length words) (List.drop (0) words))) ≤
  List.length (splitL (List.take (List.length widths) (List.drop (0) widths)) (List.take (List.length words) (List.drop (0) words))) ∧
  True) ∧
  short
  (List.take
  (List.length
  (splitL (List.take (List.length (List.take (List.length widths) (List.drop (0) widths))) (List.drop (0) (List.take (List.length widths) (List.drop (0) widths))))
  (List.take (List.length (List.take (List.length words) (List.drop (0) words))) (List.drop (0) (List.take (List.length words) (List.drop (0) words))))))
  (List.drop (0)
  (splitL (List.take (List.length (List.take (List.length widths) (List.drop (0) widths))) (List.drop (0) (List.take (List.length widths) (List.drop (0) widths))))
  (List.take (List.length (List.take (List.length words) (List.drop (0) words))) (List.drop (0) (List.take (List.length words) (List.drop (0) words))))))) ∧
  (decide
  (splitL (List.take (List.length (List.take (List.length widths) (List.drop (0) widths))) (List.drop (0) (List.take (List.length widths) (List.drop (0) widths))))
  (List.take (List.length (List.take (List.length words) (List.drop (0) words))) (List.drop (0) (List.take (List.length words) (List.drop (0) words)))) =
  []) =
  true →
  List.take
  (List.length
  (splitL
  (List.take (List.length (List.take (List.length widths) (List.drop (0) widths))) (List.drop (0) (List.take (List.length widths) (List.drop (0) widths))))
  (List.take (List.length (List.take (List.length words) (List.drop (0) words))) (List.drop (0) (List.take (List.length words) (List.drop (0) words))))))
  (List.drop (0)
  (splitL
  (List.take (List.length (List.take (List.length widths) (List.drop (0) widths))) (List.drop (0) (List.take (List.length widths) (List.drop (0) widths))))
  (List.take (List.length (List.take (List.length words) (List.drop (0) words))) (List.drop (0) (List.take (List.length words) (List.drop (0) words)))))) =
  []) ∧
  (decide (splitE (List.take (List.length widths) (List.drop (0) widths)) (List.take (List.length words) (List.drop (0) words)) ≠ (0 : Int)) = true →
  List.take (List.length (splitL (List.take (List.length widths) (List.drop (0) widths)) (List.take (List.length words) (List.drop (0) words))))
  (List.drop (0) (splitL (List.take (List.length widths) (List.drop (0) widths)) (List.take (List.length words) (List.drop (0) words)))) =
  []))
  (Tree.br
  (decide
  (List.take
  (List.length
  (splitL (List.take (List.length (List.take (List.length widths) (List.drop (0) widths))) (List.drop (0) (List.take (List.length widths) (List.drop (0) widths))))
  (List.take (List.length (List.take (List.length words) (List.drop (0) words))) (List.drop (0) (List.take (List.length words) (List.drop (0) words))))))
  (List.drop (0)
  (splitL (List.take (List.length (List.take (List.length widths) (List.drop (0) widths))) (List.drop (0) (List.take (List.length widths) (List.drop (0) widths))))
  (List.take (List.length (List.take (List.length words) (List.drop (0) words))) (List.drop (0) (List.take (List.length words) (List.drop (0) words)))))) =
  List.take (List.length (splitL (List.take (List.length widths) (List.drop (0) widths)) (List.take (List.length words) (List.drop (0) words))))
  (List.drop (0) (splitL (List.take (List.length widths) (List.drop (0) widths)) (List.take (List.length words) (List.drop (0) words))))))
  (Tree.br
  (splitE (List.take (List.length (List.take (List.length widths) (List.drop (0) widths))) (List.drop (0) (List.take (List.length widths) (List.drop (0) widths))))
  (List.take (List.length (List.take (List.length words) (List.drop (0) words))) (List.drop (0) (List.take (List.length words) (List.drop (0) words)))) ==
  splitE (List.take (List.length widths) (List.drop (0) widths)) (List.take (List.length words) (List.drop (0) words)))
  (Tree.chk
  ((0 + List.length widths ≤ List.length widths ∧ True) ∧
  List.length (List.take (List.length widths) (List.drop (0) widths)) ≤ 1000000 ∧ (zwidths = true → List.take (List.length widths) (List.drop (0) widths) = []))
  (Tree.chk
  ((0 + List.length (List.take (List.length widths) (List.drop (0) widths)) ≤ List.length (List.take (List.length widths) (List.drop (0) widths)) ∧ True) ∧
  List.length
  (List.take (List.length (List.take (List.length widths) (List.drop (0) widths))) (List.drop (0) (List.take (List.length widths) (List.drop (0) widths)))) ≤
  1000000 ∧
  (false = true →
  List.take (List.length (List.take (List.length widths) (List.drop (0) widths))) (List.drop (0) (List.take (List.length widths) (List.drop (0) widths))) = []))
  (Tree.chk
  ((0 + List.length widths ≤ List.length widths ∧ True) ∧
  List.length (List.take (List.length widths) (List.drop (0) widths)) ≤ 1000000 ∧ (zwidths = true → List.take (List.length widths) (List.drop (0) widths) = []))
  (Tree.br
  (sizeZ
  (List.take (List.length (List.take (List.length widths) (List.drop (0) widths))) (List.drop (0) (List.take (List.length widths) (List.drop (0) widths)))) ==
  sizeZ (List.take (List.length widths) (List.drop (0) widths)))
  (Tree.chk (True ∧ True)
  (Tree.ret
  (AV.bool false true,
  [some (Blk.mk (3) false false true (Data.ints IntKind.i64 widths)), some (Blk.mk (3) false false true (Data.ints IntKind.i64 values)),
  some (Blk.mk (3) false false true (Data.ints IntKind.i64 words))])))
  (Tree.ret
  (AV.bool true false,
  [some (Blk.mk (3) false false true (Data.ints IntKind.i64 widths)), some (Blk.mk (3) false false true (Data.ints IntKind.i64 values)),
  some (Blk.mk (3) false false true (Data.ints IntKind.i64 words))]))))))
  (Tree.ret
  (AV.bool true false,
  [some (Blk.mk (3) false false true (Data.ints IntKind.i64 widths)), some (Blk.mk (3) false false true (Data.ints IntKind.i64 values)),
  some (Blk.mk (3) false false true (Data.ints IntKind.i64 words))])))
  (Tree.ret
  (AV.bool true false,
  [some (Blk.mk (3) false false true (Data.ints IntKind.i64 widths)), some (Blk.mk (3) false false true (Data.ints IntKind.i64 values)),
  some (Blk.mk (3) false false true (Data.ints IntKind.i64 words))]))))
  (Tree.ret
  (AV.bool true false,
  [some (Blk.mk (3) false false true (Data.ints IntKind.i64 widths)), some (Blk.mk (3) false false true (Data.ints IntKind.i64 values)),
  some (Blk.mk (3) false false true (Data.ints IntKind.i64 words))])))
  (Tree.ret
  (AV.bool true false,
  [some (Blk.mk (3) false false true (Data.ints IntKind.i64 widths)), some (Blk.mk (3) false false true (Data.ints IntKind.i64 values)),
  some (Blk.mk (3) false false true (Data.ints IntKind.i64 words))])))))))))))))) : Tree (AV × Mem)).GivesP (.bool false true) ([some ⟨3, false, false, true, .ints .i64 widths⟩, some ⟨3, false, false, true, .ints .i64 values⟩, some ⟨3, false, false, true, .ints .i64 words⟩]) := by
  obtain ⟨l1, z1, l2, z2, l3, z3, wv, ww, wd⟩ := hw
  have fl := fieldsL_len widths values
  have sl := splitL_len widths words
  have fl2 := fl.2
  have sl2 := sl.2
  simp only [List.take_length, List.drop_zero]
  refine Tree.GivesP.br (fun h1 => ?_) (fun h1 => ?_)
  · (try simp only [decide_eq_true_eq, decide_eq_false_iff_not, Bool.not_eq_true', Bool.not_eq_false', beq_iff_eq, beq_eq_false_iff_ne, Int.not_lt, Int.not_le, ge_iff_le, gt_iff_lt, ne_eq, Bool.false_eq_true, Bool.true_eq_false, not_true_eq_false, not_false_eq_true, Bool.and_eq_true, Bool.not_eq_eq_eq_not, Bool.not_true, Bool.not_false, bne_iff_ne, bne_eq_false_iff_eq, Int.toNat_natCast, Nat.mul_one, Nat.add_zero, Nat.zero_add, List.take_length, List.drop_zero] at h1)
    all_goals
      refine Tree.GivesP.ret ?_ ?_
      · first | (simp only [AV.le]; done) | (exfalso; simp_all; done) | (simp_all [AV.le]; done)
      · simp only [AV.leL, AV.le, Mem.le, Mem.leP, Blk.le, Blk.pad, Data.le, Data.size, Cap.le, and_true, true_and, and_self, true_implies, implies_true, imp_self, List.length_nil]
  · (try simp only [decide_eq_true_eq, decide_eq_false_iff_not, Bool.not_eq_true', Bool.not_eq_false', beq_iff_eq, beq_eq_false_iff_ne, Int.not_lt, Int.not_le, ge_iff_le, gt_iff_lt, ne_eq, Bool.false_eq_true, Bool.true_eq_false, not_true_eq_false, not_false_eq_true, Bool.and_eq_true, Bool.not_eq_eq_eq_not, Bool.not_true, Bool.not_false, bne_iff_ne, bne_eq_false_iff_eq, Int.toNat_natCast, Nat.mul_one, Nat.add_zero, Nat.zero_add, List.take_length, List.drop_zero] at h1)
    all_goals
      refine Tree.GivesP.br (fun h2 => ?_) (fun h2 => ?_)
      · (try simp only [decide_eq_true_eq, decide_eq_false_iff_not, Bool.not_eq_true', Bool.not_eq_false', beq_iff_eq, beq_eq_false_iff_ne, Int.not_lt, Int.not_le, ge_iff_le, gt_iff_lt, ne_eq, Bool.false_eq_true, Bool.true_eq_false, not_true_eq_false, not_false_eq_true, Bool.and_eq_true, Bool.not_eq_eq_eq_not, Bool.not_true, Bool.not_false, bne_iff_ne, bne_eq_false_iff_eq, Int.toNat_natCast, Nat.mul_one, Nat.add_zero, Nat.zero_add, List.take_length, List.drop_zero] at h2)
        all_goals
          refine Tree.GivesP.ret ?_ ?_
          · first | (simp only [AV.le]; done) | (exfalso; simp_all; done) | (simp_all [AV.le]; done)
          · simp only [AV.leL, AV.le, Mem.le, Mem.leP, Blk.le, Blk.pad, Data.le, Data.size, Cap.le, and_true, true_and, and_self, true_implies, implies_true, imp_self, List.length_nil]
      · (try simp only [decide_eq_true_eq, decide_eq_false_iff_not, Bool.not_eq_true', Bool.not_eq_false', beq_iff_eq, beq_eq_false_iff_ne, Int.not_lt, Int.not_le, ge_iff_le, gt_iff_lt, ne_eq, Bool.false_eq_true, Bool.true_eq_false, not_true_eq_false, not_false_eq_true, Bool.and_eq_true, Bool.not_eq_eq_eq_not, Bool.not_true, Bool.not_false, bne_iff_ne, bne_eq_false_iff_eq, Int.toNat_natCast, Nat.mul_one, Nat.add_zero, Nat.zero_add, List.take_length, List.drop_zero] at h2)
        all_goals
          refine Tree.GivesP.br (fun h3 => ?_) (fun h3 => ?_)
          · (try simp only [decide_eq_true_eq, decide_eq_false_iff_not, Bool.not_eq_true', Bool.not_eq_false', beq_iff_eq, beq_eq_false_iff_ne, Int.not_lt, Int.not_le, ge_iff_le, gt_iff_lt, ne_eq, Bool.false_eq_true, Bool.true_eq_false, not_true_eq_false, not_false_eq_true, Bool.and_eq_true, Bool.not_eq_eq_eq_not, Bool.not_true, Bool.not_false, bne_iff_ne, bne_eq_false_iff_eq, Int.toNat_natCast, Nat.mul_one, Nat.add_zero, Nat.zero_add, List.take_length, List.drop_zero] at h3)
            all_goals
              refine Tree.GivesP.ret ?_ ?_
              · first | (simp only [AV.le]; done) | (exfalso; simp_all; done) | (simp_all [AV.le]; done)
              · simp only [AV.leL, AV.le, Mem.le, Mem.leP, Blk.le, Blk.pad, Data.le, Data.size, Cap.le, and_true, true_and, and_self, true_implies, implies_true, imp_self, List.length_nil]
          · (try simp only [decide_eq_true_eq, decide_eq_false_iff_not, Bool.not_eq_true', Bool.not_eq_false', beq_iff_eq, beq_eq_false_iff_ne, Int.not_lt, Int.not_le, ge_iff_le, gt_iff_lt, ne_eq, Bool.false_eq_true, Bool.true_eq_false, not_true_eq_false, not_false_eq_true, Bool.and_eq_true, Bool.not_eq_eq_eq_not, Bool.not_true, Bool.not_false, bne_iff_ne, bne_eq_false_iff_eq, Int.toNat_natCast, Nat.mul_one, Nat.add_zero, Nat.zero_add, List.take_length, List.drop_zero] at h3)
            all_goals
              refine Tree.GivesP.chk (by first | (simp only [and_self]; done) | ((repeat' with_reducible refine And.intro ?_ ?_) <;> first | trivial | omega | assumption | (simp only [short]; omega) | (intro hh; first | cases hh | simpa using hh | (simp at hh; simp [hh]) | (simp at hh; exact hh) | exact fl2 (by simpa using hh) | exact sl2 (by simpa using hh)))) ?_
              refine Tree.GivesP.chk (by first | (simp only [and_self]; done) | ((repeat' with_reducible refine And.intro ?_ ?_) <;> first | trivial | omega | assumption | (simp only [short]; omega) | (intro hh; first | cases hh | simpa using hh | (simp at hh; simp [hh]) | (simp at hh; exact hh) | exact fl2 (by simpa using hh) | exact sl2 (by simpa using hh)))) ?_
              refine Tree.GivesP.chk (by first | (simp only [and_self]; done) | ((repeat' with_reducible refine And.intro ?_ ?_) <;> first | trivial | omega | assumption | (simp only [short]; omega) | (intro hh; first | cases hh | simpa using hh | (simp at hh; simp [hh]) | (simp at hh; exact hh) | exact fl2 (by simpa using hh) | exact sl2 (by simpa using hh)))) ?_
              refine Tree.GivesP.chk (by first | (simp only [and_self]; done) | ((repeat' with_reducible refine And.intro ?_ ?_) <;> first | trivial | omega | assumption | (simp only [short]; omega) | (intro hh; first | cases hh | simpa using hh | (simp at hh; simp [hh]) | (simp at hh; exact hh) | exact fl2 (by simpa using hh) | exact sl2 (by simpa using hh)))) ?_
              refine Tree.GivesP.chk (by first | (simp only [and_self]; done) | ((repeat' with_reducible refine And.intro ?_ ?_) <;> first | trivial | omega | assumption | (simp only [short]; omega) | (intro hh; first | cases hh | simpa using hh | (simp at hh; simp [hh]) | (simp at hh; exact hh) | exact fl2 (by simpa using hh) | exact sl2 (by simpa using hh)))) ?_
              refine Tree.GivesP.chk (by first | (simp only [and_self]; done) | ((repeat' with_reducible refine And.intro ?_ ?_) <;> first | trivial | omega | assumption | (simp only [short]; omega) | (intro hh; first | cases hh | simpa using hh | (simp at hh; simp [hh]) | (simp at hh; exact hh) | exact fl2 (by simpa using hh) | exact sl2 (by simpa using hh)))) ?_
              refine Tree.GivesP.chk (by first | (simp only [and_self]; done) | ((repeat' with_reducible refine And.intro ?_ ?_) <;> first | trivial | omega | assumption | (simp only [short]; omega) | (intro hh; first | cases hh | simpa using hh | (simp at hh; simp [hh]) | (simp at hh; exact hh) | exact fl2 (by simpa using hh) | exact sl2 (by simpa using hh)))) ?_
              refine Tree.GivesP.chk (by first | (simp only [and_self]; done) | ((repeat' with_reducible refine And.intro ?_ ?_) <;> first | trivial | omega | assumption | (simp only [short]; omega) | (intro hh; first | cases hh | simpa using hh | (simp at hh; simp [hh]) | (simp at hh; exact hh) | exact fl2 (by simpa using hh) | exact sl2 (by simpa using hh)))) ?_
              refine Tree.GivesP.chk (by first | (simp only [and_self]; done) | ((repeat' with_reducible refine And.intro ?_ ?_) <;> first | trivial | omega | assumption | (simp only [short]; omega) | (intro hh; first | cases hh | simpa using hh | (simp at hh; simp [hh]) | (simp at hh; exact hh) | exact fl2 (by simpa using hh) | exact sl2 (by simpa using hh)))) ?_
              refine Tree.GivesP.br (fun h4 => ?_) (fun h4 => ?_)
              · (try simp only [decide_eq_true_eq, decide_eq_false_iff_not, Bool.not_eq_true', Bool.not_eq_false', beq_iff_eq, beq_eq_false_iff_ne, Int.not_lt, Int.not_le, ge_iff_le, gt_iff_lt, ne_eq, Bool.false_eq_true, Bool.true_eq_false, not_true_eq_false, not_false_eq_true, Bool.and_eq_true, Bool.not_eq_eq_eq_not, Bool.not_true, Bool.not_false, bne_iff_ne, bne_eq_false_iff_eq, Int.toNat_natCast, Nat.mul_one, Nat.add_zero, Nat.zero_add, List.take_length, List.drop_zero] at h4)
                all_goals
                  refine Tree.GivesP.br (fun h5 => ?_) (fun h5 => ?_)
                  · (try simp only [decide_eq_true_eq, decide_eq_false_iff_not, Bool.not_eq_true', Bool.not_eq_false', beq_iff_eq, beq_eq_false_iff_ne, Int.not_lt, Int.not_le, ge_iff_le, gt_iff_lt, ne_eq, Bool.false_eq_true, Bool.true_eq_false, not_true_eq_false, not_false_eq_true, Bool.and_eq_true, Bool.not_eq_eq_eq_not, Bool.not_true, Bool.not_false, bne_iff_ne, bne_eq_false_iff_eq, Int.toNat_natCast, Nat.mul_one, Nat.add_zero, Nat.zero_add, List.take_length, List.drop_zero] at h5)
                    all_goals
                      refine Tree.GivesP.chk (by first | (simp only [and_self]; done) | ((repeat' with_reducible refine And.intro ?_ ?_) <;> first | trivial | omega | assumption | (simp only [short]; omega) | (intro hh; first | cases hh | simpa using hh | (simp at hh; simp [hh]) | (simp at hh; exact hh) | exact fl2 (by simpa using hh) | exact sl2 (by simpa using hh)))) ?_
                      refine Tree.GivesP.br (fun h6 => ?_) (fun h6 => ?_)
                      · (try simp only [decide_eq_true_eq, decide_eq_false_iff_not, Bool.not_eq_true', Bool.not_eq_false', beq_iff_eq, beq_eq_false_iff_ne, Int.not_lt, Int.not_le, ge_iff_le, gt_iff_lt, ne_eq, Bool.false_eq_true, Bool.true_eq_false, not_true_eq_false, not_false_eq_true, Bool.and_eq_true, Bool.not_eq_eq_eq_not, Bool.not_true, Bool.not_false, bne_iff_ne, bne_eq_false_iff_eq, Int.toNat_natCast, Nat.mul_one, Nat.add_zero, Nat.zero_add, List.take_length, List.drop_zero] at h6)
                        all_goals
                          refine Tree.GivesP.br (fun h7 => ?_) (fun h7 => ?_)
                          · (try simp only [decide_eq_true_eq, decide_eq_false_iff_not, Bool.not_eq_true', Bool.not_eq_false', beq_iff_eq, beq_eq_false_iff_ne, Int.not_lt, Int.not_le, ge_iff_le, gt_iff_lt, ne_eq, Bool.false_eq_true, Bool.true_eq_false, not_true_eq_false, not_false_eq_true, Bool.and_eq_true, Bool.not_eq_eq_eq_not, Bool.not_true, Bool.not_false, bne_iff_ne, bne_eq_false_iff_eq, Int.toNat_natCast, Nat.mul_one, Nat.add_zero, Nat.zero_add, List.take_length, List.drop_zero] at h7)
                            all_goals
                              refine Tree.GivesP.chk (by first | (simp only [and_self]; done) | ((repeat' with_reducible refine And.intro ?_ ?_) <;> first | trivial | omega | assumption | (simp only [short]; omega) | (intro hh; first | cases hh | simpa using hh | (simp at hh; simp [hh]) | (simp at hh; exact hh) | exact fl2 (by simpa using hh) | exact sl2 (by simpa using hh)))) ?_
                              refine Tree.GivesP.chk (by first | (simp only [and_self]; done) | ((repeat' with_reducible refine And.intro ?_ ?_) <;> first | trivial | omega | assumption | (simp only [short]; omega) | (intro hh; first | cases hh | simpa using hh | (simp at hh; simp [hh]) | (simp at hh; exact hh) | exact fl2 (by simpa using hh) | exact sl2 (by simpa using hh)))) ?_
                              refine Tree.GivesP.chk (by first | (simp only [and_self]; done) | ((repeat' with_reducible refine And.intro ?_ ?_) <;> first | trivial | omega | assumption | (simp only [short]; omega) | (intro hh; first | cases hh | simpa using hh | (simp at hh; simp [hh]) | (simp at hh; exact hh) | exact fl2 (by simpa using hh) | exact sl2 (by simpa using hh)))) ?_
                              refine Tree.GivesP.br (fun h8 => ?_) (fun h8 => ?_)
                              · (try simp only [decide_eq_true_eq, decide_eq_false_iff_not, Bool.not_eq_true', Bool.not_eq_false', beq_iff_eq, beq_eq_false_iff_ne, Int.not_lt, Int.not_le, ge_iff_le, gt_iff_lt, ne_eq, Bool.false_eq_true, Bool.true_eq_false, not_true_eq_false, not_false_eq_true, Bool.and_eq_true, Bool.not_eq_eq_eq_not, Bool.not_true, Bool.not_false, bne_iff_ne, bne_eq_false_iff_eq, Int.toNat_natCast, Nat.mul_one, Nat.add_zero, Nat.zero_add, List.take_length, List.drop_zero] at h8)
                                all_goals
                                  refine Tree.GivesP.chk (by first | (simp only [and_self]; done) | ((repeat' with_reducible refine And.intro ?_ ?_) <;> first | trivial | omega | assumption | (simp only [short]; omega) | (intro hh; first | cases hh | simpa using hh | (simp at hh; simp [hh]) | (simp at hh; exact hh) | exact fl2 (by simpa using hh) | exact sl2 (by simpa using hh)))) ?_
                                  refine Tree.GivesP.ret ?_ ?_
                                  · first | (simp only [AV.le]; done) | (exfalso; simp_all; done) | (simp_all [AV.le]; done)
                                  · simp only [AV.leL, AV.le, Mem.le, Mem.leP, Blk.le, Blk.pad, Data.le, Data.size, Cap.le, and_true, true_and, and_self, true_implies, implies_true, imp_self, List.length_nil]
                              · (try simp only [decide_eq_true_eq, decide_eq_false_iff_not, Bool.not_eq_true', Bool.not_eq_false', beq_iff_eq, beq_eq_false_iff_ne, Int.not_lt, Int.not_le, ge_iff_le, gt_iff_lt, ne_eq, Bool.false_eq_true, Bool.true_eq_false, not_true_eq_false, not_false_eq_true, Bool.and_eq_true, Bool.not_eq_eq_eq_not, Bool.not_true, Bool.not_false, bne_iff_ne, bne_eq_false_iff_eq, Int.toNat_natCast, Nat.mul_one, Nat.add_zero, Nat.zero_add, List.take_length, List.drop_zero] at h8)
                                all_goals
                                  refine Tree.GivesP.ret ?_ ?_
                                  · first | (simp only [AV.le]; done) | (exfalso; simp_all; done) | (simp_all [AV.le]; done)
                                  · simp only [AV.leL, AV.le, Mem.le, Mem.leP, Blk.le, Blk.pad, Data.le, Data.size, Cap.le, and_true, true_and, and_self, true_implies, implies_true, imp_self, List.length_nil]
                          · (try simp only [decide_eq_true_eq, decide_eq_false_iff_not, Bool.not_eq_true', Bool.not_eq_false', beq_iff_eq, beq_eq_false_iff_ne, Int.not_lt, Int.not_le, ge_iff_le, gt_iff_lt, ne_eq, Bool.false_eq_true, Bool.true_eq_false, not_true_eq_false, not_false_eq_true, Bool.and_eq_true, Bool.not_eq_eq_eq_not, Bool.not_true, Bool.not_false, bne_iff_ne, bne_eq_false_iff_eq, Int.toNat_natCast, Nat.mul_one, Nat.add_zero, Nat.zero_add, List.take_length, List.drop_zero] at h7)
                            all_goals
                              refine Tree.GivesP.ret ?_ ?_
                              · first | (simp only [AV.le]; done) | (exfalso; simp_all; done) | (simp_all [AV.le]; done)
                              · simp only [AV.leL, AV.le, Mem.le, Mem.leP, Blk.le, Blk.pad, Data.le, Data.size, Cap.le, and_true, true_and, and_self, true_implies, implies_true, imp_self, List.length_nil]
                      · (try simp only [decide_eq_true_eq, decide_eq_false_iff_not, Bool.not_eq_true', Bool.not_eq_false', beq_iff_eq, beq_eq_false_iff_ne, Int.not_lt, Int.not_le, ge_iff_le, gt_iff_lt, ne_eq, Bool.false_eq_true, Bool.true_eq_false, not_true_eq_false, not_false_eq_true, Bool.and_eq_true, Bool.not_eq_eq_eq_not, Bool.not_true, Bool.not_false, bne_iff_ne, bne_eq_false_iff_eq, Int.toNat_natCast, Nat.mul_one, Nat.add_zero, Nat.zero_add, List.take_length, List.drop_zero] at h6)
                        all_goals
                          refine Tree.GivesP.ret ?_ ?_
                          · first | (simp only [AV.le]; done) | (exfalso; simp_all; done) | (simp_all [AV.le]; done)
                          · simp only [AV.leL, AV.le, Mem.le, Mem.leP, Blk.le, Blk.pad, Data.le, Data.size, Cap.le, and_true, true_and, and_self, true_implies, implies_true, imp_self, List.length_nil]
                  · (try simp only [decide_eq_true_eq, decide_eq_false_iff_not, Bool.not_eq_true', Bool.not_eq_false', beq_iff_eq, beq_eq_false_iff_ne, Int.not_lt, Int.not_le, ge_iff_le, gt_iff_lt, ne_eq, Bool.false_eq_true, Bool.true_eq_false, not_true_eq_false, not_false_eq_true, Bool.and_eq_true, Bool.not_eq_eq_eq_not, Bool.not_true, Bool.not_false, bne_iff_ne, bne_eq_false_iff_eq, Int.toNat_natCast, Nat.mul_one, Nat.add_zero, Nat.zero_add, List.take_length, List.drop_zero] at h5)
                    all_goals
                      refine Tree.GivesP.ret ?_ ?_
                      · first | (simp only [AV.le]; done) | (exfalso; simp_all; done) | (simp_all [AV.le]; done)
                      · simp only [AV.leL, AV.le, Mem.le, Mem.leP, Blk.le, Blk.pad, Data.le, Data.size, Cap.le, and_true, true_and, and_self, true_implies, implies_true, imp_self, List.length_nil]
              · (try simp only [decide_eq_true_eq, decide_eq_false_iff_not, Bool.not_eq_true', Bool.not_eq_false', beq_iff_eq, beq_eq_false_iff_ne, Int.not_lt, Int.not_le, ge_iff_le, gt_iff_lt, ne_eq, Bool.false_eq_true, Bool.true_eq_false, not_true_eq_false, not_false_eq_true, Bool.and_eq_true, Bool.not_eq_eq_eq_not, Bool.not_true, Bool.not_false, bne_iff_ne, bne_eq_false_iff_eq, Int.toNat_natCast, Nat.mul_one, Nat.add_zero, Nat.zero_add, List.take_length, List.drop_zero] at h4)
                all_goals
                  refine Tree.GivesP.ret ?_ ?_
                  · first | (simp only [AV.le]; done) | (exfalso; simp_all; done) | (simp_all [AV.le]; done)
                  · simp only [AV.leL, AV.le, Mem.le, Mem.leP, Blk.le, Blk.pad, Data.le, Data.size, Cap.le, and_true, true_and, and_self, true_implies, implies_true, imp_self, List.length_nil]
theorem sPackFields (hall : AllOk Try.prog 0 (fun _ => none) tab24) (zwidths : Bool) (widths : List Int) (zvalues : Bool) (values : List Int) (zwords : Bool) (words : List Int) (hw : widths.length ≤ 9223372036854775807 ∧ (zwidths = true → widths = []) ∧ values.length ≤ 9223372036854775807 ∧ (zvalues = true → values = []) ∧ words.length ≤ 9223372036854775807 ∧ (zwords = true → words = []) ∧ wf64L values ∧ wf64L words ∧ wf64L widths) : SoundAt (mkC Try.prog 0 (fun _ => none) []) 7 [.sl zwidths ⟨0, 0, 0, 0⟩ false widths.length .any, .sl zvalues ⟨1, 0, 0, 0⟩ false values.length .any, .sl zwords ⟨2, 0, 0, 0⟩ false words.length .any] [some ⟨3, false, false, true, .ints .i64 widths⟩, some ⟨3, false, false, true, .ints .i64 values⟩, some ⟨3, false, false, true, .ints .i64 words⟩] (.bool false true, [some ⟨3, false, false, true, .ints .i64 widths⟩, some ⟨3, false, false, true, .ints .i64 values⟩, some ⟨3, false, false, true, .ints .i64 words⟩]) := sound_ofP hall mix (tPackFields zwidths widths zvalues values zwords words) (gPackFields zwidths widths zvalues values zwords words hw)
end Go.Proofs.Ytnkjblmlchbfkaa.Rig

/- The row of the law PackFields: whatever the input it gives true, and what came in stays. -/
namespace Go.Proofs.Ytnkjblmlchbfkaa.packFields
open Go.ChangeShapes Go.WideShapes Go.ChangeAt Go.RowKit Go.Proofs.Ytnkjblmlchbfkaa.Rig
open Go.ChangeMaps (open_string shut_string)
set_option linter.unusedVariables false

theorem own : ownKnob Try.prog.godebug = none := by kernel_rfl
theorem laidOut : laidOutB Try.prog = true := by kernel_rfl
theorem walk (A0 : Option Addr) (len0 cap0 : Nat) (zs0 : List Int) (A1 : Option Addr) (len1 cap1 : Nat) (zs1 : List Int) (A2 : Option Addr) (len2 cap2 : Nat) (zs2 : List Int) (w : World) (wz0 : (A0 = none ∧ len0 = 0 ∧ cap0 = 0 ∧ zs0 = []) ∨ ∃ x, A0 = some x ∧ len0 ≤ cap0 ∧ cap0 ≤ maxLen ∧ zs0.length = cap0 ∧ (∀ i, i < zs0.length → w.cell? (x.add i) = some (.int .i64 (zs0.getD i 0))) ∧ ∀ n ∈ zs0, (Lit.int .i64 n).wf = true) (wz1 : (A1 = none ∧ len1 = 0 ∧ cap1 = 0 ∧ zs1 = []) ∨ ∃ x, A1 = some x ∧ len1 ≤ cap1 ∧ cap1 ≤ maxLen ∧ zs1.length = cap1 ∧ (∀ i, i < zs1.length → w.cell? (x.add i) = some (.int .i64 (zs1.getD i 0))) ∧ ∀ n ∈ zs1, (Lit.int .i64 n).wf = true) (wz2 : (A2 = none ∧ len2 = 0 ∧ cap2 = 0 ∧ zs2 = []) ∨ ∃ x, A2 = some x ∧ len2 ≤ cap2 ∧ cap2 ≤ maxLen ∧ zs2.length = cap2 ∧ (∀ i, i < zs2.length → w.cell? (x.add i) = some (.int .i64 (zs2.getD i 0))) ∧ ∀ n ∈ zs2, (Lit.int .i64 n).wf = true) :
    Calls Try.prog 7 #[.slice A0 len0 cap0, .slice A1 len1 cap1, .slice A2 len2 cap2] w fun e w' => e = .returned (.bool true) ∧ Below w.heap.size w w' := by
  obtain ⟨z0, l0, b0, hl0, hz0, hm0, hw0, hr0, hb0⟩ := arg_ints 3 wz0
  subst hl0
  obtain ⟨z1, l1, b1, hl1, hz1, hm1, hw1, hr1, hb1⟩ := arg_ints 3 wz1
  subst hl1
  obtain ⟨z2, l2, b2, hl2, hz2, hm2, hw2, hr2, hb2⟩ := arg_ints 3 wz2
  subst hl2
  have h := sPackFields all24 z0 l0 z1 l1 z2 l2 ⟨by simpa [maxLen] using hm0, hz0, by simpa [maxLen] using hm1, hz1, by simpa [maxLen] using hm2, hz2, fun n hn => wf64 (hw1 n hn), fun n hn => wf64 (hw2 n hn), fun n hn => wf64 (hw0 n hn)⟩
  refine h.top (σ := fun i => [b0, b1, b2][i]?) (vals := [.slice A0 l0.length cap0, .slice A1 l1.length cap1, .slice A2 l2.length cap2]) (fun i b hb => ?_) ?_ (rel_args _ _ rfl fun i b hb => ?_) (fun g i h => by cases h) (Nat.zero_le _)
  · rcases i with _ | _ | _ | i <;> simp [Mem.at] at hb <;> subst hb <;> rfl
  · exact RepL.cons (hr0 _ 0 rfl) (RepL.cons (hr1 _ 1 rfl) (RepL.cons (hr2 _ 2 rfl) (RepL.nil)))
  · rcases i with _ | _ | _ | i <;> simp [Mem.at] at hb
    · subst hb; exact ⟨_, rfl, rfl, hb0⟩
    · subst hb; exact ⟨_, rfl, rfl, hb1⟩
    · subst hb; exact ⟨_, rfl, rfl, hb2⟩
set_option maxRecDepth 100000 in
theorem lifted (os : Os) (started : os.Started) (H : Type) (enc : TypeId × Value → H) :
    ReturnsInHanded {} Try.checked os 7 .any (Rows.packFieldsSpec.pre6 enc Try.prog Try.f7 Rows.packFieldsRow.domain false) (Rows.packFieldsSpec.post enc Try.prog Try.f7 false true false false) := by
  refine returnsInHanded_of_change_sized (C := Try.checked) own started (by kernel_rfl) Try.func7
    (ChangeSpec.witness6 (enc := enc) (C := Try.checked) false ⟨#[], #[.slice none 0 0, .slice none 0 0, .slice none 0 0], []⟩ 8 (by kernel_rfl) (by kernel_rfl) (by kernel_rfl) (by kernel_rfl)) ?_
  intro W base args ds gs before hval0 hW hcnd hsz0 _
  have hval : ∀ (j : Nat) t v, Try.f7.params[j]? = some t → args[j]? = some v → Value.okWide Try.prog W .any base t v := hval0
  have hW' := hW
  obtain ⟨p, q, hA0, hV, rfl, hfz, hnd⟩ := hW
  have hA : DataW.TrodAll enc Try.prog W 0 (fun _ => true) true Try.f7.params.toList args.toList ds p := hA0
  rw [Try.params7] at hA hval
  obtain ⟨v0, vs0, d0, ds0, p0, z0, hargs, rfl, rfl, h0, r0⟩ := trodAll_cons hA
  obtain ⟨v1, vs1, d1, ds1, p1, z1, rfl, rfl, rfl, h1, r1⟩ := trodAll_cons r0
  obtain ⟨v2, vs2, d2, ds2, p2, z2, rfl, rfl, rfl, h2, r2⟩ := trodAll_cons r1
  obtain ⟨rfl, rfl, rfl⟩ := trodAll_nil r2
  obtain rfl : args = #[v0, v1, v2] := by cases args; simp_all
  obtain ⟨rfl, rfl⟩ := trodVars_none hV
  obtain ⟨A0, len0, cap0, rfl⟩ := okWide_slice Try.underlying22 (hval 0 22 v0 rfl rfl)
  have k0 := h0
  have lt0 : ∀ x ∈ p0, x.block < W.heap.size := by obtain ⟨m, hm⟩ := k0; exact DataW.trod_lt m _ _ _ hm
  obtain ⟨zs0, wz0⟩ := Open.ints_open Try.underlying22 Try.underlying3 (by kernel_rfl) h0
  simp only [if_true] at wz0
  obtain ⟨A1, len1, cap1, rfl⟩ := okWide_slice Try.underlying22 (hval 1 22 v1 rfl rfl)
  have k1 := h1
  have lt1 : ∀ x ∈ p1, x.block < W.heap.size := by obtain ⟨m, hm⟩ := k1; exact DataW.trod_lt m _ _ _ hm
  obtain ⟨zs1, wz1⟩ := Open.ints_open Try.underlying22 Try.underlying3 (by kernel_rfl) h1
  simp only [if_true] at wz1
  obtain ⟨A2, len2, cap2, rfl⟩ := okWide_slice Try.underlying22 (hval 2 22 v2 rfl rfl)
  have k2 := h2
  have lt2 : ∀ x ∈ p2, x.block < W.heap.size := by obtain ⟨m, hm⟩ := k2; exact DataW.trod_lt m _ _ _ hm
  obtain ⟨zs2, wz2⟩ := Open.ints_open Try.underlying22 Try.underlying3 (by kernel_rfl) h2
  simp only [if_true] at wz2
  clear hA0 hval0 hsz0
  refine (walk A0 len0 cap0 zs0 A1 len1 cap1 zs1 A2 len2 cap2 zs2 W wz0 wz1 wz2).mono fun e W' ⟨he, bel⟩ => ?_
  subst he
  exact ⟨_, rfl, _, _, _, [], _, [], hW', trodAll_mk1 (shut_bool Try.underlying4 _), (trodAll_cons_mk (Below.trod laidOut (by kernel_rfl) (of_decide_eq_true (by kernel_rfl)) k0 bel lt0) (trodAll_cons_mk (Below.trod laidOut (by kernel_rfl) (of_decide_eq_true (by kernel_rfl)) k1 bel lt1) (trodAll_cons_mk (Below.trod laidOut (by kernel_rfl) (of_decide_eq_true (by kernel_rfl)) k2 bel lt2) trodAll_mk0))), rfl, bel.frame _, fun h => by cases h⟩
theorem over : Rows.packFieldsRow.holds Try.pinned (OpenSpec.ofChange Rows.packFieldsSpec) :=
  OpenClaim.holds_of_wide 7 Try.f7 rfl rfl rfl rfl rfl rfl rfl ⟨rfl, rfl, rfl, rfl, rfl⟩ rfl rfl rfl rfl rfl (by kernel_rfl) Try.func7 (by kernel_rfl)
    (of_decide_eq_true (by kernel_rfl)) (by unfold Func.isWrapper; first | (rw [if_pos (by decide +kernel)]; kernel_rfl) | (rw [if_neg (by decide +kernel)]; exact ⟨rfl, rfl⟩))
    (fun os started H enc _ => lifted os started H enc)
theorem proved : Rows.PackFieldsSaid := over
#print axioms proved
end Go.Proofs.Ytnkjblmlchbfkaa.packFields
namespace Go.Proofs.Ytnkjblmlchbfkaa
/-- The row, under a short name, for the claim. -/
theorem packFields_holds : Rows.PackFieldsSaid := packFields.proved
end Go.Proofs.Ytnkjblmlchbfkaa
