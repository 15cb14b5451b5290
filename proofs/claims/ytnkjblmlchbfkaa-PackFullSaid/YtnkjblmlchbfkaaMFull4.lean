/- MFull: what is proved for the claim, part 4: functions' reckonings, and what they give. -/
import Derived.Test.YtnkjblmlchbfkaaMFull3
import Derived.KernelRfl
set_option linter.unusedVariables false
set_option linter.unusedSimpArgs false
/- Qworks -/
namespace Go.Proofs.Ytnkjblmlchbfkaa.Rig
open Go
set_option maxRecDepth 100000 in
theorem tworks  : evBody (mkC Try.prog 0 (fun _ => none) tab16) (evCall (mkC Try.prog 0 (fun _ => none) tab16) 50) 14 [] [] =
  Tree.chk
  ((True ∧ 0 + 1 ≤ List.length [(-2 : Int)] ∧ True) ∧
  List.length (List.take 1 (List.drop (0) [(-2 : Int)])) ≤ 100000 ∧ wf64L (List.take 1 (List.drop (0) [(-2 : Int)])) ∧ (false = true → List.take 1 (List.drop (0) [(-2 : Int)]) = []))
  (Tree.chk
  ((0 + 2 ≤ List.length [(4 : Int), (12 : Int)] ∧ True) ∧
  short (List.take 2 (List.drop (0) [(4 : Int), (12 : Int)])) ∧ (false = true → List.take 2 (List.drop (0) [(4 : Int), (12 : Int)]) = []))
  (Tree.br false
  (Tree.chk
  ((True ∧ 0 + List.length (putL true (2 : Int) (List.take 1 (List.drop (0) [(-2 : Int)]))) ≤ List.length (putL true (2 : Int) (List.take 1 (List.drop (0) [(-2 : Int)]))) ∧ True) ∧
  short (List.take (List.length (putL true (2 : Int) (List.take 1 (List.drop (0) [(-2 : Int)])))) (List.drop (0) (putL true (2 : Int) (List.take 1 (List.drop (0) [(-2 : Int)]))))) ∧
  (decide (putL true (2 : Int) (List.take 1 (List.drop (0) [(-2 : Int)])) = []) = true →
  List.take (List.length (putL true (2 : Int) (List.take 1 (List.drop (0) [(-2 : Int)])))) (List.drop (0) (putL true (2 : Int) (List.take 1 (List.drop (0) [(-2 : Int)])))) = []))
  (Tree.chk
  ((0 + List.length (putL true (2 : Int) (List.take 1 (List.drop (0) [(-2 : Int)]))) ≤ List.length (putL true (2 : Int) (List.take 1 (List.drop (0) [(-2 : Int)]))) ∧
  0 + 2 ≤ List.length [(65535 : Int), (65534 : Int)] ∧ True) ∧
  short (List.take (List.length (putL true (2 : Int) (List.take 1 (List.drop (0) [(-2 : Int)])))) (List.drop (0) (putL true (2 : Int) (List.take 1 (List.drop (0) [(-2 : Int)]))))) ∧
  (decide (putL true (2 : Int) (List.take 1 (List.drop (0) [(-2 : Int)])) = []) = true →
  List.take (List.length (putL true (2 : Int) (List.take 1 (List.drop (0) [(-2 : Int)])))) (List.drop (0) (putL true (2 : Int) (List.take 1 (List.drop (0) [(-2 : Int)])))) = []) ∧
  (false = true → List.take 2 (List.drop (0) [(65535 : Int), (65534 : Int)]) = []))
  (Tree.br true
  (Tree.br true
  (Tree.chk ((0 = 0 ∧ 0 + 1 ≤ List.length [(4098 : Int)] ∧ True) ∧ short [] ∧ (true = true → ([] : List Int) = []) ∧ (false = true → List.take 1 (List.drop (0) [(4098 : Int)]) = []))
  (Tree.br false
  (Tree.br true
  (Tree.br true
  (Tree.br true
  (Tree.chk
  ((0 + 3 ≤ List.length [(4 : Int), (12 : Int), (1 : Int)] ∧ True) ∧
  List.length (List.take 3 (List.drop (0) [(4 : Int), (12 : Int), (1 : Int)])) ≤ 1000000 ∧
  (false = true → List.take 3 (List.drop (0) [(4 : Int), (12 : Int), (1 : Int)]) = []))
  (Tree.ret (AV.bool false true, [])))
  (Tree.ret (AV.bool true false, [])))
  (Tree.ret (AV.bool true false, [])))
  (Tree.ret (AV.bool true false, [])))
  (Tree.ret (AV.bool true false, []))))
  (Tree.ret (AV.bool true false, [])))
  (Tree.ret (AV.bool true false, [])))))
  (Tree.chk
  ((True ∧ 0 + List.length (putL true (2 : Int) (List.take 1 (List.drop (0) [(-2 : Int)]))) ≤ List.length (putL true (2 : Int) (List.take 1 (List.drop (0) [(-2 : Int)]))) ∧ True) ∧
  short (List.take (List.length (putL true (2 : Int) (List.take 1 (List.drop (0) [(-2 : Int)])))) (List.drop (0) (putL true (2 : Int) (List.take 1 (List.drop (0) [(-2 : Int)]))))) ∧
  (decide (putL true (2 : Int) (List.take 1 (List.drop (0) [(-2 : Int)])) = []) = true →
  List.take (List.length (putL true (2 : Int) (List.take 1 (List.drop (0) [(-2 : Int)])))) (List.drop (0) (putL true (2 : Int) (List.take 1 (List.drop (0) [(-2 : Int)])))) = []))
  (Tree.chk
  ((0 + List.length (putL true (2 : Int) (List.take 1 (List.drop (0) [(-2 : Int)]))) ≤ List.length (putL true (2 : Int) (List.take 1 (List.drop (0) [(-2 : Int)]))) ∧
  0 + 2 ≤ List.length [(65535 : Int), (65534 : Int)] ∧ True) ∧
  short (List.take (List.length (putL true (2 : Int) (List.take 1 (List.drop (0) [(-2 : Int)])))) (List.drop (0) (putL true (2 : Int) (List.take 1 (List.drop (0) [(-2 : Int)]))))) ∧
  (decide (putL true (2 : Int) (List.take 1 (List.drop (0) [(-2 : Int)])) = []) = true →
  List.take (List.length (putL true (2 : Int) (List.take 1 (List.drop (0) [(-2 : Int)])))) (List.drop (0) (putL true (2 : Int) (List.take 1 (List.drop (0) [(-2 : Int)])))) = []) ∧
  (false = true → List.take 2 (List.drop (0) [(65535 : Int), (65534 : Int)]) = []))
  (Tree.br true
  (Tree.br true
  (Tree.chk
  ((0 + (0 + 1) ≤ List.length [(4098 : Int)] ∧ 0 + 1 ≤ List.length [(4098 : Int)] ∧ True) ∧
  short (List.take (0 + 1) (List.drop (0) [(4098 : Int)])) ∧
  (false = true → List.take (0 + 1) (List.drop (0) [(4098 : Int)]) = []) ∧ (false = true → List.take 1 (List.drop (0) [(4098 : Int)]) = []))
  (Tree.br true
  (Tree.br true
  (Tree.br true
  (Tree.chk
  ((0 + 3 ≤ List.length [(4 : Int), (12 : Int), (1 : Int)] ∧ True) ∧
  List.length (List.take 3 (List.drop (0) [(4 : Int), (12 : Int), (1 : Int)])) ≤ 1000000 ∧ (false = true → List.take 3 (List.drop (0) [(4 : Int), (12 : Int), (1 : Int)]) = []))
  (Tree.ret (AV.bool false true, [])))
  (Tree.ret (AV.bool true false, [])))
  (Tree.ret (AV.bool true false, [])))
  (Tree.ret (AV.bool true false, []))))
  (Tree.ret (AV.bool true false, [])))
  (Tree.ret (AV.bool true false, []))))))) := by kernel_rfl
set_option maxRecDepth 100000 in
theorem gworks  (hw : True) : (Tree.chk
  ((True ∧ 0 + 1 ≤ List.length [(-2 : Int)] ∧ True) ∧
  List.length (List.take 1 (List.drop (0) [(-2 : Int)])) ≤ 100000 ∧ wf64L (List.take 1 (List.drop (0) [(-2 : Int)])) ∧ (false = true → List.take 1 (List.drop (0) [(-2 : Int)]) = []))
  (Tree.chk
  ((0 + 2 ≤ List.length [(4 : Int), (12 : Int)] ∧ True) ∧
  short (List.take 2 (List.drop (0) [(4 : Int), (12 : Int)])) ∧ (false = true → List.take 2 (List.drop (0) [(4 : Int), (12 : Int)]) = []))
  (Tree.br false
  (Tree.chk
  ((True ∧ 0 + List.length (putL true (2 : Int) (List.take 1 (List.drop (0) [(-2 : Int)]))) ≤ List.length (putL true (2 : Int) (List.take 1 (List.drop (0) [(-2 : Int)]))) ∧ True) ∧
  short (List.take (List.length (putL true (2 : Int) (List.take 1 (List.drop (0) [(-2 : Int)])))) (List.drop (0) (putL true (2 : Int) (List.take 1 (List.drop (0) [(-2 : Int)]))))) ∧
  (decide (putL true (2 : Int) (List.take 1 (List.drop (0) [(-2 : Int)])) = []) = true →
  List.take (List.length (putL true (2 : Int) (List.take 1 (List.drop (0) [(-2 : Int)])))) (List.drop (0) (putL true (2 : Int) (List.take 1 (List.drop (0) [(-2 : Int)])))) = []))
  (Tree.chk
  ((0 + List.length (putL true (2 : Int) (List.take 1 (List.drop (0) [(-2 : Int)]))) ≤ List.length (putL true (2 : Int) (List.take 1 (List.drop (0) [(-2 : Int)]))) ∧
  0 + 2 ≤ List.length [(65535 : Int), (65534 : Int)] ∧ True) ∧
  short (List.take (List.length (putL true (2 : Int) (List.take 1 (List.drop (0) [(-2 : Int)])))) (List.drop (0) (putL true (2 : Int) (List.take 1 (List.drop (0) [(-2 : Int)]))))) ∧
  (decide (putL true (2 : Int) (List.take 1 (List.drop (0) [(-2 : Int)])) = []) = true →
  List.take (List.length (putL true (2 : Int) (List.take 1 (List.drop (0) [(-2 : Int)])))) (List.drop (0) (putL true (2 : Int) (List.take 1 (List.drop (0) [(-2 : Int)])))) = []) ∧
  (false = true → List.take 2 (List.drop (0) [(65535 : Int), (65534 : Int)]) = []))
  (Tree.br true
  (Tree.br true
  (Tree.chk ((0 = 0 ∧ 0 + 1 ≤ List.length [(4098 : Int)] ∧ True) ∧ short [] ∧ (true = true → ([] : List Int) = []) ∧ (false = true → List.take 1 (List.drop (0) [(4098 : Int)]) = []))
  (Tree.br false
  (Tree.br true
  (Tree.br true
  (Tree.br true
  (Tree.chk
  ((0 + 3 ≤ List.length [(4 : Int), (12 : Int), (1 : Int)] ∧ True) ∧
  List.length (List.take 3 (List.drop (0) [(4 : Int), (12 : Int), (1 : Int)])) ≤ 1000000 ∧
  (false = true → List.take 3 (List.drop (0) [(4 : Int), (12 : Int), (1 : Int)]) = []))
  (Tree.ret (AV.bool false true, [])))
  (Tree.ret (AV.bool true false, [])))
  (Tree.ret (AV.bool true false, [])))
  (Tree.ret (AV.bool true false, [])))
  (Tree.ret (AV.bool true false, []))))
  (Tree.ret (AV.bool true false, [])))
  (Tree.ret (AV.bool true false, [])))))
  (Tree.chk
  ((True ∧ 0 + List.length (putL true (2 : Int) (List.take 1 (List.drop (0) [(-2 : Int)]))) ≤ List.length (putL true (2 : Int) (List.take 1 (List.drop (0) [(-2 : Int)]))) ∧ True) ∧
  short (List.take (List.length (putL true (2 : Int) (List.take 1 (List.drop (0) [(-2 : Int)])))) (List.drop (0) (putL true (2 : Int) (List.take 1 (List.drop (0) [(-2 : Int)]))))) ∧
  (decide (putL true (2 : Int) (List.take 1 (List.drop (0) [(-2 : Int)])) = []) = true →
  List.take (List.length (putL true (2 : Int) (List.take 1 (List.drop (0) [(-2 : Int)])))) (List.drop (0) (putL true (2 : Int) (List.take 1 (List.drop (0) [(-2 : Int)])))) = []))
  (Tree.chk
  ((0 + List.length (putL true (2 : Int) (List.take 1 (List.drop (0) [(-2 : Int)]))) ≤ List.length (putL true (2 : Int) (List.take 1 (List.drop (0) [(-2 : Int)]))) ∧
  0 + 2 ≤ List.length [(65535 : Int), (65534 : Int)] ∧ True) ∧
  short (List.take (List.length (putL true (2 : Int) (List.take 1 (List.drop (0) [(-2 : Int)])))) (List.drop (0) (putL true (2 : Int) (List.take 1 (List.drop (0) [(-2 : Int)]))))) ∧
  (decide (putL true (2 : Int) (List.take 1 (List.drop (0) [(-2 : Int)])) = []) = true →
  List.take (List.length (putL true (2 : Int) (List.take 1 (List.drop (0) [(-2 : Int)])))) (List.drop (0) (putL true (2 : Int) (List.take 1 (List.drop (0) [(-2 : Int)])))) = []) ∧
  (false = true → List.take 2 (List.drop (0) [(65535 : Int), (65534 : Int)]) = []))
  (Tree.br true
  (Tree.br true
  (Tree.chk
  ((0 + (0 + 1) ≤ List.length [(4098 : Int)] ∧ 0 + 1 ≤ List.length [(4098 : Int)] ∧ True) ∧
  short (List.take (0 + 1) (List.drop (0) [(4098 : Int)])) ∧
  (false = true → List.take (0 + 1) (List.drop (0) [(4098 : Int)]) = []) ∧ (false = true → List.take 1 (List.drop (0) [(4098 : Int)]) = []))
  (Tree.br true
  (Tree.br true
  (Tree.br true
  (Tree.chk
  ((0 + 3 ≤ List.length [(4 : Int), (12 : Int), (1 : Int)] ∧ True) ∧
  List.length (List.take 3 (List.drop (0) [(4 : Int), (12 : Int), (1 : Int)])) ≤ 1000000 ∧ (false = true → List.take 3 (List.drop (0) [(4 : Int), (12 : Int), (1 : Int)]) = []))
  (Tree.ret (AV.bool false true, [])))
  (Tree.ret (AV.bool true false, [])))
  (Tree.ret (AV.bool true false, [])))
  (Tree.ret (AV.bool true false, []))))
  (Tree.ret (AV.bool true false, [])))
  (Tree.ret (AV.bool true false, []))))))) : Tree (AV × Mem)).GivesP (.bool false true) ([]) := by
  refine Tree.GivesP.chk (by first | (simp only [and_self]; done) | ((repeat' with_reducible refine And.intro ?_ ?_) <;> first | trivial | (intro n hn; simp at hn; omega) | (intro hh; cases hh; done) | (simp only [short]; decide +kernel) | decide +kernel | (intro hh; revert hh; decide +kernel))) ?_
  refine Tree.GivesP.chk (by first | (simp only [and_self]; done) | ((repeat' with_reducible refine And.intro ?_ ?_) <;> first | trivial | (intro n hn; simp at hn; omega) | (intro hh; cases hh; done) | (simp only [short]; decide +kernel) | decide +kernel | (intro hh; revert hh; decide +kernel))) ?_
  refine Tree.GivesP.br (fun h1 => ?_) (fun h1 => ?_)
  · (try simp only [decide_eq_true_eq, decide_eq_false_iff_not, Bool.not_eq_true', Bool.not_eq_false', beq_iff_eq, beq_eq_false_iff_ne, Int.not_lt, Int.not_le, ge_iff_le, gt_iff_lt, ne_eq, Bool.false_eq_true, Bool.true_eq_false, not_true_eq_false, not_false_eq_true, Bool.and_eq_true, Bool.not_eq_eq_eq_not, Bool.not_true, Bool.not_false, bne_iff_ne, bne_eq_false_iff_eq, Int.toNat_natCast, Nat.mul_one, Nat.add_zero, Nat.zero_add, List.take_length, List.drop_zero] at h1)
    all_goals
      refine Tree.GivesP.chk (by first | (simp only [and_self]; done) | ((repeat' with_reducible refine And.intro ?_ ?_) <;> first | trivial | (intro n hn; simp at hn; omega) | (intro hh; cases hh; done) | (simp only [short]; decide +kernel) | decide +kernel | (intro hh; revert hh; decide +kernel))) ?_
      refine Tree.GivesP.chk (by first | (simp only [and_self]; done) | ((repeat' with_reducible refine And.intro ?_ ?_) <;> first | trivial | (intro n hn; simp at hn; omega) | (intro hh; cases hh; done) | (simp only [short]; decide +kernel) | decide +kernel | (intro hh; revert hh; decide +kernel))) ?_
      refine Tree.GivesP.br (fun h2 => ?_) (fun h2 => ?_)
      · (try simp only [decide_eq_true_eq, decide_eq_false_iff_not, Bool.not_eq_true', Bool.not_eq_false', beq_iff_eq, beq_eq_false_iff_ne, Int.not_lt, Int.not_le, ge_iff_le, gt_iff_lt, ne_eq, Bool.false_eq_true, Bool.true_eq_false, not_true_eq_false, not_false_eq_true, Bool.and_eq_true, Bool.not_eq_eq_eq_not, Bool.not_true, Bool.not_false, bne_iff_ne, bne_eq_false_iff_eq, Int.toNat_natCast, Nat.mul_one, Nat.add_zero, Nat.zero_add, List.take_length, List.drop_zero] at h2)
        all_goals
          refine Tree.GivesP.br (fun h3 => ?_) (fun h3 => ?_)
          · (try simp only [decide_eq_true_eq, decide_eq_false_iff_not, Bool.not_eq_true', Bool.not_eq_false', beq_iff_eq, beq_eq_false_iff_ne, Int.not_lt, Int.not_le, ge_iff_le, gt_iff_lt, ne_eq, Bool.false_eq_true, Bool.true_eq_false, not_true_eq_false, not_false_eq_true, Bool.and_eq_true, Bool.not_eq_eq_eq_not, Bool.not_true, Bool.not_false, bne_iff_ne, bne_eq_false_iff_eq, Int.toNat_natCast, Nat.mul_one, Nat.add_zero, Nat.zero_add, List.take_length, List.drop_zero] at h3)
            all_goals
              refine Tree.GivesP.chk (by first | (simp only [and_self]; done) | ((repeat' with_reducible refine And.intro ?_ ?_) <;> first | trivial | (intro n hn; simp at hn; omega) | (intro hh; cases hh; done) | (simp only [short]; decide +kernel) | decide +kernel | (intro hh; revert hh; decide +kernel))) ?_
              refine Tree.GivesP.br (fun h4 => ?_) (fun h4 => ?_)
              · (try simp only [decide_eq_true_eq, decide_eq_false_iff_not, Bool.not_eq_true', Bool.not_eq_false', beq_iff_eq, beq_eq_false_iff_ne, Int.not_lt, Int.not_le, ge_iff_le, gt_iff_lt, ne_eq, Bool.false_eq_true, Bool.true_eq_false, not_true_eq_false, not_false_eq_true, Bool.and_eq_true, Bool.not_eq_eq_eq_not, Bool.not_true, Bool.not_false, bne_iff_ne, bne_eq_false_iff_eq, Int.toNat_natCast, Nat.mul_one, Nat.add_zero, Nat.zero_add, List.take_length, List.drop_zero] at h4)
                all_goals
                  refine Tree.GivesP.br (fun h5 => ?_) (fun h5 => ?_)
                  · (try simp only [decide_eq_true_eq, decide_eq_false_iff_not, Bool.not_eq_true', Bool.not_eq_false', beq_iff_eq, beq_eq_false_iff_ne, Int.not_lt, Int.not_le, ge_iff_le, gt_iff_lt, ne_eq, Bool.false_eq_true, Bool.true_eq_false, not_true_eq_false, not_false_eq_true, Bool.and_eq_true, Bool.not_eq_eq_eq_not, Bool.not_true, Bool.not_false, bne_iff_ne, bne_eq_false_iff_eq, Int.toNat_natCast, Nat.mul_one, Nat.add_zero, Nat.zero_add, List.take_length, List.drop_zero] at h5)
                    all_goals
                      refine Tree.GivesP.br (fun h6 => ?_) (fun h6 => ?_)
                      · (try simp only [decide_eq_true_eq, decide_eq_false_iff_not, Bool.not_eq_true', Bool.not_eq_false', beq_iff_eq, beq_eq_false_iff_ne, Int.not_lt, Int.not_le, ge_iff_le, gt_iff_lt, ne_eq, Bool.false_eq_true, Bool.true_eq_false, not_true_eq_false, not_false_eq_true, Bool.and_eq_true, Bool.not_eq_eq_eq_not, Bool.not_true, Bool.not_false, bne_iff_ne, bne_eq_false_iff_eq, Int.toNat_natCast, Nat.mul_one, Nat.add_zero, Nat.zero_add, List.take_length, List.drop_zero] at h6)
                        all_goals
                          refine Tree.GivesP.br (fun h7 => ?_) (fun h7 => ?_)
                          · (try simp only [decide_eq_true_eq, decide_eq_false_iff_not, Bool.not_eq_true', Bool.not_eq_false', beq_iff_eq, beq_eq_false_iff_ne, Int.not_lt, Int.not_le, ge_iff_le, gt_iff_lt, ne_eq, Bool.false_eq_true, Bool.true_eq_false, not_true_eq_false, not_false_eq_true, Bool.and_eq_true, Bool.not_eq_eq_eq_not, Bool.not_true, Bool.not_false, bne_iff_ne, bne_eq_false_iff_eq, Int.toNat_natCast, Nat.mul_one, Nat.add_zero, Nat.zero_add, List.take_length, List.drop_zero] at h7)
                            all_goals
                              refine Tree.GivesP.chk (by first | (simp only [and_self]; done) | ((repeat' with_reducible refine And.intro ?_ ?_) <;> first | trivial | (intro n hn; simp at hn; omega) | (intro hh; cases hh; done) | (simp only [short]; decide +kernel) | decide +kernel | (intro hh; revert hh; decide +kernel))) ?_
                              refine Tree.GivesP.ret ?_ ?_
                              · simp only [AV.le]
                              · simp only [AV.leL, AV.le, Mem.le, Mem.leP, Blk.le, Blk.pad, Data.le, Data.size, Cap.le, and_true, true_and, and_self, true_implies, implies_true, imp_self, List.length_nil]
                          · (try simp only [decide_eq_true_eq, decide_eq_false_iff_not, Bool.not_eq_true', Bool.not_eq_false', beq_iff_eq, beq_eq_false_iff_ne, Int.not_lt, Int.not_le, ge_iff_le, gt_iff_lt, ne_eq, Bool.false_eq_true, Bool.true_eq_false, not_true_eq_false, not_false_eq_true, Bool.and_eq_true, Bool.not_eq_eq_eq_not, Bool.not_true, Bool.not_false, bne_iff_ne, bne_eq_false_iff_eq, Int.toNat_natCast, Nat.mul_one, Nat.add_zero, Nat.zero_add, List.take_length, List.drop_zero] at h7)
                            all_goals
                              refine Tree.GivesP.ret ?_ ?_
                              · simp only [AV.le]
                              · simp only [AV.leL, AV.le, Mem.le, Mem.leP, Blk.le, Blk.pad, Data.le, Data.size, Cap.le, and_true, true_and, and_self, true_implies, implies_true, imp_self, List.length_nil]
                      · (try simp only [decide_eq_true_eq, decide_eq_false_iff_not, Bool.not_eq_true', Bool.not_eq_false', beq_iff_eq, beq_eq_false_iff_ne, Int.not_lt, Int.not_le, ge_iff_le, gt_iff_lt, ne_eq, Bool.false_eq_true, Bool.true_eq_false, not_true_eq_false, not_false_eq_true, Bool.and_eq_true, Bool.not_eq_eq_eq_not, Bool.not_true, Bool.not_false, bne_iff_ne, bne_eq_false_iff_eq, Int.toNat_natCast, Nat.mul_one, Nat.add_zero, Nat.zero_add, List.take_length, List.drop_zero] at h6)
                        all_goals
                          refine Tree.GivesP.ret ?_ ?_
                          · simp only [AV.le]
                          · simp only [AV.leL, AV.le, Mem.le, Mem.leP, Blk.le, Blk.pad, Data.le, Data.size, Cap.le, and_true, true_and, and_self, true_implies, implies_true, imp_self, List.length_nil]
                  · (try simp only [decide_eq_true_eq, decide_eq_false_iff_not, Bool.not_eq_true', Bool.not_eq_false', beq_iff_eq, beq_eq_false_iff_ne, Int.not_lt, Int.not_le, ge_iff_le, gt_iff_lt, ne_eq, Bool.false_eq_true, Bool.true_eq_false, not_true_eq_false, not_false_eq_true, Bool.and_eq_true, Bool.not_eq_eq_eq_not, Bool.not_true, Bool.not_false, bne_iff_ne, bne_eq_false_iff_eq, Int.toNat_natCast, Nat.mul_one, Nat.add_zero, Nat.zero_add, List.take_length, List.drop_zero] at h5)
                    all_goals
                      refine Tree.GivesP.ret ?_ ?_
                      · simp only [AV.le]
                      · simp only [AV.leL, AV.le, Mem.le, Mem.leP, Blk.le, Blk.pad, Data.le, Data.size, Cap.le, and_true, true_and, and_self, true_implies, implies_true, imp_self, List.length_nil]
              · (try simp only [decide_eq_true_eq, decide_eq_false_iff_not, Bool.not_eq_true', Bool.not_eq_false', beq_iff_eq, beq_eq_false_iff_ne, Int.not_lt, Int.not_le, ge_iff_le, gt_iff_lt, ne_eq, Bool.false_eq_true, Bool.true_eq_false, not_true_eq_false, not_false_eq_true, Bool.and_eq_true, Bool.not_eq_eq_eq_not, Bool.not_true, Bool.not_false, bne_iff_ne, bne_eq_false_iff_eq, Int.toNat_natCast, Nat.mul_one, Nat.add_zero, Nat.zero_add, List.take_length, List.drop_zero] at h4)
                all_goals
                  refine Tree.GivesP.ret ?_ ?_
                  · simp only [AV.le]
                  · simp only [AV.leL, AV.le, Mem.le, Mem.leP, Blk.le, Blk.pad, Data.le, Data.size, Cap.le, and_true, true_and, and_self, true_implies, implies_true, imp_self, List.length_nil]
          · (try simp only [decide_eq_true_eq, decide_eq_false_iff_not, Bool.not_eq_true', Bool.not_eq_false', beq_iff_eq, beq_eq_false_iff_ne, Int.not_lt, Int.not_le, ge_iff_le, gt_iff_lt, ne_eq, Bool.false_eq_true, Bool.true_eq_false, not_true_eq_false, not_false_eq_true, Bool.and_eq_true, Bool.not_eq_eq_eq_not, Bool.not_true, Bool.not_false, bne_iff_ne, bne_eq_false_iff_eq, Int.toNat_natCast, Nat.mul_one, Nat.add_zero, Nat.zero_add, List.take_length, List.drop_zero] at h3)
            all_goals
              refine Tree.GivesP.ret ?_ ?_
              · simp only [AV.le]
              · simp only [AV.leL, AV.le, Mem.le, Mem.leP, Blk.le, Blk.pad, Data.le, Data.size, Cap.le, and_true, true_and, and_self, true_implies, implies_true, imp_self, List.length_nil]
      · (try simp only [decide_eq_true_eq, decide_eq_false_iff_not, Bool.not_eq_true', Bool.not_eq_false', beq_iff_eq, beq_eq_false_iff_ne, Int.not_lt, Int.not_le, ge_iff_le, gt_iff_lt, ne_eq, Bool.false_eq_true, Bool.true_eq_false, not_true_eq_false, not_false_eq_true, Bool.and_eq_true, Bool.not_eq_eq_eq_not, Bool.not_true, Bool.not_false, bne_iff_ne, bne_eq_false_iff_eq, Int.toNat_natCast, Nat.mul_one, Nat.add_zero, Nat.zero_add, List.take_length, List.drop_zero] at h2)
        all_goals
          refine Tree.GivesP.ret ?_ ?_
          · simp only [AV.le]
          · simp only [AV.leL, AV.le, Mem.le, Mem.leP, Blk.le, Blk.pad, Data.le, Data.size, Cap.le, and_true, true_and, and_self, true_implies, implies_true, imp_self, List.length_nil]
  · (try simp only [decide_eq_true_eq, decide_eq_false_iff_not, Bool.not_eq_true', Bool.not_eq_false', beq_iff_eq, beq_eq_false_iff_ne, Int.not_lt, Int.not_le, ge_iff_le, gt_iff_lt, ne_eq, Bool.false_eq_true, Bool.true_eq_false, not_true_eq_false, not_false_eq_true, Bool.and_eq_true, Bool.not_eq_eq_eq_not, Bool.not_true, Bool.not_false, bne_iff_ne, bne_eq_false_iff_eq, Int.toNat_natCast, Nat.mul_one, Nat.add_zero, Nat.zero_add, List.take_length, List.drop_zero] at h1)
    all_goals
      refine Tree.GivesP.chk (by first | (simp only [and_self]; done) | ((repeat' with_reducible refine And.intro ?_ ?_) <;> first | trivial | (intro n hn; simp at hn; omega) | (intro hh; cases hh; done) | (simp only [short]; decide +kernel) | decide +kernel | (intro hh; revert hh; decide +kernel))) ?_
      refine Tree.GivesP.chk (by first | (simp only [and_self]; done) | ((repeat' with_reducible refine And.intro ?_ ?_) <;> first | trivial | (intro n hn; simp at hn; omega) | (intro hh; cases hh; done) | (simp only [short]; decide +kernel) | decide +kernel | (intro hh; revert hh; decide +kernel))) ?_
      refine Tree.GivesP.br (fun h2 => ?_) (fun h2 => ?_)
      · (try simp only [decide_eq_true_eq, decide_eq_false_iff_not, Bool.not_eq_true', Bool.not_eq_false', beq_iff_eq, beq_eq_false_iff_ne, Int.not_lt, Int.not_le, ge_iff_le, gt_iff_lt, ne_eq, Bool.false_eq_true, Bool.true_eq_false, not_true_eq_false, not_false_eq_true, Bool.and_eq_true, Bool.not_eq_eq_eq_not, Bool.not_true, Bool.not_false, bne_iff_ne, bne_eq_false_iff_eq, Int.toNat_natCast, Nat.mul_one, Nat.add_zero, Nat.zero_add, List.take_length, List.drop_zero] at h2)
        all_goals
          refine Tree.GivesP.br (fun h3 => ?_) (fun h3 => ?_)
          · (try simp only [decide_eq_true_eq, decide_eq_false_iff_not, Bool.not_eq_true', Bool.not_eq_false', beq_iff_eq, beq_eq_false_iff_ne, Int.not_lt, Int.not_le, ge_iff_le, gt_iff_lt, ne_eq, Bool.false_eq_true, Bool.true_eq_false, not_true_eq_false, not_false_eq_true, Bool.and_eq_true, Bool.not_eq_eq_eq_not, Bool.not_true, Bool.not_false, bne_iff_ne, bne_eq_false_iff_eq, Int.toNat_natCast, Nat.mul_one, Nat.add_zero, Nat.zero_add, List.take_length, List.drop_zero] at h3)
            all_goals
              refine Tree.GivesP.chk (by first | (simp only [and_self]; done) | ((repeat' with_reducible refine And.intro ?_ ?_) <;> first | trivial | (intro n hn; simp at hn; omega) | (intro hh; cases hh; done) | (simp only [short]; decide +kernel) | decide +kernel | (intro hh; revert hh; decide +kernel))) ?_
              refine Tree.GivesP.br (fun h4 => ?_) (fun h4 => ?_)
              · (try simp only [decide_eq_true_eq, decide_eq_false_iff_not, Bool.not_eq_true', Bool.not_eq_false', beq_iff_eq, beq_eq_false_iff_ne, Int.not_lt, Int.not_le, ge_iff_le, gt_iff_lt, ne_eq, Bool.false_eq_true, Bool.true_eq_false, not_true_eq_false, not_false_eq_true, Bool.and_eq_true, Bool.not_eq_eq_eq_not, Bool.not_true, Bool.not_false, bne_iff_ne, bne_eq_false_iff_eq, Int.toNat_natCast, Nat.mul_one, Nat.add_zero, Nat.zero_add, List.take_length, List.drop_zero] at h4)
                all_goals
                  refine Tree.GivesP.br (fun h5 => ?_) (fun h5 => ?_)
                  · (try simp only [decide_eq_true_eq, decide_eq_false_iff_not, Bool.not_eq_true', Bool.not_eq_false', beq_iff_eq, beq_eq_false_iff_ne, Int.not_lt, Int.not_le, ge_iff_le, gt_iff_lt, ne_eq, Bool.false_eq_true, Bool.true_eq_false, not_true_eq_false, not_false_eq_true, Bool.and_eq_true, Bool.not_eq_eq_eq_not, Bool.not_true, Bool.not_false, bne_iff_ne, bne_eq_false_iff_eq, Int.toNat_natCast, Nat.mul_one, Nat.add_zero, Nat.zero_add, List.take_length, List.drop_zero] at h5)
                    all_goals
                      refine Tree.GivesP.br (fun h6 => ?_) (fun h6 => ?_)
                      · (try simp only [decide_eq_true_eq, decide_eq_false_iff_not, Bool.not_eq_true', Bool.not_eq_false', beq_iff_eq, beq_eq_false_iff_ne, Int.not_lt, Int.not_le, ge_iff_le, gt_iff_lt, ne_eq, Bool.false_eq_true, Bool.true_eq_false, not_true_eq_false, not_false_eq_true, Bool.and_eq_true, Bool.not_eq_eq_eq_not, Bool.not_true, Bool.not_false, bne_iff_ne, bne_eq_false_iff_eq, Int.toNat_natCast, Nat.mul_one, Nat.add_zero, Nat.zero_add, List.take_length, List.drop_zero] at h6)
                        all_goals
                          refine Tree.GivesP.chk (by first | (simp only [and_self]; done) | ((repeat' with_reducible refine And.intro ?_ ?_) <;> first | trivial | (intro n hn; simp at hn; omega) | (intro hh; cases hh; done) | (simp only [short]; decide +kernel) | decide +kernel | (intro hh; revert hh; decide +kernel))) ?_
                          refine Tree.GivesP.ret ?_ ?_
                          · simp only [AV.le]
                          · simp only [AV.leL, AV.le, Mem.le, Mem.leP, Blk.le, Blk.pad, Data.le, Data.size, Cap.le, and_true, true_and, and_self, true_implies, implies_true, imp_self, List.length_nil]
                      · (try simp only [decide_eq_true_eq, decide_eq_false_iff_not, Bool.not_eq_true', Bool.not_eq_false', beq_iff_eq, beq_eq_false_iff_ne, Int.not_lt, Int.not_le, ge_iff_le, gt_iff_lt, ne_eq, Bool.false_eq_true, Bool.true_eq_false, not_true_eq_false, not_false_eq_true, Bool.and_eq_true, Bool.not_eq_eq_eq_not, Bool.not_true, Bool.not_false, bne_iff_ne, bne_eq_false_iff_eq, Int.toNat_natCast, Nat.mul_one, Nat.add_zero, Nat.zero_add, List.take_length, List.drop_zero] at h6)
                        all_goals
                          refine Tree.GivesP.ret ?_ ?_
                          · simp only [AV.le]
                          · simp only [AV.leL, AV.le, Mem.le, Mem.leP, Blk.le, Blk.pad, Data.le, Data.size, Cap.le, and_true, true_and, and_self, true_implies, implies_true, imp_self, List.length_nil]
                  · (try simp only [decide_eq_true_eq, decide_eq_false_iff_not, Bool.not_eq_true', Bool.not_eq_false', beq_iff_eq, beq_eq_false_iff_ne, Int.not_lt, Int.not_le, ge_iff_le, gt_iff_lt, ne_eq, Bool.false_eq_true, Bool.true_eq_false, not_true_eq_false, not_false_eq_true, Bool.and_eq_true, Bool.not_eq_eq_eq_not, Bool.not_true, Bool.not_false, bne_iff_ne, bne_eq_false_iff_eq, Int.toNat_natCast, Nat.mul_one, Nat.add_zero, Nat.zero_add, List.take_length, List.drop_zero] at h5)
                    all_goals
                      refine Tree.GivesP.ret ?_ ?_
                      · simp only [AV.le]
                      · simp only [AV.leL, AV.le, Mem.le, Mem.leP, Blk.le, Blk.pad, Data.le, Data.size, Cap.le, and_true, true_and, and_self, true_implies, implies_true, imp_self, List.length_nil]
              · (try simp only [decide_eq_true_eq, decide_eq_false_iff_not, Bool.not_eq_true', Bool.not_eq_false', beq_iff_eq, beq_eq_false_iff_ne, Int.not_lt, Int.not_le, ge_iff_le, gt_iff_lt, ne_eq, Bool.false_eq_true, Bool.true_eq_false, not_true_eq_false, not_false_eq_true, Bool.and_eq_true, Bool.not_eq_eq_eq_not, Bool.not_true, Bool.not_false, bne_iff_ne, bne_eq_false_iff_eq, Int.toNat_natCast, Nat.mul_one, Nat.add_zero, Nat.zero_add, List.take_length, List.drop_zero] at h4)
                all_goals
                  refine Tree.GivesP.ret ?_ ?_
                  · simp only [AV.le]
                  · simp only [AV.leL, AV.le, Mem.le, Mem.leP, Blk.le, Blk.pad, Data.le, Data.size, Cap.le, and_true, true_and, and_self, true_implies, implies_true, imp_self, List.length_nil]
          · (try simp only [decide_eq_true_eq, decide_eq_false_iff_not, Bool.not_eq_true', Bool.not_eq_false', beq_iff_eq, beq_eq_false_iff_ne, Int.not_lt, Int.not_le, ge_iff_le, gt_iff_lt, ne_eq, Bool.false_eq_true, Bool.true_eq_false, not_true_eq_false, not_false_eq_true, Bool.and_eq_true, Bool.not_eq_eq_eq_not, Bool.not_true, Bool.not_false, bne_iff_ne, bne_eq_false_iff_eq, Int.toNat_natCast, Nat.mul_one, Nat.add_zero, Nat.zero_add, List.take_length, List.drop_zero] at h3)
            all_goals
              refine Tree.GivesP.ret ?_ ?_
              · simp only [AV.le]
              · simp only [AV.leL, AV.le, Mem.le, Mem.leP, Blk.le, Blk.pad, Data.le, Data.size, Cap.le, and_true, true_and, and_self, true_implies, implies_true, imp_self, List.length_nil]
      · (try simp only [decide_eq_true_eq, decide_eq_false_iff_not, Bool.not_eq_true', Bool.not_eq_false', beq_iff_eq, beq_eq_false_iff_ne, Int.not_lt, Int.not_le, ge_iff_le, gt_iff_lt, ne_eq, Bool.false_eq_true, Bool.true_eq_false, not_true_eq_false, not_false_eq_true, Bool.and_eq_true, Bool.not_eq_eq_eq_not, Bool.not_true, Bool.not_false, bne_iff_ne, bne_eq_false_iff_eq, Int.toNat_natCast, Nat.mul_one, Nat.add_zero, Nat.zero_add, List.take_length, List.drop_zero] at h2)
        all_goals
          refine Tree.GivesP.ret ?_ ?_
          · simp only [AV.le]
          · simp only [AV.leL, AV.le, Mem.le, Mem.leP, Blk.le, Blk.pad, Data.le, Data.size, Cap.le, and_true, true_and, and_self, true_implies, implies_true, imp_self, List.length_nil]
theorem sworks (hall : AllOk Try.prog 0 (fun _ => none) tab16)  (hw : True) : SoundAt (mkC Try.prog 0 (fun _ => none) []) 14 [] [] (.bool false true, []) := sound_ofP hall mix (tworks ) (gworks  hw)
theorem Fworks_ok (hall : AllOk Try.prog 0 (fun _ => none) tab16) : PureF Try.prog 3 14 Fworks := by
  intro xs c v news h hc
  unfold Fworks at h
  split at h
  · skip
    cases h
    refine ⟨(by intro b hb; cases hb), SoundAt.flags (sworks hall  hc) ?_⟩
    simp [PA.avs, AV.le, AV.leL, Cap.le]
  · cases h
end Go.Proofs.Ytnkjblmlchbfkaa.Rig

/- Qfields -/
namespace Go.Proofs.Ytnkjblmlchbfkaa.Rig
open Go
set_option maxRecDepth 100000 in
theorem tLfields_0 (zws : Bool) (ws : List Int) (zvs : Bool) (vs : List Int) (i : Nat) : tidied Tfields_0 Ufields_0 2 (evCode (mkL Try.prog 0 (fun _ => none) tab17 rowsfields) (evCall (mkC Try.prog 0 (fun _ => none) tab17) 50) 19 2 fuelC (bodyAt Try.prog 19 0) (hdfields_0 ⟨zws, ws, zvs, vs, i⟩)) =
  Tree.br (decide ((i : Int) < ((List.length ws) : Int)))
  (Tree.br (!zws && decide ((0 : Int) ≤ (i : Int) ∧ (i : Int) < ((List.length ws) : Int)))
  (Tree.br (decide (Int.toNat (i : Int) * 1 + 0 + 1 ≤ List.length ws))
  (Tree.br (!zvs && decide ((0 : Int) ≤ (i : Int) ∧ (i : Int) < ((List.length vs) : Int)))
  (Tree.br (decide (Int.toNat (i : Int) * 1 + 0 + 1 ≤ List.length vs))
  (Tree.br (decide (List.getD vs (Int.toNat (i : Int) * 1 + 0 + 0) (0 : Int) < (0 : Int)))
  (Tree.ret
  (Ex.ret,
  St.mk
  [jk, jk, jk, jk, AV.sl true (Ref.mk (0) (0) (0) (0)) true (0) Cap.exact, AV.int IntKind.i64 true (2 : Int), jk, jk, jk, jk, jk, jk,
  jk, jk, jk, jk, jk, jk, jk, jk, jk, jk, jk, jk, jk, jk, jk, jk, jk, jk, jk, jk, jk, jk, jk, jk,
  jk, jk, jk, jk, jk, jk, jk, jk, jk, jk, jk, jk, jk, jk, jk, jk, jk, jk, jk, jk, jk, jk, jk, jk,
  jk, jk, jk, jk, jk, jk, jk, jk, jk, jk, jk, jk, jk, jk, jk, jk, jk, jk, jk, jk]
  [some (Blk.mk (3) false false true (Data.ints IntKind.i64 ws)), some (Blk.mk (3) false false true (Data.ints IntKind.i64 vs))]))
  (Tree.br (!zvs && decide ((0 : Int) ≤ (i : Int) ∧ (i : Int) < ((List.length vs) : Int)))
  (Tree.br (decide (Int.toNat (i : Int) * 1 + 0 + 1 ≤ List.length vs))
  (Tree.br (!decide (List.getD ws (Int.toNat (i : Int) * 1 + 0 + 0) (0 : Int) < (0 : Int)))
  (Tree.br
  (Int.fdiv (List.getD vs (Int.toNat (i : Int) * 1 + 0 + 0) (0 : Int)) ((2 : Int) ^ min (Int.toNat (List.getD ws (Int.toNat (i : Int) * 1 + 0 + 0) (0 : Int))) (64)) !=
  (0 : Int))
  (Tree.ret
  (Ex.ret,
  St.mk
  [jk, jk, jk, jk, AV.sl true (Ref.mk (0) (0) (0) (0)) true (0) Cap.exact, AV.int IntKind.i64 true (2 : Int), jk, jk, jk, jk, jk,
  jk, jk, jk, jk, jk, jk, jk, jk, jk, jk, jk, jk, jk, jk, jk, jk, jk, jk, jk, jk, jk, jk, jk,
  jk, jk, jk, jk, jk, jk, jk, jk, jk, jk, jk, jk, jk, jk, jk, jk, jk, jk, jk, jk, jk, jk, jk,
  jk, jk, jk, jk, jk, jk, jk, jk, jk, jk, jk, jk, jk, jk, jk, jk, jk, jk, jk, jk, jk, jk, jk]
  [some (Blk.mk (3) false false true (Data.ints IntKind.i64 ws)), some (Blk.mk (3) false false true (Data.ints IntKind.i64 vs))]))
  (Tree.br (!decide (List.getD ws (Int.toNat (i : Int) * 1 + 0 + 0) (0 : Int) < (0 : Int)))
  (Tree.br (!zvs && decide ((0 : Int) ≤ (i : Int) ∧ (i : Int) < ((List.length vs) : Int)))
  (Tree.br (decide (Int.toNat (i : Int) * 1 + 0 + 1 ≤ List.length vs))
  (Tree.br (decide (IntKind.wrap IntKind.i64 (roomTo ws vs i + List.getD ws (Int.toNat (i : Int) * 1 + 0 + 0) (0 : Int)) ≥ (16 : Int)))
  (Tree.br (!decide (IntKind.wrap IntKind.i64 (IntKind.wrap IntKind.i64 (roomTo ws vs i + List.getD ws (Int.toNat (i : Int) * 1 + 0 + 0) (0 : Int)) - (16 : Int)) < (0 : Int)))
  (Tree.br (decide (((List.length (outTo ws vs i) + 1) : Int) ≤ most48 ∧ (((List.length (outTo ws vs i) + 1) * 8) : Int) ≤ most48))
  (Tree.br
  (decide
  (List.length (outTo ws vs i) * 1 = Data.size (Data.ints IntKind.i64 (outTo ws vs i)) ∧
  Data.size
  (Data.cells
  (List.take (1 * 1)
  (List.drop (0)
  (List.take (0 * 1) (zerosOf (List.map ofCell [Value.int IntKind.i64 (0 : Int)]) 1) ++
  (AV.parts
  (opnd (mkL Try.prog 0 (fun x => none) tab17 rowsfields)
  [jk, AV.sl zvs (Ref.mk 1 0 0 0) false (List.length vs) Cap.any, jk, jk, jk, jk, jk,
  AV.sl (decide (outTo ws vs i = [])) (Ref.mk 2 0 0 0) false (List.length (outTo ws vs i)) Cap.own,
  AV.int IntKind.i64 false
  (IntKind.wrap IntKind.i64 (IntKind.wrap IntKind.i64 (roomTo ws vs i + List.getD ws (Int.toNat (i : Int) * 1 + 0 + 0) (0 : Int)) - (16 : Int))),
  AV.int IntKind.i64 false
  (IntKind.wrap IntKind.i64
  ((BitVec.toNat
  (BitVec.ofInt (64)
  (IntKind.wrap IntKind.i64
  (lastTo ws vs i * (2 : Int) ^ min (Int.toNat (List.getD ws (Int.toNat (i : Int) * 1 + 0 + 0) (0 : Int))) (64))) |||
  BitVec.ofInt (64) (List.getD vs (Int.toNat (i : Int) * 1 + 0 + 0) (0 : Int)))) : Int)),
  AV.int IntKind.i64 false (i : Int), AV.int IntKind.i64 false (List.getD ws (Int.toNat (i : Int) * 1 + 0 + 0) (0 : Int)), jk, jk, jk, jk,
  jk, jk, jk, jk, jk, jk, AV.sl zws (Ref.mk 0 0 0 0) false (List.length ws) Cap.any,
  AV.int IntKind.i64 false ((List.length ws) : Int), AV.int IntKind.i64 false (i : Int), AV.bool true true, AV.int IntKind.i64 false (i : Int),
  AV.ptr (Ref.mk (0) (Int.toNat (i : Int)) (1) (0)), AV.int IntKind.i64 false (List.getD ws (Int.toNat (i : Int) * 1 + 0 + 0) (0 : Int)),
  AV.sl zvs (Ref.mk 1 0 0 0) false (List.length vs) Cap.any, AV.int IntKind.i64 false (i : Int),
  AV.ptr (Ref.mk (1) (Int.toNat (i : Int)) (1) (0)), AV.int IntKind.i64 false (List.getD vs (Int.toNat (i : Int) * 1 + 0 + 0) (0 : Int)),
  AV.bool false (decide (List.getD vs (Int.toNat (i : Int) * 1 + 0 + 0) (0 : Int) < (0 : Int))), AV.bool true false,
  AV.sl zvs (Ref.mk 1 0 0 0) false (List.length vs) Cap.any, AV.int IntKind.i64 false (i : Int),
  AV.ptr (Ref.mk (1) (Int.toNat (i : Int)) (1) (0)), AV.int IntKind.i64 false (List.getD vs (Int.toNat (i : Int) * 1 + 0 + 0) (0 : Int)),
  AV.int IntKind.i64 false (List.getD ws (Int.toNat (i : Int) * 1 + 0 + 0) (0 : Int)),
  AV.int IntKind.i64 false
  (Int.fdiv (List.getD vs (Int.toNat (i : Int) * 1 + 0 + 0) (0 : Int))
  ((2 : Int) ^ min (Int.toNat (List.getD ws (Int.toNat (i : Int) * 1 + 0 + 0) (0 : Int))) (64))),
  AV.bool false
  (Int.fdiv (List.getD vs (Int.toNat (i : Int) * 1 + 0 + 0) (0 : Int))
  ((2 : Int) ^ min (Int.toNat (List.getD ws (Int.toNat (i : Int) * 1 + 0 + 0) (0 : Int))) (64)) !=
  (0 : Int)),
  AV.bool true false, AV.int IntKind.i64 false (lastTo ws vs i), AV.int IntKind.i64 false (List.getD ws (Int.toNat (i : Int) * 1 + 0 + 0) (0 : Int)),
  AV.int IntKind.i64 false
  (IntKind.wrap IntKind.i64 (lastTo ws vs i * (2 : Int) ^ min (Int.toNat (List.getD ws (Int.toNat (i : Int) * 1 + 0 + 0) (0 : Int))) (64))),
  AV.sl zvs (Ref.mk 1 0 0 0) false (List.length vs) Cap.any, AV.int IntKind.i64 false (i : Int),
  AV.ptr (Ref.mk (1) (Int.toNat (i : Int)) (1) (0)), AV.int IntKind.i64 false (List.getD vs (Int.toNat (i : Int) * 1 + 0 + 0) (0 : Int)),
  AV.int IntKind.i64 false
  (IntKind.wrap IntKind.i64
  ((BitVec.toNat
  (BitVec.ofInt (64)
  (IntKind.wrap IntKind.i64
  (lastTo ws vs i * (2 : Int) ^ min (Int.toNat (List.getD ws (Int.toNat (i : Int) * 1 + 0 + 0) (0 : Int))) (64))) |||
  BitVec.ofInt (64) (List.getD vs (Int.toNat (i : Int) * 1 + 0 + 0) (0 : Int)))) : Int)),
  AV.int IntKind.i64 false (roomTo ws vs i), AV.int IntKind.i64 false (List.getD ws (Int.toNat (i : Int) * 1 + 0 + 0) (0 : Int)),
  AV.int IntKind.i64 false (IntKind.wrap IntKind.i64 (roomTo ws vs i + List.getD ws (Int.toNat (i : Int) * 1 + 0 + 0) (0 : Int))),
  AV.int IntKind.i64 false (IntKind.wrap IntKind.i64 (roomTo ws vs i + List.getD ws (Int.toNat (i : Int) * 1 + 0 + 0) (0 : Int))), AV.bool true true,
  AV.int IntKind.i64 false (IntKind.wrap IntKind.i64 (roomTo ws vs i + List.getD ws (Int.toNat (i : Int) * 1 + 0 + 0) (0 : Int))),
  AV.int IntKind.i64 false
  (IntKind.wrap IntKind.i64 (IntKind.wrap IntKind.i64 (roomTo ws vs i + List.getD ws (Int.toNat (i : Int) * 1 + 0 + 0) (0 : Int)) - (16 : Int))),
  AV.sl (decide (outTo ws vs i = [])) (Ref.mk 2 0 0 0) false (List.length (outTo ws vs i)) Cap.own,
  AV.int IntKind.i64 false
  (IntKind.wrap IntKind.i64
  ((BitVec.toNat
  (BitVec.ofInt (64)
  (IntKind.wrap IntKind.i64
  (lastTo ws vs i * (2 : Int) ^ min (Int.toNat (List.getD ws (Int.toNat (i : Int) * 1 + 0 + 0) (0 : Int))) (64))) |||
  BitVec.ofInt (64) (List.getD vs (Int.toNat (i : Int) * 1 + 0 + 0) (0 : Int)))) : Int)),
  AV.int IntKind.i64 false
  (IntKind.wrap IntKind.i64 (IntKind.wrap IntKind.i64 (roomTo ws vs i + List.getD ws (Int.toNat (i : Int) * 1 + 0 + 0) (0 : Int)) - (16 : Int))),
  AV.int IntKind.i64 false
  (Int.fdiv
  (IntKind.wrap IntKind.i64
  ((BitVec.toNat
  (BitVec.ofInt (64)
  (IntKind.wrap IntKind.i64
  (lastTo ws vs i * (2 : Int) ^ min (Int.toNat (List.getD ws (Int.toNat (i : Int) * 1 + 0 + 0) (0 : Int))) (64))) |||
  BitVec.ofInt (64) (List.getD vs (Int.toNat (i : Int) * 1 + 0 + 0) (0 : Int)))) : Int))
  ((2 : Int) ^
  min
  (Int.toNat
  (IntKind.wrap IntKind.i64
  (IntKind.wrap IntKind.i64 (roomTo ws vs i + List.getD ws (Int.toNat (i : Int) * 1 + 0 + 0) (0 : Int)) - (16 : Int))))
  (64))),
  jk, jk, jk, jk, jk, jk, jk, jk, jk, jk, jk, jk, jk, jk, jk, jk, jk, jk]
  (Operand.tmp 61)) ++
  List.drop (0 * 1 + 1) (zerosOf (List.map ofCell [Value.int IntKind.i64 (0 : Int)]) 1)))))) =
  1 * 1) &&
  decide (outTo ws vs i = []) == decide ((outTo ws vs i) = []))
  (Tree.br (!decide (IntKind.wrap IntKind.i64 (IntKind.wrap IntKind.i64 (roomTo ws vs i + List.getD ws (Int.toNat (i : Int) * 1 + 0 + 0) (0 : Int)) - (16 : Int)) < (0 : Int)))
  (Tree.ret
  (Ex.norm,
  St.mk
  [jk, AV.sl zvs (Ref.mk (1) (0) (0) (0)) false (List.length vs) Cap.any, jk, jk, jk, jk, jk,
  AV.sl (decide (outTo ws vs i = []) && decide (1 = 0)) (Ref.mk (2) (0) (0) (0)) false (List.length (outTo ws vs i) + 1)
  Cap.own,
  AV.int IntKind.i64 false
  (IntKind.wrap IntKind.i64 (IntKind.wrap IntKind.i64 (roomTo ws vs i + List.getD ws (Int.toNat (i : Int) * 1 + 0 + 0) (0 : Int)) - (16 : Int))),
  AV.int IntKind.i64 false
  (IntKind.wrap IntKind.i64
  ((BitVec.toNat
  (BitVec.ofInt (64)
  (IntKind.wrap IntKind.i64
  ((BitVec.toNat
  (BitVec.ofInt (64)
  (IntKind.wrap IntKind.i64
  (lastTo ws vs i * (2 : Int) ^ min (Int.toNat (List.getD ws (Int.toNat (i : Int) * 1 + 0 + 0) (0 : Int))) (64))) |||
  BitVec.ofInt (64) (List.getD vs (Int.toNat (i : Int) * 1 + 0 + 0) (0 : Int)))) : Int)) &&&
  BitVec.ofInt (64)
  (IntKind.wrap IntKind.i64
  (IntKind.wrap IntKind.i64
  ((1 : Int) *
  (2 : Int) ^
  min
  (Int.toNat
  (IntKind.wrap IntKind.i64
  (IntKind.wrap IntKind.i64 (roomTo ws vs i + List.getD ws (Int.toNat (i : Int) * 1 + 0 + 0) (0 : Int)) - (16 : Int))))
  (64)) -
  (1 : Int))))) : Int)),
  jk, jk, jk, jk, jk, jk, jk, jk, jk, jk, jk, jk,
  AV.sl zws (Ref.mk (0) (0) (0) (0)) false (List.length ws) Cap.any, AV.int IntKind.i64 false ((List.length ws) : Int),
  AV.int IntKind.i64 false (IntKind.wrap IntKind.i64 ((i : Int) + (1 : Int))), jk, jk, jk, jk, jk, jk, jk, jk, jk, jk, jk, jk, jk,
  jk, jk, jk, jk, jk, jk, jk, jk, jk, jk, jk, jk, jk, jk, jk, jk, jk, jk, jk, jk, jk,
  jk, jk, jk, jk, jk, jk, jk, jk, jk, jk, jk, jk, jk, jk, jk, jk, jk, jk, jk, jk, jk]
  [some (Blk.mk (3) false false true (Data.ints IntKind.i64 ws)), some (Blk.mk (3) false false true (Data.ints IntKind.i64 vs)),
  some
  (Blk.mk (3) true (Bool.rec false (decide (1 = 0)) (decide ((outTo ws vs i) = []))) true
  (Data.ints IntKind.i64
  (outTo ws vs i ++
  [Int.fdiv
  (IntKind.wrap IntKind.i64
  ((BitVec.toNat
  (BitVec.ofInt (64)
  (IntKind.wrap IntKind.i64
  (lastTo ws vs i * (2 : Int) ^ min (Int.toNat (List.getD ws (Int.toNat (i : Int) * 1 + 0 + 0) (0 : Int))) (64))) |||
  BitVec.ofInt (64) (List.getD vs (Int.toNat (i : Int) * 1 + 0 + 0) (0 : Int)))) : Int))
  ((2 : Int) ^
  min
  (Int.toNat
  (IntKind.wrap IntKind.i64 (IntKind.wrap IntKind.i64 (roomTo ws vs i + List.getD ws (Int.toNat (i : Int) * 1 + 0 + 0) (0 : Int)) - (16 : Int))))
  (64))])))]))
  Tree.fail)
  Tree.fail)
  Tree.fail)
  Tree.fail)
  (Tree.ret
  (Ex.norm,
  St.mk
  [jk, AV.sl zvs (Ref.mk (1) (0) (0) (0)) false (List.length vs) Cap.any, jk, jk, jk, jk, jk,
  AV.sl (decide (outTo ws vs i = [])) (Ref.mk (2) (0) (0) (0)) false (List.length (outTo ws vs i)) Cap.own,
  AV.int IntKind.i64 false (IntKind.wrap IntKind.i64 (roomTo ws vs i + List.getD ws (Int.toNat (i : Int) * 1 + 0 + 0) (0 : Int))),
  AV.int IntKind.i64 false
  (IntKind.wrap IntKind.i64
  ((BitVec.toNat
  (BitVec.ofInt (64)
  (IntKind.wrap IntKind.i64 (lastTo ws vs i * (2 : Int) ^ min (Int.toNat (List.getD ws (Int.toNat (i : Int) * 1 + 0 + 0) (0 : Int))) (64))) |||
  BitVec.ofInt (64) (List.getD vs (Int.toNat (i : Int) * 1 + 0 + 0) (0 : Int)))) : Int)),
  jk, jk, jk, jk, jk, jk, jk, jk, jk, jk, jk, jk,
  AV.sl zws (Ref.mk (0) (0) (0) (0)) false (List.length ws) Cap.any, AV.int IntKind.i64 false ((List.length ws) : Int),
  AV.int IntKind.i64 false (IntKind.wrap IntKind.i64 ((i : Int) + (1 : Int))), jk, jk, jk, jk, jk, jk, jk, jk, jk, jk, jk, jk, jk, jk,
  jk, jk, jk, jk, jk, jk, jk, jk, jk, jk, jk, jk, jk, jk, jk, jk, jk, jk, jk, jk, jk, jk,
  jk, jk, jk, jk, jk, jk, jk, jk, jk, jk, jk, jk, jk, jk, jk, jk, jk, jk, jk]
  [some (Blk.mk (3) false false true (Data.ints IntKind.i64 ws)), some (Blk.mk (3) false false true (Data.ints IntKind.i64 vs)),
  some (Blk.mk (3) true (decide ((outTo ws vs i) = [])) true (Data.ints IntKind.i64 (outTo ws vs i)))])))
  Tree.fail)
  Tree.fail)
  Tree.fail))
  Tree.fail)
  Tree.fail)
  Tree.fail))
  Tree.fail)
  Tree.fail)
  Tree.fail)
  Tree.fail)
  (Tree.ret
  (Ex.exit (0),
  St.mk
  [jk, jk, jk, jk, jk, jk, jk, AV.sl (decide (outTo ws vs i = [])) (Ref.mk (2) (0) (0) (0)) false (List.length (outTo ws vs i)) Cap.own,
  AV.int IntKind.i64 false (roomTo ws vs i), AV.int IntKind.i64 false (lastTo ws vs i), jk, jk, jk, jk, jk, jk, jk, jk, jk, jk, jk, jk, jk, jk,
  jk, jk, jk, jk, jk, jk, jk, jk, jk, jk, jk, jk, jk, jk, jk, jk, jk, jk, jk, jk, jk, jk, jk, jk, jk,
  jk, jk, jk, jk, jk, jk, jk, jk, jk, jk, jk, jk, jk, jk, jk, jk, jk, jk, jk, jk, jk, jk, jk, jk, jk,
  jk, jk, jk, jk, jk, jk]
  [some (Blk.mk (3) false false true (Data.ints IntKind.i64 ws)), some (Blk.mk (3) false false true (Data.ints IntKind.i64 vs)),
  some (Blk.mk (3) true (decide ((outTo ws vs i) = [])) true (Data.ints IntKind.i64 (outTo ws vs i)))])) := by kernel_rfl
set_option maxRecDepth 100000 in
theorem stepfields_0 (zws : Bool) (ws : List Int) (zvs : Bool) (vs : List Int) (i : Nat) (ex : Ex) (r : St) (hok : okfields_0 ⟨zws, ws, zvs, vs, i⟩) (hr : (outfields_0 ⟨zws, ws, zvs, vs, i⟩).runs (ex, r)) : (Tree.br (decide ((i : Int) < ((List.length ws) : Int)))
  (Tree.br (!zws && decide ((0 : Int) ≤ (i : Int) ∧ (i : Int) < ((List.length ws) : Int)))
  (Tree.br (decide (Int.toNat (i : Int) * 1 + 0 + 1 ≤ List.length ws))
  (Tree.br (!zvs && decide ((0 : Int) ≤ (i : Int) ∧ (i : Int) < ((List.length vs) : Int)))
  (Tree.br (decide (Int.toNat (i : Int) * 1 + 0 + 1 ≤ List.length vs))
  (Tree.br (decide (List.getD vs (Int.toNat (i : Int) * 1 + 0 + 0) (0 : Int) < (0 : Int)))
  (Tree.ret
  (Ex.ret,
  St.mk
  [jk, jk, jk, jk, AV.sl true (Ref.mk (0) (0) (0) (0)) true (0) Cap.exact, AV.int IntKind.i64 true (2 : Int), jk, jk, jk, jk, jk, jk,
  jk, jk, jk, jk, jk, jk, jk, jk, jk, jk, jk, jk, jk, jk, jk, jk, jk, jk, jk, jk, jk, jk, jk, jk,
  jk, jk, jk, jk, jk, jk, jk, jk, jk, jk, jk, jk, jk, jk, jk, jk, jk, jk, jk, jk, jk, jk, jk, jk,
  jk, jk, jk, jk, jk, jk, jk, jk, jk, jk, jk, jk, jk, jk, jk, jk, jk, jk, jk, jk]
  [some (Blk.mk (3) false false true (Data.ints IntKind.i64 ws)), some (Blk.mk (3) false false true (Data.ints IntKind.i64 vs))]))
  (Tree.br (!zvs && decide ((0 : Int) ≤ (i : Int) ∧ (i : Int) < ((List.length vs) : Int)))
  (Tree.br (decide (Int.toNat (i : Int) * 1 + 0 + 1 ≤ List.length vs))
  (Tree.br (!decide (List.getD ws (Int.toNat (i : Int) * 1 + 0 + 0) (0 : Int) < (0 : Int)))
  (Tree.br
  (Int.fdiv (List.getD vs (Int.toNat (i : Int) * 1 + 0 + 0) (0 : Int)) ((2 : Int) ^ min (Int.toNat (List.getD ws (Int.toNat (i : Int) * 1 + 0 + 0) (0 : Int))) (64)) !=
  (0 : Int))
  (Tree.ret
  (Ex.ret,
  St.mk
  [jk, jk, jk, jk, AV.sl true (Ref.mk (0) (0) (0) (0)) true (0) Cap.exact, AV.int IntKind.i64 true (2 : Int), jk, jk, jk, jk, jk,
  jk, jk, jk, jk, jk, jk, jk, jk, jk, jk, jk, jk, jk, jk, jk, jk, jk, jk, jk, jk, jk, jk, jk,
  jk, jk, jk, jk, jk, jk, jk, jk, jk, jk, jk, jk, jk, jk, jk, jk, jk, jk, jk, jk, jk, jk, jk,
  jk, jk, jk, jk, jk, jk, jk, jk, jk, jk, jk, jk, jk, jk, jk, jk, jk, jk, jk, jk, jk, jk, jk]
  [some (Blk.mk (3) false false true (Data.ints IntKind.i64 ws)), some (Blk.mk (3) false false true (Data.ints IntKind.i64 vs))]))
  (Tree.br (!decide (List.getD ws (Int.toNat (i : Int) * 1 + 0 + 0) (0 : Int) < (0 : Int)))
  (Tree.br (!zvs && decide ((0 : Int) ≤ (i : Int) ∧ (i : Int) < ((List.length vs) : Int)))
  (Tree.br (decide (Int.toNat (i : Int) * 1 + 0 + 1 ≤ List.length vs))
  (Tree.br (decide (IntKind.wrap IntKind.i64 (roomTo ws vs i + List.getD ws (Int.toNat (i : Int) * 1 + 0 + 0) (0 : Int)) ≥ (16 : Int)))
  (Tree.br (!decide (IntKind.wrap IntKind.i64 (IntKind.wrap IntKind.i64 (roomTo ws vs i + List.getD ws (Int.toNat (i : Int) * 1 + 0 + 0) (0 : Int)) - (16 : Int)) < (0 : Int)))
  (Tree.br (decide (((List.length (outTo ws vs i) + 1) : Int) ≤ most48 ∧ (((List.length (outTo ws vs i) + 1) * 8) : Int) ≤ most48))
  (Tree.br
  (decide
  (List.length (outTo ws vs i) * 1 = Data.size (Data.ints IntKind.i64 (outTo ws vs i)) ∧
  Data.size
  (Data.cells
  (List.take (1 * 1)
  (List.drop (0)
  (List.take (0 * 1) (zerosOf (List.map ofCell [Value.int IntKind.i64 (0 : Int)]) 1) ++
  (AV.parts
  (opnd (mkL Try.prog 0 (fun x => none) tab17 rowsfields)
  [jk, AV.sl zvs (Ref.mk 1 0 0 0) false (List.length vs) Cap.any, jk, jk, jk, jk, jk,
  AV.sl (decide (outTo ws vs i = [])) (Ref.mk 2 0 0 0) false (List.length (outTo ws vs i)) Cap.own,
  AV.int IntKind.i64 false
  (IntKind.wrap IntKind.i64 (IntKind.wrap IntKind.i64 (roomTo ws vs i + List.getD ws (Int.toNat (i : Int) * 1 + 0 + 0) (0 : Int)) - (16 : Int))),
  AV.int IntKind.i64 false
  (IntKind.wrap IntKind.i64
  ((BitVec.toNat
  (BitVec.ofInt (64)
  (IntKind.wrap IntKind.i64
  (lastTo ws vs i * (2 : Int) ^ min (Int.toNat (List.getD ws (Int.toNat (i : Int) * 1 + 0 + 0) (0 : Int))) (64))) |||
  BitVec.ofInt (64) (List.getD vs (Int.toNat (i : Int) * 1 + 0 + 0) (0 : Int)))) : Int)),
  AV.int IntKind.i64 false (i : Int), AV.int IntKind.i64 false (List.getD ws (Int.toNat (i : Int) * 1 + 0 + 0) (0 : Int)), jk, jk, jk, jk,
  jk, jk, jk, jk, jk, jk, AV.sl zws (Ref.mk 0 0 0 0) false (List.length ws) Cap.any,
  AV.int IntKind.i64 false ((List.length ws) : Int), AV.int IntKind.i64 false (i : Int), AV.bool true true, AV.int IntKind.i64 false (i : Int),
  AV.ptr (Ref.mk (0) (Int.toNat (i : Int)) (1) (0)), AV.int IntKind.i64 false (List.getD ws (Int.toNat (i : Int) * 1 + 0 + 0) (0 : Int)),
  AV.sl zvs (Ref.mk 1 0 0 0) false (List.length vs) Cap.any, AV.int IntKind.i64 false (i : Int),
  AV.ptr (Ref.mk (1) (Int.toNat (i : Int)) (1) (0)), AV.int IntKind.i64 false (List.getD vs (Int.toNat (i : Int) * 1 + 0 + 0) (0 : Int)),
  AV.bool false (decide (List.getD vs (Int.toNat (i : Int) * 1 + 0 + 0) (0 : Int) < (0 : Int))), AV.bool true false,
  AV.sl zvs (Ref.mk 1 0 0 0) false (List.length vs) Cap.any, AV.int IntKind.i64 false (i : Int),
  AV.ptr (Ref.mk (1) (Int.toNat (i : Int)) (1) (0)), AV.int IntKind.i64 false (List.getD vs (Int.toNat (i : Int) * 1 + 0 + 0) (0 : Int)),
  AV.int IntKind.i64 false (List.getD ws (Int.toNat (i : Int) * 1 + 0 + 0) (0 : Int)),
  AV.int IntKind.i64 false
  (Int.fdiv (List.getD vs (Int.toNat (i : Int) * 1 + 0 + 0) (0 : Int))
  ((2 : Int) ^ min (Int.toNat (List.getD ws (Int.toNat (i : Int) * 1 + 0 + 0) (0 : Int))) (64))),
  AV.bool false
  (Int.fdiv (List.getD vs (Int.toNat (i : Int) * 1 + 0 + 0) (0 : Int))
  ((2 : Int) ^ min (Int.toNat (List.getD ws (Int.toNat (i : Int) * 1 + 0 + 0) (0 : Int))) (64)) !=
  (0 : Int)),
  AV.bool true false, AV.int IntKind.i64 false (lastTo ws vs i), AV.int IntKind.i64 false (List.getD ws (Int.toNat (i : Int) * 1 + 0 + 0) (0 : Int)),
  AV.int IntKind.i64 false
  (IntKind.wrap IntKind.i64 (lastTo ws vs i * (2 : Int) ^ min (Int.toNat (List.getD ws (Int.toNat (i : Int) * 1 + 0 + 0) (0 : Int))) (64))),
  AV.sl zvs (Ref.mk 1 0 0 0) false (List.length vs) Cap.any, AV.int IntKind.i64 false (i : Int),
  AV.ptr (Ref.mk (1) (Int.toNat (i : Int)) (1) (0)), AV.int IntKind.i64 false (List.getD vs (Int.toNat (i : Int) * 1 + 0 + 0) (0 : Int)),
  AV.int IntKind.i64 false
  (IntKind.wrap IntKind.i64
  ((BitVec.toNat
  (BitVec.ofInt (64)
  (IntKind.wrap IntKind.i64
  (lastTo ws vs i * (2 : Int) ^ min (Int.toNat (List.getD ws (Int.toNat (i : Int) * 1 + 0 + 0) (0 : Int))) (64))) |||
  BitVec.ofInt (64) (List.getD vs (Int.toNat (i : Int) * 1 + 0 + 0) (0 : Int)))) : Int)),
  AV.int IntKind.i64 false (roomTo ws vs i), AV.int IntKind.i64 false (List.getD ws (Int.toNat (i : Int) * 1 + 0 + 0) (0 : Int)),
  AV.int IntKind.i64 false (IntKind.wrap IntKind.i64 (roomTo ws vs i + List.getD ws (Int.toNat (i : Int) * 1 + 0 + 0) (0 : Int))),
  AV.int IntKind.i64 false (IntKind.wrap IntKind.i64 (roomTo ws vs i + List.getD ws (Int.toNat (i : Int) * 1 + 0 + 0) (0 : Int))), AV.bool true true,
  AV.int IntKind.i64 false (IntKind.wrap IntKind.i64 (roomTo ws vs i + List.getD ws (Int.toNat (i : Int) * 1 + 0 + 0) (0 : Int))),
  AV.int IntKind.i64 false
  (IntKind.wrap IntKind.i64 (IntKind.wrap IntKind.i64 (roomTo ws vs i + List.getD ws (Int.toNat (i : Int) * 1 + 0 + 0) (0 : Int)) - (16 : Int))),
  AV.sl (decide (outTo ws vs i = [])) (Ref.mk 2 0 0 0) false (List.length (outTo ws vs i)) Cap.own,
  AV.int IntKind.i64 false
  (IntKind.wrap IntKind.i64
  ((BitVec.toNat
  (BitVec.ofInt (64)
  (IntKind.wrap IntKind.i64
  (lastTo ws vs i * (2 : Int) ^ min (Int.toNat (List.getD ws (Int.toNat (i : Int) * 1 + 0 + 0) (0 : Int))) (64))) |||
  BitVec.ofInt (64) (List.getD vs (Int.toNat (i : Int) * 1 + 0 + 0) (0 : Int)))) : Int)),
  AV.int IntKind.i64 false
  (IntKind.wrap IntKind.i64 (IntKind.wrap IntKind.i64 (roomTo ws vs i + List.getD ws (Int.toNat (i : Int) * 1 + 0 + 0) (0 : Int)) - (16 : Int))),
  AV.int IntKind.i64 false
  (Int.fdiv
  (IntKind.wrap IntKind.i64
  ((BitVec.toNat
  (BitVec.ofInt (64)
  (IntKind.wrap IntKind.i64
  (lastTo ws vs i * (2 : Int) ^ min (Int.toNat (List.getD ws (Int.toNat (i : Int) * 1 + 0 + 0) (0 : Int))) (64))) |||
  BitVec.ofInt (64) (List.getD vs (Int.toNat (i : Int) * 1 + 0 + 0) (0 : Int)))) : Int))
  ((2 : Int) ^
  min
  (Int.toNat
  (IntKind.wrap IntKind.i64
  (IntKind.wrap IntKind.i64 (roomTo ws vs i + List.getD ws (Int.toNat (i : Int) * 1 + 0 + 0) (0 : Int)) - (16 : Int))))
  (64))),
  jk, jk, jk, jk, jk, jk, jk, jk, jk, jk, jk, jk, jk, jk, jk, jk, jk, jk]
  (Operand.tmp 61)) ++
  List.drop (0 * 1 + 1) (zerosOf (List.map ofCell [Value.int IntKind.i64 (0 : Int)]) 1)))))) =
  1 * 1) &&
  decide (outTo ws vs i = []) == decide ((outTo ws vs i) = []))
  (Tree.br (!decide (IntKind.wrap IntKind.i64 (IntKind.wrap IntKind.i64 (roomTo ws vs i + List.getD ws (Int.toNat (i : Int) * 1 + 0 + 0) (0 : Int)) - (16 : Int)) < (0 : Int)))
  (Tree.ret
  (Ex.norm,
  St.mk
  [jk, AV.sl zvs (Ref.mk (1) (0) (0) (0)) false (List.length vs) Cap.any, jk, jk, jk, jk, jk,
  AV.sl (decide (outTo ws vs i = []) && decide (1 = 0)) (Ref.mk (2) (0) (0) (0)) false (List.length (outTo ws vs i) + 1)
  Cap.own,
  AV.int IntKind.i64 false
  (IntKind.wrap IntKind.i64 (IntKind.wrap IntKind.i64 (roomTo ws vs i + List.getD ws (Int.toNat (i : Int) * 1 + 0 + 0) (0 : Int)) - (16 : Int))),
  AV.int IntKind.i64 false
  (IntKind.wrap IntKind.i64
  ((BitVec.toNat
  (BitVec.ofInt (64)
  (IntKind.wrap IntKind.i64
  ((BitVec.toNat
  (BitVec.ofInt (64)
  (IntKind.wrap IntKind.i64
  (lastTo ws vs i * (2 : Int) ^ min (Int.toNat (List.getD ws (Int.toNat (i : Int) * 1 + 0 + 0) (0 : Int))) (64))) |||
  BitVec.ofInt (64) (List.getD vs (Int.toNat (i : Int) * 1 + 0 + 0) (0 : Int)))) : Int)) &&&
  BitVec.ofInt (64)
  (IntKind.wrap IntKind.i64
  (IntKind.wrap IntKind.i64
  ((1 : Int) *
  (2 : Int) ^
  min
  (Int.toNat
  (IntKind.wrap IntKind.i64
  (IntKind.wrap IntKind.i64 (roomTo ws vs i + List.getD ws (Int.toNat (i : Int) * 1 + 0 + 0) (0 : Int)) - (16 : Int))))
  (64)) -
  (1 : Int))))) : Int)),
  jk, jk, jk, jk, jk, jk, jk, jk, jk, jk, jk, jk,
  AV.sl zws (Ref.mk (0) (0) (0) (0)) false (List.length ws) Cap.any, AV.int IntKind.i64 false ((List.length ws) : Int),
  AV.int IntKind.i64 false (IntKind.wrap IntKind.i64 ((i : Int) + (1 : Int))), jk, jk, jk, jk, jk, jk, jk, jk, jk, jk, jk, jk, jk,
  jk, jk, jk, jk, jk, jk, jk, jk, jk, jk, jk, jk, jk, jk, jk, jk, jk, jk, jk, jk, jk,
  jk, jk, jk, jk, jk, jk, jk, jk, jk, jk, jk, jk, jk, jk, jk, jk, jk, jk, jk, jk, jk]
  [some (Blk.mk (3) false false true (Data.ints IntKind.i64 ws)), some (Blk.mk (3) false false true (Data.ints IntKind.i64 vs)),
  some
  (Blk.mk (3) true (Bool.rec false (decide (1 = 0)) (decide ((outTo ws vs i) = []))) true
  (Data.ints IntKind.i64
  (outTo ws vs i ++
  [Int.fdiv
  (IntKind.wrap IntKind.i64
  ((BitVec.toNat
  (BitVec.ofInt (64)
  (IntKind.wrap IntKind.i64
  (lastTo ws vs i * (2 : Int) ^ min (Int.toNat (List.getD ws (Int.toNat (i : Int) * 1 + 0 + 0) (0 : Int))) (64))) |||
  BitVec.ofInt (64) (List.getD vs (Int.toNat (i : Int) * 1 + 0 + 0) (0 : Int)))) : Int))
  ((2 : Int) ^
  min
  (Int.toNat
  (IntKind.wrap IntKind.i64 (IntKind.wrap IntKind.i64 (roomTo ws vs i + List.getD ws (Int.toNat (i : Int) * 1 + 0 + 0) (0 : Int)) - (16 : Int))))
  (64))])))]))
  Tree.fail)
  Tree.fail)
  Tree.fail)
  Tree.fail)
  (Tree.ret
  (Ex.norm,
  St.mk
  [jk, AV.sl zvs (Ref.mk (1) (0) (0) (0)) false (List.length vs) Cap.any, jk, jk, jk, jk, jk,
  AV.sl (decide (outTo ws vs i = [])) (Ref.mk (2) (0) (0) (0)) false (List.length (outTo ws vs i)) Cap.own,
  AV.int IntKind.i64 false (IntKind.wrap IntKind.i64 (roomTo ws vs i + List.getD ws (Int.toNat (i : Int) * 1 + 0 + 0) (0 : Int))),
  AV.int IntKind.i64 false
  (IntKind.wrap IntKind.i64
  ((BitVec.toNat
  (BitVec.ofInt (64)
  (IntKind.wrap IntKind.i64 (lastTo ws vs i * (2 : Int) ^ min (Int.toNat (List.getD ws (Int.toNat (i : Int) * 1 + 0 + 0) (0 : Int))) (64))) |||
  BitVec.ofInt (64) (List.getD vs (Int.toNat (i : Int) * 1 + 0 + 0) (0 : Int)))) : Int)),
  jk, jk, jk, jk, jk, jk, jk, jk, jk, jk, jk, jk,
  AV.sl zws (Ref.mk (0) (0) (0) (0)) false (List.length ws) Cap.any, AV.int IntKind.i64 false ((List.length ws) : Int),
  AV.int IntKind.i64 false (IntKind.wrap IntKind.i64 ((i : Int) + (1 : Int))), jk, jk, jk, jk, jk, jk, jk, jk, jk, jk, jk, jk, jk, jk,
  jk, jk, jk, jk, jk, jk, jk, jk, jk, jk, jk, jk, jk, jk, jk, jk, jk, jk, jk, jk, jk, jk,
  jk, jk, jk, jk, jk, jk, jk, jk, jk, jk, jk, jk, jk, jk, jk, jk, jk, jk, jk]
  [some (Blk.mk (3) false false true (Data.ints IntKind.i64 ws)), some (Blk.mk (3) false false true (Data.ints IntKind.i64 vs)),
  some (Blk.mk (3) true (decide ((outTo ws vs i) = [])) true (Data.ints IntKind.i64 (outTo ws vs i)))])))
  Tree.fail)
  Tree.fail)
  Tree.fail))
  Tree.fail)
  Tree.fail)
  Tree.fail))
  Tree.fail)
  Tree.fail)
  Tree.fail)
  Tree.fail)
  (Tree.ret
  (Ex.exit (0),
  St.mk
  [jk, jk, jk, jk, jk, jk, jk, AV.sl (decide (outTo ws vs i = [])) (Ref.mk (2) (0) (0) (0)) false (List.length (outTo ws vs i)) Cap.own,
  AV.int IntKind.i64 false (roomTo ws vs i), AV.int IntKind.i64 false (lastTo ws vs i), jk, jk, jk, jk, jk, jk, jk, jk, jk, jk, jk, jk, jk, jk,
  jk, jk, jk, jk, jk, jk, jk, jk, jk, jk, jk, jk, jk, jk, jk, jk, jk, jk, jk, jk, jk, jk, jk, jk, jk,
  jk, jk, jk, jk, jk, jk, jk, jk, jk, jk, jk, jk, jk, jk, jk, jk, jk, jk, jk, jk, jk, jk, jk, jk, jk,
  jk, jk, jk, jk, jk, jk]
  [some (Blk.mk (3) false false true (Data.ints IntKind.i64 ws)), some (Blk.mk (3) false false true (Data.ints IntKind.i64 vs)),
  some (Blk.mk (3) true (decide ((outTo ws vs i) = [])) true (Data.ints IntKind.i64 (outTo ws vs i)))])) : Tree (Ex × St)).Sat (Post hdfields_0 resfields_0 mufields_0 ⟨zws, ws, zvs, vs, i⟩ ex r) := by
  simp only [okfields_0, outfields_0, Tree.runs] at hok hr
  obtain ⟨hm, hl, hzw, hzv, hwv, hi, hf⟩ := hok
  obtain ⟨h256, hbv⟩ := may_ok hm
  have hg := fun h => badV_get (i := i) hbv h
  have hvb := fun h => wfL_get (i := i) hwv h
  obtain ⟨r0, r1, t0, t1, t2⟩ := to_bounds ws vs i
  have hol := outTo_len (i := i) hbv hl hi
  have ew : i < ws.length → IntKind.i64.wrap (roomTo ws vs i + ws.getD i 0) = roomTo ws vs i + ws.getD i 0 := fun h => by have := hg h; rw [w64]; omega
  simp only [Int.toNat_natCast, Nat.mul_one, Nat.add_zero]
  refine Tree.Sat.br (fun h1 => ?_) (fun h1 => ?_)
  · (try simp only [decide_eq_true_eq, decide_eq_false_iff_not, Bool.not_eq_true', Bool.not_eq_false', beq_iff_eq, beq_eq_false_iff_ne, Int.not_lt, Int.not_le, ge_iff_le, gt_iff_lt, ne_eq, Bool.false_eq_true, Bool.true_eq_false, not_true_eq_false, not_false_eq_true, Bool.and_eq_true, Bool.not_eq_eq_eq_not, Bool.not_true, Bool.not_false, bne_iff_ne, bne_eq_false_iff_eq, Int.toNat_natCast, Nat.mul_one, Nat.add_zero, Nat.zero_add, List.take_length, List.drop_zero] at h1)
    all_goals
      refine Tree.Sat.br (fun h2 => ?_) (fun h2 => ?_)
      · (try simp only [decide_eq_true_eq, decide_eq_false_iff_not, Bool.not_eq_true', Bool.not_eq_false', beq_iff_eq, beq_eq_false_iff_ne, Int.not_lt, Int.not_le, ge_iff_le, gt_iff_lt, ne_eq, Bool.false_eq_true, Bool.true_eq_false, not_true_eq_false, not_false_eq_true, Bool.and_eq_true, Bool.not_eq_eq_eq_not, Bool.not_true, Bool.not_false, bne_iff_ne, bne_eq_false_iff_eq, Int.toNat_natCast, Nat.mul_one, Nat.add_zero, Nat.zero_add, List.take_length, List.drop_zero] at h2)
        all_goals
          refine Tree.Sat.br (fun h3 => ?_) (fun h3 => ?_)
          · (try simp only [decide_eq_true_eq, decide_eq_false_iff_not, Bool.not_eq_true', Bool.not_eq_false', beq_iff_eq, beq_eq_false_iff_ne, Int.not_lt, Int.not_le, ge_iff_le, gt_iff_lt, ne_eq, Bool.false_eq_true, Bool.true_eq_false, not_true_eq_false, not_false_eq_true, Bool.and_eq_true, Bool.not_eq_eq_eq_not, Bool.not_true, Bool.not_false, bne_iff_ne, bne_eq_false_iff_eq, Int.toNat_natCast, Nat.mul_one, Nat.add_zero, Nat.zero_add, List.take_length, List.drop_zero] at h3)
            all_goals
              refine Tree.Sat.br (fun h4 => ?_) (fun h4 => ?_)
              · (try simp only [decide_eq_true_eq, decide_eq_false_iff_not, Bool.not_eq_true', Bool.not_eq_false', beq_iff_eq, beq_eq_false_iff_ne, Int.not_lt, Int.not_le, ge_iff_le, gt_iff_lt, ne_eq, Bool.false_eq_true, Bool.true_eq_false, not_true_eq_false, not_false_eq_true, Bool.and_eq_true, Bool.not_eq_eq_eq_not, Bool.not_true, Bool.not_false, bne_iff_ne, bne_eq_false_iff_eq, Int.toNat_natCast, Nat.mul_one, Nat.add_zero, Nat.zero_add, List.take_length, List.drop_zero] at h4)
                all_goals
                  refine Tree.Sat.br (fun h5 => ?_) (fun h5 => ?_)
                  · (try simp only [decide_eq_true_eq, decide_eq_false_iff_not, Bool.not_eq_true', Bool.not_eq_false', beq_iff_eq, beq_eq_false_iff_ne, Int.not_lt, Int.not_le, ge_iff_le, gt_iff_lt, ne_eq, Bool.false_eq_true, Bool.true_eq_false, not_true_eq_false, not_false_eq_true, Bool.and_eq_true, Bool.not_eq_eq_eq_not, Bool.not_true, Bool.not_false, bne_iff_ne, bne_eq_false_iff_eq, Int.toNat_natCast, Nat.mul_one, Nat.add_zero, Nat.zero_add, List.take_length, List.drop_zero] at h5)
                    all_goals
                      refine Tree.Sat.br (fun h6 => ?_) (fun h6 => ?_)
                      · (try simp only [decide_eq_true_eq, decide_eq_false_iff_not, Bool.not_eq_true', Bool.not_eq_false', beq_iff_eq, beq_eq_false_iff_ne, Int.not_lt, Int.not_le, ge_iff_le, gt_iff_lt, ne_eq, Bool.false_eq_true, Bool.true_eq_false, not_true_eq_false, not_false_eq_true, Bool.and_eq_true, Bool.not_eq_eq_eq_not, Bool.not_true, Bool.not_false, bne_iff_ne, bne_eq_false_iff_eq, Int.toNat_natCast, Nat.mul_one, Nat.add_zero, Nat.zero_add, List.take_length, List.drop_zero] at h6)
                        all_goals
                          refine Tree.Sat.ret ?_
                          have hq := hr.2 (fitF_miss (i := i) (by omega) hl (fun hh => absurd hh.1 (by omega)))
                          simp only [Prod.mk.injEq] at hq
                          obtain ⟨rfl, rfl⟩ := hq
                          refine .ret rfl ?_
                          constructor <;> simp only [AV.leL, AV.le, Mem.le, Mem.leP, Blk.le, Blk.pad, Data.le, Data.size, Cap.le, and_true, true_and, and_self, true_implies, implies_true, imp_self, List.length_nil] <;> (repeat' with_reducible refine And.intro ?_ ?_) <;> (try simp only [Int.toNat_natCast, Nat.mul_one, Nat.add_zero, Nat.zero_add]) <;> done
                      · (try simp only [decide_eq_true_eq, decide_eq_false_iff_not, Bool.not_eq_true', Bool.not_eq_false', beq_iff_eq, beq_eq_false_iff_ne, Int.not_lt, Int.not_le, ge_iff_le, gt_iff_lt, ne_eq, Bool.false_eq_true, Bool.true_eq_false, not_true_eq_false, not_false_eq_true, Bool.and_eq_true, Bool.not_eq_eq_eq_not, Bool.not_true, Bool.not_false, bne_iff_ne, bne_eq_false_iff_eq, Int.toNat_natCast, Nat.mul_one, Nat.add_zero, Nat.zero_add, List.take_length, List.drop_zero] at h6)
                        all_goals
                          refine Tree.Sat.br (fun h7 => ?_) (fun h7 => ?_)
                          · (try simp only [decide_eq_true_eq, decide_eq_false_iff_not, Bool.not_eq_true', Bool.not_eq_false', beq_iff_eq, beq_eq_false_iff_ne, Int.not_lt, Int.not_le, ge_iff_le, gt_iff_lt, ne_eq, Bool.false_eq_true, Bool.true_eq_false, not_true_eq_false, not_false_eq_true, Bool.and_eq_true, Bool.not_eq_eq_eq_not, Bool.not_true, Bool.not_false, bne_iff_ne, bne_eq_false_iff_eq, Int.toNat_natCast, Nat.mul_one, Nat.add_zero, Nat.zero_add, List.take_length, List.drop_zero] at h7)
                            all_goals
                              refine Tree.Sat.br (fun h8 => ?_) (fun h8 => ?_)
                              · (try simp only [decide_eq_true_eq, decide_eq_false_iff_not, Bool.not_eq_true', Bool.not_eq_false', beq_iff_eq, beq_eq_false_iff_ne, Int.not_lt, Int.not_le, ge_iff_le, gt_iff_lt, ne_eq, Bool.false_eq_true, Bool.true_eq_false, not_true_eq_false, not_false_eq_true, Bool.and_eq_true, Bool.not_eq_eq_eq_not, Bool.not_true, Bool.not_false, bne_iff_ne, bne_eq_false_iff_eq, Int.toNat_natCast, Nat.mul_one, Nat.add_zero, Nat.zero_add, List.take_length, List.drop_zero] at h8)
                                all_goals
                                  refine Tree.Sat.br (fun h9 => ?_) (fun h9 => ?_)
                                  · (try simp only [decide_eq_true_eq, decide_eq_false_iff_not, Bool.not_eq_true', Bool.not_eq_false', beq_iff_eq, beq_eq_false_iff_ne, Int.not_lt, Int.not_le, ge_iff_le, gt_iff_lt, ne_eq, Bool.false_eq_true, Bool.true_eq_false, not_true_eq_false, not_false_eq_true, Bool.and_eq_true, Bool.not_eq_eq_eq_not, Bool.not_true, Bool.not_false, bne_iff_ne, bne_eq_false_iff_eq, Int.toNat_natCast, Nat.mul_one, Nat.add_zero, Nat.zero_add, List.take_length, List.drop_zero] at h9)
                                    all_goals
                                      refine Tree.Sat.br (fun h10 => ?_) (fun h10 => ?_)
                                      · (try simp only [decide_eq_true_eq, decide_eq_false_iff_not, Bool.not_eq_true', Bool.not_eq_false', beq_iff_eq, beq_eq_false_iff_ne, Int.not_lt, Int.not_le, ge_iff_le, gt_iff_lt, ne_eq, Bool.false_eq_true, Bool.true_eq_false, not_true_eq_false, not_false_eq_true, Bool.and_eq_true, Bool.not_eq_eq_eq_not, Bool.not_true, Bool.not_false, bne_iff_ne, bne_eq_false_iff_eq, Int.toNat_natCast, Nat.mul_one, Nat.add_zero, Nat.zero_add, List.take_length, List.drop_zero] at h10)
                                        all_goals
                                          refine Tree.Sat.ret ?_
                                          have hq := hr.2 (fitF_miss (i := i) (by omega) hl (shift_bad (by omega) (by have := hg (by omega); omega) h10))
                                          simp only [Prod.mk.injEq] at hq
                                          obtain ⟨rfl, rfl⟩ := hq
                                          refine .ret rfl ?_
                                          constructor <;> simp only [AV.leL, AV.le, Mem.le, Mem.leP, Blk.le, Blk.pad, Data.le, Data.size, Cap.le, and_true, true_and, and_self, true_implies, implies_true, imp_self, List.length_nil] <;> (repeat' with_reducible refine And.intro ?_ ?_) <;> (try simp only [Int.toNat_natCast, Nat.mul_one, Nat.add_zero, Nat.zero_add]) <;> done
                                      · (try simp only [decide_eq_true_eq, decide_eq_false_iff_not, Bool.not_eq_true', Bool.not_eq_false', beq_iff_eq, beq_eq_false_iff_ne, Int.not_lt, Int.not_le, ge_iff_le, gt_iff_lt, ne_eq, Bool.false_eq_true, Bool.true_eq_false, not_true_eq_false, not_false_eq_true, Bool.and_eq_true, Bool.not_eq_eq_eq_not, Bool.not_true, Bool.not_false, bne_iff_ne, bne_eq_false_iff_eq, Int.toNat_natCast, Nat.mul_one, Nat.add_zero, Nat.zero_add, List.take_length, List.drop_zero] at h10)
                                        all_goals
                                          refine Tree.Sat.br (fun h11 => ?_) (fun h11 => ?_)
                                          · (try simp only [decide_eq_true_eq, decide_eq_false_iff_not, Bool.not_eq_true', Bool.not_eq_false', beq_iff_eq, beq_eq_false_iff_ne, Int.not_lt, Int.not_le, ge_iff_le, gt_iff_lt, ne_eq, Bool.false_eq_true, Bool.true_eq_false, not_true_eq_false, not_false_eq_true, Bool.and_eq_true, Bool.not_eq_eq_eq_not, Bool.not_true, Bool.not_false, bne_iff_ne, bne_eq_false_iff_eq, Int.toNat_natCast, Nat.mul_one, Nat.add_zero, Nat.zero_add, List.take_length, List.drop_zero] at h11)
                                            all_goals
                                              refine Tree.Sat.br (fun h12 => ?_) (fun h12 => ?_)
                                              · (try simp only [decide_eq_true_eq, decide_eq_false_iff_not, Bool.not_eq_true', Bool.not_eq_false', beq_iff_eq, beq_eq_false_iff_ne, Int.not_lt, Int.not_le, ge_iff_le, gt_iff_lt, ne_eq, Bool.false_eq_true, Bool.true_eq_false, not_true_eq_false, not_false_eq_true, Bool.and_eq_true, Bool.not_eq_eq_eq_not, Bool.not_true, Bool.not_false, bne_iff_ne, bne_eq_false_iff_eq, Int.toNat_natCast, Nat.mul_one, Nat.add_zero, Nat.zero_add, List.take_length, List.drop_zero] at h12)
                                                all_goals
                                                  refine Tree.Sat.br (fun h13 => ?_) (fun h13 => ?_)
                                                  · (try simp only [decide_eq_true_eq, decide_eq_false_iff_not, Bool.not_eq_true', Bool.not_eq_false', beq_iff_eq, beq_eq_false_iff_ne, Int.not_lt, Int.not_le, ge_iff_le, gt_iff_lt, ne_eq, Bool.false_eq_true, Bool.true_eq_false, not_true_eq_false, not_false_eq_true, Bool.and_eq_true, Bool.not_eq_eq_eq_not, Bool.not_true, Bool.not_false, bne_iff_ne, bne_eq_false_iff_eq, Int.toNat_natCast, Nat.mul_one, Nat.add_zero, Nat.zero_add, List.take_length, List.drop_zero] at h13)
                                                    all_goals
                                                      refine Tree.Sat.br (fun h14 => ?_) (fun h14 => ?_)
                                                      · (try simp only [decide_eq_true_eq, decide_eq_false_iff_not, Bool.not_eq_true', Bool.not_eq_false', beq_iff_eq, beq_eq_false_iff_ne, Int.not_lt, Int.not_le, ge_iff_le, gt_iff_lt, ne_eq, Bool.false_eq_true, Bool.true_eq_false, not_true_eq_false, not_false_eq_true, Bool.and_eq_true, Bool.not_eq_eq_eq_not, Bool.not_true, Bool.not_false, bne_iff_ne, bne_eq_false_iff_eq, Int.toNat_natCast, Nat.mul_one, Nat.add_zero, Nat.zero_add, List.take_length, List.drop_zero] at h14)
                                                        all_goals
                                                          refine Tree.Sat.br (fun h15 => ?_) (fun h15 => ?_)
                                                          · (try simp only [decide_eq_true_eq, decide_eq_false_iff_not, Bool.not_eq_true', Bool.not_eq_false', beq_iff_eq, beq_eq_false_iff_ne, Int.not_lt, Int.not_le, ge_iff_le, gt_iff_lt, ne_eq, Bool.false_eq_true, Bool.true_eq_false, not_true_eq_false, not_false_eq_true, Bool.and_eq_true, Bool.not_eq_eq_eq_not, Bool.not_true, Bool.not_false, bne_iff_ne, bne_eq_false_iff_eq, Int.toNat_natCast, Nat.mul_one, Nat.add_zero, Nat.zero_add, List.take_length, List.drop_zero] at h15)
                                                            all_goals
                                                              refine Tree.Sat.br (fun h16 => ?_) (fun h16 => ?_)
                                                              · (try simp only [decide_eq_true_eq, decide_eq_false_iff_not, Bool.not_eq_true', Bool.not_eq_false', beq_iff_eq, beq_eq_false_iff_ne, Int.not_lt, Int.not_le, ge_iff_le, gt_iff_lt, ne_eq, Bool.false_eq_true, Bool.true_eq_false, not_true_eq_false, not_false_eq_true, Bool.and_eq_true, Bool.not_eq_eq_eq_not, Bool.not_true, Bool.not_false, bne_iff_ne, bne_eq_false_iff_eq, Int.toNat_natCast, Nat.mul_one, Nat.add_zero, Nat.zero_add, List.take_length, List.drop_zero] at h16)
                                                                all_goals
                                                                  refine Tree.Sat.br (fun h17 => ?_) (fun h17 => ?_)
                                                                  · (try simp only [decide_eq_true_eq, decide_eq_false_iff_not, Bool.not_eq_true', Bool.not_eq_false', beq_iff_eq, beq_eq_false_iff_ne, Int.not_lt, Int.not_le, ge_iff_le, gt_iff_lt, ne_eq, Bool.false_eq_true, Bool.true_eq_false, not_true_eq_false, not_false_eq_true, Bool.and_eq_true, Bool.not_eq_eq_eq_not, Bool.not_true, Bool.not_false, bne_iff_ne, bne_eq_false_iff_eq, Int.toNat_natCast, Nat.mul_one, Nat.add_zero, Nat.zero_add, List.take_length, List.drop_zero] at h17)
                                                                    all_goals
                                                                      refine Tree.Sat.br (fun h18 => ?_) (fun h18 => ?_)
                                                                      · (try simp only [decide_eq_true_eq, decide_eq_false_iff_not, Bool.not_eq_true', Bool.not_eq_false', beq_iff_eq, beq_eq_false_iff_ne, Int.not_lt, Int.not_le, ge_iff_le, gt_iff_lt, ne_eq, Bool.false_eq_true, Bool.true_eq_false, not_true_eq_false, not_false_eq_true, Bool.and_eq_true, Bool.not_eq_eq_eq_not, Bool.not_true, Bool.not_false, bne_iff_ne, bne_eq_false_iff_eq, Int.toNat_natCast, Nat.mul_one, Nat.add_zero, Nat.zero_add, List.take_length, List.drop_zero] at h18)
                                                                        all_goals
                                                                          refine Tree.Sat.ret ?_
                                                                          have g := hg (by omega)
                                                                          have sv := shift_good (v := vs.getD i 0) (w := (ws.getD i 0).toNat) (by omega) (by omega) h10
                                                                          have oe := or_eq (w := (ws.getD i 0).toNat) t0 t2 (by omega) sv.1 sv.2
                                                                          have ew2 := ew (by omega)
                                                                          have e := to_ge (i := i) (by omega) hl (by omega) sv.1 sv.2 (by omega)
                                                                          have ew1 := ew (by omega)
                                                                          have er : IntKind.i64.wrap (IntKind.i64.wrap (roomTo ws vs i + ws.getD i 0) - 16) = roomTo ws vs i + ((ws.getD i 0).toNat : Int) - 16 := by rw [ew1, w64]; omega
                                                                          have hmn : min (Int.toNat (roomTo ws vs i + ((ws.getD i 0).toNat : Int) - 16)) 64 = (roomTo ws vs i + ((ws.getD i 0).toNat : Int) - 16).toNat := by omega
                                                                          have p16 := pow16 (w := (roomTo ws vs i + ((ws.getD i 0).toNat : Int) - 16).toNat) (by omega)
                                                                          have p0 := pow_pos (roomTo ws vs i + ((ws.getD i 0).toNat : Int) - 16).toNat
                                                                          have eM : IntKind.i64.wrap (IntKind.i64.wrap (1 * 2 ^ (roomTo ws vs i + ((ws.getD i 0).toNat : Int) - 16).toNat) - 1) = 2 ^ (roomTo ws vs i + ((ws.getD i 0).toNat : Int) - 16).toNat - 1 := wm1 (by omega) p16
                                                                          refine .norm ⟨zws, ws, zvs, vs, i + 1⟩ ?_ ?_ ⟨?_, ?_⟩
                                                                          · constructor <;> simp only [hdfields_0, AV.leL, AV.le, Mem.le, Mem.leP, Blk.le, Blk.pad, Data.le, Data.size, Cap.le, and_true, true_and, and_self, true_implies, implies_true, imp_self, List.length_nil] <;> (repeat' with_reducible refine And.intro ?_ ?_) <;> (try simp only [Int.toNat_natCast, Nat.mul_one, Nat.add_zero, Nat.zero_add]) <;> first | exact wadd1 (by omega) | (rw [e.2.1]; exact er) | (rw [er, hmn, eM, bv_mask _ _ (by omega), oe.1, e.2.2]) | (rw [e.1, List.length_append]; rfl) | (rw [er, hmn, oe.1, fdiv_pow, e.1]) | (rw [e.1]; cases decide (outTo ws vs i = []) <;> simp)
                                                                          · simp only [mufields_0]; omega
                                                                          · refine ⟨hm, hl, hzw, hzv, hwv, by omega, ?_⟩
                                                                            rw [fitF_take_succ (by omega) hl, hf, Bool.true_and, decide_eq_true_eq]
                                                                            exact sv
                                                                          · exact hr
                                                                      · (try simp only [decide_eq_true_eq, decide_eq_false_iff_not, Bool.not_eq_true', Bool.not_eq_false', beq_iff_eq, beq_eq_false_iff_ne, Int.not_lt, Int.not_le, ge_iff_le, gt_iff_lt, ne_eq, Bool.false_eq_true, Bool.true_eq_false, not_true_eq_false, not_false_eq_true, Bool.and_eq_true, Bool.not_eq_eq_eq_not, Bool.not_true, Bool.not_false, bne_iff_ne, bne_eq_false_iff_eq, Int.toNat_natCast, Nat.mul_one, Nat.add_zero, Nat.zero_add, List.take_length, List.drop_zero] at h18)
                                                                        all_goals
                                                                          exfalso
                                                                          first | omega | (have g := hg (by omega); have ew1 := ew (by omega); simp only [w64] at *; omega) | (clear hf hr; cases zws <;> cases zvs <;> simp_all; done) | (clear hf hr; cases zws <;> cases zvs <;> simp_all <;> omega)
                                                                  · (try simp only [decide_eq_true_eq, decide_eq_false_iff_not, Bool.not_eq_true', Bool.not_eq_false', beq_iff_eq, beq_eq_false_iff_ne, Int.not_lt, Int.not_le, ge_iff_le, gt_iff_lt, ne_eq, Bool.false_eq_true, Bool.true_eq_false, not_true_eq_false, not_false_eq_true, Bool.and_eq_true, Bool.not_eq_eq_eq_not, Bool.not_true, Bool.not_false, bne_iff_ne, bne_eq_false_iff_eq, Int.toNat_natCast, Nat.mul_one, Nat.add_zero, Nat.zero_add, List.take_length, List.drop_zero] at h17)
                                                                    all_goals
                                                                      exfalso
                                                                      rw [Bool.and_eq_false_iff] at h17
                                                                      rcases h17 with h17 | h17
                                                                      · rw [decide_eq_false_iff_not] at h17
                                                                        exact h17 ⟨by first | rfl | (simp only [Data.size]; omega), by first | rfl | kernel_rfl⟩
                                                                      · exact absurd h17 (by simp)
                                                              · (try simp only [decide_eq_true_eq, decide_eq_false_iff_not, Bool.not_eq_true', Bool.not_eq_false', beq_iff_eq, beq_eq_false_iff_ne, Int.not_lt, Int.not_le, ge_iff_le, gt_iff_lt, ne_eq, Bool.false_eq_true, Bool.true_eq_false, not_true_eq_false, not_false_eq_true, Bool.and_eq_true, Bool.not_eq_eq_eq_not, Bool.not_true, Bool.not_false, bne_iff_ne, bne_eq_false_iff_eq, Int.toNat_natCast, Nat.mul_one, Nat.add_zero, Nat.zero_add, List.take_length, List.drop_zero] at h16)
                                                                all_goals
                                                                  exfalso
                                                                  simp [most48] at h16
                                                                  omega
                                                          · (try simp only [decide_eq_true_eq, decide_eq_false_iff_not, Bool.not_eq_true', Bool.not_eq_false', beq_iff_eq, beq_eq_false_iff_ne, Int.not_lt, Int.not_le, ge_iff_le, gt_iff_lt, ne_eq, Bool.false_eq_true, Bool.true_eq_false, not_true_eq_false, not_false_eq_true, Bool.and_eq_true, Bool.not_eq_eq_eq_not, Bool.not_true, Bool.not_false, bne_iff_ne, bne_eq_false_iff_eq, Int.toNat_natCast, Nat.mul_one, Nat.add_zero, Nat.zero_add, List.take_length, List.drop_zero] at h15)
                                                            all_goals
                                                              exfalso
                                                              first | omega | (have g := hg (by omega); have ew1 := ew (by omega); simp only [w64] at *; omega) | (clear hf hr; cases zws <;> cases zvs <;> simp_all; done) | (clear hf hr; cases zws <;> cases zvs <;> simp_all <;> omega)
                                                      · (try simp only [decide_eq_true_eq, decide_eq_false_iff_not, Bool.not_eq_true', Bool.not_eq_false', beq_iff_eq, beq_eq_false_iff_ne, Int.not_lt, Int.not_le, ge_iff_le, gt_iff_lt, ne_eq, Bool.false_eq_true, Bool.true_eq_false, not_true_eq_false, not_false_eq_true, Bool.and_eq_true, Bool.not_eq_eq_eq_not, Bool.not_true, Bool.not_false, bne_iff_ne, bne_eq_false_iff_eq, Int.toNat_natCast, Nat.mul_one, Nat.add_zero, Nat.zero_add, List.take_length, List.drop_zero] at h14)
                                                        all_goals
                                                          refine Tree.Sat.ret ?_
                                                          have g := hg (by omega)
                                                          have sv := shift_good (v := vs.getD i 0) (w := (ws.getD i 0).toNat) (by omega) (by omega) h10
                                                          have oe := or_eq (w := (ws.getD i 0).toNat) t0 t2 (by omega) sv.1 sv.2
                                                          have ew2 := ew (by omega)
                                                          have e := to_lt (i := i) (by omega) hl sv.1 sv.2 (by omega)
                                                          refine .norm ⟨zws, ws, zvs, vs, i + 1⟩ ?_ ?_ ⟨?_, ?_⟩
                                                          · constructor <;> simp only [hdfields_0, AV.leL, AV.le, Mem.le, Mem.leP, Blk.le, Blk.pad, Data.le, Data.size, Cap.le, and_true, true_and, and_self, true_implies, implies_true, imp_self, List.length_nil] <;> (repeat' with_reducible refine And.intro ?_ ?_) <;> (try simp only [Int.toNat_natCast, Nat.mul_one, Nat.add_zero, Nat.zero_add]) <;> first | exact wadd1 (by omega) | (rw [e.1]; done) | (rw [e.2.1]; have := ew (by omega); omega) | (rw [e.2.2]; exact oe.1)
                                                          · simp only [mufields_0]; omega
                                                          · refine ⟨hm, hl, hzw, hzv, hwv, by omega, ?_⟩
                                                            rw [fitF_take_succ (by omega) hl, hf, Bool.true_and, decide_eq_true_eq]
                                                            exact sv
                                                          · exact hr
                                                  · (try simp only [decide_eq_true_eq, decide_eq_false_iff_not, Bool.not_eq_true', Bool.not_eq_false', beq_iff_eq, beq_eq_false_iff_ne, Int.not_lt, Int.not_le, ge_iff_le, gt_iff_lt, ne_eq, Bool.false_eq_true, Bool.true_eq_false, not_true_eq_false, not_false_eq_true, Bool.and_eq_true, Bool.not_eq_eq_eq_not, Bool.not_true, Bool.not_false, bne_iff_ne, bne_eq_false_iff_eq, Int.toNat_natCast, Nat.mul_one, Nat.add_zero, Nat.zero_add, List.take_length, List.drop_zero] at h13)
                                                    all_goals
                                                      exfalso
                                                      first | omega | (have g := hg (by omega); have ew1 := ew (by omega); simp only [w64] at *; omega) | (clear hf hr; cases zws <;> cases zvs <;> simp_all; done) | (clear hf hr; cases zws <;> cases zvs <;> simp_all <;> omega)
                                              · (try simp only [decide_eq_true_eq, decide_eq_false_iff_not, Bool.not_eq_true', Bool.not_eq_false', beq_iff_eq, beq_eq_false_iff_ne, Int.not_lt, Int.not_le, ge_iff_le, gt_iff_lt, ne_eq, Bool.false_eq_true, Bool.true_eq_false, not_true_eq_false, not_false_eq_true, Bool.and_eq_true, Bool.not_eq_eq_eq_not, Bool.not_true, Bool.not_false, bne_iff_ne, bne_eq_false_iff_eq, Int.toNat_natCast, Nat.mul_one, Nat.add_zero, Nat.zero_add, List.take_length, List.drop_zero] at h12)
                                                all_goals
                                                  exfalso
                                                  first | omega | (have g := hg (by omega); have ew1 := ew (by omega); simp only [w64] at *; omega) | (clear hf hr; cases zws <;> cases zvs <;> simp_all; done) | (clear hf hr; cases zws <;> cases zvs <;> simp_all <;> omega)
                                          · (try simp only [decide_eq_true_eq, decide_eq_false_iff_not, Bool.not_eq_true', Bool.not_eq_false', beq_iff_eq, beq_eq_false_iff_ne, Int.not_lt, Int.not_le, ge_iff_le, gt_iff_lt, ne_eq, Bool.false_eq_true, Bool.true_eq_false, not_true_eq_false, not_false_eq_true, Bool.and_eq_true, Bool.not_eq_eq_eq_not, Bool.not_true, Bool.not_false, bne_iff_ne, bne_eq_false_iff_eq, Int.toNat_natCast, Nat.mul_one, Nat.add_zero, Nat.zero_add, List.take_length, List.drop_zero] at h11)
                                            all_goals
                                              exfalso
                                              first | omega | (have g := hg (by omega); have ew1 := ew (by omega); simp only [w64] at *; omega) | (clear hf hr; cases zws <;> cases zvs <;> simp_all; done) | (clear hf hr; cases zws <;> cases zvs <;> simp_all <;> omega)
                                  · (try simp only [decide_eq_true_eq, decide_eq_false_iff_not, Bool.not_eq_true', Bool.not_eq_false', beq_iff_eq, beq_eq_false_iff_ne, Int.not_lt, Int.not_le, ge_iff_le, gt_iff_lt, ne_eq, Bool.false_eq_true, Bool.true_eq_false, not_true_eq_false, not_false_eq_true, Bool.and_eq_true, Bool.not_eq_eq_eq_not, Bool.not_true, Bool.not_false, bne_iff_ne, bne_eq_false_iff_eq, Int.toNat_natCast, Nat.mul_one, Nat.add_zero, Nat.zero_add, List.take_length, List.drop_zero] at h9)
                                    all_goals
                                      exfalso
                                      first | omega | (have g := hg (by omega); have ew1 := ew (by omega); simp only [w64] at *; omega) | (clear hf hr; cases zws <;> cases zvs <;> simp_all; done) | (clear hf hr; cases zws <;> cases zvs <;> simp_all <;> omega)
                              · (try simp only [decide_eq_true_eq, decide_eq_false_iff_not, Bool.not_eq_true', Bool.not_eq_false', beq_iff_eq, beq_eq_false_iff_ne, Int.not_lt, Int.not_le, ge_iff_le, gt_iff_lt, ne_eq, Bool.false_eq_true, Bool.true_eq_false, not_true_eq_false, not_false_eq_true, Bool.and_eq_true, Bool.not_eq_eq_eq_not, Bool.not_true, Bool.not_false, bne_iff_ne, bne_eq_false_iff_eq, Int.toNat_natCast, Nat.mul_one, Nat.add_zero, Nat.zero_add, List.take_length, List.drop_zero] at h8)
                                all_goals
                                  exfalso
                                  first | omega | (have g := hg (by omega); have ew1 := ew (by omega); simp only [w64] at *; omega) | (clear hf hr; cases zws <;> cases zvs <;> simp_all; done) | (clear hf hr; cases zws <;> cases zvs <;> simp_all <;> omega)
                          · (try simp only [decide_eq_true_eq, decide_eq_false_iff_not, Bool.not_eq_true', Bool.not_eq_false', beq_iff_eq, beq_eq_false_iff_ne, Int.not_lt, Int.not_le, ge_iff_le, gt_iff_lt, ne_eq, Bool.false_eq_true, Bool.true_eq_false, not_true_eq_false, not_false_eq_true, Bool.and_eq_true, Bool.not_eq_eq_eq_not, Bool.not_true, Bool.not_false, bne_iff_ne, bne_eq_false_iff_eq, Int.toNat_natCast, Nat.mul_one, Nat.add_zero, Nat.zero_add, List.take_length, List.drop_zero] at h7)
                            all_goals
                              exfalso
                              first | omega | (have g := hg (by omega); have ew1 := ew (by omega); simp only [w64] at *; omega) | (clear hf hr; cases zws <;> cases zvs <;> simp_all; done) | (clear hf hr; cases zws <;> cases zvs <;> simp_all <;> omega)
                  · (try simp only [decide_eq_true_eq, decide_eq_false_iff_not, Bool.not_eq_true', Bool.not_eq_false', beq_iff_eq, beq_eq_false_iff_ne, Int.not_lt, Int.not_le, ge_iff_le, gt_iff_lt, ne_eq, Bool.false_eq_true, Bool.true_eq_false, not_true_eq_false, not_false_eq_true, Bool.and_eq_true, Bool.not_eq_eq_eq_not, Bool.not_true, Bool.not_false, bne_iff_ne, bne_eq_false_iff_eq, Int.toNat_natCast, Nat.mul_one, Nat.add_zero, Nat.zero_add, List.take_length, List.drop_zero] at h5)
                    all_goals
                      exfalso
                      first | omega | (have g := hg (by omega); have ew1 := ew (by omega); simp only [w64] at *; omega) | (clear hf hr; cases zws <;> cases zvs <;> simp_all; done) | (clear hf hr; cases zws <;> cases zvs <;> simp_all <;> omega)
              · (try simp only [decide_eq_true_eq, decide_eq_false_iff_not, Bool.not_eq_true', Bool.not_eq_false', beq_iff_eq, beq_eq_false_iff_ne, Int.not_lt, Int.not_le, ge_iff_le, gt_iff_lt, ne_eq, Bool.false_eq_true, Bool.true_eq_false, not_true_eq_false, not_false_eq_true, Bool.and_eq_true, Bool.not_eq_eq_eq_not, Bool.not_true, Bool.not_false, bne_iff_ne, bne_eq_false_iff_eq, Int.toNat_natCast, Nat.mul_one, Nat.add_zero, Nat.zero_add, List.take_length, List.drop_zero] at h4)
                all_goals
                  exfalso
                  first | omega | (have g := hg (by omega); have ew1 := ew (by omega); simp only [w64] at *; omega) | (clear hf hr; cases zws <;> cases zvs <;> simp_all; done) | (clear hf hr; cases zws <;> cases zvs <;> simp_all <;> omega)
          · (try simp only [decide_eq_true_eq, decide_eq_false_iff_not, Bool.not_eq_true', Bool.not_eq_false', beq_iff_eq, beq_eq_false_iff_ne, Int.not_lt, Int.not_le, ge_iff_le, gt_iff_lt, ne_eq, Bool.false_eq_true, Bool.true_eq_false, not_true_eq_false, not_false_eq_true, Bool.and_eq_true, Bool.not_eq_eq_eq_not, Bool.not_true, Bool.not_false, bne_iff_ne, bne_eq_false_iff_eq, Int.toNat_natCast, Nat.mul_one, Nat.add_zero, Nat.zero_add, List.take_length, List.drop_zero] at h3)
            all_goals
              exfalso
              first | omega | (have g := hg (by omega); have ew1 := ew (by omega); simp only [w64] at *; omega) | (clear hf hr; cases zws <;> cases zvs <;> simp_all; done) | (clear hf hr; cases zws <;> cases zvs <;> simp_all <;> omega)
      · (try simp only [decide_eq_true_eq, decide_eq_false_iff_not, Bool.not_eq_true', Bool.not_eq_false', beq_iff_eq, beq_eq_false_iff_ne, Int.not_lt, Int.not_le, ge_iff_le, gt_iff_lt, ne_eq, Bool.false_eq_true, Bool.true_eq_false, not_true_eq_false, not_false_eq_true, Bool.and_eq_true, Bool.not_eq_eq_eq_not, Bool.not_true, Bool.not_false, bne_iff_ne, bne_eq_false_iff_eq, Int.toNat_natCast, Nat.mul_one, Nat.add_zero, Nat.zero_add, List.take_length, List.drop_zero] at h2)
        all_goals
          exfalso
          first | omega | (have g := hg (by omega); have ew1 := ew (by omega); simp only [w64] at *; omega) | (clear hf hr; cases zws <;> cases zvs <;> simp_all; done) | (clear hf hr; cases zws <;> cases zvs <;> simp_all <;> omega)
  · (try simp only [decide_eq_true_eq, decide_eq_false_iff_not, Bool.not_eq_true', Bool.not_eq_false', beq_iff_eq, beq_eq_false_iff_ne, Int.not_lt, Int.not_le, ge_iff_le, gt_iff_lt, ne_eq, Bool.false_eq_true, Bool.true_eq_false, not_true_eq_false, not_false_eq_true, Bool.and_eq_true, Bool.not_eq_eq_eq_not, Bool.not_true, Bool.not_false, bne_iff_ne, bne_eq_false_iff_eq, Int.toNat_natCast, Nat.mul_one, Nat.add_zero, Nat.zero_add, List.take_length, List.drop_zero] at h1)
    all_goals
      refine Tree.Sat.ret ?_
      have hq := hr.1 (by rw [List.take_of_length_le (by omega), List.take_of_length_le (by omega)] at hf; exact hf)
      simp only [Prod.mk.injEq] at hq
      obtain ⟨rfl, rfl⟩ := hq
      refine .exit rfl ?_
      constructor <;> simp only [AV.leL, AV.le, Mem.le, Mem.leP, Blk.le, Blk.pad, Data.le, Data.size, Cap.le, and_true, true_and, and_self, true_implies, implies_true, imp_self, List.length_nil] <;> (repeat' with_reducible refine And.intro ?_ ?_) <;> (try simp only [Int.toNat_natCast, Nat.mul_one, Nat.add_zero, Nat.zero_add]) <;> rw [show i = ws.length by omega]
set_option maxHeartbeats 2000000 in
set_option maxRecDepth 100000 in
theorem loopfields_0 (hall : AllOk Try.prog 0 (fun _ => none) tab17) : LoopOk (mkL Try.prog 0 (fun _ => none) tab17 rowsfields) 19 2 (bodyAt Try.prog 19 0) := by
  have hkey : Code.key (bodyAt Try.prog 19 0) = 9 := by kernel_rfl
  have hin : loopsIn (bodyAt Try.prog 19 0) = [] := by kernel_rfl
  have hrow : lookL rowsfields 19 (Code.key (bodyAt Try.prog 19 0)) = some rowfields_0 := by rw [hkey]; rfl
  refine loop_rowP (X := Xfields_0) (row := rowfields_0) hall mix hrow (fun b hb _ => by rw [hin] at hb; cases hb) Ufields_0 hdfields_0 resfields_0 mufields_0 (fun st ex r h => ?_) (fun x ex r hr => ?_)
  · have h' : (ansfields_0 st).runs (ex, r) := h
    unfold ansfields_0 at h'
    split at h'
    · obtain ⟨q1, q2⟩ := Tree.chk_runs h'
      exact ⟨_, q1, q2⟩
    · exact h'.elim
  · obtain ⟨zws, ws, zvs, vs, i⟩ := x
    have := stepfields_0 zws ws zvs vs i ex r hr.1 hr.2
    rw [← tLfields_0] at this
    (try rw [show rowfields_0.tidy = Tfields_0 from rfl])
    exact this
theorem loopsfields (hall : AllOk Try.prog 0 (fun _ => none) tab17) : ∀ i, i < (loopsAt Try.prog 19).length → LoopOk (mkL Try.prog 0 (fun _ => none) tab17 rowsfields) 19 2 (bodyAt Try.prog 19 i) := by
  intro i hi
  have hlen : (loopsAt Try.prog 19).length = 1 := by kernel_rfl
  rw [hlen] at hi
  obtain rfl : i = 0 := by omega
  · exact loopfields_0 hall
set_option maxRecDepth 100000 in
theorem tfields (zws : Bool) (ws : List Int) (zvs : Bool) (vs : List Int) : evBody (mkL Try.prog 0 (fun _ => none) tab17 rowsfields) (evCall (mkC Try.prog 0 (fun _ => none) tab17) 50) 19 [.sl zws ⟨0, 0, 0, 0⟩ false ws.length .any, .sl zvs ⟨1, 0, 0, 0⟩ false vs.length .any] [some ⟨3, false, false, true, .ints .i64 ws⟩, some ⟨3, false, false, true, .ints .i64 vs⟩] =
  Tree.chk ((0 + List.length ws ≤ List.length ws ∧ True) ∧ short (List.take (List.length ws) (List.drop (0) ws)) ∧ (zws = true → List.take (List.length ws) (List.drop (0) ws) = []))
  (Tree.br (mayZ (List.take (List.length ws) (List.drop (0) ws)) != (0 : Int))
  (Tree.ret
  (AV.tup [AV.sl true (Ref.mk (0) (0) (0) (0)) true (0) Cap.exact, AV.int IntKind.i64 false (mayZ (List.take (List.length ws) (List.drop (0) ws)))],
  [some (Blk.mk (3) false false true (Data.ints IntKind.i64 ws)), some (Blk.mk (3) false false true (Data.ints IntKind.i64 vs))]))
  (Tree.br (((List.length ws) : Int) != ((List.length vs) : Int))
  (Tree.ret
  (AV.tup [AV.sl true (Ref.mk (0) (0) (0) (0)) true (0) Cap.exact, AV.int IntKind.i64 true (2 : Int)],
  [some (Blk.mk (3) false false true (Data.ints IntKind.i64 ws)), some (Blk.mk (3) false false true (Data.ints IntKind.i64 vs))]))
  (Tree.chk
  (St.le
  (St.mk
  [jk, AV.sl zvs (Ref.mk (1) (0) (0) (0)) false (List.length vs) Cap.any, jk, jk, jk, jk, jk,
  AV.sl true (Ref.mk (2) (0) (0) (0)) false (0) Cap.own, AV.int IntKind.i64 true (0 : Int), AV.int IntKind.i64 true (0 : Int), jk, jk, jk, jk, jk, jk,
  jk, jk, jk, jk, jk, jk, AV.sl zws (Ref.mk (0) (0) (0) (0)) false (List.length ws) Cap.any, AV.int IntKind.i64 false ((List.length ws) : Int),
  AV.int IntKind.i64 true (0 : Int), jk, jk, jk, jk, jk, jk, jk, jk, jk, jk, jk, jk, jk, jk, jk, jk, jk, jk, jk, jk, jk,
  jk, jk, jk, jk, jk, jk, jk, jk, jk, jk, jk, jk, jk, jk, jk, jk, jk, jk, jk, jk, jk, jk, jk, jk, jk,
  jk, jk, jk, jk, jk, jk, jk, jk, jk]
  [some (Blk.mk (3) false false true (Data.ints IntKind.i64 ws)), some (Blk.mk (3) false false true (Data.ints IntKind.i64 vs)), some (Blk.mk (3) true true true (Data.ints IntKind.i64 []))])
  (St.mk
  [jk, AV.sl zvs (Ref.mk (1) (0) (0) (0)) false (List.length vs) Cap.any, jk, jk, jk, jk, jk,
  AV.sl true (Ref.mk (2) (0) (0) (0)) false (0) Cap.own, AV.int IntKind.i64 false (roomTo ws vs (Int.toNat (0 : Int))),
  AV.int IntKind.i64 false (lastTo ws vs (Int.toNat (0 : Int))), jk, jk, jk, jk, jk, jk, jk, jk, jk, jk, jk, jk,
  AV.sl zws (Ref.mk (0) (0) (0) (0)) false (List.length ws) Cap.any, AV.int IntKind.i64 false ((List.length ws) : Int), AV.int IntKind.i64 false (0 : Int), jk, jk, jk, jk,
  jk, jk, jk, jk, jk, jk, jk, jk, jk, jk, jk, jk, jk, jk, jk, jk, jk, jk, jk, jk, jk, jk, jk, jk, jk,
  jk, jk, jk, jk, jk, jk, jk, jk, jk, jk, jk, jk, jk, jk, jk, jk, jk, jk, jk, jk, jk, jk, jk, jk, jk,
  jk]
  [some (Blk.mk (3) false false true (Data.ints IntKind.i64 ws)), some (Blk.mk (3) false false true (Data.ints IntKind.i64 vs)),
  some (Blk.mk (3) true true true (Data.ints IntKind.i64 (outTo ws vs (Int.toNat (0 : Int)))))]))
  (Tree.chk (okfields_0 (Xfields_0.mk zws ws zvs vs (Int.toNat (0 : Int))))
  (Tree.br (fitF ws vs)
  (Tree.br (decide (roomTo ws vs (List.length ws) > (0 : Int)))
  (Tree.br (!decide (IntKind.wrap IntKind.i64 ((16 : Int) - roomTo ws vs (List.length ws)) < (0 : Int)))
  (Tree.br (decide (((List.length (outTo ws vs (List.length ws)) + 1) : Int) ≤ most48 ∧ (((List.length (outTo ws vs (List.length ws)) + 1) * 8) : Int) ≤ most48))
  (Tree.br
  (decide
  (List.length (outTo ws vs (List.length ws)) * 1 = Data.size (Data.ints IntKind.i64 (outTo ws vs (List.length ws))) ∧
  Data.size
  (Data.cells
  (List.take (1 * 1)
  (List.drop (0)
  (List.take (0 * 1) (zerosOf (List.map ofCell [Value.int IntKind.i64 (0 : Int)]) 1) ++
  (AV.parts
  (opnd (mkL Try.prog 0 (fun x => none) tab17 rowsfields)
  [jk, jk, jk, jk, jk, jk, jk,
  AV.sl (decide (outTo ws vs (List.length ws) = [])) (Ref.mk 2 0 0 0) false (List.length (outTo ws vs (List.length ws))) Cap.own,
  AV.int IntKind.i64 false (roomTo ws vs (List.length ws)), AV.int IntKind.i64 false (lastTo ws vs (List.length ws)), jk, jk, jk, jk, jk, jk,
  jk, jk, jk, jk, jk, jk, jk, jk, jk, jk, jk, jk, jk, jk, jk, jk, jk, jk, jk, jk, jk,
  jk, jk, jk, jk, jk, jk, jk, jk, jk, jk, jk, jk, jk, jk, jk, jk, jk, jk, jk, jk, jk,
  jk, jk, jk, jk, jk, jk, jk, jk, jk, jk, jk, jk, AV.int IntKind.i64 false (roomTo ws vs (List.length ws)), AV.bool true true,
  AV.sl (decide (outTo ws vs (List.length ws) = [])) (Ref.mk 2 0 0 0) false (List.length (outTo ws vs (List.length ws))) Cap.own,
  AV.int IntKind.i64 false (lastTo ws vs (List.length ws)), AV.int IntKind.i64 false (roomTo ws vs (List.length ws)),
  AV.int IntKind.i64 false (IntKind.wrap IntKind.i64 ((16 : Int) - roomTo ws vs (List.length ws))),
  AV.int IntKind.i64 false
  (IntKind.wrap IntKind.i64 (lastTo ws vs (List.length ws) * (2 : Int) ^ min (Int.toNat (IntKind.wrap IntKind.i64 ((16 : Int) - roomTo ws vs (List.length ws)))) (64))),
  jk, jk, jk]
  (Operand.tmp 76)) ++
  List.drop (0 * 1 + 1) (zerosOf (List.map ofCell [Value.int IntKind.i64 (0 : Int)]) 1)))))) =
  1 * 1) &&
  decide (outTo ws vs (List.length ws) = []) == decide ((outTo ws vs (List.length ws)) = []))
  (Tree.ret
  (AV.tup
  [AV.sl (decide (outTo ws vs (List.length ws) = []) && decide (1 = 0)) (Ref.mk (2) (0) (0) (0)) false
  (List.length (outTo ws vs (List.length ws)) + 1) Cap.own,
  AV.int IntKind.i64 true (0 : Int)],
  [some (Blk.mk (3) false false true (Data.ints IntKind.i64 ws)), some (Blk.mk (3) false false true (Data.ints IntKind.i64 vs)),
  some
  (Blk.mk (3) true (Bool.rec false (decide (1 = 0)) (decide ((outTo ws vs (List.length ws)) = []))) true
  (Data.ints IntKind.i64
  (outTo ws vs (List.length ws) ++
  [IntKind.wrap IntKind.i64 (lastTo ws vs (List.length ws) * (2 : Int) ^ min (Int.toNat (IntKind.wrap IntKind.i64 ((16 : Int) - roomTo ws vs (List.length ws)))) (64))])))]))
  Tree.fail)
  Tree.fail)
  Tree.fail)
  (Tree.ret
  (AV.tup
  [AV.sl (decide (outTo ws vs (List.length ws) = [])) (Ref.mk (2) (0) (0) (0)) false (List.length (outTo ws vs (List.length ws))) Cap.own,
  AV.int IntKind.i64 true (0 : Int)],
  [some (Blk.mk (3) false false true (Data.ints IntKind.i64 ws)), some (Blk.mk (3) false false true (Data.ints IntKind.i64 vs)),
  some (Blk.mk (3) true (decide ((outTo ws vs (List.length ws)) = [])) true (Data.ints IntKind.i64 (outTo ws vs (List.length ws))))])))
  (Tree.ret
  (AV.tup [AV.sl true (Ref.mk (0) (0) (0) (0)) true (0) Cap.exact, AV.int IntKind.i64 true (2 : Int)],
  [some (Blk.mk (3) false false true (Data.ints IntKind.i64 ws)), some (Blk.mk (3) false false true (Data.ints IntKind.i64 vs))]))))))) := by kernel_rfl
set_option maxRecDepth 100000 in
theorem gfields (zws : Bool) (ws : List Int) (zvs : Bool) (vs : List Int) (hw : short ws ∧ short vs ∧ (zws = true → ws = []) ∧ (zvs = true → vs = []) ∧ wf64L vs) : (Tree.chk ((0 + List.length ws ≤ List.length ws ∧ True) ∧ short (List.take (List.length ws) (List.drop (0) ws)) ∧ (zws = true → List.take (List.length ws) (List.drop (0) ws) = []))
  (Tree.br (mayZ (List.take (List.length ws) (List.drop (0) ws)) != (0 : Int))
  (Tree.ret
  (AV.tup [AV.sl true (Ref.mk (0) (0) (0) (0)) true (0) Cap.exact, AV.int IntKind.i64 false (mayZ (List.take (List.length ws) (List.drop (0) ws)))],
  [some (Blk.mk (3) false false true (Data.ints IntKind.i64 ws)), some (Blk.mk (3) false false true (Data.ints IntKind.i64 vs))]))
  (Tree.br (((List.length ws) : Int) != ((List.length vs) : Int))
  (Tree.ret
  (AV.tup [AV.sl true (Ref.mk (0) (0) (0) (0)) true (0) Cap.exact, AV.int IntKind.i64 true (2 : Int)],
  [some (Blk.mk (3) false false true (Data.ints IntKind.i64 ws)), some (Blk.mk (3) false false true (Data.ints IntKind.i64 vs))]))
  (Tree.chk
  (St.le
  (St.mk
  [jk, AV.sl zvs (Ref.mk (1) (0) (0) (0)) false (List.length vs) Cap.any, jk, jk, jk, jk, jk,
  AV.sl true (Ref.mk (2) (0) (0) (0)) false (0) Cap.own, AV.int IntKind.i64 true (0 : Int), AV.int IntKind.i64 true (0 : Int), jk, jk, jk, jk, jk, jk,
  jk, jk, jk, jk, jk, jk, AV.sl zws (Ref.mk (0) (0) (0) (0)) false (List.length ws) Cap.any, AV.int IntKind.i64 false ((List.length ws) : Int),
  AV.int IntKind.i64 true (0 : Int), jk, jk, jk, jk, jk, jk, jk, jk, jk, jk, jk, jk, jk, jk, jk, jk, jk, jk, jk, jk, jk,
  jk, jk, jk, jk, jk, jk, jk, jk, jk, jk, jk, jk, jk, jk, jk, jk, jk, jk, jk, jk, jk, jk, jk, jk, jk,
  jk, jk, jk, jk, jk, jk, jk, jk, jk]
  [some (Blk.mk (3) false false true (Data.ints IntKind.i64 ws)), some (Blk.mk (3) false false true (Data.ints IntKind.i64 vs)), some (Blk.mk (3) true true true (Data.ints IntKind.i64 []))])
  (St.mk
  [jk, AV.sl zvs (Ref.mk (1) (0) (0) (0)) false (List.length vs) Cap.any, jk, jk, jk, jk, jk,
  AV.sl true (Ref.mk (2) (0) (0) (0)) false (0) Cap.own, AV.int IntKind.i64 false (roomTo ws vs (Int.toNat (0 : Int))),
  AV.int IntKind.i64 false (lastTo ws vs (Int.toNat (0 : Int))), jk, jk, jk, jk, jk, jk, jk, jk, jk, jk, jk, jk,
  AV.sl zws (Ref.mk (0) (0) (0) (0)) false (List.length ws) Cap.any, AV.int IntKind.i64 false ((List.length ws) : Int), AV.int IntKind.i64 false (0 : Int), jk, jk, jk, jk,
  jk, jk, jk, jk, jk, jk, jk, jk, jk, jk, jk, jk, jk, jk, jk, jk, jk, jk, jk, jk, jk, jk, jk, jk, jk,
  jk, jk, jk, jk, jk, jk, jk, jk, jk, jk, jk, jk, jk, jk, jk, jk, jk, jk, jk, jk, jk, jk, jk, jk, jk,
  jk]
  [some (Blk.mk (3) false false true (Data.ints IntKind.i64 ws)), some (Blk.mk (3) false false true (Data.ints IntKind.i64 vs)),
  some (Blk.mk (3) true true true (Data.ints IntKind.i64 (outTo ws vs (Int.toNat (0 : Int)))))]))
  (Tree.chk (okfields_0 (Xfields_0.mk zws ws zvs vs (Int.toNat (0 : Int))))
  (Tree.br (fitF ws vs)
  (Tree.br (decide (roomTo ws vs (List.length ws) > (0 : Int)))
  (Tree.br (!decide (IntKind.wrap IntKind.i64 ((16 : Int) - roomTo ws vs (List.length ws)) < (0 : Int)))
  (Tree.br (decide (((List.length (outTo ws vs (List.length ws)) + 1) : Int) ≤ most48 ∧ (((List.length (outTo ws vs (List.length ws)) + 1) * 8) : Int) ≤ most48))
  (Tree.br
  (decide
  (List.length (outTo ws vs (List.length ws)) * 1 = Data.size (Data.ints IntKind.i64 (outTo ws vs (List.length ws))) ∧
  Data.size
  (Data.cells
  (List.take (1 * 1)
  (List.drop (0)
  (List.take (0 * 1) (zerosOf (List.map ofCell [Value.int IntKind.i64 (0 : Int)]) 1) ++
  (AV.parts
  (opnd (mkL Try.prog 0 (fun x => none) tab17 rowsfields)
  [jk, jk, jk, jk, jk, jk, jk,
  AV.sl (decide (outTo ws vs (List.length ws) = [])) (Ref.mk 2 0 0 0) false (List.length (outTo ws vs (List.length ws))) Cap.own,
  AV.int IntKind.i64 false (roomTo ws vs (List.length ws)), AV.int IntKind.i64 false (lastTo ws vs (List.length ws)), jk, jk, jk, jk, jk, jk,
  jk, jk, jk, jk, jk, jk, jk, jk, jk, jk, jk, jk, jk, jk, jk, jk, jk, jk, jk, jk, jk,
  jk, jk, jk, jk, jk, jk, jk, jk, jk, jk, jk, jk, jk, jk, jk, jk, jk, jk, jk, jk, jk,
  jk, jk, jk, jk, jk, jk, jk, jk, jk, jk, jk, jk, AV.int IntKind.i64 false (roomTo ws vs (List.length ws)), AV.bool true true,
  AV.sl (decide (outTo ws vs (List.length ws) = [])) (Ref.mk 2 0 0 0) false (List.length (outTo ws vs (List.length ws))) Cap.own,
  AV.int IntKind.i64 false (lastTo ws vs (List.length ws)), AV.int IntKind.i64 false (roomTo ws vs (List.length ws)),
  AV.int IntKind.i64 false (IntKind.wrap IntKind.i64 ((16 : Int) - roomTo ws vs (List.length ws))),
  AV.int IntKind.i64 false
  (IntKind.wrap IntKind.i64 (lastTo ws vs (List.length ws) * (2 : Int) ^ min (Int.toNat (IntKind.wrap IntKind.i64 ((16 : Int) - roomTo ws vs (List.length ws)))) (64))),
  jk, jk, jk]
  (Operand.tmp 76)) ++
  List.drop (0 * 1 + 1) (zerosOf (List.map ofCell [Value.int IntKind.i64 (0 : Int)]) 1)))))) =
  1 * 1) &&
  decide (outTo ws vs (List.length ws) = []) == decide ((outTo ws vs (List.length ws)) = []))
  (Tree.ret
  (AV.tup
  [AV.sl (decide (outTo ws vs (List.length ws) = []) && decide (1 = 0)) (Ref.mk (2) (0) (0) (0)) false
  (List.length (outTo ws vs (List.length ws)) + 1) Cap.own,
  AV.int IntKind.i64 true (0 : Int)],
  [some (Blk.mk (3) false false true (Data.ints IntKind.i64 ws)), some (Blk.mk (3) false false true (Data.ints IntKind.i64 vs)),
  some
  (Blk.mk (3) true (Bool.rec false (decide (1 = 0)) (decide ((outTo ws vs (List.length ws)) = []))) true
  (Data.ints IntKind.i64
  (outTo ws vs (List.length ws) ++
  [IntKind.wrap IntKind.i64 (lastTo ws vs (List.length ws) * (2 : Int) ^ min (Int.toNat (IntKind.wrap IntKind.i64 ((16 : Int) - roomTo ws vs (List.length ws)))) (64))])))]))
  Tree.fail)
  Tree.fail)
  Tree.fail)
  (Tree.ret
  (AV.tup
  [AV.sl (decide (outTo ws vs (List.length ws) = [])) (Ref.mk (2) (0) (0) (0)) false (List.length (outTo ws vs (List.length ws))) Cap.own,
  AV.int IntKind.i64 true (0 : Int)],
  [some (Blk.mk (3) false false true (Data.ints IntKind.i64 ws)), some (Blk.mk (3) false false true (Data.ints IntKind.i64 vs)),
  some (Blk.mk (3) true (decide ((outTo ws vs (List.length ws)) = [])) true (Data.ints IntKind.i64 (outTo ws vs (List.length ws))))])))
  (Tree.ret
  (AV.tup [AV.sl true (Ref.mk (0) (0) (0) (0)) true (0) Cap.exact, AV.int IntKind.i64 true (2 : Int)],
  [some (Blk.mk (3) false false true (Data.ints IntKind.i64 ws)), some (Blk.mk (3) false false true (Data.ints IntKind.i64 vs))]))))))) : Tree (AV × Mem)).GivesP (.tup [.sl (decide (fieldsL ws vs = [])) ⟨2, 0, 0, 0⟩ false (fieldsL ws vs).length .own, .int .i64 false (fieldsE ws vs)]) ([some ⟨3, false, false, true, .ints .i64 ws⟩, some ⟨3, false, false, true, .ints .i64 vs⟩, some (⟨3, true, decide (fieldsL ws vs = []), true, .ints .i64 (fieldsL ws vs)⟩)]) := by
  obtain ⟨hs, hs2, hzw, hzv, hwv⟩ := hw
  simp only [List.take_length, List.drop_zero]
  refine Tree.GivesP.chk (by first | (simp only [and_self]; done) | (exact ⟨⟨by omega, trivial⟩, hs, hzw⟩)) ?_
  refine Tree.GivesP.br (fun h1 => ?_) (fun h1 => ?_)
  · (try simp only [decide_eq_true_eq, decide_eq_false_iff_not, Bool.not_eq_true', Bool.not_eq_false', beq_iff_eq, beq_eq_false_iff_ne, Int.not_lt, Int.not_le, ge_iff_le, gt_iff_lt, ne_eq, Bool.false_eq_true, Bool.true_eq_false, not_true_eq_false, not_false_eq_true, Bool.and_eq_true, Bool.not_eq_eq_eq_not, Bool.not_true, Bool.not_false, bne_iff_ne, bne_eq_false_iff_eq, Int.toNat_natCast, Nat.mul_one, Nat.add_zero, Nat.zero_add, List.take_length, List.drop_zero] at h1)
    all_goals
      refine Tree.GivesP.ret ?_ ?_
      · have e := fields_may (vs := vs) h1
        simp [AV.le, AV.leL, Cap.le, e.1, e.2] <;> first | assumption | exact pl.symm
      · have e := fields_may (vs := vs) h1
        simp [Mem.leP, Blk.le, Blk.pad, Data.le, Data.size, AV.le, AV.leL, e.1, e.2] <;> first | assumption | (cases decide (outTo ws vs ws.length = []) <;> rfl)
  · (try simp only [decide_eq_true_eq, decide_eq_false_iff_not, Bool.not_eq_true', Bool.not_eq_false', beq_iff_eq, beq_eq_false_iff_ne, Int.not_lt, Int.not_le, ge_iff_le, gt_iff_lt, ne_eq, Bool.false_eq_true, Bool.true_eq_false, not_true_eq_false, not_false_eq_true, Bool.and_eq_true, Bool.not_eq_eq_eq_not, Bool.not_true, Bool.not_false, bne_iff_ne, bne_eq_false_iff_eq, Int.toNat_natCast, Nat.mul_one, Nat.add_zero, Nat.zero_add, List.take_length, List.drop_zero] at h1)
    all_goals
      refine Tree.GivesP.br (fun h2 => ?_) (fun h2 => ?_)
      · (try simp only [decide_eq_true_eq, decide_eq_false_iff_not, Bool.not_eq_true', Bool.not_eq_false', beq_iff_eq, beq_eq_false_iff_ne, Int.not_lt, Int.not_le, ge_iff_le, gt_iff_lt, ne_eq, Bool.false_eq_true, Bool.true_eq_false, not_true_eq_false, not_false_eq_true, Bool.and_eq_true, Bool.not_eq_eq_eq_not, Bool.not_true, Bool.not_false, bne_iff_ne, bne_eq_false_iff_eq, Int.toNat_natCast, Nat.mul_one, Nat.add_zero, Nat.zero_add, List.take_length, List.drop_zero] at h2)
        all_goals
          refine Tree.GivesP.ret ?_ ?_
          · have e := fields_bad h1 (fun hh => h2 (by rw [hh.1]))
            simp [AV.le, AV.leL, Cap.le, e.1, e.2] <;> first | assumption | exact pl.symm
          · have e := fields_bad h1 (fun hh => h2 (by rw [hh.1]))
            simp [Mem.leP, Blk.le, Blk.pad, Data.le, Data.size, AV.le, AV.leL, e.1, e.2] <;> first | assumption | (cases decide (outTo ws vs ws.length = []) <;> rfl)
      · (try simp only [decide_eq_true_eq, decide_eq_false_iff_not, Bool.not_eq_true', Bool.not_eq_false', beq_iff_eq, beq_eq_false_iff_ne, Int.not_lt, Int.not_le, ge_iff_le, gt_iff_lt, ne_eq, Bool.false_eq_true, Bool.true_eq_false, not_true_eq_false, not_false_eq_true, Bool.and_eq_true, Bool.not_eq_eq_eq_not, Bool.not_true, Bool.not_false, bne_iff_ne, bne_eq_false_iff_eq, Int.toNat_natCast, Nat.mul_one, Nat.add_zero, Nat.zero_add, List.take_length, List.drop_zero] at h2)
        all_goals
          refine Tree.GivesP.chk (by first | (simp only [and_self]; done) | (constructor <;> simp only [hdfields_0, Int.toNat_zero, Int.cast_ofNat_Int, AV.leL, AV.le, Mem.le, Mem.leP, Blk.le, Blk.pad, Data.le, Data.size, Cap.le, and_true, true_and, and_self, true_implies, implies_true, imp_self, List.length_nil] <;> (try simp only [List.take_zero]) <;> (try rfl) <;> (try (repeat' with_reducible refine And.intro ?_ ?_)) <;> first | rfl | exact (to_zero ws vs).1.symm | exact (to_zero ws vs).2.1.symm | exact (to_zero ws vs).2.2.symm)) ?_
          refine Tree.GivesP.chk (by first | (simp only [and_self]; done) | (exact ⟨h1, by omega, hzw, hzv, hwv, Nat.zero_le _, rfl⟩)) ?_
          refine Tree.GivesP.br (fun h3 => ?_) (fun h3 => ?_)
          · (try simp only [decide_eq_true_eq, decide_eq_false_iff_not, Bool.not_eq_true', Bool.not_eq_false', beq_iff_eq, beq_eq_false_iff_ne, Int.not_lt, Int.not_le, ge_iff_le, gt_iff_lt, ne_eq, Bool.false_eq_true, Bool.true_eq_false, not_true_eq_false, not_false_eq_true, Bool.and_eq_true, Bool.not_eq_eq_eq_not, Bool.not_true, Bool.not_false, bne_iff_ne, bne_eq_false_iff_eq, Int.toNat_natCast, Nat.mul_one, Nat.add_zero, Nat.zero_add, List.take_length, List.drop_zero] at h3)
            all_goals
              refine Tree.GivesP.br (fun h4 => ?_) (fun h4 => ?_)
              · (try simp only [decide_eq_true_eq, decide_eq_false_iff_not, Bool.not_eq_true', Bool.not_eq_false', beq_iff_eq, beq_eq_false_iff_ne, Int.not_lt, Int.not_le, ge_iff_le, gt_iff_lt, ne_eq, Bool.false_eq_true, Bool.true_eq_false, not_true_eq_false, not_false_eq_true, Bool.and_eq_true, Bool.not_eq_eq_eq_not, Bool.not_true, Bool.not_false, bne_iff_ne, bne_eq_false_iff_eq, Int.toNat_natCast, Nat.mul_one, Nat.add_zero, Nat.zero_add, List.take_length, List.drop_zero] at h4)
                all_goals
                  refine Tree.GivesP.br (fun h5 => ?_) (fun h5 => ?_)
                  · (try simp only [decide_eq_true_eq, decide_eq_false_iff_not, Bool.not_eq_true', Bool.not_eq_false', beq_iff_eq, beq_eq_false_iff_ne, Int.not_lt, Int.not_le, ge_iff_le, gt_iff_lt, ne_eq, Bool.false_eq_true, Bool.true_eq_false, not_true_eq_false, not_false_eq_true, Bool.and_eq_true, Bool.not_eq_eq_eq_not, Bool.not_true, Bool.not_false, bne_iff_ne, bne_eq_false_iff_eq, Int.toNat_natCast, Nat.mul_one, Nat.add_zero, Nat.zero_add, List.take_length, List.drop_zero] at h5)
                    all_goals
                      refine Tree.GivesP.br (fun h6 => ?_) (fun h6 => ?_)
                      · (try simp only [decide_eq_true_eq, decide_eq_false_iff_not, Bool.not_eq_true', Bool.not_eq_false', beq_iff_eq, beq_eq_false_iff_ne, Int.not_lt, Int.not_le, ge_iff_le, gt_iff_lt, ne_eq, Bool.false_eq_true, Bool.true_eq_false, not_true_eq_false, not_false_eq_true, Bool.and_eq_true, Bool.not_eq_eq_eq_not, Bool.not_true, Bool.not_false, bne_iff_ne, bne_eq_false_iff_eq, Int.toNat_natCast, Nat.mul_one, Nat.add_zero, Nat.zero_add, List.take_length, List.drop_zero] at h6)
                        all_goals
                          refine Tree.GivesP.br (fun h7 => ?_) (fun h7 => ?_)
                          · (try simp only [decide_eq_true_eq, decide_eq_false_iff_not, Bool.not_eq_true', Bool.not_eq_false', beq_iff_eq, beq_eq_false_iff_ne, Int.not_lt, Int.not_le, ge_iff_le, gt_iff_lt, ne_eq, Bool.false_eq_true, Bool.true_eq_false, not_true_eq_false, not_false_eq_true, Bool.and_eq_true, Bool.not_eq_eq_eq_not, Bool.not_true, Bool.not_false, bne_iff_ne, bne_eq_false_iff_eq, Int.toNat_natCast, Nat.mul_one, Nat.add_zero, Nat.zero_add, List.take_length, List.drop_zero] at h7)
                            all_goals
                              refine Tree.GivesP.ret ?_ ?_
                              · have e := fields_end h1 (by omega) h3
                                rw [if_pos h4] at e
                                obtain ⟨r0, r1, t0, t1, t2⟩ := to_bounds ws vs ws.length
                                have er : IntKind.i64.wrap (16 - roomTo ws vs ws.length) = 16 - roomTo ws vs ws.length := by rw [w64]; omega
                                have hmn : min (16 - roomTo ws vs ws.length).toNat 64 = (16 - roomTo ws vs ws.length).toNat := by omega
                                have m16 := mul16 (w := (16 - roomTo ws vs ws.length).toNat) t0 t2 (by omega)
                                have el : IntKind.i64.wrap (lastTo ws vs ws.length * 2 ^ (16 - roomTo ws vs ws.length).toNat) = lastTo ws vs ws.length * 2 ^ (16 - roomTo ws vs ws.length).toNat := by rw [w64]; omega
                                (try simp only [er, hmn, el])
                                simp [AV.le, AV.leL, Cap.le, e.1, e.2] <;> first | assumption | exact pl.symm
                              · have e := fields_end h1 (by omega) h3
                                rw [if_pos h4] at e
                                obtain ⟨r0, r1, t0, t1, t2⟩ := to_bounds ws vs ws.length
                                have er : IntKind.i64.wrap (16 - roomTo ws vs ws.length) = 16 - roomTo ws vs ws.length := by rw [w64]; omega
                                have hmn : min (16 - roomTo ws vs ws.length).toNat 64 = (16 - roomTo ws vs ws.length).toNat := by omega
                                have m16 := mul16 (w := (16 - roomTo ws vs ws.length).toNat) t0 t2 (by omega)
                                have el : IntKind.i64.wrap (lastTo ws vs ws.length * 2 ^ (16 - roomTo ws vs ws.length).toNat) = lastTo ws vs ws.length * 2 ^ (16 - roomTo ws vs ws.length).toNat := by rw [w64]; omega
                                (try simp only [er, hmn, el])
                                simp [Mem.leP, Blk.le, Blk.pad, Data.le, Data.size, AV.le, AV.leL, e.1, e.2] <;> first | assumption | (cases decide (outTo ws vs ws.length = []) <;> rfl)
                          · (try simp only [decide_eq_true_eq, decide_eq_false_iff_not, Bool.not_eq_true', Bool.not_eq_false', beq_iff_eq, beq_eq_false_iff_ne, Int.not_lt, Int.not_le, ge_iff_le, gt_iff_lt, ne_eq, Bool.false_eq_true, Bool.true_eq_false, not_true_eq_false, not_false_eq_true, Bool.and_eq_true, Bool.not_eq_eq_eq_not, Bool.not_true, Bool.not_false, bne_iff_ne, bne_eq_false_iff_eq, Int.toNat_natCast, Nat.mul_one, Nat.add_zero, Nat.zero_add, List.take_length, List.drop_zero] at h7)
                            all_goals
                              exfalso
                              rw [Bool.and_eq_false_iff] at h7
                              rcases h7 with h7 | h7
                              · rw [decide_eq_false_iff_not] at h7
                                exact h7 ⟨by first | rfl | (simp only [Data.size]; omega), by first | rfl | kernel_rfl⟩
                              · exact absurd h7 (by simp)
                      · (try simp only [decide_eq_true_eq, decide_eq_false_iff_not, Bool.not_eq_true', Bool.not_eq_false', beq_iff_eq, beq_eq_false_iff_ne, Int.not_lt, Int.not_le, ge_iff_le, gt_iff_lt, ne_eq, Bool.false_eq_true, Bool.true_eq_false, not_true_eq_false, not_false_eq_true, Bool.and_eq_true, Bool.not_eq_eq_eq_not, Bool.not_true, Bool.not_false, bne_iff_ne, bne_eq_false_iff_eq, Int.toNat_natCast, Nat.mul_one, Nat.add_zero, Nat.zero_add, List.take_length, List.drop_zero] at h6)
                        all_goals
                          exfalso
                          simp [most48] at h6
                          have ol := outTo_len (ws := ws) (vs := vs) (i := ws.length) (may_ok h1).2 (by omega) (Nat.le_refl _)
                          have := (may_ok h1).1
                          omega
                  · (try simp only [decide_eq_true_eq, decide_eq_false_iff_not, Bool.not_eq_true', Bool.not_eq_false', beq_iff_eq, beq_eq_false_iff_ne, Int.not_lt, Int.not_le, ge_iff_le, gt_iff_lt, ne_eq, Bool.false_eq_true, Bool.true_eq_false, not_true_eq_false, not_false_eq_true, Bool.and_eq_true, Bool.not_eq_eq_eq_not, Bool.not_true, Bool.not_false, bne_iff_ne, bne_eq_false_iff_eq, Int.toNat_natCast, Nat.mul_one, Nat.add_zero, Nat.zero_add, List.take_length, List.drop_zero] at h5)
                    all_goals
                      exfalso
                      have tb := to_bounds ws vs ws.length
                      simp only [w64] at h5
                      omega
              · (try simp only [decide_eq_true_eq, decide_eq_false_iff_not, Bool.not_eq_true', Bool.not_eq_false', beq_iff_eq, beq_eq_false_iff_ne, Int.not_lt, Int.not_le, ge_iff_le, gt_iff_lt, ne_eq, Bool.false_eq_true, Bool.true_eq_false, not_true_eq_false, not_false_eq_true, Bool.and_eq_true, Bool.not_eq_eq_eq_not, Bool.not_true, Bool.not_false, bne_iff_ne, bne_eq_false_iff_eq, Int.toNat_natCast, Nat.mul_one, Nat.add_zero, Nat.zero_add, List.take_length, List.drop_zero] at h4)
                all_goals
                  refine Tree.GivesP.ret ?_ ?_
                  · have e := fields_end h1 (by omega) h3
                    rw [if_neg (by omega)] at e
                    simp [AV.le, AV.leL, Cap.le, e.1, e.2] <;> first | assumption | exact pl.symm
                  · have e := fields_end h1 (by omega) h3
                    rw [if_neg (by omega)] at e
                    simp [Mem.leP, Blk.le, Blk.pad, Data.le, Data.size, AV.le, AV.leL, e.1, e.2] <;> first | assumption | (cases decide (outTo ws vs ws.length = []) <;> rfl)
          · (try simp only [decide_eq_true_eq, decide_eq_false_iff_not, Bool.not_eq_true', Bool.not_eq_false', beq_iff_eq, beq_eq_false_iff_ne, Int.not_lt, Int.not_le, ge_iff_le, gt_iff_lt, ne_eq, Bool.false_eq_true, Bool.true_eq_false, not_true_eq_false, not_false_eq_true, Bool.and_eq_true, Bool.not_eq_eq_eq_not, Bool.not_true, Bool.not_false, bne_iff_ne, bne_eq_false_iff_eq, Int.toNat_natCast, Nat.mul_one, Nat.add_zero, Nat.zero_add, List.take_length, List.drop_zero] at h3)
            all_goals
              refine Tree.GivesP.ret ?_ ?_
              · have e := fields_bad h1 (fun hh => by rw [hh.2] at h3; cases h3)
                simp [AV.le, AV.leL, Cap.le, e.1, e.2] <;> first | assumption | exact pl.symm
              · have e := fields_bad h1 (fun hh => by rw [hh.2] at h3; cases h3)
                simp [Mem.leP, Blk.le, Blk.pad, Data.le, Data.size, AV.le, AV.leL, e.1, e.2] <;> first | assumption | (cases decide (outTo ws vs ws.length = []) <;> rfl)
theorem sfields (hall : AllOk Try.prog 0 (fun _ => none) tab17) (zws : Bool) (ws : List Int) (zvs : Bool) (vs : List Int) (hw : short ws ∧ short vs ∧ (zws = true → ws = []) ∧ (zvs = true → vs = []) ∧ wf64L vs) : SoundAt (mkC Try.prog 0 (fun _ => none) []) 19 [.sl zws ⟨0, 0, 0, 0⟩ false ws.length .any, .sl zvs ⟨1, 0, 0, 0⟩ false vs.length .any] [some ⟨3, false, false, true, .ints .i64 ws⟩, some ⟨3, false, false, true, .ints .i64 vs⟩] (.tup [.sl (decide (fieldsL ws vs = [])) ⟨2, 0, 0, 0⟩ false (fieldsL ws vs).length .own, .int .i64 false (fieldsE ws vs)], [some ⟨3, false, false, true, .ints .i64 ws⟩, some ⟨3, false, false, true, .ints .i64 vs⟩, some (⟨3, true, decide (fieldsL ws vs = []), true, .ints .i64 (fieldsL ws vs)⟩)]) := sound_loopsP hall mix (loopsfields hall) (tfields zws ws zvs vs) (gfields zws ws zvs vs hw)
theorem Ffields_ok (hall : AllOk Try.prog 0 (fun _ => none) tab17) : PureF Try.prog 3 19 Ffields := by
  intro xs c v news h hc
  unfold Ffields at h
  split at h
  · rename_i zws ws zvs vs
    cases h
    refine ⟨(by simp), SoundAt.flags (sfields hall zws ws zvs vs hc) ?_⟩
    simp [PA.avs, AV.le, AV.leL, Cap.le]
  · cases h
end Go.Proofs.Ytnkjblmlchbfkaa.Rig

/- Qsplit -/
namespace Go.Proofs.Ytnkjblmlchbfkaa.Rig
open Go
set_option maxRecDepth 100000 in
theorem tLsplit_0 (zws : Bool) (ws : List Int) (zl : Bool) (l : List Int) (i : Nat) : tidied Tsplit_0 Usplit_0 2 (evCode (mkL Try.prog 0 (fun _ => none) tab18 rowssplit) (evCall (mkC Try.prog 0 (fun _ => none) tab18) 50) 21 2 fuelC (bodyAt Try.prog 21 0) (hdsplit_0 ⟨zws, ws, zl, l, i⟩)) =
  Tree.br (decide ((i : Int) < ((List.length ws) : Int)))
  (Tree.br (!zws && decide ((0 : Int) ≤ (i : Int) ∧ (i : Int) < ((List.length ws) : Int)))
  (Tree.br (decide (Int.toNat (i : Int) * 1 + 0 + 1 ≤ List.length ws))
  (Tree.br true
  (Tree.br (!zl && decide ((0 : Int) ≤ IntKind.wrap IntKind.i64 (Int.tdiv (sumI (List.take i ws)) (16 : Int)) ∧ IntKind.wrap IntKind.i64 (Int.tdiv (sumI (List.take i ws)) (16 : Int)) < ((List.length l) : Int)))
  (Tree.br (decide (Int.toNat (IntKind.wrap IntKind.i64 (Int.tdiv (sumI (List.take i ws)) (16 : Int))) * 1 + 0 + 1 ≤ List.length l))
  (Tree.br true
  (Tree.br (decide (IntKind.wrap IntKind.i64 (IntKind.wrap IntKind.i64 (Int.tdiv (sumI (List.take i ws)) (16 : Int)) + (1 : Int)) < ((List.length l) : Int)))
  (Tree.br true
  (Tree.br
  (!zl &&
  decide
  ((0 : Int) ≤ IntKind.wrap IntKind.i64 (IntKind.wrap IntKind.i64 (Int.tdiv (sumI (List.take i ws)) (16 : Int)) + (1 : Int)) ∧
  IntKind.wrap IntKind.i64 (IntKind.wrap IntKind.i64 (Int.tdiv (sumI (List.take i ws)) (16 : Int)) + (1 : Int)) < ((List.length l) : Int)))
  (Tree.br (decide (Int.toNat (IntKind.wrap IntKind.i64 (IntKind.wrap IntKind.i64 (Int.tdiv (sumI (List.take i ws)) (16 : Int)) + (1 : Int))) * 1 + 0 + 1 ≤ List.length l))
  (Tree.br true
  (Tree.br
  (!decide
  (IntKind.wrap IntKind.i64 (IntKind.wrap IntKind.i64 ((32 : Int) - Int.tmod (sumI (List.take i ws)) (16 : Int)) - List.getD ws (Int.toNat (i : Int) * 1 + 0 + 0) (0 : Int)) <
  (0 : Int)))
  (Tree.br (!decide (List.getD ws (Int.toNat (i : Int) * 1 + 0 + 0) (0 : Int) < (0 : Int)))
  (Tree.br (decide (((List.length (splitF l 0 (List.take i ws)) + 1) : Int) ≤ most48 ∧ (((List.length (splitF l 0 (List.take i ws)) + 1) * 8) : Int) ≤ most48))
  (Tree.br
  (decide
  (List.length (splitF l 0 (List.take i ws)) * 1 = Data.size (Data.ints IntKind.i64 (splitF l 0 (List.take i ws))) ∧
  Data.size
  (Data.cells
  (List.take (1 * 1)
  (List.drop (0)
  (List.take (0 * 1) (zerosOf (List.map ofCell [Value.int IntKind.i64 (0 : Int)]) 1) ++
  (AV.parts
  (opnd (mkL Try.prog 0 (fun x => none) tab18 rowssplit)
  [jk, AV.sl zl (Ref.mk 1 0 0 0) false (List.length l) Cap.any, jk, jk, jk, jk, jk, jk,
  AV.sl (decide (splitF l 0 (List.take i ws) = [])) (Ref.mk 2 0 0 0) false (List.length (splitF l 0 (List.take i ws)))
  Cap.own,
  AV.int IntKind.i64 false (sumI (List.take i ws)), jk, AV.int IntKind.i64 false (List.getD ws (Int.toNat (i : Int) * 1 + 0 + 0) (0 : Int)),
  AV.int IntKind.i64 false
  (IntKind.wrap IntKind.i64
  ((BitVec.toNat
  (BitVec.ofInt (64)
  (IntKind.wrap IntKind.i64
  (List.getD l (Int.toNat (IntKind.wrap IntKind.i64 (Int.tdiv (sumI (List.take i ws)) (16 : Int))) * 1 + 0 + 0) (0 : Int) *
  (65536 : Int))) |||
  BitVec.ofInt (64)
  (IntKind.wrap IntKind.i64
  ((BitVec.toNat
  (BitVec.ofInt (64)
  (List.getD l
  (Int.toNat (IntKind.wrap IntKind.i64 (IntKind.wrap IntKind.i64 (Int.tdiv (sumI (List.take i ws)) (16 : Int)) + (1 : Int))) * 1 + 0 +
  0)
  (0 : Int)) &&&
  BitVec.ofInt (64) (65535 : Int))) : Int)))) : Int)),
  jk, jk, jk, jk, jk, jk, jk, jk, jk, jk, jk, jk,
  AV.sl zws (Ref.mk 0 0 0 0) false (List.length ws) Cap.any, AV.int IntKind.i64 false ((List.length ws) : Int), AV.int IntKind.i64 false (i : Int),
  AV.bool true true, AV.ptr (Ref.mk (0) (Int.toNat (i : Int)) (1) (0)),
  AV.int IntKind.i64 false (List.getD ws (Int.toNat (i : Int) * 1 + 0 + 0) (0 : Int)),
  AV.sl zl (Ref.mk 1 0 0 0) false (List.length l) Cap.any, AV.int IntKind.i64 false (sumI (List.take i ws)),
  AV.int IntKind.i64 false (IntKind.wrap IntKind.i64 (Int.tdiv (sumI (List.take i ws)) (16 : Int))),
  AV.ptr (Ref.mk (1) (Int.toNat (IntKind.wrap IntKind.i64 (Int.tdiv (sumI (List.take i ws)) (16 : Int)))) (1) (0)),
  AV.int IntKind.i64 false (List.getD l (Int.toNat (IntKind.wrap IntKind.i64 (Int.tdiv (sumI (List.take i ws)) (16 : Int))) * 1 + 0 + 0) (0 : Int)),
  AV.int IntKind.i64 false
  (IntKind.wrap IntKind.i64
  (List.getD l (Int.toNat (IntKind.wrap IntKind.i64 (Int.tdiv (sumI (List.take i ws)) (16 : Int))) * 1 + 0 + 0) (0 : Int) * (65536 : Int))),
  AV.int IntKind.i64 false (sumI (List.take i ws)), AV.int IntKind.i64 false (IntKind.wrap IntKind.i64 (Int.tdiv (sumI (List.take i ws)) (16 : Int))),
  AV.int IntKind.i64 false (IntKind.wrap IntKind.i64 (IntKind.wrap IntKind.i64 (Int.tdiv (sumI (List.take i ws)) (16 : Int)) + (1 : Int))),
  AV.sl zl (Ref.mk 1 0 0 0) false (List.length l) Cap.any, AV.int IntKind.i64 false ((List.length l) : Int), AV.bool true true,
  AV.int IntKind.i64 false
  (IntKind.wrap IntKind.i64
  (List.getD l (Int.toNat (IntKind.wrap IntKind.i64 (Int.tdiv (sumI (List.take i ws)) (16 : Int))) * 1 + 0 + 0) (0 : Int) * (65536 : Int))),
  AV.sl zl (Ref.mk 1 0 0 0) false (List.length l) Cap.any, AV.int IntKind.i64 false (sumI (List.take i ws)),
  AV.int IntKind.i64 false (IntKind.wrap IntKind.i64 (Int.tdiv (sumI (List.take i ws)) (16 : Int))),
  AV.int IntKind.i64 false (IntKind.wrap IntKind.i64 (IntKind.wrap IntKind.i64 (Int.tdiv (sumI (List.take i ws)) (16 : Int)) + (1 : Int))),
  AV.ptr (Ref.mk (1) (Int.toNat (IntKind.wrap IntKind.i64 (IntKind.wrap IntKind.i64 (Int.tdiv (sumI (List.take i ws)) (16 : Int)) + (1 : Int)))) (1) (0)),
  AV.int IntKind.i64 false
  (List.getD l
  (Int.toNat (IntKind.wrap IntKind.i64 (IntKind.wrap IntKind.i64 (Int.tdiv (sumI (List.take i ws)) (16 : Int)) + (1 : Int))) * 1 + 0 + 0) (0 : Int)),
  AV.int IntKind.i64 false
  (IntKind.wrap IntKind.i64
  ((BitVec.toNat
  (BitVec.ofInt (64)
  (List.getD l
  (Int.toNat (IntKind.wrap IntKind.i64 (IntKind.wrap IntKind.i64 (Int.tdiv (sumI (List.take i ws)) (16 : Int)) + (1 : Int))) * 1 + 0 + 0)
  (0 : Int)) &&&
  BitVec.ofInt (64) (65535 : Int))) : Int)),
  AV.int IntKind.i64 false
  (IntKind.wrap IntKind.i64
  ((BitVec.toNat
  (BitVec.ofInt (64)
  (IntKind.wrap IntKind.i64
  (List.getD l (Int.toNat (IntKind.wrap IntKind.i64 (Int.tdiv (sumI (List.take i ws)) (16 : Int))) * 1 + 0 + 0) (0 : Int) *
  (65536 : Int))) |||
  BitVec.ofInt (64)
  (IntKind.wrap IntKind.i64
  ((BitVec.toNat
  (BitVec.ofInt (64)
  (List.getD l
  (Int.toNat (IntKind.wrap IntKind.i64 (IntKind.wrap IntKind.i64 (Int.tdiv (sumI (List.take i ws)) (16 : Int)) + (1 : Int))) * 1 + 0 +
  0)
  (0 : Int)) &&&
  BitVec.ofInt (64) (65535 : Int))) : Int)))) : Int)),
  AV.sl (decide (splitF l 0 (List.take i ws) = [])) (Ref.mk 2 0 0 0) false (List.length (splitF l 0 (List.take i ws)))
  Cap.own,
  AV.int IntKind.i64 false
  (IntKind.wrap IntKind.i64
  ((BitVec.toNat
  (BitVec.ofInt (64)
  (IntKind.wrap IntKind.i64
  (List.getD l (Int.toNat (IntKind.wrap IntKind.i64 (Int.tdiv (sumI (List.take i ws)) (16 : Int))) * 1 + 0 + 0) (0 : Int) *
  (65536 : Int))) |||
  BitVec.ofInt (64)
  (IntKind.wrap IntKind.i64
  ((BitVec.toNat
  (BitVec.ofInt (64)
  (List.getD l
  (Int.toNat (IntKind.wrap IntKind.i64 (IntKind.wrap IntKind.i64 (Int.tdiv (sumI (List.take i ws)) (16 : Int)) + (1 : Int))) * 1 + 0 +
  0)
  (0 : Int)) &&&
  BitVec.ofInt (64) (65535 : Int))) : Int)))) : Int)),
  AV.int IntKind.i64 false (sumI (List.take i ws)), AV.int IntKind.i64 false (Int.tmod (sumI (List.take i ws)) (16 : Int)),
  AV.int IntKind.i64 false (IntKind.wrap IntKind.i64 ((32 : Int) - Int.tmod (sumI (List.take i ws)) (16 : Int))),
  AV.int IntKind.i64 false (List.getD ws (Int.toNat (i : Int) * 1 + 0 + 0) (0 : Int)),
  AV.int IntKind.i64 false
  (IntKind.wrap IntKind.i64
  (IntKind.wrap IntKind.i64 ((32 : Int) - Int.tmod (sumI (List.take i ws)) (16 : Int)) - List.getD ws (Int.toNat (i : Int) * 1 + 0 + 0) (0 : Int))),
  AV.int IntKind.i64 false
  (Int.fdiv
  (IntKind.wrap IntKind.i64
  ((BitVec.toNat
  (BitVec.ofInt (64)
  (IntKind.wrap IntKind.i64
  (List.getD l (Int.toNat (IntKind.wrap IntKind.i64 (Int.tdiv (sumI (List.take i ws)) (16 : Int))) * 1 + 0 + 0) (0 : Int) *
  (65536 : Int))) |||
  BitVec.ofInt (64)
  (IntKind.wrap IntKind.i64
  ((BitVec.toNat
  (BitVec.ofInt (64)
  (List.getD l
  (Int.toNat (IntKind.wrap IntKind.i64 (IntKind.wrap IntKind.i64 (Int.tdiv (sumI (List.take i ws)) (16 : Int)) + (1 : Int))) * 1 + 0 +
  0)
  (0 : Int)) &&&
  BitVec.ofInt (64) (65535 : Int))) : Int)))) : Int))
  ((2 : Int) ^
  min
  (Int.toNat
  (IntKind.wrap IntKind.i64
  (IntKind.wrap IntKind.i64 ((32 : Int) - Int.tmod (sumI (List.take i ws)) (16 : Int)) -
  List.getD ws (Int.toNat (i : Int) * 1 + 0 + 0) (0 : Int))))
  (64))),
  AV.int IntKind.i64 false (List.getD ws (Int.toNat (i : Int) * 1 + 0 + 0) (0 : Int)),
  AV.int IntKind.i64 false
  (IntKind.wrap IntKind.i64 ((1 : Int) * (2 : Int) ^ min (Int.toNat (List.getD ws (Int.toNat (i : Int) * 1 + 0 + 0) (0 : Int))) (64))),
  AV.int IntKind.i64 false
  (IntKind.wrap IntKind.i64
  (IntKind.wrap IntKind.i64 ((1 : Int) * (2 : Int) ^ min (Int.toNat (List.getD ws (Int.toNat (i : Int) * 1 + 0 + 0) (0 : Int))) (64)) - (1 : Int))),
  AV.int IntKind.i64 false
  (IntKind.wrap IntKind.i64
  ((BitVec.toNat
  (BitVec.ofInt (64)
  (Int.fdiv
  (IntKind.wrap IntKind.i64
  ((BitVec.toNat
  (BitVec.ofInt (64)
  (IntKind.wrap IntKind.i64
  (List.getD l (Int.toNat (IntKind.wrap IntKind.i64 (Int.tdiv (sumI (List.take i ws)) (16 : Int))) * 1 + 0 + 0) (0 : Int) *
  (65536 : Int))) |||
  BitVec.ofInt (64)
  (IntKind.wrap IntKind.i64
  ((BitVec.toNat
  (BitVec.ofInt (64)
  (List.getD l
  (Int.toNat (IntKind.wrap IntKind.i64 (IntKind.wrap IntKind.i64 (Int.tdiv (sumI (List.take i ws)) (16 : Int)) + (1 : Int))) * 1 +
  0 +
  0)
  (0 : Int)) &&&
  BitVec.ofInt (64) (65535 : Int))) : Int)))) : Int))
  ((2 : Int) ^
  min
  (Int.toNat
  (IntKind.wrap IntKind.i64
  (IntKind.wrap IntKind.i64 ((32 : Int) - Int.tmod (sumI (List.take i ws)) (16 : Int)) -
  List.getD ws (Int.toNat (i : Int) * 1 + 0 + 0) (0 : Int))))
  (64))) &&&
  BitVec.ofInt (64)
  (IntKind.wrap IntKind.i64
  (IntKind.wrap IntKind.i64 ((1 : Int) * (2 : Int) ^ min (Int.toNat (List.getD ws (Int.toNat (i : Int) * 1 + 0 + 0) (0 : Int))) (64)) -
  (1 : Int))))) : Int)),
  jk, jk, jk, jk, jk, jk, jk]
  (Operand.tmp 63)) ++
  List.drop (0 * 1 + 1) (zerosOf (List.map ofCell [Value.int IntKind.i64 (0 : Int)]) 1)))))) =
  1 * 1) &&
  decide (splitF l 0 (List.take i ws) = []) == decide ((splitF l 0 (List.take i ws)) = []))
  (Tree.ret
  (Ex.norm,
  St.mk
  [jk, AV.sl zl (Ref.mk (1) (0) (0) (0)) false (List.length l) Cap.any, jk, jk, jk, jk, jk, jk,
  AV.sl (decide (splitF l 0 (List.take i ws) = []) && decide (1 = 0)) (Ref.mk (2) (0) (0) (0)) false
  (List.length (splitF l 0 (List.take i ws)) + 1) Cap.own,
  AV.int IntKind.i64 false (IntKind.wrap IntKind.i64 (sumI (List.take i ws) + List.getD ws (Int.toNat (i : Int) * 1 + 0 + 0) (0 : Int))), jk, jk, jk, jk,
  jk, jk, jk, jk, jk, jk, jk, jk, jk, jk, jk,
  AV.sl zws (Ref.mk (0) (0) (0) (0)) false (List.length ws) Cap.any, AV.int IntKind.i64 false ((List.length ws) : Int),
  AV.int IntKind.i64 false (IntKind.wrap IntKind.i64 ((i : Int) + (1 : Int))), jk, jk, jk, jk, jk, jk, jk, jk, jk, jk, jk, jk, jk, jk,
  jk, jk, jk, jk, jk, jk, jk, jk, jk, jk, jk, jk, jk, jk, jk, jk, jk, jk, jk, jk, jk, jk,
  jk, jk, jk, jk, jk, jk, jk]
  [some (Blk.mk (3) false false true (Data.ints IntKind.i64 ws)), some (Blk.mk (3) false false true (Data.ints IntKind.i64 l)),
  some
  (Blk.mk (3) true (Bool.rec false (decide (1 = 0)) (decide ((splitF l 0 (List.take i ws)) = [])))
  true
  (Data.ints IntKind.i64
  (splitF l 0 (List.take i ws) ++
  [IntKind.wrap IntKind.i64
  ((BitVec.toNat
  (BitVec.ofInt (64)
  (Int.fdiv
  (IntKind.wrap IntKind.i64
  ((BitVec.toNat
  (BitVec.ofInt (64)
  (IntKind.wrap IntKind.i64
  (List.getD l (Int.toNat (IntKind.wrap IntKind.i64 (Int.tdiv (sumI (List.take i ws)) (16 : Int))) * 1 + 0 + 0) (0 : Int) *
  (65536 : Int))) |||
  BitVec.ofInt (64)
  (IntKind.wrap IntKind.i64
  ((BitVec.toNat
  (BitVec.ofInt (64)
  (List.getD l
  (Int.toNat (IntKind.wrap IntKind.i64 (IntKind.wrap IntKind.i64 (Int.tdiv (sumI (List.take i ws)) (16 : Int)) + (1 : Int))) * 1 + 0 +
  0)
  (0 : Int)) &&&
  BitVec.ofInt (64) (65535 : Int))) : Int)))) : Int))
  ((2 : Int) ^
  min
  (Int.toNat
  (IntKind.wrap IntKind.i64
  (IntKind.wrap IntKind.i64 ((32 : Int) - Int.tmod (sumI (List.take i ws)) (16 : Int)) -
  List.getD ws (Int.toNat (i : Int) * 1 + 0 + 0) (0 : Int))))
  (64))) &&&
  BitVec.ofInt (64)
  (IntKind.wrap IntKind.i64
  (IntKind.wrap IntKind.i64 ((1 : Int) * (2 : Int) ^ min (Int.toNat (List.getD ws (Int.toNat (i : Int) * 1 + 0 + 0) (0 : Int))) (64)) -
  (1 : Int))))) : Int)])))]))
  Tree.fail)
  Tree.fail)
  Tree.fail)
  Tree.fail)
  Tree.fail)
  Tree.fail)
  Tree.fail)
  Tree.fail)
  (Tree.br true
  (Tree.br
  (!decide
  (IntKind.wrap IntKind.i64 (IntKind.wrap IntKind.i64 ((32 : Int) - Int.tmod (sumI (List.take i ws)) (16 : Int)) - List.getD ws (Int.toNat (i : Int) * 1 + 0 + 0) (0 : Int)) < (0 : Int)))
  (Tree.br (!decide (List.getD ws (Int.toNat (i : Int) * 1 + 0 + 0) (0 : Int) < (0 : Int)))
  (Tree.br (decide (((List.length (splitF l 0 (List.take i ws)) + 1) : Int) ≤ most48 ∧ (((List.length (splitF l 0 (List.take i ws)) + 1) * 8) : Int) ≤ most48))
  (Tree.br
  (decide
  (List.length (splitF l 0 (List.take i ws)) * 1 = Data.size (Data.ints IntKind.i64 (splitF l 0 (List.take i ws))) ∧
  Data.size
  (Data.cells
  (List.take (1 * 1)
  (List.drop (0)
  (List.take (0 * 1) (zerosOf (List.map ofCell [Value.int IntKind.i64 (0 : Int)]) 1) ++
  (AV.parts
  (opnd (mkL Try.prog 0 (fun x => none) tab18 rowssplit)
  [jk, AV.sl zl (Ref.mk 1 0 0 0) false (List.length l) Cap.any, jk, jk, jk, jk, jk, jk,
  AV.sl (decide (splitF l 0 (List.take i ws) = [])) (Ref.mk 2 0 0 0) false (List.length (splitF l 0 (List.take i ws)))
  Cap.own,
  AV.int IntKind.i64 false (sumI (List.take i ws)), jk, AV.int IntKind.i64 false (List.getD ws (Int.toNat (i : Int) * 1 + 0 + 0) (0 : Int)),
  AV.int IntKind.i64 false
  (IntKind.wrap IntKind.i64
  (List.getD l (Int.toNat (IntKind.wrap IntKind.i64 (Int.tdiv (sumI (List.take i ws)) (16 : Int))) * 1 + 0 + 0) (0 : Int) * (65536 : Int))),
  jk, jk, jk, jk, jk, jk, jk, jk, jk, jk, jk, jk,
  AV.sl zws (Ref.mk 0 0 0 0) false (List.length ws) Cap.any, AV.int IntKind.i64 false ((List.length ws) : Int), AV.int IntKind.i64 false (i : Int),
  AV.bool true true, AV.ptr (Ref.mk (0) (Int.toNat (i : Int)) (1) (0)),
  AV.int IntKind.i64 false (List.getD ws (Int.toNat (i : Int) * 1 + 0 + 0) (0 : Int)),
  AV.sl zl (Ref.mk 1 0 0 0) false (List.length l) Cap.any, AV.int IntKind.i64 false (sumI (List.take i ws)),
  AV.int IntKind.i64 false (IntKind.wrap IntKind.i64 (Int.tdiv (sumI (List.take i ws)) (16 : Int))),
  AV.ptr (Ref.mk (1) (Int.toNat (IntKind.wrap IntKind.i64 (Int.tdiv (sumI (List.take i ws)) (16 : Int)))) (1) (0)),
  AV.int IntKind.i64 false (List.getD l (Int.toNat (IntKind.wrap IntKind.i64 (Int.tdiv (sumI (List.take i ws)) (16 : Int))) * 1 + 0 + 0) (0 : Int)),
  AV.int IntKind.i64 false
  (IntKind.wrap IntKind.i64
  (List.getD l (Int.toNat (IntKind.wrap IntKind.i64 (Int.tdiv (sumI (List.take i ws)) (16 : Int))) * 1 + 0 + 0) (0 : Int) * (65536 : Int))),
  AV.int IntKind.i64 false (sumI (List.take i ws)), AV.int IntKind.i64 false (IntKind.wrap IntKind.i64 (Int.tdiv (sumI (List.take i ws)) (16 : Int))),
  AV.int IntKind.i64 false (IntKind.wrap IntKind.i64 (IntKind.wrap IntKind.i64 (Int.tdiv (sumI (List.take i ws)) (16 : Int)) + (1 : Int))),
  AV.sl zl (Ref.mk 1 0 0 0) false (List.length l) Cap.any, AV.int IntKind.i64 false ((List.length l) : Int), AV.bool true false, jk, jk, jk,
  jk, jk, jk, jk, jk, jk,
  AV.sl (decide (splitF l 0 (List.take i ws) = [])) (Ref.mk 2 0 0 0) false (List.length (splitF l 0 (List.take i ws)))
  Cap.own,
  AV.int IntKind.i64 false
  (IntKind.wrap IntKind.i64
  (List.getD l (Int.toNat (IntKind.wrap IntKind.i64 (Int.tdiv (sumI (List.take i ws)) (16 : Int))) * 1 + 0 + 0) (0 : Int) * (65536 : Int))),
  AV.int IntKind.i64 false (sumI (List.take i ws)), AV.int IntKind.i64 false (Int.tmod (sumI (List.take i ws)) (16 : Int)),
  AV.int IntKind.i64 false (IntKind.wrap IntKind.i64 ((32 : Int) - Int.tmod (sumI (List.take i ws)) (16 : Int))),
  AV.int IntKind.i64 false (List.getD ws (Int.toNat (i : Int) * 1 + 0 + 0) (0 : Int)),
  AV.int IntKind.i64 false
  (IntKind.wrap IntKind.i64
  (IntKind.wrap IntKind.i64 ((32 : Int) - Int.tmod (sumI (List.take i ws)) (16 : Int)) - List.getD ws (Int.toNat (i : Int) * 1 + 0 + 0) (0 : Int))),
  AV.int IntKind.i64 false
  (Int.fdiv
  (IntKind.wrap IntKind.i64
  (List.getD l (Int.toNat (IntKind.wrap IntKind.i64 (Int.tdiv (sumI (List.take i ws)) (16 : Int))) * 1 + 0 + 0) (0 : Int) * (65536 : Int)))
  ((2 : Int) ^
  min
  (Int.toNat
  (IntKind.wrap IntKind.i64
  (IntKind.wrap IntKind.i64 ((32 : Int) - Int.tmod (sumI (List.take i ws)) (16 : Int)) - List.getD ws (Int.toNat (i : Int) * 1 + 0 + 0) (0 : Int))))
  (64))),
  AV.int IntKind.i64 false (List.getD ws (Int.toNat (i : Int) * 1 + 0 + 0) (0 : Int)),
  AV.int IntKind.i64 false
  (IntKind.wrap IntKind.i64 ((1 : Int) * (2 : Int) ^ min (Int.toNat (List.getD ws (Int.toNat (i : Int) * 1 + 0 + 0) (0 : Int))) (64))),
  AV.int IntKind.i64 false
  (IntKind.wrap IntKind.i64
  (IntKind.wrap IntKind.i64 ((1 : Int) * (2 : Int) ^ min (Int.toNat (List.getD ws (Int.toNat (i : Int) * 1 + 0 + 0) (0 : Int))) (64)) - (1 : Int))),
  AV.int IntKind.i64 false
  (IntKind.wrap IntKind.i64
  ((BitVec.toNat
  (BitVec.ofInt (64)
  (Int.fdiv
  (IntKind.wrap IntKind.i64
  (List.getD l (Int.toNat (IntKind.wrap IntKind.i64 (Int.tdiv (sumI (List.take i ws)) (16 : Int))) * 1 + 0 + 0) (0 : Int) * (65536 : Int)))
  ((2 : Int) ^
  min
  (Int.toNat
  (IntKind.wrap IntKind.i64
  (IntKind.wrap IntKind.i64 ((32 : Int) - Int.tmod (sumI (List.take i ws)) (16 : Int)) -
  List.getD ws (Int.toNat (i : Int) * 1 + 0 + 0) (0 : Int))))
  (64))) &&&
  BitVec.ofInt (64)
  (IntKind.wrap IntKind.i64
  (IntKind.wrap IntKind.i64 ((1 : Int) * (2 : Int) ^ min (Int.toNat (List.getD ws (Int.toNat (i : Int) * 1 + 0 + 0) (0 : Int))) (64)) -
  (1 : Int))))) : Int)),
  jk, jk, jk, jk, jk, jk, jk]
  (Operand.tmp 63)) ++
  List.drop (0 * 1 + 1) (zerosOf (List.map ofCell [Value.int IntKind.i64 (0 : Int)]) 1)))))) =
  1 * 1) &&
  decide (splitF l 0 (List.take i ws) = []) == decide ((splitF l 0 (List.take i ws)) = []))
  (Tree.ret
  (Ex.norm,
  St.mk
  [jk, AV.sl zl (Ref.mk (1) (0) (0) (0)) false (List.length l) Cap.any, jk, jk, jk, jk, jk, jk,
  AV.sl (decide (splitF l 0 (List.take i ws) = []) && decide (1 = 0)) (Ref.mk (2) (0) (0) (0)) false
  (List.length (splitF l 0 (List.take i ws)) + 1) Cap.own,
  AV.int IntKind.i64 false (IntKind.wrap IntKind.i64 (sumI (List.take i ws) + List.getD ws (Int.toNat (i : Int) * 1 + 0 + 0) (0 : Int))), jk, jk, jk, jk,
  jk, jk, jk, jk, jk, jk, jk, jk, jk, jk, jk, AV.sl zws (Ref.mk (0) (0) (0) (0)) false (List.length ws) Cap.any,
  AV.int IntKind.i64 false ((List.length ws) : Int), AV.int IntKind.i64 false (IntKind.wrap IntKind.i64 ((i : Int) + (1 : Int))), jk, jk, jk, jk, jk, jk, jk, jk, jk,
  jk, jk, jk, jk, jk, jk, jk, jk, jk, jk, jk, jk, jk, jk, jk, jk, jk, jk, jk, jk, jk, jk, jk,
  jk, jk, jk, jk, jk, jk, jk, jk, jk, jk, jk]
  [some (Blk.mk (3) false false true (Data.ints IntKind.i64 ws)), some (Blk.mk (3) false false true (Data.ints IntKind.i64 l)),
  some
  (Blk.mk (3) true (Bool.rec false (decide (1 = 0)) (decide ((splitF l 0 (List.take i ws)) = []))) true
  (Data.ints IntKind.i64
  (splitF l 0 (List.take i ws) ++
  [IntKind.wrap IntKind.i64
  ((BitVec.toNat
  (BitVec.ofInt (64)
  (Int.fdiv
  (IntKind.wrap IntKind.i64
  (List.getD l (Int.toNat (IntKind.wrap IntKind.i64 (Int.tdiv (sumI (List.take i ws)) (16 : Int))) * 1 + 0 + 0) (0 : Int) * (65536 : Int)))
  ((2 : Int) ^
  min
  (Int.toNat
  (IntKind.wrap IntKind.i64
  (IntKind.wrap IntKind.i64 ((32 : Int) - Int.tmod (sumI (List.take i ws)) (16 : Int)) - List.getD ws (Int.toNat (i : Int) * 1 + 0 + 0) (0 : Int))))
  (64))) &&&
  BitVec.ofInt (64)
  (IntKind.wrap IntKind.i64
  (IntKind.wrap IntKind.i64 ((1 : Int) * (2 : Int) ^ min (Int.toNat (List.getD ws (Int.toNat (i : Int) * 1 + 0 + 0) (0 : Int))) (64)) -
  (1 : Int))))) : Int)])))]))
  Tree.fail)
  Tree.fail)
  Tree.fail)
  Tree.fail)
  Tree.fail))
  Tree.fail)
  Tree.fail)
  Tree.fail)
  Tree.fail)
  Tree.fail)
  Tree.fail)
  (Tree.ret
  (Ex.exit (0),
  St.mk
  [jk, jk, jk, jk, jk, jk, jk, jk,
  AV.sl (decide (splitF l 0 (List.take i ws) = [])) (Ref.mk (2) (0) (0) (0)) false (List.length (splitF l 0 (List.take i ws))) Cap.own, jk, jk, jk,
  jk, jk, jk, jk, jk, jk, jk, jk, jk, jk, jk, jk, jk, jk, jk, jk, jk, jk, jk, jk, jk, jk, jk, jk, jk,
  jk, jk, jk, jk, jk, jk, jk, jk, jk, jk, jk, jk, jk, jk, jk, jk, jk, jk, jk, jk, jk, jk, jk, jk, jk,
  jk, jk, jk, jk, jk, jk, jk, jk, jk]
  [some (Blk.mk (3) false false true (Data.ints IntKind.i64 ws)), some (Blk.mk (3) false false true (Data.ints IntKind.i64 l)),
  some
  (Blk.mk (3) true (decide ((splitF l 0 (List.take i ws)) = [])) true (Data.ints IntKind.i64 (splitF l 0 (List.take i ws))))])) := by kernel_rfl
set_option maxRecDepth 100000 in
theorem stepsplit_0 (zws : Bool) (ws : List Int) (zl : Bool) (l : List Int) (i : Nat) (ex : Ex) (r : St) (hok : oksplit_0 ⟨zws, ws, zl, l, i⟩) (hr : (outsplit_0 ⟨zws, ws, zl, l, i⟩).runs (ex, r)) : (Tree.br (decide ((i : Int) < ((List.length ws) : Int)))
  (Tree.br (!zws && decide ((0 : Int) ≤ (i : Int) ∧ (i : Int) < ((List.length ws) : Int)))
  (Tree.br (decide (Int.toNat (i : Int) * 1 + 0 + 1 ≤ List.length ws))
  (Tree.br true
  (Tree.br (!zl && decide ((0 : Int) ≤ IntKind.wrap IntKind.i64 (Int.tdiv (sumI (List.take i ws)) (16 : Int)) ∧ IntKind.wrap IntKind.i64 (Int.tdiv (sumI (List.take i ws)) (16 : Int)) < ((List.length l) : Int)))
  (Tree.br (decide (Int.toNat (IntKind.wrap IntKind.i64 (Int.tdiv (sumI (List.take i ws)) (16 : Int))) * 1 + 0 + 1 ≤ List.length l))
  (Tree.br true
  (Tree.br (decide (IntKind.wrap IntKind.i64 (IntKind.wrap IntKind.i64 (Int.tdiv (sumI (List.take i ws)) (16 : Int)) + (1 : Int)) < ((List.length l) : Int)))
  (Tree.br true
  (Tree.br
  (!zl &&
  decide
  ((0 : Int) ≤ IntKind.wrap IntKind.i64 (IntKind.wrap IntKind.i64 (Int.tdiv (sumI (List.take i ws)) (16 : Int)) + (1 : Int)) ∧
  IntKind.wrap IntKind.i64 (IntKind.wrap IntKind.i64 (Int.tdiv (sumI (List.take i ws)) (16 : Int)) + (1 : Int)) < ((List.length l) : Int)))
  (Tree.br (decide (Int.toNat (IntKind.wrap IntKind.i64 (IntKind.wrap IntKind.i64 (Int.tdiv (sumI (List.take i ws)) (16 : Int)) + (1 : Int))) * 1 + 0 + 1 ≤ List.length l))
  (Tree.br true
  (Tree.br
  (!decide
  (IntKind.wrap IntKind.i64 (IntKind.wrap IntKind.i64 ((32 : Int) - Int.tmod (sumI (List.take i ws)) (16 : Int)) - List.getD ws (Int.toNat (i : Int) * 1 + 0 + 0) (0 : Int)) <
  (0 : Int)))
  (Tree.br (!decide (List.getD ws (Int.toNat (i : Int) * 1 + 0 + 0) (0 : Int) < (0 : Int)))
  (Tree.br (decide (((List.length (splitF l 0 (List.take i ws)) + 1) : Int) ≤ most48 ∧ (((List.length (splitF l 0 (List.take i ws)) + 1) * 8) : Int) ≤ most48))
  (Tree.br
  (decide
  (List.length (splitF l 0 (List.take i ws)) * 1 = Data.size (Data.ints IntKind.i64 (splitF l 0 (List.take i ws))) ∧
  Data.size
  (Data.cells
  (List.take (1 * 1)
  (List.drop (0)
  (List.take (0 * 1) (zerosOf (List.map ofCell [Value.int IntKind.i64 (0 : Int)]) 1) ++
  (AV.parts
  (opnd (mkL Try.prog 0 (fun x => none) tab18 rowssplit)
  [jk, AV.sl zl (Ref.mk 1 0 0 0) false (List.length l) Cap.any, jk, jk, jk, jk, jk, jk,
  AV.sl (decide (splitF l 0 (List.take i ws) = [])) (Ref.mk 2 0 0 0) false (List.length (splitF l 0 (List.take i ws)))
  Cap.own,
  AV.int IntKind.i64 false (sumI (List.take i ws)), jk, AV.int IntKind.i64 false (List.getD ws (Int.toNat (i : Int) * 1 + 0 + 0) (0 : Int)),
  AV.int IntKind.i64 false
  (IntKind.wrap IntKind.i64
  ((BitVec.toNat
  (BitVec.ofInt (64)
  (IntKind.wrap IntKind.i64
  (List.getD l (Int.toNat (IntKind.wrap IntKind.i64 (Int.tdiv (sumI (List.take i ws)) (16 : Int))) * 1 + 0 + 0) (0 : Int) *
  (65536 : Int))) |||
  BitVec.ofInt (64)
  (IntKind.wrap IntKind.i64
  ((BitVec.toNat
  (BitVec.ofInt (64)
  (List.getD l
  (Int.toNat (IntKind.wrap IntKind.i64 (IntKind.wrap IntKind.i64 (Int.tdiv (sumI (List.take i ws)) (16 : Int)) + (1 : Int))) * 1 + 0 +
  0)
  (0 : Int)) &&&
  BitVec.ofInt (64) (65535 : Int))) : Int)))) : Int)),
  jk, jk, jk, jk, jk, jk, jk, jk, jk, jk, jk, jk,
  AV.sl zws (Ref.mk 0 0 0 0) false (List.length ws) Cap.any, AV.int IntKind.i64 false ((List.length ws) : Int), AV.int IntKind.i64 false (i : Int),
  AV.bool true true, AV.ptr (Ref.mk (0) (Int.toNat (i : Int)) (1) (0)),
  AV.int IntKind.i64 false (List.getD ws (Int.toNat (i : Int) * 1 + 0 + 0) (0 : Int)),
  AV.sl zl (Ref.mk 1 0 0 0) false (List.length l) Cap.any, AV.int IntKind.i64 false (sumI (List.take i ws)),
  AV.int IntKind.i64 false (IntKind.wrap IntKind.i64 (Int.tdiv (sumI (List.take i ws)) (16 : Int))),
  AV.ptr (Ref.mk (1) (Int.toNat (IntKind.wrap IntKind.i64 (Int.tdiv (sumI (List.take i ws)) (16 : Int)))) (1) (0)),
  AV.int IntKind.i64 false (List.getD l (Int.toNat (IntKind.wrap IntKind.i64 (Int.tdiv (sumI (List.take i ws)) (16 : Int))) * 1 + 0 + 0) (0 : Int)),
  AV.int IntKind.i64 false
  (IntKind.wrap IntKind.i64
  (List.getD l (Int.toNat (IntKind.wrap IntKind.i64 (Int.tdiv (sumI (List.take i ws)) (16 : Int))) * 1 + 0 + 0) (0 : Int) * (65536 : Int))),
  AV.int IntKind.i64 false (sumI (List.take i ws)), AV.int IntKind.i64 false (IntKind.wrap IntKind.i64 (Int.tdiv (sumI (List.take i ws)) (16 : Int))),
  AV.int IntKind.i64 false (IntKind.wrap IntKind.i64 (IntKind.wrap IntKind.i64 (Int.tdiv (sumI (List.take i ws)) (16 : Int)) + (1 : Int))),
  AV.sl zl (Ref.mk 1 0 0 0) false (List.length l) Cap.any, AV.int IntKind.i64 false ((List.length l) : Int), AV.bool true true,
  AV.int IntKind.i64 false
  (IntKind.wrap IntKind.i64
  (List.getD l (Int.toNat (IntKind.wrap IntKind.i64 (Int.tdiv (sumI (List.take i ws)) (16 : Int))) * 1 + 0 + 0) (0 : Int) * (65536 : Int))),
  AV.sl zl (Ref.mk 1 0 0 0) false (List.length l) Cap.any, AV.int IntKind.i64 false (sumI (List.take i ws)),
  AV.int IntKind.i64 false (IntKind.wrap IntKind.i64 (Int.tdiv (sumI (List.take i ws)) (16 : Int))),
  AV.int IntKind.i64 false (IntKind.wrap IntKind.i64 (IntKind.wrap IntKind.i64 (Int.tdiv (sumI (List.take i ws)) (16 : Int)) + (1 : Int))),
  AV.ptr (Ref.mk (1) (Int.toNat (IntKind.wrap IntKind.i64 (IntKind.wrap IntKind.i64 (Int.tdiv (sumI (List.take i ws)) (16 : Int)) + (1 : Int)))) (1) (0)),
  AV.int IntKind.i64 false
  (List.getD l
  (Int.toNat (IntKind.wrap IntKind.i64 (IntKind.wrap IntKind.i64 (Int.tdiv (sumI (List.take i ws)) (16 : Int)) + (1 : Int))) * 1 + 0 + 0) (0 : Int)),
  AV.int IntKind.i64 false
  (IntKind.wrap IntKind.i64
  ((BitVec.toNat
  (BitVec.ofInt (64)
  (List.getD l
  (Int.toNat (IntKind.wrap IntKind.i64 (IntKind.wrap IntKind.i64 (Int.tdiv (sumI (List.take i ws)) (16 : Int)) + (1 : Int))) * 1 + 0 + 0)
  (0 : Int)) &&&
  BitVec.ofInt (64) (65535 : Int))) : Int)),
  AV.int IntKind.i64 false
  (IntKind.wrap IntKind.i64
  ((BitVec.toNat
  (BitVec.ofInt (64)
  (IntKind.wrap IntKind.i64
  (List.getD l (Int.toNat (IntKind.wrap IntKind.i64 (Int.tdiv (sumI (List.take i ws)) (16 : Int))) * 1 + 0 + 0) (0 : Int) *
  (65536 : Int))) |||
  BitVec.ofInt (64)
  (IntKind.wrap IntKind.i64
  ((BitVec.toNat
  (BitVec.ofInt (64)
  (List.getD l
  (Int.toNat (IntKind.wrap IntKind.i64 (IntKind.wrap IntKind.i64 (Int.tdiv (sumI (List.take i ws)) (16 : Int)) + (1 : Int))) * 1 + 0 +
  0)
  (0 : Int)) &&&
  BitVec.ofInt (64) (65535 : Int))) : Int)))) : Int)),
  AV.sl (decide (splitF l 0 (List.take i ws) = [])) (Ref.mk 2 0 0 0) false (List.length (splitF l 0 (List.take i ws)))
  Cap.own,
  AV.int IntKind.i64 false
  (IntKind.wrap IntKind.i64
  ((BitVec.toNat
  (BitVec.ofInt (64)
  (IntKind.wrap IntKind.i64
  (List.getD l (Int.toNat (IntKind.wrap IntKind.i64 (Int.tdiv (sumI (List.take i ws)) (16 : Int))) * 1 + 0 + 0) (0 : Int) *
  (65536 : Int))) |||
  BitVec.ofInt (64)
  (IntKind.wrap IntKind.i64
  ((BitVec.toNat
  (BitVec.ofInt (64)
  (List.getD l
  (Int.toNat (IntKind.wrap IntKind.i64 (IntKind.wrap IntKind.i64 (Int.tdiv (sumI (List.take i ws)) (16 : Int)) + (1 : Int))) * 1 + 0 +
  0)
  (0 : Int)) &&&
  BitVec.ofInt (64) (65535 : Int))) : Int)))) : Int)),
  AV.int IntKind.i64 false (sumI (List.take i ws)), AV.int IntKind.i64 false (Int.tmod (sumI (List.take i ws)) (16 : Int)),
  AV.int IntKind.i64 false (IntKind.wrap IntKind.i64 ((32 : Int) - Int.tmod (sumI (List.take i ws)) (16 : Int))),
  AV.int IntKind.i64 false (List.getD ws (Int.toNat (i : Int) * 1 + 0 + 0) (0 : Int)),
  AV.int IntKind.i64 false
  (IntKind.wrap IntKind.i64
  (IntKind.wrap IntKind.i64 ((32 : Int) - Int.tmod (sumI (List.take i ws)) (16 : Int)) - List.getD ws (Int.toNat (i : Int) * 1 + 0 + 0) (0 : Int))),
  AV.int IntKind.i64 false
  (Int.fdiv
  (IntKind.wrap IntKind.i64
  ((BitVec.toNat
  (BitVec.ofInt (64)
  (IntKind.wrap IntKind.i64
  (List.getD l (Int.toNat (IntKind.wrap IntKind.i64 (Int.tdiv (sumI (List.take i ws)) (16 : Int))) * 1 + 0 + 0) (0 : Int) *
  (65536 : Int))) |||
  BitVec.ofInt (64)
  (IntKind.wrap IntKind.i64
  ((BitVec.toNat
  (BitVec.ofInt (64)
  (List.getD l
  (Int.toNat (IntKind.wrap IntKind.i64 (IntKind.wrap IntKind.i64 (Int.tdiv (sumI (List.take i ws)) (16 : Int)) + (1 : Int))) * 1 + 0 +
  0)
  (0 : Int)) &&&
  BitVec.ofInt (64) (65535 : Int))) : Int)))) : Int))
  ((2 : Int) ^
  min
  (Int.toNat
  (IntKind.wrap IntKind.i64
  (IntKind.wrap IntKind.i64 ((32 : Int) - Int.tmod (sumI (List.take i ws)) (16 : Int)) -
  List.getD ws (Int.toNat (i : Int) * 1 + 0 + 0) (0 : Int))))
  (64))),
  AV.int IntKind.i64 false (List.getD ws (Int.toNat (i : Int) * 1 + 0 + 0) (0 : Int)),
  AV.int IntKind.i64 false
  (IntKind.wrap IntKind.i64 ((1 : Int) * (2 : Int) ^ min (Int.toNat (List.getD ws (Int.toNat (i : Int) * 1 + 0 + 0) (0 : Int))) (64))),
  AV.int IntKind.i64 false
  (IntKind.wrap IntKind.i64
  (IntKind.wrap IntKind.i64 ((1 : Int) * (2 : Int) ^ min (Int.toNat (List.getD ws (Int.toNat (i : Int) * 1 + 0 + 0) (0 : Int))) (64)) - (1 : Int))),
  AV.int IntKind.i64 false
  (IntKind.wrap IntKind.i64
  ((BitVec.toNat
  (BitVec.ofInt (64)
  (Int.fdiv
  (IntKind.wrap IntKind.i64
  ((BitVec.toNat
  (BitVec.ofInt (64)
  (IntKind.wrap IntKind.i64
  (List.getD l (Int.toNat (IntKind.wrap IntKind.i64 (Int.tdiv (sumI (List.take i ws)) (16 : Int))) * 1 + 0 + 0) (0 : Int) *
  (65536 : Int))) |||
  BitVec.ofInt (64)
  (IntKind.wrap IntKind.i64
  ((BitVec.toNat
  (BitVec.ofInt (64)
  (List.getD l
  (Int.toNat (IntKind.wrap IntKind.i64 (IntKind.wrap IntKind.i64 (Int.tdiv (sumI (List.take i ws)) (16 : Int)) + (1 : Int))) * 1 +
  0 +
  0)
  (0 : Int)) &&&
  BitVec.ofInt (64) (65535 : Int))) : Int)))) : Int))
  ((2 : Int) ^
  min
  (Int.toNat
  (IntKind.wrap IntKind.i64
  (IntKind.wrap IntKind.i64 ((32 : Int) - Int.tmod (sumI (List.take i ws)) (16 : Int)) -
  List.getD ws (Int.toNat (i : Int) * 1 + 0 + 0) (0 : Int))))
  (64))) &&&
  BitVec.ofInt (64)
  (IntKind.wrap IntKind.i64
  (IntKind.wrap IntKind.i64 ((1 : Int) * (2 : Int) ^ min (Int.toNat (List.getD ws (Int.toNat (i : Int) * 1 + 0 + 0) (0 : Int))) (64)) -
  (1 : Int))))) : Int)),
  jk, jk, jk, jk, jk, jk, jk]
  (Operand.tmp 63)) ++
  List.drop (0 * 1 + 1) (zerosOf (List.map ofCell [Value.int IntKind.i64 (0 : Int)]) 1)))))) =
  1 * 1) &&
  decide (splitF l 0 (List.take i ws) = []) == decide ((splitF l 0 (List.take i ws)) = []))
  (Tree.ret
  (Ex.norm,
  St.mk
  [jk, AV.sl zl (Ref.mk (1) (0) (0) (0)) false (List.length l) Cap.any, jk, jk, jk, jk, jk, jk,
  AV.sl (decide (splitF l 0 (List.take i ws) = []) && decide (1 = 0)) (Ref.mk (2) (0) (0) (0)) false
  (List.length (splitF l 0 (List.take i ws)) + 1) Cap.own,
  AV.int IntKind.i64 false (IntKind.wrap IntKind.i64 (sumI (List.take i ws) + List.getD ws (Int.toNat (i : Int) * 1 + 0 + 0) (0 : Int))), jk, jk, jk, jk,
  jk, jk, jk, jk, jk, jk, jk, jk, jk, jk, jk,
  AV.sl zws (Ref.mk (0) (0) (0) (0)) false (List.length ws) Cap.any, AV.int IntKind.i64 false ((List.length ws) : Int),
  AV.int IntKind.i64 false (IntKind.wrap IntKind.i64 ((i : Int) + (1 : Int))), jk, jk, jk, jk, jk, jk, jk, jk, jk, jk, jk, jk, jk, jk,
  jk, jk, jk, jk, jk, jk, jk, jk, jk, jk, jk, jk, jk, jk, jk, jk, jk, jk, jk, jk, jk, jk,
  jk, jk, jk, jk, jk, jk, jk]
  [some (Blk.mk (3) false false true (Data.ints IntKind.i64 ws)), some (Blk.mk (3) false false true (Data.ints IntKind.i64 l)),
  some
  (Blk.mk (3) true (Bool.rec false (decide (1 = 0)) (decide ((splitF l 0 (List.take i ws)) = [])))
  true
  (Data.ints IntKind.i64
  (splitF l 0 (List.take i ws) ++
  [IntKind.wrap IntKind.i64
  ((BitVec.toNat
  (BitVec.ofInt (64)
  (Int.fdiv
  (IntKind.wrap IntKind.i64
  ((BitVec.toNat
  (BitVec.ofInt (64)
  (IntKind.wrap IntKind.i64
  (List.getD l (Int.toNat (IntKind.wrap IntKind.i64 (Int.tdiv (sumI (List.take i ws)) (16 : Int))) * 1 + 0 + 0) (0 : Int) *
  (65536 : Int))) |||
  BitVec.ofInt (64)
  (IntKind.wrap IntKind.i64
  ((BitVec.toNat
  (BitVec.ofInt (64)
  (List.getD l
  (Int.toNat (IntKind.wrap IntKind.i64 (IntKind.wrap IntKind.i64 (Int.tdiv (sumI (List.take i ws)) (16 : Int)) + (1 : Int))) * 1 + 0 +
  0)
  (0 : Int)) &&&
  BitVec.ofInt (64) (65535 : Int))) : Int)))) : Int))
  ((2 : Int) ^
  min
  (Int.toNat
  (IntKind.wrap IntKind.i64
  (IntKind.wrap IntKind.i64 ((32 : Int) - Int.tmod (sumI (List.take i ws)) (16 : Int)) -
  List.getD ws (Int.toNat (i : Int) * 1 + 0 + 0) (0 : Int))))
  (64))) &&&
  BitVec.ofInt (64)
  (IntKind.wrap IntKind.i64
  (IntKind.wrap IntKind.i64 ((1 : Int) * (2 : Int) ^ min (Int.toNat (List.getD ws (Int.toNat (i : Int) * 1 + 0 + 0) (0 : Int))) (64)) -
  (1 : Int))))) : Int)])))]))
  Tree.fail)
  Tree.fail)
  Tree.fail)
  Tree.fail)
  Tree.fail)
  Tree.fail)
  Tree.fail)
  Tree.fail)
  (Tree.br true
  (Tree.br
  (!decide
  (IntKind.wrap IntKind.i64 (IntKind.wrap IntKind.i64 ((32 : Int) - Int.tmod (sumI (List.take i ws)) (16 : Int)) - List.getD ws (Int.toNat (i : Int) * 1 + 0 + 0) (0 : Int)) < (0 : Int)))
  (Tree.br (!decide (List.getD ws (Int.toNat (i : Int) * 1 + 0 + 0) (0 : Int) < (0 : Int)))
  (Tree.br (decide (((List.length (splitF l 0 (List.take i ws)) + 1) : Int) ≤ most48 ∧ (((List.length (splitF l 0 (List.take i ws)) + 1) * 8) : Int) ≤ most48))
  (Tree.br
  (decide
  (List.length (splitF l 0 (List.take i ws)) * 1 = Data.size (Data.ints IntKind.i64 (splitF l 0 (List.take i ws))) ∧
  Data.size
  (Data.cells
  (List.take (1 * 1)
  (List.drop (0)
  (List.take (0 * 1) (zerosOf (List.map ofCell [Value.int IntKind.i64 (0 : Int)]) 1) ++
  (AV.parts
  (opnd (mkL Try.prog 0 (fun x => none) tab18 rowssplit)
  [jk, AV.sl zl (Ref.mk 1 0 0 0) false (List.length l) Cap.any, jk, jk, jk, jk, jk, jk,
  AV.sl (decide (splitF l 0 (List.take i ws) = [])) (Ref.mk 2 0 0 0) false (List.length (splitF l 0 (List.take i ws)))
  Cap.own,
  AV.int IntKind.i64 false (sumI (List.take i ws)), jk, AV.int IntKind.i64 false (List.getD ws (Int.toNat (i : Int) * 1 + 0 + 0) (0 : Int)),
  AV.int IntKind.i64 false
  (IntKind.wrap IntKind.i64
  (List.getD l (Int.toNat (IntKind.wrap IntKind.i64 (Int.tdiv (sumI (List.take i ws)) (16 : Int))) * 1 + 0 + 0) (0 : Int) * (65536 : Int))),
  jk, jk, jk, jk, jk, jk, jk, jk, jk, jk, jk, jk,
  AV.sl zws (Ref.mk 0 0 0 0) false (List.length ws) Cap.any, AV.int IntKind.i64 false ((List.length ws) : Int), AV.int IntKind.i64 false (i : Int),
  AV.bool true true, AV.ptr (Ref.mk (0) (Int.toNat (i : Int)) (1) (0)),
  AV.int IntKind.i64 false (List.getD ws (Int.toNat (i : Int) * 1 + 0 + 0) (0 : Int)),
  AV.sl zl (Ref.mk 1 0 0 0) false (List.length l) Cap.any, AV.int IntKind.i64 false (sumI (List.take i ws)),
  AV.int IntKind.i64 false (IntKind.wrap IntKind.i64 (Int.tdiv (sumI (List.take i ws)) (16 : Int))),
  AV.ptr (Ref.mk (1) (Int.toNat (IntKind.wrap IntKind.i64 (Int.tdiv (sumI (List.take i ws)) (16 : Int)))) (1) (0)),
  AV.int IntKind.i64 false (List.getD l (Int.toNat (IntKind.wrap IntKind.i64 (Int.tdiv (sumI (List.take i ws)) (16 : Int))) * 1 + 0 + 0) (0 : Int)),
  AV.int IntKind.i64 false
  (IntKind.wrap IntKind.i64
  (List.getD l (Int.toNat (IntKind.wrap IntKind.i64 (Int.tdiv (sumI (List.take i ws)) (16 : Int))) * 1 + 0 + 0) (0 : Int) * (65536 : Int))),
  AV.int IntKind.i64 false (sumI (List.take i ws)), AV.int IntKind.i64 false (IntKind.wrap IntKind.i64 (Int.tdiv (sumI (List.take i ws)) (16 : Int))),
  AV.int IntKind.i64 false (IntKind.wrap IntKind.i64 (IntKind.wrap IntKind.i64 (Int.tdiv (sumI (List.take i ws)) (16 : Int)) + (1 : Int))),
  AV.sl zl (Ref.mk 1 0 0 0) false (List.length l) Cap.any, AV.int IntKind.i64 false ((List.length l) : Int), AV.bool true false, jk, jk, jk,
  jk, jk, jk, jk, jk, jk,
  AV.sl (decide (splitF l 0 (List.take i ws) = [])) (Ref.mk 2 0 0 0) false (List.length (splitF l 0 (List.take i ws)))
  Cap.own,
  AV.int IntKind.i64 false
  (IntKind.wrap IntKind.i64
  (List.getD l (Int.toNat (IntKind.wrap IntKind.i64 (Int.tdiv (sumI (List.take i ws)) (16 : Int))) * 1 + 0 + 0) (0 : Int) * (65536 : Int))),
  AV.int IntKind.i64 false (sumI (List.take i ws)), AV.int IntKind.i64 false (Int.tmod (sumI (List.take i ws)) (16 : Int)),
  AV.int IntKind.i64 false (IntKind.wrap IntKind.i64 ((32 : Int) - Int.tmod (sumI (List.take i ws)) (16 : Int))),
  AV.int IntKind.i64 false (List.getD ws (Int.toNat (i : Int) * 1 + 0 + 0) (0 : Int)),
  AV.int IntKind.i64 false
  (IntKind.wrap IntKind.i64
  (IntKind.wrap IntKind.i64 ((32 : Int) - Int.tmod (sumI (List.take i ws)) (16 : Int)) - List.getD ws (Int.toNat (i : Int) * 1 + 0 + 0) (0 : Int))),
  AV.int IntKind.i64 false
  (Int.fdiv
  (IntKind.wrap IntKind.i64
  (List.getD l (Int.toNat (IntKind.wrap IntKind.i64 (Int.tdiv (sumI (List.take i ws)) (16 : Int))) * 1 + 0 + 0) (0 : Int) * (65536 : Int)))
  ((2 : Int) ^
  min
  (Int.toNat
  (IntKind.wrap IntKind.i64
  (IntKind.wrap IntKind.i64 ((32 : Int) - Int.tmod (sumI (List.take i ws)) (16 : Int)) - List.getD ws (Int.toNat (i : Int) * 1 + 0 + 0) (0 : Int))))
  (64))),
  AV.int IntKind.i64 false (List.getD ws (Int.toNat (i : Int) * 1 + 0 + 0) (0 : Int)),
  AV.int IntKind.i64 false
  (IntKind.wrap IntKind.i64 ((1 : Int) * (2 : Int) ^ min (Int.toNat (List.getD ws (Int.toNat (i : Int) * 1 + 0 + 0) (0 : Int))) (64))),
  AV.int IntKind.i64 false
  (IntKind.wrap IntKind.i64
  (IntKind.wrap IntKind.i64 ((1 : Int) * (2 : Int) ^ min (Int.toNat (List.getD ws (Int.toNat (i : Int) * 1 + 0 + 0) (0 : Int))) (64)) - (1 : Int))),
  AV.int IntKind.i64 false
  (IntKind.wrap IntKind.i64
  ((BitVec.toNat
  (BitVec.ofInt (64)
  (Int.fdiv
  (IntKind.wrap IntKind.i64
  (List.getD l (Int.toNat (IntKind.wrap IntKind.i64 (Int.tdiv (sumI (List.take i ws)) (16 : Int))) * 1 + 0 + 0) (0 : Int) * (65536 : Int)))
  ((2 : Int) ^
  min
  (Int.toNat
  (IntKind.wrap IntKind.i64
  (IntKind.wrap IntKind.i64 ((32 : Int) - Int.tmod (sumI (List.take i ws)) (16 : Int)) -
  List.getD ws (Int.toNat (i : Int) * 1 + 0 + 0) (0 : Int))))
  (64))) &&&
  BitVec.ofInt (64)
  (IntKind.wrap IntKind.i64
  (IntKind.wrap IntKind.i64 ((1 : Int) * (2 : Int) ^ min (Int.toNat (List.getD ws (Int.toNat (i : Int) * 1 + 0 + 0) (0 : Int))) (64)) -
  (1 : Int))))) : Int)),
  jk, jk, jk, jk, jk, jk, jk]
  (Operand.tmp 63)) ++
  List.drop (0 * 1 + 1) (zerosOf (List.map ofCell [Value.int IntKind.i64 (0 : Int)]) 1)))))) =
  1 * 1) &&
  decide (splitF l 0 (List.take i ws) = []) == decide ((splitF l 0 (List.take i ws)) = []))
  (Tree.ret
  (Ex.norm,
  St.mk
  [jk, AV.sl zl (Ref.mk (1) (0) (0) (0)) false (List.length l) Cap.any, jk, jk, jk, jk, jk, jk,
  AV.sl (decide (splitF l 0 (List.take i ws) = []) && decide (1 = 0)) (Ref.mk (2) (0) (0) (0)) false
  (List.length (splitF l 0 (List.take i ws)) + 1) Cap.own,
  AV.int IntKind.i64 false (IntKind.wrap IntKind.i64 (sumI (List.take i ws) + List.getD ws (Int.toNat (i : Int) * 1 + 0 + 0) (0 : Int))), jk, jk, jk, jk,
  jk, jk, jk, jk, jk, jk, jk, jk, jk, jk, jk, AV.sl zws (Ref.mk (0) (0) (0) (0)) false (List.length ws) Cap.any,
  AV.int IntKind.i64 false ((List.length ws) : Int), AV.int IntKind.i64 false (IntKind.wrap IntKind.i64 ((i : Int) + (1 : Int))), jk, jk, jk, jk, jk, jk, jk, jk, jk,
  jk, jk, jk, jk, jk, jk, jk, jk, jk, jk, jk, jk, jk, jk, jk, jk, jk, jk, jk, jk, jk, jk, jk,
  jk, jk, jk, jk, jk, jk, jk, jk, jk, jk, jk]
  [some (Blk.mk (3) false false true (Data.ints IntKind.i64 ws)), some (Blk.mk (3) false false true (Data.ints IntKind.i64 l)),
  some
  (Blk.mk (3) true (Bool.rec false (decide (1 = 0)) (decide ((splitF l 0 (List.take i ws)) = []))) true
  (Data.ints IntKind.i64
  (splitF l 0 (List.take i ws) ++
  [IntKind.wrap IntKind.i64
  ((BitVec.toNat
  (BitVec.ofInt (64)
  (Int.fdiv
  (IntKind.wrap IntKind.i64
  (List.getD l (Int.toNat (IntKind.wrap IntKind.i64 (Int.tdiv (sumI (List.take i ws)) (16 : Int))) * 1 + 0 + 0) (0 : Int) * (65536 : Int)))
  ((2 : Int) ^
  min
  (Int.toNat
  (IntKind.wrap IntKind.i64
  (IntKind.wrap IntKind.i64 ((32 : Int) - Int.tmod (sumI (List.take i ws)) (16 : Int)) - List.getD ws (Int.toNat (i : Int) * 1 + 0 + 0) (0 : Int))))
  (64))) &&&
  BitVec.ofInt (64)
  (IntKind.wrap IntKind.i64
  (IntKind.wrap IntKind.i64 ((1 : Int) * (2 : Int) ^ min (Int.toNat (List.getD ws (Int.toNat (i : Int) * 1 + 0 + 0) (0 : Int))) (64)) -
  (1 : Int))))) : Int)])))]))
  Tree.fail)
  Tree.fail)
  Tree.fail)
  Tree.fail)
  Tree.fail))
  Tree.fail)
  Tree.fail)
  Tree.fail)
  Tree.fail)
  Tree.fail)
  Tree.fail)
  (Tree.ret
  (Ex.exit (0),
  St.mk
  [jk, jk, jk, jk, jk, jk, jk, jk,
  AV.sl (decide (splitF l 0 (List.take i ws) = [])) (Ref.mk (2) (0) (0) (0)) false (List.length (splitF l 0 (List.take i ws))) Cap.own, jk, jk, jk,
  jk, jk, jk, jk, jk, jk, jk, jk, jk, jk, jk, jk, jk, jk, jk, jk, jk, jk, jk, jk, jk, jk, jk, jk, jk,
  jk, jk, jk, jk, jk, jk, jk, jk, jk, jk, jk, jk, jk, jk, jk, jk, jk, jk, jk, jk, jk, jk, jk, jk, jk,
  jk, jk, jk, jk, jk, jk, jk, jk, jk]
  [some (Blk.mk (3) false false true (Data.ints IntKind.i64 ws)), some (Blk.mk (3) false false true (Data.ints IntKind.i64 l)),
  some
  (Blk.mk (3) true (decide ((splitF l 0 (List.take i ws)) = [])) true (Data.ints IntKind.i64 (splitF l 0 (List.take i ws))))])) : Tree (Ex × St)).Sat (Post hdsplit_0 ressplit_0 musplit_0 ⟨zws, ws, zl, l, i⟩ ex r) := by
  simp only [oksplit_0, outsplit_0, Tree.runs] at hok hr
  obtain ⟨hm, hs, hzw, hzl, hlk, hi⟩ := hok
  obtain ⟨h256, hbv⟩ := may_ok hm
  have hg := fun h => badV_get (i := i) hbv h
  obtain ⟨lk1, lk2⟩ := look_ok hlk
  have sq := sumN_eq (ws.take i) (any_take_no hbv i)
  have sl := fun h => sum_next (ws := ws) (i := i) hbv h
  have hsz : sizeZ ws = (sumI ws + 15) / 16 := by unfold sizeZ; rw [hbv, if_neg (by decide)]
  have hln := splitF_len l (ws.take i) 0
  rw [List.length_take] at sq hln
  obtain ⟨a, ha⟩ := Int.eq_ofNat_of_zero_le sq.2.1
  have e1 : IntKind.i64.wrap (Int.tdiv (sumI (ws.take i)) 16) = ((a / 16 : Nat) : Int) := by rw [ha, Int.tdiv_eq_ediv_of_nonneg (by omega), w64]; omega
  have e2 : IntKind.i64.wrap (((a / 16 : Nat) : Int) + 1) = ((a / 16 + 1 : Nat) : Int) := by rw [w64]; omega
  have e3 : IntKind.i64.wrap (32 - Int.tmod (sumI (ws.take i)) 16) = ((32 - a % 16 : Nat) : Int) := by rw [ha, Int.tmod_eq_emod_of_nonneg (by omega), w64]; omega
  have e4 : i < ws.length → IntKind.i64.wrap (((32 - a % 16 : Nat) : Int) - ws.getD i 0) = ((32 - a % 16 - (ws.getD i 0).toNat : Nat) : Int) := fun h => by have := hg h; rw [w64]; omega
  have hq : i < ws.length → a / 16 < l.length ∧ 0 ≤ l.getD (a / 16) 0 ∧ l.getD (a / 16) 0 ≤ 65535 := fun h => by
    have h1 := hg h
    have h2 := sl h
    exact ⟨by omega, look_get lk1 (by omega) (by omega)⟩
  simp only [e1, e2, e3, Int.toNat_natCast, Nat.mul_one, Nat.add_zero]
  refine Tree.Sat.br (fun h1 => ?_) (fun h1 => ?_)
  · (try simp only [decide_eq_true_eq, decide_eq_false_iff_not, Bool.not_eq_true', Bool.not_eq_false', beq_iff_eq, beq_eq_false_iff_ne, Int.not_lt, Int.not_le, ge_iff_le, gt_iff_lt, ne_eq, Bool.false_eq_true, Bool.true_eq_false, not_true_eq_false, not_false_eq_true, Bool.and_eq_true, Bool.not_eq_eq_eq_not, Bool.not_true, Bool.not_false, bne_iff_ne, bne_eq_false_iff_eq, Int.toNat_natCast, Nat.mul_one, Nat.add_zero, Nat.zero_add, List.take_length, List.drop_zero] at h1)
    all_goals
      refine Tree.Sat.br (fun h2 => ?_) (fun h2 => ?_)
      · (try simp only [decide_eq_true_eq, decide_eq_false_iff_not, Bool.not_eq_true', Bool.not_eq_false', beq_iff_eq, beq_eq_false_iff_ne, Int.not_lt, Int.not_le, ge_iff_le, gt_iff_lt, ne_eq, Bool.false_eq_true, Bool.true_eq_false, not_true_eq_false, not_false_eq_true, Bool.and_eq_true, Bool.not_eq_eq_eq_not, Bool.not_true, Bool.not_false, bne_iff_ne, bne_eq_false_iff_eq, Int.toNat_natCast, Nat.mul_one, Nat.add_zero, Nat.zero_add, List.take_length, List.drop_zero] at h2)
        all_goals
          refine Tree.Sat.br (fun h3 => ?_) (fun h3 => ?_)
          · (try simp only [decide_eq_true_eq, decide_eq_false_iff_not, Bool.not_eq_true', Bool.not_eq_false', beq_iff_eq, beq_eq_false_iff_ne, Int.not_lt, Int.not_le, ge_iff_le, gt_iff_lt, ne_eq, Bool.false_eq_true, Bool.true_eq_false, not_true_eq_false, not_false_eq_true, Bool.and_eq_true, Bool.not_eq_eq_eq_not, Bool.not_true, Bool.not_false, bne_iff_ne, bne_eq_false_iff_eq, Int.toNat_natCast, Nat.mul_one, Nat.add_zero, Nat.zero_add, List.take_length, List.drop_zero] at h3)
            all_goals
              refine Tree.Sat.br (fun h4 => ?_) (fun h4 => ?_)
              · (try simp only [decide_eq_true_eq, decide_eq_false_iff_not, Bool.not_eq_true', Bool.not_eq_false', beq_iff_eq, beq_eq_false_iff_ne, Int.not_lt, Int.not_le, ge_iff_le, gt_iff_lt, ne_eq, Bool.false_eq_true, Bool.true_eq_false, not_true_eq_false, not_false_eq_true, Bool.and_eq_true, Bool.not_eq_eq_eq_not, Bool.not_true, Bool.not_false, bne_iff_ne, bne_eq_false_iff_eq, Int.toNat_natCast, Nat.mul_one, Nat.add_zero, Nat.zero_add, List.take_length, List.drop_zero] at h4)
                all_goals
                  refine Tree.Sat.br (fun h5 => ?_) (fun h5 => ?_)
                  · (try simp only [decide_eq_true_eq, decide_eq_false_iff_not, Bool.not_eq_true', Bool.not_eq_false', beq_iff_eq, beq_eq_false_iff_ne, Int.not_lt, Int.not_le, ge_iff_le, gt_iff_lt, ne_eq, Bool.false_eq_true, Bool.true_eq_false, not_true_eq_false, not_false_eq_true, Bool.and_eq_true, Bool.not_eq_eq_eq_not, Bool.not_true, Bool.not_false, bne_iff_ne, bne_eq_false_iff_eq, Int.toNat_natCast, Nat.mul_one, Nat.add_zero, Nat.zero_add, List.take_length, List.drop_zero] at h5)
                    all_goals
                      refine Tree.Sat.br (fun h6 => ?_) (fun h6 => ?_)
                      · (try simp only [decide_eq_true_eq, decide_eq_false_iff_not, Bool.not_eq_true', Bool.not_eq_false', beq_iff_eq, beq_eq_false_iff_ne, Int.not_lt, Int.not_le, ge_iff_le, gt_iff_lt, ne_eq, Bool.false_eq_true, Bool.true_eq_false, not_true_eq_false, not_false_eq_true, Bool.and_eq_true, Bool.not_eq_eq_eq_not, Bool.not_true, Bool.not_false, bne_iff_ne, bne_eq_false_iff_eq, Int.toNat_natCast, Nat.mul_one, Nat.add_zero, Nat.zero_add, List.take_length, List.drop_zero] at h6)
                        all_goals
                          refine Tree.Sat.br (fun h7 => ?_) (fun h7 => ?_)
                          · (try simp only [decide_eq_true_eq, decide_eq_false_iff_not, Bool.not_eq_true', Bool.not_eq_false', beq_iff_eq, beq_eq_false_iff_ne, Int.not_lt, Int.not_le, ge_iff_le, gt_iff_lt, ne_eq, Bool.false_eq_true, Bool.true_eq_false, not_true_eq_false, not_false_eq_true, Bool.and_eq_true, Bool.not_eq_eq_eq_not, Bool.not_true, Bool.not_false, bne_iff_ne, bne_eq_false_iff_eq, Int.toNat_natCast, Nat.mul_one, Nat.add_zero, Nat.zero_add, List.take_length, List.drop_zero] at h7)
                            all_goals
                              refine Tree.Sat.br (fun h8 => ?_) (fun h8 => ?_)
                              · (try simp only [decide_eq_true_eq, decide_eq_false_iff_not, Bool.not_eq_true', Bool.not_eq_false', beq_iff_eq, beq_eq_false_iff_ne, Int.not_lt, Int.not_le, ge_iff_le, gt_iff_lt, ne_eq, Bool.false_eq_true, Bool.true_eq_false, not_true_eq_false, not_false_eq_true, Bool.and_eq_true, Bool.not_eq_eq_eq_not, Bool.not_true, Bool.not_false, bne_iff_ne, bne_eq_false_iff_eq, Int.toNat_natCast, Nat.mul_one, Nat.add_zero, Nat.zero_add, List.take_length, List.drop_zero] at h8)
                                all_goals
                                  refine Tree.Sat.br (fun h9 => ?_) (fun h9 => ?_)
                                  · (try simp only [decide_eq_true_eq, decide_eq_false_iff_not, Bool.not_eq_true', Bool.not_eq_false', beq_iff_eq, beq_eq_false_iff_ne, Int.not_lt, Int.not_le, ge_iff_le, gt_iff_lt, ne_eq, Bool.false_eq_true, Bool.true_eq_false, not_true_eq_false, not_false_eq_true, Bool.and_eq_true, Bool.not_eq_eq_eq_not, Bool.not_true, Bool.not_false, bne_iff_ne, bne_eq_false_iff_eq, Int.toNat_natCast, Nat.mul_one, Nat.add_zero, Nat.zero_add, List.take_length, List.drop_zero] at h9)
                                    all_goals
                                      refine Tree.Sat.br (fun h10 => ?_) (fun h10 => ?_)
                                      · (try simp only [decide_eq_true_eq, decide_eq_false_iff_not, Bool.not_eq_true', Bool.not_eq_false', beq_iff_eq, beq_eq_false_iff_ne, Int.not_lt, Int.not_le, ge_iff_le, gt_iff_lt, ne_eq, Bool.false_eq_true, Bool.true_eq_false, not_true_eq_false, not_false_eq_true, Bool.and_eq_true, Bool.not_eq_eq_eq_not, Bool.not_true, Bool.not_false, bne_iff_ne, bne_eq_false_iff_eq, Int.toNat_natCast, Nat.mul_one, Nat.add_zero, Nat.zero_add, List.take_length, List.drop_zero] at h10)
                                        all_goals
                                          refine Tree.Sat.br (fun h11 => ?_) (fun h11 => ?_)
                                          · (try simp only [decide_eq_true_eq, decide_eq_false_iff_not, Bool.not_eq_true', Bool.not_eq_false', beq_iff_eq, beq_eq_false_iff_ne, Int.not_lt, Int.not_le, ge_iff_le, gt_iff_lt, ne_eq, Bool.false_eq_true, Bool.true_eq_false, not_true_eq_false, not_false_eq_true, Bool.and_eq_true, Bool.not_eq_eq_eq_not, Bool.not_true, Bool.not_false, bne_iff_ne, bne_eq_false_iff_eq, Int.toNat_natCast, Nat.mul_one, Nat.add_zero, Nat.zero_add, List.take_length, List.drop_zero] at h11)
                                            all_goals
                                              refine Tree.Sat.br (fun h12 => ?_) (fun h12 => ?_)
                                              · (try simp only [decide_eq_true_eq, decide_eq_false_iff_not, Bool.not_eq_true', Bool.not_eq_false', beq_iff_eq, beq_eq_false_iff_ne, Int.not_lt, Int.not_le, ge_iff_le, gt_iff_lt, ne_eq, Bool.false_eq_true, Bool.true_eq_false, not_true_eq_false, not_false_eq_true, Bool.and_eq_true, Bool.not_eq_eq_eq_not, Bool.not_true, Bool.not_false, bne_iff_ne, bne_eq_false_iff_eq, Int.toNat_natCast, Nat.mul_one, Nat.add_zero, Nat.zero_add, List.take_length, List.drop_zero] at h12)
                                                all_goals
                                                  refine Tree.Sat.br (fun h13 => ?_) (fun h13 => ?_)
                                                  · (try simp only [decide_eq_true_eq, decide_eq_false_iff_not, Bool.not_eq_true', Bool.not_eq_false', beq_iff_eq, beq_eq_false_iff_ne, Int.not_lt, Int.not_le, ge_iff_le, gt_iff_lt, ne_eq, Bool.false_eq_true, Bool.true_eq_false, not_true_eq_false, not_false_eq_true, Bool.and_eq_true, Bool.not_eq_eq_eq_not, Bool.not_true, Bool.not_false, bne_iff_ne, bne_eq_false_iff_eq, Int.toNat_natCast, Nat.mul_one, Nat.add_zero, Nat.zero_add, List.take_length, List.drop_zero] at h13)
                                                    all_goals
                                                      refine Tree.Sat.br (fun h14 => ?_) (fun h14 => ?_)
                                                      · (try simp only [decide_eq_true_eq, decide_eq_false_iff_not, Bool.not_eq_true', Bool.not_eq_false', beq_iff_eq, beq_eq_false_iff_ne, Int.not_lt, Int.not_le, ge_iff_le, gt_iff_lt, ne_eq, Bool.false_eq_true, Bool.true_eq_false, not_true_eq_false, not_false_eq_true, Bool.and_eq_true, Bool.not_eq_eq_eq_not, Bool.not_true, Bool.not_false, bne_iff_ne, bne_eq_false_iff_eq, Int.toNat_natCast, Nat.mul_one, Nat.add_zero, Nat.zero_add, List.take_length, List.drop_zero] at h14)
                                                        all_goals
                                                          refine Tree.Sat.br (fun h15 => ?_) (fun h15 => ?_)
                                                          · (try simp only [decide_eq_true_eq, decide_eq_false_iff_not, Bool.not_eq_true', Bool.not_eq_false', beq_iff_eq, beq_eq_false_iff_ne, Int.not_lt, Int.not_le, ge_iff_le, gt_iff_lt, ne_eq, Bool.false_eq_true, Bool.true_eq_false, not_true_eq_false, not_false_eq_true, Bool.and_eq_true, Bool.not_eq_eq_eq_not, Bool.not_true, Bool.not_false, bne_iff_ne, bne_eq_false_iff_eq, Int.toNat_natCast, Nat.mul_one, Nat.add_zero, Nat.zero_add, List.take_length, List.drop_zero] at h15)
                                                            all_goals
                                                              refine Tree.Sat.br (fun h16 => ?_) (fun h16 => ?_)
                                                              · (try simp only [decide_eq_true_eq, decide_eq_false_iff_not, Bool.not_eq_true', Bool.not_eq_false', beq_iff_eq, beq_eq_false_iff_ne, Int.not_lt, Int.not_le, ge_iff_le, gt_iff_lt, ne_eq, Bool.false_eq_true, Bool.true_eq_false, not_true_eq_false, not_false_eq_true, Bool.and_eq_true, Bool.not_eq_eq_eq_not, Bool.not_true, Bool.not_false, bne_iff_ne, bne_eq_false_iff_eq, Int.toNat_natCast, Nat.mul_one, Nat.add_zero, Nat.zero_add, List.take_length, List.drop_zero] at h16)
                                                                all_goals
                                                                  refine Tree.Sat.ret ?_
                                                                  have g := hg (by omega)
                                                                  have hq2 := hq (by omega)
                                                                  have e5 := e4 (by omega)
                                                                  have hlt : i < ws.length := by omega
                                                                  have sl2 := sl hlt
                                                                  have e := splitF_next (l := l) hbv hlt ha
                                                                  have sv := split_val (B := l.getD (a / 16) 0 * 65536 + l.getD (a / 16 + 1) 0 % 65536) (s := 32 - a % 16 - (ws.getD i 0).toNat) (w := (ws.getD i 0).toNat) (by omega) (by omega)
                                                                  have bo := bothZ (n := l.getD (a / 16 + 1) 0) hq2.2.1 hq2.2.2
                                                                  refine .norm ⟨zws, ws, zl, l, i + 1⟩ ?_ ?_ ⟨?_, ?_⟩
                                                                  · constructor <;> simp only [hdsplit_0, AV.leL, AV.le, Mem.le, Mem.leP, Blk.le, Blk.pad, Data.le, Data.size, Cap.le, and_true, true_and, and_self, true_implies, implies_true, imp_self, List.length_nil] <;> (repeat' with_reducible refine And.intro ?_ ?_) <;> (try simp only [Int.toNat_natCast, Nat.mul_one, Nat.add_zero, Nat.zero_add]) <;> first | exact wadd1 (by omega) | exact sum_step hlt (by omega) (by omega) | (rw [e, List.length_append]; rfl) | (rw [e5, bo, Int.toNat_natCast, sv, e, field_eq hq2.2.1 (by omega)]) | (rw [e]; cases decide (splitF l 0 (List.take i ws) = []) <;> simp)
                                                                  · simp only [musplit_0]; omega
                                                                  · exact ⟨hm, hs, hzw, hzl, hlk, by omega⟩
                                                                  · exact hr
                                                              · (try simp only [decide_eq_true_eq, decide_eq_false_iff_not, Bool.not_eq_true', Bool.not_eq_false', beq_iff_eq, beq_eq_false_iff_ne, Int.not_lt, Int.not_le, ge_iff_le, gt_iff_lt, ne_eq, Bool.false_eq_true, Bool.true_eq_false, not_true_eq_false, not_false_eq_true, Bool.and_eq_true, Bool.not_eq_eq_eq_not, Bool.not_true, Bool.not_false, bne_iff_ne, bne_eq_false_iff_eq, Int.toNat_natCast, Nat.mul_one, Nat.add_zero, Nat.zero_add, List.take_length, List.drop_zero] at h16)
                                                                all_goals
                                                                  exfalso
                                                                  rw [Bool.and_eq_false_iff] at h16
                                                                  rcases h16 with h16 | h16
                                                                  · rw [decide_eq_false_iff_not] at h16
                                                                    exact h16 ⟨by first | rfl | (simp only [Data.size]; omega), by first | rfl | kernel_rfl⟩
                                                                  · exact absurd h16 (by simp)
                                                          · (try simp only [decide_eq_true_eq, decide_eq_false_iff_not, Bool.not_eq_true', Bool.not_eq_false', beq_iff_eq, beq_eq_false_iff_ne, Int.not_lt, Int.not_le, ge_iff_le, gt_iff_lt, ne_eq, Bool.false_eq_true, Bool.true_eq_false, not_true_eq_false, not_false_eq_true, Bool.and_eq_true, Bool.not_eq_eq_eq_not, Bool.not_true, Bool.not_false, bne_iff_ne, bne_eq_false_iff_eq, Int.toNat_natCast, Nat.mul_one, Nat.add_zero, Nat.zero_add, List.take_length, List.drop_zero] at h15)
                                                            all_goals
                                                              exfalso
                                                              simp [most48] at h15
                                                              omega
                                                      · (try simp only [decide_eq_true_eq, decide_eq_false_iff_not, Bool.not_eq_true', Bool.not_eq_false', beq_iff_eq, beq_eq_false_iff_ne, Int.not_lt, Int.not_le, ge_iff_le, gt_iff_lt, ne_eq, Bool.false_eq_true, Bool.true_eq_false, not_true_eq_false, not_false_eq_true, Bool.and_eq_true, Bool.not_eq_eq_eq_not, Bool.not_true, Bool.not_false, bne_iff_ne, bne_eq_false_iff_eq, Int.toNat_natCast, Nat.mul_one, Nat.add_zero, Nat.zero_add, List.take_length, List.drop_zero] at h14)
                                                        all_goals
                                                          exfalso
                                                          first | omega | (have g := hg (by omega); have q := hq (by omega); have e5 := e4 (by omega); omega) | (clear hr; have q := hq (by omega); cases zws <;> cases zl <;> simp_all; done) | (clear hr; have q := hq (by omega); cases zws <;> cases zl <;> simp_all <;> omega)
                                                  · (try simp only [decide_eq_true_eq, decide_eq_false_iff_not, Bool.not_eq_true', Bool.not_eq_false', beq_iff_eq, beq_eq_false_iff_ne, Int.not_lt, Int.not_le, ge_iff_le, gt_iff_lt, ne_eq, Bool.false_eq_true, Bool.true_eq_false, not_true_eq_false, not_false_eq_true, Bool.and_eq_true, Bool.not_eq_eq_eq_not, Bool.not_true, Bool.not_false, bne_iff_ne, bne_eq_false_iff_eq, Int.toNat_natCast, Nat.mul_one, Nat.add_zero, Nat.zero_add, List.take_length, List.drop_zero] at h13)
                                                    all_goals
                                                      exfalso
                                                      first | omega | (have g := hg (by omega); have q := hq (by omega); have e5 := e4 (by omega); omega) | (clear hr; have q := hq (by omega); cases zws <;> cases zl <;> simp_all; done) | (clear hr; have q := hq (by omega); cases zws <;> cases zl <;> simp_all <;> omega)
                                              · (try simp only [decide_eq_true_eq, decide_eq_false_iff_not, Bool.not_eq_true', Bool.not_eq_false', beq_iff_eq, beq_eq_false_iff_ne, Int.not_lt, Int.not_le, ge_iff_le, gt_iff_lt, ne_eq, Bool.false_eq_true, Bool.true_eq_false, not_true_eq_false, not_false_eq_true, Bool.and_eq_true, Bool.not_eq_eq_eq_not, Bool.not_true, Bool.not_false, bne_iff_ne, bne_eq_false_iff_eq, Int.toNat_natCast, Nat.mul_one, Nat.add_zero, Nat.zero_add, List.take_length, List.drop_zero] at h12)
                                                all_goals
                                                  exfalso
                                                  first | omega | (have g := hg (by omega); have q := hq (by omega); have e5 := e4 (by omega); omega) | (clear hr; have q := hq (by omega); cases zws <;> cases zl <;> simp_all; done) | (clear hr; have q := hq (by omega); cases zws <;> cases zl <;> simp_all <;> omega)
                                          · (try simp only [decide_eq_true_eq, decide_eq_false_iff_not, Bool.not_eq_true', Bool.not_eq_false', beq_iff_eq, beq_eq_false_iff_ne, Int.not_lt, Int.not_le, ge_iff_le, gt_iff_lt, ne_eq, Bool.false_eq_true, Bool.true_eq_false, not_true_eq_false, not_false_eq_true, Bool.and_eq_true, Bool.not_eq_eq_eq_not, Bool.not_true, Bool.not_false, bne_iff_ne, bne_eq_false_iff_eq, Int.toNat_natCast, Nat.mul_one, Nat.add_zero, Nat.zero_add, List.take_length, List.drop_zero] at h11)
                                            all_goals
                                              exfalso
                                              first | omega | (have g := hg (by omega); have q := hq (by omega); have e5 := e4 (by omega); omega) | (clear hr; have q := hq (by omega); cases zws <;> cases zl <;> simp_all; done) | (clear hr; have q := hq (by omega); cases zws <;> cases zl <;> simp_all <;> omega)
                                      · (try simp only [decide_eq_true_eq, decide_eq_false_iff_not, Bool.not_eq_true', Bool.not_eq_false', beq_iff_eq, beq_eq_false_iff_ne, Int.not_lt, Int.not_le, ge_iff_le, gt_iff_lt, ne_eq, Bool.false_eq_true, Bool.true_eq_false, not_true_eq_false, not_false_eq_true, Bool.and_eq_true, Bool.not_eq_eq_eq_not, Bool.not_true, Bool.not_false, bne_iff_ne, bne_eq_false_iff_eq, Int.toNat_natCast, Nat.mul_one, Nat.add_zero, Nat.zero_add, List.take_length, List.drop_zero] at h10)
                                        all_goals
                                          exfalso
                                          first | omega | (have g := hg (by omega); have q := hq (by omega); have e5 := e4 (by omega); omega) | (clear hr; have q := hq (by omega); cases zws <;> cases zl <;> simp_all; done) | (clear hr; have q := hq (by omega); cases zws <;> cases zl <;> simp_all <;> omega)
                                  · (try simp only [decide_eq_true_eq, decide_eq_false_iff_not, Bool.not_eq_true', Bool.not_eq_false', beq_iff_eq, beq_eq_false_iff_ne, Int.not_lt, Int.not_le, ge_iff_le, gt_iff_lt, ne_eq, Bool.false_eq_true, Bool.true_eq_false, not_true_eq_false, not_false_eq_true, Bool.and_eq_true, Bool.not_eq_eq_eq_not, Bool.not_true, Bool.not_false, bne_iff_ne, bne_eq_false_iff_eq, Int.toNat_natCast, Nat.mul_one, Nat.add_zero, Nat.zero_add, List.take_length, List.drop_zero] at h9)
                                    all_goals
                                      exfalso
                                      first | omega | (have g := hg (by omega); have q := hq (by omega); have e5 := e4 (by omega); omega) | (clear hr; have q := hq (by omega); cases zws <;> cases zl <;> simp_all; done) | (clear hr; have q := hq (by omega); cases zws <;> cases zl <;> simp_all <;> omega)
                              · (try simp only [decide_eq_true_eq, decide_eq_false_iff_not, Bool.not_eq_true', Bool.not_eq_false', beq_iff_eq, beq_eq_false_iff_ne, Int.not_lt, Int.not_le, ge_iff_le, gt_iff_lt, ne_eq, Bool.false_eq_true, Bool.true_eq_false, not_true_eq_false, not_false_eq_true, Bool.and_eq_true, Bool.not_eq_eq_eq_not, Bool.not_true, Bool.not_false, bne_iff_ne, bne_eq_false_iff_eq, Int.toNat_natCast, Nat.mul_one, Nat.add_zero, Nat.zero_add, List.take_length, List.drop_zero] at h8)
                                all_goals
                                  refine Tree.Sat.br (fun h9 => ?_) (fun h9 => ?_)
                                  · (try simp only [decide_eq_true_eq, decide_eq_false_iff_not, Bool.not_eq_true', Bool.not_eq_false', beq_iff_eq, beq_eq_false_iff_ne, Int.not_lt, Int.not_le, ge_iff_le, gt_iff_lt, ne_eq, Bool.false_eq_true, Bool.true_eq_false, not_true_eq_false, not_false_eq_true, Bool.and_eq_true, Bool.not_eq_eq_eq_not, Bool.not_true, Bool.not_false, bne_iff_ne, bne_eq_false_iff_eq, Int.toNat_natCast, Nat.mul_one, Nat.add_zero, Nat.zero_add, List.take_length, List.drop_zero] at h9)
                                    all_goals
                                      refine Tree.Sat.br (fun h10 => ?_) (fun h10 => ?_)
                                      · (try simp only [decide_eq_true_eq, decide_eq_false_iff_not, Bool.not_eq_true', Bool.not_eq_false', beq_iff_eq, beq_eq_false_iff_ne, Int.not_lt, Int.not_le, ge_iff_le, gt_iff_lt, ne_eq, Bool.false_eq_true, Bool.true_eq_false, not_true_eq_false, not_false_eq_true, Bool.and_eq_true, Bool.not_eq_eq_eq_not, Bool.not_true, Bool.not_false, bne_iff_ne, bne_eq_false_iff_eq, Int.toNat_natCast, Nat.mul_one, Nat.add_zero, Nat.zero_add, List.take_length, List.drop_zero] at h10)
                                        all_goals
                                          refine Tree.Sat.br (fun h11 => ?_) (fun h11 => ?_)
                                          · (try simp only [decide_eq_true_eq, decide_eq_false_iff_not, Bool.not_eq_true', Bool.not_eq_false', beq_iff_eq, beq_eq_false_iff_ne, Int.not_lt, Int.not_le, ge_iff_le, gt_iff_lt, ne_eq, Bool.false_eq_true, Bool.true_eq_false, not_true_eq_false, not_false_eq_true, Bool.and_eq_true, Bool.not_eq_eq_eq_not, Bool.not_true, Bool.not_false, bne_iff_ne, bne_eq_false_iff_eq, Int.toNat_natCast, Nat.mul_one, Nat.add_zero, Nat.zero_add, List.take_length, List.drop_zero] at h11)
                                            all_goals
                                              refine Tree.Sat.br (fun h12 => ?_) (fun h12 => ?_)
                                              · (try simp only [decide_eq_true_eq, decide_eq_false_iff_not, Bool.not_eq_true', Bool.not_eq_false', beq_iff_eq, beq_eq_false_iff_ne, Int.not_lt, Int.not_le, ge_iff_le, gt_iff_lt, ne_eq, Bool.false_eq_true, Bool.true_eq_false, not_true_eq_false, not_false_eq_true, Bool.and_eq_true, Bool.not_eq_eq_eq_not, Bool.not_true, Bool.not_false, bne_iff_ne, bne_eq_false_iff_eq, Int.toNat_natCast, Nat.mul_one, Nat.add_zero, Nat.zero_add, List.take_length, List.drop_zero] at h12)
                                                all_goals
                                                  refine Tree.Sat.br (fun h13 => ?_) (fun h13 => ?_)
                                                  · (try simp only [decide_eq_true_eq, decide_eq_false_iff_not, Bool.not_eq_true', Bool.not_eq_false', beq_iff_eq, beq_eq_false_iff_ne, Int.not_lt, Int.not_le, ge_iff_le, gt_iff_lt, ne_eq, Bool.false_eq_true, Bool.true_eq_false, not_true_eq_false, not_false_eq_true, Bool.and_eq_true, Bool.not_eq_eq_eq_not, Bool.not_true, Bool.not_false, bne_iff_ne, bne_eq_false_iff_eq, Int.toNat_natCast, Nat.mul_one, Nat.add_zero, Nat.zero_add, List.take_length, List.drop_zero] at h13)
                                                    all_goals
                                                      refine Tree.Sat.ret ?_
                                                      have g := hg (by omega)
                                                      have hq2 := hq (by omega)
                                                      have e5 := e4 (by omega)
                                                      have hlt : i < ws.length := by omega
                                                      have sl2 := sl hlt
                                                      have e := splitF_next (l := l) hbv hlt ha
                                                      have sv := split_val (B := l.getD (a / 16) 0 * 65536 + l.getD (a / 16 + 1) 0 % 65536) (s := 32 - a % 16 - (ws.getD i 0).toNat) (w := (ws.getD i 0).toNat) (by omega) (by omega)
                                                      have bo : IntKind.i64.wrap (l.getD (a / 16) 0 * 65536) = l.getD (a / 16) 0 * 65536 + l.getD (a / 16 + 1) 0 % 65536 := by rw [getD_out (j := a / 16 + 1) (by omega), w64]; omega
                                                      refine .norm ⟨zws, ws, zl, l, i + 1⟩ ?_ ?_ ⟨?_, ?_⟩
                                                      · constructor <;> simp only [hdsplit_0, AV.leL, AV.le, Mem.le, Mem.leP, Blk.le, Blk.pad, Data.le, Data.size, Cap.le, and_true, true_and, and_self, true_implies, implies_true, imp_self, List.length_nil] <;> (repeat' with_reducible refine And.intro ?_ ?_) <;> (try simp only [Int.toNat_natCast, Nat.mul_one, Nat.add_zero, Nat.zero_add]) <;> first | exact wadd1 (by omega) | exact sum_step hlt (by omega) (by omega) | (rw [e, List.length_append]; rfl) | (rw [e5, bo, Int.toNat_natCast, sv, e, field_eq hq2.2.1 (by omega)]) | (rw [e]; cases decide (splitF l 0 (List.take i ws) = []) <;> simp)
                                                      · simp only [musplit_0]; omega
                                                      · exact ⟨hm, hs, hzw, hzl, hlk, by omega⟩
                                                      · exact hr
                                                  · (try simp only [decide_eq_true_eq, decide_eq_false_iff_not, Bool.not_eq_true', Bool.not_eq_false', beq_iff_eq, beq_eq_false_iff_ne, Int.not_lt, Int.not_le, ge_iff_le, gt_iff_lt, ne_eq, Bool.false_eq_true, Bool.true_eq_false, not_true_eq_false, not_false_eq_true, Bool.and_eq_true, Bool.not_eq_eq_eq_not, Bool.not_true, Bool.not_false, bne_iff_ne, bne_eq_false_iff_eq, Int.toNat_natCast, Nat.mul_one, Nat.add_zero, Nat.zero_add, List.take_length, List.drop_zero] at h13)
                                                    all_goals
                                                      exfalso
                                                      rw [Bool.and_eq_false_iff] at h13
                                                      rcases h13 with h13 | h13
                                                      · rw [decide_eq_false_iff_not] at h13
                                                        exact h13 ⟨by first | rfl | (simp only [Data.size]; omega), by first | rfl | kernel_rfl⟩
                                                      · exact absurd h13 (by simp)
                                              · (try simp only [decide_eq_true_eq, decide_eq_false_iff_not, Bool.not_eq_true', Bool.not_eq_false', beq_iff_eq, beq_eq_false_iff_ne, Int.not_lt, Int.not_le, ge_iff_le, gt_iff_lt, ne_eq, Bool.false_eq_true, Bool.true_eq_false, not_true_eq_false, not_false_eq_true, Bool.and_eq_true, Bool.not_eq_eq_eq_not, Bool.not_true, Bool.not_false, bne_iff_ne, bne_eq_false_iff_eq, Int.toNat_natCast, Nat.mul_one, Nat.add_zero, Nat.zero_add, List.take_length, List.drop_zero] at h12)
                                                all_goals
                                                  exfalso
                                                  simp [most48] at h12
                                                  omega
                                          · (try simp only [decide_eq_true_eq, decide_eq_false_iff_not, Bool.not_eq_true', Bool.not_eq_false', beq_iff_eq, beq_eq_false_iff_ne, Int.not_lt, Int.not_le, ge_iff_le, gt_iff_lt, ne_eq, Bool.false_eq_true, Bool.true_eq_false, not_true_eq_false, not_false_eq_true, Bool.and_eq_true, Bool.not_eq_eq_eq_not, Bool.not_true, Bool.not_false, bne_iff_ne, bne_eq_false_iff_eq, Int.toNat_natCast, Nat.mul_one, Nat.add_zero, Nat.zero_add, List.take_length, List.drop_zero] at h11)
                                            all_goals
                                              exfalso
                                              first | omega | (have g := hg (by omega); have q := hq (by omega); have e5 := e4 (by omega); omega) | (clear hr; have q := hq (by omega); cases zws <;> cases zl <;> simp_all; done) | (clear hr; have q := hq (by omega); cases zws <;> cases zl <;> simp_all <;> omega)
                                      · (try simp only [decide_eq_true_eq, decide_eq_false_iff_not, Bool.not_eq_true', Bool.not_eq_false', beq_iff_eq, beq_eq_false_iff_ne, Int.not_lt, Int.not_le, ge_iff_le, gt_iff_lt, ne_eq, Bool.false_eq_true, Bool.true_eq_false, not_true_eq_false, not_false_eq_true, Bool.and_eq_true, Bool.not_eq_eq_eq_not, Bool.not_true, Bool.not_false, bne_iff_ne, bne_eq_false_iff_eq, Int.toNat_natCast, Nat.mul_one, Nat.add_zero, Nat.zero_add, List.take_length, List.drop_zero] at h10)
                                        all_goals
                                          exfalso
                                          first | omega | (have g := hg (by omega); have q := hq (by omega); have e5 := e4 (by omega); omega) | (clear hr; have q := hq (by omega); cases zws <;> cases zl <;> simp_all; done) | (clear hr; have q := hq (by omega); cases zws <;> cases zl <;> simp_all <;> omega)
                                  · (try simp only [decide_eq_true_eq, decide_eq_false_iff_not, Bool.not_eq_true', Bool.not_eq_false', beq_iff_eq, beq_eq_false_iff_ne, Int.not_lt, Int.not_le, ge_iff_le, gt_iff_lt, ne_eq, Bool.false_eq_true, Bool.true_eq_false, not_true_eq_false, not_false_eq_true, Bool.and_eq_true, Bool.not_eq_eq_eq_not, Bool.not_true, Bool.not_false, bne_iff_ne, bne_eq_false_iff_eq, Int.toNat_natCast, Nat.mul_one, Nat.add_zero, Nat.zero_add, List.take_length, List.drop_zero] at h9)
                                    all_goals
                                      exfalso
                                      first | omega | (have g := hg (by omega); have q := hq (by omega); have e5 := e4 (by omega); omega) | (clear hr; have q := hq (by omega); cases zws <;> cases zl <;> simp_all; done) | (clear hr; have q := hq (by omega); cases zws <;> cases zl <;> simp_all <;> omega)
                          · (try simp only [decide_eq_true_eq, decide_eq_false_iff_not, Bool.not_eq_true', Bool.not_eq_false', beq_iff_eq, beq_eq_false_iff_ne, Int.not_lt, Int.not_le, ge_iff_le, gt_iff_lt, ne_eq, Bool.false_eq_true, Bool.true_eq_false, not_true_eq_false, not_false_eq_true, Bool.and_eq_true, Bool.not_eq_eq_eq_not, Bool.not_true, Bool.not_false, bne_iff_ne, bne_eq_false_iff_eq, Int.toNat_natCast, Nat.mul_one, Nat.add_zero, Nat.zero_add, List.take_length, List.drop_zero] at h7)
                            all_goals
                              exfalso
                              first | omega | (have g := hg (by omega); have q := hq (by omega); have e5 := e4 (by omega); omega) | (clear hr; have q := hq (by omega); cases zws <;> cases zl <;> simp_all; done) | (clear hr; have q := hq (by omega); cases zws <;> cases zl <;> simp_all <;> omega)
                      · (try simp only [decide_eq_true_eq, decide_eq_false_iff_not, Bool.not_eq_true', Bool.not_eq_false', beq_iff_eq, beq_eq_false_iff_ne, Int.not_lt, Int.not_le, ge_iff_le, gt_iff_lt, ne_eq, Bool.false_eq_true, Bool.true_eq_false, not_true_eq_false, not_false_eq_true, Bool.and_eq_true, Bool.not_eq_eq_eq_not, Bool.not_true, Bool.not_false, bne_iff_ne, bne_eq_false_iff_eq, Int.toNat_natCast, Nat.mul_one, Nat.add_zero, Nat.zero_add, List.take_length, List.drop_zero] at h6)
                        all_goals
                          exfalso
                          first | omega | (have g := hg (by omega); have q := hq (by omega); have e5 := e4 (by omega); omega) | (clear hr; have q := hq (by omega); cases zws <;> cases zl <;> simp_all; done) | (clear hr; have q := hq (by omega); cases zws <;> cases zl <;> simp_all <;> omega)
                  · (try simp only [decide_eq_true_eq, decide_eq_false_iff_not, Bool.not_eq_true', Bool.not_eq_false', beq_iff_eq, beq_eq_false_iff_ne, Int.not_lt, Int.not_le, ge_iff_le, gt_iff_lt, ne_eq, Bool.false_eq_true, Bool.true_eq_false, not_true_eq_false, not_false_eq_true, Bool.and_eq_true, Bool.not_eq_eq_eq_not, Bool.not_true, Bool.not_false, bne_iff_ne, bne_eq_false_iff_eq, Int.toNat_natCast, Nat.mul_one, Nat.add_zero, Nat.zero_add, List.take_length, List.drop_zero] at h5)
                    all_goals
                      exfalso
                      first | omega | (have g := hg (by omega); have q := hq (by omega); have e5 := e4 (by omega); omega) | (clear hr; have q := hq (by omega); cases zws <;> cases zl <;> simp_all; done) | (clear hr; have q := hq (by omega); cases zws <;> cases zl <;> simp_all <;> omega)
              · (try simp only [decide_eq_true_eq, decide_eq_false_iff_not, Bool.not_eq_true', Bool.not_eq_false', beq_iff_eq, beq_eq_false_iff_ne, Int.not_lt, Int.not_le, ge_iff_le, gt_iff_lt, ne_eq, Bool.false_eq_true, Bool.true_eq_false, not_true_eq_false, not_false_eq_true, Bool.and_eq_true, Bool.not_eq_eq_eq_not, Bool.not_true, Bool.not_false, bne_iff_ne, bne_eq_false_iff_eq, Int.toNat_natCast, Nat.mul_one, Nat.add_zero, Nat.zero_add, List.take_length, List.drop_zero] at h4)
                all_goals
                  exfalso
                  first | omega | (have g := hg (by omega); have q := hq (by omega); have e5 := e4 (by omega); omega) | (clear hr; have q := hq (by omega); cases zws <;> cases zl <;> simp_all; done) | (clear hr; have q := hq (by omega); cases zws <;> cases zl <;> simp_all <;> omega)
          · (try simp only [decide_eq_true_eq, decide_eq_false_iff_not, Bool.not_eq_true', Bool.not_eq_false', beq_iff_eq, beq_eq_false_iff_ne, Int.not_lt, Int.not_le, ge_iff_le, gt_iff_lt, ne_eq, Bool.false_eq_true, Bool.true_eq_false, not_true_eq_false, not_false_eq_true, Bool.and_eq_true, Bool.not_eq_eq_eq_not, Bool.not_true, Bool.not_false, bne_iff_ne, bne_eq_false_iff_eq, Int.toNat_natCast, Nat.mul_one, Nat.add_zero, Nat.zero_add, List.take_length, List.drop_zero] at h3)
            all_goals
              exfalso
              first | omega | (have g := hg (by omega); have q := hq (by omega); have e5 := e4 (by omega); omega) | (clear hr; have q := hq (by omega); cases zws <;> cases zl <;> simp_all; done) | (clear hr; have q := hq (by omega); cases zws <;> cases zl <;> simp_all <;> omega)
      · (try simp only [decide_eq_true_eq, decide_eq_false_iff_not, Bool.not_eq_true', Bool.not_eq_false', beq_iff_eq, beq_eq_false_iff_ne, Int.not_lt, Int.not_le, ge_iff_le, gt_iff_lt, ne_eq, Bool.false_eq_true, Bool.true_eq_false, not_true_eq_false, not_false_eq_true, Bool.and_eq_true, Bool.not_eq_eq_eq_not, Bool.not_true, Bool.not_false, bne_iff_ne, bne_eq_false_iff_eq, Int.toNat_natCast, Nat.mul_one, Nat.add_zero, Nat.zero_add, List.take_length, List.drop_zero] at h2)
        all_goals
          exfalso
          first | omega | (have g := hg (by omega); have q := hq (by omega); have e5 := e4 (by omega); omega) | (clear hr; have q := hq (by omega); cases zws <;> cases zl <;> simp_all; done) | (clear hr; have q := hq (by omega); cases zws <;> cases zl <;> simp_all <;> omega)
  · (try simp only [decide_eq_true_eq, decide_eq_false_iff_not, Bool.not_eq_true', Bool.not_eq_false', beq_iff_eq, beq_eq_false_iff_ne, Int.not_lt, Int.not_le, ge_iff_le, gt_iff_lt, ne_eq, Bool.false_eq_true, Bool.true_eq_false, not_true_eq_false, not_false_eq_true, Bool.and_eq_true, Bool.not_eq_eq_eq_not, Bool.not_true, Bool.not_false, bne_iff_ne, bne_eq_false_iff_eq, Int.toNat_natCast, Nat.mul_one, Nat.add_zero, Nat.zero_add, List.take_length, List.drop_zero] at h1)
    all_goals
      refine Tree.Sat.ret ?_
      have hq := hr
      simp only [Prod.mk.injEq] at hq
      obtain ⟨rfl, rfl⟩ := hq
      refine .exit rfl ?_
      constructor <;> simp only [AV.leL, AV.le, Mem.le, Mem.leP, Blk.le, Blk.pad, Data.le, Data.size, Cap.le, and_true, true_and, and_self, true_implies, implies_true, imp_self, List.length_nil] <;> (repeat' with_reducible refine And.intro ?_ ?_) <;> (try simp only [Int.toNat_natCast, Nat.mul_one, Nat.add_zero, Nat.zero_add]) <;> rw [List.take_of_length_le (by omega)]
set_option maxHeartbeats 2000000 in
set_option maxRecDepth 100000 in
theorem loopsplit_0 (hall : AllOk Try.prog 0 (fun _ => none) tab18) : LoopOk (mkL Try.prog 0 (fun _ => none) tab18 rowssplit) 21 2 (bodyAt Try.prog 21 0) := by
  have hkey : Code.key (bodyAt Try.prog 21 0) = 10 := by kernel_rfl
  have hin : loopsIn (bodyAt Try.prog 21 0) = [] := by kernel_rfl
  have hrow : lookL rowssplit 21 (Code.key (bodyAt Try.prog 21 0)) = some rowsplit_0 := by rw [hkey]; rfl
  refine loop_rowP (X := Xsplit_0) (row := rowsplit_0) hall mix hrow (fun b hb _ => by rw [hin] at hb; cases hb) Usplit_0 hdsplit_0 ressplit_0 musplit_0 (fun st ex r h => ?_) (fun x ex r hr => ?_)
  · have h' : (anssplit_0 st).runs (ex, r) := h
    unfold anssplit_0 at h'
    split at h'
    · obtain ⟨q1, q2⟩ := Tree.chk_runs h'
      exact ⟨_, q1, q2⟩
    · exact h'.elim
  · obtain ⟨zws, ws, zl, l, i⟩ := x
    have := stepsplit_0 zws ws zl l i ex r hr.1 hr.2
    rw [← tLsplit_0] at this
    (try rw [show rowsplit_0.tidy = Tsplit_0 from rfl])
    exact this
theorem loopssplit (hall : AllOk Try.prog 0 (fun _ => none) tab18) : ∀ i, i < (loopsAt Try.prog 21).length → LoopOk (mkL Try.prog 0 (fun _ => none) tab18 rowssplit) 21 2 (bodyAt Try.prog 21 i) := by
  intro i hi
  have hlen : (loopsAt Try.prog 21).length = 1 := by kernel_rfl
  rw [hlen] at hi
  obtain rfl : i = 0 := by omega
  · exact loopsplit_0 hall
set_option maxRecDepth 100000 in
theorem tsplit (zws : Bool) (ws : List Int) (zl : Bool) (l : List Int) : evBody (mkL Try.prog 0 (fun _ => none) tab18 rowssplit) (evCall (mkC Try.prog 0 (fun _ => none) tab18) 50) 21 [.sl zws ⟨0, 0, 0, 0⟩ false ws.length .any, .sl zl ⟨1, 0, 0, 0⟩ false l.length .any] [some ⟨3, false, false, true, .ints .i64 ws⟩, some ⟨3, false, false, true, .ints .i64 l⟩] =
  Tree.chk ((0 + List.length ws ≤ List.length ws ∧ True) ∧ short (List.take (List.length ws) (List.drop (0) ws)) ∧ (zws = true → List.take (List.length ws) (List.drop (0) ws) = []))
  (Tree.br (mayZ (List.take (List.length ws) (List.drop (0) ws)) != (0 : Int))
  (Tree.ret
  (AV.tup [AV.sl true (Ref.mk (0) (0) (0) (0)) true (0) Cap.exact, AV.int IntKind.i64 false (mayZ (List.take (List.length ws) (List.drop (0) ws)))],
  [some (Blk.mk (3) false false true (Data.ints IntKind.i64 ws)), some (Blk.mk (3) false false true (Data.ints IntKind.i64 l))]))
  (Tree.chk
  ((0 + List.length ws ≤ List.length ws ∧ True) ∧
  List.length (List.take (List.length ws) (List.drop (0) ws)) ≤ 1000000 ∧ (zws = true → List.take (List.length ws) (List.drop (0) ws) = []))
  (Tree.chk
  ((True ∧ 0 + List.length l ≤ List.length l ∧ True) ∧
  short (List.take (List.length l) (List.drop (0) l)) ∧
  (zl = true → List.take (List.length l) (List.drop (0) l) = []) ∧
  (0 : Int) ≤ sizeZ (List.take (List.length ws) (List.drop (0) ws)) ∧ sizeZ (List.take (List.length ws) (List.drop (0) ws)) ≤ (140737488355328 : Int))
  (Tree.br (lookZ (sizeZ (List.take (List.length ws) (List.drop (0) ws))) (List.take (List.length l) (List.drop (0) l)) != (0 : Int))
  (Tree.ret
  (AV.tup
  [AV.sl true (Ref.mk (0) (0) (0) (0)) true (0) Cap.exact,
  AV.int IntKind.i64 false (lookZ (sizeZ (List.take (List.length ws) (List.drop (0) ws))) (List.take (List.length l) (List.drop (0) l)))],
  [some (Blk.mk (3) false false true (Data.ints IntKind.i64 ws)), some (Blk.mk (3) false false true (Data.ints IntKind.i64 l))]))
  (Tree.chk
  (St.le
  (St.mk
  [jk, AV.sl zl (Ref.mk (1) (0) (0) (0)) false (List.length l) Cap.any, jk, jk, jk, jk, jk, jk,
  AV.sl true (Ref.mk (2) (0) (0) (0)) false (0) Cap.own, AV.int IntKind.i64 true (0 : Int), jk, jk, jk, jk, jk, jk, jk, jk, jk, jk,
  jk, jk, jk, jk, jk, AV.sl zws (Ref.mk (0) (0) (0) (0)) false (List.length ws) Cap.any, AV.int IntKind.i64 false ((List.length ws) : Int),
  AV.int IntKind.i64 true (0 : Int), jk, jk, jk, jk, jk, jk, jk, jk, jk, jk, jk, jk, jk, jk, jk, jk, jk, jk, jk, jk,
  jk, jk, jk, jk, jk, jk, jk, jk, jk, jk, jk, jk, jk, jk, jk, jk, jk, jk, jk, jk, jk, jk, jk]
  [some (Blk.mk (3) false false true (Data.ints IntKind.i64 ws)), some (Blk.mk (3) false false true (Data.ints IntKind.i64 l)), some (Blk.mk (3) true true true (Data.ints IntKind.i64 []))])
  (St.mk
  [jk, AV.sl zl (Ref.mk (1) (0) (0) (0)) false (List.length l) Cap.any, jk, jk, jk, jk, jk, jk,
  AV.sl true (Ref.mk (2) (0) (0) (0)) false (0) Cap.own, AV.int IntKind.i64 false (sumI (List.take (Int.toNat (0 : Int)) ws)), jk, jk, jk, jk, jk, jk,
  jk, jk, jk, jk, jk, jk, jk, jk, jk, AV.sl zws (Ref.mk (0) (0) (0) (0)) false (List.length ws) Cap.any,
  AV.int IntKind.i64 false ((List.length ws) : Int), AV.int IntKind.i64 false (0 : Int), jk, jk, jk, jk, jk, jk, jk, jk, jk, jk, jk, jk, jk, jk, jk,
  jk, jk, jk, jk, jk, jk, jk, jk, jk, jk, jk, jk, jk, jk, jk, jk, jk, jk, jk, jk, jk, jk, jk, jk,
  jk, jk, jk, jk]
  [some (Blk.mk (3) false false true (Data.ints IntKind.i64 ws)), some (Blk.mk (3) false false true (Data.ints IntKind.i64 l)),
  some (Blk.mk (3) true true true (Data.ints IntKind.i64 (splitF l 0 (List.take (Int.toNat (0 : Int)) ws))))]))
  (Tree.chk (oksplit_0 (Xsplit_0.mk zws ws zl l (Int.toNat (0 : Int))))
  (Tree.ret
  (AV.tup [AV.sl (decide (splitF l 0 ws = [])) (Ref.mk (2) (0) (0) (0)) false (List.length (splitF l 0 ws)) Cap.own, AV.int IntKind.i64 true (0 : Int)],
  [some (Blk.mk (3) false false true (Data.ints IntKind.i64 ws)), some (Blk.mk (3) false false true (Data.ints IntKind.i64 l)),
  some (Blk.mk (3) true (decide ((splitF l 0 ws) = [])) true (Data.ints IntKind.i64 (splitF l 0 ws)))])))))))) := by kernel_rfl
set_option maxRecDepth 100000 in
theorem gsplit (zws : Bool) (ws : List Int) (zl : Bool) (l : List Int) (hw : short ws ∧ short l ∧ (zws = true → ws = []) ∧ (zl = true → l = [])) : (Tree.chk ((0 + List.length ws ≤ List.length ws ∧ True) ∧ short (List.take (List.length ws) (List.drop (0) ws)) ∧ (zws = true → List.take (List.length ws) (List.drop (0) ws) = []))
  (Tree.br (mayZ (List.take (List.length ws) (List.drop (0) ws)) != (0 : Int))
  (Tree.ret
  (AV.tup [AV.sl true (Ref.mk (0) (0) (0) (0)) true (0) Cap.exact, AV.int IntKind.i64 false (mayZ (List.take (List.length ws) (List.drop (0) ws)))],
  [some (Blk.mk (3) false false true (Data.ints IntKind.i64 ws)), some (Blk.mk (3) false false true (Data.ints IntKind.i64 l))]))
  (Tree.chk
  ((0 + List.length ws ≤ List.length ws ∧ True) ∧
  List.length (List.take (List.length ws) (List.drop (0) ws)) ≤ 1000000 ∧ (zws = true → List.take (List.length ws) (List.drop (0) ws) = []))
  (Tree.chk
  ((True ∧ 0 + List.length l ≤ List.length l ∧ True) ∧
  short (List.take (List.length l) (List.drop (0) l)) ∧
  (zl = true → List.take (List.length l) (List.drop (0) l) = []) ∧
  (0 : Int) ≤ sizeZ (List.take (List.length ws) (List.drop (0) ws)) ∧ sizeZ (List.take (List.length ws) (List.drop (0) ws)) ≤ (140737488355328 : Int))
  (Tree.br (lookZ (sizeZ (List.take (List.length ws) (List.drop (0) ws))) (List.take (List.length l) (List.drop (0) l)) != (0 : Int))
  (Tree.ret
  (AV.tup
  [AV.sl true (Ref.mk (0) (0) (0) (0)) true (0) Cap.exact,
  AV.int IntKind.i64 false (lookZ (sizeZ (List.take (List.length ws) (List.drop (0) ws))) (List.take (List.length l) (List.drop (0) l)))],
  [some (Blk.mk (3) false false true (Data.ints IntKind.i64 ws)), some (Blk.mk (3) false false true (Data.ints IntKind.i64 l))]))
  (Tree.chk
  (St.le
  (St.mk
  [jk, AV.sl zl (Ref.mk (1) (0) (0) (0)) false (List.length l) Cap.any, jk, jk, jk, jk, jk, jk,
  AV.sl true (Ref.mk (2) (0) (0) (0)) false (0) Cap.own, AV.int IntKind.i64 true (0 : Int), jk, jk, jk, jk, jk, jk, jk, jk, jk, jk,
  jk, jk, jk, jk, jk, AV.sl zws (Ref.mk (0) (0) (0) (0)) false (List.length ws) Cap.any, AV.int IntKind.i64 false ((List.length ws) : Int),
  AV.int IntKind.i64 true (0 : Int), jk, jk, jk, jk, jk, jk, jk, jk, jk, jk, jk, jk, jk, jk, jk, jk, jk, jk, jk, jk,
  jk, jk, jk, jk, jk, jk, jk, jk, jk, jk, jk, jk, jk, jk, jk, jk, jk, jk, jk, jk, jk, jk, jk]
  [some (Blk.mk (3) false false true (Data.ints IntKind.i64 ws)), some (Blk.mk (3) false false true (Data.ints IntKind.i64 l)), some (Blk.mk (3) true true true (Data.ints IntKind.i64 []))])
  (St.mk
  [jk, AV.sl zl (Ref.mk (1) (0) (0) (0)) false (List.length l) Cap.any, jk, jk, jk, jk, jk, jk,
  AV.sl true (Ref.mk (2) (0) (0) (0)) false (0) Cap.own, AV.int IntKind.i64 false (sumI (List.take (Int.toNat (0 : Int)) ws)), jk, jk, jk, jk, jk, jk,
  jk, jk, jk, jk, jk, jk, jk, jk, jk, AV.sl zws (Ref.mk (0) (0) (0) (0)) false (List.length ws) Cap.any,
  AV.int IntKind.i64 false ((List.length ws) : Int), AV.int IntKind.i64 false (0 : Int), jk, jk, jk, jk, jk, jk, jk, jk, jk, jk, jk, jk, jk, jk, jk,
  jk, jk, jk, jk, jk, jk, jk, jk, jk, jk, jk, jk, jk, jk, jk, jk, jk, jk, jk, jk, jk, jk, jk, jk,
  jk, jk, jk, jk]
  [some (Blk.mk (3) false false true (Data.ints IntKind.i64 ws)), some (Blk.mk (3) false false true (Data.ints IntKind.i64 l)),
  some (Blk.mk (3) true true true (Data.ints IntKind.i64 (splitF l 0 (List.take (Int.toNat (0 : Int)) ws))))]))
  (Tree.chk (oksplit_0 (Xsplit_0.mk zws ws zl l (Int.toNat (0 : Int))))
  (Tree.ret
  (AV.tup [AV.sl (decide (splitF l 0 ws = [])) (Ref.mk (2) (0) (0) (0)) false (List.length (splitF l 0 ws)) Cap.own, AV.int IntKind.i64 true (0 : Int)],
  [some (Blk.mk (3) false false true (Data.ints IntKind.i64 ws)), some (Blk.mk (3) false false true (Data.ints IntKind.i64 l)),
  some (Blk.mk (3) true (decide ((splitF l 0 ws) = [])) true (Data.ints IntKind.i64 (splitF l 0 ws)))])))))))) : Tree (AV × Mem)).GivesP (.tup [.sl (decide (splitL ws l = [])) ⟨2, 0, 0, 0⟩ false (splitL ws l).length .own, .int .i64 false (splitE ws l)]) ([some ⟨3, false, false, true, .ints .i64 ws⟩, some ⟨3, false, false, true, .ints .i64 l⟩, some (⟨3, true, decide (splitL ws l = []), true, .ints .i64 (splitL ws l)⟩)]) := by
  obtain ⟨hs, hs2, hzw, hzl⟩ := hw
  simp only [List.take_length, List.drop_zero]
  refine Tree.GivesP.chk (by first | (simp only [and_self]; done) | (exact ⟨⟨by omega, trivial⟩, hs, hzw⟩)) ?_
  refine Tree.GivesP.br (fun h1 => ?_) (fun h1 => ?_)
  · (try simp only [decide_eq_true_eq, decide_eq_false_iff_not, Bool.not_eq_true', Bool.not_eq_false', beq_iff_eq, beq_eq_false_iff_ne, Int.not_lt, Int.not_le, ge_iff_le, gt_iff_lt, ne_eq, Bool.false_eq_true, Bool.true_eq_false, not_true_eq_false, not_false_eq_true, Bool.and_eq_true, Bool.not_eq_eq_eq_not, Bool.not_true, Bool.not_false, bne_iff_ne, bne_eq_false_iff_eq, Int.toNat_natCast, Nat.mul_one, Nat.add_zero, Nat.zero_add, List.take_length, List.drop_zero] at h1)
    all_goals
      refine Tree.GivesP.ret ?_ ?_
      · have e := split_may (l := l) h1
        simp [AV.le, AV.leL, Cap.le, e.1, e.2] <;> first | assumption | exact pl.symm
      · have e := split_may (l := l) h1
        simp [Mem.leP, Blk.le, Blk.pad, Data.le, Data.size, AV.le, AV.leL, e.1, e.2] <;> first | assumption | (cases decide (outTo ws vs ws.length = []) <;> rfl)
  · (try simp only [decide_eq_true_eq, decide_eq_false_iff_not, Bool.not_eq_true', Bool.not_eq_false', beq_iff_eq, beq_eq_false_iff_ne, Int.not_lt, Int.not_le, ge_iff_le, gt_iff_lt, ne_eq, Bool.false_eq_true, Bool.true_eq_false, not_true_eq_false, not_false_eq_true, Bool.and_eq_true, Bool.not_eq_eq_eq_not, Bool.not_true, Bool.not_false, bne_iff_ne, bne_eq_false_iff_eq, Int.toNat_natCast, Nat.mul_one, Nat.add_zero, Nat.zero_add, List.take_length, List.drop_zero] at h1)
    all_goals
      refine Tree.GivesP.chk (by first | (simp only [and_self]; done) | (exact ⟨⟨by omega, trivial⟩, by have := (may_ok h1).1; omega, hzw⟩)) ?_
      refine Tree.GivesP.chk (by first | (simp only [and_self]; done) | (have sz := size_small h1; exact ⟨⟨trivial, by omega, trivial⟩, hs2, hzl, by omega, by omega⟩)) ?_
      refine Tree.GivesP.br (fun h2 => ?_) (fun h2 => ?_)
      · (try simp only [decide_eq_true_eq, decide_eq_false_iff_not, Bool.not_eq_true', Bool.not_eq_false', beq_iff_eq, beq_eq_false_iff_ne, Int.not_lt, Int.not_le, ge_iff_le, gt_iff_lt, ne_eq, Bool.false_eq_true, Bool.true_eq_false, not_true_eq_false, not_false_eq_true, Bool.and_eq_true, Bool.not_eq_eq_eq_not, Bool.not_true, Bool.not_false, bne_iff_ne, bne_eq_false_iff_eq, Int.toNat_natCast, Nat.mul_one, Nat.add_zero, Nat.zero_add, List.take_length, List.drop_zero] at h2)
        all_goals
          refine Tree.GivesP.ret ?_ ?_
          · have e := split_look h1 h2
            simp [AV.le, AV.leL, Cap.le, e.1, e.2] <;> first | assumption | exact pl.symm
          · have e := split_look h1 h2
            simp [Mem.leP, Blk.le, Blk.pad, Data.le, Data.size, AV.le, AV.leL, e.1, e.2] <;> first | assumption | (cases decide (outTo ws vs ws.length = []) <;> rfl)
      · (try simp only [decide_eq_true_eq, decide_eq_false_iff_not, Bool.not_eq_true', Bool.not_eq_false', beq_iff_eq, beq_eq_false_iff_ne, Int.not_lt, Int.not_le, ge_iff_le, gt_iff_lt, ne_eq, Bool.false_eq_true, Bool.true_eq_false, not_true_eq_false, not_false_eq_true, Bool.and_eq_true, Bool.not_eq_eq_eq_not, Bool.not_true, Bool.not_false, bne_iff_ne, bne_eq_false_iff_eq, Int.toNat_natCast, Nat.mul_one, Nat.add_zero, Nat.zero_add, List.take_length, List.drop_zero] at h2)
        all_goals
          refine Tree.GivesP.chk (by first | (simp only [and_self]; done) | (constructor <;> simp only [hdsplit_0, Int.toNat_zero, Int.cast_ofNat_Int, AV.leL, AV.le, Mem.le, Mem.leP, Blk.le, Blk.pad, Data.le, Data.size, Cap.le, and_true, true_and, and_self, true_implies, implies_true, imp_self, List.length_nil] <;> (try simp only [List.take_zero]) <;> (try rfl) <;> (try (repeat' with_reducible refine And.intro ?_ ?_)) <;> rfl)) ?_
          refine Tree.GivesP.chk (by first | (simp only [and_self]; done) | (exact ⟨h1, hs2, hzw, hzl, h2, Nat.zero_le _⟩)) ?_
          refine Tree.GivesP.ret ?_ ?_
          · have e := split_good h1 h2
            simp [AV.le, AV.leL, Cap.le, e.1, e.2] <;> first | assumption | exact pl.symm
          · have e := split_good h1 h2
            simp [Mem.leP, Blk.le, Blk.pad, Data.le, Data.size, AV.le, AV.leL, e.1, e.2] <;> first | assumption | (cases decide (outTo ws vs ws.length = []) <;> rfl)
theorem ssplit (hall : AllOk Try.prog 0 (fun _ => none) tab18) (zws : Bool) (ws : List Int) (zl : Bool) (l : List Int) (hw : short ws ∧ short l ∧ (zws = true → ws = []) ∧ (zl = true → l = [])) : SoundAt (mkC Try.prog 0 (fun _ => none) []) 21 [.sl zws ⟨0, 0, 0, 0⟩ false ws.length .any, .sl zl ⟨1, 0, 0, 0⟩ false l.length .any] [some ⟨3, false, false, true, .ints .i64 ws⟩, some ⟨3, false, false, true, .ints .i64 l⟩] (.tup [.sl (decide (splitL ws l = [])) ⟨2, 0, 0, 0⟩ false (splitL ws l).length .own, .int .i64 false (splitE ws l)], [some ⟨3, false, false, true, .ints .i64 ws⟩, some ⟨3, false, false, true, .ints .i64 l⟩, some (⟨3, true, decide (splitL ws l = []), true, .ints .i64 (splitL ws l)⟩)]) := sound_loopsP hall mix (loopssplit hall) (tsplit zws ws zl l) (gsplit zws ws zl l hw)
theorem Fsplit_ok (hall : AllOk Try.prog 0 (fun _ => none) tab18) : PureF Try.prog 3 21 Fsplit := by
  intro xs c v news h hc
  unfold Fsplit at h
  split at h
  · rename_i zws ws zl l
    cases h
    refine ⟨(by simp), SoundAt.flags (ssplit hall zws ws zl l hc) ?_⟩
    simp [PA.avs, AV.le, AV.leL, Cap.le]
  · cases h
end Go.Proofs.Ytnkjblmlchbfkaa.Rig

/- All19 -/
namespace Go.Proofs.Ytnkjblmlchbfkaa.Rig
open Go
theorem Flook1_okx : PureF Try.prog 3 38 Flook1 := Flook1_ok all0
theorem all1 : AllOk Try.prog 0 (fun _ => none) tab1 := ⟨pureEnt_ok Flook1_okx, all0⟩
theorem Fmay1_okx : PureF Try.prog 3 36 Fmay1 := Fmay1_ok all1
theorem all2 : AllOk Try.prog 0 (fun _ => none) tab2 := ⟨pureEnt_ok Fmay1_okx, all1⟩
theorem Fidx38_okx : PureF Try.prog 3 39 Fidx38 := Fidx38_ok all2
theorem all3 : AllOk Try.prog 0 (fun _ => none) tab3 := ⟨pureEnt_ok Fidx38_okx, all2⟩
theorem Fidx36o_okx : PureF Try.prog 3 39 Fidx36o := PureF.or Fidx38_okx (Fidx36_ok all3)
theorem all4 : AllOk Try.prog 0 (fun _ => none) tab4 := ⟨pureEnt_ok Fidx36o_okx, all3⟩
theorem Fcon38_okx : PureF Try.prog 3 37 Fcon38 := Fcon38_ok all4
theorem all5 : AllOk Try.prog 0 (fun _ => none) tab5 := ⟨pureEnt_ok Fcon38_okx, all4⟩
theorem Fcon36o_okx : PureF Try.prog 3 37 Fcon36o := PureF.or Fcon38_okx (Fcon36_ok all5)
theorem all6 : AllOk Try.prog 0 (fun _ => none) tab6 := ⟨pureEnt_ok Fcon36o_okx, all5⟩
theorem Fwords_okx : PureF Try.prog 3 35 Fwords := Fwords_ok all6
theorem all7 : AllOk Try.prog 0 (fun _ => none) tab7 := ⟨pureEnt_ok Fwords_okx, all6⟩
theorem Flook_okx : PureF Try.prog 3 34 Flook := Flook_ok all7
theorem all8 : AllOk Try.prog 0 (fun _ => none) tab8 := ⟨pureEnt_ok Flook_okx, all7⟩
theorem Fmay_okx : PureF Try.prog 3 31 Fmay := Fmay_ok all8
theorem all9 : AllOk Try.prog 0 (fun _ => none) tab9 := ⟨pureEnt_ok Fmay_okx, all8⟩
theorem Fints_okx : PureF Try.prog 3 10 Fints := Fints_ok all9
theorem all10 : AllOk Try.prog 0 (fun _ => none) tab10 := ⟨pureEnt_ok Fints_okx, all9⟩
theorem Fsame_okx : PureF Try.prog 3 13 Fsame := Fsame_ok all10
theorem all11 : AllOk Try.prog 0 (fun _ => none) tab11 := ⟨pureEnt_ok Fsame_okx, all10⟩
theorem Fall26_okx : PureF Try.prog 3 25 Fall26 := Fall26_ok all11
theorem all12 : AllOk Try.prog 0 (fun _ => none) tab12 := ⟨pureEnt_ok Fall26_okx, all11⟩
theorem Fsigned_okx : PureF Try.prog 3 9 Fsigned := Fsigned_ok all12
theorem all13 : AllOk Try.prog 0 (fun _ => none) tab13 := ⟨pureEnt_ok Fsigned_okx, all12⟩
theorem Fraw_okx : PureF Try.prog 3 29 Fraw := Fraw_ok all13
theorem all14 : AllOk Try.prog 0 (fun _ => none) tab14 := ⟨pureEnt_ok Fraw_okx, all13⟩
theorem Fget_okx : PureF Try.prog 3 15 Fget := Fget_ok all14
theorem all15 : AllOk Try.prog 0 (fun _ => none) tab15 := ⟨pureEnt_ok Fget_okx, all14⟩
theorem Fsize_okx : PureF Try.prog 3 23 Fsize := Fsize_ok all15
theorem all16 : AllOk Try.prog 0 (fun _ => none) tab16 := ⟨pureEnt_ok Fsize_okx, all15⟩
theorem Fworks_okx : PureF Try.prog 3 14 Fworks := Fworks_ok all16
theorem all17 : AllOk Try.prog 0 (fun _ => none) tab17 := ⟨pureEnt_ok Fworks_okx, all16⟩
theorem Ffields_okx : PureF Try.prog 3 19 Ffields := Ffields_ok all17
theorem all18 : AllOk Try.prog 0 (fun _ => none) tab18 := ⟨pureEnt_ok Ffields_okx, all17⟩
theorem Fsplit_okx : PureF Try.prog 3 21 Fsplit := Fsplit_ok all18
theorem all19 : AllOk Try.prog 0 (fun _ => none) tab19 := ⟨pureEnt_ok Fsplit_okx, all18⟩
end Go.Proofs.Ytnkjblmlchbfkaa.Rig
