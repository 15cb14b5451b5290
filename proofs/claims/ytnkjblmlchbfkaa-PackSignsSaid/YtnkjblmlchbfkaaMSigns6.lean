/- MSigns: what is proved for the claim, part 6: functions' reckonings, and what they give. -/
import Derived.Test.YtnkjblmlchbfkaaMSigns5
import Derived.KernelRfl
import Derived.Test.YtnkjblmlchbfkaaRows
import Derived.WalkKit
import Derived.ProofKit
import Derived.OpenShut
import Derived.ShutString
import Derived.ChangeOld
import Derived.Below
import Derived.SizedLaws
set_option linter.unusedVariables false
set_option linter.unusedSimpArgs false
/- QPackSigns -/
namespace Go.Proofs.Ytnkjblmlchbfkaa.Rig
open Go
set_option maxRecDepth 100000 in
theorem tLPackSigns_0 (k : Int) (zwords : Bool) (words : List Int) (i : Nat) : tidied TPackSigns_0 UPackSigns_0 1 (evCode (mkL Try.prog 0 (fun _ => none) tab29 rowsPackSigns) (evCall (mkC Try.prog 0 (fun _ => none) tab29) 50) 5 1 fuelC (bodyAt Try.prog 5 0) (hdPackSigns_0 ⟨k, zwords, words, i⟩)) =
  Tree.br (decide ((i : Int) < k))
    (Tree.br (decide ((i : Int) < ((List.length words) : Int)))
      (Tree.br (!zwords && decide ((0 : Int) ≤ (i : Int) ∧ (i : Int) < ((List.length words) : Int)))
        (Tree.br (decide (Int.toNat (i : Int) * 1 + 0 + 1 ≤ List.length words))
          (Tree.chk ((True ∧ True ∧ True) ∧ (1 : Int) ≤ (65536 : Int) ∧ (65536 : Int) ≤ (9223372036854775807 : Int))
            (Tree.br (decide (((i + 1) : Int) ≤ most48 ∧ (((i + 1) * 8) : Int) ≤ most48))
              (Tree.br
                (decide
                    (i * 1 = Data.size (Data.ints IntKind.i64 (List.map (fun w => amongZ w (65536 : Int)) (List.take i words))) ∧
                      Data.size
                          (Data.cells
                            (List.take (1 * 1)
                              (List.drop (0)
                                (List.take (0 * 1) (zerosOf (List.map ofCell [Value.int IntKind.i64 (0 : Int)]) 1) ++
                                  (AV.parts
                                      (opnd (mkL Try.prog 0 (fun x => none) tab29 rowsPackSigns)
                                        [AV.int IntKind.i64 false k, AV.sl zwords (Ref.mk 0 0 0 0) false (List.length words) Cap.any, AV.junk, AV.junk, AV.junk,
                                          AV.sl false (Ref.mk 1 0 0 0) false i Cap.own, AV.int IntKind.i64 false (i : Int), AV.junk, AV.junk, AV.junk, AV.junk, AV.junk, AV.junk, AV.junk, AV.junk, AV.junk,
                                          AV.junk, AV.int IntKind.i64 false (i : Int), AV.int IntKind.i64 false k, AV.bool false (decide ((i : Int) < k)), AV.bool true true, AV.int IntKind.i64 false (i : Int),
                                          AV.sl zwords (Ref.mk 0 0 0 0) false (List.length words) Cap.any, AV.int IntKind.i64 false ((List.length words) : Int),
                                          AV.bool false (decide ((i : Int) < ((List.length words) : Int))), AV.bool true true, AV.junk, AV.junk, AV.sl false (Ref.mk 1 0 0 0) false i Cap.own,
                                          AV.sl zwords (Ref.mk 0 0 0 0) false (List.length words) Cap.any, AV.int IntKind.i64 false (i : Int),
                                          AV.ptr (Ref.mk (0) (Int.toNat (i : Int)) (1) (0)), AV.int IntKind.i64 false (List.getD words (Int.toNat (i : Int) * 1 + 0 + 0) (0 : Int)),
                                          AV.int IntKind.i64 false (amongZ (List.getD words (Int.toNat (i : Int) * 1 + 0 + 0) (0 : Int)) (65536 : Int)), AV.junk, AV.junk, AV.junk, AV.junk, AV.junk, AV.junk, AV.junk,
                                          AV.junk, AV.junk, AV.junk, AV.junk, AV.junk, AV.junk, AV.junk, AV.junk, AV.junk, AV.junk, AV.junk, AV.junk, AV.junk, AV.junk, AV.junk, AV.junk, AV.junk, AV.junk, AV.junk, AV.junk, AV.junk, AV.junk,
                                          AV.junk, AV.junk, AV.junk, AV.junk, AV.junk, AV.junk, AV.junk, AV.junk, AV.junk, AV.junk, AV.junk, AV.junk, AV.junk, AV.junk, AV.junk, AV.junk, AV.junk, AV.junk, AV.junk, AV.junk, AV.junk, AV.junk,
                                          AV.junk, AV.junk]
                                        (Operand.tmp 33)) ++
                                    List.drop (0 * 1 + 1) (zerosOf (List.map ofCell [Value.int IntKind.i64 (0 : Int)]) 1)))))) =
                        1 * 1) &&
                  false == false)
                (Tree.ret
                  (Ex.norm,
                    St.mk
                      [AV.int IntKind.i64 false k, AV.sl zwords (Ref.mk (0) (0) (0) (0)) false (List.length words) Cap.any, AV.junk, AV.junk, AV.junk,
                        AV.sl false (Ref.mk (1) (0) (0) (0)) false (i + 1) Cap.own, AV.int IntKind.i64 false (IntKind.wrap IntKind.i64 ((i : Int) + (1 : Int))), AV.junk, AV.junk, AV.junk, AV.junk,
                        AV.junk, AV.junk, AV.junk, AV.junk, AV.junk, AV.junk, AV.junk, AV.junk, AV.junk, AV.junk, AV.junk, AV.junk, AV.junk, AV.junk, AV.junk, AV.junk, AV.junk, AV.junk, AV.junk, AV.junk, AV.junk, AV.junk, AV.junk, AV.junk,
                        AV.junk, AV.junk, AV.junk, AV.junk, AV.junk, AV.junk, AV.junk, AV.junk, AV.junk, AV.junk, AV.junk, AV.junk, AV.junk, AV.junk, AV.junk, AV.junk, AV.junk, AV.junk, AV.junk, AV.junk, AV.junk, AV.junk, AV.junk, AV.junk,
                        AV.junk, AV.junk, AV.junk, AV.junk, AV.junk, AV.junk, AV.junk, AV.junk, AV.junk, AV.junk, AV.junk, AV.junk, AV.junk, AV.junk, AV.junk, AV.junk, AV.junk, AV.junk, AV.junk, AV.junk, AV.junk, AV.junk, AV.junk, AV.junk,
                        AV.junk, AV.junk, AV.junk, AV.junk]
                      [some (Blk.mk (3) false false true (Data.ints IntKind.i64 words)),
                        some
                          (Blk.mk (3) true false true
                            (Data.ints IntKind.i64 (List.map (fun w => amongZ w (65536 : Int)) (List.take i words) ++ [amongZ (List.getD words (Int.toNat (i : Int) * 1 + 0 + 0) (0 : Int)) (65536 : Int)])))]))
                Tree.fail)
              Tree.fail))
          Tree.fail)
        Tree.fail)
      (Tree.ret
        (Ex.exit (0),
          St.mk
            [AV.int IntKind.i64 false k, AV.junk, AV.junk, AV.junk, AV.junk, AV.sl false (Ref.mk (1) (0) (0) (0)) false i Cap.own, AV.junk, AV.junk, AV.junk, AV.junk, AV.junk, AV.junk, AV.junk, AV.junk,
              AV.junk, AV.junk, AV.junk, AV.junk, AV.junk, AV.junk, AV.junk, AV.junk, AV.junk, AV.junk, AV.junk, AV.junk, AV.junk, AV.junk, AV.junk, AV.junk, AV.junk, AV.junk, AV.junk, AV.junk, AV.junk, AV.junk, AV.junk, AV.junk, AV.junk,
              AV.junk, AV.junk, AV.junk, AV.junk, AV.junk, AV.junk, AV.junk, AV.junk, AV.junk, AV.junk, AV.junk, AV.junk, AV.junk, AV.junk, AV.junk, AV.junk, AV.junk, AV.junk, AV.junk, AV.junk, AV.junk, AV.junk, AV.junk, AV.junk, AV.junk,
              AV.junk, AV.junk, AV.junk, AV.junk, AV.junk, AV.junk, AV.junk, AV.junk, AV.junk, AV.junk, AV.junk, AV.junk, AV.junk, AV.junk, AV.junk, AV.junk, AV.junk, AV.junk, AV.junk, AV.junk, AV.junk, AV.junk, AV.junk]
            [some (Blk.mk (3) false false true (Data.ints IntKind.i64 words)), some (Blk.mk (3) true false true (Data.ints IntKind.i64 (List.map (fun w => amongZ w (65536 : Int)) (List.take i words))))])))
    (Tree.ret
      (Ex.exit (0),
        St.mk
          [AV.int IntKind.i64 false k, AV.junk, AV.junk, AV.junk, AV.junk, AV.sl false (Ref.mk (1) (0) (0) (0)) false i Cap.own, AV.junk, AV.junk, AV.junk, AV.junk, AV.junk, AV.junk, AV.junk, AV.junk,
            AV.junk, AV.junk, AV.junk, AV.junk, AV.junk, AV.junk, AV.junk, AV.junk, AV.junk, AV.junk, AV.junk, AV.junk, AV.junk, AV.junk, AV.junk, AV.junk, AV.junk, AV.junk, AV.junk, AV.junk, AV.junk, AV.junk, AV.junk, AV.junk, AV.junk,
            AV.junk, AV.junk, AV.junk, AV.junk, AV.junk, AV.junk, AV.junk, AV.junk, AV.junk, AV.junk, AV.junk, AV.junk, AV.junk, AV.junk, AV.junk, AV.junk, AV.junk, AV.junk, AV.junk, AV.junk, AV.junk, AV.junk, AV.junk, AV.junk, AV.junk,
            AV.junk, AV.junk, AV.junk, AV.junk, AV.junk, AV.junk, AV.junk, AV.junk, AV.junk, AV.junk, AV.junk, AV.junk, AV.junk, AV.junk, AV.junk, AV.junk, AV.junk, AV.junk, AV.junk, AV.junk, AV.junk, AV.junk, AV.junk]
          [some (Blk.mk (3) false false true (Data.ints IntKind.i64 words)), some (Blk.mk (3) true false true (Data.ints IntKind.i64 (List.map (fun w => amongZ w (65536 : Int)) (List.take i words))))])) := by kernel_rfl
set_option maxRecDepth 100000 in
theorem stepPackSigns_0 (k : Int) (zwords : Bool) (words : List Int) (i : Nat) (ex : Ex) (r : St) (hok : okPackSigns_0 ⟨k, zwords, words, i⟩) (hr : (outPackSigns_0 ⟨k, zwords, words, i⟩).runs (ex, r)) : (Tree.br (decide ((i : Int) < k))
    (Tree.br (decide ((i : Int) < ((List.length words) : Int)))
      (Tree.br (!zwords && decide ((0 : Int) ≤ (i : Int) ∧ (i : Int) < ((List.length words) : Int)))
        (Tree.br (decide (Int.toNat (i : Int) * 1 + 0 + 1 ≤ List.length words))
          (Tree.chk ((True ∧ True ∧ True) ∧ (1 : Int) ≤ (65536 : Int) ∧ (65536 : Int) ≤ (9223372036854775807 : Int))
            (Tree.br (decide (((i + 1) : Int) ≤ most48 ∧ (((i + 1) * 8) : Int) ≤ most48))
              (Tree.br
                (decide
                    (i * 1 = Data.size (Data.ints IntKind.i64 (List.map (fun w => amongZ w (65536 : Int)) (List.take i words))) ∧
                      Data.size
                          (Data.cells
                            (List.take (1 * 1)
                              (List.drop (0)
                                (List.take (0 * 1) (zerosOf (List.map ofCell [Value.int IntKind.i64 (0 : Int)]) 1) ++
                                  (AV.parts
                                      (opnd (mkL Try.prog 0 (fun x => none) tab29 rowsPackSigns)
                                        [AV.int IntKind.i64 false k, AV.sl zwords (Ref.mk 0 0 0 0) false (List.length words) Cap.any, AV.junk, AV.junk, AV.junk,
                                          AV.sl false (Ref.mk 1 0 0 0) false i Cap.own, AV.int IntKind.i64 false (i : Int), AV.junk, AV.junk, AV.junk, AV.junk, AV.junk, AV.junk, AV.junk, AV.junk, AV.junk,
                                          AV.junk, AV.int IntKind.i64 false (i : Int), AV.int IntKind.i64 false k, AV.bool false (decide ((i : Int) < k)), AV.bool true true, AV.int IntKind.i64 false (i : Int),
                                          AV.sl zwords (Ref.mk 0 0 0 0) false (List.length words) Cap.any, AV.int IntKind.i64 false ((List.length words) : Int),
                                          AV.bool false (decide ((i : Int) < ((List.length words) : Int))), AV.bool true true, AV.junk, AV.junk, AV.sl false (Ref.mk 1 0 0 0) false i Cap.own,
                                          AV.sl zwords (Ref.mk 0 0 0 0) false (List.length words) Cap.any, AV.int IntKind.i64 false (i : Int),
                                          AV.ptr (Ref.mk (0) (Int.toNat (i : Int)) (1) (0)), AV.int IntKind.i64 false (List.getD words (Int.toNat (i : Int) * 1 + 0 + 0) (0 : Int)),
                                          AV.int IntKind.i64 false (amongZ (List.getD words (Int.toNat (i : Int) * 1 + 0 + 0) (0 : Int)) (65536 : Int)), AV.junk, AV.junk, AV.junk, AV.junk, AV.junk, AV.junk, AV.junk,
                                          AV.junk, AV.junk, AV.junk, AV.junk, AV.junk, AV.junk, AV.junk, AV.junk, AV.junk, AV.junk, AV.junk, AV.junk, AV.junk, AV.junk, AV.junk, AV.junk, AV.junk, AV.junk, AV.junk, AV.junk, AV.junk, AV.junk,
                                          AV.junk, AV.junk, AV.junk, AV.junk, AV.junk, AV.junk, AV.junk, AV.junk, AV.junk, AV.junk, AV.junk, AV.junk, AV.junk, AV.junk, AV.junk, AV.junk, AV.junk, AV.junk, AV.junk, AV.junk, AV.junk, AV.junk,
                                          AV.junk, AV.junk]
                                        (Operand.tmp 33)) ++
                                    List.drop (0 * 1 + 1) (zerosOf (List.map ofCell [Value.int IntKind.i64 (0 : Int)]) 1)))))) =
                        1 * 1) &&
                  false == false)
                (Tree.ret
                  (Ex.norm,
                    St.mk
                      [AV.int IntKind.i64 false k, AV.sl zwords (Ref.mk (0) (0) (0) (0)) false (List.length words) Cap.any, AV.junk, AV.junk, AV.junk,
                        AV.sl false (Ref.mk (1) (0) (0) (0)) false (i + 1) Cap.own, AV.int IntKind.i64 false (IntKind.wrap IntKind.i64 ((i : Int) + (1 : Int))), AV.junk, AV.junk, AV.junk, AV.junk,
                        AV.junk, AV.junk, AV.junk, AV.junk, AV.junk, AV.junk, AV.junk, AV.junk, AV.junk, AV.junk, AV.junk, AV.junk, AV.junk, AV.junk, AV.junk, AV.junk, AV.junk, AV.junk, AV.junk, AV.junk, AV.junk, AV.junk, AV.junk, AV.junk,
                        AV.junk, AV.junk, AV.junk, AV.junk, AV.junk, AV.junk, AV.junk, AV.junk, AV.junk, AV.junk, AV.junk, AV.junk, AV.junk, AV.junk, AV.junk, AV.junk, AV.junk, AV.junk, AV.junk, AV.junk, AV.junk, AV.junk, AV.junk, AV.junk,
                        AV.junk, AV.junk, AV.junk, AV.junk, AV.junk, AV.junk, AV.junk, AV.junk, AV.junk, AV.junk, AV.junk, AV.junk, AV.junk, AV.junk, AV.junk, AV.junk, AV.junk, AV.junk, AV.junk, AV.junk, AV.junk, AV.junk, AV.junk, AV.junk,
                        AV.junk, AV.junk, AV.junk, AV.junk]
                      [some (Blk.mk (3) false false true (Data.ints IntKind.i64 words)),
                        some
                          (Blk.mk (3) true false true
                            (Data.ints IntKind.i64 (List.map (fun w => amongZ w (65536 : Int)) (List.take i words) ++ [amongZ (List.getD words (Int.toNat (i : Int) * 1 + 0 + 0) (0 : Int)) (65536 : Int)])))]))
                Tree.fail)
              Tree.fail))
          Tree.fail)
        Tree.fail)
      (Tree.ret
        (Ex.exit (0),
          St.mk
            [AV.int IntKind.i64 false k, AV.junk, AV.junk, AV.junk, AV.junk, AV.sl false (Ref.mk (1) (0) (0) (0)) false i Cap.own, AV.junk, AV.junk, AV.junk, AV.junk, AV.junk, AV.junk, AV.junk, AV.junk,
              AV.junk, AV.junk, AV.junk, AV.junk, AV.junk, AV.junk, AV.junk, AV.junk, AV.junk, AV.junk, AV.junk, AV.junk, AV.junk, AV.junk, AV.junk, AV.junk, AV.junk, AV.junk, AV.junk, AV.junk, AV.junk, AV.junk, AV.junk, AV.junk, AV.junk,
              AV.junk, AV.junk, AV.junk, AV.junk, AV.junk, AV.junk, AV.junk, AV.junk, AV.junk, AV.junk, AV.junk, AV.junk, AV.junk, AV.junk, AV.junk, AV.junk, AV.junk, AV.junk, AV.junk, AV.junk, AV.junk, AV.junk, AV.junk, AV.junk, AV.junk,
              AV.junk, AV.junk, AV.junk, AV.junk, AV.junk, AV.junk, AV.junk, AV.junk, AV.junk, AV.junk, AV.junk, AV.junk, AV.junk, AV.junk, AV.junk, AV.junk, AV.junk, AV.junk, AV.junk, AV.junk, AV.junk, AV.junk, AV.junk]
            [some (Blk.mk (3) false false true (Data.ints IntKind.i64 words)), some (Blk.mk (3) true false true (Data.ints IntKind.i64 (List.map (fun w => amongZ w (65536 : Int)) (List.take i words))))])))
    (Tree.ret
      (Ex.exit (0),
        St.mk
          [AV.int IntKind.i64 false k, AV.junk, AV.junk, AV.junk, AV.junk, AV.sl false (Ref.mk (1) (0) (0) (0)) false i Cap.own, AV.junk, AV.junk, AV.junk, AV.junk, AV.junk, AV.junk, AV.junk, AV.junk,
            AV.junk, AV.junk, AV.junk, AV.junk, AV.junk, AV.junk, AV.junk, AV.junk, AV.junk, AV.junk, AV.junk, AV.junk, AV.junk, AV.junk, AV.junk, AV.junk, AV.junk, AV.junk, AV.junk, AV.junk, AV.junk, AV.junk, AV.junk, AV.junk, AV.junk,
            AV.junk, AV.junk, AV.junk, AV.junk, AV.junk, AV.junk, AV.junk, AV.junk, AV.junk, AV.junk, AV.junk, AV.junk, AV.junk, AV.junk, AV.junk, AV.junk, AV.junk, AV.junk, AV.junk, AV.junk, AV.junk, AV.junk, AV.junk, AV.junk, AV.junk,
            AV.junk, AV.junk, AV.junk, AV.junk, AV.junk, AV.junk, AV.junk, AV.junk, AV.junk, AV.junk, AV.junk, AV.junk, AV.junk, AV.junk, AV.junk, AV.junk, AV.junk, AV.junk, AV.junk, AV.junk, AV.junk, AV.junk, AV.junk]
          [some (Blk.mk (3) false false true (Data.ints IntKind.i64 words)), some (Blk.mk (3) true false true (Data.ints IntKind.i64 (List.map (fun w => amongZ w (65536 : Int)) (List.take i words))))])) : Tree (Ex × St)).Sat (Post hdPackSigns_0 resPackSigns_0 muPackSigns_0 ⟨k, zwords, words, i⟩ ex r) := by
  simp only [okPackSigns_0, outPackSigns_0, Tree.runs] at hok hr
  obtain ⟨hk1, hk3, hs, hz, hi, hik⟩ := hok
  refine Tree.Sat.br (fun h1 => ?_) (fun h1 => ?_)
  · (try simp only [decide_eq_true_eq, decide_eq_false_iff_not, Bool.not_eq_true', Bool.not_eq_false', beq_iff_eq, beq_eq_false_iff_ne, Int.not_lt, Int.not_le, ge_iff_le, gt_iff_lt, ne_eq, Bool.false_eq_true, Bool.true_eq_false, not_true_eq_false, not_false_eq_true, Bool.and_eq_true, Bool.not_eq_eq_eq_not, Bool.not_true, Bool.not_false, bne_iff_ne, bne_eq_false_iff_eq, Int.toNat_natCast, Nat.mul_one, Nat.add_zero, Nat.zero_add, List.take_length, List.drop_zero] at h1)
    all_goals
      refine Tree.Sat.br (fun h2 => ?_) (fun h2 => ?_)
      · (try simp only [decide_eq_true_eq, decide_eq_false_iff_not, Bool.not_eq_true', Bool.not_eq_false', beq_iff_eq, beq_eq_false_iff_ne, Int.not_lt, Int.not_le, ge_iff_le, gt_iff_lt, ne_eq, Bool.false_eq_true, Bool.true_eq_false, not_true_eq_false, not_false_eq_true, Bool.and_eq_true, Bool.not_eq_eq_eq_not, Bool.not_true, Bool.not_false, bne_iff_ne, bne_eq_false_iff_eq, Int.toNat_natCast, Nat.mul_one, Nat.add_zero, Nat.zero_add, List.take_length, List.drop_zero] at h2)
        all_goals
          refine Tree.Sat.br (fun h3 => ?_) (fun h3 => ?_)
          · (try simp only [decide_eq_true_eq, decide_eq_false_iff_not, Bool.not_eq_true', Bool.not_eq_false', beq_iff_eq, beq_eq_false_iff_ne, Int.not_lt, Int.not_le, ge_iff_le, gt_iff_lt, ne_eq, Bool.false_eq_true, Bool.true_eq_false, not_true_eq_false, not_false_eq_true, Bool.and_eq_true, Bool.not_eq_eq_eq_not, Bool.not_true, Bool.not_false, bne_iff_ne, bne_eq_false_iff_eq, Int.toNat_natCast, Nat.mul_one, Nat.add_zero, Nat.zero_add, List.take_length, List.drop_zero] at h3)
            all_goals
              refine Tree.Sat.br (fun h4 => ?_) (fun h4 => ?_)
              · (try simp only [decide_eq_true_eq, decide_eq_false_iff_not, Bool.not_eq_true', Bool.not_eq_false', beq_iff_eq, beq_eq_false_iff_ne, Int.not_lt, Int.not_le, ge_iff_le, gt_iff_lt, ne_eq, Bool.false_eq_true, Bool.true_eq_false, not_true_eq_false, not_false_eq_true, Bool.and_eq_true, Bool.not_eq_eq_eq_not, Bool.not_true, Bool.not_false, bne_iff_ne, bne_eq_false_iff_eq, Int.toNat_natCast, Nat.mul_one, Nat.add_zero, Nat.zero_add, List.take_length, List.drop_zero] at h4)
                all_goals
                  refine Tree.Sat.chk (by first | (simp only [and_self]; done) | ((repeat' with_reducible refine And.intro ?_ ?_) <;> first | trivial | omega | (simp only [short]; omega) | (intro hh; cases hh))) ?_
                  refine Tree.Sat.br (fun h5 => ?_) (fun h5 => ?_)
                  · (try simp only [decide_eq_true_eq, decide_eq_false_iff_not, Bool.not_eq_true', Bool.not_eq_false', beq_iff_eq, beq_eq_false_iff_ne, Int.not_lt, Int.not_le, ge_iff_le, gt_iff_lt, ne_eq, Bool.false_eq_true, Bool.true_eq_false, not_true_eq_false, not_false_eq_true, Bool.and_eq_true, Bool.not_eq_eq_eq_not, Bool.not_true, Bool.not_false, bne_iff_ne, bne_eq_false_iff_eq, Int.toNat_natCast, Nat.mul_one, Nat.add_zero, Nat.zero_add, List.take_length, List.drop_zero] at h5)
                    all_goals
                      refine Tree.Sat.br (fun h6 => ?_) (fun h6 => ?_)
                      · (try simp only [decide_eq_true_eq, decide_eq_false_iff_not, Bool.not_eq_true', Bool.not_eq_false', beq_iff_eq, beq_eq_false_iff_ne, Int.not_lt, Int.not_le, ge_iff_le, gt_iff_lt, ne_eq, Bool.false_eq_true, Bool.true_eq_false, not_true_eq_false, not_false_eq_true, Bool.and_eq_true, Bool.not_eq_eq_eq_not, Bool.not_true, Bool.not_false, bne_iff_ne, bne_eq_false_iff_eq, Int.toNat_natCast, Nat.mul_one, Nat.add_zero, Nat.zero_add, List.take_length, List.drop_zero] at h6)
                        all_goals
                          refine Tree.Sat.ret ?_
                          refine .norm ⟨k, zwords, words, i + 1⟩ ?_ ?_ ⟨?_, ?_⟩
                          · constructor <;> simp only [hdPackSigns_0, AV.leL, AV.le, Mem.le, Mem.leP, Blk.le, Blk.pad, Data.le, Data.size, Cap.le, and_true, true_and, and_self, true_implies, implies_true, imp_self, List.length_nil] <;> (repeat' with_reducible refine And.intro ?_ ?_) <;> (try simp only [Int.toNat_natCast, Nat.mul_one, Nat.add_zero, Nat.zero_add]) <;> first | exact wadd1 (by omega) | (simp only [List.length_map, List.length_take, List.length_append, List.length_cons, List.length_nil]; omega) | ((try simp only [Int.toNat_natCast, List.drop_zero, Nat.mul_one, Nat.add_zero]); exact sg_step (by omega))
                          · simp only [muPackSigns_0]; omega
                          · exact ⟨hk1, hk3, hs, hz, by omega, by omega⟩
                          · exact hr
                      · (try simp only [decide_eq_true_eq, decide_eq_false_iff_not, Bool.not_eq_true', Bool.not_eq_false', beq_iff_eq, beq_eq_false_iff_ne, Int.not_lt, Int.not_le, ge_iff_le, gt_iff_lt, ne_eq, Bool.false_eq_true, Bool.true_eq_false, not_true_eq_false, not_false_eq_true, Bool.and_eq_true, Bool.not_eq_eq_eq_not, Bool.not_true, Bool.not_false, bne_iff_ne, bne_eq_false_iff_eq, Int.toNat_natCast, Nat.mul_one, Nat.add_zero, Nat.zero_add, List.take_length, List.drop_zero] at h6)
                        all_goals
                          exfalso
                          rw [Bool.and_eq_false_iff] at h6
                          rcases h6 with h6 | h6
                          · rw [decide_eq_false_iff_not] at h6
                            exact h6 ⟨by simp only [Data.size, List.length_map, List.length_take]; omega, by first | rfl | kernel_rfl⟩
                          · exact absurd h6 (by decide)
                  · (try simp only [decide_eq_true_eq, decide_eq_false_iff_not, Bool.not_eq_true', Bool.not_eq_false', beq_iff_eq, beq_eq_false_iff_ne, Int.not_lt, Int.not_le, ge_iff_le, gt_iff_lt, ne_eq, Bool.false_eq_true, Bool.true_eq_false, not_true_eq_false, not_false_eq_true, Bool.and_eq_true, Bool.not_eq_eq_eq_not, Bool.not_true, Bool.not_false, bne_iff_ne, bne_eq_false_iff_eq, Int.toNat_natCast, Nat.mul_one, Nat.add_zero, Nat.zero_add, List.take_length, List.drop_zero] at h5)
                    all_goals
                      exfalso
                      simp [most48] at h5
                      omega
              · (try simp only [decide_eq_true_eq, decide_eq_false_iff_not, Bool.not_eq_true', Bool.not_eq_false', beq_iff_eq, beq_eq_false_iff_ne, Int.not_lt, Int.not_le, ge_iff_le, gt_iff_lt, ne_eq, Bool.false_eq_true, Bool.true_eq_false, not_true_eq_false, not_false_eq_true, Bool.and_eq_true, Bool.not_eq_eq_eq_not, Bool.not_true, Bool.not_false, bne_iff_ne, bne_eq_false_iff_eq, Int.toNat_natCast, Nat.mul_one, Nat.add_zero, Nat.zero_add, List.take_length, List.drop_zero] at h4)
                all_goals
                  exfalso
                  first | omega | (simp only [most48, Data.size, List.length_map, List.length_take] at *; omega) | (cases zwords <;> simp_all; done) | (cases zwords <;> simp_all <;> omega)
          · (try simp only [decide_eq_true_eq, decide_eq_false_iff_not, Bool.not_eq_true', Bool.not_eq_false', beq_iff_eq, beq_eq_false_iff_ne, Int.not_lt, Int.not_le, ge_iff_le, gt_iff_lt, ne_eq, Bool.false_eq_true, Bool.true_eq_false, not_true_eq_false, not_false_eq_true, Bool.and_eq_true, Bool.not_eq_eq_eq_not, Bool.not_true, Bool.not_false, bne_iff_ne, bne_eq_false_iff_eq, Int.toNat_natCast, Nat.mul_one, Nat.add_zero, Nat.zero_add, List.take_length, List.drop_zero] at h3)
            all_goals
              exfalso
              first | omega | (simp only [most48, Data.size, List.length_map, List.length_take] at *; omega) | (cases zwords <;> simp_all; done) | (cases zwords <;> simp_all <;> omega)
      · (try simp only [decide_eq_true_eq, decide_eq_false_iff_not, Bool.not_eq_true', Bool.not_eq_false', beq_iff_eq, beq_eq_false_iff_ne, Int.not_lt, Int.not_le, ge_iff_le, gt_iff_lt, ne_eq, Bool.false_eq_true, Bool.true_eq_false, not_true_eq_false, not_false_eq_true, Bool.and_eq_true, Bool.not_eq_eq_eq_not, Bool.not_true, Bool.not_false, bne_iff_ne, bne_eq_false_iff_eq, Int.toNat_natCast, Nat.mul_one, Nat.add_zero, Nat.zero_add, List.take_length, List.drop_zero] at h2)
        all_goals
          refine Tree.Sat.ret ?_
          have hq := hr
          simp only [Prod.mk.injEq] at hq
          obtain ⟨rfl, rfl⟩ := hq
          refine .exit rfl ?_
          constructor <;> simp only [AV.leL, AV.le, Mem.le, Mem.leP, Blk.le, Blk.pad, Data.le, Data.size, Cap.le, and_true, true_and, and_self, true_implies, implies_true, imp_self, List.length_nil] <;> (repeat' with_reducible refine And.intro ?_ ?_) <;> (try simp only [Int.toNat_natCast, Nat.mul_one, Nat.add_zero, Nat.zero_add]) <;> (have e5 := sg_end (l := words) (i := i) (k := k.toNat) (by omega) (by omega) (by omega); first | exact e5.2 | (rw [e5.1]))
  · (try simp only [decide_eq_true_eq, decide_eq_false_iff_not, Bool.not_eq_true', Bool.not_eq_false', beq_iff_eq, beq_eq_false_iff_ne, Int.not_lt, Int.not_le, ge_iff_le, gt_iff_lt, ne_eq, Bool.false_eq_true, Bool.true_eq_false, not_true_eq_false, not_false_eq_true, Bool.and_eq_true, Bool.not_eq_eq_eq_not, Bool.not_true, Bool.not_false, bne_iff_ne, bne_eq_false_iff_eq, Int.toNat_natCast, Nat.mul_one, Nat.add_zero, Nat.zero_add, List.take_length, List.drop_zero] at h1)
    all_goals
      refine Tree.Sat.ret ?_
      have hq := hr
      simp only [Prod.mk.injEq] at hq
      obtain ⟨rfl, rfl⟩ := hq
      refine .exit rfl ?_
      constructor <;> simp only [AV.leL, AV.le, Mem.le, Mem.leP, Blk.le, Blk.pad, Data.le, Data.size, Cap.le, and_true, true_and, and_self, true_implies, implies_true, imp_self, List.length_nil] <;> (repeat' with_reducible refine And.intro ?_ ?_) <;> (try simp only [Int.toNat_natCast, Nat.mul_one, Nat.add_zero, Nat.zero_add]) <;> (have e5 := sg_end (l := words) (i := i) (k := k.toNat) (by omega) (by omega) (by omega); first | exact e5.2 | (rw [e5.1]))
theorem loopPackSigns_0 (hall : AllOk Try.prog 0 (fun _ => none) tab29) : LoopOk (mkL Try.prog 0 (fun _ => none) tab29 rowsPackSigns) 5 1 (bodyAt Try.prog 5 0) := by
  have hkey : Code.key (bodyAt Try.prog 5 0) = 6 := by kernel_rfl
  have hin : loopsIn (bodyAt Try.prog 5 0) = [] := by kernel_rfl
  have hrow : lookL rowsPackSigns 5 (Code.key (bodyAt Try.prog 5 0)) = some rowPackSigns_0 := by rw [hkey]; rfl
  refine loop_rowP (X := XPackSigns_0) (row := rowPackSigns_0) hall mix hrow (fun b hb _ => by rw [hin] at hb; cases hb) UPackSigns_0 hdPackSigns_0 resPackSigns_0 muPackSigns_0 (fun st ex r h => ?_) (fun x ex r hr => ?_)
  · have h' : (ansPackSigns_0 st).runs (ex, r) := h
    unfold ansPackSigns_0 at h'
    split at h'
    · obtain ⟨q1, q2⟩ := Tree.chk_runs h'
      exact ⟨_, q1, q2⟩
    · exact h'.elim
  · obtain ⟨k, zwords, words, i⟩ := x
    have := stepPackSigns_0 k zwords words i ex r hr.1 hr.2
    rw [← tLPackSigns_0] at this
    exact this
theorem loopsPackSigns (hall : AllOk Try.prog 0 (fun _ => none) tab29) : ∀ i, i < (loopsAt Try.prog 5).length → LoopOk (mkL Try.prog 0 (fun _ => none) tab29 rowsPackSigns) 5 1 (bodyAt Try.prog 5 i) := by
  intro i hi
  have hlen : (loopsAt Try.prog 5).length = 1 := by kernel_rfl
  rw [hlen] at hi
  obtain rfl : i = 0 := by omega
  · exact loopPackSigns_0 hall
set_option maxRecDepth 100000 in
theorem tPackSigns (k : Int) (zwords : Bool) (words : List Int) : evBody (mkL Try.prog 0 (fun _ => none) tab29 rowsPackSigns) (evCall (mkC Try.prog 0 (fun _ => none) tab29) 50) 5 [.int .i64 false k, .sl zwords ⟨0, 0, 0, 0⟩ false words.length .any] [some ⟨3, false, false, true, .ints .i64 words⟩] =
  Tree.chk (True ∧ True)
    (Tree.br false (Tree.ret (AV.bool true false, [some (Blk.mk (3) false false true (Data.ints IntKind.i64 words))]))
      (Tree.chk ((True ∧ True ∧ True) ∧ (1 : Int) ≤ (3 : Int) ∧ (3 : Int) ≤ (9223372036854775807 : Int))
        (Tree.chk
          (St.le
            (St.mk
              [AV.int IntKind.i64 false (IntKind.wrap IntKind.i64 ((1 : Int) + amongZ k (3 : Int))), AV.sl zwords (Ref.mk (0) (0) (0) (0)) false (List.length words) Cap.any, AV.junk, AV.junk, AV.junk,
                AV.sl false (Ref.mk (1) (0) (0) (0)) true (0) Cap.own, AV.int IntKind.i64 true (0 : Int), AV.junk, AV.junk, AV.junk, AV.junk, AV.junk, AV.junk, AV.junk, AV.junk, AV.junk, AV.junk,
                AV.junk, AV.junk, AV.junk, AV.junk, AV.junk, AV.junk, AV.junk, AV.junk, AV.junk, AV.junk, AV.junk, AV.junk, AV.junk, AV.junk, AV.junk, AV.junk, AV.junk, AV.junk, AV.junk, AV.junk, AV.junk, AV.junk, AV.junk, AV.junk, AV.junk,
                AV.junk, AV.junk, AV.junk, AV.junk, AV.junk, AV.junk, AV.junk, AV.junk, AV.junk, AV.junk, AV.junk, AV.junk, AV.junk, AV.junk, AV.junk, AV.junk, AV.junk, AV.junk, AV.junk, AV.junk, AV.junk, AV.junk, AV.junk, AV.junk, AV.junk,
                AV.junk, AV.junk, AV.junk, AV.junk, AV.junk, AV.junk, AV.junk, AV.junk, AV.junk, AV.junk, AV.junk, AV.junk, AV.junk, AV.junk, AV.junk, AV.junk, AV.junk, AV.junk, AV.junk, AV.junk]
              [some (Blk.mk (3) false false true (Data.ints IntKind.i64 words)), some (Blk.mk (3) true false true (Data.cells []))])
            (St.mk
              [AV.int IntKind.i64 false (IntKind.wrap IntKind.i64 ((1 : Int) + amongZ k (3 : Int))), AV.sl zwords (Ref.mk (0) (0) (0) (0)) false (List.length words) Cap.any, AV.junk, AV.junk, AV.junk,
                AV.sl false (Ref.mk (1) (0) (0) (0)) false (0) Cap.own, AV.int IntKind.i64 false (0 : Int), AV.junk, AV.junk, AV.junk, AV.junk, AV.junk, AV.junk, AV.junk, AV.junk, AV.junk, AV.junk,
                AV.junk, AV.junk, AV.junk, AV.junk, AV.junk, AV.junk, AV.junk, AV.junk, AV.junk, AV.junk, AV.junk, AV.junk, AV.junk, AV.junk, AV.junk, AV.junk, AV.junk, AV.junk, AV.junk, AV.junk, AV.junk, AV.junk, AV.junk, AV.junk, AV.junk,
                AV.junk, AV.junk, AV.junk, AV.junk, AV.junk, AV.junk, AV.junk, AV.junk, AV.junk, AV.junk, AV.junk, AV.junk, AV.junk, AV.junk, AV.junk, AV.junk, AV.junk, AV.junk, AV.junk, AV.junk, AV.junk, AV.junk, AV.junk, AV.junk, AV.junk,
                AV.junk, AV.junk, AV.junk, AV.junk, AV.junk, AV.junk, AV.junk, AV.junk, AV.junk, AV.junk, AV.junk, AV.junk, AV.junk, AV.junk, AV.junk, AV.junk, AV.junk, AV.junk, AV.junk, AV.junk]
              [some (Blk.mk (3) false false true (Data.ints IntKind.i64 words)),
                some (Blk.mk (3) true false true (Data.ints IntKind.i64 (List.map (fun w => amongZ w (65536 : Int)) (List.take (Int.toNat (0 : Int)) words))))]))
          (Tree.chk (okPackSigns_0 (XPackSigns_0.mk (IntKind.wrap IntKind.i64 ((1 : Int) + amongZ k (3 : Int))) zwords words (Int.toNat (0 : Int))))
            (Tree.chk
              ((True ∧
                  0 + min (Int.toNat (IntKind.wrap IntKind.i64 ((1 : Int) + amongZ k (3 : Int)))) (List.length words) ≤
                      List.length (List.map (fun w => amongZ w (65536 : Int)) (List.take (Int.toNat (IntKind.wrap IntKind.i64 ((1 : Int) + amongZ k (3 : Int)))) words)) ∧
                    True) ∧
                short
                    (List.take (min (Int.toNat (IntKind.wrap IntKind.i64 ((1 : Int) + amongZ k (3 : Int)))) (List.length words))
                      (List.drop (0) (List.map (fun w => amongZ w (65536 : Int)) (List.take (Int.toNat (IntKind.wrap IntKind.i64 ((1 : Int) + amongZ k (3 : Int)))) words)))) ∧
                  (false = true →
                    List.take (min (Int.toNat (IntKind.wrap IntKind.i64 ((1 : Int) + amongZ k (3 : Int)))) (List.length words))
                        (List.drop (0) (List.map (fun w => amongZ w (65536 : Int)) (List.take (Int.toNat (IntKind.wrap IntKind.i64 ((1 : Int) + amongZ k (3 : Int)))) words))) =
                      []))
              (Tree.chk
                ((True ∧
                    0 + min (Int.toNat (IntKind.wrap IntKind.i64 ((1 : Int) + amongZ k (3 : Int)))) (List.length words) ≤
                        List.length (List.map (fun w => amongZ w (65536 : Int)) (List.take (Int.toNat (IntKind.wrap IntKind.i64 ((1 : Int) + amongZ k (3 : Int)))) words)) ∧
                      True) ∧
                  short
                      (List.take (min (Int.toNat (IntKind.wrap IntKind.i64 ((1 : Int) + amongZ k (3 : Int)))) (List.length words))
                        (List.drop (0) (List.map (fun w => amongZ w (65536 : Int)) (List.take (Int.toNat (IntKind.wrap IntKind.i64 ((1 : Int) + amongZ k (3 : Int)))) words)))) ∧
                    (false = true →
                      List.take (min (Int.toNat (IntKind.wrap IntKind.i64 ((1 : Int) + amongZ k (3 : Int)))) (List.length words))
                          (List.drop (0) (List.map (fun w => amongZ w (65536 : Int)) (List.take (Int.toNat (IntKind.wrap IntKind.i64 ((1 : Int) + amongZ k (3 : Int)))) words))) =
                        []))
                (Tree.br (decide ((((min (Int.toNat (IntKind.wrap IntKind.i64 ((1 : Int) + amongZ k (3 : Int)))) (List.length words)) : Nat) : Int) < IntKind.wrap IntKind.i64 ((1 : Int) + amongZ k (3 : Int))))
                  (Tree.br
                    (rawE (IntKind.wrap IntKind.i64 ((1 : Int) + amongZ k (3 : Int)))
                        (List.take (min (Int.toNat (IntKind.wrap IntKind.i64 ((1 : Int) + amongZ k (3 : Int)))) (List.length words))
                          (List.drop (0) (List.map (fun w => amongZ w (65536 : Int)) (List.take (Int.toNat (IntKind.wrap IntKind.i64 ((1 : Int) + amongZ k (3 : Int)))) words)))) ==
                      (7 : Int))
                    (Tree.ret
                      (AV.bool false
                          (gplE (IntKind.wrap IntKind.i64 ((1 : Int) + amongZ k (3 : Int)))
                              (List.take (min (Int.toNat (IntKind.wrap IntKind.i64 ((1 : Int) + amongZ k (3 : Int)))) (List.length words))
                                (List.drop (0) (List.map (fun w => amongZ w (65536 : Int)) (List.take (Int.toNat (IntKind.wrap IntKind.i64 ((1 : Int) + amongZ k (3 : Int)))) words)))) ==
                            (7 : Int)),
                        [some (Blk.mk (3) false false true (Data.ints IntKind.i64 words))]))
                    (Tree.ret (AV.bool true false, [some (Blk.mk (3) false false true (Data.ints IntKind.i64 words))])))
                  (Tree.br
                    (rawE (IntKind.wrap IntKind.i64 ((1 : Int) + amongZ k (3 : Int)))
                        (List.take (min (Int.toNat (IntKind.wrap IntKind.i64 ((1 : Int) + amongZ k (3 : Int)))) (List.length words))
                          (List.drop (0) (List.map (fun w => amongZ w (65536 : Int)) (List.take (Int.toNat (IntKind.wrap IntKind.i64 ((1 : Int) + amongZ k (3 : Int)))) words)))) ==
                      (0 : Int))
                    (Tree.br
                      (gplE (IntKind.wrap IntKind.i64 ((1 : Int) + amongZ k (3 : Int)))
                          (List.take (min (Int.toNat (IntKind.wrap IntKind.i64 ((1 : Int) + amongZ k (3 : Int)))) (List.length words))
                            (List.drop (0) (List.map (fun w => amongZ w (65536 : Int)) (List.take (Int.toNat (IntKind.wrap IntKind.i64 ((1 : Int) + amongZ k (3 : Int)))) words)))) ==
                        (0 : Int))
                      (Tree.br
                        (getV (IntKind.wrap IntKind.i64 ((1 : Int) + amongZ k (3 : Int)))
                            (List.take (min (Int.toNat (IntKind.wrap IntKind.i64 ((1 : Int) + amongZ k (3 : Int)))) (List.length words))
                              (List.drop (0) (List.map (fun w => amongZ w (65536 : Int)) (List.take (Int.toNat (IntKind.wrap IntKind.i64 ((1 : Int) + amongZ k (3 : Int)))) words)))) ==
                          gplV (IntKind.wrap IntKind.i64 ((1 : Int) + amongZ k (3 : Int)))
                            (List.take (min (Int.toNat (IntKind.wrap IntKind.i64 ((1 : Int) + amongZ k (3 : Int)))) (List.length words))
                              (List.drop (0) (List.map (fun w => amongZ w (65536 : Int)) (List.take (Int.toNat (IntKind.wrap IntKind.i64 ((1 : Int) + amongZ k (3 : Int)))) words)))))
                        (Tree.br
                          (decide
                            (getV (IntKind.wrap IntKind.i64 ((1 : Int) + amongZ k (3 : Int)))
                                (List.take (min (Int.toNat (IntKind.wrap IntKind.i64 ((1 : Int) + amongZ k (3 : Int)))) (List.length words))
                                  (List.drop (0) (List.map (fun w => amongZ w (65536 : Int)) (List.take (Int.toNat (IntKind.wrap IntKind.i64 ((1 : Int) + amongZ k (3 : Int)))) words)))) ≥
                              (0 : Int)))
                          (Tree.ret (AV.bool true true, [some (Blk.mk (3) false false true (Data.ints IntKind.i64 words))]))
                          (Tree.br (!decide (IntKind.wrap IntKind.u64 (IntKind.wrap IntKind.i64 ((16 : Int) * IntKind.wrap IntKind.i64 ((1 : Int) + amongZ k (3 : Int)))) < (0 : Int)))
                            (Tree.br
                              (IntKind.wrap IntKind.i64
                                  (gplV (IntKind.wrap IntKind.i64 ((1 : Int) + amongZ k (3 : Int)))
                                      (List.take (min (Int.toNat (IntKind.wrap IntKind.i64 ((1 : Int) + amongZ k (3 : Int)))) (List.length words))
                                        (List.drop (0) (List.map (fun w => amongZ w (65536 : Int)) (List.take (Int.toNat (IntKind.wrap IntKind.i64 ((1 : Int) + amongZ k (3 : Int)))) words)))) -
                                    getV (IntKind.wrap IntKind.i64 ((1 : Int) + amongZ k (3 : Int)))
                                      (List.take (min (Int.toNat (IntKind.wrap IntKind.i64 ((1 : Int) + amongZ k (3 : Int)))) (List.length words))
                                        (List.drop (0) (List.map (fun w => amongZ w (65536 : Int)) (List.take (Int.toNat (IntKind.wrap IntKind.i64 ((1 : Int) + amongZ k (3 : Int)))) words))))) ==
                                IntKind.wrap IntKind.i64 ((1 : Int) * (2 : Int) ^ min (Int.toNat (IntKind.wrap IntKind.u64 (IntKind.wrap IntKind.i64 ((16 : Int) * IntKind.wrap IntKind.i64 ((1 : Int) + amongZ k (3 : Int)))))) (64)))
                              (Tree.ret
                                (AV.bool false
                                    (decide
                                      (getV (IntKind.wrap IntKind.i64 ((1 : Int) + amongZ k (3 : Int)))
                                          (List.take (min (Int.toNat (IntKind.wrap IntKind.i64 ((1 : Int) + amongZ k (3 : Int)))) (List.length words))
                                            (List.drop (0) (List.map (fun w => amongZ w (65536 : Int)) (List.take (Int.toNat (IntKind.wrap IntKind.i64 ((1 : Int) + amongZ k (3 : Int)))) words)))) <
                                        (0 : Int))),
                                  [some (Blk.mk (3) false false true (Data.ints IntKind.i64 words))]))
                              (Tree.ret (AV.bool true false, [some (Blk.mk (3) false false true (Data.ints IntKind.i64 words))])))
                            Tree.fail))
                        (Tree.br (!decide (IntKind.wrap IntKind.u64 (IntKind.wrap IntKind.i64 ((16 : Int) * IntKind.wrap IntKind.i64 ((1 : Int) + amongZ k (3 : Int)))) < (0 : Int)))
                          (Tree.br
                            (IntKind.wrap IntKind.i64
                                (gplV (IntKind.wrap IntKind.i64 ((1 : Int) + amongZ k (3 : Int)))
                                    (List.take (min (Int.toNat (IntKind.wrap IntKind.i64 ((1 : Int) + amongZ k (3 : Int)))) (List.length words))
                                      (List.drop (0) (List.map (fun w => amongZ w (65536 : Int)) (List.take (Int.toNat (IntKind.wrap IntKind.i64 ((1 : Int) + amongZ k (3 : Int)))) words)))) -
                                  getV (IntKind.wrap IntKind.i64 ((1 : Int) + amongZ k (3 : Int)))
                                    (List.take (min (Int.toNat (IntKind.wrap IntKind.i64 ((1 : Int) + amongZ k (3 : Int)))) (List.length words))
                                      (List.drop (0) (List.map (fun w => amongZ w (65536 : Int)) (List.take (Int.toNat (IntKind.wrap IntKind.i64 ((1 : Int) + amongZ k (3 : Int)))) words))))) ==
                              IntKind.wrap IntKind.i64 ((1 : Int) * (2 : Int) ^ min (Int.toNat (IntKind.wrap IntKind.u64 (IntKind.wrap IntKind.i64 ((16 : Int) * IntKind.wrap IntKind.i64 ((1 : Int) + amongZ k (3 : Int)))))) (64)))
                            (Tree.ret
                              (AV.bool false
                                  (decide
                                    (getV (IntKind.wrap IntKind.i64 ((1 : Int) + amongZ k (3 : Int)))
                                        (List.take (min (Int.toNat (IntKind.wrap IntKind.i64 ((1 : Int) + amongZ k (3 : Int)))) (List.length words))
                                          (List.drop (0) (List.map (fun w => amongZ w (65536 : Int)) (List.take (Int.toNat (IntKind.wrap IntKind.i64 ((1 : Int) + amongZ k (3 : Int)))) words)))) <
                                      (0 : Int))),
                                [some (Blk.mk (3) false false true (Data.ints IntKind.i64 words))]))
                            (Tree.ret (AV.bool true false, [some (Blk.mk (3) false false true (Data.ints IntKind.i64 words))])))
                          Tree.fail))
                      (Tree.ret (AV.bool true false, [some (Blk.mk (3) false false true (Data.ints IntKind.i64 words))])))
                    (Tree.ret (AV.bool true false, [some (Blk.mk (3) false false true (Data.ints IntKind.i64 words))])))))))))) := by kernel_rfl
set_option maxRecDepth 100000 in
theorem gPackSigns (k : Int) (zwords : Bool) (words : List Int) (hw : words.length ≤ 9223372036854775807 ∧ (zwords = true → words = [])) : (Tree.chk (True ∧ True)
    (Tree.br false (Tree.ret (AV.bool true false, [some (Blk.mk (3) false false true (Data.ints IntKind.i64 words))]))
      (Tree.chk ((True ∧ True ∧ True) ∧ (1 : Int) ≤ (3 : Int) ∧ (3 : Int) ≤ (9223372036854775807 : Int))
        (Tree.chk
          (St.le
            (St.mk
              [AV.int IntKind.i64 false (IntKind.wrap IntKind.i64 ((1 : Int) + amongZ k (3 : Int))), AV.sl zwords (Ref.mk (0) (0) (0) (0)) false (List.length words) Cap.any, AV.junk, AV.junk, AV.junk,
                AV.sl false (Ref.mk (1) (0) (0) (0)) true (0) Cap.own, AV.int IntKind.i64 true (0 : Int), AV.junk, AV.junk, AV.junk, AV.junk, AV.junk, AV.junk, AV.junk, AV.junk, AV.junk, AV.junk,
                AV.junk, AV.junk, AV.junk, AV.junk, AV.junk, AV.junk, AV.junk, AV.junk, AV.junk, AV.junk, AV.junk, AV.junk, AV.junk, AV.junk, AV.junk, AV.junk, AV.junk, AV.junk, AV.junk, AV.junk, AV.junk, AV.junk, AV.junk, AV.junk, AV.junk,
                AV.junk, AV.junk, AV.junk, AV.junk, AV.junk, AV.junk, AV.junk, AV.junk, AV.junk, AV.junk, AV.junk, AV.junk, AV.junk, AV.junk, AV.junk, AV.junk, AV.junk, AV.junk, AV.junk, AV.junk, AV.junk, AV.junk, AV.junk, AV.junk, AV.junk,
                AV.junk, AV.junk, AV.junk, AV.junk, AV.junk, AV.junk, AV.junk, AV.junk, AV.junk, AV.junk, AV.junk, AV.junk, AV.junk, AV.junk, AV.junk, AV.junk, AV.junk, AV.junk, AV.junk, AV.junk]
              [some (Blk.mk (3) false false true (Data.ints IntKind.i64 words)), some (Blk.mk (3) true false true (Data.cells []))])
            (St.mk
              [AV.int IntKind.i64 false (IntKind.wrap IntKind.i64 ((1 : Int) + amongZ k (3 : Int))), AV.sl zwords (Ref.mk (0) (0) (0) (0)) false (List.length words) Cap.any, AV.junk, AV.junk, AV.junk,
                AV.sl false (Ref.mk (1) (0) (0) (0)) false (0) Cap.own, AV.int IntKind.i64 false (0 : Int), AV.junk, AV.junk, AV.junk, AV.junk, AV.junk, AV.junk, AV.junk, AV.junk, AV.junk, AV.junk,
                AV.junk, AV.junk, AV.junk, AV.junk, AV.junk, AV.junk, AV.junk, AV.junk, AV.junk, AV.junk, AV.junk, AV.junk, AV.junk, AV.junk, AV.junk, AV.junk, AV.junk, AV.junk, AV.junk, AV.junk, AV.junk, AV.junk, AV.junk, AV.junk, AV.junk,
                AV.junk, AV.junk, AV.junk, AV.junk, AV.junk, AV.junk, AV.junk, AV.junk, AV.junk, AV.junk, AV.junk, AV.junk, AV.junk, AV.junk, AV.junk, AV.junk, AV.junk, AV.junk, AV.junk, AV.junk, AV.junk, AV.junk, AV.junk, AV.junk, AV.junk,
                AV.junk, AV.junk, AV.junk, AV.junk, AV.junk, AV.junk, AV.junk, AV.junk, AV.junk, AV.junk, AV.junk, AV.junk, AV.junk, AV.junk, AV.junk, AV.junk, AV.junk, AV.junk, AV.junk, AV.junk]
              [some (Blk.mk (3) false false true (Data.ints IntKind.i64 words)),
                some (Blk.mk (3) true false true (Data.ints IntKind.i64 (List.map (fun w => amongZ w (65536 : Int)) (List.take (Int.toNat (0 : Int)) words))))]))
          (Tree.chk (okPackSigns_0 (XPackSigns_0.mk (IntKind.wrap IntKind.i64 ((1 : Int) + amongZ k (3 : Int))) zwords words (Int.toNat (0 : Int))))
            (Tree.chk
              ((True ∧
                  0 + min (Int.toNat (IntKind.wrap IntKind.i64 ((1 : Int) + amongZ k (3 : Int)))) (List.length words) ≤
                      List.length (List.map (fun w => amongZ w (65536 : Int)) (List.take (Int.toNat (IntKind.wrap IntKind.i64 ((1 : Int) + amongZ k (3 : Int)))) words)) ∧
                    True) ∧
                short
                    (List.take (min (Int.toNat (IntKind.wrap IntKind.i64 ((1 : Int) + amongZ k (3 : Int)))) (List.length words))
                      (List.drop (0) (List.map (fun w => amongZ w (65536 : Int)) (List.take (Int.toNat (IntKind.wrap IntKind.i64 ((1 : Int) + amongZ k (3 : Int)))) words)))) ∧
                  (false = true →
                    List.take (min (Int.toNat (IntKind.wrap IntKind.i64 ((1 : Int) + amongZ k (3 : Int)))) (List.length words))
                        (List.drop (0) (List.map (fun w => amongZ w (65536 : Int)) (List.take (Int.toNat (IntKind.wrap IntKind.i64 ((1 : Int) + amongZ k (3 : Int)))) words))) =
                      []))
              (Tree.chk
                ((True ∧
                    0 + min (Int.toNat (IntKind.wrap IntKind.i64 ((1 : Int) + amongZ k (3 : Int)))) (List.length words) ≤
                        List.length (List.map (fun w => amongZ w (65536 : Int)) (List.take (Int.toNat (IntKind.wrap IntKind.i64 ((1 : Int) + amongZ k (3 : Int)))) words)) ∧
                      True) ∧
                  short
                      (List.take (min (Int.toNat (IntKind.wrap IntKind.i64 ((1 : Int) + amongZ k (3 : Int)))) (List.length words))
                        (List.drop (0) (List.map (fun w => amongZ w (65536 : Int)) (List.take (Int.toNat (IntKind.wrap IntKind.i64 ((1 : Int) + amongZ k (3 : Int)))) words)))) ∧
                    (false = true →
                      List.take (min (Int.toNat (IntKind.wrap IntKind.i64 ((1 : Int) + amongZ k (3 : Int)))) (List.length words))
                          (List.drop (0) (List.map (fun w => amongZ w (65536 : Int)) (List.take (Int.toNat (IntKind.wrap IntKind.i64 ((1 : Int) + amongZ k (3 : Int)))) words))) =
                        []))
                (Tree.br (decide ((((min (Int.toNat (IntKind.wrap IntKind.i64 ((1 : Int) + amongZ k (3 : Int)))) (List.length words)) : Nat) : Int) < IntKind.wrap IntKind.i64 ((1 : Int) + amongZ k (3 : Int))))
                  (Tree.br
                    (rawE (IntKind.wrap IntKind.i64 ((1 : Int) + amongZ k (3 : Int)))
                        (List.take (min (Int.toNat (IntKind.wrap IntKind.i64 ((1 : Int) + amongZ k (3 : Int)))) (List.length words))
                          (List.drop (0) (List.map (fun w => amongZ w (65536 : Int)) (List.take (Int.toNat (IntKind.wrap IntKind.i64 ((1 : Int) + amongZ k (3 : Int)))) words)))) ==
                      (7 : Int))
                    (Tree.ret
                      (AV.bool false
                          (gplE (IntKind.wrap IntKind.i64 ((1 : Int) + amongZ k (3 : Int)))
                              (List.take (min (Int.toNat (IntKind.wrap IntKind.i64 ((1 : Int) + amongZ k (3 : Int)))) (List.length words))
                                (List.drop (0) (List.map (fun w => amongZ w (65536 : Int)) (List.take (Int.toNat (IntKind.wrap IntKind.i64 ((1 : Int) + amongZ k (3 : Int)))) words)))) ==
                            (7 : Int)),
                        [some (Blk.mk (3) false false true (Data.ints IntKind.i64 words))]))
                    (Tree.ret (AV.bool true false, [some (Blk.mk (3) false false true (Data.ints IntKind.i64 words))])))
                  (Tree.br
                    (rawE (IntKind.wrap IntKind.i64 ((1 : Int) + amongZ k (3 : Int)))
                        (List.take (min (Int.toNat (IntKind.wrap IntKind.i64 ((1 : Int) + amongZ k (3 : Int)))) (List.length words))
                          (List.drop (0) (List.map (fun w => amongZ w (65536 : Int)) (List.take (Int.toNat (IntKind.wrap IntKind.i64 ((1 : Int) + amongZ k (3 : Int)))) words)))) ==
                      (0 : Int))
                    (Tree.br
                      (gplE (IntKind.wrap IntKind.i64 ((1 : Int) + amongZ k (3 : Int)))
                          (List.take (min (Int.toNat (IntKind.wrap IntKind.i64 ((1 : Int) + amongZ k (3 : Int)))) (List.length words))
                            (List.drop (0) (List.map (fun w => amongZ w (65536 : Int)) (List.take (Int.toNat (IntKind.wrap IntKind.i64 ((1 : Int) + amongZ k (3 : Int)))) words)))) ==
                        (0 : Int))
                      (Tree.br
                        (getV (IntKind.wrap IntKind.i64 ((1 : Int) + amongZ k (3 : Int)))
                            (List.take (min (Int.toNat (IntKind.wrap IntKind.i64 ((1 : Int) + amongZ k (3 : Int)))) (List.length words))
                              (List.drop (0) (List.map (fun w => amongZ w (65536 : Int)) (List.take (Int.toNat (IntKind.wrap IntKind.i64 ((1 : Int) + amongZ k (3 : Int)))) words)))) ==
                          gplV (IntKind.wrap IntKind.i64 ((1 : Int) + amongZ k (3 : Int)))
                            (List.take (min (Int.toNat (IntKind.wrap IntKind.i64 ((1 : Int) + amongZ k (3 : Int)))) (List.length words))
                              (List.drop (0) (List.map (fun w => amongZ w (65536 : Int)) (List.take (Int.toNat (IntKind.wrap IntKind.i64 ((1 : Int) + amongZ k (3 : Int)))) words)))))
                        (Tree.br
                          (decide
                            (getV (IntKind.wrap IntKind.i64 ((1 : Int) + amongZ k (3 : Int)))
                                (List.take (min (Int.toNat (IntKind.wrap IntKind.i64 ((1 : Int) + amongZ k (3 : Int)))) (List.length words))
                                  (List.drop (0) (List.map (fun w => amongZ w (65536 : Int)) (List.take (Int.toNat (IntKind.wrap IntKind.i64 ((1 : Int) + amongZ k (3 : Int)))) words)))) ≥
                              (0 : Int)))
                          (Tree.ret (AV.bool true true, [some (Blk.mk (3) false false true (Data.ints IntKind.i64 words))]))
                          (Tree.br (!decide (IntKind.wrap IntKind.u64 (IntKind.wrap IntKind.i64 ((16 : Int) * IntKind.wrap IntKind.i64 ((1 : Int) + amongZ k (3 : Int)))) < (0 : Int)))
                            (Tree.br
                              (IntKind.wrap IntKind.i64
                                  (gplV (IntKind.wrap IntKind.i64 ((1 : Int) + amongZ k (3 : Int)))
                                      (List.take (min (Int.toNat (IntKind.wrap IntKind.i64 ((1 : Int) + amongZ k (3 : Int)))) (List.length words))
                                        (List.drop (0) (List.map (fun w => amongZ w (65536 : Int)) (List.take (Int.toNat (IntKind.wrap IntKind.i64 ((1 : Int) + amongZ k (3 : Int)))) words)))) -
                                    getV (IntKind.wrap IntKind.i64 ((1 : Int) + amongZ k (3 : Int)))
                                      (List.take (min (Int.toNat (IntKind.wrap IntKind.i64 ((1 : Int) + amongZ k (3 : Int)))) (List.length words))
                                        (List.drop (0) (List.map (fun w => amongZ w (65536 : Int)) (List.take (Int.toNat (IntKind.wrap IntKind.i64 ((1 : Int) + amongZ k (3 : Int)))) words))))) ==
                                IntKind.wrap IntKind.i64 ((1 : Int) * (2 : Int) ^ min (Int.toNat (IntKind.wrap IntKind.u64 (IntKind.wrap IntKind.i64 ((16 : Int) * IntKind.wrap IntKind.i64 ((1 : Int) + amongZ k (3 : Int)))))) (64)))
                              (Tree.ret
                                (AV.bool false
                                    (decide
                                      (getV (IntKind.wrap IntKind.i64 ((1 : Int) + amongZ k (3 : Int)))
                                          (List.take (min (Int.toNat (IntKind.wrap IntKind.i64 ((1 : Int) + amongZ k (3 : Int)))) (List.length words))
                                            (List.drop (0) (List.map (fun w => amongZ w (65536 : Int)) (List.take (Int.toNat (IntKind.wrap IntKind.i64 ((1 : Int) + amongZ k (3 : Int)))) words)))) <
                                        (0 : Int))),
                                  [some (Blk.mk (3) false false true (Data.ints IntKind.i64 words))]))
                              (Tree.ret (AV.bool true false, [some (Blk.mk (3) false false true (Data.ints IntKind.i64 words))])))
                            Tree.fail))
                        (Tree.br (!decide (IntKind.wrap IntKind.u64 (IntKind.wrap IntKind.i64 ((16 : Int) * IntKind.wrap IntKind.i64 ((1 : Int) + amongZ k (3 : Int)))) < (0 : Int)))
                          (Tree.br
                            (IntKind.wrap IntKind.i64
                                (gplV (IntKind.wrap IntKind.i64 ((1 : Int) + amongZ k (3 : Int)))
                                    (List.take (min (Int.toNat (IntKind.wrap IntKind.i64 ((1 : Int) + amongZ k (3 : Int)))) (List.length words))
                                      (List.drop (0) (List.map (fun w => amongZ w (65536 : Int)) (List.take (Int.toNat (IntKind.wrap IntKind.i64 ((1 : Int) + amongZ k (3 : Int)))) words)))) -
                                  getV (IntKind.wrap IntKind.i64 ((1 : Int) + amongZ k (3 : Int)))
                                    (List.take (min (Int.toNat (IntKind.wrap IntKind.i64 ((1 : Int) + amongZ k (3 : Int)))) (List.length words))
                                      (List.drop (0) (List.map (fun w => amongZ w (65536 : Int)) (List.take (Int.toNat (IntKind.wrap IntKind.i64 ((1 : Int) + amongZ k (3 : Int)))) words))))) ==
                              IntKind.wrap IntKind.i64 ((1 : Int) * (2 : Int) ^ min (Int.toNat (IntKind.wrap IntKind.u64 (IntKind.wrap IntKind.i64 ((16 : Int) * IntKind.wrap IntKind.i64 ((1 : Int) + amongZ k (3 : Int)))))) (64)))
                            (Tree.ret
                              (AV.bool false
                                  (decide
                                    (getV (IntKind.wrap IntKind.i64 ((1 : Int) + amongZ k (3 : Int)))
                                        (List.take (min (Int.toNat (IntKind.wrap IntKind.i64 ((1 : Int) + amongZ k (3 : Int)))) (List.length words))
                                          (List.drop (0) (List.map (fun w => amongZ w (65536 : Int)) (List.take (Int.toNat (IntKind.wrap IntKind.i64 ((1 : Int) + amongZ k (3 : Int)))) words)))) <
                                      (0 : Int))),
                                [some (Blk.mk (3) false false true (Data.ints IntKind.i64 words))]))
                            (Tree.ret (AV.bool true false, [some (Blk.mk (3) false false true (Data.ints IntKind.i64 words))])))
                          Tree.fail))
                      (Tree.ret (AV.bool true false, [some (Blk.mk (3) false false true (Data.ints IntKind.i64 words))])))
                    (Tree.ret (AV.bool true false, [some (Blk.mk (3) false false true (Data.ints IntKind.i64 words))])))))))))) : Tree (AV × Mem)).GivesP (.bool false true) ([some ⟨3, false, false, true, .ints .i64 words⟩]) := by
  obtain ⟨hs, hz⟩ := hw
  have hk := sgK (a := k)
  generalize IntKind.wrap IntKind.i64 (1 + amongZ k 3) = K at *
  have hl : (List.map (fun w => amongZ w 65536) (List.take K.toNat words)).length = min K.toNat words.length := by simp
  have hb := sgL_ok (List.take K.toNat words)
  have e : List.take (min K.toNat words.length) (List.drop 0 (List.map (fun w => amongZ w 65536) (List.take K.toNat words))) = List.map (fun w => amongZ w 65536) (List.take K.toNat words) := by rw [List.drop_zero, List.take_of_length_le (by omega)]
  simp only [e]
  generalize List.map (fun w => amongZ w 65536) (List.take K.toNat words) = L at *
  have hf := sg_facts hk.1 hk.2 hb
  have hP := sgP hk.1 hk.2
  rw [hl] at hf
  have hf1 := hf.1
  have hf2 := hf.2
  clear hf hb
  simp only [hP.1, hP.2]
  refine Tree.GivesP.chk (by first | (simp only [and_self]; done) | ((repeat' with_reducible refine And.intro ?_ ?_) <;> first | trivial | omega | (simp only [short]; omega) | (intro hh; cases hh))) ?_
  refine Tree.GivesP.br (fun h1 => ?_) (fun h1 => ?_)
  · (try simp only [decide_eq_true_eq, decide_eq_false_iff_not, Bool.not_eq_true', Bool.not_eq_false', beq_iff_eq, beq_eq_false_iff_ne, Int.not_lt, Int.not_le, ge_iff_le, gt_iff_lt, ne_eq, Bool.false_eq_true, Bool.true_eq_false, not_true_eq_false, not_false_eq_true, Bool.and_eq_true, Bool.not_eq_eq_eq_not, Bool.not_true, Bool.not_false, bne_iff_ne, bne_eq_false_iff_eq, Int.toNat_natCast, Nat.mul_one, Nat.add_zero, Nat.zero_add, List.take_length, List.drop_zero] at h1)
    all_goals
      refine Tree.GivesP.ret ?_ ?_
      · first | (simp only [AV.le]; done) | ((try simp only [AV.le, decide_eq_true_eq, beq_iff_eq]); first | (exfalso; omega) | omega | (simp_all; done))
      · simp only [AV.leL, AV.le, Mem.le, Mem.leP, Blk.le, Blk.pad, Data.le, Data.size, Cap.le, and_true, true_and, and_self, true_implies, implies_true, imp_self, List.length_nil]
  · (try simp only [decide_eq_true_eq, decide_eq_false_iff_not, Bool.not_eq_true', Bool.not_eq_false', beq_iff_eq, beq_eq_false_iff_ne, Int.not_lt, Int.not_le, ge_iff_le, gt_iff_lt, ne_eq, Bool.false_eq_true, Bool.true_eq_false, not_true_eq_false, not_false_eq_true, Bool.and_eq_true, Bool.not_eq_eq_eq_not, Bool.not_true, Bool.not_false, bne_iff_ne, bne_eq_false_iff_eq, Int.toNat_natCast, Nat.mul_one, Nat.add_zero, Nat.zero_add, List.take_length, List.drop_zero] at h1)
    all_goals
      refine Tree.GivesP.chk (by first | (simp only [and_self]; done) | ((repeat' with_reducible refine And.intro ?_ ?_) <;> first | trivial | omega | (simp only [short]; omega) | (intro hh; cases hh))) ?_
      refine Tree.GivesP.chk (by first | (simp only [and_self]; done) | (constructor <;> simp only [hdPackSigns_0, Int.toNat_zero, Int.cast_ofNat_Int, AV.leL, AV.le, Mem.le, Mem.leP, Blk.le, Blk.pad, Data.le, Data.size, Cap.le, and_true, true_and, and_self, true_implies, implies_true, imp_self, List.length_nil] <;> (try simp only [List.take_zero]) <;> (try rfl))) ?_
      refine Tree.GivesP.chk (by first | (simp only [and_self]; done) | (exact ⟨hk.1, hk.2, hs, hz, Nat.zero_le _, Nat.zero_le _⟩)) ?_
      refine Tree.GivesP.chk (by first | (simp only [and_self]; done) | ((repeat' with_reducible refine And.intro ?_ ?_) <;> first | trivial | omega | (simp only [short]; omega) | (intro hh; cases hh))) ?_
      refine Tree.GivesP.chk (by first | (simp only [and_self]; done) | ((repeat' with_reducible refine And.intro ?_ ?_) <;> first | trivial | omega | (simp only [short]; omega) | (intro hh; cases hh))) ?_
      refine Tree.GivesP.br (fun h2 => ?_) (fun h2 => ?_)
      · (try simp only [decide_eq_true_eq, decide_eq_false_iff_not, Bool.not_eq_true', Bool.not_eq_false', beq_iff_eq, beq_eq_false_iff_ne, Int.not_lt, Int.not_le, ge_iff_le, gt_iff_lt, ne_eq, Bool.false_eq_true, Bool.true_eq_false, not_true_eq_false, not_false_eq_true, Bool.and_eq_true, Bool.not_eq_eq_eq_not, Bool.not_true, Bool.not_false, bne_iff_ne, bne_eq_false_iff_eq, Int.toNat_natCast, Nat.mul_one, Nat.add_zero, Nat.zero_add, List.take_length, List.drop_zero] at h2)
        all_goals
          refine Tree.GivesP.br (fun h3 => ?_) (fun h3 => ?_)
          · (try simp only [decide_eq_true_eq, decide_eq_false_iff_not, Bool.not_eq_true', Bool.not_eq_false', beq_iff_eq, beq_eq_false_iff_ne, Int.not_lt, Int.not_le, ge_iff_le, gt_iff_lt, ne_eq, Bool.false_eq_true, Bool.true_eq_false, not_true_eq_false, not_false_eq_true, Bool.and_eq_true, Bool.not_eq_eq_eq_not, Bool.not_true, Bool.not_false, bne_iff_ne, bne_eq_false_iff_eq, Int.toNat_natCast, Nat.mul_one, Nat.add_zero, Nat.zero_add, List.take_length, List.drop_zero] at h3)
            all_goals
              refine Tree.GivesP.ret ?_ ?_
              · first | (simp only [AV.le]; done) | ((try simp only [AV.le, decide_eq_true_eq, beq_iff_eq]); first | (exfalso; omega) | omega | (simp_all; done))
              · simp only [AV.leL, AV.le, Mem.le, Mem.leP, Blk.le, Blk.pad, Data.le, Data.size, Cap.le, and_true, true_and, and_self, true_implies, implies_true, imp_self, List.length_nil]
          · (try simp only [decide_eq_true_eq, decide_eq_false_iff_not, Bool.not_eq_true', Bool.not_eq_false', beq_iff_eq, beq_eq_false_iff_ne, Int.not_lt, Int.not_le, ge_iff_le, gt_iff_lt, ne_eq, Bool.false_eq_true, Bool.true_eq_false, not_true_eq_false, not_false_eq_true, Bool.and_eq_true, Bool.not_eq_eq_eq_not, Bool.not_true, Bool.not_false, bne_iff_ne, bne_eq_false_iff_eq, Int.toNat_natCast, Nat.mul_one, Nat.add_zero, Nat.zero_add, List.take_length, List.drop_zero] at h3)
            all_goals
              refine Tree.GivesP.ret ?_ ?_
              · first | (simp only [AV.le]; done) | ((try simp only [AV.le, decide_eq_true_eq, beq_iff_eq]); first | (exfalso; omega) | omega | (simp_all; done))
              · simp only [AV.leL, AV.le, Mem.le, Mem.leP, Blk.le, Blk.pad, Data.le, Data.size, Cap.le, and_true, true_and, and_self, true_implies, implies_true, imp_self, List.length_nil]
      · (try simp only [decide_eq_true_eq, decide_eq_false_iff_not, Bool.not_eq_true', Bool.not_eq_false', beq_iff_eq, beq_eq_false_iff_ne, Int.not_lt, Int.not_le, ge_iff_le, gt_iff_lt, ne_eq, Bool.false_eq_true, Bool.true_eq_false, not_true_eq_false, not_false_eq_true, Bool.and_eq_true, Bool.not_eq_eq_eq_not, Bool.not_true, Bool.not_false, bne_iff_ne, bne_eq_false_iff_eq, Int.toNat_natCast, Nat.mul_one, Nat.add_zero, Nat.zero_add, List.take_length, List.drop_zero] at h2)
        all_goals
          refine Tree.GivesP.br (fun h3 => ?_) (fun h3 => ?_)
          · (try simp only [decide_eq_true_eq, decide_eq_false_iff_not, Bool.not_eq_true', Bool.not_eq_false', beq_iff_eq, beq_eq_false_iff_ne, Int.not_lt, Int.not_le, ge_iff_le, gt_iff_lt, ne_eq, Bool.false_eq_true, Bool.true_eq_false, not_true_eq_false, not_false_eq_true, Bool.and_eq_true, Bool.not_eq_eq_eq_not, Bool.not_true, Bool.not_false, bne_iff_ne, bne_eq_false_iff_eq, Int.toNat_natCast, Nat.mul_one, Nat.add_zero, Nat.zero_add, List.take_length, List.drop_zero] at h3)
            all_goals
              refine Tree.GivesP.br (fun h4 => ?_) (fun h4 => ?_)
              · (try simp only [decide_eq_true_eq, decide_eq_false_iff_not, Bool.not_eq_true', Bool.not_eq_false', beq_iff_eq, beq_eq_false_iff_ne, Int.not_lt, Int.not_le, ge_iff_le, gt_iff_lt, ne_eq, Bool.false_eq_true, Bool.true_eq_false, not_true_eq_false, not_false_eq_true, Bool.and_eq_true, Bool.not_eq_eq_eq_not, Bool.not_true, Bool.not_false, bne_iff_ne, bne_eq_false_iff_eq, Int.toNat_natCast, Nat.mul_one, Nat.add_zero, Nat.zero_add, List.take_length, List.drop_zero] at h4)
                all_goals
                  refine Tree.GivesP.br (fun h5 => ?_) (fun h5 => ?_)
                  · (try simp only [decide_eq_true_eq, decide_eq_false_iff_not, Bool.not_eq_true', Bool.not_eq_false', beq_iff_eq, beq_eq_false_iff_ne, Int.not_lt, Int.not_le, ge_iff_le, gt_iff_lt, ne_eq, Bool.false_eq_true, Bool.true_eq_false, not_true_eq_false, not_false_eq_true, Bool.and_eq_true, Bool.not_eq_eq_eq_not, Bool.not_true, Bool.not_false, bne_iff_ne, bne_eq_false_iff_eq, Int.toNat_natCast, Nat.mul_one, Nat.add_zero, Nat.zero_add, List.take_length, List.drop_zero] at h5)
                    all_goals
                      refine Tree.GivesP.br (fun h6 => ?_) (fun h6 => ?_)
                      · (try simp only [decide_eq_true_eq, decide_eq_false_iff_not, Bool.not_eq_true', Bool.not_eq_false', beq_iff_eq, beq_eq_false_iff_ne, Int.not_lt, Int.not_le, ge_iff_le, gt_iff_lt, ne_eq, Bool.false_eq_true, Bool.true_eq_false, not_true_eq_false, not_false_eq_true, Bool.and_eq_true, Bool.not_eq_eq_eq_not, Bool.not_true, Bool.not_false, bne_iff_ne, bne_eq_false_iff_eq, Int.toNat_natCast, Nat.mul_one, Nat.add_zero, Nat.zero_add, List.take_length, List.drop_zero] at h6)
                        all_goals
                          refine Tree.GivesP.ret ?_ ?_
                          · first | (simp only [AV.le]; done) | ((try simp only [AV.le, decide_eq_true_eq, beq_iff_eq]); first | (exfalso; omega) | omega | (simp_all; done))
                          · simp only [AV.leL, AV.le, Mem.le, Mem.leP, Blk.le, Blk.pad, Data.le, Data.size, Cap.le, and_true, true_and, and_self, true_implies, implies_true, imp_self, List.length_nil]
                      · (try simp only [decide_eq_true_eq, decide_eq_false_iff_not, Bool.not_eq_true', Bool.not_eq_false', beq_iff_eq, beq_eq_false_iff_ne, Int.not_lt, Int.not_le, ge_iff_le, gt_iff_lt, ne_eq, Bool.false_eq_true, Bool.true_eq_false, not_true_eq_false, not_false_eq_true, Bool.and_eq_true, Bool.not_eq_eq_eq_not, Bool.not_true, Bool.not_false, bne_iff_ne, bne_eq_false_iff_eq, Int.toNat_natCast, Nat.mul_one, Nat.add_zero, Nat.zero_add, List.take_length, List.drop_zero] at h6)
                        all_goals
                          refine Tree.GivesP.br (fun h7 => ?_) (fun h7 => ?_)
                          · (try simp only [decide_eq_true_eq, decide_eq_false_iff_not, Bool.not_eq_true', Bool.not_eq_false', beq_iff_eq, beq_eq_false_iff_ne, Int.not_lt, Int.not_le, ge_iff_le, gt_iff_lt, ne_eq, Bool.false_eq_true, Bool.true_eq_false, not_true_eq_false, not_false_eq_true, Bool.and_eq_true, Bool.not_eq_eq_eq_not, Bool.not_true, Bool.not_false, bne_iff_ne, bne_eq_false_iff_eq, Int.toNat_natCast, Nat.mul_one, Nat.add_zero, Nat.zero_add, List.take_length, List.drop_zero] at h7)
                            all_goals
                              refine Tree.GivesP.br (fun h8 => ?_) (fun h8 => ?_)
                              · (try simp only [decide_eq_true_eq, decide_eq_false_iff_not, Bool.not_eq_true', Bool.not_eq_false', beq_iff_eq, beq_eq_false_iff_ne, Int.not_lt, Int.not_le, ge_iff_le, gt_iff_lt, ne_eq, Bool.false_eq_true, Bool.true_eq_false, not_true_eq_false, not_false_eq_true, Bool.and_eq_true, Bool.not_eq_eq_eq_not, Bool.not_true, Bool.not_false, bne_iff_ne, bne_eq_false_iff_eq, Int.toNat_natCast, Nat.mul_one, Nat.add_zero, Nat.zero_add, List.take_length, List.drop_zero] at h8)
                                all_goals
                                  refine Tree.GivesP.ret ?_ ?_
                                  · first | (simp only [AV.le]; done) | ((try simp only [AV.le, decide_eq_true_eq, beq_iff_eq]); first | (exfalso; omega) | omega | (simp_all; done))
                                  · simp only [AV.leL, AV.le, Mem.le, Mem.leP, Blk.le, Blk.pad, Data.le, Data.size, Cap.le, and_true, true_and, and_self, true_implies, implies_true, imp_self, List.length_nil]
                              · (try simp only [decide_eq_true_eq, decide_eq_false_iff_not, Bool.not_eq_true', Bool.not_eq_false', beq_iff_eq, beq_eq_false_iff_ne, Int.not_lt, Int.not_le, ge_iff_le, gt_iff_lt, ne_eq, Bool.false_eq_true, Bool.true_eq_false, not_true_eq_false, not_false_eq_true, Bool.and_eq_true, Bool.not_eq_eq_eq_not, Bool.not_true, Bool.not_false, bne_iff_ne, bne_eq_false_iff_eq, Int.toNat_natCast, Nat.mul_one, Nat.add_zero, Nat.zero_add, List.take_length, List.drop_zero] at h8)
                                all_goals
                                  refine Tree.GivesP.ret ?_ ?_
                                  · first | (simp only [AV.le]; done) | ((try simp only [AV.le, decide_eq_true_eq, beq_iff_eq]); first | (exfalso; omega) | omega | (simp_all; done))
                                  · simp only [AV.leL, AV.le, Mem.le, Mem.leP, Blk.le, Blk.pad, Data.le, Data.size, Cap.le, and_true, true_and, and_self, true_implies, implies_true, imp_self, List.length_nil]
                          · (try simp only [decide_eq_true_eq, decide_eq_false_iff_not, Bool.not_eq_true', Bool.not_eq_false', beq_iff_eq, beq_eq_false_iff_ne, Int.not_lt, Int.not_le, ge_iff_le, gt_iff_lt, ne_eq, Bool.false_eq_true, Bool.true_eq_false, not_true_eq_false, not_false_eq_true, Bool.and_eq_true, Bool.not_eq_eq_eq_not, Bool.not_true, Bool.not_false, bne_iff_ne, bne_eq_false_iff_eq, Int.toNat_natCast, Nat.mul_one, Nat.add_zero, Nat.zero_add, List.take_length, List.drop_zero] at h7)
                            all_goals
                              exfalso
                              omega
                  · (try simp only [decide_eq_true_eq, decide_eq_false_iff_not, Bool.not_eq_true', Bool.not_eq_false', beq_iff_eq, beq_eq_false_iff_ne, Int.not_lt, Int.not_le, ge_iff_le, gt_iff_lt, ne_eq, Bool.false_eq_true, Bool.true_eq_false, not_true_eq_false, not_false_eq_true, Bool.and_eq_true, Bool.not_eq_eq_eq_not, Bool.not_true, Bool.not_false, bne_iff_ne, bne_eq_false_iff_eq, Int.toNat_natCast, Nat.mul_one, Nat.add_zero, Nat.zero_add, List.take_length, List.drop_zero] at h5)
                    all_goals
                      refine Tree.GivesP.br (fun h6 => ?_) (fun h6 => ?_)
                      · (try simp only [decide_eq_true_eq, decide_eq_false_iff_not, Bool.not_eq_true', Bool.not_eq_false', beq_iff_eq, beq_eq_false_iff_ne, Int.not_lt, Int.not_le, ge_iff_le, gt_iff_lt, ne_eq, Bool.false_eq_true, Bool.true_eq_false, not_true_eq_false, not_false_eq_true, Bool.and_eq_true, Bool.not_eq_eq_eq_not, Bool.not_true, Bool.not_false, bne_iff_ne, bne_eq_false_iff_eq, Int.toNat_natCast, Nat.mul_one, Nat.add_zero, Nat.zero_add, List.take_length, List.drop_zero] at h6)
                        all_goals
                          refine Tree.GivesP.br (fun h7 => ?_) (fun h7 => ?_)
                          · (try simp only [decide_eq_true_eq, decide_eq_false_iff_not, Bool.not_eq_true', Bool.not_eq_false', beq_iff_eq, beq_eq_false_iff_ne, Int.not_lt, Int.not_le, ge_iff_le, gt_iff_lt, ne_eq, Bool.false_eq_true, Bool.true_eq_false, not_true_eq_false, not_false_eq_true, Bool.and_eq_true, Bool.not_eq_eq_eq_not, Bool.not_true, Bool.not_false, bne_iff_ne, bne_eq_false_iff_eq, Int.toNat_natCast, Nat.mul_one, Nat.add_zero, Nat.zero_add, List.take_length, List.drop_zero] at h7)
                            all_goals
                              refine Tree.GivesP.ret ?_ ?_
                              · first | (simp only [AV.le]; done) | ((try simp only [AV.le, decide_eq_true_eq, beq_iff_eq]); first | (exfalso; omega) | omega | (simp_all; done))
                              · simp only [AV.leL, AV.le, Mem.le, Mem.leP, Blk.le, Blk.pad, Data.le, Data.size, Cap.le, and_true, true_and, and_self, true_implies, implies_true, imp_self, List.length_nil]
                          · (try simp only [decide_eq_true_eq, decide_eq_false_iff_not, Bool.not_eq_true', Bool.not_eq_false', beq_iff_eq, beq_eq_false_iff_ne, Int.not_lt, Int.not_le, ge_iff_le, gt_iff_lt, ne_eq, Bool.false_eq_true, Bool.true_eq_false, not_true_eq_false, not_false_eq_true, Bool.and_eq_true, Bool.not_eq_eq_eq_not, Bool.not_true, Bool.not_false, bne_iff_ne, bne_eq_false_iff_eq, Int.toNat_natCast, Nat.mul_one, Nat.add_zero, Nat.zero_add, List.take_length, List.drop_zero] at h7)
                            all_goals
                              refine Tree.GivesP.ret ?_ ?_
                              · first | (simp only [AV.le]; done) | ((try simp only [AV.le, decide_eq_true_eq, beq_iff_eq]); first | (exfalso; omega) | omega | (simp_all; done))
                              · simp only [AV.leL, AV.le, Mem.le, Mem.leP, Blk.le, Blk.pad, Data.le, Data.size, Cap.le, and_true, true_and, and_self, true_implies, implies_true, imp_self, List.length_nil]
                      · (try simp only [decide_eq_true_eq, decide_eq_false_iff_not, Bool.not_eq_true', Bool.not_eq_false', beq_iff_eq, beq_eq_false_iff_ne, Int.not_lt, Int.not_le, ge_iff_le, gt_iff_lt, ne_eq, Bool.false_eq_true, Bool.true_eq_false, not_true_eq_false, not_false_eq_true, Bool.and_eq_true, Bool.not_eq_eq_eq_not, Bool.not_true, Bool.not_false, bne_iff_ne, bne_eq_false_iff_eq, Int.toNat_natCast, Nat.mul_one, Nat.add_zero, Nat.zero_add, List.take_length, List.drop_zero] at h6)
                        all_goals
                          exfalso
                          omega
              · (try simp only [decide_eq_true_eq, decide_eq_false_iff_not, Bool.not_eq_true', Bool.not_eq_false', beq_iff_eq, beq_eq_false_iff_ne, Int.not_lt, Int.not_le, ge_iff_le, gt_iff_lt, ne_eq, Bool.false_eq_true, Bool.true_eq_false, not_true_eq_false, not_false_eq_true, Bool.and_eq_true, Bool.not_eq_eq_eq_not, Bool.not_true, Bool.not_false, bne_iff_ne, bne_eq_false_iff_eq, Int.toNat_natCast, Nat.mul_one, Nat.add_zero, Nat.zero_add, List.take_length, List.drop_zero] at h4)
                all_goals
                  refine Tree.GivesP.ret ?_ ?_
                  · first | (simp only [AV.le]; done) | ((try simp only [AV.le, decide_eq_true_eq, beq_iff_eq]); first | (exfalso; omega) | omega | (simp_all; done))
                  · simp only [AV.leL, AV.le, Mem.le, Mem.leP, Blk.le, Blk.pad, Data.le, Data.size, Cap.le, and_true, true_and, and_self, true_implies, implies_true, imp_self, List.length_nil]
          · (try simp only [decide_eq_true_eq, decide_eq_false_iff_not, Bool.not_eq_true', Bool.not_eq_false', beq_iff_eq, beq_eq_false_iff_ne, Int.not_lt, Int.not_le, ge_iff_le, gt_iff_lt, ne_eq, Bool.false_eq_true, Bool.true_eq_false, not_true_eq_false, not_false_eq_true, Bool.and_eq_true, Bool.not_eq_eq_eq_not, Bool.not_true, Bool.not_false, bne_iff_ne, bne_eq_false_iff_eq, Int.toNat_natCast, Nat.mul_one, Nat.add_zero, Nat.zero_add, List.take_length, List.drop_zero] at h3)
            all_goals
              refine Tree.GivesP.ret ?_ ?_
              · first | (simp only [AV.le]; done) | ((try simp only [AV.le, decide_eq_true_eq, beq_iff_eq]); first | (exfalso; omega) | omega | (simp_all; done))
              · simp only [AV.leL, AV.le, Mem.le, Mem.leP, Blk.le, Blk.pad, Data.le, Data.size, Cap.le, and_true, true_and, and_self, true_implies, implies_true, imp_self, List.length_nil]
theorem sPackSigns (hall : AllOk Try.prog 0 (fun _ => none) tab29) (k : Int) (zwords : Bool) (words : List Int) (hw : words.length ≤ 9223372036854775807 ∧ (zwords = true → words = [])) : SoundAt (mkC Try.prog 0 (fun _ => none) []) 5 [.int .i64 false k, .sl zwords ⟨0, 0, 0, 0⟩ false words.length .any] [some ⟨3, false, false, true, .ints .i64 words⟩] (.bool false true, [some ⟨3, false, false, true, .ints .i64 words⟩]) := sound_loopsP hall mix (loopsPackSigns hall) (tPackSigns k zwords words) (gPackSigns k zwords words hw)
end Go.Proofs.Ytnkjblmlchbfkaa.Rig

/- The row of the law PackSigns: whatever the input it gives true, and what came in stays. -/
namespace Go.Proofs.Ytnkjblmlchbfkaa.packSigns
open Go.ChangeShapes Go.WideShapes Go.ChangeAt Go.RowKit Go.Proofs.Ytnkjblmlchbfkaa.Rig
open Go.ChangeMaps (open_string shut_string)
set_option linter.unusedVariables false

theorem own : ownKnob Try.prog.godebug = none := by kernel_rfl
theorem laidOut : laidOutB Try.prog = true := by kernel_rfl
theorem walk (a0 : Int) (A1 : Option Addr) (len1 cap1 : Nat) (zs1 : List Int) (w : World) (w0 : (Lit.int .i64 a0).wf = true) (wz1 : (A1 = none ∧ len1 = 0 ∧ cap1 = 0 ∧ zs1 = []) ∨ ∃ x, A1 = some x ∧ len1 ≤ cap1 ∧ cap1 ≤ maxLen ∧ zs1.length = cap1 ∧ (∀ i, i < zs1.length → w.cell? (x.add i) = some (.int .i64 (zs1.getD i 0))) ∧ ∀ n ∈ zs1, (Lit.int .i64 n).wf = true) :
    Calls Try.prog 5 #[.int .i64 a0, .slice A1 len1 cap1] w fun e w' => e = .returned (.bool true) ∧ Below w.heap.size w w' := by
  obtain ⟨z1, l1, b1, hl1, hz1, hm1, hw1, hr1, hb1⟩ := arg_ints 3 wz1
  subst hl1
  have h := sPackSigns all29 a0 z1 l1 ⟨by simpa [maxLen] using hm1, hz1⟩
  refine h.top (σ := fun i => [b1][i]?) (vals := [.int .i64 a0, .slice A1 l1.length cap1]) (fun i b hb => ?_) ?_ (rel_args _ _ rfl fun i b hb => ?_) (fun g i h => by cases h) (Nat.zero_le _)
  · rcases i with _ | i <;> simp [Mem.at] at hb <;> subst hb <;> rfl
  · exact RepL.cons (by simp [RepL, Rep]) (RepL.cons (hr1 _ 0 rfl) (RepL.nil))
  · rcases i with _ | i <;> simp [Mem.at] at hb
    · subst hb; exact ⟨_, rfl, rfl, hb1⟩
set_option maxRecDepth 100000 in
theorem lifted (os : Os) (started : os.Started) (H : Type) (enc : TypeId × Value → H) :
    ReturnsInHanded {} Try.checked os 5 .any (Rows.packSignsSpec.pre6 enc Try.prog Try.f5 Rows.packSignsRow.domain false) (Rows.packSignsSpec.post enc Try.prog Try.f5 false true false false) := by
  refine returnsInHanded_of_change_sized (C := Try.checked) own started (by kernel_rfl) Try.func5
    (ChangeSpec.witness6 (enc := enc) (C := Try.checked) false ⟨#[], #[.int .i64 0, .slice none 0 0], []⟩ 8 (by kernel_rfl) (by kernel_rfl) (by kernel_rfl) (by kernel_rfl)) ?_
  intro W base args ds gs before hval0 hW hcnd hsz0 _
  have hval : ∀ (j : Nat) t v, Try.f5.params[j]? = some t → args[j]? = some v → Value.okWide Try.prog W .any base t v := hval0
  have hW' := hW
  obtain ⟨p, q, hA0, hV, rfl, hfz, hnd⟩ := hW
  have hA : DataW.TrodAll enc Try.prog W 0 (fun _ => true) true Try.f5.params.toList args.toList ds p := hA0
  rw [Try.params5] at hA hval
  obtain ⟨v0, vs0, d0, ds0, p0, z0, hargs, rfl, rfl, h0, r0⟩ := trodAll_cons hA
  obtain ⟨v1, vs1, d1, ds1, p1, z1, rfl, rfl, rfl, h1, r1⟩ := trodAll_cons r0
  obtain ⟨rfl, rfl, rfl⟩ := trodAll_nil r1
  obtain rfl : args = #[v0, v1] := by cases args; simp_all
  obtain ⟨rfl, rfl⟩ := trodVars_none hV
  obtain ⟨a0, rfl, rfl, rfl, w0⟩ := open_int Try.underlying3 (hval 0 3 v0 rfl rfl) h0
  obtain ⟨A1, len1, cap1, rfl⟩ := okWide_slice Try.underlying22 (hval 1 22 v1 rfl rfl)
  have k1 := h1
  have lt1 : ∀ x ∈ p1, x.block < W.heap.size := by obtain ⟨m, hm⟩ := k1; exact DataW.trod_lt m _ _ _ hm
  obtain ⟨zs1, wz1⟩ := Open.ints_open Try.underlying22 Try.underlying3 (by kernel_rfl) h1
  simp only [if_true] at wz1
  clear hA0 hval0 hsz0
  refine (walk a0 A1 len1 cap1 zs1 W w0 wz1).mono fun e W' ⟨he, bel⟩ => ?_
  subst he
  exact ⟨_, rfl, _, _, _, [], _, [], hW', trodAll_mk1 (shut_bool Try.underlying4 _), (trodAll_cons_mk (shut_int Try.underlying3 w0) (trodAll_cons_mk (Below.trod laidOut (by kernel_rfl) (of_decide_eq_true (by kernel_rfl)) k1 bel lt1) trodAll_mk0)), rfl, bel.frame _, fun h => by cases h⟩
theorem over : Rows.packSignsRow.holds Try.pinned (OpenSpec.ofChange Rows.packSignsSpec) :=
  OpenClaim.holds_of_wide 5 Try.f5 rfl rfl rfl rfl rfl rfl rfl ⟨rfl, rfl, rfl, rfl, rfl⟩ rfl rfl rfl rfl rfl (by kernel_rfl) Try.func5 (by kernel_rfl)
    (of_decide_eq_true (by kernel_rfl)) (by unfold Func.isWrapper; first | (rw [if_pos (by decide +kernel)]; kernel_rfl) | (rw [if_neg (by decide +kernel)]; exact ⟨rfl, rfl⟩))
    (fun os started H enc _ => lifted os started H enc)
theorem proved : Rows.PackSignsSaid := over
#print axioms proved
end Go.Proofs.Ytnkjblmlchbfkaa.packSigns
namespace Go.Proofs.Ytnkjblmlchbfkaa
/-- The row, under a short name, for the claim. -/
theorem packSigns_holds : Rows.PackSignsSaid := packSigns.proved
end Go.Proofs.Ytnkjblmlchbfkaa
