/- MSigns: what is proved for the claim, part 4: functions' reckonings, and what they give. -/
import Derived.Test.YtnkjblmlchbfkaaMSigns3
import Derived.KernelRfl
set_option linter.unusedVariables false
set_option linter.unusedSimpArgs false
/- Qall28 -/
namespace Go.Proofs.Ytnkjblmlchbfkaa.Rig
open Go
set_option maxRecDepth 100000 in
theorem tLall28_0 (k : Int) (zl : Bool) (l : List Int) (i : Nat) : tidied Tall28_0 Uall28_0 2 (evCode (mkL Try.prog 0 (fun _ => none) tab13 rowsall28) (evCall (mkC Try.prog 0 (fun _ => none) tab13) 50) 25 2 fuelC (bodyAt Try.prog 25 0) (hdall28_0 ⟨k, zl, l, i⟩)) =
  Tree.br (decide ((i : Int) < ((List.length l) : Int)))
    (Tree.br (!zl && decide ((0 : Int) ≤ (i : Int) ∧ (i : Int) < ((List.length l) : Int)))
      (Tree.br (decide (Int.toNat (i : Int) * 1 + 0 + 1 ≤ List.length l))
        (Tree.br (decide (List.getD l (Int.toNat (i : Int) * 1 + 0 + 0) (0 : Int) ≥ (0 : Int)))
          (Tree.br (k == (4 : Int))
            (Tree.chk ((True ∧ True ∧ True) ∧ (1 : Int) ≤ k ∧ k ≤ (4 : Int))
              (Tree.br
                (decide
                  (((List.length (List.flatMap (wordsZ k) (List.take i l)) + List.length (wordsZ k (List.getD l (Int.toNat (i : Int) * 1 + 0 + 0) (0 : Int)))) : Int) ≤ most48 ∧
                    (((List.length (List.flatMap (wordsZ k) (List.take i l)) + List.length (wordsZ k (List.getD l (Int.toNat (i : Int) * 1 + 0 + 0) (0 : Int)))) * 8) : Int) ≤ most48))
                (Tree.br
                  (decide
                      (List.length (List.flatMap (wordsZ k) (List.take i l)) * 1 = Data.size (Data.ints IntKind.i64 (List.flatMap (wordsZ k) (List.take i l))) ∧
                        Data.size
                            (Data.ints IntKind.i64
                              (List.take (List.length (wordsZ k (List.getD l (Int.toNat (i : Int) * 1 + 0 + 0) (0 : Int))) * 1)
                                (List.drop (0) (wordsZ k (List.getD l (Int.toNat (i : Int) * 1 + 0 + 0) (0 : Int)))))) =
                          List.length (wordsZ k (List.getD l (Int.toNat (i : Int) * 1 + 0 + 0) (0 : Int))) * 1) &&
                    decide (List.flatMap (wordsZ k) (List.take i l) = []) == decide ((List.flatMap (wordsZ k) (List.take i l)) = []))
                  (Tree.ret
                    (Ex.norm,
                      St.mk
                        [AV.int IntKind.i64 false k, AV.junk, AV.fn (Fn.func (28)) [] [AV.ptr (Ref.mk (1) (0) (0) (0))], AV.junk, AV.junk, AV.junk, AV.junk, AV.junk,
                          AV.sl (decide (List.flatMap (wordsZ k) (List.take i l) = []) && decide (List.length (wordsZ k (List.getD l (Int.toNat (i : Int) * 1 + 0 + 0) (0 : Int))) = 0))
                            (Ref.mk (2) (0) (0) (0)) false
                            (List.length (List.flatMap (wordsZ k) (List.take i l)) + List.length (wordsZ k (List.getD l (Int.toNat (i : Int) * 1 + 0 + 0) (0 : Int)))) Cap.own,
                          AV.junk, AV.junk, AV.junk, AV.junk, AV.junk, AV.junk, AV.junk, AV.junk, AV.sl zl (Ref.mk (0) (0) (0) (0)) false (List.length l) Cap.any,
                          AV.int IntKind.i64 false ((List.length l) : Int), AV.int IntKind.i64 false (IntKind.wrap IntKind.i64 ((i : Int) + (1 : Int))), AV.junk, AV.junk, AV.junk, AV.junk, AV.junk, AV.junk, AV.junk, AV.junk, AV.junk, AV.junk,
                          AV.junk, AV.junk, AV.junk, AV.junk]
                        [some (Blk.mk (3) false false true (Data.ints IntKind.i64 l)), some (Blk.mk (3) false false false (Data.cells [AV.int IntKind.i64 false k])),
                          some
                            (Blk.mk (3) true
                              (Bool.rec false (decide (List.length (wordsZ k (List.getD l (Int.toNat (i : Int) * 1 + 0 + 0) (0 : Int))) = 0))
                                (decide ((List.flatMap (wordsZ k) (List.take i l)) = [])))
                              true
                              (Data.ints IntKind.i64
                                (List.flatMap (wordsZ k) (List.take i l) ++
                                  List.take (List.length (wordsZ k (List.getD l (Int.toNat (i : Int) * 1 + 0 + 0) (0 : Int))) * 1)
                                    (List.drop (0) (wordsZ k (List.getD l (Int.toNat (i : Int) * 1 + 0 + 0) (0 : Int)))))))]))
                  Tree.fail)
                Tree.fail))
            (Tree.br (!decide (IntKind.wrap IntKind.i64 ((16 : Int) * k) < (0 : Int)))
              (Tree.br (!Int.fdiv (List.getD l (Int.toNat (i : Int) * 1 + 0 + 0) (0 : Int)) ((2 : Int) ^ min (Int.toNat (IntKind.wrap IntKind.i64 ((16 : Int) * k))) (64)) == (0 : Int))
                (Tree.ret
                  (Ex.ret,
                    St.mk
                      [AV.junk, AV.junk, AV.junk, AV.junk, AV.junk, AV.junk, AV.sl true (Ref.mk (0) (0) (0) (0)) true (0) Cap.exact, AV.int IntKind.i64 true (2 : Int), AV.junk, AV.junk, AV.junk,
                        AV.junk, AV.junk, AV.junk, AV.junk, AV.junk, AV.junk, AV.junk, AV.junk, AV.junk, AV.junk, AV.junk, AV.junk, AV.junk, AV.junk, AV.junk, AV.junk, AV.junk, AV.junk, AV.junk, AV.junk, AV.junk, AV.junk, AV.junk]
                      [some (Blk.mk (3) false false true (Data.ints IntKind.i64 l)), some (Blk.mk (3) false false false (Data.cells [AV.int IntKind.i64 false k]))]))
                (Tree.chk ((True ∧ True ∧ True) ∧ (1 : Int) ≤ k ∧ k ≤ (4 : Int))
                  (Tree.br
                    (decide
                      (((List.length (List.flatMap (wordsZ k) (List.take i l)) + List.length (wordsZ k (List.getD l (Int.toNat (i : Int) * 1 + 0 + 0) (0 : Int)))) : Int) ≤ most48 ∧
                        (((List.length (List.flatMap (wordsZ k) (List.take i l)) + List.length (wordsZ k (List.getD l (Int.toNat (i : Int) * 1 + 0 + 0) (0 : Int)))) * 8) : Int) ≤ most48))
                    (Tree.br
                      (decide
                          (List.length (List.flatMap (wordsZ k) (List.take i l)) * 1 = Data.size (Data.ints IntKind.i64 (List.flatMap (wordsZ k) (List.take i l))) ∧
                            Data.size
                                (Data.ints IntKind.i64
                                  (List.take (List.length (wordsZ k (List.getD l (Int.toNat (i : Int) * 1 + 0 + 0) (0 : Int))) * 1)
                                    (List.drop (0) (wordsZ k (List.getD l (Int.toNat (i : Int) * 1 + 0 + 0) (0 : Int)))))) =
                              List.length (wordsZ k (List.getD l (Int.toNat (i : Int) * 1 + 0 + 0) (0 : Int))) * 1) &&
                        decide (List.flatMap (wordsZ k) (List.take i l) = []) == decide ((List.flatMap (wordsZ k) (List.take i l)) = []))
                      (Tree.ret
                        (Ex.norm,
                          St.mk
                            [AV.int IntKind.i64 false k, AV.junk, AV.fn (Fn.func (28)) [] [AV.ptr (Ref.mk (1) (0) (0) (0))], AV.junk, AV.junk, AV.junk, AV.junk, AV.junk,
                              AV.sl (decide (List.flatMap (wordsZ k) (List.take i l) = []) && decide (List.length (wordsZ k (List.getD l (Int.toNat (i : Int) * 1 + 0 + 0) (0 : Int))) = 0))
                                (Ref.mk (2) (0) (0) (0)) false
                                (List.length (List.flatMap (wordsZ k) (List.take i l)) + List.length (wordsZ k (List.getD l (Int.toNat (i : Int) * 1 + 0 + 0) (0 : Int)))) Cap.own,
                              AV.junk, AV.junk, AV.junk, AV.junk, AV.junk, AV.junk, AV.junk, AV.junk, AV.sl zl (Ref.mk (0) (0) (0) (0)) false (List.length l) Cap.any,
                              AV.int IntKind.i64 false ((List.length l) : Int), AV.int IntKind.i64 false (IntKind.wrap IntKind.i64 ((i : Int) + (1 : Int))), AV.junk, AV.junk, AV.junk, AV.junk, AV.junk, AV.junk, AV.junk, AV.junk, AV.junk, AV.junk,
                              AV.junk, AV.junk, AV.junk, AV.junk]
                            [some (Blk.mk (3) false false true (Data.ints IntKind.i64 l)), some (Blk.mk (3) false false false (Data.cells [AV.int IntKind.i64 false k])),
                              some
                                (Blk.mk (3) true
                                  (Bool.rec false (decide (List.length (wordsZ k (List.getD l (Int.toNat (i : Int) * 1 + 0 + 0) (0 : Int))) = 0))
                                    (decide ((List.flatMap (wordsZ k) (List.take i l)) = [])))
                                  true
                                  (Data.ints IntKind.i64
                                    (List.flatMap (wordsZ k) (List.take i l) ++
                                      List.take (List.length (wordsZ k (List.getD l (Int.toNat (i : Int) * 1 + 0 + 0) (0 : Int))) * 1)
                                        (List.drop (0) (wordsZ k (List.getD l (Int.toNat (i : Int) * 1 + 0 + 0) (0 : Int)))))))]))
                      Tree.fail)
                    Tree.fail)))
              Tree.fail))
          (Tree.ret
            (Ex.ret,
              St.mk
                [AV.junk, AV.junk, AV.junk, AV.junk, AV.junk, AV.junk, AV.sl true (Ref.mk (0) (0) (0) (0)) true (0) Cap.exact, AV.int IntKind.i64 true (2 : Int), AV.junk, AV.junk, AV.junk, AV.junk,
                  AV.junk, AV.junk, AV.junk, AV.junk, AV.junk, AV.junk, AV.junk, AV.junk, AV.junk, AV.junk, AV.junk, AV.junk, AV.junk, AV.junk, AV.junk, AV.junk, AV.junk, AV.junk, AV.junk, AV.junk, AV.junk, AV.junk]
                [some (Blk.mk (3) false false true (Data.ints IntKind.i64 l)), some (Blk.mk (3) false false false (Data.cells [AV.int IntKind.i64 false k]))])))
        Tree.fail)
      Tree.fail)
    (Tree.ret
      (Ex.exit (0),
        St.mk
          [AV.junk, AV.junk, AV.junk, AV.junk, AV.junk, AV.junk, AV.junk, AV.junk,
            AV.sl (decide (List.flatMap (wordsZ k) (List.take i l) = [])) (Ref.mk (2) (0) (0) (0)) false (List.length (List.flatMap (wordsZ k) (List.take i l))) Cap.own, AV.junk, AV.junk,
            AV.junk, AV.junk, AV.junk, AV.junk, AV.junk, AV.junk, AV.junk, AV.junk, AV.junk, AV.junk, AV.junk, AV.junk, AV.junk, AV.junk, AV.junk, AV.junk, AV.junk, AV.junk, AV.junk, AV.junk, AV.junk, AV.junk, AV.junk]
          [some (Blk.mk (3) false false true (Data.ints IntKind.i64 l)), some (Blk.mk (3) false false false (Data.cells [AV.int IntKind.i64 false k])),
            some
              (Blk.mk (3) true (decide ((List.flatMap (wordsZ k) (List.take i l)) = [])) true
                (Data.ints IntKind.i64 (List.flatMap (wordsZ k) (List.take i l))))])) := by kernel_rfl
set_option maxRecDepth 100000 in
theorem stepall28_0 (k : Int) (zl : Bool) (l : List Int) (i : Nat) (ex : Ex) (r : St) (hok : okall28_0 ⟨k, zl, l, i⟩) (hr : (outall28_0 ⟨k, zl, l, i⟩).runs (ex, r)) : (Tree.br (decide ((i : Int) < ((List.length l) : Int)))
    (Tree.br (!zl && decide ((0 : Int) ≤ (i : Int) ∧ (i : Int) < ((List.length l) : Int)))
      (Tree.br (decide (Int.toNat (i : Int) * 1 + 0 + 1 ≤ List.length l))
        (Tree.br (decide (List.getD l (Int.toNat (i : Int) * 1 + 0 + 0) (0 : Int) ≥ (0 : Int)))
          (Tree.br (k == (4 : Int))
            (Tree.chk ((True ∧ True ∧ True) ∧ (1 : Int) ≤ k ∧ k ≤ (4 : Int))
              (Tree.br
                (decide
                  (((List.length (List.flatMap (wordsZ k) (List.take i l)) + List.length (wordsZ k (List.getD l (Int.toNat (i : Int) * 1 + 0 + 0) (0 : Int)))) : Int) ≤ most48 ∧
                    (((List.length (List.flatMap (wordsZ k) (List.take i l)) + List.length (wordsZ k (List.getD l (Int.toNat (i : Int) * 1 + 0 + 0) (0 : Int)))) * 8) : Int) ≤ most48))
                (Tree.br
                  (decide
                      (List.length (List.flatMap (wordsZ k) (List.take i l)) * 1 = Data.size (Data.ints IntKind.i64 (List.flatMap (wordsZ k) (List.take i l))) ∧
                        Data.size
                            (Data.ints IntKind.i64
                              (List.take (List.length (wordsZ k (List.getD l (Int.toNat (i : Int) * 1 + 0 + 0) (0 : Int))) * 1)
                                (List.drop (0) (wordsZ k (List.getD l (Int.toNat (i : Int) * 1 + 0 + 0) (0 : Int)))))) =
                          List.length (wordsZ k (List.getD l (Int.toNat (i : Int) * 1 + 0 + 0) (0 : Int))) * 1) &&
                    decide (List.flatMap (wordsZ k) (List.take i l) = []) == decide ((List.flatMap (wordsZ k) (List.take i l)) = []))
                  (Tree.ret
                    (Ex.norm,
                      St.mk
                        [AV.int IntKind.i64 false k, AV.junk, AV.fn (Fn.func (28)) [] [AV.ptr (Ref.mk (1) (0) (0) (0))], AV.junk, AV.junk, AV.junk, AV.junk, AV.junk,
                          AV.sl (decide (List.flatMap (wordsZ k) (List.take i l) = []) && decide (List.length (wordsZ k (List.getD l (Int.toNat (i : Int) * 1 + 0 + 0) (0 : Int))) = 0))
                            (Ref.mk (2) (0) (0) (0)) false
                            (List.length (List.flatMap (wordsZ k) (List.take i l)) + List.length (wordsZ k (List.getD l (Int.toNat (i : Int) * 1 + 0 + 0) (0 : Int)))) Cap.own,
                          AV.junk, AV.junk, AV.junk, AV.junk, AV.junk, AV.junk, AV.junk, AV.junk, AV.sl zl (Ref.mk (0) (0) (0) (0)) false (List.length l) Cap.any,
                          AV.int IntKind.i64 false ((List.length l) : Int), AV.int IntKind.i64 false (IntKind.wrap IntKind.i64 ((i : Int) + (1 : Int))), AV.junk, AV.junk, AV.junk, AV.junk, AV.junk, AV.junk, AV.junk, AV.junk, AV.junk, AV.junk,
                          AV.junk, AV.junk, AV.junk, AV.junk]
                        [some (Blk.mk (3) false false true (Data.ints IntKind.i64 l)), some (Blk.mk (3) false false false (Data.cells [AV.int IntKind.i64 false k])),
                          some
                            (Blk.mk (3) true
                              (Bool.rec false (decide (List.length (wordsZ k (List.getD l (Int.toNat (i : Int) * 1 + 0 + 0) (0 : Int))) = 0))
                                (decide ((List.flatMap (wordsZ k) (List.take i l)) = [])))
                              true
                              (Data.ints IntKind.i64
                                (List.flatMap (wordsZ k) (List.take i l) ++
                                  List.take (List.length (wordsZ k (List.getD l (Int.toNat (i : Int) * 1 + 0 + 0) (0 : Int))) * 1)
                                    (List.drop (0) (wordsZ k (List.getD l (Int.toNat (i : Int) * 1 + 0 + 0) (0 : Int)))))))]))
                  Tree.fail)
                Tree.fail))
            (Tree.br (!decide (IntKind.wrap IntKind.i64 ((16 : Int) * k) < (0 : Int)))
              (Tree.br (!Int.fdiv (List.getD l (Int.toNat (i : Int) * 1 + 0 + 0) (0 : Int)) ((2 : Int) ^ min (Int.toNat (IntKind.wrap IntKind.i64 ((16 : Int) * k))) (64)) == (0 : Int))
                (Tree.ret
                  (Ex.ret,
                    St.mk
                      [AV.junk, AV.junk, AV.junk, AV.junk, AV.junk, AV.junk, AV.sl true (Ref.mk (0) (0) (0) (0)) true (0) Cap.exact, AV.int IntKind.i64 true (2 : Int), AV.junk, AV.junk, AV.junk,
                        AV.junk, AV.junk, AV.junk, AV.junk, AV.junk, AV.junk, AV.junk, AV.junk, AV.junk, AV.junk, AV.junk, AV.junk, AV.junk, AV.junk, AV.junk, AV.junk, AV.junk, AV.junk, AV.junk, AV.junk, AV.junk, AV.junk, AV.junk]
                      [some (Blk.mk (3) false false true (Data.ints IntKind.i64 l)), some (Blk.mk (3) false false false (Data.cells [AV.int IntKind.i64 false k]))]))
                (Tree.chk ((True ∧ True ∧ True) ∧ (1 : Int) ≤ k ∧ k ≤ (4 : Int))
                  (Tree.br
                    (decide
                      (((List.length (List.flatMap (wordsZ k) (List.take i l)) + List.length (wordsZ k (List.getD l (Int.toNat (i : Int) * 1 + 0 + 0) (0 : Int)))) : Int) ≤ most48 ∧
                        (((List.length (List.flatMap (wordsZ k) (List.take i l)) + List.length (wordsZ k (List.getD l (Int.toNat (i : Int) * 1 + 0 + 0) (0 : Int)))) * 8) : Int) ≤ most48))
                    (Tree.br
                      (decide
                          (List.length (List.flatMap (wordsZ k) (List.take i l)) * 1 = Data.size (Data.ints IntKind.i64 (List.flatMap (wordsZ k) (List.take i l))) ∧
                            Data.size
                                (Data.ints IntKind.i64
                                  (List.take (List.length (wordsZ k (List.getD l (Int.toNat (i : Int) * 1 + 0 + 0) (0 : Int))) * 1)
                                    (List.drop (0) (wordsZ k (List.getD l (Int.toNat (i : Int) * 1 + 0 + 0) (0 : Int)))))) =
                              List.length (wordsZ k (List.getD l (Int.toNat (i : Int) * 1 + 0 + 0) (0 : Int))) * 1) &&
                        decide (List.flatMap (wordsZ k) (List.take i l) = []) == decide ((List.flatMap (wordsZ k) (List.take i l)) = []))
                      (Tree.ret
                        (Ex.norm,
                          St.mk
                            [AV.int IntKind.i64 false k, AV.junk, AV.fn (Fn.func (28)) [] [AV.ptr (Ref.mk (1) (0) (0) (0))], AV.junk, AV.junk, AV.junk, AV.junk, AV.junk,
                              AV.sl (decide (List.flatMap (wordsZ k) (List.take i l) = []) && decide (List.length (wordsZ k (List.getD l (Int.toNat (i : Int) * 1 + 0 + 0) (0 : Int))) = 0))
                                (Ref.mk (2) (0) (0) (0)) false
                                (List.length (List.flatMap (wordsZ k) (List.take i l)) + List.length (wordsZ k (List.getD l (Int.toNat (i : Int) * 1 + 0 + 0) (0 : Int)))) Cap.own,
                              AV.junk, AV.junk, AV.junk, AV.junk, AV.junk, AV.junk, AV.junk, AV.junk, AV.sl zl (Ref.mk (0) (0) (0) (0)) false (List.length l) Cap.any,
                              AV.int IntKind.i64 false ((List.length l) : Int), AV.int IntKind.i64 false (IntKind.wrap IntKind.i64 ((i : Int) + (1 : Int))), AV.junk, AV.junk, AV.junk, AV.junk, AV.junk, AV.junk, AV.junk, AV.junk, AV.junk, AV.junk,
                              AV.junk, AV.junk, AV.junk, AV.junk]
                            [some (Blk.mk (3) false false true (Data.ints IntKind.i64 l)), some (Blk.mk (3) false false false (Data.cells [AV.int IntKind.i64 false k])),
                              some
                                (Blk.mk (3) true
                                  (Bool.rec false (decide (List.length (wordsZ k (List.getD l (Int.toNat (i : Int) * 1 + 0 + 0) (0 : Int))) = 0))
                                    (decide ((List.flatMap (wordsZ k) (List.take i l)) = [])))
                                  true
                                  (Data.ints IntKind.i64
                                    (List.flatMap (wordsZ k) (List.take i l) ++
                                      List.take (List.length (wordsZ k (List.getD l (Int.toNat (i : Int) * 1 + 0 + 0) (0 : Int))) * 1)
                                        (List.drop (0) (wordsZ k (List.getD l (Int.toNat (i : Int) * 1 + 0 + 0) (0 : Int)))))))]))
                      Tree.fail)
                    Tree.fail)))
              Tree.fail))
          (Tree.ret
            (Ex.ret,
              St.mk
                [AV.junk, AV.junk, AV.junk, AV.junk, AV.junk, AV.junk, AV.sl true (Ref.mk (0) (0) (0) (0)) true (0) Cap.exact, AV.int IntKind.i64 true (2 : Int), AV.junk, AV.junk, AV.junk, AV.junk,
                  AV.junk, AV.junk, AV.junk, AV.junk, AV.junk, AV.junk, AV.junk, AV.junk, AV.junk, AV.junk, AV.junk, AV.junk, AV.junk, AV.junk, AV.junk, AV.junk, AV.junk, AV.junk, AV.junk, AV.junk, AV.junk, AV.junk]
                [some (Blk.mk (3) false false true (Data.ints IntKind.i64 l)), some (Blk.mk (3) false false false (Data.cells [AV.int IntKind.i64 false k]))])))
        Tree.fail)
      Tree.fail)
    (Tree.ret
      (Ex.exit (0),
        St.mk
          [AV.junk, AV.junk, AV.junk, AV.junk, AV.junk, AV.junk, AV.junk, AV.junk,
            AV.sl (decide (List.flatMap (wordsZ k) (List.take i l) = [])) (Ref.mk (2) (0) (0) (0)) false (List.length (List.flatMap (wordsZ k) (List.take i l))) Cap.own, AV.junk, AV.junk,
            AV.junk, AV.junk, AV.junk, AV.junk, AV.junk, AV.junk, AV.junk, AV.junk, AV.junk, AV.junk, AV.junk, AV.junk, AV.junk, AV.junk, AV.junk, AV.junk, AV.junk, AV.junk, AV.junk, AV.junk, AV.junk, AV.junk, AV.junk]
          [some (Blk.mk (3) false false true (Data.ints IntKind.i64 l)), some (Blk.mk (3) false false false (Data.cells [AV.int IntKind.i64 false k])),
            some
              (Blk.mk (3) true (decide ((List.flatMap (wordsZ k) (List.take i l)) = [])) true
                (Data.ints IntKind.i64 (List.flatMap (wordsZ k) (List.take i l))))])) : Tree (Ex × St)).Sat (Post hdall28_0 resall28_0 muall28_0 ⟨k, zl, l, i⟩ ex r) := by
  simp only [okall28_0, outall28_0, Tree.runs] at hok hr
  obtain ⟨h1k, h4k, hl, hw, hi, hz, ha⟩ := hok
  have hO : ((l.take i).flatMap (wordsZ k)).length ≤ 400000 := by
    rw [flat_len]
    exact Nat.le_trans (Nat.mul_le_mul (show (l.take i).length ≤ 100000 by rw [List.length_take]; omega) (show k.toNat ≤ 4 by omega)) (by omega)
  have hW := wordsZ_len k (l.getD i 0)
  refine Tree.Sat.br (fun h1 => ?_) (fun h1 => ?_)
  · (try simp only [decide_eq_true_eq, decide_eq_false_iff_not, Bool.not_eq_true', Bool.not_eq_false', beq_iff_eq, beq_eq_false_iff_ne, Int.not_lt, Int.not_le, ge_iff_le, gt_iff_lt, ne_eq, Bool.false_eq_true, Bool.true_eq_false, not_true_eq_false, not_false_eq_true, Bool.and_eq_true, Bool.not_eq_eq_eq_not, Bool.not_true, Bool.not_false, bne_iff_ne, bne_eq_false_iff_eq, Int.toNat_natCast, Nat.mul_one, Nat.add_zero, Nat.zero_add, List.take_length, List.drop_zero] at h1)
    all_goals
      refine Tree.Sat.br (fun h2 => ?_) (fun h2 => ?_)
      · (try simp only [decide_eq_true_eq, decide_eq_false_iff_not, Bool.not_eq_true', Bool.not_eq_false', beq_iff_eq, beq_eq_false_iff_ne, Int.not_lt, Int.not_le, ge_iff_le, gt_iff_lt, ne_eq, Bool.false_eq_true, Bool.true_eq_false, not_true_eq_false, not_false_eq_true, Bool.and_eq_true, Bool.not_eq_eq_eq_not, Bool.not_true, Bool.not_false, bne_iff_ne, bne_eq_false_iff_eq, Int.toNat_natCast, Nat.mul_one, Nat.add_zero, Nat.zero_add, List.take_length, List.drop_zero] at h2)
        all_goals
          refine Tree.Sat.br (fun h3 => ?_) (fun h3 => ?_)
          · (try simp only [decide_eq_true_eq, decide_eq_false_iff_not, Bool.not_eq_true', Bool.not_eq_false', beq_iff_eq, beq_eq_false_iff_ne, Int.not_lt, Int.not_le, ge_iff_le, gt_iff_lt, ne_eq, Bool.false_eq_true, Bool.true_eq_false, not_true_eq_false, not_false_eq_true, Bool.and_eq_true, Bool.not_eq_eq_eq_not, Bool.not_true, Bool.not_false, bne_iff_ne, bne_eq_false_iff_eq, Int.toNat_natCast, Nat.mul_one, Nat.add_zero, Nat.zero_add, List.take_length, List.drop_zero] at h3)
            all_goals
              refine Tree.Sat.br (fun h4 => ?_) (fun h4 => ?_)
              · (try simp only [decide_eq_true_eq, decide_eq_false_iff_not, Bool.not_eq_true', Bool.not_eq_false', beq_iff_eq, beq_eq_false_iff_ne, Int.not_lt, Int.not_le, ge_iff_le, gt_iff_lt, ne_eq, Bool.false_eq_true, Bool.true_eq_false, not_true_eq_false, not_false_eq_true, Bool.and_eq_true, Bool.not_eq_eq_eq_not, Bool.not_true, Bool.not_false, bne_iff_ne, bne_eq_false_iff_eq, Int.toNat_natCast, Nat.mul_one, Nat.add_zero, Nat.zero_add, List.take_length, List.drop_zero] at h4)
                all_goals
                  refine Tree.Sat.br (fun h5 => ?_) (fun h5 => ?_)
                  · (try simp only [decide_eq_true_eq, decide_eq_false_iff_not, Bool.not_eq_true', Bool.not_eq_false', beq_iff_eq, beq_eq_false_iff_ne, Int.not_lt, Int.not_le, ge_iff_le, gt_iff_lt, ne_eq, Bool.false_eq_true, Bool.true_eq_false, not_true_eq_false, not_false_eq_true, Bool.and_eq_true, Bool.not_eq_eq_eq_not, Bool.not_true, Bool.not_false, bne_iff_ne, bne_eq_false_iff_eq, Int.toNat_natCast, Nat.mul_one, Nat.add_zero, Nat.zero_add, List.take_length, List.drop_zero] at h5)
                    all_goals
                      refine Tree.Sat.chk (by first | (simp only [and_self]; done) | (exact ⟨⟨trivial, trivial, trivial⟩, h1k, h4k⟩)) ?_
                      refine Tree.Sat.br (fun h6 => ?_) (fun h6 => ?_)
                      · (try simp only [decide_eq_true_eq, decide_eq_false_iff_not, Bool.not_eq_true', Bool.not_eq_false', beq_iff_eq, beq_eq_false_iff_ne, Int.not_lt, Int.not_le, ge_iff_le, gt_iff_lt, ne_eq, Bool.false_eq_true, Bool.true_eq_false, not_true_eq_false, not_false_eq_true, Bool.and_eq_true, Bool.not_eq_eq_eq_not, Bool.not_true, Bool.not_false, bne_iff_ne, bne_eq_false_iff_eq, Int.toNat_natCast, Nat.mul_one, Nat.add_zero, Nat.zero_add, List.take_length, List.drop_zero] at h6)
                        all_goals
                          refine Tree.Sat.br (fun h7 => ?_) (fun h7 => ?_)
                          · (try simp only [decide_eq_true_eq, decide_eq_false_iff_not, Bool.not_eq_true', Bool.not_eq_false', beq_iff_eq, beq_eq_false_iff_ne, Int.not_lt, Int.not_le, ge_iff_le, gt_iff_lt, ne_eq, Bool.false_eq_true, Bool.true_eq_false, not_true_eq_false, not_false_eq_true, Bool.and_eq_true, Bool.not_eq_eq_eq_not, Bool.not_true, Bool.not_false, bne_iff_ne, bne_eq_false_iff_eq, Int.toNat_natCast, Nat.mul_one, Nat.add_zero, Nat.zero_add, List.take_length, List.drop_zero] at h7)
                            all_goals
                              refine Tree.Sat.ret ?_
                              refine .norm ⟨k, zl, l, i + 1⟩ ?_ ?_ ⟨?_, ?_⟩
                              · constructor <;> simp only [hdall28_0, AV.leL, AV.le, Mem.le, Mem.leP, Blk.le, Blk.pad, Data.le, Data.size, Cap.le, and_true, true_and, and_self, true_implies, implies_true, imp_self, List.length_nil] <;> (repeat' with_reducible refine And.intro ?_ ?_) <;> (try simp only [Int.toNat_natCast, Nat.mul_one, Nat.add_zero, Nat.zero_add]) <;> first | exact wadd1 (by omega) | exact flat_nil (k := k) (l := l) (i := i) (by omega) | (rw [brec]; exact flat_nil (k := k) (l := l) (i := i) (by omega)) | (simp only [List.take_length, List.drop_zero, Nat.mul_one]; exact flat_step (by omega)) | (rw [← flat_step (by omega), List.length_append])
                              · simp only [muall28_0]; omega
                              · refine ⟨h1k, h4k, hl, hw, by omega, hz, all_take_succ (by omega) ha ?_⟩
                                rw [plain_fits h1k h4k (wfL_get hw (by omega))]
                                simp only [Bool.and_eq_true, decide_eq_true_eq, Bool.or_eq_true, beq_iff_eq]; first | omega | (refine ⟨by omega, ?_⟩; first | exact .inl (by assumption) | exact .inr (by assumption))
                              · exact hr
                          · (try simp only [decide_eq_true_eq, decide_eq_false_iff_not, Bool.not_eq_true', Bool.not_eq_false', beq_iff_eq, beq_eq_false_iff_ne, Int.not_lt, Int.not_le, ge_iff_le, gt_iff_lt, ne_eq, Bool.false_eq_true, Bool.true_eq_false, not_true_eq_false, not_false_eq_true, Bool.and_eq_true, Bool.not_eq_eq_eq_not, Bool.not_true, Bool.not_false, bne_iff_ne, bne_eq_false_iff_eq, Int.toNat_natCast, Nat.mul_one, Nat.add_zero, Nat.zero_add, List.take_length, List.drop_zero] at h7)
                            all_goals
                              exfalso
                              first | omega | (simp only [most48, Data.size, List.length_take, List.drop_zero, Bool.and_eq_true, decide_eq_true_eq, decide_eq_false_iff_not, Bool.and_eq_false_iff, Int.toNat_natCast] at *; omega) | (simp only [w64] at *; omega) | (simp only [most48] at *; omega) | (simp [Data.size, List.take_length] at *; done) | (cases zl <;> simp_all; done) | (cases zl <;> simp_all <;> omega)
                      · (try simp only [decide_eq_true_eq, decide_eq_false_iff_not, Bool.not_eq_true', Bool.not_eq_false', beq_iff_eq, beq_eq_false_iff_ne, Int.not_lt, Int.not_le, ge_iff_le, gt_iff_lt, ne_eq, Bool.false_eq_true, Bool.true_eq_false, not_true_eq_false, not_false_eq_true, Bool.and_eq_true, Bool.not_eq_eq_eq_not, Bool.not_true, Bool.not_false, bne_iff_ne, bne_eq_false_iff_eq, Int.toNat_natCast, Nat.mul_one, Nat.add_zero, Nat.zero_add, List.take_length, List.drop_zero] at h6)
                        all_goals
                          exfalso
                          first | omega | (simp only [most48, Data.size, List.length_take, List.drop_zero, Bool.and_eq_true, decide_eq_true_eq, decide_eq_false_iff_not, Bool.and_eq_false_iff, Int.toNat_natCast] at *; omega) | (simp only [w64] at *; omega) | (simp only [most48] at *; omega) | (simp [Data.size, List.take_length] at *; done) | (cases zl <;> simp_all; done) | (cases zl <;> simp_all <;> omega)
                  · (try simp only [decide_eq_true_eq, decide_eq_false_iff_not, Bool.not_eq_true', Bool.not_eq_false', beq_iff_eq, beq_eq_false_iff_ne, Int.not_lt, Int.not_le, ge_iff_le, gt_iff_lt, ne_eq, Bool.false_eq_true, Bool.true_eq_false, not_true_eq_false, not_false_eq_true, Bool.and_eq_true, Bool.not_eq_eq_eq_not, Bool.not_true, Bool.not_false, bne_iff_ne, bne_eq_false_iff_eq, Int.toNat_natCast, Nat.mul_one, Nat.add_zero, Nat.zero_add, List.take_length, List.drop_zero] at h5)
                    all_goals
                      refine Tree.Sat.br (fun h6 => ?_) (fun h6 => ?_)
                      · (try simp only [decide_eq_true_eq, decide_eq_false_iff_not, Bool.not_eq_true', Bool.not_eq_false', beq_iff_eq, beq_eq_false_iff_ne, Int.not_lt, Int.not_le, ge_iff_le, gt_iff_lt, ne_eq, Bool.false_eq_true, Bool.true_eq_false, not_true_eq_false, not_false_eq_true, Bool.and_eq_true, Bool.not_eq_eq_eq_not, Bool.not_true, Bool.not_false, bne_iff_ne, bne_eq_false_iff_eq, Int.toNat_natCast, Nat.mul_one, Nat.add_zero, Nat.zero_add, List.take_length, List.drop_zero] at h6)
                        all_goals
                          refine Tree.Sat.br (fun h7 => ?_) (fun h7 => ?_)
                          · (try simp only [decide_eq_true_eq, decide_eq_false_iff_not, Bool.not_eq_true', Bool.not_eq_false', beq_iff_eq, beq_eq_false_iff_ne, Int.not_lt, Int.not_le, ge_iff_le, gt_iff_lt, ne_eq, Bool.false_eq_true, Bool.true_eq_false, not_true_eq_false, not_false_eq_true, Bool.and_eq_true, Bool.not_eq_eq_eq_not, Bool.not_true, Bool.not_false, bne_iff_ne, bne_eq_false_iff_eq, Int.toNat_natCast, Nat.mul_one, Nat.add_zero, Nat.zero_add, List.take_length, List.drop_zero] at h7)
                            all_goals
                              refine Tree.Sat.ret ?_
                              first
                                | (
                                  have hq := hr.2 (all_miss (i := i) (by omega) (by rw [plain_fits h1k h4k (wfL_get hw (by omega))]; simp only [Bool.and_eq_false_iff, decide_eq_false_iff_not, Bool.or_eq_false_iff, beq_eq_false_iff_ne, ne_eq]; first | exact .inl (by omega) | exact .inr ⟨by assumption, by assumption⟩))
                                  simp only [Prod.mk.injEq] at hq
                                  obtain ⟨rfl, rfl⟩ := hq
                                  refine .ret rfl ?_
                                  constructor <;> simp only [AV.leL, AV.le, Mem.le, Mem.leP, Blk.le, Blk.pad, Data.le, Data.size, Cap.le, and_true, true_and, and_self, true_implies, implies_true, imp_self, List.length_nil] <;> (repeat' with_reducible refine And.intro ?_ ?_) <;> (try simp only [Int.toNat_natCast, Nat.mul_one, Nat.add_zero, Nat.zero_add]) <;> done)
                                | (
                                  have hq := hr.1 (by rw [List.take_of_length_le (by omega)] at ha; exact ha)
                                  simp only [Prod.mk.injEq] at hq
                                  obtain ⟨rfl, rfl⟩ := hq
                                  refine .exit rfl ?_
                                  constructor <;> simp only [AV.leL, AV.le, Mem.le, Mem.leP, Blk.le, Blk.pad, Data.le, Data.size, Cap.le, and_true, true_and, and_self, true_implies, implies_true, imp_self, List.length_nil] <;> (repeat' with_reducible refine And.intro ?_ ?_) <;> (try simp only [Int.toNat_natCast, Nat.mul_one, Nat.add_zero, Nat.zero_add]) <;> rw [List.take_of_length_le (by omega)])
                          · (try simp only [decide_eq_true_eq, decide_eq_false_iff_not, Bool.not_eq_true', Bool.not_eq_false', beq_iff_eq, beq_eq_false_iff_ne, Int.not_lt, Int.not_le, ge_iff_le, gt_iff_lt, ne_eq, Bool.false_eq_true, Bool.true_eq_false, not_true_eq_false, not_false_eq_true, Bool.and_eq_true, Bool.not_eq_eq_eq_not, Bool.not_true, Bool.not_false, bne_iff_ne, bne_eq_false_iff_eq, Int.toNat_natCast, Nat.mul_one, Nat.add_zero, Nat.zero_add, List.take_length, List.drop_zero] at h7)
                            all_goals
                              refine Tree.Sat.chk (by first | (simp only [and_self]; done) | (exact ⟨⟨trivial, trivial, trivial⟩, h1k, h4k⟩)) ?_
                              refine Tree.Sat.br (fun h8 => ?_) (fun h8 => ?_)
                              · (try simp only [decide_eq_true_eq, decide_eq_false_iff_not, Bool.not_eq_true', Bool.not_eq_false', beq_iff_eq, beq_eq_false_iff_ne, Int.not_lt, Int.not_le, ge_iff_le, gt_iff_lt, ne_eq, Bool.false_eq_true, Bool.true_eq_false, not_true_eq_false, not_false_eq_true, Bool.and_eq_true, Bool.not_eq_eq_eq_not, Bool.not_true, Bool.not_false, bne_iff_ne, bne_eq_false_iff_eq, Int.toNat_natCast, Nat.mul_one, Nat.add_zero, Nat.zero_add, List.take_length, List.drop_zero] at h8)
                                all_goals
                                  refine Tree.Sat.br (fun h9 => ?_) (fun h9 => ?_)
                                  · (try simp only [decide_eq_true_eq, decide_eq_false_iff_not, Bool.not_eq_true', Bool.not_eq_false', beq_iff_eq, beq_eq_false_iff_ne, Int.not_lt, Int.not_le, ge_iff_le, gt_iff_lt, ne_eq, Bool.false_eq_true, Bool.true_eq_false, not_true_eq_false, not_false_eq_true, Bool.and_eq_true, Bool.not_eq_eq_eq_not, Bool.not_true, Bool.not_false, bne_iff_ne, bne_eq_false_iff_eq, Int.toNat_natCast, Nat.mul_one, Nat.add_zero, Nat.zero_add, List.take_length, List.drop_zero] at h9)
                                    all_goals
                                      refine Tree.Sat.ret ?_
                                      refine .norm ⟨k, zl, l, i + 1⟩ ?_ ?_ ⟨?_, ?_⟩
                                      · constructor <;> simp only [hdall28_0, AV.leL, AV.le, Mem.le, Mem.leP, Blk.le, Blk.pad, Data.le, Data.size, Cap.le, and_true, true_and, and_self, true_implies, implies_true, imp_self, List.length_nil] <;> (repeat' with_reducible refine And.intro ?_ ?_) <;> (try simp only [Int.toNat_natCast, Nat.mul_one, Nat.add_zero, Nat.zero_add]) <;> first | exact wadd1 (by omega) | exact flat_nil (k := k) (l := l) (i := i) (by omega) | (rw [brec]; exact flat_nil (k := k) (l := l) (i := i) (by omega)) | (simp only [List.take_length, List.drop_zero, Nat.mul_one]; exact flat_step (by omega)) | (rw [← flat_step (by omega), List.length_append])
                                      · simp only [muall28_0]; omega
                                      · refine ⟨h1k, h4k, hl, hw, by omega, hz, all_take_succ (by omega) ha ?_⟩
                                        rw [plain_fits h1k h4k (wfL_get hw (by omega))]
                                        simp only [Bool.and_eq_true, decide_eq_true_eq, Bool.or_eq_true, beq_iff_eq]; first | omega | (refine ⟨by omega, ?_⟩; first | exact .inl (by assumption) | exact .inr (by assumption))
                                      · exact hr
                                  · (try simp only [decide_eq_true_eq, decide_eq_false_iff_not, Bool.not_eq_true', Bool.not_eq_false', beq_iff_eq, beq_eq_false_iff_ne, Int.not_lt, Int.not_le, ge_iff_le, gt_iff_lt, ne_eq, Bool.false_eq_true, Bool.true_eq_false, not_true_eq_false, not_false_eq_true, Bool.and_eq_true, Bool.not_eq_eq_eq_not, Bool.not_true, Bool.not_false, bne_iff_ne, bne_eq_false_iff_eq, Int.toNat_natCast, Nat.mul_one, Nat.add_zero, Nat.zero_add, List.take_length, List.drop_zero] at h9)
                                    all_goals
                                      exfalso
                                      first | omega | (simp only [most48, Data.size, List.length_take, List.drop_zero, Bool.and_eq_true, decide_eq_true_eq, decide_eq_false_iff_not, Bool.and_eq_false_iff, Int.toNat_natCast] at *; omega) | (simp only [w64] at *; omega) | (simp only [most48] at *; omega) | (simp [Data.size, List.take_length] at *; done) | (cases zl <;> simp_all; done) | (cases zl <;> simp_all <;> omega)
                              · (try simp only [decide_eq_true_eq, decide_eq_false_iff_not, Bool.not_eq_true', Bool.not_eq_false', beq_iff_eq, beq_eq_false_iff_ne, Int.not_lt, Int.not_le, ge_iff_le, gt_iff_lt, ne_eq, Bool.false_eq_true, Bool.true_eq_false, not_true_eq_false, not_false_eq_true, Bool.and_eq_true, Bool.not_eq_eq_eq_not, Bool.not_true, Bool.not_false, bne_iff_ne, bne_eq_false_iff_eq, Int.toNat_natCast, Nat.mul_one, Nat.add_zero, Nat.zero_add, List.take_length, List.drop_zero] at h8)
                                all_goals
                                  exfalso
                                  first | omega | (simp only [most48, Data.size, List.length_take, List.drop_zero, Bool.and_eq_true, decide_eq_true_eq, decide_eq_false_iff_not, Bool.and_eq_false_iff, Int.toNat_natCast] at *; omega) | (simp only [w64] at *; omega) | (simp only [most48] at *; omega) | (simp [Data.size, List.take_length] at *; done) | (cases zl <;> simp_all; done) | (cases zl <;> simp_all <;> omega)
                      · (try simp only [decide_eq_true_eq, decide_eq_false_iff_not, Bool.not_eq_true', Bool.not_eq_false', beq_iff_eq, beq_eq_false_iff_ne, Int.not_lt, Int.not_le, ge_iff_le, gt_iff_lt, ne_eq, Bool.false_eq_true, Bool.true_eq_false, not_true_eq_false, not_false_eq_true, Bool.and_eq_true, Bool.not_eq_eq_eq_not, Bool.not_true, Bool.not_false, bne_iff_ne, bne_eq_false_iff_eq, Int.toNat_natCast, Nat.mul_one, Nat.add_zero, Nat.zero_add, List.take_length, List.drop_zero] at h6)
                        all_goals
                          exfalso
                          first | omega | (simp only [most48, Data.size, List.length_take, List.drop_zero, Bool.and_eq_true, decide_eq_true_eq, decide_eq_false_iff_not, Bool.and_eq_false_iff, Int.toNat_natCast] at *; omega) | (simp only [w64] at *; omega) | (simp only [most48] at *; omega) | (simp [Data.size, List.take_length] at *; done) | (cases zl <;> simp_all; done) | (cases zl <;> simp_all <;> omega)
              · (try simp only [decide_eq_true_eq, decide_eq_false_iff_not, Bool.not_eq_true', Bool.not_eq_false', beq_iff_eq, beq_eq_false_iff_ne, Int.not_lt, Int.not_le, ge_iff_le, gt_iff_lt, ne_eq, Bool.false_eq_true, Bool.true_eq_false, not_true_eq_false, not_false_eq_true, Bool.and_eq_true, Bool.not_eq_eq_eq_not, Bool.not_true, Bool.not_false, bne_iff_ne, bne_eq_false_iff_eq, Int.toNat_natCast, Nat.mul_one, Nat.add_zero, Nat.zero_add, List.take_length, List.drop_zero] at h4)
                all_goals
                  refine Tree.Sat.ret ?_
                  first
                    | (
                      have hq := hr.2 (all_miss (i := i) (by omega) (by rw [plain_fits h1k h4k (wfL_get hw (by omega))]; simp only [Bool.and_eq_false_iff, decide_eq_false_iff_not, Bool.or_eq_false_iff, beq_eq_false_iff_ne, ne_eq]; first | exact .inl (by omega) | exact .inr ⟨by assumption, by assumption⟩))
                      simp only [Prod.mk.injEq] at hq
                      obtain ⟨rfl, rfl⟩ := hq
                      refine .ret rfl ?_
                      constructor <;> simp only [AV.leL, AV.le, Mem.le, Mem.leP, Blk.le, Blk.pad, Data.le, Data.size, Cap.le, and_true, true_and, and_self, true_implies, implies_true, imp_self, List.length_nil] <;> (repeat' with_reducible refine And.intro ?_ ?_) <;> (try simp only [Int.toNat_natCast, Nat.mul_one, Nat.add_zero, Nat.zero_add]) <;> done)
                    | (
                      have hq := hr.1 (by rw [List.take_of_length_le (by omega)] at ha; exact ha)
                      simp only [Prod.mk.injEq] at hq
                      obtain ⟨rfl, rfl⟩ := hq
                      refine .exit rfl ?_
                      constructor <;> simp only [AV.leL, AV.le, Mem.le, Mem.leP, Blk.le, Blk.pad, Data.le, Data.size, Cap.le, and_true, true_and, and_self, true_implies, implies_true, imp_self, List.length_nil] <;> (repeat' with_reducible refine And.intro ?_ ?_) <;> (try simp only [Int.toNat_natCast, Nat.mul_one, Nat.add_zero, Nat.zero_add]) <;> rw [List.take_of_length_le (by omega)])
          · (try simp only [decide_eq_true_eq, decide_eq_false_iff_not, Bool.not_eq_true', Bool.not_eq_false', beq_iff_eq, beq_eq_false_iff_ne, Int.not_lt, Int.not_le, ge_iff_le, gt_iff_lt, ne_eq, Bool.false_eq_true, Bool.true_eq_false, not_true_eq_false, not_false_eq_true, Bool.and_eq_true, Bool.not_eq_eq_eq_not, Bool.not_true, Bool.not_false, bne_iff_ne, bne_eq_false_iff_eq, Int.toNat_natCast, Nat.mul_one, Nat.add_zero, Nat.zero_add, List.take_length, List.drop_zero] at h3)
            all_goals
              exfalso
              first | omega | (simp only [most48, Data.size, List.length_take, List.drop_zero, Bool.and_eq_true, decide_eq_true_eq, decide_eq_false_iff_not, Bool.and_eq_false_iff, Int.toNat_natCast] at *; omega) | (simp only [w64] at *; omega) | (simp only [most48] at *; omega) | (simp [Data.size, List.take_length] at *; done) | (cases zl <;> simp_all; done) | (cases zl <;> simp_all <;> omega)
      · (try simp only [decide_eq_true_eq, decide_eq_false_iff_not, Bool.not_eq_true', Bool.not_eq_false', beq_iff_eq, beq_eq_false_iff_ne, Int.not_lt, Int.not_le, ge_iff_le, gt_iff_lt, ne_eq, Bool.false_eq_true, Bool.true_eq_false, not_true_eq_false, not_false_eq_true, Bool.and_eq_true, Bool.not_eq_eq_eq_not, Bool.not_true, Bool.not_false, bne_iff_ne, bne_eq_false_iff_eq, Int.toNat_natCast, Nat.mul_one, Nat.add_zero, Nat.zero_add, List.take_length, List.drop_zero] at h2)
        all_goals
          exfalso
          first | omega | (simp only [most48, Data.size, List.length_take, List.drop_zero, Bool.and_eq_true, decide_eq_true_eq, decide_eq_false_iff_not, Bool.and_eq_false_iff, Int.toNat_natCast] at *; omega) | (simp only [w64] at *; omega) | (simp only [most48] at *; omega) | (simp [Data.size, List.take_length] at *; done) | (cases zl <;> simp_all; done) | (cases zl <;> simp_all <;> omega)
  · (try simp only [decide_eq_true_eq, decide_eq_false_iff_not, Bool.not_eq_true', Bool.not_eq_false', beq_iff_eq, beq_eq_false_iff_ne, Int.not_lt, Int.not_le, ge_iff_le, gt_iff_lt, ne_eq, Bool.false_eq_true, Bool.true_eq_false, not_true_eq_false, not_false_eq_true, Bool.and_eq_true, Bool.not_eq_eq_eq_not, Bool.not_true, Bool.not_false, bne_iff_ne, bne_eq_false_iff_eq, Int.toNat_natCast, Nat.mul_one, Nat.add_zero, Nat.zero_add, List.take_length, List.drop_zero] at h1)
    all_goals
      refine Tree.Sat.ret ?_
      first
        | (
          have hq := hr.2 (all_miss (i := i) (by omega) (by rw [plain_fits h1k h4k (wfL_get hw (by omega))]; simp only [Bool.and_eq_false_iff, decide_eq_false_iff_not, Bool.or_eq_false_iff, beq_eq_false_iff_ne, ne_eq]; first | exact .inl (by omega) | exact .inr ⟨by assumption, by assumption⟩))
          simp only [Prod.mk.injEq] at hq
          obtain ⟨rfl, rfl⟩ := hq
          refine .ret rfl ?_
          constructor <;> simp only [AV.leL, AV.le, Mem.le, Mem.leP, Blk.le, Blk.pad, Data.le, Data.size, Cap.le, and_true, true_and, and_self, true_implies, implies_true, imp_self, List.length_nil] <;> (repeat' with_reducible refine And.intro ?_ ?_) <;> (try simp only [Int.toNat_natCast, Nat.mul_one, Nat.add_zero, Nat.zero_add]) <;> done)
        | (
          have hq := hr.1 (by rw [List.take_of_length_le (by omega)] at ha; exact ha)
          simp only [Prod.mk.injEq] at hq
          obtain ⟨rfl, rfl⟩ := hq
          refine .exit rfl ?_
          constructor <;> simp only [AV.leL, AV.le, Mem.le, Mem.leP, Blk.le, Blk.pad, Data.le, Data.size, Cap.le, and_true, true_and, and_self, true_implies, implies_true, imp_self, List.length_nil] <;> (repeat' with_reducible refine And.intro ?_ ?_) <;> (try simp only [Int.toNat_natCast, Nat.mul_one, Nat.add_zero, Nat.zero_add]) <;> rw [List.take_of_length_le (by omega)])
theorem loopall28_0 (hall : AllOk Try.prog 0 (fun _ => none) tab13) : LoopOk (mkL Try.prog 0 (fun _ => none) tab13 rowsall28) 25 2 (bodyAt Try.prog 25 0) := by
  have hkey : Code.key (bodyAt Try.prog 25 0) = 5 := by kernel_rfl
  have hin : loopsIn (bodyAt Try.prog 25 0) = [] := by kernel_rfl
  have hrow : lookL rowsall28 25 (Code.key (bodyAt Try.prog 25 0)) = some rowall28_0 := by rw [hkey]; rfl
  refine loop_rowP (X := Xall28_0) (row := rowall28_0) hall mix hrow (fun b hb _ => by rw [hin] at hb; cases hb) Uall28_0 hdall28_0 resall28_0 muall28_0 (fun st ex r h => ?_) (fun x ex r hr => ?_)
  · have h' : (ansall28_0 st).runs (ex, r) := h
    unfold ansall28_0 at h'
    split at h'
    · obtain ⟨q1, q2⟩ := Tree.chk_runs h'
      exact ⟨_, q1, q2⟩
    · exact h'.elim
  · obtain ⟨k, zl, l, i⟩ := x
    have := stepall28_0 k zl l i ex r hr.1 hr.2
    rw [← tLall28_0] at this
    exact this
theorem loopsall28 (hall : AllOk Try.prog 0 (fun _ => none) tab13) : ∀ i, i < (loopsAt Try.prog 25).length → LoopOk (mkL Try.prog 0 (fun _ => none) tab13 rowsall28) 25 2 (bodyAt Try.prog 25 i) := by
  intro i hi
  have hlen : (loopsAt Try.prog 25).length = 1 := by kernel_rfl
  rw [hlen] at hi
  obtain rfl : i = 0 := by omega
  · exact loopall28_0 hall
set_option maxRecDepth 100000 in
theorem tall28 (k : Int) (zl : Bool) (l : List Int) (kk : Int) : evBody (mkL Try.prog 0 (fun _ => none) tab13 rowsall28) (evCall (mkC Try.prog 0 (fun _ => none) tab13) 50) 25 [.int .i64 false k, .sl zl ⟨0, 0, 0, 0⟩ false l.length .any, .fn (.func 28) [] [.ptr ⟨1, 0, 0, 0⟩]] [some ⟨3, false, false, true, .ints .i64 l⟩, some ⟨3, false, false, false, .cells [.int .i64 false kk]⟩] =
  Tree.br (decide (k < (1 : Int)))
    (Tree.ret
      (AV.tup [AV.sl true (Ref.mk (0) (0) (0) (0)) true (0) Cap.exact, AV.int IntKind.i64 true (2 : Int)],
        [some (Blk.mk (3) false false true (Data.ints IntKind.i64 l)), some (Blk.mk (3) false false false (Data.cells [AV.int IntKind.i64 false kk]))]))
    (Tree.br (decide (k > (4 : Int)))
      (Tree.ret
        (AV.tup [AV.sl true (Ref.mk (0) (0) (0) (0)) true (0) Cap.exact, AV.int IntKind.i64 true (2 : Int)],
          [some (Blk.mk (3) false false true (Data.ints IntKind.i64 l)), some (Blk.mk (3) false false false (Data.cells [AV.int IntKind.i64 false kk]))]))
      (Tree.chk
        (St.le
          (St.mk
            [AV.int IntKind.i64 false k, AV.junk, AV.fn (Fn.func (28)) [] [AV.ptr (Ref.mk (1) (0) (0) (0))], AV.junk, AV.junk, AV.junk, AV.junk, AV.junk,
              AV.sl true (Ref.mk (2) (0) (0) (0)) false (0) Cap.own, AV.junk, AV.junk, AV.junk, AV.junk, AV.junk, AV.junk, AV.junk, AV.junk,
              AV.sl zl (Ref.mk (0) (0) (0) (0)) false (List.length l) Cap.any, AV.int IntKind.i64 false ((List.length l) : Int), AV.int IntKind.i64 true (0 : Int), AV.junk, AV.junk, AV.junk, AV.junk, AV.junk,
              AV.junk, AV.junk, AV.junk, AV.junk, AV.junk, AV.junk, AV.junk, AV.junk, AV.junk]
            [some (Blk.mk (3) false false true (Data.ints IntKind.i64 l)), some (Blk.mk (3) false false false (Data.cells [AV.int IntKind.i64 false kk])),
              some (Blk.mk (3) true true true (Data.ints IntKind.i64 []))])
          (St.mk
            [AV.int IntKind.i64 false k, AV.junk, AV.fn (Fn.func (28)) [] [AV.ptr (Ref.mk (1) (0) (0) (0))], AV.junk, AV.junk, AV.junk, AV.junk, AV.junk,
              AV.sl true (Ref.mk (2) (0) (0) (0)) false (0) Cap.own, AV.junk, AV.junk, AV.junk, AV.junk, AV.junk, AV.junk, AV.junk, AV.junk,
              AV.sl zl (Ref.mk (0) (0) (0) (0)) false (List.length l) Cap.any, AV.int IntKind.i64 false ((List.length l) : Int), AV.int IntKind.i64 false (0 : Int), AV.junk, AV.junk, AV.junk, AV.junk,
              AV.junk, AV.junk, AV.junk, AV.junk, AV.junk, AV.junk, AV.junk, AV.junk, AV.junk, AV.junk]
            [some (Blk.mk (3) false false true (Data.ints IntKind.i64 l)), some (Blk.mk (3) false false false (Data.cells [AV.int IntKind.i64 false k])),
              some (Blk.mk (3) true true true (Data.ints IntKind.i64 (List.flatMap (wordsZ k) (List.take (Int.toNat (0 : Int)) l))))]))
        (Tree.chk (okall28_0 (Xall28_0.mk k zl l (Int.toNat (0 : Int))))
          (Tree.br (List.all l (fitsZ false k))
            (Tree.ret
              (AV.tup [AV.sl (decide (List.flatMap (wordsZ k) l = [])) (Ref.mk (2) (0) (0) (0)) false (List.length (List.flatMap (wordsZ k) l)) Cap.own, AV.int IntKind.i64 true (0 : Int)],
                [some (Blk.mk (3) false false true (Data.ints IntKind.i64 l)), some (Blk.mk (3) false false false (Data.cells [AV.int IntKind.i64 false k])),
                  some (Blk.mk (3) true (decide ((List.flatMap (wordsZ k) l) = [])) true (Data.ints IntKind.i64 (List.flatMap (wordsZ k) l)))]))
            (Tree.ret
              (AV.tup [AV.sl true (Ref.mk (0) (0) (0) (0)) true (0) Cap.exact, AV.int IntKind.i64 true (2 : Int)],
                [some (Blk.mk (3) false false true (Data.ints IntKind.i64 l)), some (Blk.mk (3) false false false (Data.cells [AV.int IntKind.i64 false k]))])))))) := by kernel_rfl
set_option maxRecDepth 100000 in
theorem gall28 (k : Int) (zl : Bool) (l : List Int) (kk : Int) (hw : kk = k ∧ l.length ≤ 100000 ∧ wf64L l ∧ (zl = true → l = [])) : (Tree.br (decide (k < (1 : Int)))
    (Tree.ret
      (AV.tup [AV.sl true (Ref.mk (0) (0) (0) (0)) true (0) Cap.exact, AV.int IntKind.i64 true (2 : Int)],
        [some (Blk.mk (3) false false true (Data.ints IntKind.i64 l)), some (Blk.mk (3) false false false (Data.cells [AV.int IntKind.i64 false kk]))]))
    (Tree.br (decide (k > (4 : Int)))
      (Tree.ret
        (AV.tup [AV.sl true (Ref.mk (0) (0) (0) (0)) true (0) Cap.exact, AV.int IntKind.i64 true (2 : Int)],
          [some (Blk.mk (3) false false true (Data.ints IntKind.i64 l)), some (Blk.mk (3) false false false (Data.cells [AV.int IntKind.i64 false kk]))]))
      (Tree.chk
        (St.le
          (St.mk
            [AV.int IntKind.i64 false k, AV.junk, AV.fn (Fn.func (28)) [] [AV.ptr (Ref.mk (1) (0) (0) (0))], AV.junk, AV.junk, AV.junk, AV.junk, AV.junk,
              AV.sl true (Ref.mk (2) (0) (0) (0)) false (0) Cap.own, AV.junk, AV.junk, AV.junk, AV.junk, AV.junk, AV.junk, AV.junk, AV.junk,
              AV.sl zl (Ref.mk (0) (0) (0) (0)) false (List.length l) Cap.any, AV.int IntKind.i64 false ((List.length l) : Int), AV.int IntKind.i64 true (0 : Int), AV.junk, AV.junk, AV.junk, AV.junk, AV.junk,
              AV.junk, AV.junk, AV.junk, AV.junk, AV.junk, AV.junk, AV.junk, AV.junk, AV.junk]
            [some (Blk.mk (3) false false true (Data.ints IntKind.i64 l)), some (Blk.mk (3) false false false (Data.cells [AV.int IntKind.i64 false kk])),
              some (Blk.mk (3) true true true (Data.ints IntKind.i64 []))])
          (St.mk
            [AV.int IntKind.i64 false k, AV.junk, AV.fn (Fn.func (28)) [] [AV.ptr (Ref.mk (1) (0) (0) (0))], AV.junk, AV.junk, AV.junk, AV.junk, AV.junk,
              AV.sl true (Ref.mk (2) (0) (0) (0)) false (0) Cap.own, AV.junk, AV.junk, AV.junk, AV.junk, AV.junk, AV.junk, AV.junk, AV.junk,
              AV.sl zl (Ref.mk (0) (0) (0) (0)) false (List.length l) Cap.any, AV.int IntKind.i64 false ((List.length l) : Int), AV.int IntKind.i64 false (0 : Int), AV.junk, AV.junk, AV.junk, AV.junk,
              AV.junk, AV.junk, AV.junk, AV.junk, AV.junk, AV.junk, AV.junk, AV.junk, AV.junk, AV.junk]
            [some (Blk.mk (3) false false true (Data.ints IntKind.i64 l)), some (Blk.mk (3) false false false (Data.cells [AV.int IntKind.i64 false k])),
              some (Blk.mk (3) true true true (Data.ints IntKind.i64 (List.flatMap (wordsZ k) (List.take (Int.toNat (0 : Int)) l))))]))
        (Tree.chk (okall28_0 (Xall28_0.mk k zl l (Int.toNat (0 : Int))))
          (Tree.br (List.all l (fitsZ false k))
            (Tree.ret
              (AV.tup [AV.sl (decide (List.flatMap (wordsZ k) l = [])) (Ref.mk (2) (0) (0) (0)) false (List.length (List.flatMap (wordsZ k) l)) Cap.own, AV.int IntKind.i64 true (0 : Int)],
                [some (Blk.mk (3) false false true (Data.ints IntKind.i64 l)), some (Blk.mk (3) false false false (Data.cells [AV.int IntKind.i64 false k])),
                  some (Blk.mk (3) true (decide ((List.flatMap (wordsZ k) l) = [])) true (Data.ints IntKind.i64 (List.flatMap (wordsZ k) l)))]))
            (Tree.ret
              (AV.tup [AV.sl true (Ref.mk (0) (0) (0) (0)) true (0) Cap.exact, AV.int IntKind.i64 true (2 : Int)],
                [some (Blk.mk (3) false false true (Data.ints IntKind.i64 l)), some (Blk.mk (3) false false false (Data.cells [AV.int IntKind.i64 false k]))])))))) : Tree (AV × Mem)).GivesP (.tup [.sl (decide (putL false k l = [])) ⟨2, 0, 0, 0⟩ false (putL false k l).length .own, .int .i64 false (putE false k l)]) ([some ⟨3, false, false, true, .ints .i64 l⟩, some ⟨3, false, false, false, .cells [.int .i64 false kk]⟩, some (⟨3, true, decide (putL false k l = []), true, .ints .i64 (putL false k l)⟩)]) := by
  obtain ⟨rfl, hl, hw, hz⟩ := hw
  refine Tree.GivesP.br (fun h1 => ?_) (fun h1 => ?_)
  · (try simp only [decide_eq_true_eq, decide_eq_false_iff_not, Bool.not_eq_true', Bool.not_eq_false', beq_iff_eq, beq_eq_false_iff_ne, Int.not_lt, Int.not_le, ge_iff_le, gt_iff_lt, ne_eq, Bool.false_eq_true, Bool.true_eq_false, not_true_eq_false, not_false_eq_true, Bool.and_eq_true, Bool.not_eq_eq_eq_not, Bool.not_true, Bool.not_false, bne_iff_ne, bne_eq_false_iff_eq, Int.toNat_natCast, Nat.mul_one, Nat.add_zero, Nat.zero_add, List.take_length, List.drop_zero] at h1)
    all_goals
      refine Tree.GivesP.ret ?_ ?_
      · have e : putOk false kk l = false := by simp [putOk, kOk]; omega
        simp [AV.le, AV.leL, putL, putE, e, Cap.le]
      · have e : putOk false kk l = false := by simp [putOk, kOk]; omega
        simp [Mem.leP, Blk.le, Blk.pad, Data.le, Data.size, putL, putE, e, AV.le, AV.leL]
  · (try simp only [decide_eq_true_eq, decide_eq_false_iff_not, Bool.not_eq_true', Bool.not_eq_false', beq_iff_eq, beq_eq_false_iff_ne, Int.not_lt, Int.not_le, ge_iff_le, gt_iff_lt, ne_eq, Bool.false_eq_true, Bool.true_eq_false, not_true_eq_false, not_false_eq_true, Bool.and_eq_true, Bool.not_eq_eq_eq_not, Bool.not_true, Bool.not_false, bne_iff_ne, bne_eq_false_iff_eq, Int.toNat_natCast, Nat.mul_one, Nat.add_zero, Nat.zero_add, List.take_length, List.drop_zero] at h1)
    all_goals
      refine Tree.GivesP.br (fun h2 => ?_) (fun h2 => ?_)
      · (try simp only [decide_eq_true_eq, decide_eq_false_iff_not, Bool.not_eq_true', Bool.not_eq_false', beq_iff_eq, beq_eq_false_iff_ne, Int.not_lt, Int.not_le, ge_iff_le, gt_iff_lt, ne_eq, Bool.false_eq_true, Bool.true_eq_false, not_true_eq_false, not_false_eq_true, Bool.and_eq_true, Bool.not_eq_eq_eq_not, Bool.not_true, Bool.not_false, bne_iff_ne, bne_eq_false_iff_eq, Int.toNat_natCast, Nat.mul_one, Nat.add_zero, Nat.zero_add, List.take_length, List.drop_zero] at h2)
        all_goals
          refine Tree.GivesP.ret ?_ ?_
          · have e : putOk false kk l = false := by simp [putOk, kOk]; omega
            simp [AV.le, AV.leL, putL, putE, e, Cap.le]
          · have e : putOk false kk l = false := by simp [putOk, kOk]; omega
            simp [Mem.leP, Blk.le, Blk.pad, Data.le, Data.size, putL, putE, e, AV.le, AV.leL]
      · (try simp only [decide_eq_true_eq, decide_eq_false_iff_not, Bool.not_eq_true', Bool.not_eq_false', beq_iff_eq, beq_eq_false_iff_ne, Int.not_lt, Int.not_le, ge_iff_le, gt_iff_lt, ne_eq, Bool.false_eq_true, Bool.true_eq_false, not_true_eq_false, not_false_eq_true, Bool.and_eq_true, Bool.not_eq_eq_eq_not, Bool.not_true, Bool.not_false, bne_iff_ne, bne_eq_false_iff_eq, Int.toNat_natCast, Nat.mul_one, Nat.add_zero, Nat.zero_add, List.take_length, List.drop_zero] at h2)
        all_goals
          refine Tree.GivesP.chk (by first | (simp only [and_self]; done) | (constructor <;> simp only [hdall28_0, Int.toNat_zero, Int.cast_ofNat_Int, AV.leL, AV.le, Mem.le, Mem.leP, Blk.le, Blk.pad, Data.le, Data.size, Cap.le, and_true, true_and, and_self, true_implies, implies_true, imp_self, List.length_nil] <;> (try simp only [List.take_zero]) <;> (try rfl) <;> simp)) ?_
          refine Tree.GivesP.chk (by first | (simp only [and_self]; done) | (exact ⟨by omega, by omega, hl, hw, Nat.zero_le _, hz, rfl⟩)) ?_
          refine Tree.GivesP.br (fun h3 => ?_) (fun h3 => ?_)
          · (try simp only [decide_eq_true_eq, decide_eq_false_iff_not, Bool.not_eq_true', Bool.not_eq_false', beq_iff_eq, beq_eq_false_iff_ne, Int.not_lt, Int.not_le, ge_iff_le, gt_iff_lt, ne_eq, Bool.false_eq_true, Bool.true_eq_false, not_true_eq_false, not_false_eq_true, Bool.and_eq_true, Bool.not_eq_eq_eq_not, Bool.not_true, Bool.not_false, bne_iff_ne, bne_eq_false_iff_eq, Int.toNat_natCast, Nat.mul_one, Nat.add_zero, Nat.zero_add, List.take_length, List.drop_zero] at h3)
            all_goals
              refine Tree.GivesP.ret ?_ ?_
              · have e : putOk false kk l = true := by simp only [putOk, kOk, h3, Bool.and_true, decide_eq_true_eq]; omega
                simp [AV.le, AV.leL, putL, putE, e, Cap.le]
              · have e : putOk false kk l = true := by simp only [putOk, kOk, h3, Bool.and_true, decide_eq_true_eq]; omega
                simp [Mem.leP, Blk.le, Blk.pad, Data.le, Data.size, putL, putE, e, AV.le, AV.leL]
          · (try simp only [decide_eq_true_eq, decide_eq_false_iff_not, Bool.not_eq_true', Bool.not_eq_false', beq_iff_eq, beq_eq_false_iff_ne, Int.not_lt, Int.not_le, ge_iff_le, gt_iff_lt, ne_eq, Bool.false_eq_true, Bool.true_eq_false, not_true_eq_false, not_false_eq_true, Bool.and_eq_true, Bool.not_eq_eq_eq_not, Bool.not_true, Bool.not_false, bne_iff_ne, bne_eq_false_iff_eq, Int.toNat_natCast, Nat.mul_one, Nat.add_zero, Nat.zero_add, List.take_length, List.drop_zero] at h3)
            all_goals
              refine Tree.GivesP.ret ?_ ?_
              · have e : putOk false kk l = false := by simp only [putOk, h3, Bool.and_false]
                simp [AV.le, AV.leL, putL, putE, e, Cap.le]
              · have e : putOk false kk l = false := by simp only [putOk, h3, Bool.and_false]
                simp [Mem.leP, Blk.le, Blk.pad, Data.le, Data.size, putL, putE, e, AV.le, AV.leL]
theorem sall28 (hall : AllOk Try.prog 0 (fun _ => none) tab13) (k : Int) (zl : Bool) (l : List Int) (kk : Int) (hw : kk = k ∧ l.length ≤ 100000 ∧ wf64L l ∧ (zl = true → l = [])) : SoundAt (mkC Try.prog 0 (fun _ => none) []) 25 [.int .i64 false k, .sl zl ⟨0, 0, 0, 0⟩ false l.length .any, .fn (.func 28) [] [.ptr ⟨1, 0, 0, 0⟩]] [some ⟨3, false, false, true, .ints .i64 l⟩, some ⟨3, false, false, false, .cells [.int .i64 false kk]⟩] (.tup [.sl (decide (putL false k l = [])) ⟨2, 0, 0, 0⟩ false (putL false k l).length .own, .int .i64 false (putE false k l)], [some ⟨3, false, false, true, .ints .i64 l⟩, some ⟨3, false, false, false, .cells [.int .i64 false kk]⟩, some (⟨3, true, decide (putL false k l = []), true, .ints .i64 (putL false k l)⟩)]) := sound_loopsP hall mix (loopsall28 hall) (tall28 k zl l kk) (gall28 k zl l kk hw)
theorem Fall28_ok (hall : AllOk Try.prog 0 (fun _ => none) tab13) : PureF Try.prog 3 25 Fall28 := by
  intro xs c v news h hc
  unfold Fall28 at h
  split at h
  · rename_i _ k zl l kk
    cases h
    refine ⟨(by simp), SoundAt.flags (sall28 hall k zl l kk hc) ?_⟩
    simp [PA.avs, AV.le, AV.leL, Cap.le]
  · cases h
end Go.Proofs.Ytnkjblmlchbfkaa.Rig

/- Qsigned -/
namespace Go.Proofs.Ytnkjblmlchbfkaa.Rig
open Go
set_option maxRecDepth 100000 in
theorem tsigned (k : Int) (zl : Bool) (l : List Int) : evBody (mkC Try.prog 0 (fun _ => none) tab14) (evCall (mkC Try.prog 0 (fun _ => none) tab14) 50) 9 [.int .i64 false k, .sl zl ⟨0, 0, 0, 0⟩ false l.length .any] [some ⟨3, false, false, true, .ints .i64 l⟩] =
  Tree.chk
    ((True ∧ 0 + List.length l ≤ List.length l ∧ True ∧ True) ∧
      k = k ∧
        List.length (List.take (List.length l) (List.drop (0) l)) ≤ 100000 ∧
          wf64L (List.take (List.length l) (List.drop (0) l)) ∧ (zl = true → List.take (List.length l) (List.drop (0) l) = []))
    (Tree.ret
      (AV.tup
          [AV.sl (decide (putL true k (List.take (List.length l) (List.drop (0) l)) = [])) (Ref.mk (1) (0) (0) (0)) false
              (List.length (putL true k (List.take (List.length l) (List.drop (0) l)))) Cap.own,
            AV.int IntKind.i64 false (putE true k (List.take (List.length l) (List.drop (0) l)))],
        [some (Blk.mk (3) false false true (Data.ints IntKind.i64 l)),
          some
            (Blk.mk (3) true (decide ((putL true k (List.take (List.length l) (List.drop (0) l))) = [])) true
              (Data.ints IntKind.i64 (putL true k (List.take (List.length l) (List.drop (0) l)))))])) := by kernel_rfl
set_option maxRecDepth 100000 in
theorem gsigned (k : Int) (zl : Bool) (l : List Int) (hw : l.length ≤ 100000 ∧ wf64L l ∧ (zl = true → l = [])) : (Tree.chk
    ((True ∧ 0 + List.length l ≤ List.length l ∧ True ∧ True) ∧
      k = k ∧
        List.length (List.take (List.length l) (List.drop (0) l)) ≤ 100000 ∧
          wf64L (List.take (List.length l) (List.drop (0) l)) ∧ (zl = true → List.take (List.length l) (List.drop (0) l) = []))
    (Tree.ret
      (AV.tup
          [AV.sl (decide (putL true k (List.take (List.length l) (List.drop (0) l)) = [])) (Ref.mk (1) (0) (0) (0)) false
              (List.length (putL true k (List.take (List.length l) (List.drop (0) l)))) Cap.own,
            AV.int IntKind.i64 false (putE true k (List.take (List.length l) (List.drop (0) l)))],
        [some (Blk.mk (3) false false true (Data.ints IntKind.i64 l)),
          some
            (Blk.mk (3) true (decide ((putL true k (List.take (List.length l) (List.drop (0) l))) = [])) true
              (Data.ints IntKind.i64 (putL true k (List.take (List.length l) (List.drop (0) l)))))])) : Tree (AV × Mem)).GivesP (.tup [.sl (decide (putL true k l = [])) ⟨1, 0, 0, 0⟩ false (putL true k l).length .own, .int .i64 false (putE true k l)]) ([some ⟨3, false, false, true, .ints .i64 l⟩, some (⟨3, true, decide (putL true k l = []), true, .ints .i64 (putL true k l)⟩)]) := by
  refine Tree.GivesP.chk (by first | (simp only [and_self]; done) | (simp only [List.take_length, List.drop_zero, Ref.pos, Nat.zero_mul, Nat.mul_zero, Nat.zero_add, Nat.add_zero, Nat.le_refl, true_and, and_true, and_self]; exact ⟨hw.1, hw.2.1, hw.2.2⟩)) ?_
  refine Tree.GivesP.ret ?_ ?_
  · simp only [List.take_length, List.drop_zero, AV.le, AV.leL, Cap.le, and_true, true_and, and_self, imp_self, implies_true]
  · simp only [List.take_length, List.drop_zero, AV.leL, AV.le, Mem.le, Mem.leP, Blk.le, Blk.pad, Data.le, Data.size, Cap.le, and_true, true_and, and_self, true_implies, implies_true, imp_self, List.length_nil]
theorem ssigned (hall : AllOk Try.prog 0 (fun _ => none) tab14) (k : Int) (zl : Bool) (l : List Int) (hw : l.length ≤ 100000 ∧ wf64L l ∧ (zl = true → l = [])) : SoundAt (mkC Try.prog 0 (fun _ => none) []) 9 [.int .i64 false k, .sl zl ⟨0, 0, 0, 0⟩ false l.length .any] [some ⟨3, false, false, true, .ints .i64 l⟩] (.tup [.sl (decide (putL true k l = [])) ⟨1, 0, 0, 0⟩ false (putL true k l).length .own, .int .i64 false (putE true k l)], [some ⟨3, false, false, true, .ints .i64 l⟩, some (⟨3, true, decide (putL true k l = []), true, .ints .i64 (putL true k l)⟩)]) := sound_ofP hall mix (tsigned k zl l) (gsigned k zl l hw)
theorem Fsigned_ok (hall : AllOk Try.prog 0 (fun _ => none) tab14) : PureF Try.prog 3 9 Fsigned := by
  intro xs c v news h hc
  unfold Fsigned at h
  split at h
  · rename_i _ k zl l
    cases h
    refine ⟨(by simp), SoundAt.flags (ssigned hall k zl l hc) ?_⟩
    simp [PA.avs, AV.le, AV.leL, Cap.le]
  · cases h
end Go.Proofs.Ytnkjblmlchbfkaa.Rig

/- Qplain -/
namespace Go.Proofs.Ytnkjblmlchbfkaa.Rig
open Go
set_option maxRecDepth 100000 in
theorem tplain (k : Int) (zl : Bool) (l : List Int) : evBody (mkC Try.prog 0 (fun _ => none) tab15) (evCall (mkC Try.prog 0 (fun _ => none) tab15) 50) 12 [.int .i64 false k, .sl zl ⟨0, 0, 0, 0⟩ false l.length .any] [some ⟨3, false, false, true, .ints .i64 l⟩] =
  Tree.chk
    ((True ∧ 0 + List.length l ≤ List.length l ∧ True ∧ True) ∧
      k = k ∧
        List.length (List.take (List.length l) (List.drop (0) l)) ≤ 100000 ∧
          wf64L (List.take (List.length l) (List.drop (0) l)) ∧ (zl = true → List.take (List.length l) (List.drop (0) l) = []))
    (Tree.ret
      (AV.tup
          [AV.sl (decide (putL false k (List.take (List.length l) (List.drop (0) l)) = [])) (Ref.mk (1) (0) (0) (0)) false
              (List.length (putL false k (List.take (List.length l) (List.drop (0) l)))) Cap.own,
            AV.int IntKind.i64 false (putE false k (List.take (List.length l) (List.drop (0) l)))],
        [some (Blk.mk (3) false false true (Data.ints IntKind.i64 l)),
          some
            (Blk.mk (3) true (decide ((putL false k (List.take (List.length l) (List.drop (0) l))) = [])) true
              (Data.ints IntKind.i64 (putL false k (List.take (List.length l) (List.drop (0) l)))))])) := by kernel_rfl
set_option maxRecDepth 100000 in
theorem gplain (k : Int) (zl : Bool) (l : List Int) (hw : l.length ≤ 100000 ∧ wf64L l ∧ (zl = true → l = [])) : (Tree.chk
    ((True ∧ 0 + List.length l ≤ List.length l ∧ True ∧ True) ∧
      k = k ∧
        List.length (List.take (List.length l) (List.drop (0) l)) ≤ 100000 ∧
          wf64L (List.take (List.length l) (List.drop (0) l)) ∧ (zl = true → List.take (List.length l) (List.drop (0) l) = []))
    (Tree.ret
      (AV.tup
          [AV.sl (decide (putL false k (List.take (List.length l) (List.drop (0) l)) = [])) (Ref.mk (1) (0) (0) (0)) false
              (List.length (putL false k (List.take (List.length l) (List.drop (0) l)))) Cap.own,
            AV.int IntKind.i64 false (putE false k (List.take (List.length l) (List.drop (0) l)))],
        [some (Blk.mk (3) false false true (Data.ints IntKind.i64 l)),
          some
            (Blk.mk (3) true (decide ((putL false k (List.take (List.length l) (List.drop (0) l))) = [])) true
              (Data.ints IntKind.i64 (putL false k (List.take (List.length l) (List.drop (0) l)))))])) : Tree (AV × Mem)).GivesP (.tup [.sl (decide (putL false k l = [])) ⟨1, 0, 0, 0⟩ false (putL false k l).length .own, .int .i64 false (putE false k l)]) ([some ⟨3, false, false, true, .ints .i64 l⟩, some (⟨3, true, decide (putL false k l = []), true, .ints .i64 (putL false k l)⟩)]) := by
  refine Tree.GivesP.chk (by first | (simp only [and_self]; done) | (simp only [List.take_length, List.drop_zero, Ref.pos, Nat.zero_mul, Nat.mul_zero, Nat.zero_add, Nat.add_zero, Nat.le_refl, true_and, and_true, and_self]; exact ⟨hw.1, hw.2.1, hw.2.2⟩)) ?_
  refine Tree.GivesP.ret ?_ ?_
  · simp only [List.take_length, List.drop_zero, AV.le, AV.leL, Cap.le, and_true, true_and, and_self, imp_self, implies_true]
  · simp only [List.take_length, List.drop_zero, AV.leL, AV.le, Mem.le, Mem.leP, Blk.le, Blk.pad, Data.le, Data.size, Cap.le, and_true, true_and, and_self, true_implies, implies_true, imp_self, List.length_nil]
theorem splain (hall : AllOk Try.prog 0 (fun _ => none) tab15) (k : Int) (zl : Bool) (l : List Int) (hw : l.length ≤ 100000 ∧ wf64L l ∧ (zl = true → l = [])) : SoundAt (mkC Try.prog 0 (fun _ => none) []) 12 [.int .i64 false k, .sl zl ⟨0, 0, 0, 0⟩ false l.length .any] [some ⟨3, false, false, true, .ints .i64 l⟩] (.tup [.sl (decide (putL false k l = [])) ⟨1, 0, 0, 0⟩ false (putL false k l).length .own, .int .i64 false (putE false k l)], [some ⟨3, false, false, true, .ints .i64 l⟩, some (⟨3, true, decide (putL false k l = []), true, .ints .i64 (putL false k l)⟩)]) := sound_ofP hall mix (tplain k zl l) (gplain k zl l hw)
theorem Fplain_ok (hall : AllOk Try.prog 0 (fun _ => none) tab15) : PureF Try.prog 3 12 Fplain := by
  intro xs c v news h hc
  unfold Fplain at h
  split at h
  · rename_i _ k zl l
    cases h
    refine ⟨(by simp), SoundAt.flags (splain hall k zl l hc) ?_⟩
    simp [PA.avs, AV.le, AV.leL, Cap.le]
  · cases h
end Go.Proofs.Ytnkjblmlchbfkaa.Rig

/- Qfull -/
namespace Go.Proofs.Ytnkjblmlchbfkaa.Rig
open Go
set_option maxRecDepth 100000 in
theorem tLfull_0 (k : Int) (i : Nat) : tidied Tfull_0 Ufull_0 0 (evCode (mkL Try.prog 0 (fun _ => none) tab16 rowsfull) (evCall (mkC Try.prog 0 (fun _ => none) tab16) 50) 30 0 fuelC (bodyAt Try.prog 30 0) (hdfull_0 ⟨k, i⟩)) =
  Tree.br (decide ((i : Int) < k))
    (Tree.ret
      (Ex.norm,
        St.mk
          [AV.int IntKind.i64 false k, AV.junk, AV.junk, AV.int IntKind.i64 false (IntKind.wrap IntKind.i64 ((2 : Int) ^ (16 * i) * (65536 : Int))), AV.int IntKind.i64 false (IntKind.wrap IntKind.i64 ((i : Int) + (1 : Int))),
            AV.junk, AV.junk, AV.junk, AV.junk, AV.junk, AV.junk, AV.junk, AV.junk]
          []))
    (Tree.ret (Ex.exit (0), St.mk [AV.junk, AV.junk, AV.junk, AV.int IntKind.i64 false ((2 : Int) ^ (16 * i)), AV.junk, AV.junk, AV.junk, AV.junk, AV.junk, AV.junk, AV.junk, AV.junk, AV.junk] [])) := by kernel_rfl
set_option maxRecDepth 100000 in
theorem stepfull_0 (k : Int) (i : Nat) (ex : Ex) (r : St) (hok : okfull_0 ⟨k, i⟩) (hr : (outfull_0 ⟨k, i⟩).runs (ex, r)) : (Tree.br (decide ((i : Int) < k))
    (Tree.ret
      (Ex.norm,
        St.mk
          [AV.int IntKind.i64 false k, AV.junk, AV.junk, AV.int IntKind.i64 false (IntKind.wrap IntKind.i64 ((2 : Int) ^ (16 * i) * (65536 : Int))), AV.int IntKind.i64 false (IntKind.wrap IntKind.i64 ((i : Int) + (1 : Int))),
            AV.junk, AV.junk, AV.junk, AV.junk, AV.junk, AV.junk, AV.junk, AV.junk]
          []))
    (Tree.ret (Ex.exit (0), St.mk [AV.junk, AV.junk, AV.junk, AV.int IntKind.i64 false ((2 : Int) ^ (16 * i)), AV.junk, AV.junk, AV.junk, AV.junk, AV.junk, AV.junk, AV.junk, AV.junk, AV.junk] [])) : Tree (Ex × St)).Sat (Post hdfull_0 resfull_0 mufull_0 ⟨k, i⟩ ex r) := by
  simp only [okfull_0, outfull_0, Tree.runs] at hok hr
  obtain ⟨h0, h3, hi⟩ := hok
  refine Tree.Sat.br (fun h1 => ?_) (fun h1 => ?_)
  · (try simp only [decide_eq_true_eq, decide_eq_false_iff_not, Bool.not_eq_true', Bool.not_eq_false', beq_iff_eq, beq_eq_false_iff_ne, Int.not_lt, Int.not_le, ge_iff_le, gt_iff_lt, ne_eq, Bool.false_eq_true, Bool.true_eq_false, not_true_eq_false, not_false_eq_true, Bool.and_eq_true, Bool.not_eq_eq_eq_not, Bool.not_true, Bool.not_false, bne_iff_ne, bne_eq_false_iff_eq, Int.toNat_natCast, Nat.mul_one, Nat.add_zero, Nat.zero_add, List.take_length, List.drop_zero] at h1)
    all_goals
      refine Tree.Sat.ret ?_
      refine .norm ⟨k, i + 1⟩ ?_ ?_ ⟨?_, ?_⟩
      · constructor <;> simp only [hdfull_0, AV.leL, AV.le, Mem.le, Mem.leP, Blk.le, Blk.pad, Data.le, Data.size, Cap.le, and_true, true_and, and_self, true_implies, implies_true, imp_self, List.length_nil] <;> (repeat' with_reducible refine And.intro ?_ ?_) <;> (try simp only [Int.toNat_natCast, Nat.mul_one, Nat.add_zero, Nat.zero_add]) <;> first | exact wadd1 (by omega) | exact full_step (i := i) (by omega)
      · simp only [mufull_0]; omega
      · exact ⟨h0, h3, by omega⟩
      · exact hr
  · (try simp only [decide_eq_true_eq, decide_eq_false_iff_not, Bool.not_eq_true', Bool.not_eq_false', beq_iff_eq, beq_eq_false_iff_ne, Int.not_lt, Int.not_le, ge_iff_le, gt_iff_lt, ne_eq, Bool.false_eq_true, Bool.true_eq_false, not_true_eq_false, not_false_eq_true, Bool.and_eq_true, Bool.not_eq_eq_eq_not, Bool.not_true, Bool.not_false, bne_iff_ne, bne_eq_false_iff_eq, Int.toNat_natCast, Nat.mul_one, Nat.add_zero, Nat.zero_add, List.take_length, List.drop_zero] at h1)
    all_goals
      refine Tree.Sat.ret ?_
      have hq := hr
      simp only [Prod.mk.injEq] at hq
      obtain ⟨rfl, rfl⟩ := hq
      refine .exit rfl ?_
      constructor <;> simp only [AV.leL, AV.le, Mem.le, Mem.leP, Blk.le, Blk.pad, Data.le, Data.size, Cap.le, and_true, true_and, and_self, true_implies, implies_true, imp_self, List.length_nil] <;> (repeat' with_reducible refine And.intro ?_ ?_) <;> (try simp only [Int.toNat_natCast, Nat.mul_one, Nat.add_zero, Nat.zero_add]) <;> rw [show i = k.toNat by omega]
theorem loopfull_0 (hall : AllOk Try.prog 0 (fun _ => none) tab16) : LoopOk (mkL Try.prog 0 (fun _ => none) tab16 rowsfull) 30 0 (bodyAt Try.prog 30 0) := by
  have hkey : Code.key (bodyAt Try.prog 30 0) = 3 := by kernel_rfl
  have hin : loopsIn (bodyAt Try.prog 30 0) = [] := by kernel_rfl
  have hrow : lookL rowsfull 30 (Code.key (bodyAt Try.prog 30 0)) = some rowfull_0 := by rw [hkey]; rfl
  refine loop_rowP (X := Xfull_0) (row := rowfull_0) hall mix hrow (fun b hb _ => by rw [hin] at hb; cases hb) Ufull_0 hdfull_0 resfull_0 mufull_0 (fun st ex r h => ?_) (fun x ex r hr => ?_)
  · have h' : (ansfull_0 st).runs (ex, r) := h
    unfold ansfull_0 at h'
    split at h'
    · obtain ⟨q1, q2⟩ := Tree.chk_runs h'
      exact ⟨_, q1, q2⟩
    · exact h'.elim
  · obtain ⟨k, i⟩ := x
    have := stepfull_0 k i ex r hr.1 hr.2
    rw [← tLfull_0] at this
    exact this
theorem loopsfull (hall : AllOk Try.prog 0 (fun _ => none) tab16) : ∀ i, i < (loopsAt Try.prog 30).length → LoopOk (mkL Try.prog 0 (fun _ => none) tab16 rowsfull) 30 0 (bodyAt Try.prog 30 i) := by
  intro i hi
  have hlen : (loopsAt Try.prog 30).length = 1 := by kernel_rfl
  rw [hlen] at hi
  obtain rfl : i = 0 := by omega
  · exact loopfull_0 hall
set_option maxRecDepth 100000 in
theorem tfull (k : Int) : evBody (mkL Try.prog 0 (fun _ => none) tab16 rowsfull) (evCall (mkC Try.prog 0 (fun _ => none) tab16) 50) 30 [.int .i64 false k] [] =
  Tree.chk
    (St.le (St.mk [AV.int IntKind.i64 false k, AV.junk, AV.junk, AV.int IntKind.i64 true (1 : Int), AV.int IntKind.i64 true (0 : Int), AV.junk, AV.junk, AV.junk, AV.junk, AV.junk, AV.junk, AV.junk, AV.junk] [])
      (St.mk [AV.int IntKind.i64 false k, AV.junk, AV.junk, AV.int IntKind.i64 false (1 : Int), AV.int IntKind.i64 false (0 : Int), AV.junk, AV.junk, AV.junk, AV.junk, AV.junk, AV.junk, AV.junk, AV.junk] []))
    (Tree.chk (okfull_0 (Xfull_0.mk k (Int.toNat (0 : Int)))) (Tree.ret (AV.int IntKind.i64 false ((2 : Int) ^ (16 * Int.toNat k)), []))) := by kernel_rfl
set_option maxRecDepth 100000 in
theorem gfull (k : Int) (hw : 0 ≤ k ∧ k ≤ 3) : (Tree.chk
    (St.le (St.mk [AV.int IntKind.i64 false k, AV.junk, AV.junk, AV.int IntKind.i64 true (1 : Int), AV.int IntKind.i64 true (0 : Int), AV.junk, AV.junk, AV.junk, AV.junk, AV.junk, AV.junk, AV.junk, AV.junk] [])
      (St.mk [AV.int IntKind.i64 false k, AV.junk, AV.junk, AV.int IntKind.i64 false (1 : Int), AV.int IntKind.i64 false (0 : Int), AV.junk, AV.junk, AV.junk, AV.junk, AV.junk, AV.junk, AV.junk, AV.junk] []))
    (Tree.chk (okfull_0 (Xfull_0.mk k (Int.toNat (0 : Int)))) (Tree.ret (AV.int IntKind.i64 false ((2 : Int) ^ (16 * Int.toNat k)), []))) : Tree (AV × Mem)).GivesP (.int .i64 false ((2 : Int) ^ (16 * k.toNat))) ([]) := by
  refine Tree.GivesP.chk (by first | (simp only [and_self]; done) | (constructor <;> simp only [hdfull_0, Int.toNat_zero, Int.cast_ofNat_Int, AV.leL, AV.le, Mem.le, Mem.leP, Blk.le, Blk.pad, Data.le, Data.size, Cap.le, and_true, true_and, and_self, true_implies, implies_true, imp_self, List.length_nil] <;> (try simp only [List.take_zero]) <;> (try rfl))) ?_
  refine Tree.GivesP.chk (by first | (simp only [and_self]; done) | (exact ⟨hw.1, hw.2, Nat.zero_le _⟩)) ?_
  refine Tree.GivesP.ret ?_ ?_
  · simp only [AV.le, AV.leL, and_true, true_and, and_self]
  · simp only [AV.leL, AV.le, Mem.le, Mem.leP, Blk.le, Blk.pad, Data.le, Data.size, Cap.le, and_true, true_and, and_self, true_implies, implies_true, imp_self, List.length_nil]
theorem sfull (hall : AllOk Try.prog 0 (fun _ => none) tab16) (k : Int) (hw : 0 ≤ k ∧ k ≤ 3) : SoundAt (mkC Try.prog 0 (fun _ => none) []) 30 [.int .i64 false k] [] (.int .i64 false ((2 : Int) ^ (16 * k.toNat)), []) := sound_loopsP hall mix (loopsfull hall) (tfull k) (gfull k hw)
theorem Ffull_ok (hall : AllOk Try.prog 0 (fun _ => none) tab16) : PureF Try.prog 3 30 Ffull := by
  intro xs c v news h hc
  unfold Ffull at h
  split at h
  · rename_i _ k
    cases h
    refine ⟨(by intro b hb; cases hb), SoundAt.flags (sfull hall k hc) ?_⟩
    simp [PA.avs, AV.le, AV.leL, Cap.le]
  · cases h
end Go.Proofs.Ytnkjblmlchbfkaa.Rig

/- Qfits -/
namespace Go.Proofs.Ytnkjblmlchbfkaa.Rig
open Go
set_option maxRecDepth 100000 in
theorem tfits (k : Int) (n : Int) (sign : Bool) : evBody (mkC Try.prog 0 (fun _ => none) tab17) (evCall (mkC Try.prog 0 (fun _ => none) tab17) 50) 27 [.int .i64 false k, .int .i64 false n, .bool false sign] [] =
  Tree.br (k == (4 : Int)) (Tree.br sign (Tree.ret (AV.bool true true, [])) (Tree.ret (AV.bool false (decide (n ≥ (0 : Int))), [])))
    (Tree.br sign
      (Tree.chk ((True ∧ True) ∧ (0 : Int) ≤ k ∧ k ≤ (3 : Int))
        (Tree.br true
          (Tree.br (decide (n ≥ IntKind.wrap IntKind.i64 (Int.tdiv (IntKind.wrap IntKind.i64 ((0 : Int) - (2 : Int) ^ (16 * Int.toNat k))) (2 : Int))))
            (Tree.chk ((True ∧ True) ∧ (0 : Int) ≤ k ∧ k ≤ (3 : Int)) (Tree.br true (Tree.ret (AV.bool false (decide (n < IntKind.wrap IntKind.i64 (Int.tdiv ((2 : Int) ^ (16 * Int.toNat k)) (2 : Int)))), [])) Tree.fail))
            (Tree.ret (AV.bool true false, [])))
          Tree.fail))
      (Tree.br (decide (n ≥ (0 : Int))) (Tree.chk ((True ∧ True) ∧ (0 : Int) ≤ k ∧ k ≤ (3 : Int)) (Tree.ret (AV.bool false (decide (n < (2 : Int) ^ (16 * Int.toNat k))), []))) (Tree.ret (AV.bool true false, [])))) := by kernel_rfl
set_option maxRecDepth 100000 in
theorem gfits (k : Int) (n : Int) (sign : Bool) (hw : 1 ≤ k ∧ k ≤ 4 ∧ -9223372036854775808 ≤ n ∧ n ≤ 9223372036854775807) : (Tree.br (k == (4 : Int)) (Tree.br sign (Tree.ret (AV.bool true true, [])) (Tree.ret (AV.bool false (decide (n ≥ (0 : Int))), [])))
    (Tree.br sign
      (Tree.chk ((True ∧ True) ∧ (0 : Int) ≤ k ∧ k ≤ (3 : Int))
        (Tree.br true
          (Tree.br (decide (n ≥ IntKind.wrap IntKind.i64 (Int.tdiv (IntKind.wrap IntKind.i64 ((0 : Int) - (2 : Int) ^ (16 * Int.toNat k))) (2 : Int))))
            (Tree.chk ((True ∧ True) ∧ (0 : Int) ≤ k ∧ k ≤ (3 : Int)) (Tree.br true (Tree.ret (AV.bool false (decide (n < IntKind.wrap IntKind.i64 (Int.tdiv ((2 : Int) ^ (16 * Int.toNat k)) (2 : Int)))), [])) Tree.fail))
            (Tree.ret (AV.bool true false, [])))
          Tree.fail))
      (Tree.br (decide (n ≥ (0 : Int))) (Tree.chk ((True ∧ True) ∧ (0 : Int) ≤ k ∧ k ≤ (3 : Int)) (Tree.ret (AV.bool false (decide (n < (2 : Int) ^ (16 * Int.toNat k))), []))) (Tree.ret (AV.bool true false, [])))) : Tree (AV × Mem)).GivesP (.bool false (fitsZ sign k n)) ([]) := by
  refine Tree.GivesP.br (fun h1 => ?_) (fun h1 => ?_)
  · (try simp only [decide_eq_true_eq, decide_eq_false_iff_not, Bool.not_eq_true', Bool.not_eq_false', beq_iff_eq, beq_eq_false_iff_ne, Int.not_lt, Int.not_le, ge_iff_le, gt_iff_lt, ne_eq, Bool.false_eq_true, Bool.true_eq_false, not_true_eq_false, not_false_eq_true, Bool.and_eq_true, Bool.not_eq_eq_eq_not, Bool.not_true, Bool.not_false, bne_iff_ne, bne_eq_false_iff_eq, Int.toNat_natCast, Nat.mul_one, Nat.add_zero, Nat.zero_add, List.take_length, List.drop_zero] at h1)
    all_goals
      refine Tree.GivesP.br (fun h2 => ?_) (fun h2 => ?_)
      · (try simp only [decide_eq_true_eq, decide_eq_false_iff_not, Bool.not_eq_true', Bool.not_eq_false', beq_iff_eq, beq_eq_false_iff_ne, Int.not_lt, Int.not_le, ge_iff_le, gt_iff_lt, ne_eq, Bool.false_eq_true, Bool.true_eq_false, not_true_eq_false, not_false_eq_true, Bool.and_eq_true, Bool.not_eq_eq_eq_not, Bool.not_true, Bool.not_false, bne_iff_ne, bne_eq_false_iff_eq, Int.toNat_natCast, Nat.mul_one, Nat.add_zero, Nat.zero_add, List.take_length, List.drop_zero] at h2)
        all_goals
          refine Tree.GivesP.ret ?_ ?_
          · simp only [AV.le]; obtain ⟨a1, a2, a3, a4⟩ := hw; rcases k_cases a1 a2 with rfl | rfl | rfl | rfl <;> cases sign <;> simp [fitsZ, w64] at * <;> first | omega | (rw [Bool.eq_iff_iff]; simp; omega)
          · simp only [AV.leL, AV.le, Mem.le, Mem.leP, Blk.le, Blk.pad, Data.le, Data.size, Cap.le, and_true, true_and, and_self, true_implies, implies_true, imp_self, List.length_nil]
      · (try simp only [decide_eq_true_eq, decide_eq_false_iff_not, Bool.not_eq_true', Bool.not_eq_false', beq_iff_eq, beq_eq_false_iff_ne, Int.not_lt, Int.not_le, ge_iff_le, gt_iff_lt, ne_eq, Bool.false_eq_true, Bool.true_eq_false, not_true_eq_false, not_false_eq_true, Bool.and_eq_true, Bool.not_eq_eq_eq_not, Bool.not_true, Bool.not_false, bne_iff_ne, bne_eq_false_iff_eq, Int.toNat_natCast, Nat.mul_one, Nat.add_zero, Nat.zero_add, List.take_length, List.drop_zero] at h2)
        all_goals
          refine Tree.GivesP.ret ?_ ?_
          · simp only [AV.le]; obtain ⟨a1, a2, a3, a4⟩ := hw; rcases k_cases a1 a2 with rfl | rfl | rfl | rfl <;> cases sign <;> simp [fitsZ, w64] at * <;> first | omega | (rw [Bool.eq_iff_iff]; simp; omega)
          · simp only [AV.leL, AV.le, Mem.le, Mem.leP, Blk.le, Blk.pad, Data.le, Data.size, Cap.le, and_true, true_and, and_self, true_implies, implies_true, imp_self, List.length_nil]
  · (try simp only [decide_eq_true_eq, decide_eq_false_iff_not, Bool.not_eq_true', Bool.not_eq_false', beq_iff_eq, beq_eq_false_iff_ne, Int.not_lt, Int.not_le, ge_iff_le, gt_iff_lt, ne_eq, Bool.false_eq_true, Bool.true_eq_false, not_true_eq_false, not_false_eq_true, Bool.and_eq_true, Bool.not_eq_eq_eq_not, Bool.not_true, Bool.not_false, bne_iff_ne, bne_eq_false_iff_eq, Int.toNat_natCast, Nat.mul_one, Nat.add_zero, Nat.zero_add, List.take_length, List.drop_zero] at h1)
    all_goals
      refine Tree.GivesP.br (fun h2 => ?_) (fun h2 => ?_)
      · (try simp only [decide_eq_true_eq, decide_eq_false_iff_not, Bool.not_eq_true', Bool.not_eq_false', beq_iff_eq, beq_eq_false_iff_ne, Int.not_lt, Int.not_le, ge_iff_le, gt_iff_lt, ne_eq, Bool.false_eq_true, Bool.true_eq_false, not_true_eq_false, not_false_eq_true, Bool.and_eq_true, Bool.not_eq_eq_eq_not, Bool.not_true, Bool.not_false, bne_iff_ne, bne_eq_false_iff_eq, Int.toNat_natCast, Nat.mul_one, Nat.add_zero, Nat.zero_add, List.take_length, List.drop_zero] at h2)
        all_goals
          refine Tree.GivesP.chk (by first | (simp only [and_self]; done) | (simp only [and_self, true_and]; omega)) ?_
          refine Tree.GivesP.br (fun h3 => ?_) (fun h3 => ?_)
          · (try simp only [decide_eq_true_eq, decide_eq_false_iff_not, Bool.not_eq_true', Bool.not_eq_false', beq_iff_eq, beq_eq_false_iff_ne, Int.not_lt, Int.not_le, ge_iff_le, gt_iff_lt, ne_eq, Bool.false_eq_true, Bool.true_eq_false, not_true_eq_false, not_false_eq_true, Bool.and_eq_true, Bool.not_eq_eq_eq_not, Bool.not_true, Bool.not_false, bne_iff_ne, bne_eq_false_iff_eq, Int.toNat_natCast, Nat.mul_one, Nat.add_zero, Nat.zero_add, List.take_length, List.drop_zero] at h3)
            all_goals
              refine Tree.GivesP.br (fun h4 => ?_) (fun h4 => ?_)
              · (try simp only [decide_eq_true_eq, decide_eq_false_iff_not, Bool.not_eq_true', Bool.not_eq_false', beq_iff_eq, beq_eq_false_iff_ne, Int.not_lt, Int.not_le, ge_iff_le, gt_iff_lt, ne_eq, Bool.false_eq_true, Bool.true_eq_false, not_true_eq_false, not_false_eq_true, Bool.and_eq_true, Bool.not_eq_eq_eq_not, Bool.not_true, Bool.not_false, bne_iff_ne, bne_eq_false_iff_eq, Int.toNat_natCast, Nat.mul_one, Nat.add_zero, Nat.zero_add, List.take_length, List.drop_zero] at h4)
                all_goals
                  refine Tree.GivesP.chk (by first | (simp only [and_self]; done) | (simp only [and_self, true_and]; omega)) ?_
                  refine Tree.GivesP.br (fun h5 => ?_) (fun h5 => ?_)
                  · (try simp only [decide_eq_true_eq, decide_eq_false_iff_not, Bool.not_eq_true', Bool.not_eq_false', beq_iff_eq, beq_eq_false_iff_ne, Int.not_lt, Int.not_le, ge_iff_le, gt_iff_lt, ne_eq, Bool.false_eq_true, Bool.true_eq_false, not_true_eq_false, not_false_eq_true, Bool.and_eq_true, Bool.not_eq_eq_eq_not, Bool.not_true, Bool.not_false, bne_iff_ne, bne_eq_false_iff_eq, Int.toNat_natCast, Nat.mul_one, Nat.add_zero, Nat.zero_add, List.take_length, List.drop_zero] at h5)
                    all_goals
                      refine Tree.GivesP.ret ?_ ?_
                      · simp only [AV.le]; obtain ⟨a1, a2, a3, a4⟩ := hw; rcases k_cases a1 a2 with rfl | rfl | rfl | rfl <;> cases sign <;> simp [fitsZ, w64] at * <;> first | omega | (rw [Bool.eq_iff_iff]; simp; omega)
                      · simp only [AV.leL, AV.le, Mem.le, Mem.leP, Blk.le, Blk.pad, Data.le, Data.size, Cap.le, and_true, true_and, and_self, true_implies, implies_true, imp_self, List.length_nil]
                  · (try simp only [decide_eq_true_eq, decide_eq_false_iff_not, Bool.not_eq_true', Bool.not_eq_false', beq_iff_eq, beq_eq_false_iff_ne, Int.not_lt, Int.not_le, ge_iff_le, gt_iff_lt, ne_eq, Bool.false_eq_true, Bool.true_eq_false, not_true_eq_false, not_false_eq_true, Bool.and_eq_true, Bool.not_eq_eq_eq_not, Bool.not_true, Bool.not_false, bne_iff_ne, bne_eq_false_iff_eq, Int.toNat_natCast, Nat.mul_one, Nat.add_zero, Nat.zero_add, List.take_length, List.drop_zero] at h5)
                    all_goals
                      exfalso
                      omega
              · (try simp only [decide_eq_true_eq, decide_eq_false_iff_not, Bool.not_eq_true', Bool.not_eq_false', beq_iff_eq, beq_eq_false_iff_ne, Int.not_lt, Int.not_le, ge_iff_le, gt_iff_lt, ne_eq, Bool.false_eq_true, Bool.true_eq_false, not_true_eq_false, not_false_eq_true, Bool.and_eq_true, Bool.not_eq_eq_eq_not, Bool.not_true, Bool.not_false, bne_iff_ne, bne_eq_false_iff_eq, Int.toNat_natCast, Nat.mul_one, Nat.add_zero, Nat.zero_add, List.take_length, List.drop_zero] at h4)
                all_goals
                  refine Tree.GivesP.ret ?_ ?_
                  · simp only [AV.le]; obtain ⟨a1, a2, a3, a4⟩ := hw; rcases k_cases a1 a2 with rfl | rfl | rfl | rfl <;> cases sign <;> simp [fitsZ, w64] at * <;> first | omega | (rw [Bool.eq_iff_iff]; simp; omega)
                  · simp only [AV.leL, AV.le, Mem.le, Mem.leP, Blk.le, Blk.pad, Data.le, Data.size, Cap.le, and_true, true_and, and_self, true_implies, implies_true, imp_self, List.length_nil]
          · (try simp only [decide_eq_true_eq, decide_eq_false_iff_not, Bool.not_eq_true', Bool.not_eq_false', beq_iff_eq, beq_eq_false_iff_ne, Int.not_lt, Int.not_le, ge_iff_le, gt_iff_lt, ne_eq, Bool.false_eq_true, Bool.true_eq_false, not_true_eq_false, not_false_eq_true, Bool.and_eq_true, Bool.not_eq_eq_eq_not, Bool.not_true, Bool.not_false, bne_iff_ne, bne_eq_false_iff_eq, Int.toNat_natCast, Nat.mul_one, Nat.add_zero, Nat.zero_add, List.take_length, List.drop_zero] at h3)
            all_goals
              exfalso
              omega
      · (try simp only [decide_eq_true_eq, decide_eq_false_iff_not, Bool.not_eq_true', Bool.not_eq_false', beq_iff_eq, beq_eq_false_iff_ne, Int.not_lt, Int.not_le, ge_iff_le, gt_iff_lt, ne_eq, Bool.false_eq_true, Bool.true_eq_false, not_true_eq_false, not_false_eq_true, Bool.and_eq_true, Bool.not_eq_eq_eq_not, Bool.not_true, Bool.not_false, bne_iff_ne, bne_eq_false_iff_eq, Int.toNat_natCast, Nat.mul_one, Nat.add_zero, Nat.zero_add, List.take_length, List.drop_zero] at h2)
        all_goals
          refine Tree.GivesP.br (fun h3 => ?_) (fun h3 => ?_)
          · (try simp only [decide_eq_true_eq, decide_eq_false_iff_not, Bool.not_eq_true', Bool.not_eq_false', beq_iff_eq, beq_eq_false_iff_ne, Int.not_lt, Int.not_le, ge_iff_le, gt_iff_lt, ne_eq, Bool.false_eq_true, Bool.true_eq_false, not_true_eq_false, not_false_eq_true, Bool.and_eq_true, Bool.not_eq_eq_eq_not, Bool.not_true, Bool.not_false, bne_iff_ne, bne_eq_false_iff_eq, Int.toNat_natCast, Nat.mul_one, Nat.add_zero, Nat.zero_add, List.take_length, List.drop_zero] at h3)
            all_goals
              refine Tree.GivesP.chk (by first | (simp only [and_self]; done) | (simp only [and_self, true_and]; omega)) ?_
              refine Tree.GivesP.ret ?_ ?_
              · simp only [AV.le]; obtain ⟨a1, a2, a3, a4⟩ := hw; rcases k_cases a1 a2 with rfl | rfl | rfl | rfl <;> cases sign <;> simp [fitsZ, w64] at * <;> first | omega | (rw [Bool.eq_iff_iff]; simp; omega)
              · simp only [AV.leL, AV.le, Mem.le, Mem.leP, Blk.le, Blk.pad, Data.le, Data.size, Cap.le, and_true, true_and, and_self, true_implies, implies_true, imp_self, List.length_nil]
          · (try simp only [decide_eq_true_eq, decide_eq_false_iff_not, Bool.not_eq_true', Bool.not_eq_false', beq_iff_eq, beq_eq_false_iff_ne, Int.not_lt, Int.not_le, ge_iff_le, gt_iff_lt, ne_eq, Bool.false_eq_true, Bool.true_eq_false, not_true_eq_false, not_false_eq_true, Bool.and_eq_true, Bool.not_eq_eq_eq_not, Bool.not_true, Bool.not_false, bne_iff_ne, bne_eq_false_iff_eq, Int.toNat_natCast, Nat.mul_one, Nat.add_zero, Nat.zero_add, List.take_length, List.drop_zero] at h3)
            all_goals
              refine Tree.GivesP.ret ?_ ?_
              · simp only [AV.le]; obtain ⟨a1, a2, a3, a4⟩ := hw; rcases k_cases a1 a2 with rfl | rfl | rfl | rfl <;> cases sign <;> simp [fitsZ, w64] at * <;> first | omega | (rw [Bool.eq_iff_iff]; simp; omega)
              · simp only [AV.leL, AV.le, Mem.le, Mem.leP, Blk.le, Blk.pad, Data.le, Data.size, Cap.le, and_true, true_and, and_self, true_implies, implies_true, imp_self, List.length_nil]
theorem sfits (hall : AllOk Try.prog 0 (fun _ => none) tab17) (k : Int) (n : Int) (sign : Bool) (hw : 1 ≤ k ∧ k ≤ 4 ∧ -9223372036854775808 ≤ n ∧ n ≤ 9223372036854775807) : SoundAt (mkC Try.prog 0 (fun _ => none) []) 27 [.int .i64 false k, .int .i64 false n, .bool false sign] [] (.bool false (fitsZ sign k n), []) := sound_ofP hall mix (tfits k n sign) (gfits k n sign hw)
theorem Ffits_ok (hall : AllOk Try.prog 0 (fun _ => none) tab17) : PureF Try.prog 3 27 Ffits := by
  intro xs c v news h hc
  unfold Ffits at h
  split at h
  · rename_i _ k _ n _ sign
    cases h
    refine ⟨(by intro b hb; cases hb), SoundAt.flags (sfits hall k n sign hc) ?_⟩
    simp [PA.avs, AV.le, AV.leL, Cap.le]
  · cases h
end Go.Proofs.Ytnkjblmlchbfkaa.Rig

/- Qrput -/
namespace Go.Proofs.Ytnkjblmlchbfkaa.Rig
open Go
set_option maxRecDepth 100000 in
theorem tLrput_1 (k : Int) (zl : Bool) (l : List Int) (sign : Bool) (i : Nat) (j : Int) : tidied Trput_1 Urput_1 1 (evCode (mkL Try.prog 0 (fun _ => none) tab18 rowsrput) (evCall (mkC Try.prog 0 (fun _ => none) tab18) 50) 11 1 fuelC (bodyAt Try.prog 11 1) (hdrput_1 ⟨k, zl, l, sign, i, j⟩)) =
  Tree.br (decide (j ≥ (0 : Int)))
    (Tree.br true
      (Tree.br (!false && decide ((0 : Int) ≤ j ∧ j < ((Int.toNat k) : Int)))
        (Tree.br (decide (Int.toNat j * 1 + 0 < List.length (fillR (wordsZ k (List.getD l i (0 : Int))) (Int.toNat (j + (1 : Int))))))
          (Tree.br true
            (Tree.ret
              (Ex.norm,
                St.mk
                  [AV.int IntKind.i64 false k, AV.sl zl (Ref.mk (0) (0) (0) (0)) false (List.length l) Cap.any, AV.bool false sign, AV.junk, AV.junk, AV.junk, AV.junk, AV.junk,
                    AV.sl false (Ref.mk (1) (0) (0) (0)) false (List.length (List.flatMap (wordsZ k) (List.take i l))) Cap.own, AV.int IntKind.i64 false (i : Int),
                    AV.int IntKind.u64 false (IntKind.wrap IntKind.u64 (Int.tdiv (xAt k (List.getD l i (0 : Int)) j) (65536 : Int))),
                    AV.sl false (Ref.mk (2) (0) (0) (0)) false (Int.toNat k) Cap.exact, AV.int IntKind.i64 false (IntKind.wrap IntKind.i64 (j - (1 : Int))), AV.junk, AV.junk, AV.junk, AV.junk, AV.junk,
                    AV.junk, AV.junk, AV.junk, AV.junk, AV.junk, AV.junk, AV.junk, AV.junk, AV.junk, AV.junk, AV.junk, AV.junk, AV.junk, AV.junk, AV.junk, AV.junk, AV.junk, AV.junk, AV.junk, AV.junk, AV.junk, AV.junk, AV.junk, AV.junk,
                    AV.junk, AV.junk, AV.junk, AV.junk, AV.junk, AV.junk, AV.junk, AV.junk, AV.junk, AV.junk, AV.junk, AV.junk, AV.junk, AV.junk, AV.junk, AV.junk, AV.junk]
                  [some (Blk.mk (3) false false true (Data.ints IntKind.i64 l)), some (Blk.mk (3) true false true (Data.ints IntKind.i64 (List.flatMap (wordsZ k) (List.take i l)))),
                    some
                      (Blk.mk (3) true false true
                        (Data.ints IntKind.i64
                          (List.set (fillR (wordsZ k (List.getD l i (0 : Int))) (Int.toNat (j + (1 : Int)))) (Int.toNat j * 1 + 0)
                            (IntKind.wrap IntKind.i64 (Int.tmod (xAt k (List.getD l i (0 : Int)) j) (65536 : Int))))))]))
            Tree.fail)
          Tree.fail)
        Tree.fail)
      Tree.fail)
    (Tree.ret
      (Ex.exit (2),
        St.mk
          [AV.int IntKind.i64 false k, AV.sl zl (Ref.mk (0) (0) (0) (0)) false (List.length l) Cap.any, AV.bool false sign, AV.junk, AV.junk, AV.junk, AV.junk, AV.junk,
            AV.sl false (Ref.mk (1) (0) (0) (0)) false (List.length (List.flatMap (wordsZ k) (List.take i l))) Cap.own, AV.int IntKind.i64 false (i : Int), AV.junk,
            AV.sl false (Ref.mk (2) (0) (0) (0)) false (Int.toNat k) Cap.exact, AV.junk, AV.junk, AV.junk, AV.junk, AV.junk, AV.junk, AV.junk, AV.junk, AV.junk, AV.junk, AV.junk, AV.junk, AV.junk, AV.junk,
            AV.junk, AV.junk, AV.junk, AV.junk, AV.junk, AV.junk, AV.junk, AV.junk, AV.junk, AV.junk, AV.junk, AV.junk, AV.junk, AV.junk, AV.junk, AV.junk, AV.junk, AV.junk, AV.junk, AV.junk, AV.junk, AV.junk, AV.junk, AV.junk, AV.junk,
            AV.junk, AV.junk, AV.junk, AV.junk, AV.junk, AV.junk, AV.junk, AV.junk]
          [some (Blk.mk (3) false false true (Data.ints IntKind.i64 l)), some (Blk.mk (3) true false true (Data.ints IntKind.i64 (List.flatMap (wordsZ k) (List.take i l)))),
            some (Blk.mk (3) true false true (Data.ints IntKind.i64 (fillR (wordsZ k (List.getD l i (0 : Int))) (Int.toNat (j + (1 : Int))))))])) := by kernel_rfl
set_option maxRecDepth 100000 in
theorem steprput_1 (k : Int) (zl : Bool) (l : List Int) (sign : Bool) (i : Nat) (j : Int) (ex : Ex) (r : St) (hok : okrput_1 ⟨k, zl, l, sign, i, j⟩) (hr : (outrput_1 ⟨k, zl, l, sign, i, j⟩).runs (ex, r)) : (Tree.br (decide (j ≥ (0 : Int)))
    (Tree.br true
      (Tree.br (!false && decide ((0 : Int) ≤ j ∧ j < ((Int.toNat k) : Int)))
        (Tree.br (decide (Int.toNat j * 1 + 0 < List.length (fillR (wordsZ k (List.getD l i (0 : Int))) (Int.toNat (j + (1 : Int))))))
          (Tree.br true
            (Tree.ret
              (Ex.norm,
                St.mk
                  [AV.int IntKind.i64 false k, AV.sl zl (Ref.mk (0) (0) (0) (0)) false (List.length l) Cap.any, AV.bool false sign, AV.junk, AV.junk, AV.junk, AV.junk, AV.junk,
                    AV.sl false (Ref.mk (1) (0) (0) (0)) false (List.length (List.flatMap (wordsZ k) (List.take i l))) Cap.own, AV.int IntKind.i64 false (i : Int),
                    AV.int IntKind.u64 false (IntKind.wrap IntKind.u64 (Int.tdiv (xAt k (List.getD l i (0 : Int)) j) (65536 : Int))),
                    AV.sl false (Ref.mk (2) (0) (0) (0)) false (Int.toNat k) Cap.exact, AV.int IntKind.i64 false (IntKind.wrap IntKind.i64 (j - (1 : Int))), AV.junk, AV.junk, AV.junk, AV.junk, AV.junk,
                    AV.junk, AV.junk, AV.junk, AV.junk, AV.junk, AV.junk, AV.junk, AV.junk, AV.junk, AV.junk, AV.junk, AV.junk, AV.junk, AV.junk, AV.junk, AV.junk, AV.junk, AV.junk, AV.junk, AV.junk, AV.junk, AV.junk, AV.junk, AV.junk,
                    AV.junk, AV.junk, AV.junk, AV.junk, AV.junk, AV.junk, AV.junk, AV.junk, AV.junk, AV.junk, AV.junk, AV.junk, AV.junk, AV.junk, AV.junk, AV.junk, AV.junk]
                  [some (Blk.mk (3) false false true (Data.ints IntKind.i64 l)), some (Blk.mk (3) true false true (Data.ints IntKind.i64 (List.flatMap (wordsZ k) (List.take i l)))),
                    some
                      (Blk.mk (3) true false true
                        (Data.ints IntKind.i64
                          (List.set (fillR (wordsZ k (List.getD l i (0 : Int))) (Int.toNat (j + (1 : Int)))) (Int.toNat j * 1 + 0)
                            (IntKind.wrap IntKind.i64 (Int.tmod (xAt k (List.getD l i (0 : Int)) j) (65536 : Int))))))]))
            Tree.fail)
          Tree.fail)
        Tree.fail)
      Tree.fail)
    (Tree.ret
      (Ex.exit (2),
        St.mk
          [AV.int IntKind.i64 false k, AV.sl zl (Ref.mk (0) (0) (0) (0)) false (List.length l) Cap.any, AV.bool false sign, AV.junk, AV.junk, AV.junk, AV.junk, AV.junk,
            AV.sl false (Ref.mk (1) (0) (0) (0)) false (List.length (List.flatMap (wordsZ k) (List.take i l))) Cap.own, AV.int IntKind.i64 false (i : Int), AV.junk,
            AV.sl false (Ref.mk (2) (0) (0) (0)) false (Int.toNat k) Cap.exact, AV.junk, AV.junk, AV.junk, AV.junk, AV.junk, AV.junk, AV.junk, AV.junk, AV.junk, AV.junk, AV.junk, AV.junk, AV.junk, AV.junk,
            AV.junk, AV.junk, AV.junk, AV.junk, AV.junk, AV.junk, AV.junk, AV.junk, AV.junk, AV.junk, AV.junk, AV.junk, AV.junk, AV.junk, AV.junk, AV.junk, AV.junk, AV.junk, AV.junk, AV.junk, AV.junk, AV.junk, AV.junk, AV.junk, AV.junk,
            AV.junk, AV.junk, AV.junk, AV.junk, AV.junk, AV.junk, AV.junk, AV.junk]
          [some (Blk.mk (3) false false true (Data.ints IntKind.i64 l)), some (Blk.mk (3) true false true (Data.ints IntKind.i64 (List.flatMap (wordsZ k) (List.take i l)))),
            some (Blk.mk (3) true false true (Data.ints IntKind.i64 (fillR (wordsZ k (List.getD l i (0 : Int))) (Int.toNat (j + (1 : Int))))))])) : Tree (Ex × St)).Sat (Post hdrput_1 resrput_1 murput_1 ⟨k, zl, l, sign, i, j⟩ ex r) := by
  simp only [okrput_1, outrput_1, Tree.runs] at hok hr
  obtain ⟨h1k, h4k, hl, hw, hz, ha, hi, hj, hjk⟩ := hok
  have hW := wordsZ_len k (l.getD i 0)
  have hF : (fillR (wordsZ k (l.getD i 0)) (j + 1).toNat).length = k.toNat := by rw [fillR_len (by omega), hW]
  refine Tree.Sat.br (fun h1 => ?_) (fun h1 => ?_)
  · (try simp only [decide_eq_true_eq, decide_eq_false_iff_not, Bool.not_eq_true', Bool.not_eq_false', beq_iff_eq, beq_eq_false_iff_ne, Int.not_lt, Int.not_le, ge_iff_le, gt_iff_lt, ne_eq, Bool.false_eq_true, Bool.true_eq_false, not_true_eq_false, not_false_eq_true, Bool.and_eq_true, Bool.not_eq_eq_eq_not, Bool.not_true, Bool.not_false, bne_iff_ne, bne_eq_false_iff_eq, Int.toNat_natCast, Nat.mul_one, Nat.add_zero, Nat.zero_add, List.take_length, List.drop_zero] at h1)
    all_goals
      refine Tree.Sat.br (fun h2 => ?_) (fun h2 => ?_)
      · (try simp only [decide_eq_true_eq, decide_eq_false_iff_not, Bool.not_eq_true', Bool.not_eq_false', beq_iff_eq, beq_eq_false_iff_ne, Int.not_lt, Int.not_le, ge_iff_le, gt_iff_lt, ne_eq, Bool.false_eq_true, Bool.true_eq_false, not_true_eq_false, not_false_eq_true, Bool.and_eq_true, Bool.not_eq_eq_eq_not, Bool.not_true, Bool.not_false, bne_iff_ne, bne_eq_false_iff_eq, Int.toNat_natCast, Nat.mul_one, Nat.add_zero, Nat.zero_add, List.take_length, List.drop_zero] at h2)
        all_goals
          refine Tree.Sat.br (fun h3 => ?_) (fun h3 => ?_)
          · (try simp only [decide_eq_true_eq, decide_eq_false_iff_not, Bool.not_eq_true', Bool.not_eq_false', beq_iff_eq, beq_eq_false_iff_ne, Int.not_lt, Int.not_le, ge_iff_le, gt_iff_lt, ne_eq, Bool.false_eq_true, Bool.true_eq_false, not_true_eq_false, not_false_eq_true, Bool.and_eq_true, Bool.not_eq_eq_eq_not, Bool.not_true, Bool.not_false, bne_iff_ne, bne_eq_false_iff_eq, Int.toNat_natCast, Nat.mul_one, Nat.add_zero, Nat.zero_add, List.take_length, List.drop_zero] at h3)
            all_goals
              refine Tree.Sat.br (fun h4 => ?_) (fun h4 => ?_)
              · (try simp only [decide_eq_true_eq, decide_eq_false_iff_not, Bool.not_eq_true', Bool.not_eq_false', beq_iff_eq, beq_eq_false_iff_ne, Int.not_lt, Int.not_le, ge_iff_le, gt_iff_lt, ne_eq, Bool.false_eq_true, Bool.true_eq_false, not_true_eq_false, not_false_eq_true, Bool.and_eq_true, Bool.not_eq_eq_eq_not, Bool.not_true, Bool.not_false, bne_iff_ne, bne_eq_false_iff_eq, Int.toNat_natCast, Nat.mul_one, Nat.add_zero, Nat.zero_add, List.take_length, List.drop_zero] at h4)
                all_goals
                  refine Tree.Sat.br (fun h5 => ?_) (fun h5 => ?_)
                  · (try simp only [decide_eq_true_eq, decide_eq_false_iff_not, Bool.not_eq_true', Bool.not_eq_false', beq_iff_eq, beq_eq_false_iff_ne, Int.not_lt, Int.not_le, ge_iff_le, gt_iff_lt, ne_eq, Bool.false_eq_true, Bool.true_eq_false, not_true_eq_false, not_false_eq_true, Bool.and_eq_true, Bool.not_eq_eq_eq_not, Bool.not_true, Bool.not_false, bne_iff_ne, bne_eq_false_iff_eq, Int.toNat_natCast, Nat.mul_one, Nat.add_zero, Nat.zero_add, List.take_length, List.drop_zero] at h5)
                    all_goals
                      refine Tree.Sat.ret ?_
                      refine .norm ⟨k, zl, l, sign, i, j - 1⟩ ?_ ?_ ⟨?_, ?_⟩
                      · constructor <;> simp only [hdrput_1, AV.leL, AV.le, Mem.le, Mem.leP, Blk.le, Blk.pad, Data.le, Data.size, Cap.le, and_true, true_and, and_self, true_implies, implies_true, imp_self, List.length_nil] <;> (repeat' with_reducible refine And.intro ?_ ?_) <;> (try simp only [Int.toNat_natCast, Nat.mul_one, Nat.add_zero, Nat.zero_add]) <;> first | (rw [w64]; omega) | exact xAt_step h1k h4k (by omega) (by omega) | exact fillR_step h1k h4k (by omega) (by omega)
                      · simp only [murput_1]; omega
                      · exact ⟨h1k, h4k, hl, hw, hz, ha, hi, by omega, by omega⟩
                      · exact hr
                  · (try simp only [decide_eq_true_eq, decide_eq_false_iff_not, Bool.not_eq_true', Bool.not_eq_false', beq_iff_eq, beq_eq_false_iff_ne, Int.not_lt, Int.not_le, ge_iff_le, gt_iff_lt, ne_eq, Bool.false_eq_true, Bool.true_eq_false, not_true_eq_false, not_false_eq_true, Bool.and_eq_true, Bool.not_eq_eq_eq_not, Bool.not_true, Bool.not_false, bne_iff_ne, bne_eq_false_iff_eq, Int.toNat_natCast, Nat.mul_one, Nat.add_zero, Nat.zero_add, List.take_length, List.drop_zero] at h5)
                    all_goals
                      exfalso
                      first | omega | (simp at *; omega)
              · (try simp only [decide_eq_true_eq, decide_eq_false_iff_not, Bool.not_eq_true', Bool.not_eq_false', beq_iff_eq, beq_eq_false_iff_ne, Int.not_lt, Int.not_le, ge_iff_le, gt_iff_lt, ne_eq, Bool.false_eq_true, Bool.true_eq_false, not_true_eq_false, not_false_eq_true, Bool.and_eq_true, Bool.not_eq_eq_eq_not, Bool.not_true, Bool.not_false, bne_iff_ne, bne_eq_false_iff_eq, Int.toNat_natCast, Nat.mul_one, Nat.add_zero, Nat.zero_add, List.take_length, List.drop_zero] at h4)
                all_goals
                  exfalso
                  first | omega | (simp at *; omega)
          · (try simp only [decide_eq_true_eq, decide_eq_false_iff_not, Bool.not_eq_true', Bool.not_eq_false', beq_iff_eq, beq_eq_false_iff_ne, Int.not_lt, Int.not_le, ge_iff_le, gt_iff_lt, ne_eq, Bool.false_eq_true, Bool.true_eq_false, not_true_eq_false, not_false_eq_true, Bool.and_eq_true, Bool.not_eq_eq_eq_not, Bool.not_true, Bool.not_false, bne_iff_ne, bne_eq_false_iff_eq, Int.toNat_natCast, Nat.mul_one, Nat.add_zero, Nat.zero_add, List.take_length, List.drop_zero] at h3)
            all_goals
              exfalso
              first | omega | (simp at *; omega)
      · (try simp only [decide_eq_true_eq, decide_eq_false_iff_not, Bool.not_eq_true', Bool.not_eq_false', beq_iff_eq, beq_eq_false_iff_ne, Int.not_lt, Int.not_le, ge_iff_le, gt_iff_lt, ne_eq, Bool.false_eq_true, Bool.true_eq_false, not_true_eq_false, not_false_eq_true, Bool.and_eq_true, Bool.not_eq_eq_eq_not, Bool.not_true, Bool.not_false, bne_iff_ne, bne_eq_false_iff_eq, Int.toNat_natCast, Nat.mul_one, Nat.add_zero, Nat.zero_add, List.take_length, List.drop_zero] at h2)
        all_goals
          exfalso
          first | omega | (simp at *; omega)
  · (try simp only [decide_eq_true_eq, decide_eq_false_iff_not, Bool.not_eq_true', Bool.not_eq_false', beq_iff_eq, beq_eq_false_iff_ne, Int.not_lt, Int.not_le, ge_iff_le, gt_iff_lt, ne_eq, Bool.false_eq_true, Bool.true_eq_false, not_true_eq_false, not_false_eq_true, Bool.and_eq_true, Bool.not_eq_eq_eq_not, Bool.not_true, Bool.not_false, bne_iff_ne, bne_eq_false_iff_eq, Int.toNat_natCast, Nat.mul_one, Nat.add_zero, Nat.zero_add, List.take_length, List.drop_zero] at h1)
    all_goals
      refine Tree.Sat.ret ?_
      have hq := hr
      simp only [Prod.mk.injEq] at hq
      obtain ⟨rfl, rfl⟩ := hq
      refine .exit rfl ?_
      constructor <;> simp only [AV.leL, AV.le, Mem.le, Mem.leP, Blk.le, Blk.pad, Data.le, Data.size, Cap.le, and_true, true_and, and_self, true_implies, implies_true, imp_self, List.length_nil] <;> (repeat' with_reducible refine And.intro ?_ ?_) <;> (try simp only [Int.toNat_natCast, Nat.mul_one, Nat.add_zero, Nat.zero_add]) <;> (rw [show j = -1 by omega]; exact fillR_zero _)
theorem looprput_1 (hall : AllOk Try.prog 0 (fun _ => none) tab18) : LoopOk (mkL Try.prog 0 (fun _ => none) tab18 rowsrput) 11 1 (bodyAt Try.prog 11 1) := by
  have hkey : Code.key (bodyAt Try.prog 11 1) = 12 := by kernel_rfl
  have hin : loopsIn (bodyAt Try.prog 11 1) = [] := by kernel_rfl
  have hrow : lookL rowsrput 11 (Code.key (bodyAt Try.prog 11 1)) = some rowrput_1 := by rw [hkey]; rfl
  refine loop_rowP (X := Xrput_1) (row := rowrput_1) hall mix hrow (fun b hb _ => by rw [hin] at hb; cases hb) Urput_1 hdrput_1 resrput_1 murput_1 (fun st ex r h => ?_) (fun x ex r hr => ?_)
  · have h' : (ansrput_1 st).runs (ex, r) := h
    unfold ansrput_1 at h'
    split at h'
    · obtain ⟨q1, q2⟩ := Tree.chk_runs h'
      exact ⟨_, q1, q2⟩
    · exact h'.elim
  · obtain ⟨k, zl, l, sign, i, j⟩ := x
    have := steprput_1 k zl l sign i j ex r hr.1 hr.2
    rw [← tLrput_1] at this
    exact this
set_option maxRecDepth 100000 in
theorem tLrput_0 (k : Int) (zl : Bool) (l : List Int) (sign : Bool) (i : Nat) : tidied Trput_0 Urput_0 1 (evCode (mkL Try.prog 0 (fun _ => none) tab18 rowsrput) (evCall (mkC Try.prog 0 (fun _ => none) tab18) 50) 11 1 fuelC (bodyAt Try.prog 11 0) (hdrput_0 ⟨k, zl, l, sign, i⟩)) =
  Tree.br (decide ((i : Int) < ((List.length l) : Int)))
    (Tree.br (!zl && decide ((0 : Int) ≤ (i : Int) ∧ (i : Int) < ((List.length l) : Int)))
      (Tree.br (decide (Int.toNat (i : Int) * 1 + 0 + 1 ≤ List.length l))
        (Tree.chk
          ((True ∧ True ∧ True ∧ True) ∧
            (1 : Int) ≤ k ∧
              k ≤ (4 : Int) ∧
                (-9223372036854775808 : Int) ≤ List.getD l (Int.toNat (i : Int) * 1 + 0 + 0) (0 : Int) ∧ List.getD l (Int.toNat (i : Int) * 1 + 0 + 0) (0 : Int) ≤ (9223372036854775807 : Int))
          (Tree.br (!fitsZ sign k (List.getD l (Int.toNat (i : Int) * 1 + 0 + 0) (0 : Int)))
            (Tree.ret
              (Ex.ret,
                St.mk
                  [AV.junk, AV.junk, AV.junk, AV.junk, AV.junk, AV.junk, AV.sl true (Ref.mk (0) (0) (0) (0)) true (0) Cap.exact, AV.int IntKind.i64 true (2 : Int), AV.junk, AV.junk, AV.junk, AV.junk,
                    AV.junk, AV.junk, AV.junk, AV.junk, AV.junk, AV.junk, AV.junk, AV.junk, AV.junk, AV.junk, AV.junk, AV.junk, AV.junk, AV.junk, AV.junk, AV.junk, AV.junk, AV.junk, AV.junk, AV.junk, AV.junk, AV.junk, AV.junk, AV.junk,
                    AV.junk, AV.junk, AV.junk, AV.junk, AV.junk, AV.junk, AV.junk, AV.junk, AV.junk, AV.junk, AV.junk, AV.junk, AV.junk, AV.junk, AV.junk, AV.junk, AV.junk, AV.junk, AV.junk, AV.junk, AV.junk, AV.junk, AV.junk]
                  [some (Blk.mk (3) false false true (Data.ints IntKind.i64 l))]))
            (Tree.br (!zl && decide ((0 : Int) ≤ (i : Int) ∧ (i : Int) < ((List.length l) : Int)))
              (Tree.br (decide (Int.toNat (i : Int) * 1 + 0 + 1 ≤ List.length l))
                (Tree.br (decide ((0 : Int) ≤ k ∧ k = k ∧ k ≤ most48 ∧ k * (8 : Int) ≤ most48))
                  (Tree.chk
                    (St.le
                      (St.mk
                        [AV.int IntKind.i64 false k, AV.sl zl (Ref.mk (0) (0) (0) (0)) false (List.length l) Cap.any, AV.bool false sign, AV.junk, AV.junk, AV.junk, AV.junk, AV.junk,
                          AV.sl false (Ref.mk (1) (0) (0) (0)) false (List.length (List.flatMap (wordsZ k) (List.take i l))) Cap.own, AV.int IntKind.i64 false (i : Int),
                          AV.int IntKind.u64 false (IntKind.wrap IntKind.u64 (List.getD l (Int.toNat (i : Int) * 1 + 0 + 0) (0 : Int))),
                          AV.sl false (Ref.mk (2) (0) (0) (0)) false (Int.toNat k) Cap.exact, AV.int IntKind.i64 false (IntKind.wrap IntKind.i64 (k - (1 : Int))), AV.junk, AV.junk, AV.junk, AV.junk,
                          AV.junk, AV.junk, AV.junk, AV.junk, AV.junk, AV.junk, AV.junk, AV.junk, AV.junk, AV.junk, AV.junk, AV.junk, AV.junk, AV.junk, AV.junk, AV.junk, AV.junk, AV.junk, AV.junk, AV.junk, AV.junk, AV.junk, AV.junk, AV.junk,
                          AV.junk, AV.junk, AV.junk, AV.junk, AV.junk, AV.junk, AV.junk, AV.junk, AV.junk, AV.junk, AV.junk, AV.junk, AV.junk, AV.junk, AV.junk, AV.junk, AV.junk, AV.junk]
                        [some (Blk.mk (3) false false true (Data.ints IntKind.i64 l)), some (Blk.mk (3) true false true (Data.ints IntKind.i64 (List.flatMap (wordsZ k) (List.take i l)))),
                          some (Blk.mk (3) true false true (Data.ints IntKind.i64 (List.replicate (Int.toNat k) (0 : Int))))])
                      (St.mk
                        [AV.int IntKind.i64 false k, AV.sl zl (Ref.mk (0) (0) (0) (0)) false (List.length l) Cap.any, AV.bool false sign, AV.junk, AV.junk, AV.junk, AV.junk, AV.junk,
                          AV.sl false (Ref.mk (1) (0) (0) (0)) false (List.length (List.flatMap (wordsZ k) (List.take (Int.toNat (i : Int)) l))) Cap.own, AV.int IntKind.i64 false ((Int.toNat (i : Int)) : Int),
                          AV.int IntKind.u64 false (xAt k (List.getD l (Int.toNat (i : Int)) (0 : Int)) (IntKind.wrap IntKind.i64 (k - (1 : Int)))),
                          AV.sl false (Ref.mk (2) (0) (0) (0)) false (Int.toNat k) Cap.exact, AV.int IntKind.i64 false (IntKind.wrap IntKind.i64 (k - (1 : Int))), AV.junk, AV.junk, AV.junk, AV.junk,
                          AV.junk, AV.junk, AV.junk, AV.junk, AV.junk, AV.junk, AV.junk, AV.junk, AV.junk, AV.junk, AV.junk, AV.junk, AV.junk, AV.junk, AV.junk, AV.junk, AV.junk, AV.junk, AV.junk, AV.junk, AV.junk, AV.junk, AV.junk, AV.junk,
                          AV.junk, AV.junk, AV.junk, AV.junk, AV.junk, AV.junk, AV.junk, AV.junk, AV.junk, AV.junk, AV.junk, AV.junk, AV.junk, AV.junk, AV.junk, AV.junk, AV.junk, AV.junk]
                        [some (Blk.mk (3) false false true (Data.ints IntKind.i64 l)), some (Blk.mk (3) true false true (Data.ints IntKind.i64 (List.flatMap (wordsZ k) (List.take (Int.toNat (i : Int)) l)))),
                          some (Blk.mk (3) true false true (Data.ints IntKind.i64 (fillR (wordsZ k (List.getD l (Int.toNat (i : Int)) (0 : Int))) (Int.toNat (IntKind.wrap IntKind.i64 (k - (1 : Int)) + (1 : Int))))))]))
                    (Tree.chk (okrput_1 (Xrput_1.mk k zl l sign (Int.toNat (i : Int)) (IntKind.wrap IntKind.i64 (k - (1 : Int)))))
                      (Tree.br
                        (decide
                          (((List.length (List.flatMap (wordsZ k) (List.take (Int.toNat (i : Int)) l)) + Int.toNat k) : Int) ≤ most48 ∧
                            (((List.length (List.flatMap (wordsZ k) (List.take (Int.toNat (i : Int)) l)) + Int.toNat k) * 8) : Int) ≤ most48))
                        (Tree.br
                          (decide
                              (List.length (List.flatMap (wordsZ k) (List.take (Int.toNat (i : Int)) l)) * 1 = Data.size (Data.ints IntKind.i64 (List.flatMap (wordsZ k) (List.take (Int.toNat (i : Int)) l))) ∧
                                Data.size (Data.ints IntKind.i64 (List.take (Int.toNat k * 1) (List.drop 0 (wordsZ k (List.getD l (Int.toNat (i : Int)) (0 : Int)))))) = Int.toNat k * 1) &&
                            false == false)
                          (Tree.ret
                            (Ex.norm,
                              St.mk
                                [AV.int IntKind.i64 false k, AV.sl zl (Ref.mk (0) (0) (0) (0)) false (List.length l) Cap.any, AV.bool false sign, AV.junk, AV.junk, AV.junk, AV.junk, AV.junk,
                                  AV.sl false (Ref.mk (1) (0) (0) (0)) false (List.length (List.flatMap (wordsZ k) (List.take (Int.toNat (i : Int)) l)) + Int.toNat k) Cap.own,
                                  AV.int IntKind.i64 false (IntKind.wrap IntKind.i64 (((Int.toNat (i : Int)) : Int) + (1 : Int))), AV.junk, AV.junk, AV.junk, AV.junk, AV.junk, AV.junk, AV.junk, AV.junk, AV.junk, AV.junk, AV.junk, AV.junk, AV.junk,
                                  AV.junk, AV.junk, AV.junk, AV.junk, AV.junk, AV.junk, AV.junk, AV.junk, AV.junk, AV.junk, AV.junk, AV.junk, AV.junk, AV.junk, AV.junk, AV.junk, AV.junk, AV.junk, AV.junk, AV.junk, AV.junk, AV.junk, AV.junk,
                                  AV.junk, AV.junk, AV.junk, AV.junk, AV.junk, AV.junk, AV.junk, AV.junk, AV.junk, AV.junk, AV.junk, AV.junk, AV.junk]
                                [some (Blk.mk (3) false false true (Data.ints IntKind.i64 l)),
                                  some
                                    (Blk.mk (3) true false true
                                      (Data.ints IntKind.i64
                                        (List.flatMap (wordsZ k) (List.take (Int.toNat (i : Int)) l) ++ List.take (Int.toNat k * 1) (List.drop 0 (wordsZ k (List.getD l (Int.toNat (i : Int)) (0 : Int)))))))]))
                          Tree.fail)
                        Tree.fail)))
                  Tree.fail)
                Tree.fail)
              Tree.fail)))
        Tree.fail)
      Tree.fail)
    (Tree.ret
      (Ex.exit (0),
        St.mk
          [AV.junk, AV.junk, AV.junk, AV.junk, AV.junk, AV.junk, AV.junk, AV.junk, AV.sl false (Ref.mk (1) (0) (0) (0)) false (List.length (List.flatMap (wordsZ k) (List.take i l))) Cap.own, AV.junk,
            AV.junk, AV.junk, AV.junk, AV.junk, AV.junk, AV.junk, AV.junk, AV.junk, AV.junk, AV.junk, AV.junk, AV.junk, AV.junk, AV.junk, AV.junk, AV.junk, AV.junk, AV.junk, AV.junk, AV.junk, AV.junk, AV.junk, AV.junk, AV.junk, AV.junk,
            AV.junk, AV.junk, AV.junk, AV.junk, AV.junk, AV.junk, AV.junk, AV.junk, AV.junk, AV.junk, AV.junk, AV.junk, AV.junk, AV.junk, AV.junk, AV.junk, AV.junk, AV.junk, AV.junk, AV.junk, AV.junk, AV.junk, AV.junk, AV.junk]
          [some (Blk.mk (3) false false true (Data.ints IntKind.i64 l)), some (Blk.mk (3) true false true (Data.ints IntKind.i64 (List.flatMap (wordsZ k) (List.take i l))))])) := by kernel_rfl
set_option maxRecDepth 100000 in
theorem steprput_0 (k : Int) (zl : Bool) (l : List Int) (sign : Bool) (i : Nat) (ex : Ex) (r : St) (hok : okrput_0 ⟨k, zl, l, sign, i⟩) (hr : (outrput_0 ⟨k, zl, l, sign, i⟩).runs (ex, r)) : (Tree.br (decide ((i : Int) < ((List.length l) : Int)))
    (Tree.br (!zl && decide ((0 : Int) ≤ (i : Int) ∧ (i : Int) < ((List.length l) : Int)))
      (Tree.br (decide (Int.toNat (i : Int) * 1 + 0 + 1 ≤ List.length l))
        (Tree.chk
          ((True ∧ True ∧ True ∧ True) ∧
            (1 : Int) ≤ k ∧
              k ≤ (4 : Int) ∧
                (-9223372036854775808 : Int) ≤ List.getD l (Int.toNat (i : Int) * 1 + 0 + 0) (0 : Int) ∧ List.getD l (Int.toNat (i : Int) * 1 + 0 + 0) (0 : Int) ≤ (9223372036854775807 : Int))
          (Tree.br (!fitsZ sign k (List.getD l (Int.toNat (i : Int) * 1 + 0 + 0) (0 : Int)))
            (Tree.ret
              (Ex.ret,
                St.mk
                  [AV.junk, AV.junk, AV.junk, AV.junk, AV.junk, AV.junk, AV.sl true (Ref.mk (0) (0) (0) (0)) true (0) Cap.exact, AV.int IntKind.i64 true (2 : Int), AV.junk, AV.junk, AV.junk, AV.junk,
                    AV.junk, AV.junk, AV.junk, AV.junk, AV.junk, AV.junk, AV.junk, AV.junk, AV.junk, AV.junk, AV.junk, AV.junk, AV.junk, AV.junk, AV.junk, AV.junk, AV.junk, AV.junk, AV.junk, AV.junk, AV.junk, AV.junk, AV.junk, AV.junk,
                    AV.junk, AV.junk, AV.junk, AV.junk, AV.junk, AV.junk, AV.junk, AV.junk, AV.junk, AV.junk, AV.junk, AV.junk, AV.junk, AV.junk, AV.junk, AV.junk, AV.junk, AV.junk, AV.junk, AV.junk, AV.junk, AV.junk, AV.junk]
                  [some (Blk.mk (3) false false true (Data.ints IntKind.i64 l))]))
            (Tree.br (!zl && decide ((0 : Int) ≤ (i : Int) ∧ (i : Int) < ((List.length l) : Int)))
              (Tree.br (decide (Int.toNat (i : Int) * 1 + 0 + 1 ≤ List.length l))
                (Tree.br (decide ((0 : Int) ≤ k ∧ k = k ∧ k ≤ most48 ∧ k * (8 : Int) ≤ most48))
                  (Tree.chk
                    (St.le
                      (St.mk
                        [AV.int IntKind.i64 false k, AV.sl zl (Ref.mk (0) (0) (0) (0)) false (List.length l) Cap.any, AV.bool false sign, AV.junk, AV.junk, AV.junk, AV.junk, AV.junk,
                          AV.sl false (Ref.mk (1) (0) (0) (0)) false (List.length (List.flatMap (wordsZ k) (List.take i l))) Cap.own, AV.int IntKind.i64 false (i : Int),
                          AV.int IntKind.u64 false (IntKind.wrap IntKind.u64 (List.getD l (Int.toNat (i : Int) * 1 + 0 + 0) (0 : Int))),
                          AV.sl false (Ref.mk (2) (0) (0) (0)) false (Int.toNat k) Cap.exact, AV.int IntKind.i64 false (IntKind.wrap IntKind.i64 (k - (1 : Int))), AV.junk, AV.junk, AV.junk, AV.junk,
                          AV.junk, AV.junk, AV.junk, AV.junk, AV.junk, AV.junk, AV.junk, AV.junk, AV.junk, AV.junk, AV.junk, AV.junk, AV.junk, AV.junk, AV.junk, AV.junk, AV.junk, AV.junk, AV.junk, AV.junk, AV.junk, AV.junk, AV.junk, AV.junk,
                          AV.junk, AV.junk, AV.junk, AV.junk, AV.junk, AV.junk, AV.junk, AV.junk, AV.junk, AV.junk, AV.junk, AV.junk, AV.junk, AV.junk, AV.junk, AV.junk, AV.junk, AV.junk]
                        [some (Blk.mk (3) false false true (Data.ints IntKind.i64 l)), some (Blk.mk (3) true false true (Data.ints IntKind.i64 (List.flatMap (wordsZ k) (List.take i l)))),
                          some (Blk.mk (3) true false true (Data.ints IntKind.i64 (List.replicate (Int.toNat k) (0 : Int))))])
                      (St.mk
                        [AV.int IntKind.i64 false k, AV.sl zl (Ref.mk (0) (0) (0) (0)) false (List.length l) Cap.any, AV.bool false sign, AV.junk, AV.junk, AV.junk, AV.junk, AV.junk,
                          AV.sl false (Ref.mk (1) (0) (0) (0)) false (List.length (List.flatMap (wordsZ k) (List.take (Int.toNat (i : Int)) l))) Cap.own, AV.int IntKind.i64 false ((Int.toNat (i : Int)) : Int),
                          AV.int IntKind.u64 false (xAt k (List.getD l (Int.toNat (i : Int)) (0 : Int)) (IntKind.wrap IntKind.i64 (k - (1 : Int)))),
                          AV.sl false (Ref.mk (2) (0) (0) (0)) false (Int.toNat k) Cap.exact, AV.int IntKind.i64 false (IntKind.wrap IntKind.i64 (k - (1 : Int))), AV.junk, AV.junk, AV.junk, AV.junk,
                          AV.junk, AV.junk, AV.junk, AV.junk, AV.junk, AV.junk, AV.junk, AV.junk, AV.junk, AV.junk, AV.junk, AV.junk, AV.junk, AV.junk, AV.junk, AV.junk, AV.junk, AV.junk, AV.junk, AV.junk, AV.junk, AV.junk, AV.junk, AV.junk,
                          AV.junk, AV.junk, AV.junk, AV.junk, AV.junk, AV.junk, AV.junk, AV.junk, AV.junk, AV.junk, AV.junk, AV.junk, AV.junk, AV.junk, AV.junk, AV.junk, AV.junk, AV.junk]
                        [some (Blk.mk (3) false false true (Data.ints IntKind.i64 l)), some (Blk.mk (3) true false true (Data.ints IntKind.i64 (List.flatMap (wordsZ k) (List.take (Int.toNat (i : Int)) l)))),
                          some (Blk.mk (3) true false true (Data.ints IntKind.i64 (fillR (wordsZ k (List.getD l (Int.toNat (i : Int)) (0 : Int))) (Int.toNat (IntKind.wrap IntKind.i64 (k - (1 : Int)) + (1 : Int))))))]))
                    (Tree.chk (okrput_1 (Xrput_1.mk k zl l sign (Int.toNat (i : Int)) (IntKind.wrap IntKind.i64 (k - (1 : Int)))))
                      (Tree.br
                        (decide
                          (((List.length (List.flatMap (wordsZ k) (List.take (Int.toNat (i : Int)) l)) + Int.toNat k) : Int) ≤ most48 ∧
                            (((List.length (List.flatMap (wordsZ k) (List.take (Int.toNat (i : Int)) l)) + Int.toNat k) * 8) : Int) ≤ most48))
                        (Tree.br
                          (decide
                              (List.length (List.flatMap (wordsZ k) (List.take (Int.toNat (i : Int)) l)) * 1 = Data.size (Data.ints IntKind.i64 (List.flatMap (wordsZ k) (List.take (Int.toNat (i : Int)) l))) ∧
                                Data.size (Data.ints IntKind.i64 (List.take (Int.toNat k * 1) (List.drop 0 (wordsZ k (List.getD l (Int.toNat (i : Int)) (0 : Int)))))) = Int.toNat k * 1) &&
                            false == false)
                          (Tree.ret
                            (Ex.norm,
                              St.mk
                                [AV.int IntKind.i64 false k, AV.sl zl (Ref.mk (0) (0) (0) (0)) false (List.length l) Cap.any, AV.bool false sign, AV.junk, AV.junk, AV.junk, AV.junk, AV.junk,
                                  AV.sl false (Ref.mk (1) (0) (0) (0)) false (List.length (List.flatMap (wordsZ k) (List.take (Int.toNat (i : Int)) l)) + Int.toNat k) Cap.own,
                                  AV.int IntKind.i64 false (IntKind.wrap IntKind.i64 (((Int.toNat (i : Int)) : Int) + (1 : Int))), AV.junk, AV.junk, AV.junk, AV.junk, AV.junk, AV.junk, AV.junk, AV.junk, AV.junk, AV.junk, AV.junk, AV.junk, AV.junk,
                                  AV.junk, AV.junk, AV.junk, AV.junk, AV.junk, AV.junk, AV.junk, AV.junk, AV.junk, AV.junk, AV.junk, AV.junk, AV.junk, AV.junk, AV.junk, AV.junk, AV.junk, AV.junk, AV.junk, AV.junk, AV.junk, AV.junk, AV.junk,
                                  AV.junk, AV.junk, AV.junk, AV.junk, AV.junk, AV.junk, AV.junk, AV.junk, AV.junk, AV.junk, AV.junk, AV.junk, AV.junk]
                                [some (Blk.mk (3) false false true (Data.ints IntKind.i64 l)),
                                  some
                                    (Blk.mk (3) true false true
                                      (Data.ints IntKind.i64
                                        (List.flatMap (wordsZ k) (List.take (Int.toNat (i : Int)) l) ++ List.take (Int.toNat k * 1) (List.drop 0 (wordsZ k (List.getD l (Int.toNat (i : Int)) (0 : Int)))))))]))
                          Tree.fail)
                        Tree.fail)))
                  Tree.fail)
                Tree.fail)
              Tree.fail)))
        Tree.fail)
      Tree.fail)
    (Tree.ret
      (Ex.exit (0),
        St.mk
          [AV.junk, AV.junk, AV.junk, AV.junk, AV.junk, AV.junk, AV.junk, AV.junk, AV.sl false (Ref.mk (1) (0) (0) (0)) false (List.length (List.flatMap (wordsZ k) (List.take i l))) Cap.own, AV.junk,
            AV.junk, AV.junk, AV.junk, AV.junk, AV.junk, AV.junk, AV.junk, AV.junk, AV.junk, AV.junk, AV.junk, AV.junk, AV.junk, AV.junk, AV.junk, AV.junk, AV.junk, AV.junk, AV.junk, AV.junk, AV.junk, AV.junk, AV.junk, AV.junk, AV.junk,
            AV.junk, AV.junk, AV.junk, AV.junk, AV.junk, AV.junk, AV.junk, AV.junk, AV.junk, AV.junk, AV.junk, AV.junk, AV.junk, AV.junk, AV.junk, AV.junk, AV.junk, AV.junk, AV.junk, AV.junk, AV.junk, AV.junk, AV.junk, AV.junk]
          [some (Blk.mk (3) false false true (Data.ints IntKind.i64 l)), some (Blk.mk (3) true false true (Data.ints IntKind.i64 (List.flatMap (wordsZ k) (List.take i l))))])) : Tree (Ex × St)).Sat (Post hdrput_0 resrput_0 murput_0 ⟨k, zl, l, sign, i⟩ ex r) := by
  simp only [okrput_0, outrput_0, Tree.runs] at hok hr
  obtain ⟨h1k, h4k, hl, hw, hz, ha, hi⟩ := hok
  have hO : ((l.take i).flatMap (wordsZ k)).length ≤ 400000 := by
    rw [flat_len]
    exact Nat.le_trans (Nat.mul_le_mul (show (l.take i).length ≤ 100000 by rw [List.length_take]; omega) (show k.toNat ≤ 4 by omega)) (by omega)
  have hW := wordsZ_len k (l.getD i 0)
  have ht4 : k.toNat ≤ 4 := by omega
  refine Tree.Sat.br (fun h1 => ?_) (fun h1 => ?_)
  · (try simp only [decide_eq_true_eq, decide_eq_false_iff_not, Bool.not_eq_true', Bool.not_eq_false', beq_iff_eq, beq_eq_false_iff_ne, Int.not_lt, Int.not_le, ge_iff_le, gt_iff_lt, ne_eq, Bool.false_eq_true, Bool.true_eq_false, not_true_eq_false, not_false_eq_true, Bool.and_eq_true, Bool.not_eq_eq_eq_not, Bool.not_true, Bool.not_false, bne_iff_ne, bne_eq_false_iff_eq, Int.toNat_natCast, Nat.mul_one, Nat.add_zero, Nat.zero_add, List.take_length, List.drop_zero] at h1)
    all_goals
      refine Tree.Sat.br (fun h2 => ?_) (fun h2 => ?_)
      · (try simp only [decide_eq_true_eq, decide_eq_false_iff_not, Bool.not_eq_true', Bool.not_eq_false', beq_iff_eq, beq_eq_false_iff_ne, Int.not_lt, Int.not_le, ge_iff_le, gt_iff_lt, ne_eq, Bool.false_eq_true, Bool.true_eq_false, not_true_eq_false, not_false_eq_true, Bool.and_eq_true, Bool.not_eq_eq_eq_not, Bool.not_true, Bool.not_false, bne_iff_ne, bne_eq_false_iff_eq, Int.toNat_natCast, Nat.mul_one, Nat.add_zero, Nat.zero_add, List.take_length, List.drop_zero] at h2)
        all_goals
          refine Tree.Sat.br (fun h3 => ?_) (fun h3 => ?_)
          · (try simp only [decide_eq_true_eq, decide_eq_false_iff_not, Bool.not_eq_true', Bool.not_eq_false', beq_iff_eq, beq_eq_false_iff_ne, Int.not_lt, Int.not_le, ge_iff_le, gt_iff_lt, ne_eq, Bool.false_eq_true, Bool.true_eq_false, not_true_eq_false, not_false_eq_true, Bool.and_eq_true, Bool.not_eq_eq_eq_not, Bool.not_true, Bool.not_false, bne_iff_ne, bne_eq_false_iff_eq, Int.toNat_natCast, Nat.mul_one, Nat.add_zero, Nat.zero_add, List.take_length, List.drop_zero] at h3)
            all_goals
              refine Tree.Sat.chk (by first | (simp only [and_self]; done) | (simp only [Int.toNat_natCast, Nat.mul_one, Nat.add_zero]; exact ⟨⟨trivial, trivial, trivial, trivial⟩, h1k, h4k, wfL_get hw (by omega)⟩)) ?_
              refine Tree.Sat.br (fun h4 => ?_) (fun h4 => ?_)
              · (try simp only [decide_eq_true_eq, decide_eq_false_iff_not, Bool.not_eq_true', Bool.not_eq_false', beq_iff_eq, beq_eq_false_iff_ne, Int.not_lt, Int.not_le, ge_iff_le, gt_iff_lt, ne_eq, Bool.false_eq_true, Bool.true_eq_false, not_true_eq_false, not_false_eq_true, Bool.and_eq_true, Bool.not_eq_eq_eq_not, Bool.not_true, Bool.not_false, bne_iff_ne, bne_eq_false_iff_eq, Int.toNat_natCast, Nat.mul_one, Nat.add_zero, Nat.zero_add, List.take_length, List.drop_zero] at h4)
                all_goals
                  refine Tree.Sat.ret ?_
                  have hq := hr.2 (all_miss (i := i) (by omega) (by simpa using h4))
                  simp only [Prod.mk.injEq] at hq
                  obtain ⟨rfl, rfl⟩ := hq
                  refine .ret rfl ?_
                  constructor <;> simp only [AV.leL, AV.le, Mem.le, Mem.leP, Blk.le, Blk.pad, Data.le, Data.size, Cap.le, and_true, true_and, and_self, true_implies, implies_true, imp_self, List.length_nil] <;> (repeat' with_reducible refine And.intro ?_ ?_) <;> (try simp only [Int.toNat_natCast, Nat.mul_one, Nat.add_zero, Nat.zero_add]) <;> done
              · (try simp only [decide_eq_true_eq, decide_eq_false_iff_not, Bool.not_eq_true', Bool.not_eq_false', beq_iff_eq, beq_eq_false_iff_ne, Int.not_lt, Int.not_le, ge_iff_le, gt_iff_lt, ne_eq, Bool.false_eq_true, Bool.true_eq_false, not_true_eq_false, not_false_eq_true, Bool.and_eq_true, Bool.not_eq_eq_eq_not, Bool.not_true, Bool.not_false, bne_iff_ne, bne_eq_false_iff_eq, Int.toNat_natCast, Nat.mul_one, Nat.add_zero, Nat.zero_add, List.take_length, List.drop_zero] at h4)
                all_goals
                  refine Tree.Sat.br (fun h5 => ?_) (fun h5 => ?_)
                  · (try simp only [decide_eq_true_eq, decide_eq_false_iff_not, Bool.not_eq_true', Bool.not_eq_false', beq_iff_eq, beq_eq_false_iff_ne, Int.not_lt, Int.not_le, ge_iff_le, gt_iff_lt, ne_eq, Bool.false_eq_true, Bool.true_eq_false, not_true_eq_false, not_false_eq_true, Bool.and_eq_true, Bool.not_eq_eq_eq_not, Bool.not_true, Bool.not_false, bne_iff_ne, bne_eq_false_iff_eq, Int.toNat_natCast, Nat.mul_one, Nat.add_zero, Nat.zero_add, List.take_length, List.drop_zero] at h5)
                    all_goals
                      refine Tree.Sat.br (fun h6 => ?_) (fun h6 => ?_)
                      · (try simp only [decide_eq_true_eq, decide_eq_false_iff_not, Bool.not_eq_true', Bool.not_eq_false', beq_iff_eq, beq_eq_false_iff_ne, Int.not_lt, Int.not_le, ge_iff_le, gt_iff_lt, ne_eq, Bool.false_eq_true, Bool.true_eq_false, not_true_eq_false, not_false_eq_true, Bool.and_eq_true, Bool.not_eq_eq_eq_not, Bool.not_true, Bool.not_false, bne_iff_ne, bne_eq_false_iff_eq, Int.toNat_natCast, Nat.mul_one, Nat.add_zero, Nat.zero_add, List.take_length, List.drop_zero] at h6)
                        all_goals
                          refine Tree.Sat.br (fun h7 => ?_) (fun h7 => ?_)
                          · (try simp only [decide_eq_true_eq, decide_eq_false_iff_not, Bool.not_eq_true', Bool.not_eq_false', beq_iff_eq, beq_eq_false_iff_ne, Int.not_lt, Int.not_le, ge_iff_le, gt_iff_lt, ne_eq, Bool.false_eq_true, Bool.true_eq_false, not_true_eq_false, not_false_eq_true, Bool.and_eq_true, Bool.not_eq_eq_eq_not, Bool.not_true, Bool.not_false, bne_iff_ne, bne_eq_false_iff_eq, Int.toNat_natCast, Nat.mul_one, Nat.add_zero, Nat.zero_add, List.take_length, List.drop_zero] at h7)
                            all_goals
                              refine Tree.Sat.chk (by first | (simp only [and_self]; done) | (constructor <;> simp only [hdrput_1, Int.toNat_natCast, Nat.mul_one, Nat.add_zero, AV.leL, AV.le, Mem.le, Mem.leP, Blk.le, Blk.pad, Data.le, Data.size, Cap.le, and_true, true_and, and_self, true_implies, implies_true, imp_self, List.length_nil] <;> (repeat' with_reducible refine And.intro ?_ ?_) <;> (try simp only [Int.toNat_natCast, Nat.mul_one, Nat.add_zero, Nat.zero_add]) <;> first | omega | (rw [xAt_top h1k h4k]; exact wu64 _) | (rw [fillR_all (by rw [wordsZ_len]; rw [w64]; omega), w64]; congr 1; omega))) ?_
                              refine Tree.Sat.chk (by first | (simp only [and_self]; done) | (simp only [okrput_1, Int.toNat_natCast]; exact ⟨h1k, h4k, hl, hw, hz, ha, by omega, by rw [w64]; omega, by rw [w64]; omega⟩)) ?_
                              refine Tree.Sat.br (fun h8 => ?_) (fun h8 => ?_)
                              · (try simp only [decide_eq_true_eq, decide_eq_false_iff_not, Bool.not_eq_true', Bool.not_eq_false', beq_iff_eq, beq_eq_false_iff_ne, Int.not_lt, Int.not_le, ge_iff_le, gt_iff_lt, ne_eq, Bool.false_eq_true, Bool.true_eq_false, not_true_eq_false, not_false_eq_true, Bool.and_eq_true, Bool.not_eq_eq_eq_not, Bool.not_true, Bool.not_false, bne_iff_ne, bne_eq_false_iff_eq, Int.toNat_natCast, Nat.mul_one, Nat.add_zero, Nat.zero_add, List.take_length, List.drop_zero] at h8)
                                all_goals
                                  refine Tree.Sat.br (fun h9 => ?_) (fun h9 => ?_)
                                  · (try simp only [decide_eq_true_eq, decide_eq_false_iff_not, Bool.not_eq_true', Bool.not_eq_false', beq_iff_eq, beq_eq_false_iff_ne, Int.not_lt, Int.not_le, ge_iff_le, gt_iff_lt, ne_eq, Bool.false_eq_true, Bool.true_eq_false, not_true_eq_false, not_false_eq_true, Bool.and_eq_true, Bool.not_eq_eq_eq_not, Bool.not_true, Bool.not_false, bne_iff_ne, bne_eq_false_iff_eq, Int.toNat_natCast, Nat.mul_one, Nat.add_zero, Nat.zero_add, List.take_length, List.drop_zero] at h9)
                                    all_goals
                                      refine Tree.Sat.ret ?_
                                      refine .norm ⟨k, zl, l, sign, i + 1⟩ ?_ ?_ ⟨?_, ?_⟩
                                      · constructor <;> simp only [hdrput_0, AV.leL, AV.le, Mem.le, Mem.leP, Blk.le, Blk.pad, Data.le, Data.size, Cap.le, and_true, true_and, and_self, true_implies, implies_true, imp_self, List.length_nil] <;> (repeat' with_reducible refine And.intro ?_ ?_) <;> (try simp only [Int.toNat_natCast, Nat.mul_one, Nat.add_zero, Nat.zero_add]) <;> first | exact wadd1 (by omega) | ((try simp only [Int.toNat_natCast, List.drop_zero]); rw [← flat_step (k := k) (l := l) (i := i) (by omega), List.length_append, hW]) | ((try simp only [Int.toNat_natCast, List.drop_zero]); rw [show (wordsZ k (l.getD i 0)).take k.toNat = wordsZ k (l.getD i 0) from List.take_of_length_le (by omega)]; exact flat_step (k := k) (l := l) (i := i) (by omega)) | ((try simp only [Int.toNat_natCast, List.drop_zero]); exact flat_step (k := k) (l := l) (i := i) (by omega))
                                      · simp only [murput_0]; omega
                                      · exact ⟨h1k, h4k, hl, hw, hz, all_take_succ (by omega) ha (by simpa using h4), by omega⟩
                                      · exact hr
                                  · (try simp only [decide_eq_true_eq, decide_eq_false_iff_not, Bool.not_eq_true', Bool.not_eq_false', beq_iff_eq, beq_eq_false_iff_ne, Int.not_lt, Int.not_le, ge_iff_le, gt_iff_lt, ne_eq, Bool.false_eq_true, Bool.true_eq_false, not_true_eq_false, not_false_eq_true, Bool.and_eq_true, Bool.not_eq_eq_eq_not, Bool.not_true, Bool.not_false, bne_iff_ne, bne_eq_false_iff_eq, Int.toNat_natCast, Nat.mul_one, Nat.add_zero, Nat.zero_add, List.take_length, List.drop_zero] at h9)
                                    all_goals
                                      exfalso
                                      simp only [most48, Data.size, List.length_take, List.length_drop, List.drop_zero, Bool.and_eq_false_iff, decide_eq_false_iff_not, Nat.mul_one, beq_self_eq_true, Bool.and_true, Int.toNat_natCast, true_and] at h8 h9
                                      omega
                              · (try simp only [decide_eq_true_eq, decide_eq_false_iff_not, Bool.not_eq_true', Bool.not_eq_false', beq_iff_eq, beq_eq_false_iff_ne, Int.not_lt, Int.not_le, ge_iff_le, gt_iff_lt, ne_eq, Bool.false_eq_true, Bool.true_eq_false, not_true_eq_false, not_false_eq_true, Bool.and_eq_true, Bool.not_eq_eq_eq_not, Bool.not_true, Bool.not_false, bne_iff_ne, bne_eq_false_iff_eq, Int.toNat_natCast, Nat.mul_one, Nat.add_zero, Nat.zero_add, List.take_length, List.drop_zero] at h8)
                                all_goals
                                  exfalso
                                  simp only [most48, Data.size, List.length_take, List.length_drop, List.drop_zero, Bool.and_eq_false_iff, decide_eq_false_iff_not, Nat.mul_one, beq_self_eq_true, Bool.and_true, Int.toNat_natCast, true_and] at h8
                                  omega
                          · (try simp only [decide_eq_true_eq, decide_eq_false_iff_not, Bool.not_eq_true', Bool.not_eq_false', beq_iff_eq, beq_eq_false_iff_ne, Int.not_lt, Int.not_le, ge_iff_le, gt_iff_lt, ne_eq, Bool.false_eq_true, Bool.true_eq_false, not_true_eq_false, not_false_eq_true, Bool.and_eq_true, Bool.not_eq_eq_eq_not, Bool.not_true, Bool.not_false, bne_iff_ne, bne_eq_false_iff_eq, Int.toNat_natCast, Nat.mul_one, Nat.add_zero, Nat.zero_add, List.take_length, List.drop_zero] at h7)
                            all_goals
                              exfalso
                              simp [most48] at h7
                              omega
                      · (try simp only [decide_eq_true_eq, decide_eq_false_iff_not, Bool.not_eq_true', Bool.not_eq_false', beq_iff_eq, beq_eq_false_iff_ne, Int.not_lt, Int.not_le, ge_iff_le, gt_iff_lt, ne_eq, Bool.false_eq_true, Bool.true_eq_false, not_true_eq_false, not_false_eq_true, Bool.and_eq_true, Bool.not_eq_eq_eq_not, Bool.not_true, Bool.not_false, bne_iff_ne, bne_eq_false_iff_eq, Int.toNat_natCast, Nat.mul_one, Nat.add_zero, Nat.zero_add, List.take_length, List.drop_zero] at h6)
                        all_goals
                          exfalso
                          first | omega | (simp only [most48, Data.size, List.length_take, List.drop_zero, Bool.and_eq_true, decide_eq_true_eq, decide_eq_false_iff_not, Bool.and_eq_false_iff, Int.toNat_natCast] at *; omega) | (simp only [w64] at *; omega) | (simp only [most48] at *; omega) | (simp [Data.size, List.take_length] at *; done) | (cases zl <;> simp_all; done) | (cases zl <;> simp_all <;> omega)
                  · (try simp only [decide_eq_true_eq, decide_eq_false_iff_not, Bool.not_eq_true', Bool.not_eq_false', beq_iff_eq, beq_eq_false_iff_ne, Int.not_lt, Int.not_le, ge_iff_le, gt_iff_lt, ne_eq, Bool.false_eq_true, Bool.true_eq_false, not_true_eq_false, not_false_eq_true, Bool.and_eq_true, Bool.not_eq_eq_eq_not, Bool.not_true, Bool.not_false, bne_iff_ne, bne_eq_false_iff_eq, Int.toNat_natCast, Nat.mul_one, Nat.add_zero, Nat.zero_add, List.take_length, List.drop_zero] at h5)
                    all_goals
                      exfalso
                      first | omega | (simp only [most48, Data.size, List.length_take, List.drop_zero, Bool.and_eq_true, decide_eq_true_eq, decide_eq_false_iff_not, Bool.and_eq_false_iff, Int.toNat_natCast] at *; omega) | (simp only [w64] at *; omega) | (simp only [most48] at *; omega) | (simp [Data.size, List.take_length] at *; done) | (cases zl <;> simp_all; done) | (cases zl <;> simp_all <;> omega)
          · (try simp only [decide_eq_true_eq, decide_eq_false_iff_not, Bool.not_eq_true', Bool.not_eq_false', beq_iff_eq, beq_eq_false_iff_ne, Int.not_lt, Int.not_le, ge_iff_le, gt_iff_lt, ne_eq, Bool.false_eq_true, Bool.true_eq_false, not_true_eq_false, not_false_eq_true, Bool.and_eq_true, Bool.not_eq_eq_eq_not, Bool.not_true, Bool.not_false, bne_iff_ne, bne_eq_false_iff_eq, Int.toNat_natCast, Nat.mul_one, Nat.add_zero, Nat.zero_add, List.take_length, List.drop_zero] at h3)
            all_goals
              exfalso
              first | omega | (simp only [most48, Data.size, List.length_take, List.drop_zero, Bool.and_eq_true, decide_eq_true_eq, decide_eq_false_iff_not, Bool.and_eq_false_iff, Int.toNat_natCast] at *; omega) | (simp only [w64] at *; omega) | (simp only [most48] at *; omega) | (simp [Data.size, List.take_length] at *; done) | (cases zl <;> simp_all; done) | (cases zl <;> simp_all <;> omega)
      · (try simp only [decide_eq_true_eq, decide_eq_false_iff_not, Bool.not_eq_true', Bool.not_eq_false', beq_iff_eq, beq_eq_false_iff_ne, Int.not_lt, Int.not_le, ge_iff_le, gt_iff_lt, ne_eq, Bool.false_eq_true, Bool.true_eq_false, not_true_eq_false, not_false_eq_true, Bool.and_eq_true, Bool.not_eq_eq_eq_not, Bool.not_true, Bool.not_false, bne_iff_ne, bne_eq_false_iff_eq, Int.toNat_natCast, Nat.mul_one, Nat.add_zero, Nat.zero_add, List.take_length, List.drop_zero] at h2)
        all_goals
          exfalso
          first | omega | (simp only [most48, Data.size, List.length_take, List.drop_zero, Bool.and_eq_true, decide_eq_true_eq, decide_eq_false_iff_not, Bool.and_eq_false_iff, Int.toNat_natCast] at *; omega) | (simp only [w64] at *; omega) | (simp only [most48] at *; omega) | (simp [Data.size, List.take_length] at *; done) | (cases zl <;> simp_all; done) | (cases zl <;> simp_all <;> omega)
  · (try simp only [decide_eq_true_eq, decide_eq_false_iff_not, Bool.not_eq_true', Bool.not_eq_false', beq_iff_eq, beq_eq_false_iff_ne, Int.not_lt, Int.not_le, ge_iff_le, gt_iff_lt, ne_eq, Bool.false_eq_true, Bool.true_eq_false, not_true_eq_false, not_false_eq_true, Bool.and_eq_true, Bool.not_eq_eq_eq_not, Bool.not_true, Bool.not_false, bne_iff_ne, bne_eq_false_iff_eq, Int.toNat_natCast, Nat.mul_one, Nat.add_zero, Nat.zero_add, List.take_length, List.drop_zero] at h1)
    all_goals
      refine Tree.Sat.ret ?_
      have hq := hr.1 (by rw [List.take_of_length_le (by omega)] at ha; exact ha)
      simp only [Prod.mk.injEq] at hq
      obtain ⟨rfl, rfl⟩ := hq
      refine .exit rfl ?_
      constructor <;> simp only [AV.leL, AV.le, Mem.le, Mem.leP, Blk.le, Blk.pad, Data.le, Data.size, Cap.le, and_true, true_and, and_self, true_implies, implies_true, imp_self, List.length_nil] <;> (repeat' with_reducible refine And.intro ?_ ?_) <;> (try simp only [Int.toNat_natCast, Nat.mul_one, Nat.add_zero, Nat.zero_add]) <;> rw [List.take_of_length_le (by omega)]
theorem looprput_0 (hall : AllOk Try.prog 0 (fun _ => none) tab18) : LoopOk (mkL Try.prog 0 (fun _ => none) tab18 rowsrput) 11 1 (bodyAt Try.prog 11 0) := by
  have hkey : Code.key (bodyAt Try.prog 11 0) = 5 := by kernel_rfl
  have hin : loopsIn (bodyAt Try.prog 11 0) = [bodyAt Try.prog 11 1] := by kernel_rfl
  have hrow : lookL rowsrput 11 (Code.key (bodyAt Try.prog 11 0)) = some rowrput_0 := by rw [hkey]; rfl
  refine loop_rowP (X := Xrput_0) (row := rowrput_0) hall mix hrow (fun b hb _ => by rw [hin] at hb; simp only [List.mem_cons, List.not_mem_nil, or_false] at hb; rcases hb with rfl <;> first | exact looprput_1 hall) Urput_0 hdrput_0 resrput_0 murput_0 (fun st ex r h => ?_) (fun x ex r hr => ?_)
  · have h' : (ansrput_0 st).runs (ex, r) := h
    unfold ansrput_0 at h'
    split at h'
    · obtain ⟨q1, q2⟩ := Tree.chk_runs h'
      exact ⟨_, q1, q2⟩
    · exact h'.elim
  · obtain ⟨k, zl, l, sign, i⟩ := x
    have := steprput_0 k zl l sign i ex r hr.1 hr.2
    rw [← tLrput_0] at this
    exact this
theorem loopsrput (hall : AllOk Try.prog 0 (fun _ => none) tab18) : ∀ i, i < (loopsAt Try.prog 11).length → LoopOk (mkL Try.prog 0 (fun _ => none) tab18 rowsrput) 11 1 (bodyAt Try.prog 11 i) := by
  intro i hi
  have hlen : (loopsAt Try.prog 11).length = 2 := by kernel_rfl
  rw [hlen] at hi
  obtain rfl | rfl : i = 0 ∨ i = 1 := by omega
  · exact looprput_0 hall
  · exact looprput_1 hall
set_option maxRecDepth 100000 in
theorem trput (k : Int) (zl : Bool) (l : List Int) (sign : Bool) : evBody (mkL Try.prog 0 (fun _ => none) tab18 rowsrput) (evCall (mkC Try.prog 0 (fun _ => none) tab18) 50) 11 [.int .i64 false k, .sl zl ⟨0, 0, 0, 0⟩ false l.length .any, .bool false sign] [some ⟨3, false, false, true, .ints .i64 l⟩] =
  Tree.br (decide (k < (1 : Int)))
    (Tree.ret (AV.tup [AV.sl true (Ref.mk (0) (0) (0) (0)) true (0) Cap.exact, AV.int IntKind.i64 true (2 : Int)], [some (Blk.mk (3) false false true (Data.ints IntKind.i64 l))]))
    (Tree.br (decide (k > (4 : Int)))
      (Tree.ret (AV.tup [AV.sl true (Ref.mk (0) (0) (0) (0)) true (0) Cap.exact, AV.int IntKind.i64 true (2 : Int)], [some (Blk.mk (3) false false true (Data.ints IntKind.i64 l))]))
      (Tree.chk
        (St.le
          (St.mk
            [AV.int IntKind.i64 false k, AV.sl zl (Ref.mk (0) (0) (0) (0)) false (List.length l) Cap.any, AV.bool false sign, AV.junk, AV.junk, AV.junk, AV.junk, AV.junk,
              AV.sl false (Ref.mk (1) (0) (0) (0)) true (0) Cap.own, AV.int IntKind.i64 true (0 : Int), AV.junk, AV.junk, AV.junk, AV.junk, AV.junk, AV.junk, AV.junk, AV.junk, AV.junk, AV.junk, AV.junk,
              AV.junk, AV.junk, AV.junk, AV.junk, AV.junk, AV.junk, AV.junk, AV.junk, AV.junk, AV.junk, AV.junk, AV.junk, AV.junk, AV.junk, AV.junk, AV.junk, AV.junk, AV.junk, AV.junk, AV.junk, AV.junk, AV.junk, AV.junk, AV.junk, AV.junk,
              AV.junk, AV.junk, AV.junk, AV.junk, AV.junk, AV.junk, AV.junk, AV.junk, AV.junk, AV.junk, AV.junk, AV.junk, AV.junk]
            [some (Blk.mk (3) false false true (Data.ints IntKind.i64 l)), some (Blk.mk (3) true false true (Data.cells []))])
          (St.mk
            [AV.int IntKind.i64 false k, AV.sl zl (Ref.mk (0) (0) (0) (0)) false (List.length l) Cap.any, AV.bool false sign, AV.junk, AV.junk, AV.junk, AV.junk, AV.junk,
              AV.sl false (Ref.mk (1) (0) (0) (0)) false (0) Cap.own, AV.int IntKind.i64 false (0 : Int), AV.junk, AV.junk, AV.junk, AV.junk, AV.junk, AV.junk, AV.junk, AV.junk, AV.junk, AV.junk,
              AV.junk, AV.junk, AV.junk, AV.junk, AV.junk, AV.junk, AV.junk, AV.junk, AV.junk, AV.junk, AV.junk, AV.junk, AV.junk, AV.junk, AV.junk, AV.junk, AV.junk, AV.junk, AV.junk, AV.junk, AV.junk, AV.junk, AV.junk, AV.junk, AV.junk,
              AV.junk, AV.junk, AV.junk, AV.junk, AV.junk, AV.junk, AV.junk, AV.junk, AV.junk, AV.junk, AV.junk, AV.junk, AV.junk, AV.junk]
            [some (Blk.mk (3) false false true (Data.ints IntKind.i64 l)), some (Blk.mk (3) true false true (Data.ints IntKind.i64 (List.flatMap (wordsZ k) (List.take (Int.toNat (0 : Int)) l))))]))
        (Tree.chk (okrput_0 (Xrput_0.mk k zl l sign (Int.toNat (0 : Int))))
          (Tree.br (List.all l (fitsZ sign k))
            (Tree.ret
              (AV.tup [AV.sl false (Ref.mk (1) (0) (0) (0)) false (List.length (List.flatMap (wordsZ k) l)) Cap.own, AV.int IntKind.i64 true (0 : Int)],
                [some (Blk.mk (3) false false true (Data.ints IntKind.i64 l)), some (Blk.mk (3) true false true (Data.ints IntKind.i64 (List.flatMap (wordsZ k) l)))]))
            (Tree.ret (AV.tup [AV.sl true (Ref.mk (0) (0) (0) (0)) true (0) Cap.exact, AV.int IntKind.i64 true (2 : Int)], [some (Blk.mk (3) false false true (Data.ints IntKind.i64 l))])))))) := by kernel_rfl
set_option maxRecDepth 100000 in
theorem grput (k : Int) (zl : Bool) (l : List Int) (sign : Bool) (hw : l.length ≤ 100000 ∧ wf64L l ∧ (zl = true → l = [])) : (Tree.br (decide (k < (1 : Int)))
    (Tree.ret (AV.tup [AV.sl true (Ref.mk (0) (0) (0) (0)) true (0) Cap.exact, AV.int IntKind.i64 true (2 : Int)], [some (Blk.mk (3) false false true (Data.ints IntKind.i64 l))]))
    (Tree.br (decide (k > (4 : Int)))
      (Tree.ret (AV.tup [AV.sl true (Ref.mk (0) (0) (0) (0)) true (0) Cap.exact, AV.int IntKind.i64 true (2 : Int)], [some (Blk.mk (3) false false true (Data.ints IntKind.i64 l))]))
      (Tree.chk
        (St.le
          (St.mk
            [AV.int IntKind.i64 false k, AV.sl zl (Ref.mk (0) (0) (0) (0)) false (List.length l) Cap.any, AV.bool false sign, AV.junk, AV.junk, AV.junk, AV.junk, AV.junk,
              AV.sl false (Ref.mk (1) (0) (0) (0)) true (0) Cap.own, AV.int IntKind.i64 true (0 : Int), AV.junk, AV.junk, AV.junk, AV.junk, AV.junk, AV.junk, AV.junk, AV.junk, AV.junk, AV.junk, AV.junk,
              AV.junk, AV.junk, AV.junk, AV.junk, AV.junk, AV.junk, AV.junk, AV.junk, AV.junk, AV.junk, AV.junk, AV.junk, AV.junk, AV.junk, AV.junk, AV.junk, AV.junk, AV.junk, AV.junk, AV.junk, AV.junk, AV.junk, AV.junk, AV.junk, AV.junk,
              AV.junk, AV.junk, AV.junk, AV.junk, AV.junk, AV.junk, AV.junk, AV.junk, AV.junk, AV.junk, AV.junk, AV.junk, AV.junk]
            [some (Blk.mk (3) false false true (Data.ints IntKind.i64 l)), some (Blk.mk (3) true false true (Data.cells []))])
          (St.mk
            [AV.int IntKind.i64 false k, AV.sl zl (Ref.mk (0) (0) (0) (0)) false (List.length l) Cap.any, AV.bool false sign, AV.junk, AV.junk, AV.junk, AV.junk, AV.junk,
              AV.sl false (Ref.mk (1) (0) (0) (0)) false (0) Cap.own, AV.int IntKind.i64 false (0 : Int), AV.junk, AV.junk, AV.junk, AV.junk, AV.junk, AV.junk, AV.junk, AV.junk, AV.junk, AV.junk,
              AV.junk, AV.junk, AV.junk, AV.junk, AV.junk, AV.junk, AV.junk, AV.junk, AV.junk, AV.junk, AV.junk, AV.junk, AV.junk, AV.junk, AV.junk, AV.junk, AV.junk, AV.junk, AV.junk, AV.junk, AV.junk, AV.junk, AV.junk, AV.junk, AV.junk,
              AV.junk, AV.junk, AV.junk, AV.junk, AV.junk, AV.junk, AV.junk, AV.junk, AV.junk, AV.junk, AV.junk, AV.junk, AV.junk, AV.junk]
            [some (Blk.mk (3) false false true (Data.ints IntKind.i64 l)), some (Blk.mk (3) true false true (Data.ints IntKind.i64 (List.flatMap (wordsZ k) (List.take (Int.toNat (0 : Int)) l))))]))
        (Tree.chk (okrput_0 (Xrput_0.mk k zl l sign (Int.toNat (0 : Int))))
          (Tree.br (List.all l (fitsZ sign k))
            (Tree.ret
              (AV.tup [AV.sl false (Ref.mk (1) (0) (0) (0)) false (List.length (List.flatMap (wordsZ k) l)) Cap.own, AV.int IntKind.i64 true (0 : Int)],
                [some (Blk.mk (3) false false true (Data.ints IntKind.i64 l)), some (Blk.mk (3) true false true (Data.ints IntKind.i64 (List.flatMap (wordsZ k) l)))]))
            (Tree.ret (AV.tup [AV.sl true (Ref.mk (0) (0) (0) (0)) true (0) Cap.exact, AV.int IntKind.i64 true (2 : Int)], [some (Blk.mk (3) false false true (Data.ints IntKind.i64 l))])))))) : Tree (AV × Mem)).GivesP (.tup [.sl (!putOk sign k l) ⟨1, 0, 0, 0⟩ false (putL sign k l).length .own, .int .i64 false (putE sign k l)]) ([some ⟨3, false, false, true, .ints .i64 l⟩, some (⟨3, true, !putOk sign k l, true, .ints .i64 (putL sign k l)⟩)]) := by
  refine Tree.GivesP.br (fun h1 => ?_) (fun h1 => ?_)
  · (try simp only [decide_eq_true_eq, decide_eq_false_iff_not, Bool.not_eq_true', Bool.not_eq_false', beq_iff_eq, beq_eq_false_iff_ne, Int.not_lt, Int.not_le, ge_iff_le, gt_iff_lt, ne_eq, Bool.false_eq_true, Bool.true_eq_false, not_true_eq_false, not_false_eq_true, Bool.and_eq_true, Bool.not_eq_eq_eq_not, Bool.not_true, Bool.not_false, bne_iff_ne, bne_eq_false_iff_eq, Int.toNat_natCast, Nat.mul_one, Nat.add_zero, Nat.zero_add, List.take_length, List.drop_zero] at h1)
    all_goals
      refine Tree.GivesP.ret ?_ ?_
      · have e : putOk sign k l = false := by simp [putOk, kOk]; omega
        simp [AV.le, AV.leL, putL, putE, e, Cap.le]
      · have e : putOk sign k l = false := by simp [putOk, kOk]; omega
        simp [Mem.leP, Blk.le, Blk.pad, Data.le, Data.size, putL, putE, e, AV.le, AV.leL]
  · (try simp only [decide_eq_true_eq, decide_eq_false_iff_not, Bool.not_eq_true', Bool.not_eq_false', beq_iff_eq, beq_eq_false_iff_ne, Int.not_lt, Int.not_le, ge_iff_le, gt_iff_lt, ne_eq, Bool.false_eq_true, Bool.true_eq_false, not_true_eq_false, not_false_eq_true, Bool.and_eq_true, Bool.not_eq_eq_eq_not, Bool.not_true, Bool.not_false, bne_iff_ne, bne_eq_false_iff_eq, Int.toNat_natCast, Nat.mul_one, Nat.add_zero, Nat.zero_add, List.take_length, List.drop_zero] at h1)
    all_goals
      refine Tree.GivesP.br (fun h2 => ?_) (fun h2 => ?_)
      · (try simp only [decide_eq_true_eq, decide_eq_false_iff_not, Bool.not_eq_true', Bool.not_eq_false', beq_iff_eq, beq_eq_false_iff_ne, Int.not_lt, Int.not_le, ge_iff_le, gt_iff_lt, ne_eq, Bool.false_eq_true, Bool.true_eq_false, not_true_eq_false, not_false_eq_true, Bool.and_eq_true, Bool.not_eq_eq_eq_not, Bool.not_true, Bool.not_false, bne_iff_ne, bne_eq_false_iff_eq, Int.toNat_natCast, Nat.mul_one, Nat.add_zero, Nat.zero_add, List.take_length, List.drop_zero] at h2)
        all_goals
          refine Tree.GivesP.ret ?_ ?_
          · have e : putOk sign k l = false := by simp [putOk, kOk]; omega
            simp [AV.le, AV.leL, putL, putE, e, Cap.le]
          · have e : putOk sign k l = false := by simp [putOk, kOk]; omega
            simp [Mem.leP, Blk.le, Blk.pad, Data.le, Data.size, putL, putE, e, AV.le, AV.leL]
      · (try simp only [decide_eq_true_eq, decide_eq_false_iff_not, Bool.not_eq_true', Bool.not_eq_false', beq_iff_eq, beq_eq_false_iff_ne, Int.not_lt, Int.not_le, ge_iff_le, gt_iff_lt, ne_eq, Bool.false_eq_true, Bool.true_eq_false, not_true_eq_false, not_false_eq_true, Bool.and_eq_true, Bool.not_eq_eq_eq_not, Bool.not_true, Bool.not_false, bne_iff_ne, bne_eq_false_iff_eq, Int.toNat_natCast, Nat.mul_one, Nat.add_zero, Nat.zero_add, List.take_length, List.drop_zero] at h2)
        all_goals
          refine Tree.GivesP.chk (by first | (simp only [and_self]; done) | (constructor <;> simp only [hdrput_0, Int.toNat_zero, Int.cast_ofNat_Int, AV.leL, AV.le, Mem.le, Mem.leP, Blk.le, Blk.pad, Data.le, Data.size, Cap.le, and_true, true_and, and_self, true_implies, implies_true, imp_self, List.length_nil] <;> (try simp only [List.take_zero]) <;> (try rfl))) ?_
          refine Tree.GivesP.chk (by first | (simp only [and_self]; done) | (exact ⟨by omega, by omega, hw.1, hw.2.1, hw.2.2, rfl, Nat.zero_le _⟩)) ?_
          refine Tree.GivesP.br (fun h3 => ?_) (fun h3 => ?_)
          · (try simp only [decide_eq_true_eq, decide_eq_false_iff_not, Bool.not_eq_true', Bool.not_eq_false', beq_iff_eq, beq_eq_false_iff_ne, Int.not_lt, Int.not_le, ge_iff_le, gt_iff_lt, ne_eq, Bool.false_eq_true, Bool.true_eq_false, not_true_eq_false, not_false_eq_true, Bool.and_eq_true, Bool.not_eq_eq_eq_not, Bool.not_true, Bool.not_false, bne_iff_ne, bne_eq_false_iff_eq, Int.toNat_natCast, Nat.mul_one, Nat.add_zero, Nat.zero_add, List.take_length, List.drop_zero] at h3)
            all_goals
              refine Tree.GivesP.ret ?_ ?_
              · have e : putOk sign k l = true := by simp only [putOk, kOk, h3, Bool.and_true, decide_eq_true_eq]; omega
                simp [AV.le, AV.leL, putL, putE, e, Cap.le]
              · have e : putOk sign k l = true := by simp only [putOk, kOk, h3, Bool.and_true, decide_eq_true_eq]; omega
                simp [Mem.leP, Blk.le, Blk.pad, Data.le, Data.size, putL, putE, e, AV.le, AV.leL]
          · (try simp only [decide_eq_true_eq, decide_eq_false_iff_not, Bool.not_eq_true', Bool.not_eq_false', beq_iff_eq, beq_eq_false_iff_ne, Int.not_lt, Int.not_le, ge_iff_le, gt_iff_lt, ne_eq, Bool.false_eq_true, Bool.true_eq_false, not_true_eq_false, not_false_eq_true, Bool.and_eq_true, Bool.not_eq_eq_eq_not, Bool.not_true, Bool.not_false, bne_iff_ne, bne_eq_false_iff_eq, Int.toNat_natCast, Nat.mul_one, Nat.add_zero, Nat.zero_add, List.take_length, List.drop_zero] at h3)
            all_goals
              refine Tree.GivesP.ret ?_ ?_
              · have e : putOk sign k l = false := by simp only [putOk, h3, Bool.and_false]
                simp [AV.le, AV.leL, putL, putE, e, Cap.le]
              · have e : putOk sign k l = false := by simp only [putOk, h3, Bool.and_false]
                simp [Mem.leP, Blk.le, Blk.pad, Data.le, Data.size, putL, putE, e, AV.le, AV.leL]
theorem srput (hall : AllOk Try.prog 0 (fun _ => none) tab18) (k : Int) (zl : Bool) (l : List Int) (sign : Bool) (hw : l.length ≤ 100000 ∧ wf64L l ∧ (zl = true → l = [])) : SoundAt (mkC Try.prog 0 (fun _ => none) []) 11 [.int .i64 false k, .sl zl ⟨0, 0, 0, 0⟩ false l.length .any, .bool false sign] [some ⟨3, false, false, true, .ints .i64 l⟩] (.tup [.sl (!putOk sign k l) ⟨1, 0, 0, 0⟩ false (putL sign k l).length .own, .int .i64 false (putE sign k l)], [some ⟨3, false, false, true, .ints .i64 l⟩, some (⟨3, true, !putOk sign k l, true, .ints .i64 (putL sign k l)⟩)]) := sound_loopsP hall mix (loopsrput hall) (trput k zl l sign) (grput k zl l sign hw)
theorem Frput_ok (hall : AllOk Try.prog 0 (fun _ => none) tab18) : PureF Try.prog 3 11 Frput := by
  intro xs c v news h hc
  unfold Frput at h
  split at h
  · rename_i _ k zl l _ sign
    cases h
    refine ⟨(by simp), SoundAt.flags (srput hall k zl l sign hc) ?_⟩
    simp [PA.avs, AV.le, AV.leL, Cap.le]
  · cases h
end Go.Proofs.Ytnkjblmlchbfkaa.Rig

/- Qraw -/
namespace Go.Proofs.Ytnkjblmlchbfkaa.Rig
open Go
set_option maxRecDepth 100000 in
theorem tLraw_0 (k : Int) (zl : Bool) (l : List Int) (i : Nat) : tidied Traw_0 Uraw_0 1 (evCode (mkL Try.prog 0 (fun _ => none) tab19 rowsraw) (evCall (mkC Try.prog 0 (fun _ => none) tab19) 50) 29 1 fuelC (bodyAt Try.prog 29 0) (hdraw_0 ⟨k, zl, l, i⟩)) =
  Tree.br (decide ((i : Int) < ((Int.toNat k) : Int)))
    (Tree.br (!zl && decide ((0 : Int) ≤ (i : Int) ∧ (i : Int) < ((Int.toNat k) : Int)))
      (Tree.br (decide (Int.toNat (i : Int) * 1 + 0 + 1 ≤ List.length l))
        (Tree.ret
          (Ex.norm,
            St.mk
              [AV.int IntKind.i64 false k, AV.junk, AV.junk, AV.junk, AV.junk, AV.junk, AV.junk,
                AV.int IntKind.u64 false
                  (IntKind.wrap IntKind.u64
                    ((BitVec.toNat
                        (BitVec.ofInt (64) (IntKind.wrap IntKind.u64 (valZ (List.take i l) * (65536 : Int))) |||
                          BitVec.ofInt (64) (IntKind.wrap IntKind.u64 (List.getD l (Int.toNat (i : Int) * 1 + 0 + 0) (0 : Int))))) : Int)),
                AV.junk, AV.junk, AV.junk, AV.junk, AV.junk, AV.junk, AV.junk, AV.junk, AV.junk, AV.junk, AV.junk, AV.junk, AV.junk, AV.junk, AV.junk, AV.junk, AV.junk,
                AV.sl zl (Ref.mk (0) (0) (0) (0)) false (Int.toNat k) Cap.exact, AV.int IntKind.i64 false ((Int.toNat k) : Int), AV.int IntKind.i64 false (IntKind.wrap IntKind.i64 ((i : Int) + (1 : Int))),
                AV.junk, AV.junk, AV.junk, AV.junk, AV.junk, AV.junk, AV.junk, AV.junk, AV.junk, AV.junk]
              [some (Blk.mk (3) false false true (Data.ints IntKind.i64 l))]))
        Tree.fail)
      Tree.fail)
    (Tree.ret
      (Ex.exit (0),
        St.mk
          [AV.junk, AV.junk, AV.junk, AV.junk, AV.junk, AV.junk, AV.junk, AV.int IntKind.u64 false (valZ (List.take i l)), AV.junk, AV.junk, AV.junk, AV.junk, AV.junk, AV.junk, AV.junk, AV.junk, AV.junk, AV.junk, AV.junk, AV.junk,
            AV.junk, AV.junk, AV.junk, AV.junk, AV.junk, AV.junk, AV.junk, AV.junk, AV.junk, AV.junk, AV.junk, AV.junk, AV.junk, AV.junk, AV.junk, AV.junk, AV.junk, AV.junk]
          [some (Blk.mk (3) false false true (Data.ints IntKind.i64 l))])) := by kernel_rfl
set_option maxRecDepth 100000 in
theorem stepraw_0 (k : Int) (zl : Bool) (l : List Int) (i : Nat) (ex : Ex) (r : St) (hok : okraw_0 ⟨k, zl, l, i⟩) (hr : (outraw_0 ⟨k, zl, l, i⟩).runs (ex, r)) : (Tree.br (decide ((i : Int) < ((Int.toNat k) : Int)))
    (Tree.br (!zl && decide ((0 : Int) ≤ (i : Int) ∧ (i : Int) < ((Int.toNat k) : Int)))
      (Tree.br (decide (Int.toNat (i : Int) * 1 + 0 + 1 ≤ List.length l))
        (Tree.ret
          (Ex.norm,
            St.mk
              [AV.int IntKind.i64 false k, AV.junk, AV.junk, AV.junk, AV.junk, AV.junk, AV.junk,
                AV.int IntKind.u64 false
                  (IntKind.wrap IntKind.u64
                    ((BitVec.toNat
                        (BitVec.ofInt (64) (IntKind.wrap IntKind.u64 (valZ (List.take i l) * (65536 : Int))) |||
                          BitVec.ofInt (64) (IntKind.wrap IntKind.u64 (List.getD l (Int.toNat (i : Int) * 1 + 0 + 0) (0 : Int))))) : Int)),
                AV.junk, AV.junk, AV.junk, AV.junk, AV.junk, AV.junk, AV.junk, AV.junk, AV.junk, AV.junk, AV.junk, AV.junk, AV.junk, AV.junk, AV.junk, AV.junk, AV.junk,
                AV.sl zl (Ref.mk (0) (0) (0) (0)) false (Int.toNat k) Cap.exact, AV.int IntKind.i64 false ((Int.toNat k) : Int), AV.int IntKind.i64 false (IntKind.wrap IntKind.i64 ((i : Int) + (1 : Int))),
                AV.junk, AV.junk, AV.junk, AV.junk, AV.junk, AV.junk, AV.junk, AV.junk, AV.junk, AV.junk]
              [some (Blk.mk (3) false false true (Data.ints IntKind.i64 l))]))
        Tree.fail)
      Tree.fail)
    (Tree.ret
      (Ex.exit (0),
        St.mk
          [AV.junk, AV.junk, AV.junk, AV.junk, AV.junk, AV.junk, AV.junk, AV.int IntKind.u64 false (valZ (List.take i l)), AV.junk, AV.junk, AV.junk, AV.junk, AV.junk, AV.junk, AV.junk, AV.junk, AV.junk, AV.junk, AV.junk, AV.junk,
            AV.junk, AV.junk, AV.junk, AV.junk, AV.junk, AV.junk, AV.junk, AV.junk, AV.junk, AV.junk, AV.junk, AV.junk, AV.junk, AV.junk, AV.junk, AV.junk, AV.junk, AV.junk]
          [some (Blk.mk (3) false false true (Data.ints IntKind.i64 l))])) : Tree (Ex × St)).Sat (Post hdraw_0 resraw_0 muraw_0 ⟨k, zl, l, i⟩ ex r) := by
  simp only [okraw_0, outraw_0, Tree.runs] at hok hr
  obtain ⟨h1k, h4k, hl, hz, hb, hi⟩ := hok
  refine Tree.Sat.br (fun h1 => ?_) (fun h1 => ?_)
  · (try simp only [decide_eq_true_eq, decide_eq_false_iff_not, Bool.not_eq_true', Bool.not_eq_false', beq_iff_eq, beq_eq_false_iff_ne, Int.not_lt, Int.not_le, ge_iff_le, gt_iff_lt, ne_eq, Bool.false_eq_true, Bool.true_eq_false, not_true_eq_false, not_false_eq_true, Bool.and_eq_true, Bool.not_eq_eq_eq_not, Bool.not_true, Bool.not_false, bne_iff_ne, bne_eq_false_iff_eq, Int.toNat_natCast, Nat.mul_one, Nat.add_zero, Nat.zero_add, List.take_length, List.drop_zero] at h1)
    all_goals
      refine Tree.Sat.br (fun h2 => ?_) (fun h2 => ?_)
      · (try simp only [decide_eq_true_eq, decide_eq_false_iff_not, Bool.not_eq_true', Bool.not_eq_false', beq_iff_eq, beq_eq_false_iff_ne, Int.not_lt, Int.not_le, ge_iff_le, gt_iff_lt, ne_eq, Bool.false_eq_true, Bool.true_eq_false, not_true_eq_false, not_false_eq_true, Bool.and_eq_true, Bool.not_eq_eq_eq_not, Bool.not_true, Bool.not_false, bne_iff_ne, bne_eq_false_iff_eq, Int.toNat_natCast, Nat.mul_one, Nat.add_zero, Nat.zero_add, List.take_length, List.drop_zero] at h2)
        all_goals
          refine Tree.Sat.br (fun h3 => ?_) (fun h3 => ?_)
          · (try simp only [decide_eq_true_eq, decide_eq_false_iff_not, Bool.not_eq_true', Bool.not_eq_false', beq_iff_eq, beq_eq_false_iff_ne, Int.not_lt, Int.not_le, ge_iff_le, gt_iff_lt, ne_eq, Bool.false_eq_true, Bool.true_eq_false, not_true_eq_false, not_false_eq_true, Bool.and_eq_true, Bool.not_eq_eq_eq_not, Bool.not_true, Bool.not_false, bne_iff_ne, bne_eq_false_iff_eq, Int.toNat_natCast, Nat.mul_one, Nat.add_zero, Nat.zero_add, List.take_length, List.drop_zero] at h3)
            all_goals
              refine Tree.Sat.ret ?_
              refine .norm ⟨k, zl, l, i + 1⟩ ?_ ?_ ⟨?_, ?_⟩
              · constructor <;> simp only [hdraw_0, AV.leL, AV.le, Mem.le, Mem.leP, Blk.le, Blk.pad, Data.le, Data.size, Cap.le, and_true, true_and, and_self, true_implies, implies_true, imp_self, List.length_nil] <;> (repeat' with_reducible refine And.intro ?_ ?_) <;> (try simp only [Int.toNat_natCast, Nat.mul_one, Nat.add_zero, Nat.zero_add]) <;> first | exact wadd1 (by omega) | exact val_step (by omega) (by omega) (any_take_le (by omega) hb)
              · simp only [muraw_0]; omega
              · exact ⟨h1k, h4k, hl, hz, hb, by omega⟩
              · exact hr
          · (try simp only [decide_eq_true_eq, decide_eq_false_iff_not, Bool.not_eq_true', Bool.not_eq_false', beq_iff_eq, beq_eq_false_iff_ne, Int.not_lt, Int.not_le, ge_iff_le, gt_iff_lt, ne_eq, Bool.false_eq_true, Bool.true_eq_false, not_true_eq_false, not_false_eq_true, Bool.and_eq_true, Bool.not_eq_eq_eq_not, Bool.not_true, Bool.not_false, bne_iff_ne, bne_eq_false_iff_eq, Int.toNat_natCast, Nat.mul_one, Nat.add_zero, Nat.zero_add, List.take_length, List.drop_zero] at h3)
            all_goals
              exfalso
              first | omega | (simp only [most48, Data.size, List.length_take, List.drop_zero, Bool.and_eq_true, decide_eq_true_eq, decide_eq_false_iff_not, Bool.and_eq_false_iff, Int.toNat_natCast] at *; omega) | (simp only [w64] at *; omega) | (simp only [most48] at *; omega) | (simp [Data.size, List.take_length] at *; done) | (cases zl <;> simp_all; done) | (cases zl <;> simp_all <;> omega)
      · (try simp only [decide_eq_true_eq, decide_eq_false_iff_not, Bool.not_eq_true', Bool.not_eq_false', beq_iff_eq, beq_eq_false_iff_ne, Int.not_lt, Int.not_le, ge_iff_le, gt_iff_lt, ne_eq, Bool.false_eq_true, Bool.true_eq_false, not_true_eq_false, not_false_eq_true, Bool.and_eq_true, Bool.not_eq_eq_eq_not, Bool.not_true, Bool.not_false, bne_iff_ne, bne_eq_false_iff_eq, Int.toNat_natCast, Nat.mul_one, Nat.add_zero, Nat.zero_add, List.take_length, List.drop_zero] at h2)
        all_goals
          exfalso
          first | omega | (simp only [most48, Data.size, List.length_take, List.drop_zero, Bool.and_eq_true, decide_eq_true_eq, decide_eq_false_iff_not, Bool.and_eq_false_iff, Int.toNat_natCast] at *; omega) | (simp only [w64] at *; omega) | (simp only [most48] at *; omega) | (simp [Data.size, List.take_length] at *; done) | (cases zl <;> simp_all; done) | (cases zl <;> simp_all <;> omega)
  · (try simp only [decide_eq_true_eq, decide_eq_false_iff_not, Bool.not_eq_true', Bool.not_eq_false', beq_iff_eq, beq_eq_false_iff_ne, Int.not_lt, Int.not_le, ge_iff_le, gt_iff_lt, ne_eq, Bool.false_eq_true, Bool.true_eq_false, not_true_eq_false, not_false_eq_true, Bool.and_eq_true, Bool.not_eq_eq_eq_not, Bool.not_true, Bool.not_false, bne_iff_ne, bne_eq_false_iff_eq, Int.toNat_natCast, Nat.mul_one, Nat.add_zero, Nat.zero_add, List.take_length, List.drop_zero] at h1)
    all_goals
      refine Tree.Sat.ret ?_
      have hq := hr
      simp only [Prod.mk.injEq] at hq
      obtain ⟨rfl, rfl⟩ := hq
      refine .exit rfl ?_
      constructor <;> simp only [AV.leL, AV.le, Mem.le, Mem.leP, Blk.le, Blk.pad, Data.le, Data.size, Cap.le, and_true, true_and, and_self, true_implies, implies_true, imp_self, List.length_nil] <;> (repeat' with_reducible refine And.intro ?_ ?_) <;> (try simp only [Int.toNat_natCast, Nat.mul_one, Nat.add_zero, Nat.zero_add]) <;> rw [show i = k.toNat by omega]
theorem loopraw_0 (hall : AllOk Try.prog 0 (fun _ => none) tab19) : LoopOk (mkL Try.prog 0 (fun _ => none) tab19 rowsraw) 29 1 (bodyAt Try.prog 29 0) := by
  have hkey : Code.key (bodyAt Try.prog 29 0) = 8 := by kernel_rfl
  have hin : loopsIn (bodyAt Try.prog 29 0) = [] := by kernel_rfl
  have hrow : lookL rowsraw 29 (Code.key (bodyAt Try.prog 29 0)) = some rowraw_0 := by rw [hkey]; rfl
  refine loop_rowP (X := Xraw_0) (row := rowraw_0) hall mix hrow (fun b hb _ => by rw [hin] at hb; cases hb) Uraw_0 hdraw_0 resraw_0 muraw_0 (fun st ex r h => ?_) (fun x ex r hr => ?_)
  · have h' : (ansraw_0 st).runs (ex, r) := h
    unfold ansraw_0 at h'
    split at h'
    · obtain ⟨q1, q2⟩ := Tree.chk_runs h'
      exact ⟨_, q1, q2⟩
    · exact h'.elim
  · obtain ⟨k, zl, l, i⟩ := x
    have := stepraw_0 k zl l i ex r hr.1 hr.2
    rw [← tLraw_0] at this
    exact this
theorem loopsraw (hall : AllOk Try.prog 0 (fun _ => none) tab19) : ∀ i, i < (loopsAt Try.prog 29).length → LoopOk (mkL Try.prog 0 (fun _ => none) tab19 rowsraw) 29 1 (bodyAt Try.prog 29 i) := by
  intro i hi
  have hlen : (loopsAt Try.prog 29).length = 1 := by kernel_rfl
  rw [hlen] at hi
  obtain rfl : i = 0 := by omega
  · exact loopraw_0 hall
set_option maxRecDepth 100000 in
theorem traw (k : Int) (zl : Bool) (l : List Int) : evBody (mkL Try.prog 0 (fun _ => none) tab19 rowsraw) (evCall (mkC Try.prog 0 (fun _ => none) tab19) 50) 29 [.int .i64 false k, .sl zl ⟨0, 0, 0, 0⟩ false l.length .any] [some ⟨3, false, false, true, .ints .i64 l⟩] =
  Tree.br (decide (k < (1 : Int))) (Tree.ret (AV.tup [AV.int IntKind.u64 true (0 : Int), AV.int IntKind.i64 true (2 : Int)], [some (Blk.mk (3) false false true (Data.ints IntKind.i64 l))]))
    (Tree.br (decide (k > (4 : Int))) (Tree.ret (AV.tup [AV.int IntKind.u64 true (0 : Int), AV.int IntKind.i64 true (2 : Int)], [some (Blk.mk (3) false false true (Data.ints IntKind.i64 l))]))
      (Tree.chk
        ((True ∧ 0 + List.length l ≤ List.length l ∧ True) ∧
          short (List.take (List.length l) (List.drop (0) l)) ∧ (zl = true → List.take (List.length l) (List.drop (0) l) = []) ∧ (0 : Int) ≤ k ∧ k ≤ (140737488355328 : Int))
        (Tree.br (lookZ k (List.take (List.length l) (List.drop (0) l)) != (0 : Int))
          (Tree.ret (AV.tup [AV.int IntKind.u64 true (0 : Int), AV.int IntKind.i64 false (lookZ k (List.take (List.length l) (List.drop (0) l)))], [some (Blk.mk (3) false false true (Data.ints IntKind.i64 l))]))
          (Tree.br (decide ((0 : Int) ≤ (0 : Int) ∧ (0 : Int) ≤ k ∧ k ≤ k ∧ k ≤ ((List.length l) : Int)))
            (Tree.br (decide (k = k))
              (Tree.chk
                (St.le
                  (St.mk
                    [AV.int IntKind.i64 false k, AV.junk, AV.junk, AV.junk, AV.junk, AV.junk, AV.junk, AV.int IntKind.u64 true (0 : Int), AV.junk, AV.junk, AV.junk, AV.junk, AV.junk, AV.junk, AV.junk, AV.junk, AV.junk, AV.junk, AV.junk,
                      AV.junk, AV.junk, AV.junk, AV.junk, AV.junk, AV.junk, AV.sl zl (Ref.mk (0) (0) (0) (0)) false (Int.toNat k - Int.toNat (0 : Int)) Cap.exact,
                      AV.int IntKind.i64 false ((Int.toNat k - Int.toNat (0 : Int)) : Int), AV.int IntKind.i64 true (0 : Int), AV.junk, AV.junk, AV.junk, AV.junk, AV.junk, AV.junk, AV.junk, AV.junk, AV.junk, AV.junk]
                    [some (Blk.mk (3) false false true (Data.ints IntKind.i64 l))])
                  (St.mk
                    [AV.int IntKind.i64 false k, AV.junk, AV.junk, AV.junk, AV.junk, AV.junk, AV.junk, AV.int IntKind.u64 false (valZ (List.take (Int.toNat (0 : Int)) l)), AV.junk, AV.junk, AV.junk, AV.junk, AV.junk, AV.junk, AV.junk,
                      AV.junk, AV.junk, AV.junk, AV.junk, AV.junk, AV.junk, AV.junk, AV.junk, AV.junk, AV.junk, AV.sl zl (Ref.mk (0) (0) (0) (0)) false (Int.toNat k) Cap.exact,
                      AV.int IntKind.i64 false ((Int.toNat k) : Int), AV.int IntKind.i64 false (0 : Int), AV.junk, AV.junk, AV.junk, AV.junk, AV.junk, AV.junk, AV.junk, AV.junk, AV.junk, AV.junk]
                    [some (Blk.mk (3) false false true (Data.ints IntKind.i64 l))]))
                (Tree.chk (okraw_0 (Xraw_0.mk k zl l (Int.toNat (0 : Int))))
                  (Tree.ret (AV.tup [AV.int IntKind.u64 false (valZ (List.take (Int.toNat k) l)), AV.int IntKind.i64 true (0 : Int)], [some (Blk.mk (3) false false true (Data.ints IntKind.i64 l))]))))
              Tree.fail)
            Tree.fail)))) := by kernel_rfl
set_option maxRecDepth 100000 in
theorem graw (k : Int) (zl : Bool) (l : List Int) (hw : short l ∧ (zl = true → l = [])) : (Tree.br (decide (k < (1 : Int))) (Tree.ret (AV.tup [AV.int IntKind.u64 true (0 : Int), AV.int IntKind.i64 true (2 : Int)], [some (Blk.mk (3) false false true (Data.ints IntKind.i64 l))]))
    (Tree.br (decide (k > (4 : Int))) (Tree.ret (AV.tup [AV.int IntKind.u64 true (0 : Int), AV.int IntKind.i64 true (2 : Int)], [some (Blk.mk (3) false false true (Data.ints IntKind.i64 l))]))
      (Tree.chk
        ((True ∧ 0 + List.length l ≤ List.length l ∧ True) ∧
          short (List.take (List.length l) (List.drop (0) l)) ∧ (zl = true → List.take (List.length l) (List.drop (0) l) = []) ∧ (0 : Int) ≤ k ∧ k ≤ (140737488355328 : Int))
        (Tree.br (lookZ k (List.take (List.length l) (List.drop (0) l)) != (0 : Int))
          (Tree.ret (AV.tup [AV.int IntKind.u64 true (0 : Int), AV.int IntKind.i64 false (lookZ k (List.take (List.length l) (List.drop (0) l)))], [some (Blk.mk (3) false false true (Data.ints IntKind.i64 l))]))
          (Tree.br (decide ((0 : Int) ≤ (0 : Int) ∧ (0 : Int) ≤ k ∧ k ≤ k ∧ k ≤ ((List.length l) : Int)))
            (Tree.br (decide (k = k))
              (Tree.chk
                (St.le
                  (St.mk
                    [AV.int IntKind.i64 false k, AV.junk, AV.junk, AV.junk, AV.junk, AV.junk, AV.junk, AV.int IntKind.u64 true (0 : Int), AV.junk, AV.junk, AV.junk, AV.junk, AV.junk, AV.junk, AV.junk, AV.junk, AV.junk, AV.junk, AV.junk,
                      AV.junk, AV.junk, AV.junk, AV.junk, AV.junk, AV.junk, AV.sl zl (Ref.mk (0) (0) (0) (0)) false (Int.toNat k - Int.toNat (0 : Int)) Cap.exact,
                      AV.int IntKind.i64 false ((Int.toNat k - Int.toNat (0 : Int)) : Int), AV.int IntKind.i64 true (0 : Int), AV.junk, AV.junk, AV.junk, AV.junk, AV.junk, AV.junk, AV.junk, AV.junk, AV.junk, AV.junk]
                    [some (Blk.mk (3) false false true (Data.ints IntKind.i64 l))])
                  (St.mk
                    [AV.int IntKind.i64 false k, AV.junk, AV.junk, AV.junk, AV.junk, AV.junk, AV.junk, AV.int IntKind.u64 false (valZ (List.take (Int.toNat (0 : Int)) l)), AV.junk, AV.junk, AV.junk, AV.junk, AV.junk, AV.junk, AV.junk,
                      AV.junk, AV.junk, AV.junk, AV.junk, AV.junk, AV.junk, AV.junk, AV.junk, AV.junk, AV.junk, AV.sl zl (Ref.mk (0) (0) (0) (0)) false (Int.toNat k) Cap.exact,
                      AV.int IntKind.i64 false ((Int.toNat k) : Int), AV.int IntKind.i64 false (0 : Int), AV.junk, AV.junk, AV.junk, AV.junk, AV.junk, AV.junk, AV.junk, AV.junk, AV.junk, AV.junk]
                    [some (Blk.mk (3) false false true (Data.ints IntKind.i64 l))]))
                (Tree.chk (okraw_0 (Xraw_0.mk k zl l (Int.toNat (0 : Int))))
                  (Tree.ret (AV.tup [AV.int IntKind.u64 false (valZ (List.take (Int.toNat k) l)), AV.int IntKind.i64 true (0 : Int)], [some (Blk.mk (3) false false true (Data.ints IntKind.i64 l))]))))
              Tree.fail)
            Tree.fail)))) : Tree (AV × Mem)).GivesP (.tup [.int .u64 false (rawV k l), .int .i64 false (rawE k l)]) ([some ⟨3, false, false, true, .ints .i64 l⟩]) := by
  refine Tree.GivesP.br (fun h1 => ?_) (fun h1 => ?_)
  · (try simp only [decide_eq_true_eq, decide_eq_false_iff_not, Bool.not_eq_true', Bool.not_eq_false', beq_iff_eq, beq_eq_false_iff_ne, Int.not_lt, Int.not_le, ge_iff_le, gt_iff_lt, ne_eq, Bool.false_eq_true, Bool.true_eq_false, not_true_eq_false, not_false_eq_true, Bool.and_eq_true, Bool.not_eq_eq_eq_not, Bool.not_true, Bool.not_false, bne_iff_ne, bne_eq_false_iff_eq, Int.toNat_natCast, Nat.mul_one, Nat.add_zero, Nat.zero_add, List.take_length, List.drop_zero, List.take_length, List.drop_zero] at h1)
    all_goals
      refine Tree.GivesP.ret ?_ ?_
      have e : kOk k = false := by simp [kOk]; omega
      · simp [AV.le, AV.leL, rawV, rawE, e]
      · simp [Mem.leP, Blk.le, Data.le]
  · (try simp only [decide_eq_true_eq, decide_eq_false_iff_not, Bool.not_eq_true', Bool.not_eq_false', beq_iff_eq, beq_eq_false_iff_ne, Int.not_lt, Int.not_le, ge_iff_le, gt_iff_lt, ne_eq, Bool.false_eq_true, Bool.true_eq_false, not_true_eq_false, not_false_eq_true, Bool.and_eq_true, Bool.not_eq_eq_eq_not, Bool.not_true, Bool.not_false, bne_iff_ne, bne_eq_false_iff_eq, Int.toNat_natCast, Nat.mul_one, Nat.add_zero, Nat.zero_add, List.take_length, List.drop_zero, List.take_length, List.drop_zero] at h1)
    all_goals
      refine Tree.GivesP.br (fun h2 => ?_) (fun h2 => ?_)
      · (try simp only [decide_eq_true_eq, decide_eq_false_iff_not, Bool.not_eq_true', Bool.not_eq_false', beq_iff_eq, beq_eq_false_iff_ne, Int.not_lt, Int.not_le, ge_iff_le, gt_iff_lt, ne_eq, Bool.false_eq_true, Bool.true_eq_false, not_true_eq_false, not_false_eq_true, Bool.and_eq_true, Bool.not_eq_eq_eq_not, Bool.not_true, Bool.not_false, bne_iff_ne, bne_eq_false_iff_eq, Int.toNat_natCast, Nat.mul_one, Nat.add_zero, Nat.zero_add, List.take_length, List.drop_zero, List.take_length, List.drop_zero] at h2)
        all_goals
          refine Tree.GivesP.ret ?_ ?_
          have e : kOk k = false := by simp [kOk]; omega
          · simp [AV.le, AV.leL, rawV, rawE, e]
          · simp [Mem.leP, Blk.le, Data.le]
      · (try simp only [decide_eq_true_eq, decide_eq_false_iff_not, Bool.not_eq_true', Bool.not_eq_false', beq_iff_eq, beq_eq_false_iff_ne, Int.not_lt, Int.not_le, ge_iff_le, gt_iff_lt, ne_eq, Bool.false_eq_true, Bool.true_eq_false, not_true_eq_false, not_false_eq_true, Bool.and_eq_true, Bool.not_eq_eq_eq_not, Bool.not_true, Bool.not_false, bne_iff_ne, bne_eq_false_iff_eq, Int.toNat_natCast, Nat.mul_one, Nat.add_zero, Nat.zero_add, List.take_length, List.drop_zero, List.take_length, List.drop_zero] at h2)
        all_goals
          refine Tree.GivesP.chk (by first | (simp only [and_self]; done) | (simp only [List.take_length, List.drop_zero]; exact ⟨⟨trivial, by omega, trivial⟩, hw.1, hw.2, by omega, by omega⟩)) ?_
          refine Tree.GivesP.br (fun h3 => ?_) (fun h3 => ?_)
          · (try simp only [decide_eq_true_eq, decide_eq_false_iff_not, Bool.not_eq_true', Bool.not_eq_false', beq_iff_eq, beq_eq_false_iff_ne, Int.not_lt, Int.not_le, ge_iff_le, gt_iff_lt, ne_eq, Bool.false_eq_true, Bool.true_eq_false, not_true_eq_false, not_false_eq_true, Bool.and_eq_true, Bool.not_eq_eq_eq_not, Bool.not_true, Bool.not_false, bne_iff_ne, bne_eq_false_iff_eq, Int.toNat_natCast, Nat.mul_one, Nat.add_zero, Nat.zero_add, List.take_length, List.drop_zero, List.take_length, List.drop_zero] at h3)
            all_goals
              refine Tree.GivesP.ret ?_ ?_
              have e : kOk k = true := by simp [kOk]; omega
              · simp [AV.le, AV.leL, rawV, rawE, e, h3]
              · simp [Mem.leP, Blk.le, Data.le]
          · (try simp only [decide_eq_true_eq, decide_eq_false_iff_not, Bool.not_eq_true', Bool.not_eq_false', beq_iff_eq, beq_eq_false_iff_ne, Int.not_lt, Int.not_le, ge_iff_le, gt_iff_lt, ne_eq, Bool.false_eq_true, Bool.true_eq_false, not_true_eq_false, not_false_eq_true, Bool.and_eq_true, Bool.not_eq_eq_eq_not, Bool.not_true, Bool.not_false, bne_iff_ne, bne_eq_false_iff_eq, Int.toNat_natCast, Nat.mul_one, Nat.add_zero, Nat.zero_add, List.take_length, List.drop_zero, List.take_length, List.drop_zero] at h3)
            all_goals
              refine Tree.GivesP.br (fun h4 => ?_) (fun h4 => ?_)
              · (try simp only [decide_eq_true_eq, decide_eq_false_iff_not, Bool.not_eq_true', Bool.not_eq_false', beq_iff_eq, beq_eq_false_iff_ne, Int.not_lt, Int.not_le, ge_iff_le, gt_iff_lt, ne_eq, Bool.false_eq_true, Bool.true_eq_false, not_true_eq_false, not_false_eq_true, Bool.and_eq_true, Bool.not_eq_eq_eq_not, Bool.not_true, Bool.not_false, bne_iff_ne, bne_eq_false_iff_eq, Int.toNat_natCast, Nat.mul_one, Nat.add_zero, Nat.zero_add, List.take_length, List.drop_zero, List.take_length, List.drop_zero] at h4)
                all_goals
                  refine Tree.GivesP.br (fun h5 => ?_) (fun h5 => ?_)
                  · (try simp only [decide_eq_true_eq, decide_eq_false_iff_not, Bool.not_eq_true', Bool.not_eq_false', beq_iff_eq, beq_eq_false_iff_ne, Int.not_lt, Int.not_le, ge_iff_le, gt_iff_lt, ne_eq, Bool.false_eq_true, Bool.true_eq_false, not_true_eq_false, not_false_eq_true, Bool.and_eq_true, Bool.not_eq_eq_eq_not, Bool.not_true, Bool.not_false, bne_iff_ne, bne_eq_false_iff_eq, Int.toNat_natCast, Nat.mul_one, Nat.add_zero, Nat.zero_add, List.take_length, List.drop_zero, List.take_length, List.drop_zero] at h5)
                    all_goals
                      refine Tree.GivesP.chk (by first | (simp only [and_self]; done) | (constructor <;> simp only [hdraw_0, Int.toNat_zero, Int.cast_ofNat_Int, AV.leL, AV.le, Mem.le, Mem.leP, Blk.le, Blk.pad, Data.le, Data.size, Cap.le, and_true, true_and, and_self, true_implies, implies_true, imp_self, List.length_nil] <;> (try simp only [List.take_zero]) <;> (try rfl) <;> (try simp) <;> (try rfl))) ?_
                      refine Tree.GivesP.chk (by first | (simp only [and_self]; done) | (exact ⟨by omega, by omega, by have := (look_ok h3).2; omega, hw.2, (look_ok h3).1, Nat.zero_le _⟩)) ?_
                      refine Tree.GivesP.ret ?_ ?_
                      have e : kOk k = true := by simp [kOk]; omega
                      · simp [AV.le, AV.leL, rawV, rawE, e, h3]
                      · simp [Mem.leP, Blk.le, Data.le]
                  · (try simp only [decide_eq_true_eq, decide_eq_false_iff_not, Bool.not_eq_true', Bool.not_eq_false', beq_iff_eq, beq_eq_false_iff_ne, Int.not_lt, Int.not_le, ge_iff_le, gt_iff_lt, ne_eq, Bool.false_eq_true, Bool.true_eq_false, not_true_eq_false, not_false_eq_true, Bool.and_eq_true, Bool.not_eq_eq_eq_not, Bool.not_true, Bool.not_false, bne_iff_ne, bne_eq_false_iff_eq, Int.toNat_natCast, Nat.mul_one, Nat.add_zero, Nat.zero_add, List.take_length, List.drop_zero, List.take_length, List.drop_zero] at h5)
                    all_goals
                      exfalso
                      have hlk := look_ok h3
                      simp at *
                      omega
              · (try simp only [decide_eq_true_eq, decide_eq_false_iff_not, Bool.not_eq_true', Bool.not_eq_false', beq_iff_eq, beq_eq_false_iff_ne, Int.not_lt, Int.not_le, ge_iff_le, gt_iff_lt, ne_eq, Bool.false_eq_true, Bool.true_eq_false, not_true_eq_false, not_false_eq_true, Bool.and_eq_true, Bool.not_eq_eq_eq_not, Bool.not_true, Bool.not_false, bne_iff_ne, bne_eq_false_iff_eq, Int.toNat_natCast, Nat.mul_one, Nat.add_zero, Nat.zero_add, List.take_length, List.drop_zero, List.take_length, List.drop_zero] at h4)
                all_goals
                  exfalso
                  have hlk := look_ok h3
                  simp at *
                  omega
theorem sraw (hall : AllOk Try.prog 0 (fun _ => none) tab19) (k : Int) (zl : Bool) (l : List Int) (hw : short l ∧ (zl = true → l = [])) : SoundAt (mkC Try.prog 0 (fun _ => none) []) 29 [.int .i64 false k, .sl zl ⟨0, 0, 0, 0⟩ false l.length .any] [some ⟨3, false, false, true, .ints .i64 l⟩] (.tup [.int .u64 false (rawV k l), .int .i64 false (rawE k l)], [some ⟨3, false, false, true, .ints .i64 l⟩]) := sound_loopsP hall mix (loopsraw hall) (traw k zl l) (graw k zl l hw)
theorem Fraw_ok (hall : AllOk Try.prog 0 (fun _ => none) tab19) : PureF Try.prog 3 29 Fraw := by
  intro xs c v news h hc
  unfold Fraw at h
  split at h
  · rename_i _ k zl l
    cases h
    refine ⟨(by intro b hb; cases hb), SoundAt.flags (sraw hall k zl l hc) ?_⟩
    simp [PA.avs, AV.le, AV.leL, Cap.le]
  · cases h
end Go.Proofs.Ytnkjblmlchbfkaa.Rig

/- Qget -/
namespace Go.Proofs.Ytnkjblmlchbfkaa.Rig
open Go
set_option maxRecDepth 100000 in
theorem tget (k : Int) (zl : Bool) (l : List Int) : evBody (mkC Try.prog 0 (fun _ => none) tab20) (evCall (mkC Try.prog 0 (fun _ => none) tab20) 50) 15 [.int .i64 false k, .sl zl ⟨0, 0, 0, 0⟩ false l.length .any] [some ⟨3, false, false, true, .ints .i64 l⟩] =
  Tree.chk ((True ∧ 0 + List.length l ≤ List.length l ∧ True) ∧ short (List.take (List.length l) (List.drop (0) l)) ∧ (zl = true → List.take (List.length l) (List.drop (0) l) = []))
    (Tree.br (rawE k (List.take (List.length l) (List.drop (0) l)) != (0 : Int))
      (Tree.ret (AV.tup [AV.int IntKind.i64 true (0 : Int), AV.int IntKind.i64 false (rawE k (List.take (List.length l) (List.drop (0) l)))], [some (Blk.mk (3) false false true (Data.ints IntKind.i64 l))]))
      (Tree.br (!decide (IntKind.wrap IntKind.i64 ((64 : Int) - IntKind.wrap IntKind.i64 ((16 : Int) * k)) < (0 : Int)))
        (Tree.br (!decide (IntKind.wrap IntKind.i64 ((64 : Int) - IntKind.wrap IntKind.i64 ((16 : Int) * k)) < (0 : Int)))
          (Tree.ret
            (AV.tup
                [AV.int IntKind.i64 false
                    (Int.fdiv
                      (IntKind.wrap IntKind.i64
                        (IntKind.wrap IntKind.i64 (rawV k (List.take (List.length l) (List.drop (0) l))) *
                          (2 : Int) ^ min (Int.toNat (IntKind.wrap IntKind.i64 ((64 : Int) - IntKind.wrap IntKind.i64 ((16 : Int) * k)))) (64)))
                      ((2 : Int) ^ min (Int.toNat (IntKind.wrap IntKind.i64 ((64 : Int) - IntKind.wrap IntKind.i64 ((16 : Int) * k)))) (64))),
                  AV.int IntKind.i64 false (rawE k (List.take (List.length l) (List.drop (0) l)))],
              [some (Blk.mk (3) false false true (Data.ints IntKind.i64 l))]))
          Tree.fail)
        Tree.fail)) := by kernel_rfl
set_option maxRecDepth 100000 in
theorem gget (k : Int) (zl : Bool) (l : List Int) (hw : short l ∧ (zl = true → l = [])) : (Tree.chk ((True ∧ 0 + List.length l ≤ List.length l ∧ True) ∧ short (List.take (List.length l) (List.drop (0) l)) ∧ (zl = true → List.take (List.length l) (List.drop (0) l) = []))
    (Tree.br (rawE k (List.take (List.length l) (List.drop (0) l)) != (0 : Int))
      (Tree.ret (AV.tup [AV.int IntKind.i64 true (0 : Int), AV.int IntKind.i64 false (rawE k (List.take (List.length l) (List.drop (0) l)))], [some (Blk.mk (3) false false true (Data.ints IntKind.i64 l))]))
      (Tree.br (!decide (IntKind.wrap IntKind.i64 ((64 : Int) - IntKind.wrap IntKind.i64 ((16 : Int) * k)) < (0 : Int)))
        (Tree.br (!decide (IntKind.wrap IntKind.i64 ((64 : Int) - IntKind.wrap IntKind.i64 ((16 : Int) * k)) < (0 : Int)))
          (Tree.ret
            (AV.tup
                [AV.int IntKind.i64 false
                    (Int.fdiv
                      (IntKind.wrap IntKind.i64
                        (IntKind.wrap IntKind.i64 (rawV k (List.take (List.length l) (List.drop (0) l))) *
                          (2 : Int) ^ min (Int.toNat (IntKind.wrap IntKind.i64 ((64 : Int) - IntKind.wrap IntKind.i64 ((16 : Int) * k)))) (64)))
                      ((2 : Int) ^ min (Int.toNat (IntKind.wrap IntKind.i64 ((64 : Int) - IntKind.wrap IntKind.i64 ((16 : Int) * k)))) (64))),
                  AV.int IntKind.i64 false (rawE k (List.take (List.length l) (List.drop (0) l)))],
              [some (Blk.mk (3) false false true (Data.ints IntKind.i64 l))]))
          Tree.fail)
        Tree.fail)) : Tree (AV × Mem)).GivesP (.tup [.int .i64 false (getV k l), .int .i64 false (rawE k l)]) ([some ⟨3, false, false, true, .ints .i64 l⟩]) := by
  have hr := raw_facts k l
  refine Tree.GivesP.chk (by first | (simp only [and_self]; done) | (simp only [List.take_length, List.drop_zero]; exact ⟨⟨trivial, by omega, trivial⟩, hw.1, hw.2⟩)) ?_
  refine Tree.GivesP.br (fun h1 => ?_) (fun h1 => ?_)
  · (try simp only [decide_eq_true_eq, decide_eq_false_iff_not, Bool.not_eq_true', Bool.not_eq_false', beq_iff_eq, beq_eq_false_iff_ne, Int.not_lt, Int.not_le, ge_iff_le, gt_iff_lt, ne_eq, Bool.false_eq_true, Bool.true_eq_false, not_true_eq_false, not_false_eq_true, Bool.and_eq_true, Bool.not_eq_eq_eq_not, Bool.not_true, Bool.not_false, bne_iff_ne, bne_eq_false_iff_eq, Int.toNat_natCast, Nat.mul_one, Nat.add_zero, Nat.zero_add, List.take_length, List.drop_zero, List.take_length, List.drop_zero] at h1)
    all_goals
      refine Tree.GivesP.ret ?_ ?_
      · simp only [List.take_length, List.drop_zero, AV.le, AV.leL, true_and, and_true]; exact (get_bad h1).symm
      · simp only [AV.leL, AV.le, Mem.le, Mem.leP, Blk.le, Blk.pad, Data.le, Data.size, Cap.le, and_true, true_and, and_self, true_implies, implies_true, imp_self, List.length_nil]
  · (try simp only [decide_eq_true_eq, decide_eq_false_iff_not, Bool.not_eq_true', Bool.not_eq_false', beq_iff_eq, beq_eq_false_iff_ne, Int.not_lt, Int.not_le, ge_iff_le, gt_iff_lt, ne_eq, Bool.false_eq_true, Bool.true_eq_false, not_true_eq_false, not_false_eq_true, Bool.and_eq_true, Bool.not_eq_eq_eq_not, Bool.not_true, Bool.not_false, bne_iff_ne, bne_eq_false_iff_eq, Int.toNat_natCast, Nat.mul_one, Nat.add_zero, Nat.zero_add, List.take_length, List.drop_zero, List.take_length, List.drop_zero] at h1)
    all_goals
      refine Tree.GivesP.br (fun h2 => ?_) (fun h2 => ?_)
      · (try simp only [decide_eq_true_eq, decide_eq_false_iff_not, Bool.not_eq_true', Bool.not_eq_false', beq_iff_eq, beq_eq_false_iff_ne, Int.not_lt, Int.not_le, ge_iff_le, gt_iff_lt, ne_eq, Bool.false_eq_true, Bool.true_eq_false, not_true_eq_false, not_false_eq_true, Bool.and_eq_true, Bool.not_eq_eq_eq_not, Bool.not_true, Bool.not_false, bne_iff_ne, bne_eq_false_iff_eq, Int.toNat_natCast, Nat.mul_one, Nat.add_zero, Nat.zero_add, List.take_length, List.drop_zero, List.take_length, List.drop_zero] at h2)
        all_goals
          refine Tree.GivesP.br (fun h3 => ?_) (fun h3 => ?_)
          · (try simp only [decide_eq_true_eq, decide_eq_false_iff_not, Bool.not_eq_true', Bool.not_eq_false', beq_iff_eq, beq_eq_false_iff_ne, Int.not_lt, Int.not_le, ge_iff_le, gt_iff_lt, ne_eq, Bool.false_eq_true, Bool.true_eq_false, not_true_eq_false, not_false_eq_true, Bool.and_eq_true, Bool.not_eq_eq_eq_not, Bool.not_true, Bool.not_false, bne_iff_ne, bne_eq_false_iff_eq, Int.toNat_natCast, Nat.mul_one, Nat.add_zero, Nat.zero_add, List.take_length, List.drop_zero, List.take_length, List.drop_zero] at h3)
            all_goals
              refine Tree.GivesP.ret ?_ ?_
              · simp only [List.take_length, List.drop_zero, AV.le, AV.leL, true_and, and_true]; exact get_good h1
              · simp only [AV.leL, AV.le, Mem.le, Mem.leP, Blk.le, Blk.pad, Data.le, Data.size, Cap.le, and_true, true_and, and_self, true_implies, implies_true, imp_self, List.length_nil]
          · (try simp only [decide_eq_true_eq, decide_eq_false_iff_not, Bool.not_eq_true', Bool.not_eq_false', beq_iff_eq, beq_eq_false_iff_ne, Int.not_lt, Int.not_le, ge_iff_le, gt_iff_lt, ne_eq, Bool.false_eq_true, Bool.true_eq_false, not_true_eq_false, not_false_eq_true, Bool.and_eq_true, Bool.not_eq_eq_eq_not, Bool.not_true, Bool.not_false, bne_iff_ne, bne_eq_false_iff_eq, Int.toNat_natCast, Nat.mul_one, Nat.add_zero, Nat.zero_add, List.take_length, List.drop_zero, List.take_length, List.drop_zero] at h3)
            all_goals
              exfalso
              have := hr.2.2 h1
              simp only [w64] at *; omega
      · (try simp only [decide_eq_true_eq, decide_eq_false_iff_not, Bool.not_eq_true', Bool.not_eq_false', beq_iff_eq, beq_eq_false_iff_ne, Int.not_lt, Int.not_le, ge_iff_le, gt_iff_lt, ne_eq, Bool.false_eq_true, Bool.true_eq_false, not_true_eq_false, not_false_eq_true, Bool.and_eq_true, Bool.not_eq_eq_eq_not, Bool.not_true, Bool.not_false, bne_iff_ne, bne_eq_false_iff_eq, Int.toNat_natCast, Nat.mul_one, Nat.add_zero, Nat.zero_add, List.take_length, List.drop_zero, List.take_length, List.drop_zero] at h2)
        all_goals
          exfalso
          have := hr.2.2 h1
          simp only [w64] at *; omega
theorem sget (hall : AllOk Try.prog 0 (fun _ => none) tab20) (k : Int) (zl : Bool) (l : List Int) (hw : short l ∧ (zl = true → l = [])) : SoundAt (mkC Try.prog 0 (fun _ => none) []) 15 [.int .i64 false k, .sl zl ⟨0, 0, 0, 0⟩ false l.length .any] [some ⟨3, false, false, true, .ints .i64 l⟩] (.tup [.int .i64 false (getV k l), .int .i64 false (rawE k l)], [some ⟨3, false, false, true, .ints .i64 l⟩]) := sound_ofP hall mix (tget k zl l) (gget k zl l hw)
theorem Fget_ok (hall : AllOk Try.prog 0 (fun _ => none) tab20) : PureF Try.prog 3 15 Fget := by
  intro xs c v news h hc
  unfold Fget at h
  split at h
  · rename_i _ k zl l
    cases h
    refine ⟨(by intro b hb; cases hb), SoundAt.flags (sget hall k zl l hc) ?_⟩
    simp [PA.avs, AV.le, AV.leL, Cap.le]
  · cases h
end Go.Proofs.Ytnkjblmlchbfkaa.Rig

/- Qgpl -/
namespace Go.Proofs.Ytnkjblmlchbfkaa.Rig
open Go
set_option maxRecDepth 100000 in
theorem tgpl (k : Int) (zl : Bool) (l : List Int) : evBody (mkC Try.prog 0 (fun _ => none) tab21) (evCall (mkC Try.prog 0 (fun _ => none) tab21) 50) 17 [.int .i64 false k, .sl zl ⟨0, 0, 0, 0⟩ false l.length .any] [some ⟨3, false, false, true, .ints .i64 l⟩] =
  Tree.chk ((True ∧ 0 + List.length l ≤ List.length l ∧ True) ∧ short (List.take (List.length l) (List.drop (0) l)) ∧ (zl = true → List.take (List.length l) (List.drop (0) l) = []))
    (Tree.br (rawE k (List.take (List.length l) (List.drop (0) l)) == (0 : Int))
      (Tree.br (decide (IntKind.wrap IntKind.i64 (rawV k (List.take (List.length l) (List.drop (0) l))) < (0 : Int)))
        (Tree.ret (AV.tup [AV.int IntKind.i64 true (0 : Int), AV.int IntKind.i64 true (3 : Int)], [some (Blk.mk (3) false false true (Data.ints IntKind.i64 l))]))
        (Tree.ret
          (AV.tup [AV.int IntKind.i64 false (IntKind.wrap IntKind.i64 (rawV k (List.take (List.length l) (List.drop (0) l)))), AV.int IntKind.i64 false (rawE k (List.take (List.length l) (List.drop (0) l)))],
            [some (Blk.mk (3) false false true (Data.ints IntKind.i64 l))])))
      (Tree.ret
        (AV.tup [AV.int IntKind.i64 false (IntKind.wrap IntKind.i64 (rawV k (List.take (List.length l) (List.drop (0) l)))), AV.int IntKind.i64 false (rawE k (List.take (List.length l) (List.drop (0) l)))],
          [some (Blk.mk (3) false false true (Data.ints IntKind.i64 l))]))) := by kernel_rfl
set_option maxRecDepth 100000 in
theorem ggpl (k : Int) (zl : Bool) (l : List Int) (hw : short l ∧ (zl = true → l = [])) : (Tree.chk ((True ∧ 0 + List.length l ≤ List.length l ∧ True) ∧ short (List.take (List.length l) (List.drop (0) l)) ∧ (zl = true → List.take (List.length l) (List.drop (0) l) = []))
    (Tree.br (rawE k (List.take (List.length l) (List.drop (0) l)) == (0 : Int))
      (Tree.br (decide (IntKind.wrap IntKind.i64 (rawV k (List.take (List.length l) (List.drop (0) l))) < (0 : Int)))
        (Tree.ret (AV.tup [AV.int IntKind.i64 true (0 : Int), AV.int IntKind.i64 true (3 : Int)], [some (Blk.mk (3) false false true (Data.ints IntKind.i64 l))]))
        (Tree.ret
          (AV.tup [AV.int IntKind.i64 false (IntKind.wrap IntKind.i64 (rawV k (List.take (List.length l) (List.drop (0) l)))), AV.int IntKind.i64 false (rawE k (List.take (List.length l) (List.drop (0) l)))],
            [some (Blk.mk (3) false false true (Data.ints IntKind.i64 l))])))
      (Tree.ret
        (AV.tup [AV.int IntKind.i64 false (IntKind.wrap IntKind.i64 (rawV k (List.take (List.length l) (List.drop (0) l)))), AV.int IntKind.i64 false (rawE k (List.take (List.length l) (List.drop (0) l)))],
          [some (Blk.mk (3) false false true (Data.ints IntKind.i64 l))]))) : Tree (AV × Mem)).GivesP (.tup [.int .i64 false (gplV k l), .int .i64 false (gplE k l)]) ([some ⟨3, false, false, true, .ints .i64 l⟩]) := by
  have hr := raw_facts k l
  refine Tree.GivesP.chk (by first | (simp only [and_self]; done) | (simp only [List.take_length, List.drop_zero]; exact ⟨⟨trivial, by omega, trivial⟩, hw.1, hw.2⟩)) ?_
  refine Tree.GivesP.br (fun h1 => ?_) (fun h1 => ?_)
  · (try simp only [decide_eq_true_eq, decide_eq_false_iff_not, Bool.not_eq_true', Bool.not_eq_false', beq_iff_eq, beq_eq_false_iff_ne, Int.not_lt, Int.not_le, ge_iff_le, gt_iff_lt, ne_eq, Bool.false_eq_true, Bool.true_eq_false, not_true_eq_false, not_false_eq_true, Bool.and_eq_true, Bool.not_eq_eq_eq_not, Bool.not_true, Bool.not_false, bne_iff_ne, bne_eq_false_iff_eq, Int.toNat_natCast, Nat.mul_one, Nat.add_zero, Nat.zero_add, List.take_length, List.drop_zero, List.take_length, List.drop_zero] at h1)
    all_goals
      refine Tree.GivesP.br (fun h2 => ?_) (fun h2 => ?_)
      · (try simp only [decide_eq_true_eq, decide_eq_false_iff_not, Bool.not_eq_true', Bool.not_eq_false', beq_iff_eq, beq_eq_false_iff_ne, Int.not_lt, Int.not_le, ge_iff_le, gt_iff_lt, ne_eq, Bool.false_eq_true, Bool.true_eq_false, not_true_eq_false, not_false_eq_true, Bool.and_eq_true, Bool.not_eq_eq_eq_not, Bool.not_true, Bool.not_false, bne_iff_ne, bne_eq_false_iff_eq, Int.toNat_natCast, Nat.mul_one, Nat.add_zero, Nat.zero_add, List.take_length, List.drop_zero, List.take_length, List.drop_zero] at h2)
        all_goals
          refine Tree.GivesP.ret ?_ ?_
          · simp only [AV.le, AV.leL, gplV, gplE, true_and, and_true]; rw [w64] at h2; rw [if_pos (by omega), if_pos (by omega)]; exact ⟨rfl, rfl⟩
          · simp only [AV.leL, AV.le, Mem.le, Mem.leP, Blk.le, Blk.pad, Data.le, Data.size, Cap.le, and_true, true_and, and_self, true_implies, implies_true, imp_self, List.length_nil]
      · (try simp only [decide_eq_true_eq, decide_eq_false_iff_not, Bool.not_eq_true', Bool.not_eq_false', beq_iff_eq, beq_eq_false_iff_ne, Int.not_lt, Int.not_le, ge_iff_le, gt_iff_lt, ne_eq, Bool.false_eq_true, Bool.true_eq_false, not_true_eq_false, not_false_eq_true, Bool.and_eq_true, Bool.not_eq_eq_eq_not, Bool.not_true, Bool.not_false, bne_iff_ne, bne_eq_false_iff_eq, Int.toNat_natCast, Nat.mul_one, Nat.add_zero, Nat.zero_add, List.take_length, List.drop_zero, List.take_length, List.drop_zero] at h2)
        all_goals
          refine Tree.GivesP.ret ?_ ?_
          · simp only [List.take_length, List.drop_zero, AV.le, AV.leL, gplV, gplE, true_and, and_true]; rw [w64] at h2; rw [if_neg (by omega), if_neg (by omega), w64]; exact ⟨by omega, rfl⟩
          · simp only [AV.leL, AV.le, Mem.le, Mem.leP, Blk.le, Blk.pad, Data.le, Data.size, Cap.le, and_true, true_and, and_self, true_implies, implies_true, imp_self, List.length_nil]
  · (try simp only [decide_eq_true_eq, decide_eq_false_iff_not, Bool.not_eq_true', Bool.not_eq_false', beq_iff_eq, beq_eq_false_iff_ne, Int.not_lt, Int.not_le, ge_iff_le, gt_iff_lt, ne_eq, Bool.false_eq_true, Bool.true_eq_false, not_true_eq_false, not_false_eq_true, Bool.and_eq_true, Bool.not_eq_eq_eq_not, Bool.not_true, Bool.not_false, bne_iff_ne, bne_eq_false_iff_eq, Int.toNat_natCast, Nat.mul_one, Nat.add_zero, Nat.zero_add, List.take_length, List.drop_zero, List.take_length, List.drop_zero] at h1)
    all_goals
      refine Tree.GivesP.ret ?_ ?_
      · simp only [List.take_length, List.drop_zero, AV.le, AV.leL, gplV, gplE, true_and, and_true]; have := hr.2.1 h1; rw [if_neg (by omega), if_neg (by omega), w64]; exact ⟨by omega, rfl⟩
      · simp only [AV.leL, AV.le, Mem.le, Mem.leP, Blk.le, Blk.pad, Data.le, Data.size, Cap.le, and_true, true_and, and_self, true_implies, implies_true, imp_self, List.length_nil]
theorem sgpl (hall : AllOk Try.prog 0 (fun _ => none) tab21) (k : Int) (zl : Bool) (l : List Int) (hw : short l ∧ (zl = true → l = [])) : SoundAt (mkC Try.prog 0 (fun _ => none) []) 17 [.int .i64 false k, .sl zl ⟨0, 0, 0, 0⟩ false l.length .any] [some ⟨3, false, false, true, .ints .i64 l⟩] (.tup [.int .i64 false (gplV k l), .int .i64 false (gplE k l)], [some ⟨3, false, false, true, .ints .i64 l⟩]) := sound_ofP hall mix (tgpl k zl l) (ggpl k zl l hw)
theorem Fgpl_ok (hall : AllOk Try.prog 0 (fun _ => none) tab21) : PureF Try.prog 3 17 Fgpl := by
  intro xs c v news h hc
  unfold Fgpl at h
  split at h
  · rename_i _ k zl l
    cases h
    refine ⟨(by intro b hb; cases hb), SoundAt.flags (sgpl hall k zl l hc) ?_⟩
    simp [PA.avs, AV.le, AV.leL, Cap.le]
  · cases h
end Go.Proofs.Ytnkjblmlchbfkaa.Rig
