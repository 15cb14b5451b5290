/- MBack: what is proved for the claim, part 6: functions' reckonings, and what they give. -/
import Derived.Test.YtnkjblmlchbfkaaMBack5
import Derived.KernelRfl
import Derived.Test.YtnkjblmlchbfkaaRows
import Derived.WalkKit
import Derived.ProofKit
import Derived.OpenShut
import Derived.ShutString
import Derived.ChangeOld
import Derived.Below
import Derived.SizedLaws
set_option linter.unusedVariables false
set_option linter.unusedSimpArgs false
/- QPackBack -/
namespace Go.Proofs.Ytnkjblmlchbfkaa.Rig
open Go
set_option maxRecDepth 100000 in
theorem tLPackBack_0 (k : Int) (zl : Bool) (l : List Int) (m : Nat) (sign : Bool) (i : Nat) : tidied TPackBack_0 UPackBack_0 1 (evCode (mkL Try.prog 0 (fun _ => none) tab29 rowsPackBack) (evCall (mkC Try.prog 0 (fun _ => none) tab29) 50) 6 1 fuelC (bodyAt Try.prog 6 0) (hdPackBack_0 ⟨k, zl, l, m, sign, i⟩)) =
  Tree.br (decide ((i : Int) < (m : Int)))
    (Tree.br
      (decide
        ((0 : Int) ≤ IntKind.wrap IntKind.i64 ((i : Int) * k) ∧
          IntKind.wrap IntKind.i64 ((i : Int) * k) ≤ ((List.length (putL sign k (List.take m l))) : Int) ∧ ((List.length (putL sign k (List.take m l))) : Int) ≤ ((List.length (putL sign k (List.take m l))) : Int)))
      (Tree.chk
        ((True ∧
            Int.rec (fun a => a) (fun a => 0) (IntKind.wrap IntKind.i64 ((i : Int) * k)) * 1 + 0 +
                  (Int.toNat ((List.length (putL sign k (List.take m l))) : Int) - Int.toNat (IntKind.wrap IntKind.i64 ((i : Int) * k))) ≤
                List.length (putL sign k (List.take m l)) ∧
              True) ∧
          short
              (List.take (Int.toNat ((List.length (putL sign k (List.take m l))) : Int) - Int.toNat (IntKind.wrap IntKind.i64 ((i : Int) * k)))
                (List.drop (Int.rec (fun a => a) (fun a => 0) (IntKind.wrap IntKind.i64 ((i : Int) * k)) * 1 + 0) (putL sign k (List.take m l)))) ∧
            (decide (putL sign k (List.take m l) = []) = true →
              List.take (Int.toNat ((List.length (putL sign k (List.take m l))) : Int) - Int.toNat (IntKind.wrap IntKind.i64 ((i : Int) * k)))
                  (List.drop (Int.rec (fun a => a) (fun a => 0) (IntKind.wrap IntKind.i64 ((i : Int) * k)) * 1 + 0) (putL sign k (List.take m l))) =
                []))
        (Tree.br sign
          (Tree.br
            (decide
              ((0 : Int) ≤ IntKind.wrap IntKind.i64 ((i : Int) * k) ∧
                IntKind.wrap IntKind.i64 ((i : Int) * k) ≤ ((List.length (putL sign k (List.take m l))) : Int) ∧ ((List.length (putL sign k (List.take m l))) : Int) ≤ ((List.length (putL sign k (List.take m l))) : Int)))
            (Tree.chk
              ((True ∧
                  Int.rec (fun a => a) (fun a => 0) (IntKind.wrap IntKind.i64 ((i : Int) * k)) * 1 + 0 +
                        (Int.toNat ((List.length (putL sign k (List.take m l))) : Int) - Int.toNat (IntKind.wrap IntKind.i64 ((i : Int) * k))) ≤
                      List.length (putL sign k (List.take m l)) ∧
                    True) ∧
                short
                    (List.take (Int.toNat ((List.length (putL sign k (List.take m l))) : Int) - Int.toNat (IntKind.wrap IntKind.i64 ((i : Int) * k)))
                      (List.drop (Int.rec (fun a => a) (fun a => 0) (IntKind.wrap IntKind.i64 ((i : Int) * k)) * 1 + 0) (putL sign k (List.take m l)))) ∧
                  (decide (putL sign k (List.take m l) = []) = true →
                    List.take (Int.toNat ((List.length (putL sign k (List.take m l))) : Int) - Int.toNat (IntKind.wrap IntKind.i64 ((i : Int) * k)))
                        (List.drop (Int.rec (fun a => a) (fun a => 0) (IntKind.wrap IntKind.i64 ((i : Int) * k)) * 1 + 0) (putL sign k (List.take m l))) =
                      []))
              (Tree.br (!zl && decide ((0 : Int) ≤ (i : Int) ∧ (i : Int) < (m : Int)))
                (Tree.br (decide (Int.toNat (i : Int) * 1 + 0 + 1 ≤ List.length l))
                  (Tree.br
                    (getV k
                        (List.take (Int.toNat ((List.length (putL sign k (List.take m l))) : Int) - Int.toNat (IntKind.wrap IntKind.i64 ((i : Int) * k)))
                          (List.drop (Int.rec (fun a => a) (fun a => 0) (IntKind.wrap IntKind.i64 ((i : Int) * k)) * 1 + 0) (putL sign k (List.take m l)))) !=
                      List.getD l (Int.toNat (i : Int) * 1 + 0 + 0) (0 : Int))
                    (Tree.ret
                      (Ex.ret,
                        St.mk
                          [AV.junk, AV.junk, AV.junk, AV.junk, AV.junk, AV.junk, AV.junk, AV.junk, AV.junk, AV.junk, AV.junk, AV.junk, AV.junk, AV.junk, AV.junk, AV.junk, AV.junk, AV.junk, AV.junk, AV.junk, AV.junk, AV.junk, AV.junk, AV.junk,
                            AV.junk, AV.junk, AV.junk, AV.junk, AV.junk, AV.junk, AV.junk, AV.junk, AV.junk, AV.junk, AV.junk, AV.junk, AV.junk, AV.junk, AV.junk, AV.junk, AV.junk, AV.junk, AV.junk, AV.junk, AV.junk, AV.junk, AV.junk,
                            AV.junk, AV.junk, AV.junk, AV.junk, AV.junk, AV.junk, AV.junk, AV.junk, AV.junk, AV.junk, AV.junk, AV.junk, AV.junk, AV.junk, AV.junk, AV.junk, AV.junk, AV.junk, AV.junk, AV.junk, AV.junk, AV.junk, AV.junk,
                            AV.junk, AV.junk, AV.junk, AV.junk, AV.junk, AV.junk, AV.junk, AV.junk, AV.junk, AV.junk, AV.junk]
                          [some (Blk.mk (3) false false true (Data.ints IntKind.i64 l))]))
                    (Tree.br
                      (rawE k
                          (List.take (Int.toNat ((List.length (putL sign k (List.take m l))) : Int) - Int.toNat (IntKind.wrap IntKind.i64 ((i : Int) * k)))
                            (List.drop (Int.rec (fun a => a) (fun a => 0) (IntKind.wrap IntKind.i64 ((i : Int) * k)) * 1 + 0) (putL sign k (List.take m l)))) !=
                        (0 : Int))
                      (Tree.ret
                        (Ex.ret,
                          St.mk
                            [AV.junk, AV.junk, AV.junk, AV.junk, AV.junk, AV.junk, AV.junk, AV.junk, AV.junk, AV.junk, AV.junk, AV.junk, AV.junk, AV.junk, AV.junk, AV.junk, AV.junk, AV.junk, AV.junk, AV.junk, AV.junk, AV.junk, AV.junk,
                              AV.junk, AV.junk, AV.junk, AV.junk, AV.junk, AV.junk, AV.junk, AV.junk, AV.junk, AV.junk, AV.junk, AV.junk, AV.junk, AV.junk, AV.junk, AV.junk, AV.junk, AV.junk, AV.junk, AV.junk, AV.junk, AV.junk, AV.junk,
                              AV.junk, AV.junk, AV.junk, AV.junk, AV.junk, AV.junk, AV.junk, AV.junk, AV.junk, AV.junk, AV.junk, AV.junk, AV.junk, AV.junk, AV.junk, AV.junk, AV.junk, AV.junk, AV.junk, AV.junk, AV.junk, AV.junk, AV.junk,
                              AV.junk, AV.junk, AV.junk, AV.junk, AV.junk, AV.junk, AV.junk, AV.junk, AV.junk, AV.junk, AV.junk, AV.junk]
                            [some (Blk.mk (3) false false true (Data.ints IntKind.i64 l))]))
                      (Tree.ret
                        (Ex.norm,
                          St.mk
                            [AV.int IntKind.i64 false k, AV.sl zl (Ref.mk (0) (0) (0) (0)) false m Cap.any, AV.bool false sign, AV.junk, AV.junk, AV.junk, AV.junk,
                              AV.sl (decide (putL sign k (List.take m l) = [])) (Ref.mk (1) (0) (0) (0)) false (List.length (putL sign k (List.take m l))) Cap.any, AV.junk,
                              AV.int IntKind.i64 false (IntKind.wrap IntKind.i64 ((i : Int) + (1 : Int))), AV.junk, AV.junk, AV.junk, AV.junk, AV.junk, AV.junk, AV.junk, AV.junk, AV.junk, AV.junk, AV.junk, AV.junk, AV.junk, AV.junk, AV.junk,
                              AV.junk, AV.junk, AV.junk, AV.junk, AV.junk, AV.junk, AV.junk, AV.junk, AV.junk, AV.junk, AV.junk, AV.junk, AV.junk, AV.junk, AV.junk, AV.junk, AV.junk, AV.junk, AV.junk, AV.junk, AV.junk, AV.junk, AV.junk,
                              AV.junk, AV.junk, AV.junk, AV.junk, AV.junk, AV.junk, AV.junk, AV.junk, AV.junk, AV.junk, AV.junk, AV.junk, AV.junk, AV.junk, AV.junk, AV.junk, AV.junk, AV.junk, AV.junk, AV.junk, AV.junk, AV.junk, AV.junk,
                              AV.junk, AV.junk, AV.junk, AV.junk, AV.junk, AV.junk, AV.junk, AV.junk, AV.junk, AV.junk]
                            [some (Blk.mk (3) false false true (Data.ints IntKind.i64 l)),
                              some
                                (Blk.mk (3) true (decide ((putL sign k (List.take m l)) = [])) true
                                  (Data.ints IntKind.i64 (putL sign k (List.take m l))))]))))
                  Tree.fail)
                Tree.fail))
            Tree.fail)
          (Tree.br (!zl && decide ((0 : Int) ≤ (i : Int) ∧ (i : Int) < (m : Int)))
            (Tree.br (decide (Int.toNat (i : Int) * 1 + 0 + 1 ≤ List.length l))
              (Tree.br
                (gplV k
                    (List.take (Int.toNat ((List.length (putL sign k (List.take m l))) : Int) - Int.toNat (IntKind.wrap IntKind.i64 ((i : Int) * k)))
                      (List.drop (Int.rec (fun a => a) (fun a => 0) (IntKind.wrap IntKind.i64 ((i : Int) * k)) * 1 + 0) (putL sign k (List.take m l)))) !=
                  List.getD l (Int.toNat (i : Int) * 1 + 0 + 0) (0 : Int))
                (Tree.ret
                  (Ex.ret,
                    St.mk
                      [AV.junk, AV.junk, AV.junk, AV.junk, AV.junk, AV.junk, AV.junk, AV.junk, AV.junk, AV.junk, AV.junk, AV.junk, AV.junk, AV.junk, AV.junk, AV.junk, AV.junk, AV.junk, AV.junk, AV.junk, AV.junk, AV.junk, AV.junk, AV.junk,
                        AV.junk, AV.junk, AV.junk, AV.junk, AV.junk, AV.junk, AV.junk, AV.junk, AV.junk, AV.junk, AV.junk, AV.junk, AV.junk, AV.junk, AV.junk, AV.junk, AV.junk, AV.junk, AV.junk, AV.junk, AV.junk, AV.junk, AV.junk, AV.junk,
                        AV.junk, AV.junk, AV.junk, AV.junk, AV.junk, AV.junk, AV.junk, AV.junk, AV.junk, AV.junk, AV.junk, AV.junk, AV.junk, AV.junk, AV.junk, AV.junk, AV.junk, AV.junk, AV.junk, AV.junk, AV.junk, AV.junk, AV.junk, AV.junk,
                        AV.junk, AV.junk, AV.junk, AV.junk, AV.junk, AV.junk, AV.junk, AV.junk, AV.junk]
                      [some (Blk.mk (3) false false true (Data.ints IntKind.i64 l))]))
                (Tree.br
                  (gplE k
                      (List.take (Int.toNat ((List.length (putL sign k (List.take m l))) : Int) - Int.toNat (IntKind.wrap IntKind.i64 ((i : Int) * k)))
                        (List.drop (Int.rec (fun a => a) (fun a => 0) (IntKind.wrap IntKind.i64 ((i : Int) * k)) * 1 + 0) (putL sign k (List.take m l)))) !=
                    (0 : Int))
                  (Tree.ret
                    (Ex.ret,
                      St.mk
                        [AV.junk, AV.junk, AV.junk, AV.junk, AV.junk, AV.junk, AV.junk, AV.junk, AV.junk, AV.junk, AV.junk, AV.junk, AV.junk, AV.junk, AV.junk, AV.junk, AV.junk, AV.junk, AV.junk, AV.junk, AV.junk, AV.junk, AV.junk, AV.junk,
                          AV.junk, AV.junk, AV.junk, AV.junk, AV.junk, AV.junk, AV.junk, AV.junk, AV.junk, AV.junk, AV.junk, AV.junk, AV.junk, AV.junk, AV.junk, AV.junk, AV.junk, AV.junk, AV.junk, AV.junk, AV.junk, AV.junk, AV.junk, AV.junk,
                          AV.junk, AV.junk, AV.junk, AV.junk, AV.junk, AV.junk, AV.junk, AV.junk, AV.junk, AV.junk, AV.junk, AV.junk, AV.junk, AV.junk, AV.junk, AV.junk, AV.junk, AV.junk, AV.junk, AV.junk, AV.junk, AV.junk, AV.junk, AV.junk,
                          AV.junk, AV.junk, AV.junk, AV.junk, AV.junk, AV.junk, AV.junk, AV.junk, AV.junk]
                        [some (Blk.mk (3) false false true (Data.ints IntKind.i64 l))]))
                  (Tree.ret
                    (Ex.norm,
                      St.mk
                        [AV.int IntKind.i64 false k, AV.sl zl (Ref.mk (0) (0) (0) (0)) false m Cap.any, AV.bool false sign, AV.junk, AV.junk, AV.junk, AV.junk,
                          AV.sl (decide (putL sign k (List.take m l) = [])) (Ref.mk (1) (0) (0) (0)) false (List.length (putL sign k (List.take m l))) Cap.any, AV.junk,
                          AV.int IntKind.i64 false (IntKind.wrap IntKind.i64 ((i : Int) + (1 : Int))), AV.junk, AV.junk, AV.junk, AV.junk, AV.junk, AV.junk, AV.junk, AV.junk, AV.junk, AV.junk, AV.junk, AV.junk, AV.junk, AV.junk, AV.junk, AV.junk,
                          AV.junk, AV.junk, AV.junk, AV.junk, AV.junk, AV.junk, AV.junk, AV.junk, AV.junk, AV.junk, AV.junk, AV.junk, AV.junk, AV.junk, AV.junk, AV.junk, AV.junk, AV.junk, AV.junk, AV.junk, AV.junk, AV.junk, AV.junk, AV.junk,
                          AV.junk, AV.junk, AV.junk, AV.junk, AV.junk, AV.junk, AV.junk, AV.junk, AV.junk, AV.junk, AV.junk, AV.junk, AV.junk, AV.junk, AV.junk, AV.junk, AV.junk, AV.junk, AV.junk, AV.junk, AV.junk, AV.junk, AV.junk, AV.junk,
                          AV.junk, AV.junk, AV.junk, AV.junk, AV.junk, AV.junk, AV.junk]
                        [some (Blk.mk (3) false false true (Data.ints IntKind.i64 l)),
                          some
                            (Blk.mk (3) true (decide ((putL sign k (List.take m l)) = [])) true
                              (Data.ints IntKind.i64 (putL sign k (List.take m l))))]))))
              Tree.fail)
            Tree.fail)))
      Tree.fail)
    (Tree.ret
      (Ex.exit (0),
        St.mk
          [AV.int IntKind.i64 false k, AV.sl zl (Ref.mk (0) (0) (0) (0)) false m Cap.any, AV.junk, AV.junk, AV.junk, AV.junk, AV.junk,
            AV.sl (decide (putL sign k (List.take m l) = [])) (Ref.mk (1) (0) (0) (0)) false (List.length (putL sign k (List.take m l))) Cap.any, AV.junk, AV.junk, AV.junk, AV.junk,
            AV.junk, AV.junk, AV.junk, AV.junk, AV.junk, AV.junk, AV.junk, AV.junk, AV.junk, AV.junk, AV.junk, AV.junk, AV.junk, AV.junk, AV.junk, AV.junk, AV.junk, AV.junk, AV.junk, AV.junk, AV.junk, AV.junk, AV.junk, AV.junk, AV.junk,
            AV.junk, AV.junk, AV.junk, AV.junk, AV.junk, AV.junk, AV.junk, AV.junk, AV.junk, AV.junk, AV.junk, AV.junk, AV.junk, AV.junk, AV.junk, AV.junk, AV.junk, AV.junk, AV.junk, AV.junk, AV.junk, AV.junk, AV.junk, AV.junk, AV.junk,
            AV.junk, AV.junk, AV.junk, AV.junk, AV.junk, AV.junk, AV.junk, AV.junk, AV.junk, AV.junk, AV.junk, AV.junk, AV.junk, AV.junk, AV.junk, AV.junk, AV.junk, AV.junk, AV.junk]
          [some (Blk.mk (3) false false true (Data.ints IntKind.i64 l)),
            some (Blk.mk (3) true (decide ((putL sign k (List.take m l)) = [])) true (Data.ints IntKind.i64 (putL sign k (List.take m l))))])) := by kernel_rfl
set_option maxRecDepth 100000 in
theorem stepPackBack_0 (k : Int) (zl : Bool) (l : List Int) (m : Nat) (sign : Bool) (i : Nat) (ex : Ex) (r : St) (hok : okPackBack_0 ⟨k, zl, l, m, sign, i⟩) (hr : (outPackBack_0 ⟨k, zl, l, m, sign, i⟩).runs (ex, r)) : (Tree.br (decide ((i : Int) < (m : Int)))
    (Tree.br
      (decide
        ((0 : Int) ≤ IntKind.wrap IntKind.i64 ((i : Int) * k) ∧
          IntKind.wrap IntKind.i64 ((i : Int) * k) ≤ ((List.length (putL sign k (List.take m l))) : Int) ∧ ((List.length (putL sign k (List.take m l))) : Int) ≤ ((List.length (putL sign k (List.take m l))) : Int)))
      (Tree.chk
        ((True ∧
            Int.rec (fun a => a) (fun a => 0) (IntKind.wrap IntKind.i64 ((i : Int) * k)) * 1 + 0 +
                  (Int.toNat ((List.length (putL sign k (List.take m l))) : Int) - Int.toNat (IntKind.wrap IntKind.i64 ((i : Int) * k))) ≤
                List.length (putL sign k (List.take m l)) ∧
              True) ∧
          short
              (List.take (Int.toNat ((List.length (putL sign k (List.take m l))) : Int) - Int.toNat (IntKind.wrap IntKind.i64 ((i : Int) * k)))
                (List.drop (Int.rec (fun a => a) (fun a => 0) (IntKind.wrap IntKind.i64 ((i : Int) * k)) * 1 + 0) (putL sign k (List.take m l)))) ∧
            (decide (putL sign k (List.take m l) = []) = true →
              List.take (Int.toNat ((List.length (putL sign k (List.take m l))) : Int) - Int.toNat (IntKind.wrap IntKind.i64 ((i : Int) * k)))
                  (List.drop (Int.rec (fun a => a) (fun a => 0) (IntKind.wrap IntKind.i64 ((i : Int) * k)) * 1 + 0) (putL sign k (List.take m l))) =
                []))
        (Tree.br sign
          (Tree.br
            (decide
              ((0 : Int) ≤ IntKind.wrap IntKind.i64 ((i : Int) * k) ∧
                IntKind.wrap IntKind.i64 ((i : Int) * k) ≤ ((List.length (putL sign k (List.take m l))) : Int) ∧ ((List.length (putL sign k (List.take m l))) : Int) ≤ ((List.length (putL sign k (List.take m l))) : Int)))
            (Tree.chk
              ((True ∧
                  Int.rec (fun a => a) (fun a => 0) (IntKind.wrap IntKind.i64 ((i : Int) * k)) * 1 + 0 +
                        (Int.toNat ((List.length (putL sign k (List.take m l))) : Int) - Int.toNat (IntKind.wrap IntKind.i64 ((i : Int) * k))) ≤
                      List.length (putL sign k (List.take m l)) ∧
                    True) ∧
                short
                    (List.take (Int.toNat ((List.length (putL sign k (List.take m l))) : Int) - Int.toNat (IntKind.wrap IntKind.i64 ((i : Int) * k)))
                      (List.drop (Int.rec (fun a => a) (fun a => 0) (IntKind.wrap IntKind.i64 ((i : Int) * k)) * 1 + 0) (putL sign k (List.take m l)))) ∧
                  (decide (putL sign k (List.take m l) = []) = true →
                    List.take (Int.toNat ((List.length (putL sign k (List.take m l))) : Int) - Int.toNat (IntKind.wrap IntKind.i64 ((i : Int) * k)))
                        (List.drop (Int.rec (fun a => a) (fun a => 0) (IntKind.wrap IntKind.i64 ((i : Int) * k)) * 1 + 0) (putL sign k (List.take m l))) =
                      []))
              (Tree.br (!zl && decide ((0 : Int) ≤ (i : Int) ∧ (i : Int) < (m : Int)))
                (Tree.br (decide (Int.toNat (i : Int) * 1 + 0 + 1 ≤ List.length l))
                  (Tree.br
                    (getV k
                        (List.take (Int.toNat ((List.length (putL sign k (List.take m l))) : Int) - Int.toNat (IntKind.wrap IntKind.i64 ((i : Int) * k)))
                          (List.drop (Int.rec (fun a => a) (fun a => 0) (IntKind.wrap IntKind.i64 ((i : Int) * k)) * 1 + 0) (putL sign k (List.take m l)))) !=
                      List.getD l (Int.toNat (i : Int) * 1 + 0 + 0) (0 : Int))
                    (Tree.ret
                      (Ex.ret,
                        St.mk
                          [AV.junk, AV.junk, AV.junk, AV.junk, AV.junk, AV.junk, AV.junk, AV.junk, AV.junk, AV.junk, AV.junk, AV.junk, AV.junk, AV.junk, AV.junk, AV.junk, AV.junk, AV.junk, AV.junk, AV.junk, AV.junk, AV.junk, AV.junk, AV.junk,
                            AV.junk, AV.junk, AV.junk, AV.junk, AV.junk, AV.junk, AV.junk, AV.junk, AV.junk, AV.junk, AV.junk, AV.junk, AV.junk, AV.junk, AV.junk, AV.junk, AV.junk, AV.junk, AV.junk, AV.junk, AV.junk, AV.junk, AV.junk,
                            AV.junk, AV.junk, AV.junk, AV.junk, AV.junk, AV.junk, AV.junk, AV.junk, AV.junk, AV.junk, AV.junk, AV.junk, AV.junk, AV.junk, AV.junk, AV.junk, AV.junk, AV.junk, AV.junk, AV.junk, AV.junk, AV.junk, AV.junk,
                            AV.junk, AV.junk, AV.junk, AV.junk, AV.junk, AV.junk, AV.junk, AV.junk, AV.junk, AV.junk, AV.junk]
                          [some (Blk.mk (3) false false true (Data.ints IntKind.i64 l))]))
                    (Tree.br
                      (rawE k
                          (List.take (Int.toNat ((List.length (putL sign k (List.take m l))) : Int) - Int.toNat (IntKind.wrap IntKind.i64 ((i : Int) * k)))
                            (List.drop (Int.rec (fun a => a) (fun a => 0) (IntKind.wrap IntKind.i64 ((i : Int) * k)) * 1 + 0) (putL sign k (List.take m l)))) !=
                        (0 : Int))
                      (Tree.ret
                        (Ex.ret,
                          St.mk
                            [AV.junk, AV.junk, AV.junk, AV.junk, AV.junk, AV.junk, AV.junk, AV.junk, AV.junk, AV.junk, AV.junk, AV.junk, AV.junk, AV.junk, AV.junk, AV.junk, AV.junk, AV.junk, AV.junk, AV.junk, AV.junk, AV.junk, AV.junk,
                              AV.junk, AV.junk, AV.junk, AV.junk, AV.junk, AV.junk, AV.junk, AV.junk, AV.junk, AV.junk, AV.junk, AV.junk, AV.junk, AV.junk, AV.junk, AV.junk, AV.junk, AV.junk, AV.junk, AV.junk, AV.junk, AV.junk, AV.junk,
                              AV.junk, AV.junk, AV.junk, AV.junk, AV.junk, AV.junk, AV.junk, AV.junk, AV.junk, AV.junk, AV.junk, AV.junk, AV.junk, AV.junk, AV.junk, AV.junk, AV.junk, AV.junk, AV.junk, AV.junk, AV.junk, AV.junk, AV.junk,
                              AV.junk, AV.junk, AV.junk, AV.junk, AV.junk, AV.junk, AV.junk, AV.junk, AV.junk, AV.junk, AV.junk, AV.junk]
                            [some (Blk.mk (3) false false true (Data.ints IntKind.i64 l))]))
                      (Tree.ret
                        (Ex.norm,
                          St.mk
                            [AV.int IntKind.i64 false k, AV.sl zl (Ref.mk (0) (0) (0) (0)) false m Cap.any, AV.bool false sign, AV.junk, AV.junk, AV.junk, AV.junk,
                              AV.sl (decide (putL sign k (List.take m l) = [])) (Ref.mk (1) (0) (0) (0)) false (List.length (putL sign k (List.take m l))) Cap.any, AV.junk,
                              AV.int IntKind.i64 false (IntKind.wrap IntKind.i64 ((i : Int) + (1 : Int))), AV.junk, AV.junk, AV.junk, AV.junk, AV.junk, AV.junk, AV.junk, AV.junk, AV.junk, AV.junk, AV.junk, AV.junk, AV.junk, AV.junk, AV.junk,
                              AV.junk, AV.junk, AV.junk, AV.junk, AV.junk, AV.junk, AV.junk, AV.junk, AV.junk, AV.junk, AV.junk, AV.junk, AV.junk, AV.junk, AV.junk, AV.junk, AV.junk, AV.junk, AV.junk, AV.junk, AV.junk, AV.junk, AV.junk,
                              AV.junk, AV.junk, AV.junk, AV.junk, AV.junk, AV.junk, AV.junk, AV.junk, AV.junk, AV.junk, AV.junk, AV.junk, AV.junk, AV.junk, AV.junk, AV.junk, AV.junk, AV.junk, AV.junk, AV.junk, AV.junk, AV.junk, AV.junk,
                              AV.junk, AV.junk, AV.junk, AV.junk, AV.junk, AV.junk, AV.junk, AV.junk, AV.junk, AV.junk]
                            [some (Blk.mk (3) false false true (Data.ints IntKind.i64 l)),
                              some
                                (Blk.mk (3) true (decide ((putL sign k (List.take m l)) = [])) true
                                  (Data.ints IntKind.i64 (putL sign k (List.take m l))))]))))
                  Tree.fail)
                Tree.fail))
            Tree.fail)
          (Tree.br (!zl && decide ((0 : Int) ≤ (i : Int) ∧ (i : Int) < (m : Int)))
            (Tree.br (decide (Int.toNat (i : Int) * 1 + 0 + 1 ≤ List.length l))
              (Tree.br
                (gplV k
                    (List.take (Int.toNat ((List.length (putL sign k (List.take m l))) : Int) - Int.toNat (IntKind.wrap IntKind.i64 ((i : Int) * k)))
                      (List.drop (Int.rec (fun a => a) (fun a => 0) (IntKind.wrap IntKind.i64 ((i : Int) * k)) * 1 + 0) (putL sign k (List.take m l)))) !=
                  List.getD l (Int.toNat (i : Int) * 1 + 0 + 0) (0 : Int))
                (Tree.ret
                  (Ex.ret,
                    St.mk
                      [AV.junk, AV.junk, AV.junk, AV.junk, AV.junk, AV.junk, AV.junk, AV.junk, AV.junk, AV.junk, AV.junk, AV.junk, AV.junk, AV.junk, AV.junk, AV.junk, AV.junk, AV.junk, AV.junk, AV.junk, AV.junk, AV.junk, AV.junk, AV.junk,
                        AV.junk, AV.junk, AV.junk, AV.junk, AV.junk, AV.junk, AV.junk, AV.junk, AV.junk, AV.junk, AV.junk, AV.junk, AV.junk, AV.junk, AV.junk, AV.junk, AV.junk, AV.junk, AV.junk, AV.junk, AV.junk, AV.junk, AV.junk, AV.junk,
                        AV.junk, AV.junk, AV.junk, AV.junk, AV.junk, AV.junk, AV.junk, AV.junk, AV.junk, AV.junk, AV.junk, AV.junk, AV.junk, AV.junk, AV.junk, AV.junk, AV.junk, AV.junk, AV.junk, AV.junk, AV.junk, AV.junk, AV.junk, AV.junk,
                        AV.junk, AV.junk, AV.junk, AV.junk, AV.junk, AV.junk, AV.junk, AV.junk, AV.junk]
                      [some (Blk.mk (3) false false true (Data.ints IntKind.i64 l))]))
                (Tree.br
                  (gplE k
                      (List.take (Int.toNat ((List.length (putL sign k (List.take m l))) : Int) - Int.toNat (IntKind.wrap IntKind.i64 ((i : Int) * k)))
                        (List.drop (Int.rec (fun a => a) (fun a => 0) (IntKind.wrap IntKind.i64 ((i : Int) * k)) * 1 + 0) (putL sign k (List.take m l)))) !=
                    (0 : Int))
                  (Tree.ret
                    (Ex.ret,
                      St.mk
                        [AV.junk, AV.junk, AV.junk, AV.junk, AV.junk, AV.junk, AV.junk, AV.junk, AV.junk, AV.junk, AV.junk, AV.junk, AV.junk, AV.junk, AV.junk, AV.junk, AV.junk, AV.junk, AV.junk, AV.junk, AV.junk, AV.junk, AV.junk, AV.junk,
                          AV.junk, AV.junk, AV.junk, AV.junk, AV.junk, AV.junk, AV.junk, AV.junk, AV.junk, AV.junk, AV.junk, AV.junk, AV.junk, AV.junk, AV.junk, AV.junk, AV.junk, AV.junk, AV.junk, AV.junk, AV.junk, AV.junk, AV.junk, AV.junk,
                          AV.junk, AV.junk, AV.junk, AV.junk, AV.junk, AV.junk, AV.junk, AV.junk, AV.junk, AV.junk, AV.junk, AV.junk, AV.junk, AV.junk, AV.junk, AV.junk, AV.junk, AV.junk, AV.junk, AV.junk, AV.junk, AV.junk, AV.junk, AV.junk,
                          AV.junk, AV.junk, AV.junk, AV.junk, AV.junk, AV.junk, AV.junk, AV.junk, AV.junk]
                        [some (Blk.mk (3) false false true (Data.ints IntKind.i64 l))]))
                  (Tree.ret
                    (Ex.norm,
                      St.mk
                        [AV.int IntKind.i64 false k, AV.sl zl (Ref.mk (0) (0) (0) (0)) false m Cap.any, AV.bool false sign, AV.junk, AV.junk, AV.junk, AV.junk,
                          AV.sl (decide (putL sign k (List.take m l) = [])) (Ref.mk (1) (0) (0) (0)) false (List.length (putL sign k (List.take m l))) Cap.any, AV.junk,
                          AV.int IntKind.i64 false (IntKind.wrap IntKind.i64 ((i : Int) + (1 : Int))), AV.junk, AV.junk, AV.junk, AV.junk, AV.junk, AV.junk, AV.junk, AV.junk, AV.junk, AV.junk, AV.junk, AV.junk, AV.junk, AV.junk, AV.junk, AV.junk,
                          AV.junk, AV.junk, AV.junk, AV.junk, AV.junk, AV.junk, AV.junk, AV.junk, AV.junk, AV.junk, AV.junk, AV.junk, AV.junk, AV.junk, AV.junk, AV.junk, AV.junk, AV.junk, AV.junk, AV.junk, AV.junk, AV.junk, AV.junk, AV.junk,
                          AV.junk, AV.junk, AV.junk, AV.junk, AV.junk, AV.junk, AV.junk, AV.junk, AV.junk, AV.junk, AV.junk, AV.junk, AV.junk, AV.junk, AV.junk, AV.junk, AV.junk, AV.junk, AV.junk, AV.junk, AV.junk, AV.junk, AV.junk, AV.junk,
                          AV.junk, AV.junk, AV.junk, AV.junk, AV.junk, AV.junk, AV.junk]
                        [some (Blk.mk (3) false false true (Data.ints IntKind.i64 l)),
                          some
                            (Blk.mk (3) true (decide ((putL sign k (List.take m l)) = [])) true
                              (Data.ints IntKind.i64 (putL sign k (List.take m l))))]))))
              Tree.fail)
            Tree.fail)))
      Tree.fail)
    (Tree.ret
      (Ex.exit (0),
        St.mk
          [AV.int IntKind.i64 false k, AV.sl zl (Ref.mk (0) (0) (0) (0)) false m Cap.any, AV.junk, AV.junk, AV.junk, AV.junk, AV.junk,
            AV.sl (decide (putL sign k (List.take m l) = [])) (Ref.mk (1) (0) (0) (0)) false (List.length (putL sign k (List.take m l))) Cap.any, AV.junk, AV.junk, AV.junk, AV.junk,
            AV.junk, AV.junk, AV.junk, AV.junk, AV.junk, AV.junk, AV.junk, AV.junk, AV.junk, AV.junk, AV.junk, AV.junk, AV.junk, AV.junk, AV.junk, AV.junk, AV.junk, AV.junk, AV.junk, AV.junk, AV.junk, AV.junk, AV.junk, AV.junk, AV.junk,
            AV.junk, AV.junk, AV.junk, AV.junk, AV.junk, AV.junk, AV.junk, AV.junk, AV.junk, AV.junk, AV.junk, AV.junk, AV.junk, AV.junk, AV.junk, AV.junk, AV.junk, AV.junk, AV.junk, AV.junk, AV.junk, AV.junk, AV.junk, AV.junk, AV.junk,
            AV.junk, AV.junk, AV.junk, AV.junk, AV.junk, AV.junk, AV.junk, AV.junk, AV.junk, AV.junk, AV.junk, AV.junk, AV.junk, AV.junk, AV.junk, AV.junk, AV.junk, AV.junk, AV.junk]
          [some (Blk.mk (3) false false true (Data.ints IntKind.i64 l)),
            some (Blk.mk (3) true (decide ((putL sign k (List.take m l)) = [])) true (Data.ints IntKind.i64 (putL sign k (List.take m l))))])) : Tree (Ex × St)).Sat (Post hdPackBack_0 resPackBack_0 muPackBack_0 ⟨k, zl, l, m, sign, i⟩ ex r) := by
  simp only [okPackBack_0, outPackBack_0, Tree.runs] at hok hr
  obtain ⟨hs, hz, hw, hm, hm2, hp, hi⟩ := hok
  have hk := putOk_k hp
  have hB := back_all (i := i) hp hw hm
  have hwm := wmul (i := i) hk.1.1 hk.1.2 (by omega)
  have hlen : i * k.toNat ≤ (putL sign k (l.take m)).length := by rw [hk.2, List.length_take]; exact Nat.mul_le_mul_right _ (by omega)
  have hl8 : (putL sign k (l.take m)).length ≤ 800 := Nat.le_trans (putL_len _ _ _) (by rw [List.length_take]; omega)
  simp only [irec, hwm.1, Int.toNat_natCast, Nat.mul_one, Nat.add_zero]
  generalize hX : List.take ((putL sign k (l.take m)).length - i * k.toNat) (List.drop (i * k.toNat) (putL sign k (l.take m))) = X at *
  have hXl : X.length ≤ 800 := by rw [← hX, List.length_take]; omega
  refine Tree.Sat.br (fun h1 => ?_) (fun h1 => ?_)
  · (try simp only [decide_eq_true_eq, decide_eq_false_iff_not, Bool.not_eq_true', Bool.not_eq_false', beq_iff_eq, beq_eq_false_iff_ne, Int.not_lt, Int.not_le, ge_iff_le, gt_iff_lt, ne_eq, Bool.false_eq_true, Bool.true_eq_false, not_true_eq_false, not_false_eq_true, Bool.and_eq_true, Bool.not_eq_eq_eq_not, Bool.not_true, Bool.not_false, bne_iff_ne, bne_eq_false_iff_eq, Int.toNat_natCast, Nat.mul_one, Nat.add_zero, Nat.zero_add, List.take_length, List.drop_zero] at h1)
    all_goals
      refine Tree.Sat.br (fun h2 => ?_) (fun h2 => ?_)
      · (try simp only [decide_eq_true_eq, decide_eq_false_iff_not, Bool.not_eq_true', Bool.not_eq_false', beq_iff_eq, beq_eq_false_iff_ne, Int.not_lt, Int.not_le, ge_iff_le, gt_iff_lt, ne_eq, Bool.false_eq_true, Bool.true_eq_false, not_true_eq_false, not_false_eq_true, Bool.and_eq_true, Bool.not_eq_eq_eq_not, Bool.not_true, Bool.not_false, bne_iff_ne, bne_eq_false_iff_eq, Int.toNat_natCast, Nat.mul_one, Nat.add_zero, Nat.zero_add, List.take_length, List.drop_zero] at h2)
        all_goals
          refine Tree.Sat.chk (by first | (simp only [and_self]; done) | ((repeat' with_reducible refine And.intro ?_ ?_) <;> first | trivial | omega | (simp only [short]; omega) | (intro hh; rw [← hX]; rw [decide_eq_true_eq] at hh; rw [hh]; simp))) ?_
          refine Tree.Sat.br (fun h3 => ?_) (fun h3 => ?_)
          · (try simp only [decide_eq_true_eq, decide_eq_false_iff_not, Bool.not_eq_true', Bool.not_eq_false', beq_iff_eq, beq_eq_false_iff_ne, Int.not_lt, Int.not_le, ge_iff_le, gt_iff_lt, ne_eq, Bool.false_eq_true, Bool.true_eq_false, not_true_eq_false, not_false_eq_true, Bool.and_eq_true, Bool.not_eq_eq_eq_not, Bool.not_true, Bool.not_false, bne_iff_ne, bne_eq_false_iff_eq, Int.toNat_natCast, Nat.mul_one, Nat.add_zero, Nat.zero_add, List.take_length, List.drop_zero] at h3)
            all_goals
              refine Tree.Sat.br (fun h4 => ?_) (fun h4 => ?_)
              · (try simp only [decide_eq_true_eq, decide_eq_false_iff_not, Bool.not_eq_true', Bool.not_eq_false', beq_iff_eq, beq_eq_false_iff_ne, Int.not_lt, Int.not_le, ge_iff_le, gt_iff_lt, ne_eq, Bool.false_eq_true, Bool.true_eq_false, not_true_eq_false, not_false_eq_true, Bool.and_eq_true, Bool.not_eq_eq_eq_not, Bool.not_true, Bool.not_false, bne_iff_ne, bne_eq_false_iff_eq, Int.toNat_natCast, Nat.mul_one, Nat.add_zero, Nat.zero_add, List.take_length, List.drop_zero] at h4)
                all_goals
                  refine Tree.Sat.chk (by first | (simp only [and_self]; done) | ((repeat' with_reducible refine And.intro ?_ ?_) <;> first | trivial | omega | (simp only [short]; omega) | (intro hh; rw [← hX]; rw [decide_eq_true_eq] at hh; rw [hh]; simp))) ?_
                  refine Tree.Sat.br (fun h5 => ?_) (fun h5 => ?_)
                  · (try simp only [decide_eq_true_eq, decide_eq_false_iff_not, Bool.not_eq_true', Bool.not_eq_false', beq_iff_eq, beq_eq_false_iff_ne, Int.not_lt, Int.not_le, ge_iff_le, gt_iff_lt, ne_eq, Bool.false_eq_true, Bool.true_eq_false, not_true_eq_false, not_false_eq_true, Bool.and_eq_true, Bool.not_eq_eq_eq_not, Bool.not_true, Bool.not_false, bne_iff_ne, bne_eq_false_iff_eq, Int.toNat_natCast, Nat.mul_one, Nat.add_zero, Nat.zero_add, List.take_length, List.drop_zero] at h5)
                    all_goals
                      refine Tree.Sat.br (fun h6 => ?_) (fun h6 => ?_)
                      · (try simp only [decide_eq_true_eq, decide_eq_false_iff_not, Bool.not_eq_true', Bool.not_eq_false', beq_iff_eq, beq_eq_false_iff_ne, Int.not_lt, Int.not_le, ge_iff_le, gt_iff_lt, ne_eq, Bool.false_eq_true, Bool.true_eq_false, not_true_eq_false, not_false_eq_true, Bool.and_eq_true, Bool.not_eq_eq_eq_not, Bool.not_true, Bool.not_false, bne_iff_ne, bne_eq_false_iff_eq, Int.toNat_natCast, Nat.mul_one, Nat.add_zero, Nat.zero_add, List.take_length, List.drop_zero] at h6)
                        all_goals
                          refine Tree.Sat.br (fun h7 => ?_) (fun h7 => ?_)
                          · (try simp only [decide_eq_true_eq, decide_eq_false_iff_not, Bool.not_eq_true', Bool.not_eq_false', beq_iff_eq, beq_eq_false_iff_ne, Int.not_lt, Int.not_le, ge_iff_le, gt_iff_lt, ne_eq, Bool.false_eq_true, Bool.true_eq_false, not_true_eq_false, not_false_eq_true, Bool.and_eq_true, Bool.not_eq_eq_eq_not, Bool.not_true, Bool.not_false, bne_iff_ne, bne_eq_false_iff_eq, Int.toNat_natCast, Nat.mul_one, Nat.add_zero, Nat.zero_add, List.take_length, List.drop_zero] at h7)
                            all_goals
                              refine Tree.Sat.ret ?_
                              exfalso
                              have hb := hB (by omega)
                              simp_all
                          · (try simp only [decide_eq_true_eq, decide_eq_false_iff_not, Bool.not_eq_true', Bool.not_eq_false', beq_iff_eq, beq_eq_false_iff_ne, Int.not_lt, Int.not_le, ge_iff_le, gt_iff_lt, ne_eq, Bool.false_eq_true, Bool.true_eq_false, not_true_eq_false, not_false_eq_true, Bool.and_eq_true, Bool.not_eq_eq_eq_not, Bool.not_true, Bool.not_false, bne_iff_ne, bne_eq_false_iff_eq, Int.toNat_natCast, Nat.mul_one, Nat.add_zero, Nat.zero_add, List.take_length, List.drop_zero] at h7)
                            all_goals
                              refine Tree.Sat.br (fun h8 => ?_) (fun h8 => ?_)
                              · (try simp only [decide_eq_true_eq, decide_eq_false_iff_not, Bool.not_eq_true', Bool.not_eq_false', beq_iff_eq, beq_eq_false_iff_ne, Int.not_lt, Int.not_le, ge_iff_le, gt_iff_lt, ne_eq, Bool.false_eq_true, Bool.true_eq_false, not_true_eq_false, not_false_eq_true, Bool.and_eq_true, Bool.not_eq_eq_eq_not, Bool.not_true, Bool.not_false, bne_iff_ne, bne_eq_false_iff_eq, Int.toNat_natCast, Nat.mul_one, Nat.add_zero, Nat.zero_add, List.take_length, List.drop_zero] at h8)
                                all_goals
                                  refine Tree.Sat.ret ?_
                                  exfalso
                                  have hb := hB (by omega)
                                  simp_all
                              · (try simp only [decide_eq_true_eq, decide_eq_false_iff_not, Bool.not_eq_true', Bool.not_eq_false', beq_iff_eq, beq_eq_false_iff_ne, Int.not_lt, Int.not_le, ge_iff_le, gt_iff_lt, ne_eq, Bool.false_eq_true, Bool.true_eq_false, not_true_eq_false, not_false_eq_true, Bool.and_eq_true, Bool.not_eq_eq_eq_not, Bool.not_true, Bool.not_false, bne_iff_ne, bne_eq_false_iff_eq, Int.toNat_natCast, Nat.mul_one, Nat.add_zero, Nat.zero_add, List.take_length, List.drop_zero] at h8)
                                all_goals
                                  refine Tree.Sat.ret ?_
                                  refine .norm ⟨k, zl, l, m, sign, i + 1⟩ ?_ ?_ ⟨?_, ?_⟩
                                  · constructor <;> simp only [hdPackBack_0, AV.leL, AV.le, Mem.le, Mem.leP, Blk.le, Blk.pad, Data.le, Data.size, Cap.le, and_true, true_and, and_self, true_implies, implies_true, imp_self, List.length_nil] <;> (repeat' with_reducible refine And.intro ?_ ?_) <;> (try simp only [Int.toNat_natCast, Nat.mul_one, Nat.add_zero, Nat.zero_add]) <;> first | exact wadd1 (by omega) | omega
                                  · simp only [muPackBack_0]; omega
                                  · exact ⟨hs, hz, hw, hm, hm2, hp, by omega⟩
                                  · exact hr
                      · (try simp only [decide_eq_true_eq, decide_eq_false_iff_not, Bool.not_eq_true', Bool.not_eq_false', beq_iff_eq, beq_eq_false_iff_ne, Int.not_lt, Int.not_le, ge_iff_le, gt_iff_lt, ne_eq, Bool.false_eq_true, Bool.true_eq_false, not_true_eq_false, not_false_eq_true, Bool.and_eq_true, Bool.not_eq_eq_eq_not, Bool.not_true, Bool.not_false, bne_iff_ne, bne_eq_false_iff_eq, Int.toNat_natCast, Nat.mul_one, Nat.add_zero, Nat.zero_add, List.take_length, List.drop_zero] at h6)
                        all_goals
                          exfalso
                          first | omega | (cases zl <;> simp_all; done) | (cases zl <;> simp_all <;> omega)
                  · (try simp only [decide_eq_true_eq, decide_eq_false_iff_not, Bool.not_eq_true', Bool.not_eq_false', beq_iff_eq, beq_eq_false_iff_ne, Int.not_lt, Int.not_le, ge_iff_le, gt_iff_lt, ne_eq, Bool.false_eq_true, Bool.true_eq_false, not_true_eq_false, not_false_eq_true, Bool.and_eq_true, Bool.not_eq_eq_eq_not, Bool.not_true, Bool.not_false, bne_iff_ne, bne_eq_false_iff_eq, Int.toNat_natCast, Nat.mul_one, Nat.add_zero, Nat.zero_add, List.take_length, List.drop_zero] at h5)
                    all_goals
                      exfalso
                      first | omega | (cases zl <;> simp_all; done) | (cases zl <;> simp_all <;> omega)
              · (try simp only [decide_eq_true_eq, decide_eq_false_iff_not, Bool.not_eq_true', Bool.not_eq_false', beq_iff_eq, beq_eq_false_iff_ne, Int.not_lt, Int.not_le, ge_iff_le, gt_iff_lt, ne_eq, Bool.false_eq_true, Bool.true_eq_false, not_true_eq_false, not_false_eq_true, Bool.and_eq_true, Bool.not_eq_eq_eq_not, Bool.not_true, Bool.not_false, bne_iff_ne, bne_eq_false_iff_eq, Int.toNat_natCast, Nat.mul_one, Nat.add_zero, Nat.zero_add, List.take_length, List.drop_zero] at h4)
                all_goals
                  exfalso
                  first | omega | (cases zl <;> simp_all; done) | (cases zl <;> simp_all <;> omega)
          · (try simp only [decide_eq_true_eq, decide_eq_false_iff_not, Bool.not_eq_true', Bool.not_eq_false', beq_iff_eq, beq_eq_false_iff_ne, Int.not_lt, Int.not_le, ge_iff_le, gt_iff_lt, ne_eq, Bool.false_eq_true, Bool.true_eq_false, not_true_eq_false, not_false_eq_true, Bool.and_eq_true, Bool.not_eq_eq_eq_not, Bool.not_true, Bool.not_false, bne_iff_ne, bne_eq_false_iff_eq, Int.toNat_natCast, Nat.mul_one, Nat.add_zero, Nat.zero_add, List.take_length, List.drop_zero] at h3)
            all_goals
              refine Tree.Sat.br (fun h4 => ?_) (fun h4 => ?_)
              · (try simp only [decide_eq_true_eq, decide_eq_false_iff_not, Bool.not_eq_true', Bool.not_eq_false', beq_iff_eq, beq_eq_false_iff_ne, Int.not_lt, Int.not_le, ge_iff_le, gt_iff_lt, ne_eq, Bool.false_eq_true, Bool.true_eq_false, not_true_eq_false, not_false_eq_true, Bool.and_eq_true, Bool.not_eq_eq_eq_not, Bool.not_true, Bool.not_false, bne_iff_ne, bne_eq_false_iff_eq, Int.toNat_natCast, Nat.mul_one, Nat.add_zero, Nat.zero_add, List.take_length, List.drop_zero] at h4)
                all_goals
                  refine Tree.Sat.br (fun h5 => ?_) (fun h5 => ?_)
                  · (try simp only [decide_eq_true_eq, decide_eq_false_iff_not, Bool.not_eq_true', Bool.not_eq_false', beq_iff_eq, beq_eq_false_iff_ne, Int.not_lt, Int.not_le, ge_iff_le, gt_iff_lt, ne_eq, Bool.false_eq_true, Bool.true_eq_false, not_true_eq_false, not_false_eq_true, Bool.and_eq_true, Bool.not_eq_eq_eq_not, Bool.not_true, Bool.not_false, bne_iff_ne, bne_eq_false_iff_eq, Int.toNat_natCast, Nat.mul_one, Nat.add_zero, Nat.zero_add, List.take_length, List.drop_zero] at h5)
                    all_goals
                      refine Tree.Sat.br (fun h6 => ?_) (fun h6 => ?_)
                      · (try simp only [decide_eq_true_eq, decide_eq_false_iff_not, Bool.not_eq_true', Bool.not_eq_false', beq_iff_eq, beq_eq_false_iff_ne, Int.not_lt, Int.not_le, ge_iff_le, gt_iff_lt, ne_eq, Bool.false_eq_true, Bool.true_eq_false, not_true_eq_false, not_false_eq_true, Bool.and_eq_true, Bool.not_eq_eq_eq_not, Bool.not_true, Bool.not_false, bne_iff_ne, bne_eq_false_iff_eq, Int.toNat_natCast, Nat.mul_one, Nat.add_zero, Nat.zero_add, List.take_length, List.drop_zero] at h6)
                        all_goals
                          refine Tree.Sat.ret ?_
                          exfalso
                          have hb := hB (by omega)
                          simp_all
                      · (try simp only [decide_eq_true_eq, decide_eq_false_iff_not, Bool.not_eq_true', Bool.not_eq_false', beq_iff_eq, beq_eq_false_iff_ne, Int.not_lt, Int.not_le, ge_iff_le, gt_iff_lt, ne_eq, Bool.false_eq_true, Bool.true_eq_false, not_true_eq_false, not_false_eq_true, Bool.and_eq_true, Bool.not_eq_eq_eq_not, Bool.not_true, Bool.not_false, bne_iff_ne, bne_eq_false_iff_eq, Int.toNat_natCast, Nat.mul_one, Nat.add_zero, Nat.zero_add, List.take_length, List.drop_zero] at h6)
                        all_goals
                          refine Tree.Sat.br (fun h7 => ?_) (fun h7 => ?_)
                          · (try simp only [decide_eq_true_eq, decide_eq_false_iff_not, Bool.not_eq_true', Bool.not_eq_false', beq_iff_eq, beq_eq_false_iff_ne, Int.not_lt, Int.not_le, ge_iff_le, gt_iff_lt, ne_eq, Bool.false_eq_true, Bool.true_eq_false, not_true_eq_false, not_false_eq_true, Bool.and_eq_true, Bool.not_eq_eq_eq_not, Bool.not_true, Bool.not_false, bne_iff_ne, bne_eq_false_iff_eq, Int.toNat_natCast, Nat.mul_one, Nat.add_zero, Nat.zero_add, List.take_length, List.drop_zero] at h7)
                            all_goals
                              refine Tree.Sat.ret ?_
                              exfalso
                              have hb := hB (by omega)
                              simp_all
                          · (try simp only [decide_eq_true_eq, decide_eq_false_iff_not, Bool.not_eq_true', Bool.not_eq_false', beq_iff_eq, beq_eq_false_iff_ne, Int.not_lt, Int.not_le, ge_iff_le, gt_iff_lt, ne_eq, Bool.false_eq_true, Bool.true_eq_false, not_true_eq_false, not_false_eq_true, Bool.and_eq_true, Bool.not_eq_eq_eq_not, Bool.not_true, Bool.not_false, bne_iff_ne, bne_eq_false_iff_eq, Int.toNat_natCast, Nat.mul_one, Nat.add_zero, Nat.zero_add, List.take_length, List.drop_zero] at h7)
                            all_goals
                              refine Tree.Sat.ret ?_
                              refine .norm ⟨k, zl, l, m, sign, i + 1⟩ ?_ ?_ ⟨?_, ?_⟩
                              · constructor <;> simp only [hdPackBack_0, AV.leL, AV.le, Mem.le, Mem.leP, Blk.le, Blk.pad, Data.le, Data.size, Cap.le, and_true, true_and, and_self, true_implies, implies_true, imp_self, List.length_nil] <;> (repeat' with_reducible refine And.intro ?_ ?_) <;> (try simp only [Int.toNat_natCast, Nat.mul_one, Nat.add_zero, Nat.zero_add]) <;> first | exact wadd1 (by omega) | omega
                              · simp only [muPackBack_0]; omega
                              · exact ⟨hs, hz, hw, hm, hm2, hp, by omega⟩
                              · exact hr
                  · (try simp only [decide_eq_true_eq, decide_eq_false_iff_not, Bool.not_eq_true', Bool.not_eq_false', beq_iff_eq, beq_eq_false_iff_ne, Int.not_lt, Int.not_le, ge_iff_le, gt_iff_lt, ne_eq, Bool.false_eq_true, Bool.true_eq_false, not_true_eq_false, not_false_eq_true, Bool.and_eq_true, Bool.not_eq_eq_eq_not, Bool.not_true, Bool.not_false, bne_iff_ne, bne_eq_false_iff_eq, Int.toNat_natCast, Nat.mul_one, Nat.add_zero, Nat.zero_add, List.take_length, List.drop_zero] at h5)
                    all_goals
                      exfalso
                      first | omega | (cases zl <;> simp_all; done) | (cases zl <;> simp_all <;> omega)
              · (try simp only [decide_eq_true_eq, decide_eq_false_iff_not, Bool.not_eq_true', Bool.not_eq_false', beq_iff_eq, beq_eq_false_iff_ne, Int.not_lt, Int.not_le, ge_iff_le, gt_iff_lt, ne_eq, Bool.false_eq_true, Bool.true_eq_false, not_true_eq_false, not_false_eq_true, Bool.and_eq_true, Bool.not_eq_eq_eq_not, Bool.not_true, Bool.not_false, bne_iff_ne, bne_eq_false_iff_eq, Int.toNat_natCast, Nat.mul_one, Nat.add_zero, Nat.zero_add, List.take_length, List.drop_zero] at h4)
                all_goals
                  exfalso
                  first | omega | (cases zl <;> simp_all; done) | (cases zl <;> simp_all <;> omega)
      · (try simp only [decide_eq_true_eq, decide_eq_false_iff_not, Bool.not_eq_true', Bool.not_eq_false', beq_iff_eq, beq_eq_false_iff_ne, Int.not_lt, Int.not_le, ge_iff_le, gt_iff_lt, ne_eq, Bool.false_eq_true, Bool.true_eq_false, not_true_eq_false, not_false_eq_true, Bool.and_eq_true, Bool.not_eq_eq_eq_not, Bool.not_true, Bool.not_false, bne_iff_ne, bne_eq_false_iff_eq, Int.toNat_natCast, Nat.mul_one, Nat.add_zero, Nat.zero_add, List.take_length, List.drop_zero] at h2)
        all_goals
          exfalso
          first | omega | (cases zl <;> simp_all; done) | (cases zl <;> simp_all <;> omega)
  · (try simp only [decide_eq_true_eq, decide_eq_false_iff_not, Bool.not_eq_true', Bool.not_eq_false', beq_iff_eq, beq_eq_false_iff_ne, Int.not_lt, Int.not_le, ge_iff_le, gt_iff_lt, ne_eq, Bool.false_eq_true, Bool.true_eq_false, not_true_eq_false, not_false_eq_true, Bool.and_eq_true, Bool.not_eq_eq_eq_not, Bool.not_true, Bool.not_false, bne_iff_ne, bne_eq_false_iff_eq, Int.toNat_natCast, Nat.mul_one, Nat.add_zero, Nat.zero_add, List.take_length, List.drop_zero] at h1)
    all_goals
      refine Tree.Sat.ret ?_
      have hq := hr
      simp only [Prod.mk.injEq] at hq
      obtain ⟨rfl, rfl⟩ := hq
      refine .exit rfl ?_
      constructor <;> simp only [AV.leL, AV.le, Mem.le, Mem.leP, Blk.le, Blk.pad, Data.le, Data.size, Cap.le, and_true, true_and, and_self, true_implies, implies_true, imp_self, List.length_nil] <;> (repeat' with_reducible refine And.intro ?_ ?_) <;> (try simp only [Int.toNat_natCast, Nat.mul_one, Nat.add_zero, Nat.zero_add]) <;> done
theorem loopPackBack_0 (hall : AllOk Try.prog 0 (fun _ => none) tab29) : LoopOk (mkL Try.prog 0 (fun _ => none) tab29 rowsPackBack) 6 1 (bodyAt Try.prog 6 0) := by
  have hkey : Code.key (bodyAt Try.prog 6 0) = 10 := by kernel_rfl
  have hin : loopsIn (bodyAt Try.prog 6 0) = [] := by kernel_rfl
  have hrow : lookL rowsPackBack 6 (Code.key (bodyAt Try.prog 6 0)) = some rowPackBack_0 := by rw [hkey]; rfl
  refine loop_rowP (X := XPackBack_0) (row := rowPackBack_0) hall mix hrow (fun b hb _ => by rw [hin] at hb; cases hb) UPackBack_0 hdPackBack_0 resPackBack_0 muPackBack_0 (fun st ex r h => ?_) (fun x ex r hr => ?_)
  · have h' : (ansPackBack_0 st).runs (ex, r) := h
    unfold ansPackBack_0 at h'
    split at h'
    · obtain ⟨q1, q2⟩ := Tree.chk_runs h'
      exact ⟨_, q1, q2⟩
    · exact h'.elim
  · obtain ⟨k, zl, l, m, sign, i⟩ := x
    have := stepPackBack_0 k zl l m sign i ex r hr.1 hr.2
    rw [← tLPackBack_0] at this
    exact this
theorem loopsPackBack (hall : AllOk Try.prog 0 (fun _ => none) tab29) : ∀ i, i < (loopsAt Try.prog 6).length → LoopOk (mkL Try.prog 0 (fun _ => none) tab29 rowsPackBack) 6 1 (bodyAt Try.prog 6 i) := by
  intro i hi
  have hlen : (loopsAt Try.prog 6).length = 1 := by kernel_rfl
  rw [hlen] at hi
  obtain rfl : i = 0 := by omega
  · exact loopPackBack_0 hall
set_option maxRecDepth 100000 in
theorem tPackBack (k : Int) (zl : Bool) (l : List Int) (sign : Bool) : evBody (mkL Try.prog 0 (fun _ => none) tab29 rowsPackBack) (evCall (mkC Try.prog 0 (fun _ => none) tab29) 50) 6 [.int .i64 false k, .sl zl ⟨0, 0, 0, 0⟩ false l.length .any, .bool false sign] [some ⟨3, false, false, true, .ints .i64 l⟩] =
  Tree.chk (True ∧ True)
    (Tree.br false (Tree.ret (AV.bool true false, [some (Blk.mk (3) false false true (Data.ints IntKind.i64 l))]))
      (Tree.br
        (decide ((0 : Int) ≤ (0 : Int) ∧ ((0 : Int) ≤ if (200 : Int) < ((List.length l) : Int) then (200 : Int) else ((List.length l) : Int)) ∧ (if (200 : Int) < ((List.length l) : Int) then (200 : Int) else ((List.length l) : Int)) ≤ ((List.length l) : Int)))
        (Tree.chk
          ((True ∧ 0 + (Int.toNat (if (200 : Int) < ((List.length l) : Int) then (200 : Int) else ((List.length l) : Int)) - Int.toNat (0 : Int)) ≤ List.length l ∧ True) ∧
            List.length (List.take (Int.toNat (if (200 : Int) < ((List.length l) : Int) then (200 : Int) else ((List.length l) : Int)) - Int.toNat (0 : Int)) (List.drop (0) l)) ≤ 100000 ∧
              wf64L (List.take (Int.toNat (if (200 : Int) < ((List.length l) : Int) then (200 : Int) else ((List.length l) : Int)) - Int.toNat (0 : Int)) (List.drop (0) l)) ∧
                (zl = true → List.take (Int.toNat (if (200 : Int) < ((List.length l) : Int) then (200 : Int) else ((List.length l) : Int)) - Int.toNat (0 : Int)) (List.drop (0) l) = []))
          (Tree.br sign
            (Tree.chk
              ((True ∧ 0 + (Int.toNat (if (200 : Int) < ((List.length l) : Int) then (200 : Int) else ((List.length l) : Int)) - Int.toNat (0 : Int)) ≤ List.length l ∧ True) ∧
                List.length (List.take (Int.toNat (if (200 : Int) < ((List.length l) : Int) then (200 : Int) else ((List.length l) : Int)) - Int.toNat (0 : Int)) (List.drop (0) l)) ≤ 100000 ∧
                  wf64L (List.take (Int.toNat (if (200 : Int) < ((List.length l) : Int) then (200 : Int) else ((List.length l) : Int)) - Int.toNat (0 : Int)) (List.drop (0) l)) ∧
                    (zl = true → List.take (Int.toNat (if (200 : Int) < ((List.length l) : Int) then (200 : Int) else ((List.length l) : Int)) - Int.toNat (0 : Int)) (List.drop (0) l) = []))
              (Tree.br (putE true k (List.take (Int.toNat (if (200 : Int) < ((List.length l) : Int) then (200 : Int) else ((List.length l) : Int)) - Int.toNat (0 : Int)) (List.drop (0) l)) != (0 : Int))
                (Tree.ret
                  (AV.bool false (((List.length (putL true k (List.take (Int.toNat (if (200 : Int) < ((List.length l) : Int) then (200 : Int) else ((List.length l) : Int)) - Int.toNat (0 : Int)) (List.drop (0) l)))) : Int) == (0 : Int)),
                    [some (Blk.mk (3) false false true (Data.ints IntKind.i64 l))]))
                (Tree.chk
                  (St.le
                    (St.mk
                      [AV.int IntKind.i64 false k,
                        AV.sl zl (Ref.mk (0) (0) (0) (0)) false (Int.toNat (if (200 : Int) < ((List.length l) : Int) then (200 : Int) else ((List.length l) : Int)) - Int.toNat (0 : Int)) Cap.any,
                        AV.bool false sign, AV.junk, AV.junk, AV.junk, AV.junk,
                        AV.sl (decide (putL true k (List.take (Int.toNat (if (200 : Int) < ((List.length l) : Int) then (200 : Int) else ((List.length l) : Int)) - Int.toNat (0 : Int)) (List.drop (0) l)) = []))
                          (Ref.mk (1) (0) (0) (0)) false
                          (List.length (putL true k (List.take (Int.toNat (if (200 : Int) < ((List.length l) : Int) then (200 : Int) else ((List.length l) : Int)) - Int.toNat (0 : Int)) (List.drop (0) l)))) Cap.own,
                        AV.junk, AV.int IntKind.i64 true (0 : Int), AV.junk, AV.junk, AV.junk, AV.junk, AV.junk, AV.junk, AV.junk, AV.junk, AV.junk, AV.junk, AV.junk, AV.junk, AV.junk, AV.junk, AV.junk, AV.junk, AV.junk, AV.junk, AV.junk,
                        AV.junk, AV.junk, AV.junk, AV.junk, AV.junk, AV.junk, AV.junk, AV.junk, AV.junk, AV.junk, AV.junk, AV.junk, AV.junk, AV.junk, AV.junk, AV.junk, AV.junk, AV.junk, AV.junk, AV.junk, AV.junk, AV.junk, AV.junk, AV.junk,
                        AV.junk, AV.junk, AV.junk, AV.junk, AV.junk, AV.junk, AV.junk, AV.junk, AV.junk, AV.junk, AV.junk, AV.junk, AV.junk, AV.junk, AV.junk, AV.junk, AV.junk, AV.junk, AV.junk, AV.junk, AV.junk, AV.junk, AV.junk, AV.junk,
                        AV.junk, AV.junk, AV.junk, AV.junk]
                      [some (Blk.mk (3) false false true (Data.ints IntKind.i64 l)),
                        some
                          (Blk.mk (3) true
                            (Decidable.rec (fun h => false) (fun h => true)
                              (List.instDecidableEqNil (putL true k (List.take (Int.toNat (if (200 : Int) < ((List.length l) : Int) then (200 : Int) else ((List.length l) : Int)) - Int.toNat (0 : Int)) (List.drop (0) l)))))
                            true (Data.ints IntKind.i64 (putL true k (List.take (Int.toNat (if (200 : Int) < ((List.length l) : Int) then (200 : Int) else ((List.length l) : Int)) - Int.toNat (0 : Int)) (List.drop (0) l)))))])
                    (St.mk
                      [AV.int IntKind.i64 false k,
                        AV.sl zl (Ref.mk (0) (0) (0) (0)) false (Int.toNat (if (200 : Int) < ((List.length l) : Int) then (200 : Int) else ((List.length l) : Int)) - Int.toNat (0 : Int)) Cap.any,
                        AV.bool false sign, AV.junk, AV.junk, AV.junk, AV.junk,
                        AV.sl (decide (putL sign k (List.take (Int.toNat (if (200 : Int) < ((List.length l) : Int) then (200 : Int) else ((List.length l) : Int)) - Int.toNat (0 : Int)) l) = []))
                          (Ref.mk (1) (0) (0) (0)) false
                          (List.length (putL sign k (List.take (Int.toNat (if (200 : Int) < ((List.length l) : Int) then (200 : Int) else ((List.length l) : Int)) - Int.toNat (0 : Int)) l))) Cap.any,
                        AV.junk, AV.int IntKind.i64 false (0 : Int), AV.junk, AV.junk, AV.junk, AV.junk, AV.junk, AV.junk, AV.junk, AV.junk, AV.junk, AV.junk, AV.junk, AV.junk, AV.junk, AV.junk, AV.junk, AV.junk, AV.junk, AV.junk, AV.junk,
                        AV.junk, AV.junk, AV.junk, AV.junk, AV.junk, AV.junk, AV.junk, AV.junk, AV.junk, AV.junk, AV.junk, AV.junk, AV.junk, AV.junk, AV.junk, AV.junk, AV.junk, AV.junk, AV.junk, AV.junk, AV.junk, AV.junk, AV.junk, AV.junk,
                        AV.junk, AV.junk, AV.junk, AV.junk, AV.junk, AV.junk, AV.junk, AV.junk, AV.junk, AV.junk, AV.junk, AV.junk, AV.junk, AV.junk, AV.junk, AV.junk, AV.junk, AV.junk, AV.junk, AV.junk, AV.junk, AV.junk, AV.junk, AV.junk,
                        AV.junk, AV.junk, AV.junk, AV.junk]
                      [some (Blk.mk (3) false false true (Data.ints IntKind.i64 l)),
                        some
                          (Blk.mk (3) true (decide (putL sign k (List.take (Int.toNat (if (200 : Int) < ((List.length l) : Int) then (200 : Int) else ((List.length l) : Int)) - Int.toNat (0 : Int)) l) = [])) true
                            (Data.ints IntKind.i64 (putL sign k (List.take (Int.toNat (if (200 : Int) < ((List.length l) : Int) then (200 : Int) else ((List.length l) : Int)) - Int.toNat (0 : Int)) l))))]))
                  (Tree.chk (okPackBack_0 (XPackBack_0.mk k zl l (Int.toNat (if (200 : Int) < ((List.length l) : Int) then (200 : Int) else ((List.length l) : Int)) - Int.toNat (0 : Int)) sign (Int.toNat (0 : Int))))
                    (Tree.ret
                      (AV.bool false
                          (((List.length (putL sign k (List.take (Int.toNat (if (200 : Int) < ((List.length l) : Int) then (200 : Int) else ((List.length l) : Int)) - Int.toNat (0 : Int)) l))) : Int) ==
                            IntKind.wrap IntKind.i64 (k * ((Int.toNat (if (200 : Int) < ((List.length l) : Int) then (200 : Int) else ((List.length l) : Int)) - Int.toNat (0 : Int)) : Int))),
                        [some (Blk.mk (3) false false true (Data.ints IntKind.i64 l))]))))))
            (Tree.br (putE false k (List.take (Int.toNat (if (200 : Int) < ((List.length l) : Int) then (200 : Int) else ((List.length l) : Int)) - Int.toNat (0 : Int)) (List.drop (0) l)) != (0 : Int))
              (Tree.ret
                (AV.bool false (((List.length (putL false k (List.take (Int.toNat (if (200 : Int) < ((List.length l) : Int) then (200 : Int) else ((List.length l) : Int)) - Int.toNat (0 : Int)) (List.drop (0) l)))) : Int) == (0 : Int)),
                  [some (Blk.mk (3) false false true (Data.ints IntKind.i64 l))]))
              (Tree.chk
                (St.le
                  (St.mk
                    [AV.int IntKind.i64 false k,
                      AV.sl zl (Ref.mk (0) (0) (0) (0)) false (Int.toNat (if (200 : Int) < ((List.length l) : Int) then (200 : Int) else ((List.length l) : Int)) - Int.toNat (0 : Int)) Cap.any,
                      AV.bool false sign, AV.junk, AV.junk, AV.junk, AV.junk,
                      AV.sl (decide (putL false k (List.take (Int.toNat (if (200 : Int) < ((List.length l) : Int) then (200 : Int) else ((List.length l) : Int)) - Int.toNat (0 : Int)) (List.drop (0) l)) = []))
                        (Ref.mk (1) (0) (0) (0)) false
                        (List.length (putL false k (List.take (Int.toNat (if (200 : Int) < ((List.length l) : Int) then (200 : Int) else ((List.length l) : Int)) - Int.toNat (0 : Int)) (List.drop (0) l)))) Cap.own,
                      AV.junk, AV.int IntKind.i64 true (0 : Int), AV.junk, AV.junk, AV.junk, AV.junk, AV.junk, AV.junk, AV.junk, AV.junk, AV.junk, AV.junk, AV.junk, AV.junk, AV.junk, AV.junk, AV.junk, AV.junk, AV.junk, AV.junk, AV.junk,
                      AV.junk, AV.junk, AV.junk, AV.junk, AV.junk, AV.junk, AV.junk, AV.junk, AV.junk, AV.junk, AV.junk, AV.junk, AV.junk, AV.junk, AV.junk, AV.junk, AV.junk, AV.junk, AV.junk, AV.junk, AV.junk, AV.junk, AV.junk, AV.junk,
                      AV.junk, AV.junk, AV.junk, AV.junk, AV.junk, AV.junk, AV.junk, AV.junk, AV.junk, AV.junk, AV.junk, AV.junk, AV.junk, AV.junk, AV.junk, AV.junk, AV.junk, AV.junk, AV.junk, AV.junk, AV.junk, AV.junk, AV.junk, AV.junk,
                      AV.junk, AV.junk, AV.junk, AV.junk]
                    [some (Blk.mk (3) false false true (Data.ints IntKind.i64 l)),
                      some
                        (Blk.mk (3) true
                          (Decidable.rec (fun h => false) (fun h => true)
                            (List.instDecidableEqNil (putL false k (List.take (Int.toNat (if (200 : Int) < ((List.length l) : Int) then (200 : Int) else ((List.length l) : Int)) - Int.toNat (0 : Int)) (List.drop (0) l)))))
                          true (Data.ints IntKind.i64 (putL false k (List.take (Int.toNat (if (200 : Int) < ((List.length l) : Int) then (200 : Int) else ((List.length l) : Int)) - Int.toNat (0 : Int)) (List.drop (0) l)))))])
                  (St.mk
                    [AV.int IntKind.i64 false k,
                      AV.sl zl (Ref.mk (0) (0) (0) (0)) false (Int.toNat (if (200 : Int) < ((List.length l) : Int) then (200 : Int) else ((List.length l) : Int)) - Int.toNat (0 : Int)) Cap.any,
                      AV.bool false sign, AV.junk, AV.junk, AV.junk, AV.junk,
                      AV.sl (decide (putL sign k (List.take (Int.toNat (if (200 : Int) < ((List.length l) : Int) then (200 : Int) else ((List.length l) : Int)) - Int.toNat (0 : Int)) l) = []))
                        (Ref.mk (1) (0) (0) (0)) false
                        (List.length (putL sign k (List.take (Int.toNat (if (200 : Int) < ((List.length l) : Int) then (200 : Int) else ((List.length l) : Int)) - Int.toNat (0 : Int)) l))) Cap.any,
                      AV.junk, AV.int IntKind.i64 false (0 : Int), AV.junk, AV.junk, AV.junk, AV.junk, AV.junk, AV.junk, AV.junk, AV.junk, AV.junk, AV.junk, AV.junk, AV.junk, AV.junk, AV.junk, AV.junk, AV.junk, AV.junk, AV.junk, AV.junk,
                      AV.junk, AV.junk, AV.junk, AV.junk, AV.junk, AV.junk, AV.junk, AV.junk, AV.junk, AV.junk, AV.junk, AV.junk, AV.junk, AV.junk, AV.junk, AV.junk, AV.junk, AV.junk, AV.junk, AV.junk, AV.junk, AV.junk, AV.junk, AV.junk,
                      AV.junk, AV.junk, AV.junk, AV.junk, AV.junk, AV.junk, AV.junk, AV.junk, AV.junk, AV.junk, AV.junk, AV.junk, AV.junk, AV.junk, AV.junk, AV.junk, AV.junk, AV.junk, AV.junk, AV.junk, AV.junk, AV.junk, AV.junk, AV.junk,
                      AV.junk, AV.junk, AV.junk, AV.junk]
                    [some (Blk.mk (3) false false true (Data.ints IntKind.i64 l)),
                      some
                        (Blk.mk (3) true (decide (putL sign k (List.take (Int.toNat (if (200 : Int) < ((List.length l) : Int) then (200 : Int) else ((List.length l) : Int)) - Int.toNat (0 : Int)) l) = [])) true
                          (Data.ints IntKind.i64 (putL sign k (List.take (Int.toNat (if (200 : Int) < ((List.length l) : Int) then (200 : Int) else ((List.length l) : Int)) - Int.toNat (0 : Int)) l))))]))
                (Tree.chk (okPackBack_0 (XPackBack_0.mk k zl l (Int.toNat (if (200 : Int) < ((List.length l) : Int) then (200 : Int) else ((List.length l) : Int)) - Int.toNat (0 : Int)) sign (Int.toNat (0 : Int))))
                  (Tree.ret
                    (AV.bool false
                        (((List.length (putL sign k (List.take (Int.toNat (if (200 : Int) < ((List.length l) : Int) then (200 : Int) else ((List.length l) : Int)) - Int.toNat (0 : Int)) l))) : Int) ==
                          IntKind.wrap IntKind.i64 (k * ((Int.toNat (if (200 : Int) < ((List.length l) : Int) then (200 : Int) else ((List.length l) : Int)) - Int.toNat (0 : Int)) : Int))),
                      [some (Blk.mk (3) false false true (Data.ints IntKind.i64 l))])))))))
        Tree.fail)) := by kernel_rfl
set_option maxRecDepth 100000 in
theorem gPackBack (k : Int) (zl : Bool) (l : List Int) (sign : Bool) (hw : l.length ≤ 9223372036854775807 ∧ (zl = true → l = []) ∧ wf64L l) : (Tree.chk (True ∧ True)
    (Tree.br false (Tree.ret (AV.bool true false, [some (Blk.mk (3) false false true (Data.ints IntKind.i64 l))]))
      (Tree.br
        (decide ((0 : Int) ≤ (0 : Int) ∧ ((0 : Int) ≤ if (200 : Int) < ((List.length l) : Int) then (200 : Int) else ((List.length l) : Int)) ∧ (if (200 : Int) < ((List.length l) : Int) then (200 : Int) else ((List.length l) : Int)) ≤ ((List.length l) : Int)))
        (Tree.chk
          ((True ∧ 0 + (Int.toNat (if (200 : Int) < ((List.length l) : Int) then (200 : Int) else ((List.length l) : Int)) - Int.toNat (0 : Int)) ≤ List.length l ∧ True) ∧
            List.length (List.take (Int.toNat (if (200 : Int) < ((List.length l) : Int) then (200 : Int) else ((List.length l) : Int)) - Int.toNat (0 : Int)) (List.drop (0) l)) ≤ 100000 ∧
              wf64L (List.take (Int.toNat (if (200 : Int) < ((List.length l) : Int) then (200 : Int) else ((List.length l) : Int)) - Int.toNat (0 : Int)) (List.drop (0) l)) ∧
                (zl = true → List.take (Int.toNat (if (200 : Int) < ((List.length l) : Int) then (200 : Int) else ((List.length l) : Int)) - Int.toNat (0 : Int)) (List.drop (0) l) = []))
          (Tree.br sign
            (Tree.chk
              ((True ∧ 0 + (Int.toNat (if (200 : Int) < ((List.length l) : Int) then (200 : Int) else ((List.length l) : Int)) - Int.toNat (0 : Int)) ≤ List.length l ∧ True) ∧
                List.length (List.take (Int.toNat (if (200 : Int) < ((List.length l) : Int) then (200 : Int) else ((List.length l) : Int)) - Int.toNat (0 : Int)) (List.drop (0) l)) ≤ 100000 ∧
                  wf64L (List.take (Int.toNat (if (200 : Int) < ((List.length l) : Int) then (200 : Int) else ((List.length l) : Int)) - Int.toNat (0 : Int)) (List.drop (0) l)) ∧
                    (zl = true → List.take (Int.toNat (if (200 : Int) < ((List.length l) : Int) then (200 : Int) else ((List.length l) : Int)) - Int.toNat (0 : Int)) (List.drop (0) l) = []))
              (Tree.br (putE true k (List.take (Int.toNat (if (200 : Int) < ((List.length l) : Int) then (200 : Int) else ((List.length l) : Int)) - Int.toNat (0 : Int)) (List.drop (0) l)) != (0 : Int))
                (Tree.ret
                  (AV.bool false (((List.length (putL true k (List.take (Int.toNat (if (200 : Int) < ((List.length l) : Int) then (200 : Int) else ((List.length l) : Int)) - Int.toNat (0 : Int)) (List.drop (0) l)))) : Int) == (0 : Int)),
                    [some (Blk.mk (3) false false true (Data.ints IntKind.i64 l))]))
                (Tree.chk
                  (St.le
                    (St.mk
                      [AV.int IntKind.i64 false k,
                        AV.sl zl (Ref.mk (0) (0) (0) (0)) false (Int.toNat (if (200 : Int) < ((List.length l) : Int) then (200 : Int) else ((List.length l) : Int)) - Int.toNat (0 : Int)) Cap.any,
                        AV.bool false sign, AV.junk, AV.junk, AV.junk, AV.junk,
                        AV.sl (decide (putL true k (List.take (Int.toNat (if (200 : Int) < ((List.length l) : Int) then (200 : Int) else ((List.length l) : Int)) - Int.toNat (0 : Int)) (List.drop (0) l)) = []))
                          (Ref.mk (1) (0) (0) (0)) false
                          (List.length (putL true k (List.take (Int.toNat (if (200 : Int) < ((List.length l) : Int) then (200 : Int) else ((List.length l) : Int)) - Int.toNat (0 : Int)) (List.drop (0) l)))) Cap.own,
                        AV.junk, AV.int IntKind.i64 true (0 : Int), AV.junk, AV.junk, AV.junk, AV.junk, AV.junk, AV.junk, AV.junk, AV.junk, AV.junk, AV.junk, AV.junk, AV.junk, AV.junk, AV.junk, AV.junk, AV.junk, AV.junk, AV.junk, AV.junk,
                        AV.junk, AV.junk, AV.junk, AV.junk, AV.junk, AV.junk, AV.junk, AV.junk, AV.junk, AV.junk, AV.junk, AV.junk, AV.junk, AV.junk, AV.junk, AV.junk, AV.junk, AV.junk, AV.junk, AV.junk, AV.junk, AV.junk, AV.junk, AV.junk,
                        AV.junk, AV.junk, AV.junk, AV.junk, AV.junk, AV.junk, AV.junk, AV.junk, AV.junk, AV.junk, AV.junk, AV.junk, AV.junk, AV.junk, AV.junk, AV.junk, AV.junk, AV.junk, AV.junk, AV.junk, AV.junk, AV.junk, AV.junk, AV.junk,
                        AV.junk, AV.junk, AV.junk, AV.junk]
                      [some (Blk.mk (3) false false true (Data.ints IntKind.i64 l)),
                        some
                          (Blk.mk (3) true
                            (Decidable.rec (fun h => false) (fun h => true)
                              (List.instDecidableEqNil (putL true k (List.take (Int.toNat (if (200 : Int) < ((List.length l) : Int) then (200 : Int) else ((List.length l) : Int)) - Int.toNat (0 : Int)) (List.drop (0) l)))))
                            true (Data.ints IntKind.i64 (putL true k (List.take (Int.toNat (if (200 : Int) < ((List.length l) : Int) then (200 : Int) else ((List.length l) : Int)) - Int.toNat (0 : Int)) (List.drop (0) l)))))])
                    (St.mk
                      [AV.int IntKind.i64 false k,
                        AV.sl zl (Ref.mk (0) (0) (0) (0)) false (Int.toNat (if (200 : Int) < ((List.length l) : Int) then (200 : Int) else ((List.length l) : Int)) - Int.toNat (0 : Int)) Cap.any,
                        AV.bool false sign, AV.junk, AV.junk, AV.junk, AV.junk,
                        AV.sl (decide (putL sign k (List.take (Int.toNat (if (200 : Int) < ((List.length l) : Int) then (200 : Int) else ((List.length l) : Int)) - Int.toNat (0 : Int)) l) = []))
                          (Ref.mk (1) (0) (0) (0)) false
                          (List.length (putL sign k (List.take (Int.toNat (if (200 : Int) < ((List.length l) : Int) then (200 : Int) else ((List.length l) : Int)) - Int.toNat (0 : Int)) l))) Cap.any,
                        AV.junk, AV.int IntKind.i64 false (0 : Int), AV.junk, AV.junk, AV.junk, AV.junk, AV.junk, AV.junk, AV.junk, AV.junk, AV.junk, AV.junk, AV.junk, AV.junk, AV.junk, AV.junk, AV.junk, AV.junk, AV.junk, AV.junk, AV.junk,
                        AV.junk, AV.junk, AV.junk, AV.junk, AV.junk, AV.junk, AV.junk, AV.junk, AV.junk, AV.junk, AV.junk, AV.junk, AV.junk, AV.junk, AV.junk, AV.junk, AV.junk, AV.junk, AV.junk, AV.junk, AV.junk, AV.junk, AV.junk, AV.junk,
                        AV.junk, AV.junk, AV.junk, AV.junk, AV.junk, AV.junk, AV.junk, AV.junk, AV.junk, AV.junk, AV.junk, AV.junk, AV.junk, AV.junk, AV.junk, AV.junk, AV.junk, AV.junk, AV.junk, AV.junk, AV.junk, AV.junk, AV.junk, AV.junk,
                        AV.junk, AV.junk, AV.junk, AV.junk]
                      [some (Blk.mk (3) false false true (Data.ints IntKind.i64 l)),
                        some
                          (Blk.mk (3) true (decide (putL sign k (List.take (Int.toNat (if (200 : Int) < ((List.length l) : Int) then (200 : Int) else ((List.length l) : Int)) - Int.toNat (0 : Int)) l) = [])) true
                            (Data.ints IntKind.i64 (putL sign k (List.take (Int.toNat (if (200 : Int) < ((List.length l) : Int) then (200 : Int) else ((List.length l) : Int)) - Int.toNat (0 : Int)) l))))]))
                  (Tree.chk (okPackBack_0 (XPackBack_0.mk k zl l (Int.toNat (if (200 : Int) < ((List.length l) : Int) then (200 : Int) else ((List.length l) : Int)) - Int.toNat (0 : Int)) sign (Int.toNat (0 : Int))))
                    (Tree.ret
                      (AV.bool false
                          (((List.length (putL sign k (List.take (Int.toNat (if (200 : Int) < ((List.length l) : Int) then (200 : Int) else ((List.length l) : Int)) - Int.toNat (0 : Int)) l))) : Int) ==
                            IntKind.wrap IntKind.i64 (k * ((Int.toNat (if (200 : Int) < ((List.length l) : Int) then (200 : Int) else ((List.length l) : Int)) - Int.toNat (0 : Int)) : Int))),
                        [some (Blk.mk (3) false false true (Data.ints IntKind.i64 l))]))))))
            (Tree.br (putE false k (List.take (Int.toNat (if (200 : Int) < ((List.length l) : Int) then (200 : Int) else ((List.length l) : Int)) - Int.toNat (0 : Int)) (List.drop (0) l)) != (0 : Int))
              (Tree.ret
                (AV.bool false (((List.length (putL false k (List.take (Int.toNat (if (200 : Int) < ((List.length l) : Int) then (200 : Int) else ((List.length l) : Int)) - Int.toNat (0 : Int)) (List.drop (0) l)))) : Int) == (0 : Int)),
                  [some (Blk.mk (3) false false true (Data.ints IntKind.i64 l))]))
              (Tree.chk
                (St.le
                  (St.mk
                    [AV.int IntKind.i64 false k,
                      AV.sl zl (Ref.mk (0) (0) (0) (0)) false (Int.toNat (if (200 : Int) < ((List.length l) : Int) then (200 : Int) else ((List.length l) : Int)) - Int.toNat (0 : Int)) Cap.any,
                      AV.bool false sign, AV.junk, AV.junk, AV.junk, AV.junk,
                      AV.sl (decide (putL false k (List.take (Int.toNat (if (200 : Int) < ((List.length l) : Int) then (200 : Int) else ((List.length l) : Int)) - Int.toNat (0 : Int)) (List.drop (0) l)) = []))
                        (Ref.mk (1) (0) (0) (0)) false
                        (List.length (putL false k (List.take (Int.toNat (if (200 : Int) < ((List.length l) : Int) then (200 : Int) else ((List.length l) : Int)) - Int.toNat (0 : Int)) (List.drop (0) l)))) Cap.own,
                      AV.junk, AV.int IntKind.i64 true (0 : Int), AV.junk, AV.junk, AV.junk, AV.junk, AV.junk, AV.junk, AV.junk, AV.junk, AV.junk, AV.junk, AV.junk, AV.junk, AV.junk, AV.junk, AV.junk, AV.junk, AV.junk, AV.junk, AV.junk,
                      AV.junk, AV.junk, AV.junk, AV.junk, AV.junk, AV.junk, AV.junk, AV.junk, AV.junk, AV.junk, AV.junk, AV.junk, AV.junk, AV.junk, AV.junk, AV.junk, AV.junk, AV.junk, AV.junk, AV.junk, AV.junk, AV.junk, AV.junk, AV.junk,
                      AV.junk, AV.junk, AV.junk, AV.junk, AV.junk, AV.junk, AV.junk, AV.junk, AV.junk, AV.junk, AV.junk, AV.junk, AV.junk, AV.junk, AV.junk, AV.junk, AV.junk, AV.junk, AV.junk, AV.junk, AV.junk, AV.junk, AV.junk, AV.junk,
                      AV.junk, AV.junk, AV.junk, AV.junk]
                    [some (Blk.mk (3) false false true (Data.ints IntKind.i64 l)),
                      some
                        (Blk.mk (3) true
                          (Decidable.rec (fun h => false) (fun h => true)
                            (List.instDecidableEqNil (putL false k (List.take (Int.toNat (if (200 : Int) < ((List.length l) : Int) then (200 : Int) else ((List.length l) : Int)) - Int.toNat (0 : Int)) (List.drop (0) l)))))
                          true (Data.ints IntKind.i64 (putL false k (List.take (Int.toNat (if (200 : Int) < ((List.length l) : Int) then (200 : Int) else ((List.length l) : Int)) - Int.toNat (0 : Int)) (List.drop (0) l)))))])
                  (St.mk
                    [AV.int IntKind.i64 false k,
                      AV.sl zl (Ref.mk (0) (0) (0) (0)) false (Int.toNat (if (200 : Int) < ((List.length l) : Int) then (200 : Int) else ((List.length l) : Int)) - Int.toNat (0 : Int)) Cap.any,
                      AV.bool false sign, AV.junk, AV.junk, AV.junk, AV.junk,
                      AV.sl (decide (putL sign k (List.take (Int.toNat (if (200 : Int) < ((List.length l) : Int) then (200 : Int) else ((List.length l) : Int)) - Int.toNat (0 : Int)) l) = []))
                        (Ref.mk (1) (0) (0) (0)) false
                        (List.length (putL sign k (List.take (Int.toNat (if (200 : Int) < ((List.length l) : Int) then (200 : Int) else ((List.length l) : Int)) - Int.toNat (0 : Int)) l))) Cap.any,
                      AV.junk, AV.int IntKind.i64 false (0 : Int), AV.junk, AV.junk, AV.junk, AV.junk, AV.junk, AV.junk, AV.junk, AV.junk, AV.junk, AV.junk, AV.junk, AV.junk, AV.junk, AV.junk, AV.junk, AV.junk, AV.junk, AV.junk, AV.junk,
                      AV.junk, AV.junk, AV.junk, AV.junk, AV.junk, AV.junk, AV.junk, AV.junk, AV.junk, AV.junk, AV.junk, AV.junk, AV.junk, AV.junk, AV.junk, AV.junk, AV.junk, AV.junk, AV.junk, AV.junk, AV.junk, AV.junk, AV.junk, AV.junk,
                      AV.junk, AV.junk, AV.junk, AV.junk, AV.junk, AV.junk, AV.junk, AV.junk, AV.junk, AV.junk, AV.junk, AV.junk, AV.junk, AV.junk, AV.junk, AV.junk, AV.junk, AV.junk, AV.junk, AV.junk, AV.junk, AV.junk, AV.junk, AV.junk,
                      AV.junk, AV.junk, AV.junk, AV.junk]
                    [some (Blk.mk (3) false false true (Data.ints IntKind.i64 l)),
                      some
                        (Blk.mk (3) true (decide (putL sign k (List.take (Int.toNat (if (200 : Int) < ((List.length l) : Int) then (200 : Int) else ((List.length l) : Int)) - Int.toNat (0 : Int)) l) = [])) true
                          (Data.ints IntKind.i64 (putL sign k (List.take (Int.toNat (if (200 : Int) < ((List.length l) : Int) then (200 : Int) else ((List.length l) : Int)) - Int.toNat (0 : Int)) l))))]))
                (Tree.chk (okPackBack_0 (XPackBack_0.mk k zl l (Int.toNat (if (200 : Int) < ((List.length l) : Int) then (200 : Int) else ((List.length l) : Int)) - Int.toNat (0 : Int)) sign (Int.toNat (0 : Int))))
                  (Tree.ret
                    (AV.bool false
                        (((List.length (putL sign k (List.take (Int.toNat (if (200 : Int) < ((List.length l) : Int) then (200 : Int) else ((List.length l) : Int)) - Int.toNat (0 : Int)) l))) : Int) ==
                          IntKind.wrap IntKind.i64 (k * ((Int.toNat (if (200 : Int) < ((List.length l) : Int) then (200 : Int) else ((List.length l) : Int)) - Int.toNat (0 : Int)) : Int))),
                      [some (Blk.mk (3) false false true (Data.ints IntKind.i64 l))])))))))
        Tree.fail)) : Tree (AV × Mem)).GivesP (.bool false true) ([some ⟨3, false, false, true, .ints .i64 l⟩]) := by
  obtain ⟨hs, hz, hw⟩ := hw
  have hm : (if (200 : Int) < (l.length : Int) then (200 : Int) else (l.length : Int)).toNat - Int.toNat 0 ≤ l.length ∧ (if (200 : Int) < (l.length : Int) then (200 : Int) else (l.length : Int)).toNat - Int.toNat 0 ≤ 200 := by split <;> simp <;> omega
  have hm0 : (0 : Int) ≤ (0 : Int) ∧ ((0 : Int) ≤ if (200 : Int) < (l.length : Int) then (200 : Int) else (l.length : Int)) ∧ (if (200 : Int) < (l.length : Int) then (200 : Int) else (l.length : Int)) ≤ (l.length : Int) := by split <;> omega
  simp only [List.drop_zero]
  generalize hq : (if (200 : Int) < (l.length : Int) then (200 : Int) else (l.length : Int)) = q at *
  generalize hM : q.toNat - Int.toNat 0 = m at *
  have hLl : (l.take m).length = m := by rw [List.length_take]; omega
  have hLw : wf64L (l.take m) := fun n hn => hw n (List.mem_of_mem_take hn)
  have hLz : zl = true → l.take m = [] := fun h => by rw [hz h]; simp
  refine Tree.GivesP.chk (by first | (simp only [and_self]; done) | ((repeat' with_reducible refine And.intro ?_ ?_) <;> first | trivial | omega | (simp only [short]; omega) | (intro hh; cases hh))) ?_
  refine Tree.GivesP.br (fun h1 => ?_) (fun h1 => ?_)
  · (try simp only [decide_eq_true_eq, decide_eq_false_iff_not, Bool.not_eq_true', Bool.not_eq_false', beq_iff_eq, beq_eq_false_iff_ne, Int.not_lt, Int.not_le, ge_iff_le, gt_iff_lt, ne_eq, Bool.false_eq_true, Bool.true_eq_false, not_true_eq_false, not_false_eq_true, Bool.and_eq_true, Bool.not_eq_eq_eq_not, Bool.not_true, Bool.not_false, bne_iff_ne, bne_eq_false_iff_eq, Int.toNat_natCast, Nat.mul_one, Nat.add_zero, Nat.zero_add, List.take_length, List.drop_zero] at h1)
    all_goals
      refine Tree.GivesP.ret ?_ ?_
      all_goals (exfalso; simp_all)
  · (try simp only [decide_eq_true_eq, decide_eq_false_iff_not, Bool.not_eq_true', Bool.not_eq_false', beq_iff_eq, beq_eq_false_iff_ne, Int.not_lt, Int.not_le, ge_iff_le, gt_iff_lt, ne_eq, Bool.false_eq_true, Bool.true_eq_false, not_true_eq_false, not_false_eq_true, Bool.and_eq_true, Bool.not_eq_eq_eq_not, Bool.not_true, Bool.not_false, bne_iff_ne, bne_eq_false_iff_eq, Int.toNat_natCast, Nat.mul_one, Nat.add_zero, Nat.zero_add, List.take_length, List.drop_zero] at h1)
    all_goals
      refine Tree.GivesP.br (fun h2 => ?_) (fun h2 => ?_)
      · (try simp only [decide_eq_true_eq, decide_eq_false_iff_not, Bool.not_eq_true', Bool.not_eq_false', beq_iff_eq, beq_eq_false_iff_ne, Int.not_lt, Int.not_le, ge_iff_le, gt_iff_lt, ne_eq, Bool.false_eq_true, Bool.true_eq_false, not_true_eq_false, not_false_eq_true, Bool.and_eq_true, Bool.not_eq_eq_eq_not, Bool.not_true, Bool.not_false, bne_iff_ne, bne_eq_false_iff_eq, Int.toNat_natCast, Nat.mul_one, Nat.add_zero, Nat.zero_add, List.take_length, List.drop_zero] at h2)
        all_goals
          refine Tree.GivesP.chk (by first | (simp only [and_self]; done) | ((repeat' with_reducible refine And.intro ?_ ?_) <;> first | trivial | omega | exact hLw | exact hLz | (simp only [short]; omega) | (intro hh; first | cases hh | exact hLz hh | simpa using hh | (simp at hh; simp [putL, hh]; done) | (simp at hh; simp [hh])))) ?_
          refine Tree.GivesP.br (fun h3 => ?_) (fun h3 => ?_)
          · (try simp only [decide_eq_true_eq, decide_eq_false_iff_not, Bool.not_eq_true', Bool.not_eq_false', beq_iff_eq, beq_eq_false_iff_ne, Int.not_lt, Int.not_le, ge_iff_le, gt_iff_lt, ne_eq, Bool.false_eq_true, Bool.true_eq_false, not_true_eq_false, not_false_eq_true, Bool.and_eq_true, Bool.not_eq_eq_eq_not, Bool.not_true, Bool.not_false, bne_iff_ne, bne_eq_false_iff_eq, Int.toNat_natCast, Nat.mul_one, Nat.add_zero, Nat.zero_add, List.take_length, List.drop_zero] at h3)
            all_goals
              refine Tree.GivesP.chk (by first | (simp only [and_self]; done) | ((repeat' with_reducible refine And.intro ?_ ?_) <;> first | trivial | omega | exact hLw | exact hLz | (simp only [short]; omega) | (intro hh; first | cases hh | exact hLz hh | simpa using hh | (simp at hh; simp [putL, hh]; done) | (simp at hh; simp [hh])))) ?_
              refine Tree.GivesP.br (fun h4 => ?_) (fun h4 => ?_)
              · (try simp only [decide_eq_true_eq, decide_eq_false_iff_not, Bool.not_eq_true', Bool.not_eq_false', beq_iff_eq, beq_eq_false_iff_ne, Int.not_lt, Int.not_le, ge_iff_le, gt_iff_lt, ne_eq, Bool.false_eq_true, Bool.true_eq_false, not_true_eq_false, not_false_eq_true, Bool.and_eq_true, Bool.not_eq_eq_eq_not, Bool.not_true, Bool.not_false, bne_iff_ne, bne_eq_false_iff_eq, Int.toNat_natCast, Nat.mul_one, Nat.add_zero, Nat.zero_add, List.take_length, List.drop_zero] at h4)
                all_goals
                  refine Tree.GivesP.ret ?_ ?_
                  · have e := putE_bad h4
                    simp only [AV.le, e, List.length_nil]; first | done | rfl | decide
                  · simp only [AV.leL, AV.le, Mem.le, Mem.leP, Blk.le, Blk.pad, Data.le, Data.size, Cap.le, and_true, true_and, and_self, true_implies, implies_true, imp_self, List.length_nil]
              · (try simp only [decide_eq_true_eq, decide_eq_false_iff_not, Bool.not_eq_true', Bool.not_eq_false', beq_iff_eq, beq_eq_false_iff_ne, Int.not_lt, Int.not_le, ge_iff_le, gt_iff_lt, ne_eq, Bool.false_eq_true, Bool.true_eq_false, not_true_eq_false, not_false_eq_true, Bool.and_eq_true, Bool.not_eq_eq_eq_not, Bool.not_true, Bool.not_false, bne_iff_ne, bne_eq_false_iff_eq, Int.toNat_natCast, Nat.mul_one, Nat.add_zero, Nat.zero_add, List.take_length, List.drop_zero] at h4)
                all_goals
                  refine Tree.GivesP.chk (by first | (simp only [and_self]; done) | (subst h3; constructor <;> simp only [hdPackBack_0, Int.toNat_zero, Int.cast_ofNat_Int, AV.leL, AV.le, Mem.le, Mem.leP, Blk.le, Blk.pad, Data.le, Data.size, Cap.le, and_true, true_and, and_self, true_implies, implies_true, imp_self, List.length_nil] <;> (try simp only [List.take_zero]) <;> (try rfl))) ?_
                  refine Tree.GivesP.chk (by first | (simp only [and_self]; done) | (subst h3; exact ⟨hs, hz, hw, hm.1, hm.2, putE_ok h4, Nat.zero_le _⟩)) ?_
                  refine Tree.GivesP.ret ?_ ?_
                  · subst h3
                    have e := putOk_k (putE_ok (by assumption))
                    rw [hLl] at e
                    have hM2 : ((q.toNat : Int) - (Int.toNat 0 : Int)) = (m : Int) := by omega
                    simp only [AV.le, e.2, hM2, (wmul e.1.1 e.1.2 hm.2).2.1, beq_self_eq_true]
                  · simp only [AV.leL, AV.le, Mem.le, Mem.leP, Blk.le, Blk.pad, Data.le, Data.size, Cap.le, and_true, true_and, and_self, true_implies, implies_true, imp_self, List.length_nil]
          · (try simp only [decide_eq_true_eq, decide_eq_false_iff_not, Bool.not_eq_true', Bool.not_eq_false', beq_iff_eq, beq_eq_false_iff_ne, Int.not_lt, Int.not_le, ge_iff_le, gt_iff_lt, ne_eq, Bool.false_eq_true, Bool.true_eq_false, not_true_eq_false, not_false_eq_true, Bool.and_eq_true, Bool.not_eq_eq_eq_not, Bool.not_true, Bool.not_false, bne_iff_ne, bne_eq_false_iff_eq, Int.toNat_natCast, Nat.mul_one, Nat.add_zero, Nat.zero_add, List.take_length, List.drop_zero] at h3)
            all_goals
              refine Tree.GivesP.br (fun h4 => ?_) (fun h4 => ?_)
              · (try simp only [decide_eq_true_eq, decide_eq_false_iff_not, Bool.not_eq_true', Bool.not_eq_false', beq_iff_eq, beq_eq_false_iff_ne, Int.not_lt, Int.not_le, ge_iff_le, gt_iff_lt, ne_eq, Bool.false_eq_true, Bool.true_eq_false, not_true_eq_false, not_false_eq_true, Bool.and_eq_true, Bool.not_eq_eq_eq_not, Bool.not_true, Bool.not_false, bne_iff_ne, bne_eq_false_iff_eq, Int.toNat_natCast, Nat.mul_one, Nat.add_zero, Nat.zero_add, List.take_length, List.drop_zero] at h4)
                all_goals
                  refine Tree.GivesP.ret ?_ ?_
                  · have e := putE_bad h4
                    simp only [AV.le, e, List.length_nil]; first | done | rfl | decide
                  · simp only [AV.leL, AV.le, Mem.le, Mem.leP, Blk.le, Blk.pad, Data.le, Data.size, Cap.le, and_true, true_and, and_self, true_implies, implies_true, imp_self, List.length_nil]
              · (try simp only [decide_eq_true_eq, decide_eq_false_iff_not, Bool.not_eq_true', Bool.not_eq_false', beq_iff_eq, beq_eq_false_iff_ne, Int.not_lt, Int.not_le, ge_iff_le, gt_iff_lt, ne_eq, Bool.false_eq_true, Bool.true_eq_false, not_true_eq_false, not_false_eq_true, Bool.and_eq_true, Bool.not_eq_eq_eq_not, Bool.not_true, Bool.not_false, bne_iff_ne, bne_eq_false_iff_eq, Int.toNat_natCast, Nat.mul_one, Nat.add_zero, Nat.zero_add, List.take_length, List.drop_zero] at h4)
                all_goals
                  refine Tree.GivesP.chk (by first | (simp only [and_self]; done) | (subst h3; constructor <;> simp only [hdPackBack_0, Int.toNat_zero, Int.cast_ofNat_Int, AV.leL, AV.le, Mem.le, Mem.leP, Blk.le, Blk.pad, Data.le, Data.size, Cap.le, and_true, true_and, and_self, true_implies, implies_true, imp_self, List.length_nil] <;> (try simp only [List.take_zero]) <;> (try rfl))) ?_
                  refine Tree.GivesP.chk (by first | (simp only [and_self]; done) | (subst h3; exact ⟨hs, hz, hw, hm.1, hm.2, putE_ok h4, Nat.zero_le _⟩)) ?_
                  refine Tree.GivesP.ret ?_ ?_
                  · subst h3
                    have e := putOk_k (putE_ok (by assumption))
                    rw [hLl] at e
                    have hM2 : ((q.toNat : Int) - (Int.toNat 0 : Int)) = (m : Int) := by omega
                    simp only [AV.le, e.2, hM2, (wmul e.1.1 e.1.2 hm.2).2.1, beq_self_eq_true]
                  · simp only [AV.leL, AV.le, Mem.le, Mem.leP, Blk.le, Blk.pad, Data.le, Data.size, Cap.le, and_true, true_and, and_self, true_implies, implies_true, imp_self, List.length_nil]
      · (try simp only [decide_eq_true_eq, decide_eq_false_iff_not, Bool.not_eq_true', Bool.not_eq_false', beq_iff_eq, beq_eq_false_iff_ne, Int.not_lt, Int.not_le, ge_iff_le, gt_iff_lt, ne_eq, Bool.false_eq_true, Bool.true_eq_false, not_true_eq_false, not_false_eq_true, Bool.and_eq_true, Bool.not_eq_eq_eq_not, Bool.not_true, Bool.not_false, bne_iff_ne, bne_eq_false_iff_eq, Int.toNat_natCast, Nat.mul_one, Nat.add_zero, Nat.zero_add, List.take_length, List.drop_zero] at h2)
        all_goals
          exfalso
          omega
theorem sPackBack (hall : AllOk Try.prog 0 (fun _ => none) tab29) (k : Int) (zl : Bool) (l : List Int) (sign : Bool) (hw : l.length ≤ 9223372036854775807 ∧ (zl = true → l = []) ∧ wf64L l) : SoundAt (mkC Try.prog 0 (fun _ => none) []) 6 [.int .i64 false k, .sl zl ⟨0, 0, 0, 0⟩ false l.length .any, .bool false sign] [some ⟨3, false, false, true, .ints .i64 l⟩] (.bool false true, [some ⟨3, false, false, true, .ints .i64 l⟩]) := sound_loopsP hall mix (loopsPackBack hall) (tPackBack k zl l sign) (gPackBack k zl l sign hw)
end Go.Proofs.Ytnkjblmlchbfkaa.Rig

/- The row of the law PackBack: whatever the input it gives true, and what came in stays. -/
namespace Go.Proofs.Ytnkjblmlchbfkaa.packBack
open Go.ChangeShapes Go.WideShapes Go.ChangeAt Go.RowKit Go.Proofs.Ytnkjblmlchbfkaa.Rig
open Go.ChangeMaps (open_string shut_string)
set_option linter.unusedVariables false

theorem own : ownKnob Try.prog.godebug = none := by kernel_rfl
theorem laidOut : laidOutB Try.prog = true := by kernel_rfl
theorem walk (a0 : Int) (A1 : Option Addr) (len1 cap1 : Nat) (zs1 : List Int) (a2 : Bool) (w : World) (w0 : (Lit.int .i64 a0).wf = true) (wz1 : (A1 = none ∧ len1 = 0 ∧ cap1 = 0 ∧ zs1 = []) ∨ ∃ x, A1 = some x ∧ len1 ≤ cap1 ∧ cap1 ≤ maxLen ∧ zs1.length = cap1 ∧ (∀ i, i < zs1.length → w.cell? (x.add i) = some (.int .i64 (zs1.getD i 0))) ∧ ∀ n ∈ zs1, (Lit.int .i64 n).wf = true) :
    Calls Try.prog 6 #[.int .i64 a0, .slice A1 len1 cap1, .bool a2] w fun e w' => e = .returned (.bool true) ∧ Below w.heap.size w w' := by
  obtain ⟨z1, l1, b1, hl1, hz1, hm1, hw1, hr1, hb1⟩ := arg_ints 3 wz1
  subst hl1
  have h := sPackBack all29 a0 z1 l1 a2 ⟨by simpa [maxLen] using hm1, hz1, fun n hn => wf64 (hw1 n hn)⟩
  refine h.top (σ := fun i => [b1][i]?) (vals := [.int .i64 a0, .slice A1 l1.length cap1, .bool a2]) (fun i b hb => ?_) ?_ (rel_args _ _ rfl fun i b hb => ?_) (fun g i h => by cases h) (Nat.zero_le _)
  · rcases i with _ | i <;> simp [Mem.at] at hb <;> subst hb <;> rfl
  · exact RepL.cons (by simp [RepL, Rep]) (RepL.cons (hr1 _ 0 rfl) (RepL.cons (by simp [RepL, Rep]) (RepL.nil)))
  · rcases i with _ | i <;> simp [Mem.at] at hb
    · subst hb; exact ⟨_, rfl, rfl, hb1⟩
set_option maxRecDepth 100000 in
theorem lifted (os : Os) (started : os.Started) (H : Type) (enc : TypeId × Value → H) :
    ReturnsInHanded {} Try.checked os 6 .any (Rows.packBackSpec.pre6 enc Try.prog Try.f6 Rows.packBackRow.domain false) (Rows.packBackSpec.post enc Try.prog Try.f6 false true false false) := by
  refine returnsInHanded_of_change_sized (C := Try.checked) own started (by kernel_rfl) Try.func6
    (ChangeSpec.witness6 (enc := enc) (C := Try.checked) false ⟨#[], #[.int .i64 0, .slice none 0 0, .bool false], []⟩ 8 (by kernel_rfl) (by kernel_rfl) (by kernel_rfl) (by kernel_rfl)) ?_
  intro W base args ds gs before hval0 hW hcnd hsz0 _
  have hval : ∀ (j : Nat) t v, Try.f6.params[j]? = some t → args[j]? = some v → Value.okWide Try.prog W .any base t v := hval0
  have hW' := hW
  obtain ⟨p, q, hA0, hV, rfl, hfz, hnd⟩ := hW
  have hA : DataW.TrodAll enc Try.prog W 0 (fun _ => true) true Try.f6.params.toList args.toList ds p := hA0
  rw [Try.params6] at hA hval
  obtain ⟨v0, vs0, d0, ds0, p0, z0, hargs, rfl, rfl, h0, r0⟩ := trodAll_cons hA
  obtain ⟨v1, vs1, d1, ds1, p1, z1, rfl, rfl, rfl, h1, r1⟩ := trodAll_cons r0
  obtain ⟨v2, vs2, d2, ds2, p2, z2, rfl, rfl, rfl, h2, r2⟩ := trodAll_cons r1
  obtain ⟨rfl, rfl, rfl⟩ := trodAll_nil r2
  obtain rfl : args = #[v0, v1, v2] := by cases args; simp_all
  obtain ⟨rfl, rfl⟩ := trodVars_none hV
  obtain ⟨a0, rfl, rfl, rfl, w0⟩ := open_int Try.underlying3 (hval 0 3 v0 rfl rfl) h0
  obtain ⟨A1, len1, cap1, rfl⟩ := okWide_slice Try.underlying22 (hval 1 22 v1 rfl rfl)
  have k1 := h1
  have lt1 : ∀ x ∈ p1, x.block < W.heap.size := by obtain ⟨m, hm⟩ := k1; exact DataW.trod_lt m _ _ _ hm
  obtain ⟨zs1, wz1⟩ := Open.ints_open Try.underlying22 Try.underlying3 (by kernel_rfl) h1
  simp only [if_true] at wz1
  obtain ⟨a2, rfl, rfl, rfl⟩ := open_bool Try.underlying4 (hval 2 4 v2 rfl rfl) h2
  clear hA0 hval0 hsz0
  refine (walk a0 A1 len1 cap1 zs1 a2 W w0 wz1).mono fun e W' ⟨he, bel⟩ => ?_
  subst he
  exact ⟨_, rfl, _, _, _, [], _, [], hW', trodAll_mk1 (shut_bool Try.underlying4 _), (trodAll_cons_mk (shut_int Try.underlying3 w0) (trodAll_cons_mk (Below.trod laidOut (by kernel_rfl) (of_decide_eq_true (by kernel_rfl)) k1 bel lt1) (trodAll_cons_mk (shut_bool Try.underlying4 _) trodAll_mk0))), rfl, bel.frame _, fun h => by cases h⟩
theorem over : Rows.packBackRow.holds Try.pinned (OpenSpec.ofChange Rows.packBackSpec) :=
  OpenClaim.holds_of_wide 6 Try.f6 rfl rfl rfl rfl rfl rfl rfl ⟨rfl, rfl, rfl, rfl, rfl⟩ rfl rfl rfl rfl rfl (by kernel_rfl) Try.func6 (by kernel_rfl)
    (of_decide_eq_true (by kernel_rfl)) (by unfold Func.isWrapper; first | (rw [if_pos (by decide +kernel)]; kernel_rfl) | (rw [if_neg (by decide +kernel)]; exact ⟨rfl, rfl⟩))
    (fun os started H enc _ => lifted os started H enc)
theorem proved : Rows.PackBackSaid := over
#print axioms proved
end Go.Proofs.Ytnkjblmlchbfkaa.packBack
namespace Go.Proofs.Ytnkjblmlchbfkaa
/-- The row, under a short name, for the claim. -/
theorem packBack_holds : Rows.PackBackSaid := packBack.proved
end Go.Proofs.Ytnkjblmlchbfkaa
