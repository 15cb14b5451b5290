/- MFields: what is proved for the claim, part 5: functions' reckonings, and what they give. -/
import Derived.Test.YtnkjblmlchbfkaaMFields4
import Derived.KernelRfl
set_option linter.unusedVariables false
set_option linter.unusedSimpArgs false
/- Qsplit -/
namespace Go.Proofs.Ytnkjblmlchbfkaa.Rig
open Go
set_option maxRecDepth 100000 in
theorem tLsplit_0 (zws : Bool) (ws : List Int) (zl : Bool) (l : List Int) (i : Nat) : tidied Tsplit_0 Usplit_0 2 (evCode (mkL Try.prog 0 (fun _ => none) tab21 rowssplit) (evCall (mkC Try.prog 0 (fun _ => none) tab21) 50) 21 2 fuelC (bodyAt Try.prog 21 0) (hdsplit_0 ⟨zws, ws, zl, l, i⟩)) =
  Tree.br (decide ((i : Int) < ((List.length ws) : Int)))
  (Tree.br (!zws && decide ((0 : Int) ≤ (i : Int) ∧ (i : Int) < ((List.length ws) : Int)))
  (Tree.br (decide (Int.toNat (i : Int) * 1 + 0 + 1 ≤ List.length ws))
  (Tree.br true
  (Tree.br (!zl && decide ((0 : Int) ≤ IntKind.wrap IntKind.i64 (Int.tdiv (sumI (List.take i ws)) (16 : Int)) ∧ IntKind.wrap IntKind.i64 (Int.tdiv (sumI (List.take i ws)) (16 : Int)) < ((List.length l) : Int)))
  (Tree.br (decide (Int.toNat (IntKind.wrap IntKind.i64 (Int.tdiv (sumI (List.take i ws)) (16 : Int))) * 1 + 0 + 1 ≤ List.length l))
  (Tree.br true
  (Tree.br (decide (IntKind.wrap IntKind.i64 (IntKind.wrap IntKind.i64 (Int.tdiv (sumI (List.take i ws)) (16 : Int)) + (1 : Int)) < ((List.length l) : Int)))
  (Tree.br true
  (Tree.br
  (!zl &&
  decide
  ((0 : Int) ≤ IntKind.wrap IntKind.i64 (IntKind.wrap IntKind.i64 (Int.tdiv (sumI (List.take i ws)) (16 : Int)) + (1 : Int)) ∧
  IntKind.wrap IntKind.i64 (IntKind.wrap IntKind.i64 (Int.tdiv (sumI (List.take i ws)) (16 : Int)) + (1 : Int)) < ((List.length l) : Int)))
  (Tree.br (decide (Int.toNat (IntKind.wrap IntKind.i64 (IntKind.wrap IntKind.i64 (Int.tdiv (sumI (List.take i ws)) (16 : Int)) + (1 : Int))) * 1 + 0 + 1 ≤ List.length l))
  (Tree.br true
  (Tree.br
  (!decide
  (IntKind.wrap IntKind.i64 (IntKind.wrap IntKind.i64 ((32 : Int) - Int.tmod (sumI (List.take i ws)) (16 : Int)) - List.getD ws (Int.toNat (i : Int) * 1 + 0 + 0) (0 : Int)) <
  (0 : Int)))
  (Tree.br (!decide (List.getD ws (Int.toNat (i : Int) * 1 + 0 + 0) (0 : Int) < (0 : Int)))
  (Tree.br (decide (((List.length (splitF l 0 (List.take i ws)) + 1) : Int) ≤ most48 ∧ (((List.length (splitF l 0 (List.take i ws)) + 1) * 8) : Int) ≤ most48))
  (Tree.br
  (decide
  (List.length (splitF l 0 (List.take i ws)) * 1 = Data.size (Data.ints IntKind.i64 (splitF l 0 (List.take i ws))) ∧
  Data.size
  (Data.cells
  (List.take (1 * 1)
  (List.drop (0)
  (List.take (0 * 1) (zerosOf (List.map ofCell [Value.int IntKind.i64 (0 : Int)]) 1) ++
  (AV.parts
  (opnd (mkL Try.prog 0 (fun x => none) tab21 rowssplit)
  [AV.junk, AV.sl zl (Ref.mk 1 0 0 0) false (List.length l) Cap.any, AV.junk, AV.junk, AV.junk, AV.junk, AV.junk, AV.junk,
  AV.sl (decide (splitF l 0 (List.take i ws) = [])) (Ref.mk 2 0 0 0) false (List.length (splitF l 0 (List.take i ws)))
  Cap.own,
  AV.int IntKind.i64 false (sumI (List.take i ws)), AV.junk, AV.int IntKind.i64 false (List.getD ws (Int.toNat (i : Int) * 1 + 0 + 0) (0 : Int)),
  AV.int IntKind.i64 false
  (IntKind.wrap IntKind.i64
  ((BitVec.toNat
  (BitVec.ofInt (64)
  (IntKind.wrap IntKind.i64
  (List.getD l (Int.toNat (IntKind.wrap IntKind.i64 (Int.tdiv (sumI (List.take i ws)) (16 : Int))) * 1 + 0 + 0) (0 : Int) *
  (65536 : Int))) |||
  BitVec.ofInt (64)
  (IntKind.wrap IntKind.i64
  ((BitVec.toNat
  (BitVec.ofInt (64)
  (List.getD l
  (Int.toNat (IntKind.wrap IntKind.i64 (IntKind.wrap IntKind.i64 (Int.tdiv (sumI (List.take i ws)) (16 : Int)) + (1 : Int))) * 1 + 0 +
  0)
  (0 : Int)) &&&
  BitVec.ofInt (64) (65535 : Int))) : Int)))) : Int)),
  AV.junk, AV.junk, AV.junk, AV.junk, AV.junk, AV.junk, AV.junk, AV.junk, AV.junk, AV.junk, AV.junk, AV.junk,
  AV.sl zws (Ref.mk 0 0 0 0) false (List.length ws) Cap.any, AV.int IntKind.i64 false ((List.length ws) : Int), AV.int IntKind.i64 false (i : Int),
  AV.bool true true, AV.ptr (Ref.mk (0) (Int.toNat (i : Int)) (1) (0)),
  AV.int IntKind.i64 false (List.getD ws (Int.toNat (i : Int) * 1 + 0 + 0) (0 : Int)),
  AV.sl zl (Ref.mk 1 0 0 0) false (List.length l) Cap.any, AV.int IntKind.i64 false (sumI (List.take i ws)),
  AV.int IntKind.i64 false (IntKind.wrap IntKind.i64 (Int.tdiv (sumI (List.take i ws)) (16 : Int))),
  AV.ptr (Ref.mk (1) (Int.toNat (IntKind.wrap IntKind.i64 (Int.tdiv (sumI (List.take i ws)) (16 : Int)))) (1) (0)),
  AV.int IntKind.i64 false (List.getD l (Int.toNat (IntKind.wrap IntKind.i64 (Int.tdiv (sumI (List.take i ws)) (16 : Int))) * 1 + 0 + 0) (0 : Int)),
  AV.int IntKind.i64 false
  (IntKind.wrap IntKind.i64
  (List.getD l (Int.toNat (IntKind.wrap IntKind.i64 (Int.tdiv (sumI (List.take i ws)) (16 : Int))) * 1 + 0 + 0) (0 : Int) * (65536 : Int))),
  AV.int IntKind.i64 false (sumI (List.take i ws)), AV.int IntKind.i64 false (IntKind.wrap IntKind.i64 (Int.tdiv (sumI (List.take i ws)) (16 : Int))),
  AV.int IntKind.i64 false (IntKind.wrap IntKind.i64 (IntKind.wrap IntKind.i64 (Int.tdiv (sumI (List.take i ws)) (16 : Int)) + (1 : Int))),
  AV.sl zl (Ref.mk 1 0 0 0) false (List.length l) Cap.any, AV.int IntKind.i64 false ((List.length l) : Int), AV.bool true true,
  AV.int IntKind.i64 false
  (IntKind.wrap IntKind.i64
  (List.getD l (Int.toNat (IntKind.wrap IntKind.i64 (Int.tdiv (sumI (List.take i ws)) (16 : Int))) * 1 + 0 + 0) (0 : Int) * (65536 : Int))),
  AV.sl zl (Ref.mk 1 0 0 0) false (List.length l) Cap.any, AV.int IntKind.i64 false (sumI (List.take i ws)),
  AV.int IntKind.i64 false (IntKind.wrap IntKind.i64 (Int.tdiv (sumI (List.take i ws)) (16 : Int))),
  AV.int IntKind.i64 false (IntKind.wrap IntKind.i64 (IntKind.wrap IntKind.i64 (Int.tdiv (sumI (List.take i ws)) (16 : Int)) + (1 : Int))),
  AV.ptr (Ref.mk (1) (Int.toNat (IntKind.wrap IntKind.i64 (IntKind.wrap IntKind.i64 (Int.tdiv (sumI (List.take i ws)) (16 : Int)) + (1 : Int)))) (1) (0)),
  AV.int IntKind.i64 false
  (List.getD l
  (Int.toNat (IntKind.wrap IntKind.i64 (IntKind.wrap IntKind.i64 (Int.tdiv (sumI (List.take i ws)) (16 : Int)) + (1 : Int))) * 1 + 0 + 0) (0 : Int)),
  AV.int IntKind.i64 false
  (IntKind.wrap IntKind.i64
  ((BitVec.toNat
  (BitVec.ofInt (64)
  (List.getD l
  (Int.toNat (IntKind.wrap IntKind.i64 (IntKind.wrap IntKind.i64 (Int.tdiv (sumI (List.take i ws)) (16 : Int)) + (1 : Int))) * 1 + 0 + 0)
  (0 : Int)) &&&
  BitVec.ofInt (64) (65535 : Int))) : Int)),
  AV.int IntKind.i64 false
  (IntKind.wrap IntKind.i64
  ((BitVec.toNat
  (BitVec.ofInt (64)
  (IntKind.wrap IntKind.i64
  (List.getD l (Int.toNat (IntKind.wrap IntKind.i64 (Int.tdiv (sumI (List.take i ws)) (16 : Int))) * 1 + 0 + 0) (0 : Int) *
  (65536 : Int))) |||
  BitVec.ofInt (64)
  (IntKind.wrap IntKind.i64
  ((BitVec.toNat
  (BitVec.ofInt (64)
  (List.getD l
  (Int.toNat (IntKind.wrap IntKind.i64 (IntKind.wrap IntKind.i64 (Int.tdiv (sumI (List.take i ws)) (16 : Int)) + (1 : Int))) * 1 + 0 +
  0)
  (0 : Int)) &&&
  BitVec.ofInt (64) (65535 : Int))) : Int)))) : Int)),
  AV.sl (decide (splitF l 0 (List.take i ws) = [])) (Ref.mk 2 0 0 0) false (List.length (splitF l 0 (List.take i ws)))
  Cap.own,
  AV.int IntKind.i64 false
  (IntKind.wrap IntKind.i64
  ((BitVec.toNat
  (BitVec.ofInt (64)
  (IntKind.wrap IntKind.i64
  (List.getD l (Int.toNat (IntKind.wrap IntKind.i64 (Int.tdiv (sumI (List.take i ws)) (16 : Int))) * 1 + 0 + 0) (0 : Int) *
  (65536 : Int))) |||
  BitVec.ofInt (64)
  (IntKind.wrap IntKind.i64
  ((BitVec.toNat
  (BitVec.ofInt (64)
  (List.getD l
  (Int.toNat (IntKind.wrap IntKind.i64 (IntKind.wrap IntKind.i64 (Int.tdiv (sumI (List.take i ws)) (16 : Int)) + (1 : Int))) * 1 + 0 +
  0)
  (0 : Int)) &&&
  BitVec.ofInt (64) (65535 : Int))) : Int)))) : Int)),
  AV.int IntKind.i64 false (sumI (List.take i ws)), AV.int IntKind.i64 false (Int.tmod (sumI (List.take i ws)) (16 : Int)),
  AV.int IntKind.i64 false (IntKind.wrap IntKind.i64 ((32 : Int) - Int.tmod (sumI (List.take i ws)) (16 : Int))),
  AV.int IntKind.i64 false (List.getD ws (Int.toNat (i : Int) * 1 + 0 + 0) (0 : Int)),
  AV.int IntKind.i64 false
  (IntKind.wrap IntKind.i64
  (IntKind.wrap IntKind.i64 ((32 : Int) - Int.tmod (sumI (List.take i ws)) (16 : Int)) - List.getD ws (Int.toNat (i : Int) * 1 + 0 + 0) (0 : Int))),
  AV.int IntKind.i64 false
  (Int.fdiv
  (IntKind.wrap IntKind.i64
  ((BitVec.toNat
  (BitVec.ofInt (64)
  (IntKind.wrap IntKind.i64
  (List.getD l (Int.toNat (IntKind.wrap IntKind.i64 (Int.tdiv (sumI (List.take i ws)) (16 : Int))) * 1 + 0 + 0) (0 : Int) *
  (65536 : Int))) |||
  BitVec.ofInt (64)
  (IntKind.wrap IntKind.i64
  ((BitVec.toNat
  (BitVec.ofInt (64)
  (List.getD l
  (Int.toNat (IntKind.wrap IntKind.i64 (IntKind.wrap IntKind.i64 (Int.tdiv (sumI (List.take i ws)) (16 : Int)) + (1 : Int))) * 1 + 0 +
  0)
  (0 : Int)) &&&
  BitVec.ofInt (64) (65535 : Int))) : Int)))) : Int))
  ((2 : Int) ^
  min
  (Int.toNat
  (IntKind.wrap IntKind.i64
  (IntKind.wrap IntKind.i64 ((32 : Int) - Int.tmod (sumI (List.take i ws)) (16 : Int)) -
  List.getD ws (Int.toNat (i : Int) * 1 + 0 + 0) (0 : Int))))
  (64))),
  AV.int IntKind.i64 false (List.getD ws (Int.toNat (i : Int) * 1 + 0 + 0) (0 : Int)),
  AV.int IntKind.i64 false
  (IntKind.wrap IntKind.i64 ((1 : Int) * (2 : Int) ^ min (Int.toNat (List.getD ws (Int.toNat (i : Int) * 1 + 0 + 0) (0 : Int))) (64))),
  AV.int IntKind.i64 false
  (IntKind.wrap IntKind.i64
  (IntKind.wrap IntKind.i64 ((1 : Int) * (2 : Int) ^ min (Int.toNat (List.getD ws (Int.toNat (i : Int) * 1 + 0 + 0) (0 : Int))) (64)) - (1 : Int))),
  AV.int IntKind.i64 false
  (IntKind.wrap IntKind.i64
  ((BitVec.toNat
  (BitVec.ofInt (64)
  (Int.fdiv
  (IntKind.wrap IntKind.i64
  ((BitVec.toNat
  (BitVec.ofInt (64)
  (IntKind.wrap IntKind.i64
  (List.getD l (Int.toNat (IntKind.wrap IntKind.i64 (Int.tdiv (sumI (List.take i ws)) (16 : Int))) * 1 + 0 + 0) (0 : Int) *
  (65536 : Int))) |||
  BitVec.ofInt (64)
  (IntKind.wrap IntKind.i64
  ((BitVec.toNat
  (BitVec.ofInt (64)
  (List.getD l
  (Int.toNat (IntKind.wrap IntKind.i64 (IntKind.wrap IntKind.i64 (Int.tdiv (sumI (List.take i ws)) (16 : Int)) + (1 : Int))) * 1 +
  0 +
  0)
  (0 : Int)) &&&
  BitVec.ofInt (64) (65535 : Int))) : Int)))) : Int))
  ((2 : Int) ^
  min
  (Int.toNat
  (IntKind.wrap IntKind.i64
  (IntKind.wrap IntKind.i64 ((32 : Int) - Int.tmod (sumI (List.take i ws)) (16 : Int)) -
  List.getD ws (Int.toNat (i : Int) * 1 + 0 + 0) (0 : Int))))
  (64))) &&&
  BitVec.ofInt (64)
  (IntKind.wrap IntKind.i64
  (IntKind.wrap IntKind.i64 ((1 : Int) * (2 : Int) ^ min (Int.toNat (List.getD ws (Int.toNat (i : Int) * 1 + 0 + 0) (0 : Int))) (64)) -
  (1 : Int))))) : Int)),
  AV.junk, AV.junk, AV.junk, AV.junk, AV.junk, AV.junk, AV.junk]
  (Operand.tmp 63)) ++
  List.drop (0 * 1 + 1) (zerosOf (List.map ofCell [Value.int IntKind.i64 (0 : Int)]) 1)))))) =
  1 * 1) &&
  decide (splitF l 0 (List.take i ws) = []) == decide ((splitF l 0 (List.take i ws)) = []))
  (Tree.ret
  (Ex.norm,
  St.mk
  [AV.junk, AV.sl zl (Ref.mk (1) (0) (0) (0)) false (List.length l) Cap.any, AV.junk, AV.junk, AV.junk, AV.junk, AV.junk, AV.junk,
  AV.sl (decide (splitF l 0 (List.take i ws) = []) && decide (1 = 0)) (Ref.mk (2) (0) (0) (0)) false
  (List.length (splitF l 0 (List.take i ws)) + 1) Cap.own,
  AV.int IntKind.i64 false (IntKind.wrap IntKind.i64 (sumI (List.take i ws) + List.getD ws (Int.toNat (i : Int) * 1 + 0 + 0) (0 : Int))), AV.junk, AV.junk, AV.junk, AV.junk,
  AV.junk, AV.junk, AV.junk, AV.junk, AV.junk, AV.junk, AV.junk, AV.junk, AV.junk, AV.junk, AV.junk,
  AV.sl zws (Ref.mk (0) (0) (0) (0)) false (List.length ws) Cap.any, AV.int IntKind.i64 false ((List.length ws) : Int),
  AV.int IntKind.i64 false (IntKind.wrap IntKind.i64 ((i : Int) + (1 : Int))), AV.junk, AV.junk, AV.junk, AV.junk, AV.junk, AV.junk, AV.junk, AV.junk, AV.junk, AV.junk, AV.junk, AV.junk, AV.junk, AV.junk,
  AV.junk, AV.junk, AV.junk, AV.junk, AV.junk, AV.junk, AV.junk, AV.junk, AV.junk, AV.junk, AV.junk, AV.junk, AV.junk, AV.junk, AV.junk, AV.junk, AV.junk, AV.junk, AV.junk, AV.junk, AV.junk, AV.junk,
  AV.junk, AV.junk, AV.junk, AV.junk, AV.junk, AV.junk, AV.junk]
  [some (Blk.mk (3) false false true (Data.ints IntKind.i64 ws)), some (Blk.mk (3) false false true (Data.ints IntKind.i64 l)),
  some
  (Blk.mk (3) true (Bool.rec false (decide (1 = 0)) (decide ((splitF l 0 (List.take i ws)) = [])))
  true
  (Data.ints IntKind.i64
  (splitF l 0 (List.take i ws) ++
  [IntKind.wrap IntKind.i64
  ((BitVec.toNat
  (BitVec.ofInt (64)
  (Int.fdiv
  (IntKind.wrap IntKind.i64
  ((BitVec.toNat
  (BitVec.ofInt (64)
  (IntKind.wrap IntKind.i64
  (List.getD l (Int.toNat (IntKind.wrap IntKind.i64 (Int.tdiv (sumI (List.take i ws)) (16 : Int))) * 1 + 0 + 0) (0 : Int) *
  (65536 : Int))) |||
  BitVec.ofInt (64)
  (IntKind.wrap IntKind.i64
  ((BitVec.toNat
  (BitVec.ofInt (64)
  (List.getD l
  (Int.toNat (IntKind.wrap IntKind.i64 (IntKind.wrap IntKind.i64 (Int.tdiv (sumI (List.take i ws)) (16 : Int)) + (1 : Int))) * 1 + 0 +
  0)
  (0 : Int)) &&&
  BitVec.ofInt (64) (65535 : Int))) : Int)))) : Int))
  ((2 : Int) ^
  min
  (Int.toNat
  (IntKind.wrap IntKind.i64
  (IntKind.wrap IntKind.i64 ((32 : Int) - Int.tmod (sumI (List.take i ws)) (16 : Int)) -
  List.getD ws (Int.toNat (i : Int) * 1 + 0 + 0) (0 : Int))))
  (64))) &&&
  BitVec.ofInt (64)
  (IntKind.wrap IntKind.i64
  (IntKind.wrap IntKind.i64 ((1 : Int) * (2 : Int) ^ min (Int.toNat (List.getD ws (Int.toNat (i : Int) * 1 + 0 + 0) (0 : Int))) (64)) -
  (1 : Int))))) : Int)])))]))
  Tree.fail)
  Tree.fail)
  Tree.fail)
  Tree.fail)
  Tree.fail)
  Tree.fail)
  Tree.fail)
  Tree.fail)
  (Tree.br true
  (Tree.br
  (!decide
  (IntKind.wrap IntKind.i64 (IntKind.wrap IntKind.i64 ((32 : Int) - Int.tmod (sumI (List.take i ws)) (16 : Int)) - List.getD ws (Int.toNat (i : Int) * 1 + 0 + 0) (0 : Int)) < (0 : Int)))
  (Tree.br (!decide (List.getD ws (Int.toNat (i : Int) * 1 + 0 + 0) (0 : Int) < (0 : Int)))
  (Tree.br (decide (((List.length (splitF l 0 (List.take i ws)) + 1) : Int) ≤ most48 ∧ (((List.length (splitF l 0 (List.take i ws)) + 1) * 8) : Int) ≤ most48))
  (Tree.br
  (decide
  (List.length (splitF l 0 (List.take i ws)) * 1 = Data.size (Data.ints IntKind.i64 (splitF l 0 (List.take i ws))) ∧
  Data.size
  (Data.cells
  (List.take (1 * 1)
  (List.drop (0)
  (List.take (0 * 1) (zerosOf (List.map ofCell [Value.int IntKind.i64 (0 : Int)]) 1) ++
  (AV.parts
  (opnd (mkL Try.prog 0 (fun x => none) tab21 rowssplit)
  [AV.junk, AV.sl zl (Ref.mk 1 0 0 0) false (List.length l) Cap.any, AV.junk, AV.junk, AV.junk, AV.junk, AV.junk, AV.junk,
  AV.sl (decide (splitF l 0 (List.take i ws) = [])) (Ref.mk 2 0 0 0) false (List.length (splitF l 0 (List.take i ws)))
  Cap.own,
  AV.int IntKind.i64 false (sumI (List.take i ws)), AV.junk, AV.int IntKind.i64 false (List.getD ws (Int.toNat (i : Int) * 1 + 0 + 0) (0 : Int)),
  AV.int IntKind.i64 false
  (IntKind.wrap IntKind.i64
  (List.getD l (Int.toNat (IntKind.wrap IntKind.i64 (Int.tdiv (sumI (List.take i ws)) (16 : Int))) * 1 + 0 + 0) (0 : Int) * (65536 : Int))),
  AV.junk, AV.junk, AV.junk, AV.junk, AV.junk, AV.junk, AV.junk, AV.junk, AV.junk, AV.junk, AV.junk, AV.junk,
  AV.sl zws (Ref.mk 0 0 0 0) false (List.length ws) Cap.any, AV.int IntKind.i64 false ((List.length ws) : Int), AV.int IntKind.i64 false (i : Int),
  AV.bool true true, AV.ptr (Ref.mk (0) (Int.toNat (i : Int)) (1) (0)),
  AV.int IntKind.i64 false (List.getD ws (Int.toNat (i : Int) * 1 + 0 + 0) (0 : Int)),
  AV.sl zl (Ref.mk 1 0 0 0) false (List.length l) Cap.any, AV.int IntKind.i64 false (sumI (List.take i ws)),
  AV.int IntKind.i64 false (IntKind.wrap IntKind.i64 (Int.tdiv (sumI (List.take i ws)) (16 : Int))),
  AV.ptr (Ref.mk (1) (Int.toNat (IntKind.wrap IntKind.i64 (Int.tdiv (sumI (List.take i ws)) (16 : Int)))) (1) (0)),
  AV.int IntKind.i64 false (List.getD l (Int.toNat (IntKind.wrap IntKind.i64 (Int.tdiv (sumI (List.take i ws)) (16 : Int))) * 1 + 0 + 0) (0 : Int)),
  AV.int IntKind.i64 false
  (IntKind.wrap IntKind.i64
  (List.getD l (Int.toNat (IntKind.wrap IntKind.i64 (Int.tdiv (sumI (List.take i ws)) (16 : Int))) * 1 + 0 + 0) (0 : Int) * (65536 : Int))),
  AV.int IntKind.i64 false (sumI (List.take i ws)), AV.int IntKind.i64 false (IntKind.wrap IntKind.i64 (Int.tdiv (sumI (List.take i ws)) (16 : Int))),
  AV.int IntKind.i64 false (IntKind.wrap IntKind.i64 (IntKind.wrap IntKind.i64 (Int.tdiv (sumI (List.take i ws)) (16 : Int)) + (1 : Int))),
  AV.sl zl (Ref.mk 1 0 0 0) false (List.length l) Cap.any, AV.int IntKind.i64 false ((List.length l) : Int), AV.bool true false, AV.junk, AV.junk, AV.junk,
  AV.junk, AV.junk, AV.junk, AV.junk, AV.junk, AV.junk,
  AV.sl (decide (splitF l 0 (List.take i ws) = [])) (Ref.mk 2 0 0 0) false (List.length (splitF l 0 (List.take i ws)))
  Cap.own,
  AV.int IntKind.i64 false
  (IntKind.wrap IntKind.i64
  (List.getD l (Int.toNat (IntKind.wrap IntKind.i64 (Int.tdiv (sumI (List.take i ws)) (16 : Int))) * 1 + 0 + 0) (0 : Int) * (65536 : Int))),
  AV.int IntKind.i64 false (sumI (List.take i ws)), AV.int IntKind.i64 false (Int.tmod (sumI (List.take i ws)) (16 : Int)),
  AV.int IntKind.i64 false (IntKind.wrap IntKind.i64 ((32 : Int) - Int.tmod (sumI (List.take i ws)) (16 : Int))),
  AV.int IntKind.i64 false (List.getD ws (Int.toNat (i : Int) * 1 + 0 + 0) (0 : Int)),
  AV.int IntKind.i64 false
  (IntKind.wrap IntKind.i64
  (IntKind.wrap IntKind.i64 ((32 : Int) - Int.tmod (sumI (List.take i ws)) (16 : Int)) - List.getD ws (Int.toNat (i : Int) * 1 + 0 + 0) (0 : Int))),
  AV.int IntKind.i64 false
  (Int.fdiv
  (IntKind.wrap IntKind.i64
  (List.getD l (Int.toNat (IntKind.wrap IntKind.i64 (Int.tdiv (sumI (List.take i ws)) (16 : Int))) * 1 + 0 + 0) (0 : Int) * (65536 : Int)))
  ((2 : Int) ^
  min
  (Int.toNat
  (IntKind.wrap IntKind.i64
  (IntKind.wrap IntKind.i64 ((32 : Int) - Int.tmod (sumI (List.take i ws)) (16 : Int)) - List.getD ws (Int.toNat (i : Int) * 1 + 0 + 0) (0 : Int))))
  (64))),
  AV.int IntKind.i64 false (List.getD ws (Int.toNat (i : Int) * 1 + 0 + 0) (0 : Int)),
  AV.int IntKind.i64 false
  (IntKind.wrap IntKind.i64 ((1 : Int) * (2 : Int) ^ min (Int.toNat (List.getD ws (Int.toNat (i : Int) * 1 + 0 + 0) (0 : Int))) (64))),
  AV.int IntKind.i64 false
  (IntKind.wrap IntKind.i64
  (IntKind.wrap IntKind.i64 ((1 : Int) * (2 : Int) ^ min (Int.toNat (List.getD ws (Int.toNat (i : Int) * 1 + 0 + 0) (0 : Int))) (64)) - (1 : Int))),
  AV.int IntKind.i64 false
  (IntKind.wrap IntKind.i64
  ((BitVec.toNat
  (BitVec.ofInt (64)
  (Int.fdiv
  (IntKind.wrap IntKind.i64
  (List.getD l (Int.toNat (IntKind.wrap IntKind.i64 (Int.tdiv (sumI (List.take i ws)) (16 : Int))) * 1 + 0 + 0) (0 : Int) * (65536 : Int)))
  ((2 : Int) ^
  min
  (Int.toNat
  (IntKind.wrap IntKind.i64
  (IntKind.wrap IntKind.i64 ((32 : Int) - Int.tmod (sumI (List.take i ws)) (16 : Int)) -
  List.getD ws (Int.toNat (i : Int) * 1 + 0 + 0) (0 : Int))))
  (64))) &&&
  BitVec.ofInt (64)
  (IntKind.wrap IntKind.i64
  (IntKind.wrap IntKind.i64 ((1 : Int) * (2 : Int) ^ min (Int.toNat (List.getD ws (Int.toNat (i : Int) * 1 + 0 + 0) (0 : Int))) (64)) -
  (1 : Int))))) : Int)),
  AV.junk, AV.junk, AV.junk, AV.junk, AV.junk, AV.junk, AV.junk]
  (Operand.tmp 63)) ++
  List.drop (0 * 1 + 1) (zerosOf (List.map ofCell [Value.int IntKind.i64 (0 : Int)]) 1)))))) =
  1 * 1) &&
  decide (splitF l 0 (List.take i ws) = []) == decide ((splitF l 0 (List.take i ws)) = []))
  (Tree.ret
  (Ex.norm,
  St.mk
  [AV.junk, AV.sl zl (Ref.mk (1) (0) (0) (0)) false (List.length l) Cap.any, AV.junk, AV.junk, AV.junk, AV.junk, AV.junk, AV.junk,
  AV.sl (decide (splitF l 0 (List.take i ws) = []) && decide (1 = 0)) (Ref.mk (2) (0) (0) (0)) false
  (List.length (splitF l 0 (List.take i ws)) + 1) Cap.own,
  AV.int IntKind.i64 false (IntKind.wrap IntKind.i64 (sumI (List.take i ws) + List.getD ws (Int.toNat (i : Int) * 1 + 0 + 0) (0 : Int))), AV.junk, AV.junk, AV.junk, AV.junk,
  AV.junk, AV.junk, AV.junk, AV.junk, AV.junk, AV.junk, AV.junk, AV.junk, AV.junk, AV.junk, AV.junk, AV.sl zws (Ref.mk (0) (0) (0) (0)) false (List.length ws) Cap.any,
  AV.int IntKind.i64 false ((List.length ws) : Int), AV.int IntKind.i64 false (IntKind.wrap IntKind.i64 ((i : Int) + (1 : Int))), AV.junk, AV.junk, AV.junk, AV.junk, AV.junk, AV.junk, AV.junk, AV.junk, AV.junk,
  AV.junk, AV.junk, AV.junk, AV.junk, AV.junk, AV.junk, AV.junk, AV.junk, AV.junk, AV.junk, AV.junk, AV.junk, AV.junk, AV.junk, AV.junk, AV.junk, AV.junk, AV.junk, AV.junk, AV.junk, AV.junk, AV.junk, AV.junk,
  AV.junk, AV.junk, AV.junk, AV.junk, AV.junk, AV.junk, AV.junk, AV.junk, AV.junk, AV.junk, AV.junk]
  [some (Blk.mk (3) false false true (Data.ints IntKind.i64 ws)), some (Blk.mk (3) false false true (Data.ints IntKind.i64 l)),
  some
  (Blk.mk (3) true (Bool.rec false (decide (1 = 0)) (decide ((splitF l 0 (List.take i ws)) = []))) true
  (Data.ints IntKind.i64
  (splitF l 0 (List.take i ws) ++
  [IntKind.wrap IntKind.i64
  ((BitVec.toNat
  (BitVec.ofInt (64)
  (Int.fdiv
  (IntKind.wrap IntKind.i64
  (List.getD l (Int.toNat (IntKind.wrap IntKind.i64 (Int.tdiv (sumI (List.take i ws)) (16 : Int))) * 1 + 0 + 0) (0 : Int) * (65536 : Int)))
  ((2 : Int) ^
  min
  (Int.toNat
  (IntKind.wrap IntKind.i64
  (IntKind.wrap IntKind.i64 ((32 : Int) - Int.tmod (sumI (List.take i ws)) (16 : Int)) - List.getD ws (Int.toNat (i : Int) * 1 + 0 + 0) (0 : Int))))
  (64))) &&&
  BitVec.ofInt (64)
  (IntKind.wrap IntKind.i64
  (IntKind.wrap IntKind.i64 ((1 : Int) * (2 : Int) ^ min (Int.toNat (List.getD ws (Int.toNat (i : Int) * 1 + 0 + 0) (0 : Int))) (64)) -
  (1 : Int))))) : Int)])))]))
  Tree.fail)
  Tree.fail)
  Tree.fail)
  Tree.fail)
  Tree.fail))
  Tree.fail)
  Tree.fail)
  Tree.fail)
  Tree.fail)
  Tree.fail)
  Tree.fail)
  (Tree.ret
  (Ex.exit (0),
  St.mk
  [AV.junk, AV.junk, AV.junk, AV.junk, AV.junk, AV.junk, AV.junk, AV.junk,
  AV.sl (decide (splitF l 0 (List.take i ws) = [])) (Ref.mk (2) (0) (0) (0)) false (List.length (splitF l 0 (List.take i ws))) Cap.own, AV.junk, AV.junk, AV.junk,
  AV.junk, AV.junk, AV.junk, AV.junk, AV.junk, AV.junk, AV.junk, AV.junk, AV.junk, AV.junk, AV.junk, AV.junk, AV.junk, AV.junk, AV.junk, AV.junk, AV.junk, AV.junk, AV.junk, AV.junk, AV.junk, AV.junk, AV.junk, AV.junk, AV.junk,
  AV.junk, AV.junk, AV.junk, AV.junk, AV.junk, AV.junk, AV.junk, AV.junk, AV.junk, AV.junk, AV.junk, AV.junk, AV.junk, AV.junk, AV.junk, AV.junk, AV.junk, AV.junk, AV.junk, AV.junk, AV.junk, AV.junk, AV.junk, AV.junk, AV.junk,
  AV.junk, AV.junk, AV.junk, AV.junk, AV.junk, AV.junk, AV.junk, AV.junk, AV.junk]
  [some (Blk.mk (3) false false true (Data.ints IntKind.i64 ws)), some (Blk.mk (3) false false true (Data.ints IntKind.i64 l)),
  some
  (Blk.mk (3) true (decide ((splitF l 0 (List.take i ws)) = [])) true (Data.ints IntKind.i64 (splitF l 0 (List.take i ws))))])) := by kernel_rfl
set_option maxRecDepth 100000 in
theorem stepsplit_0 (zws : Bool) (ws : List Int) (zl : Bool) (l : List Int) (i : Nat) (ex : Ex) (r : St) (hok : oksplit_0 ⟨zws, ws, zl, l, i⟩) (hr : (outsplit_0 ⟨zws, ws, zl, l, i⟩).runs (ex, r)) : (Tree.br (decide ((i : Int) < ((List.length ws) : Int)))
  (Tree.br (!zws && decide ((0 : Int) ≤ (i : Int) ∧ (i : Int) < ((List.length ws) : Int)))
  (Tree.br (decide (Int.toNat (i : Int) * 1 + 0 + 1 ≤ List.length ws))
  (Tree.br true
  (Tree.br (!zl && decide ((0 : Int) ≤ IntKind.wrap IntKind.i64 (Int.tdiv (sumI (List.take i ws)) (16 : Int)) ∧ IntKind.wrap IntKind.i64 (Int.tdiv (sumI (List.take i ws)) (16 : Int)) < ((List.length l) : Int)))
  (Tree.br (decide (Int.toNat (IntKind.wrap IntKind.i64 (Int.tdiv (sumI (List.take i ws)) (16 : Int))) * 1 + 0 + 1 ≤ List.length l))
  (Tree.br true
  (Tree.br (decide (IntKind.wrap IntKind.i64 (IntKind.wrap IntKind.i64 (Int.tdiv (sumI (List.take i ws)) (16 : Int)) + (1 : Int)) < ((List.length l) : Int)))
  (Tree.br true
  (Tree.br
  (!zl &&
  decide
  ((0 : Int) ≤ IntKind.wrap IntKind.i64 (IntKind.wrap IntKind.i64 (Int.tdiv (sumI (List.take i ws)) (16 : Int)) + (1 : Int)) ∧
  IntKind.wrap IntKind.i64 (IntKind.wrap IntKind.i64 (Int.tdiv (sumI (List.take i ws)) (16 : Int)) + (1 : Int)) < ((List.length l) : Int)))
  (Tree.br (decide (Int.toNat (IntKind.wrap IntKind.i64 (IntKind.wrap IntKind.i64 (Int.tdiv (sumI (List.take i ws)) (16 : Int)) + (1 : Int))) * 1 + 0 + 1 ≤ List.length l))
  (Tree.br true
  (Tree.br
  (!decide
  (IntKind.wrap IntKind.i64 (IntKind.wrap IntKind.i64 ((32 : Int) - Int.tmod (sumI (List.take i ws)) (16 : Int)) - List.getD ws (Int.toNat (i : Int) * 1 + 0 + 0) (0 : Int)) <
  (0 : Int)))
  (Tree.br (!decide (List.getD ws (Int.toNat (i : Int) * 1 + 0 + 0) (0 : Int) < (0 : Int)))
  (Tree.br (decide (((List.length (splitF l 0 (List.take i ws)) + 1) : Int) ≤ most48 ∧ (((List.length (splitF l 0 (List.take i ws)) + 1) * 8) : Int) ≤ most48))
  (Tree.br
  (decide
  (List.length (splitF l 0 (List.take i ws)) * 1 = Data.size (Data.ints IntKind.i64 (splitF l 0 (List.take i ws))) ∧
  Data.size
  (Data.cells
  (List.take (1 * 1)
  (List.drop (0)
  (List.take (0 * 1) (zerosOf (List.map ofCell [Value.int IntKind.i64 (0 : Int)]) 1) ++
  (AV.parts
  (opnd (mkL Try.prog 0 (fun x => none) tab21 rowssplit)
  [AV.junk, AV.sl zl (Ref.mk 1 0 0 0) false (List.length l) Cap.any, AV.junk, AV.junk, AV.junk, AV.junk, AV.junk, AV.junk,
  AV.sl (decide (splitF l 0 (List.take i ws) = [])) (Ref.mk 2 0 0 0) false (List.length (splitF l 0 (List.take i ws)))
  Cap.own,
  AV.int IntKind.i64 false (sumI (List.take i ws)), AV.junk, AV.int IntKind.i64 false (List.getD ws (Int.toNat (i : Int) * 1 + 0 + 0) (0 : Int)),
  AV.int IntKind.i64 false
  (IntKind.wrap IntKind.i64
  ((BitVec.toNat
  (BitVec.ofInt (64)
  (IntKind.wrap IntKind.i64
  (List.getD l (Int.toNat (IntKind.wrap IntKind.i64 (Int.tdiv (sumI (List.take i ws)) (16 : Int))) * 1 + 0 + 0) (0 : Int) *
  (65536 : Int))) |||
  BitVec.ofInt (64)
  (IntKind.wrap IntKind.i64
  ((BitVec.toNat
  (BitVec.ofInt (64)
  (List.getD l
  (Int.toNat (IntKind.wrap IntKind.i64 (IntKind.wrap IntKind.i64 (Int.tdiv (sumI (List.take i ws)) (16 : Int)) + (1 : Int))) * 1 + 0 +
  0)
  (0 : Int)) &&&
  BitVec.ofInt (64) (65535 : Int))) : Int)))) : Int)),
  AV.junk, AV.junk, AV.junk, AV.junk, AV.junk, AV.junk, AV.junk, AV.junk, AV.junk, AV.junk, AV.junk, AV.junk,
  AV.sl zws (Ref.mk 0 0 0 0) false (List.length ws) Cap.any, AV.int IntKind.i64 false ((List.length ws) : Int), AV.int IntKind.i64 false (i : Int),
  AV.bool true true, AV.ptr (Ref.mk (0) (Int.toNat (i : Int)) (1) (0)),
  AV.int IntKind.i64 false (List.getD ws (Int.toNat (i : Int) * 1 + 0 + 0) (0 : Int)),
  AV.sl zl (Ref.mk 1 0 0 0) false (List.length l) Cap.any, AV.int IntKind.i64 false (sumI (List.take i ws)),
  AV.int IntKind.i64 false (IntKind.wrap IntKind.i64 (Int.tdiv (sumI (List.take i ws)) (16 : Int))),
  AV.ptr (Ref.mk (1) (Int.toNat (IntKind.wrap IntKind.i64 (Int.tdiv (sumI (List.take i ws)) (16 : Int)))) (1) (0)),
  AV.int IntKind.i64 false (List.getD l (Int.toNat (IntKind.wrap IntKind.i64 (Int.tdiv (sumI (List.take i ws)) (16 : Int))) * 1 + 0 + 0) (0 : Int)),
  AV.int IntKind.i64 false
  (IntKind.wrap IntKind.i64
  (List.getD l (Int.toNat (IntKind.wrap IntKind.i64 (Int.tdiv (sumI (List.take i ws)) (16 : Int))) * 1 + 0 + 0) (0 : Int) * (65536 : Int))),
  AV.int IntKind.i64 false (sumI (List.take i ws)), AV.int IntKind.i64 false (IntKind.wrap IntKind.i64 (Int.tdiv (sumI (List.take i ws)) (16 : Int))),
  AV.int IntKind.i64 false (IntKind.wrap IntKind.i64 (IntKind.wrap IntKind.i64 (Int.tdiv (sumI (List.take i ws)) (16 : Int)) + (1 : Int))),
  AV.sl zl (Ref.mk 1 0 0 0) false (List.length l) Cap.any, AV.int IntKind.i64 false ((List.length l) : Int), AV.bool true true,
  AV.int IntKind.i64 false
  (IntKind.wrap IntKind.i64
  (List.getD l (Int.toNat (IntKind.wrap IntKind.i64 (Int.tdiv (sumI (List.take i ws)) (16 : Int))) * 1 + 0 + 0) (0 : Int) * (65536 : Int))),
  AV.sl zl (Ref.mk 1 0 0 0) false (List.length l) Cap.any, AV.int IntKind.i64 false (sumI (List.take i ws)),
  AV.int IntKind.i64 false (IntKind.wrap IntKind.i64 (Int.tdiv (sumI (List.take i ws)) (16 : Int))),
  AV.int IntKind.i64 false (IntKind.wrap IntKind.i64 (IntKind.wrap IntKind.i64 (Int.tdiv (sumI (List.take i ws)) (16 : Int)) + (1 : Int))),
  AV.ptr (Ref.mk (1) (Int.toNat (IntKind.wrap IntKind.i64 (IntKind.wrap IntKind.i64 (Int.tdiv (sumI (List.take i ws)) (16 : Int)) + (1 : Int)))) (1) (0)),
  AV.int IntKind.i64 false
  (List.getD l
  (Int.toNat (IntKind.wrap IntKind.i64 (IntKind.wrap IntKind.i64 (Int.tdiv (sumI (List.take i ws)) (16 : Int)) + (1 : Int))) * 1 + 0 + 0) (0 : Int)),
  AV.int IntKind.i64 false
  (IntKind.wrap IntKind.i64
  ((BitVec.toNat
  (BitVec.ofInt (64)
  (List.getD l
  (Int.toNat (IntKind.wrap IntKind.i64 (IntKind.wrap IntKind.i64 (Int.tdiv (sumI (List.take i ws)) (16 : Int)) + (1 : Int))) * 1 + 0 + 0)
  (0 : Int)) &&&
  BitVec.ofInt (64) (65535 : Int))) : Int)),
  AV.int IntKind.i64 false
  (IntKind.wrap IntKind.i64
  ((BitVec.toNat
  (BitVec.ofInt (64)
  (IntKind.wrap IntKind.i64
  (List.getD l (Int.toNat (IntKind.wrap IntKind.i64 (Int.tdiv (sumI (List.take i ws)) (16 : Int))) * 1 + 0 + 0) (0 : Int) *
  (65536 : Int))) |||
  BitVec.ofInt (64)
  (IntKind.wrap IntKind.i64
  ((BitVec.toNat
  (BitVec.ofInt (64)
  (List.getD l
  (Int.toNat (IntKind.wrap IntKind.i64 (IntKind.wrap IntKind.i64 (Int.tdiv (sumI (List.take i ws)) (16 : Int)) + (1 : Int))) * 1 + 0 +
  0)
  (0 : Int)) &&&
  BitVec.ofInt (64) (65535 : Int))) : Int)))) : Int)),
  AV.sl (decide (splitF l 0 (List.take i ws) = [])) (Ref.mk 2 0 0 0) false (List.length (splitF l 0 (List.take i ws)))
  Cap.own,
  AV.int IntKind.i64 false
  (IntKind.wrap IntKind.i64
  ((BitVec.toNat
  (BitVec.ofInt (64)
  (IntKind.wrap IntKind.i64
  (List.getD l (Int.toNat (IntKind.wrap IntKind.i64 (Int.tdiv (sumI (List.take i ws)) (16 : Int))) * 1 + 0 + 0) (0 : Int) *
  (65536 : Int))) |||
  BitVec.ofInt (64)
  (IntKind.wrap IntKind.i64
  ((BitVec.toNat
  (BitVec.ofInt (64)
  (List.getD l
  (Int.toNat (IntKind.wrap IntKind.i64 (IntKind.wrap IntKind.i64 (Int.tdiv (sumI (List.take i ws)) (16 : Int)) + (1 : Int))) * 1 + 0 +
  0)
  (0 : Int)) &&&
  BitVec.ofInt (64) (65535 : Int))) : Int)))) : Int)),
  AV.int IntKind.i64 false (sumI (List.take i ws)), AV.int IntKind.i64 false (Int.tmod (sumI (List.take i ws)) (16 : Int)),
  AV.int IntKind.i64 false (IntKind.wrap IntKind.i64 ((32 : Int) - Int.tmod (sumI (List.take i ws)) (16 : Int))),
  AV.int IntKind.i64 false (List.getD ws (Int.toNat (i : Int) * 1 + 0 + 0) (0 : Int)),
  AV.int IntKind.i64 false
  (IntKind.wrap IntKind.i64
  (IntKind.wrap IntKind.i64 ((32 : Int) - Int.tmod (sumI (List.take i ws)) (16 : Int)) - List.getD ws (Int.toNat (i : Int) * 1 + 0 + 0) (0 : Int))),
  AV.int IntKind.i64 false
  (Int.fdiv
  (IntKind.wrap IntKind.i64
  ((BitVec.toNat
  (BitVec.ofInt (64)
  (IntKind.wrap IntKind.i64
  (List.getD l (Int.toNat (IntKind.wrap IntKind.i64 (Int.tdiv (sumI (List.take i ws)) (16 : Int))) * 1 + 0 + 0) (0 : Int) *
  (65536 : Int))) |||
  BitVec.ofInt (64)
  (IntKind.wrap IntKind.i64
  ((BitVec.toNat
  (BitVec.ofInt (64)
  (List.getD l
  (Int.toNat (IntKind.wrap IntKind.i64 (IntKind.wrap IntKind.i64 (Int.tdiv (sumI (List.take i ws)) (16 : Int)) + (1 : Int))) * 1 + 0 +
  0)
  (0 : Int)) &&&
  BitVec.ofInt (64) (65535 : Int))) : Int)))) : Int))
  ((2 : Int) ^
  min
  (Int.toNat
  (IntKind.wrap IntKind.i64
  (IntKind.wrap IntKind.i64 ((32 : Int) - Int.tmod (sumI (List.take i ws)) (16 : Int)) -
  List.getD ws (Int.toNat (i : Int) * 1 + 0 + 0) (0 : Int))))
  (64))),
  AV.int IntKind.i64 false (List.getD ws (Int.toNat (i : Int) * 1 + 0 + 0) (0 : Int)),
  AV.int IntKind.i64 false
  (IntKind.wrap IntKind.i64 ((1 : Int) * (2 : Int) ^ min (Int.toNat (List.getD ws (Int.toNat (i : Int) * 1 + 0 + 0) (0 : Int))) (64))),
  AV.int IntKind.i64 false
  (IntKind.wrap IntKind.i64
  (IntKind.wrap IntKind.i64 ((1 : Int) * (2 : Int) ^ min (Int.toNat (List.getD ws (Int.toNat (i : Int) * 1 + 0 + 0) (0 : Int))) (64)) - (1 : Int))),
  AV.int IntKind.i64 false
  (IntKind.wrap IntKind.i64
  ((BitVec.toNat
  (BitVec.ofInt (64)
  (Int.fdiv
  (IntKind.wrap IntKind.i64
  ((BitVec.toNat
  (BitVec.ofInt (64)
  (IntKind.wrap IntKind.i64
  (List.getD l (Int.toNat (IntKind.wrap IntKind.i64 (Int.tdiv (sumI (List.take i ws)) (16 : Int))) * 1 + 0 + 0) (0 : Int) *
  (65536 : Int))) |||
  BitVec.ofInt (64)
  (IntKind.wrap IntKind.i64
  ((BitVec.toNat
  (BitVec.ofInt (64)
  (List.getD l
  (Int.toNat (IntKind.wrap IntKind.i64 (IntKind.wrap IntKind.i64 (Int.tdiv (sumI (List.take i ws)) (16 : Int)) + (1 : Int))) * 1 +
  0 +
  0)
  (0 : Int)) &&&
  BitVec.ofInt (64) (65535 : Int))) : Int)))) : Int))
  ((2 : Int) ^
  min
  (Int.toNat
  (IntKind.wrap IntKind.i64
  (IntKind.wrap IntKind.i64 ((32 : Int) - Int.tmod (sumI (List.take i ws)) (16 : Int)) -
  List.getD ws (Int.toNat (i : Int) * 1 + 0 + 0) (0 : Int))))
  (64))) &&&
  BitVec.ofInt (64)
  (IntKind.wrap IntKind.i64
  (IntKind.wrap IntKind.i64 ((1 : Int) * (2 : Int) ^ min (Int.toNat (List.getD ws (Int.toNat (i : Int) * 1 + 0 + 0) (0 : Int))) (64)) -
  (1 : Int))))) : Int)),
  AV.junk, AV.junk, AV.junk, AV.junk, AV.junk, AV.junk, AV.junk]
  (Operand.tmp 63)) ++
  List.drop (0 * 1 + 1) (zerosOf (List.map ofCell [Value.int IntKind.i64 (0 : Int)]) 1)))))) =
  1 * 1) &&
  decide (splitF l 0 (List.take i ws) = []) == decide ((splitF l 0 (List.take i ws)) = []))
  (Tree.ret
  (Ex.norm,
  St.mk
  [AV.junk, AV.sl zl (Ref.mk (1) (0) (0) (0)) false (List.length l) Cap.any, AV.junk, AV.junk, AV.junk, AV.junk, AV.junk, AV.junk,
  AV.sl (decide (splitF l 0 (List.take i ws) = []) && decide (1 = 0)) (Ref.mk (2) (0) (0) (0)) false
  (List.length (splitF l 0 (List.take i ws)) + 1) Cap.own,
  AV.int IntKind.i64 false (IntKind.wrap IntKind.i64 (sumI (List.take i ws) + List.getD ws (Int.toNat (i : Int) * 1 + 0 + 0) (0 : Int))), AV.junk, AV.junk, AV.junk, AV.junk,
  AV.junk, AV.junk, AV.junk, AV.junk, AV.junk, AV.junk, AV.junk, AV.junk, AV.junk, AV.junk, AV.junk,
  AV.sl zws (Ref.mk (0) (0) (0) (0)) false (List.length ws) Cap.any, AV.int IntKind.i64 false ((List.length ws) : Int),
  AV.int IntKind.i64 false (IntKind.wrap IntKind.i64 ((i : Int) + (1 : Int))), AV.junk, AV.junk, AV.junk, AV.junk, AV.junk, AV.junk, AV.junk, AV.junk, AV.junk, AV.junk, AV.junk, AV.junk, AV.junk, AV.junk,
  AV.junk, AV.junk, AV.junk, AV.junk, AV.junk, AV.junk, AV.junk, AV.junk, AV.junk, AV.junk, AV.junk, AV.junk, AV.junk, AV.junk, AV.junk, AV.junk, AV.junk, AV.junk, AV.junk, AV.junk, AV.junk, AV.junk,
  AV.junk, AV.junk, AV.junk, AV.junk, AV.junk, AV.junk, AV.junk]
  [some (Blk.mk (3) false false true (Data.ints IntKind.i64 ws)), some (Blk.mk (3) false false true (Data.ints IntKind.i64 l)),
  some
  (Blk.mk (3) true (Bool.rec false (decide (1 = 0)) (decide ((splitF l 0 (List.take i ws)) = [])))
  true
  (Data.ints IntKind.i64
  (splitF l 0 (List.take i ws) ++
  [IntKind.wrap IntKind.i64
  ((BitVec.toNat
  (BitVec.ofInt (64)
  (Int.fdiv
  (IntKind.wrap IntKind.i64
  ((BitVec.toNat
  (BitVec.ofInt (64)
  (IntKind.wrap IntKind.i64
  (List.getD l (Int.toNat (IntKind.wrap IntKind.i64 (Int.tdiv (sumI (List.take i ws)) (16 : Int))) * 1 + 0 + 0) (0 : Int) *
  (65536 : Int))) |||
  BitVec.ofInt (64)
  (IntKind.wrap IntKind.i64
  ((BitVec.toNat
  (BitVec.ofInt (64)
  (List.getD l
  (Int.toNat (IntKind.wrap IntKind.i64 (IntKind.wrap IntKind.i64 (Int.tdiv (sumI (List.take i ws)) (16 : Int)) + (1 : Int))) * 1 + 0 +
  0)
  (0 : Int)) &&&
  BitVec.ofInt (64) (65535 : Int))) : Int)))) : Int))
  ((2 : Int) ^
  min
  (Int.toNat
  (IntKind.wrap IntKind.i64
  (IntKind.wrap IntKind.i64 ((32 : Int) - Int.tmod (sumI (List.take i ws)) (16 : Int)) -
  List.getD ws (Int.toNat (i : Int) * 1 + 0 + 0) (0 : Int))))
  (64))) &&&
  BitVec.ofInt (64)
  (IntKind.wrap IntKind.i64
  (IntKind.wrap IntKind.i64 ((1 : Int) * (2 : Int) ^ min (Int.toNat (List.getD ws (Int.toNat (i : Int) * 1 + 0 + 0) (0 : Int))) (64)) -
  (1 : Int))))) : Int)])))]))
  Tree.fail)
  Tree.fail)
  Tree.fail)
  Tree.fail)
  Tree.fail)
  Tree.fail)
  Tree.fail)
  Tree.fail)
  (Tree.br true
  (Tree.br
  (!decide
  (IntKind.wrap IntKind.i64 (IntKind.wrap IntKind.i64 ((32 : Int) - Int.tmod (sumI (List.take i ws)) (16 : Int)) - List.getD ws (Int.toNat (i : Int) * 1 + 0 + 0) (0 : Int)) < (0 : Int)))
  (Tree.br (!decide (List.getD ws (Int.toNat (i : Int) * 1 + 0 + 0) (0 : Int) < (0 : Int)))
  (Tree.br (decide (((List.length (splitF l 0 (List.take i ws)) + 1) : Int) ≤ most48 ∧ (((List.length (splitF l 0 (List.take i ws)) + 1) * 8) : Int) ≤ most48))
  (Tree.br
  (decide
  (List.length (splitF l 0 (List.take i ws)) * 1 = Data.size (Data.ints IntKind.i64 (splitF l 0 (List.take i ws))) ∧
  Data.size
  (Data.cells
  (List.take (1 * 1)
  (List.drop (0)
  (List.take (0 * 1) (zerosOf (List.map ofCell [Value.int IntKind.i64 (0 : Int)]) 1) ++
  (AV.parts
  (opnd (mkL Try.prog 0 (fun x => none) tab21 rowssplit)
  [AV.junk, AV.sl zl (Ref.mk 1 0 0 0) false (List.length l) Cap.any, AV.junk, AV.junk, AV.junk, AV.junk, AV.junk, AV.junk,
  AV.sl (decide (splitF l 0 (List.take i ws) = [])) (Ref.mk 2 0 0 0) false (List.length (splitF l 0 (List.take i ws)))
  Cap.own,
  AV.int IntKind.i64 false (sumI (List.take i ws)), AV.junk, AV.int IntKind.i64 false (List.getD ws (Int.toNat (i : Int) * 1 + 0 + 0) (0 : Int)),
  AV.int IntKind.i64 false
  (IntKind.wrap IntKind.i64
  (List.getD l (Int.toNat (IntKind.wrap IntKind.i64 (Int.tdiv (sumI (List.take i ws)) (16 : Int))) * 1 + 0 + 0) (0 : Int) * (65536 : Int))),
  AV.junk, AV.junk, AV.junk, AV.junk, AV.junk, AV.junk, AV.junk, AV.junk, AV.junk, AV.junk, AV.junk, AV.junk,
  AV.sl zws (Ref.mk 0 0 0 0) false (List.length ws) Cap.any, AV.int IntKind.i64 false ((List.length ws) : Int), AV.int IntKind.i64 false (i : Int),
  AV.bool true true, AV.ptr (Ref.mk (0) (Int.toNat (i : Int)) (1) (0)),
  AV.int IntKind.i64 false (List.getD ws (Int.toNat (i : Int) * 1 + 0 + 0) (0 : Int)),
  AV.sl zl (Ref.mk 1 0 0 0) false (List.length l) Cap.any, AV.int IntKind.i64 false (sumI (List.take i ws)),
  AV.int IntKind.i64 false (IntKind.wrap IntKind.i64 (Int.tdiv (sumI (List.take i ws)) (16 : Int))),
  AV.ptr (Ref.mk (1) (Int.toNat (IntKind.wrap IntKind.i64 (Int.tdiv (sumI (List.take i ws)) (16 : Int)))) (1) (0)),
  AV.int IntKind.i64 false (List.getD l (Int.toNat (IntKind.wrap IntKind.i64 (Int.tdiv (sumI (List.take i ws)) (16 : Int))) * 1 + 0 + 0) (0 : Int)),
  AV.int IntKind.i64 false
  (IntKind.wrap IntKind.i64
  (List.getD l (Int.toNat (IntKind.wrap IntKind.i64 (Int.tdiv (sumI (List.take i ws)) (16 : Int))) * 1 + 0 + 0) (0 : Int) * (65536 : Int))),
  AV.int IntKind.i64 false (sumI (List.take i ws)), AV.int IntKind.i64 false (IntKind.wrap IntKind.i64 (Int.tdiv (sumI (List.take i ws)) (16 : Int))),
  AV.int IntKind.i64 false (IntKind.wrap IntKind.i64 (IntKind.wrap IntKind.i64 (Int.tdiv (sumI (List.take i ws)) (16 : Int)) + (1 : Int))),
  AV.sl zl (Ref.mk 1 0 0 0) false (List.length l) Cap.any, AV.int IntKind.i64 false ((List.length l) : Int), AV.bool true false, AV.junk, AV.junk, AV.junk,
  AV.junk, AV.junk, AV.junk, AV.junk, AV.junk, AV.junk,
  AV.sl (decide (splitF l 0 (List.take i ws) = [])) (Ref.mk 2 0 0 0) false (List.length (splitF l 0 (List.take i ws)))
  Cap.own,
  AV.int IntKind.i64 false
  (IntKind.wrap IntKind.i64
  (List.getD l (Int.toNat (IntKind.wrap IntKind.i64 (Int.tdiv (sumI (List.take i ws)) (16 : Int))) * 1 + 0 + 0) (0 : Int) * (65536 : Int))),
  AV.int IntKind.i64 false (sumI (List.take i ws)), AV.int IntKind.i64 false (Int.tmod (sumI (List.take i ws)) (16 : Int)),
  AV.int IntKind.i64 false (IntKind.wrap IntKind.i64 ((32 : Int) - Int.tmod (sumI (List.take i ws)) (16 : Int))),
  AV.int IntKind.i64 false (List.getD ws (Int.toNat (i : Int) * 1 + 0 + 0) (0 : Int)),
  AV.int IntKind.i64 false
  (IntKind.wrap IntKind.i64
  (IntKind.wrap IntKind.i64 ((32 : Int) - Int.tmod (sumI (List.take i ws)) (16 : Int)) - List.getD ws (Int.toNat (i : Int) * 1 + 0 + 0) (0 : Int))),
  AV.int IntKind.i64 false
  (Int.fdiv
  (IntKind.wrap IntKind.i64
  (List.getD l (Int.toNat (IntKind.wrap IntKind.i64 (Int.tdiv (sumI (List.take i ws)) (16 : Int))) * 1 + 0 + 0) (0 : Int) * (65536 : Int)))
  ((2 : Int) ^
  min
  (Int.toNat
  (IntKind.wrap IntKind.i64
  (IntKind.wrap IntKind.i64 ((32 : Int) - Int.tmod (sumI (List.take i ws)) (16 : Int)) - List.getD ws (Int.toNat (i : Int) * 1 + 0 + 0) (0 : Int))))
  (64))),
  AV.int IntKind.i64 false (List.getD ws (Int.toNat (i : Int) * 1 + 0 + 0) (0 : Int)),
  AV.int IntKind.i64 false
  (IntKind.wrap IntKind.i64 ((1 : Int) * (2 : Int) ^ min (Int.toNat (List.getD ws (Int.toNat (i : Int) * 1 + 0 + 0) (0 : Int))) (64))),
  AV.int IntKind.i64 false
  (IntKind.wrap IntKind.i64
  (IntKind.wrap IntKind.i64 ((1 : Int) * (2 : Int) ^ min (Int.toNat (List.getD ws (Int.toNat (i : Int) * 1 + 0 + 0) (0 : Int))) (64)) - (1 : Int))),
  AV.int IntKind.i64 false
  (IntKind.wrap IntKind.i64
  ((BitVec.toNat
  (BitVec.ofInt (64)
  (Int.fdiv
  (IntKind.wrap IntKind.i64
  (List.getD l (Int.toNat (IntKind.wrap IntKind.i64 (Int.tdiv (sumI (List.take i ws)) (16 : Int))) * 1 + 0 + 0) (0 : Int) * (65536 : Int)))
  ((2 : Int) ^
  min
  (Int.toNat
  (IntKind.wrap IntKind.i64
  (IntKind.wrap IntKind.i64 ((32 : Int) - Int.tmod (sumI (List.take i ws)) (16 : Int)) -
  List.getD ws (Int.toNat (i : Int) * 1 + 0 + 0) (0 : Int))))
  (64))) &&&
  BitVec.ofInt (64)
  (IntKind.wrap IntKind.i64
  (IntKind.wrap IntKind.i64 ((1 : Int) * (2 : Int) ^ min (Int.toNat (List.getD ws (Int.toNat (i : Int) * 1 + 0 + 0) (0 : Int))) (64)) -
  (1 : Int))))) : Int)),
  AV.junk, AV.junk, AV.junk, AV.junk, AV.junk, AV.junk, AV.junk]
  (Operand.tmp 63)) ++
  List.drop (0 * 1 + 1) (zerosOf (List.map ofCell [Value.int IntKind.i64 (0 : Int)]) 1)))))) =
  1 * 1) &&
  decide (splitF l 0 (List.take i ws) = []) == decide ((splitF l 0 (List.take i ws)) = []))
  (Tree.ret
  (Ex.norm,
  St.mk
  [AV.junk, AV.sl zl (Ref.mk (1) (0) (0) (0)) false (List.length l) Cap.any, AV.junk, AV.junk, AV.junk, AV.junk, AV.junk, AV.junk,
  AV.sl (decide (splitF l 0 (List.take i ws) = []) && decide (1 = 0)) (Ref.mk (2) (0) (0) (0)) false
  (List.length (splitF l 0 (List.take i ws)) + 1) Cap.own,
  AV.int IntKind.i64 false (IntKind.wrap IntKind.i64 (sumI (List.take i ws) + List.getD ws (Int.toNat (i : Int) * 1 + 0 + 0) (0 : Int))), AV.junk, AV.junk, AV.junk, AV.junk,
  AV.junk, AV.junk, AV.junk, AV.junk, AV.junk, AV.junk, AV.junk, AV.junk, AV.junk, AV.junk, AV.junk, AV.sl zws (Ref.mk (0) (0) (0) (0)) false (List.length ws) Cap.any,
  AV.int IntKind.i64 false ((List.length ws) : Int), AV.int IntKind.i64 false (IntKind.wrap IntKind.i64 ((i : Int) + (1 : Int))), AV.junk, AV.junk, AV.junk, AV.junk, AV.junk, AV.junk, AV.junk, AV.junk, AV.junk,
  AV.junk, AV.junk, AV.junk, AV.junk, AV.junk, AV.junk, AV.junk, AV.junk, AV.junk, AV.junk, AV.junk, AV.junk, AV.junk, AV.junk, AV.junk, AV.junk, AV.junk, AV.junk, AV.junk, AV.junk, AV.junk, AV.junk, AV.junk,
  AV.junk, AV.junk, AV.junk, AV.junk, AV.junk, AV.junk, AV.junk, AV.junk, AV.junk, AV.junk, AV.junk]
  [some (Blk.mk (3) false false true (Data.ints IntKind.i64 ws)), some (Blk.mk (3) false false true (Data.ints IntKind.i64 l)),
  some
  (Blk.mk (3) true (Bool.rec false (decide (1 = 0)) (decide ((splitF l 0 (List.take i ws)) = []))) true
  (Data.ints IntKind.i64
  (splitF l 0 (List.take i ws) ++
  [IntKind.wrap IntKind.i64
  ((BitVec.toNat
  (BitVec.ofInt (64)
  (Int.fdiv
  (IntKind.wrap IntKind.i64
  (List.getD l (Int.toNat (IntKind.wrap IntKind.i64 (Int.tdiv (sumI (List.take i ws)) (16 : Int))) * 1 + 0 + 0) (0 : Int) * (65536 : Int)))
  ((2 : Int) ^
  min
  (Int.toNat
  (IntKind.wrap IntKind.i64
  (IntKind.wrap IntKind.i64 ((32 : Int) - Int.tmod (sumI (List.take i ws)) (16 : Int)) - List.getD ws (Int.toNat (i : Int) * 1 + 0 + 0) (0 : Int))))
  (64))) &&&
  BitVec.ofInt (64)
  (IntKind.wrap IntKind.i64
  (IntKind.wrap IntKind.i64 ((1 : Int) * (2 : Int) ^ min (Int.toNat (List.getD ws (Int.toNat (i : Int) * 1 + 0 + 0) (0 : Int))) (64)) -
  (1 : Int))))) : Int)])))]))
  Tree.fail)
  Tree.fail)
  Tree.fail)
  Tree.fail)
  Tree.fail))
  Tree.fail)
  Tree.fail)
  Tree.fail)
  Tree.fail)
  Tree.fail)
  Tree.fail)
  (Tree.ret
  (Ex.exit (0),
  St.mk
  [AV.junk, AV.junk, AV.junk, AV.junk, AV.junk, AV.junk, AV.junk, AV.junk,
  AV.sl (decide (splitF l 0 (List.take i ws) = [])) (Ref.mk (2) (0) (0) (0)) false (List.length (splitF l 0 (List.take i ws))) Cap.own, AV.junk, AV.junk, AV.junk,
  AV.junk, AV.junk, AV.junk, AV.junk, AV.junk, AV.junk, AV.junk, AV.junk, AV.junk, AV.junk, AV.junk, AV.junk, AV.junk, AV.junk, AV.junk, AV.junk, AV.junk, AV.junk, AV.junk, AV.junk, AV.junk, AV.junk, AV.junk, AV.junk, AV.junk,
  AV.junk, AV.junk, AV.junk, AV.junk, AV.junk, AV.junk, AV.junk, AV.junk, AV.junk, AV.junk, AV.junk, AV.junk, AV.junk, AV.junk, AV.junk, AV.junk, AV.junk, AV.junk, AV.junk, AV.junk, AV.junk, AV.junk, AV.junk, AV.junk, AV.junk,
  AV.junk, AV.junk, AV.junk, AV.junk, AV.junk, AV.junk, AV.junk, AV.junk, AV.junk]
  [some (Blk.mk (3) false false true (Data.ints IntKind.i64 ws)), some (Blk.mk (3) false false true (Data.ints IntKind.i64 l)),
  some
  (Blk.mk (3) true (decide ((splitF l 0 (List.take i ws)) = [])) true (Data.ints IntKind.i64 (splitF l 0 (List.take i ws))))])) : Tree (Ex × St)).Sat (Post hdsplit_0 ressplit_0 musplit_0 ⟨zws, ws, zl, l, i⟩ ex r) := by
  simp only [oksplit_0, outsplit_0, Tree.runs] at hok hr
  obtain ⟨hm, hs, hzw, hzl, hlk, hi⟩ := hok
  obtain ⟨h256, hbv⟩ := may_ok hm
  have hg := fun h => badV_get (i := i) hbv h
  obtain ⟨lk1, lk2⟩ := look_ok hlk
  have sq := sumN_eq (ws.take i) (any_take_no hbv i)
  have sl := fun h => sum_next (ws := ws) (i := i) hbv h
  have hsz : sizeZ ws = (sumI ws + 15) / 16 := by unfold sizeZ; rw [hbv, if_neg (by decide)]
  have hln := splitF_len l (ws.take i) 0
  rw [List.length_take] at sq hln
  obtain ⟨a, ha⟩ := Int.eq_ofNat_of_zero_le sq.2.1
  have e1 : IntKind.i64.wrap (Int.tdiv (sumI (ws.take i)) 16) = ((a / 16 : Nat) : Int) := by rw [ha, Int.tdiv_eq_ediv_of_nonneg (by omega), w64]; omega
  have e2 : IntKind.i64.wrap (((a / 16 : Nat) : Int) + 1) = ((a / 16 + 1 : Nat) : Int) := by rw [w64]; omega
  have e3 : IntKind.i64.wrap (32 - Int.tmod (sumI (ws.take i)) 16) = ((32 - a % 16 : Nat) : Int) := by rw [ha, Int.tmod_eq_emod_of_nonneg (by omega), w64]; omega
  have e4 : i < ws.length → IntKind.i64.wrap (((32 - a % 16 : Nat) : Int) - ws.getD i 0) = ((32 - a % 16 - (ws.getD i 0).toNat : Nat) : Int) := fun h => by have := hg h; rw [w64]; omega
  have hq : i < ws.length → a / 16 < l.length ∧ 0 ≤ l.getD (a / 16) 0 ∧ l.getD (a / 16) 0 ≤ 65535 := fun h => by
    have h1 := hg h
    have h2 := sl h
    exact ⟨by omega, look_get lk1 (by omega) (by omega)⟩
  simp only [e1, e2, e3, Int.toNat_natCast, Nat.mul_one, Nat.add_zero]
  refine Tree.Sat.br (fun h1 => ?_) (fun h1 => ?_)
  · (try simp only [decide_eq_true_eq, decide_eq_false_iff_not, Bool.not_eq_true', Bool.not_eq_false', beq_iff_eq, beq_eq_false_iff_ne, Int.not_lt, Int.not_le, ge_iff_le, gt_iff_lt, ne_eq, Bool.false_eq_true, Bool.true_eq_false, not_true_eq_false, not_false_eq_true, Bool.and_eq_true, Bool.not_eq_eq_eq_not, Bool.not_true, Bool.not_false, bne_iff_ne, bne_eq_false_iff_eq, Int.toNat_natCast, Nat.mul_one, Nat.add_zero, Nat.zero_add, List.take_length, List.drop_zero] at h1)
    all_goals
      refine Tree.Sat.br (fun h2 => ?_) (fun h2 => ?_)
      · (try simp only [decide_eq_true_eq, decide_eq_false_iff_not, Bool.not_eq_true', Bool.not_eq_false', beq_iff_eq, beq_eq_false_iff_ne, Int.not_lt, Int.not_le, ge_iff_le, gt_iff_lt, ne_eq, Bool.false_eq_true, Bool.true_eq_false, not_true_eq_false, not_false_eq_true, Bool.and_eq_true, Bool.not_eq_eq_eq_not, Bool.not_true, Bool.not_false, bne_iff_ne, bne_eq_false_iff_eq, Int.toNat_natCast, Nat.mul_one, Nat.add_zero, Nat.zero_add, List.take_length, List.drop_zero] at h2)
        all_goals
          refine Tree.Sat.br (fun h3 => ?_) (fun h3 => ?_)
          · (try simp only [decide_eq_true_eq, decide_eq_false_iff_not, Bool.not_eq_true', Bool.not_eq_false', beq_iff_eq, beq_eq_false_iff_ne, Int.not_lt, Int.not_le, ge_iff_le, gt_iff_lt, ne_eq, Bool.false_eq_true, Bool.true_eq_false, not_true_eq_false, not_false_eq_true, Bool.and_eq_true, Bool.not_eq_eq_eq_not, Bool.not_true, Bool.not_false, bne_iff_ne, bne_eq_false_iff_eq, Int.toNat_natCast, Nat.mul_one, Nat.add_zero, Nat.zero_add, List.take_length, List.drop_zero] at h3)
            all_goals
              refine Tree.Sat.br (fun h4 => ?_) (fun h4 => ?_)
              · (try simp only [decide_eq_true_eq, decide_eq_false_iff_not, Bool.not_eq_true', Bool.not_eq_false', beq_iff_eq, beq_eq_false_iff_ne, Int.not_lt, Int.not_le, ge_iff_le, gt_iff_lt, ne_eq, Bool.false_eq_true, Bool.true_eq_false, not_true_eq_false, not_false_eq_true, Bool.and_eq_true, Bool.not_eq_eq_eq_not, Bool.not_true, Bool.not_false, bne_iff_ne, bne_eq_false_iff_eq, Int.toNat_natCast, Nat.mul_one, Nat.add_zero, Nat.zero_add, List.take_length, List.drop_zero] at h4)
                all_goals
                  refine Tree.Sat.br (fun h5 => ?_) (fun h5 => ?_)
                  · (try simp only [decide_eq_true_eq, decide_eq_false_iff_not, Bool.not_eq_true', Bool.not_eq_false', beq_iff_eq, beq_eq_false_iff_ne, Int.not_lt, Int.not_le, ge_iff_le, gt_iff_lt, ne_eq, Bool.false_eq_true, Bool.true_eq_false, not_true_eq_false, not_false_eq_true, Bool.and_eq_true, Bool.not_eq_eq_eq_not, Bool.not_true, Bool.not_false, bne_iff_ne, bne_eq_false_iff_eq, Int.toNat_natCast, Nat.mul_one, Nat.add_zero, Nat.zero_add, List.take_length, List.drop_zero] at h5)
                    all_goals
                      refine Tree.Sat.br (fun h6 => ?_) (fun h6 => ?_)
                      · (try simp only [decide_eq_true_eq, decide_eq_false_iff_not, Bool.not_eq_true', Bool.not_eq_false', beq_iff_eq, beq_eq_false_iff_ne, Int.not_lt, Int.not_le, ge_iff_le, gt_iff_lt, ne_eq, Bool.false_eq_true, Bool.true_eq_false, not_true_eq_false, not_false_eq_true, Bool.and_eq_true, Bool.not_eq_eq_eq_not, Bool.not_true, Bool.not_false, bne_iff_ne, bne_eq_false_iff_eq, Int.toNat_natCast, Nat.mul_one, Nat.add_zero, Nat.zero_add, List.take_length, List.drop_zero] at h6)
                        all_goals
                          refine Tree.Sat.br (fun h7 => ?_) (fun h7 => ?_)
                          · (try simp only [decide_eq_true_eq, decide_eq_false_iff_not, Bool.not_eq_true', Bool.not_eq_false', beq_iff_eq, beq_eq_false_iff_ne, Int.not_lt, Int.not_le, ge_iff_le, gt_iff_lt, ne_eq, Bool.false_eq_true, Bool.true_eq_false, not_true_eq_false, not_false_eq_true, Bool.and_eq_true, Bool.not_eq_eq_eq_not, Bool.not_true, Bool.not_false, bne_iff_ne, bne_eq_false_iff_eq, Int.toNat_natCast, Nat.mul_one, Nat.add_zero, Nat.zero_add, List.take_length, List.drop_zero] at h7)
                            all_goals
                              refine Tree.Sat.br (fun h8 => ?_) (fun h8 => ?_)
                              · (try simp only [decide_eq_true_eq, decide_eq_false_iff_not, Bool.not_eq_true', Bool.not_eq_false', beq_iff_eq, beq_eq_false_iff_ne, Int.not_lt, Int.not_le, ge_iff_le, gt_iff_lt, ne_eq, Bool.false_eq_true, Bool.true_eq_false, not_true_eq_false, not_false_eq_true, Bool.and_eq_true, Bool.not_eq_eq_eq_not, Bool.not_true, Bool.not_false, bne_iff_ne, bne_eq_false_iff_eq, Int.toNat_natCast, Nat.mul_one, Nat.add_zero, Nat.zero_add, List.take_length, List.drop_zero] at h8)
                                all_goals
                                  refine Tree.Sat.br (fun h9 => ?_) (fun h9 => ?_)
                                  · (try simp only [decide_eq_true_eq, decide_eq_false_iff_not, Bool.not_eq_true', Bool.not_eq_false', beq_iff_eq, beq_eq_false_iff_ne, Int.not_lt, Int.not_le, ge_iff_le, gt_iff_lt, ne_eq, Bool.false_eq_true, Bool.true_eq_false, not_true_eq_false, not_false_eq_true, Bool.and_eq_true, Bool.not_eq_eq_eq_not, Bool.not_true, Bool.not_false, bne_iff_ne, bne_eq_false_iff_eq, Int.toNat_natCast, Nat.mul_one, Nat.add_zero, Nat.zero_add, List.take_length, List.drop_zero] at h9)
                                    all_goals
                                      refine Tree.Sat.br (fun h10 => ?_) (fun h10 => ?_)
                                      · (try simp only [decide_eq_true_eq, decide_eq_false_iff_not, Bool.not_eq_true', Bool.not_eq_false', beq_iff_eq, beq_eq_false_iff_ne, Int.not_lt, Int.not_le, ge_iff_le, gt_iff_lt, ne_eq, Bool.false_eq_true, Bool.true_eq_false, not_true_eq_false, not_false_eq_true, Bool.and_eq_true, Bool.not_eq_eq_eq_not, Bool.not_true, Bool.not_false, bne_iff_ne, bne_eq_false_iff_eq, Int.toNat_natCast, Nat.mul_one, Nat.add_zero, Nat.zero_add, List.take_length, List.drop_zero] at h10)
                                        all_goals
                                          refine Tree.Sat.br (fun h11 => ?_) (fun h11 => ?_)
                                          · (try simp only [decide_eq_true_eq, decide_eq_false_iff_not, Bool.not_eq_true', Bool.not_eq_false', beq_iff_eq, beq_eq_false_iff_ne, Int.not_lt, Int.not_le, ge_iff_le, gt_iff_lt, ne_eq, Bool.false_eq_true, Bool.true_eq_false, not_true_eq_false, not_false_eq_true, Bool.and_eq_true, Bool.not_eq_eq_eq_not, Bool.not_true, Bool.not_false, bne_iff_ne, bne_eq_false_iff_eq, Int.toNat_natCast, Nat.mul_one, Nat.add_zero, Nat.zero_add, List.take_length, List.drop_zero] at h11)
                                            all_goals
                                              refine Tree.Sat.br (fun h12 => ?_) (fun h12 => ?_)
                                              · (try simp only [decide_eq_true_eq, decide_eq_false_iff_not, Bool.not_eq_true', Bool.not_eq_false', beq_iff_eq, beq_eq_false_iff_ne, Int.not_lt, Int.not_le, ge_iff_le, gt_iff_lt, ne_eq, Bool.false_eq_true, Bool.true_eq_false, not_true_eq_false, not_false_eq_true, Bool.and_eq_true, Bool.not_eq_eq_eq_not, Bool.not_true, Bool.not_false, bne_iff_ne, bne_eq_false_iff_eq, Int.toNat_natCast, Nat.mul_one, Nat.add_zero, Nat.zero_add, List.take_length, List.drop_zero] at h12)
                                                all_goals
                                                  refine Tree.Sat.br (fun h13 => ?_) (fun h13 => ?_)
                                                  · (try simp only [decide_eq_true_eq, decide_eq_false_iff_not, Bool.not_eq_true', Bool.not_eq_false', beq_iff_eq, beq_eq_false_iff_ne, Int.not_lt, Int.not_le, ge_iff_le, gt_iff_lt, ne_eq, Bool.false_eq_true, Bool.true_eq_false, not_true_eq_false, not_false_eq_true, Bool.and_eq_true, Bool.not_eq_eq_eq_not, Bool.not_true, Bool.not_false, bne_iff_ne, bne_eq_false_iff_eq, Int.toNat_natCast, Nat.mul_one, Nat.add_zero, Nat.zero_add, List.take_length, List.drop_zero] at h13)
                                                    all_goals
                                                      refine Tree.Sat.br (fun h14 => ?_) (fun h14 => ?_)
                                                      · (try simp only [decide_eq_true_eq, decide_eq_false_iff_not, Bool.not_eq_true', Bool.not_eq_false', beq_iff_eq, beq_eq_false_iff_ne, Int.not_lt, Int.not_le, ge_iff_le, gt_iff_lt, ne_eq, Bool.false_eq_true, Bool.true_eq_false, not_true_eq_false, not_false_eq_true, Bool.and_eq_true, Bool.not_eq_eq_eq_not, Bool.not_true, Bool.not_false, bne_iff_ne, bne_eq_false_iff_eq, Int.toNat_natCast, Nat.mul_one, Nat.add_zero, Nat.zero_add, List.take_length, List.drop_zero] at h14)
                                                        all_goals
                                                          refine Tree.Sat.br (fun h15 => ?_) (fun h15 => ?_)
                                                          · (try simp only [decide_eq_true_eq, decide_eq_false_iff_not, Bool.not_eq_true', Bool.not_eq_false', beq_iff_eq, beq_eq_false_iff_ne, Int.not_lt, Int.not_le, ge_iff_le, gt_iff_lt, ne_eq, Bool.false_eq_true, Bool.true_eq_false, not_true_eq_false, not_false_eq_true, Bool.and_eq_true, Bool.not_eq_eq_eq_not, Bool.not_true, Bool.not_false, bne_iff_ne, bne_eq_false_iff_eq, Int.toNat_natCast, Nat.mul_one, Nat.add_zero, Nat.zero_add, List.take_length, List.drop_zero] at h15)
                                                            all_goals
                                                              refine Tree.Sat.br (fun h16 => ?_) (fun h16 => ?_)
                                                              · (try simp only [decide_eq_true_eq, decide_eq_false_iff_not, Bool.not_eq_true', Bool.not_eq_false', beq_iff_eq, beq_eq_false_iff_ne, Int.not_lt, Int.not_le, ge_iff_le, gt_iff_lt, ne_eq, Bool.false_eq_true, Bool.true_eq_false, not_true_eq_false, not_false_eq_true, Bool.and_eq_true, Bool.not_eq_eq_eq_not, Bool.not_true, Bool.not_false, bne_iff_ne, bne_eq_false_iff_eq, Int.toNat_natCast, Nat.mul_one, Nat.add_zero, Nat.zero_add, List.take_length, List.drop_zero] at h16)
                                                                all_goals
                                                                  refine Tree.Sat.ret ?_
                                                                  have g := hg (by omega)
                                                                  have hq2 := hq (by omega)
                                                                  have e5 := e4 (by omega)
                                                                  have hlt : i < ws.length := by omega
                                                                  have sl2 := sl hlt
                                                                  have e := splitF_next (l := l) hbv hlt ha
                                                                  have sv := split_val (B := l.getD (a / 16) 0 * 65536 + l.getD (a / 16 + 1) 0 % 65536) (s := 32 - a % 16 - (ws.getD i 0).toNat) (w := (ws.getD i 0).toNat) (by omega) (by omega)
                                                                  have bo := bothZ (n := l.getD (a / 16 + 1) 0) hq2.2.1 hq2.2.2
                                                                  refine .norm ⟨zws, ws, zl, l, i + 1⟩ ?_ ?_ ⟨?_, ?_⟩
                                                                  · constructor <;> simp only [hdsplit_0, AV.leL, AV.le, Mem.le, Mem.leP, Blk.le, Blk.pad, Data.le, Data.size, Cap.le, and_true, true_and, and_self, true_implies, implies_true, imp_self, List.length_nil] <;> (repeat' with_reducible refine And.intro ?_ ?_) <;> (try simp only [Int.toNat_natCast, Nat.mul_one, Nat.add_zero, Nat.zero_add]) <;> first | exact wadd1 (by omega) | exact sum_step hlt (by omega) (by omega) | (rw [e, List.length_append]; rfl) | (rw [e5, bo, Int.toNat_natCast, sv, e, field_eq hq2.2.1 (by omega)]) | (rw [e]; cases decide (splitF l 0 (List.take i ws) = []) <;> simp)
                                                                  · simp only [musplit_0]; omega
                                                                  · exact ⟨hm, hs, hzw, hzl, hlk, by omega⟩
                                                                  · exact hr
                                                              · (try simp only [decide_eq_true_eq, decide_eq_false_iff_not, Bool.not_eq_true', Bool.not_eq_false', beq_iff_eq, beq_eq_false_iff_ne, Int.not_lt, Int.not_le, ge_iff_le, gt_iff_lt, ne_eq, Bool.false_eq_true, Bool.true_eq_false, not_true_eq_false, not_false_eq_true, Bool.and_eq_true, Bool.not_eq_eq_eq_not, Bool.not_true, Bool.not_false, bne_iff_ne, bne_eq_false_iff_eq, Int.toNat_natCast, Nat.mul_one, Nat.add_zero, Nat.zero_add, List.take_length, List.drop_zero] at h16)
                                                                all_goals
                                                                  exfalso
                                                                  rw [Bool.and_eq_false_iff] at h16
                                                                  rcases h16 with h16 | h16
                                                                  · rw [decide_eq_false_iff_not] at h16
                                                                    exact h16 ⟨by first | rfl | (simp only [Data.size]; omega), by first | rfl | kernel_rfl⟩
                                                                  · exact absurd h16 (by simp)
                                                          · (try simp only [decide_eq_true_eq, decide_eq_false_iff_not, Bool.not_eq_true', Bool.not_eq_false', beq_iff_eq, beq_eq_false_iff_ne, Int.not_lt, Int.not_le, ge_iff_le, gt_iff_lt, ne_eq, Bool.false_eq_true, Bool.true_eq_false, not_true_eq_false, not_false_eq_true, Bool.and_eq_true, Bool.not_eq_eq_eq_not, Bool.not_true, Bool.not_false, bne_iff_ne, bne_eq_false_iff_eq, Int.toNat_natCast, Nat.mul_one, Nat.add_zero, Nat.zero_add, List.take_length, List.drop_zero] at h15)
                                                            all_goals
                                                              exfalso
                                                              simp [most48] at h15
                                                              omega
                                                      · (try simp only [decide_eq_true_eq, decide_eq_false_iff_not, Bool.not_eq_true', Bool.not_eq_false', beq_iff_eq, beq_eq_false_iff_ne, Int.not_lt, Int.not_le, ge_iff_le, gt_iff_lt, ne_eq, Bool.false_eq_true, Bool.true_eq_false, not_true_eq_false, not_false_eq_true, Bool.and_eq_true, Bool.not_eq_eq_eq_not, Bool.not_true, Bool.not_false, bne_iff_ne, bne_eq_false_iff_eq, Int.toNat_natCast, Nat.mul_one, Nat.add_zero, Nat.zero_add, List.take_length, List.drop_zero] at h14)
                                                        all_goals
                                                          exfalso
                                                          first | omega | (have g := hg (by omega); have q := hq (by omega); have e5 := e4 (by omega); omega) | (clear hr; have q := hq (by omega); cases zws <;> cases zl <;> simp_all; done) | (clear hr; have q := hq (by omega); cases zws <;> cases zl <;> simp_all <;> omega)
                                                  · (try simp only [decide_eq_true_eq, decide_eq_false_iff_not, Bool.not_eq_true', Bool.not_eq_false', beq_iff_eq, beq_eq_false_iff_ne, Int.not_lt, Int.not_le, ge_iff_le, gt_iff_lt, ne_eq, Bool.false_eq_true, Bool.true_eq_false, not_true_eq_false, not_false_eq_true, Bool.and_eq_true, Bool.not_eq_eq_eq_not, Bool.not_true, Bool.not_false, bne_iff_ne, bne_eq_false_iff_eq, Int.toNat_natCast, Nat.mul_one, Nat.add_zero, Nat.zero_add, List.take_length, List.drop_zero] at h13)
                                                    all_goals
                                                      exfalso
                                                      first | omega | (have g := hg (by omega); have q := hq (by omega); have e5 := e4 (by omega); omega) | (clear hr; have q := hq (by omega); cases zws <;> cases zl <;> simp_all; done) | (clear hr; have q := hq (by omega); cases zws <;> cases zl <;> simp_all <;> omega)
                                              · (try simp only [decide_eq_true_eq, decide_eq_false_iff_not, Bool.not_eq_true', Bool.not_eq_false', beq_iff_eq, beq_eq_false_iff_ne, Int.not_lt, Int.not_le, ge_iff_le, gt_iff_lt, ne_eq, Bool.false_eq_true, Bool.true_eq_false, not_true_eq_false, not_false_eq_true, Bool.and_eq_true, Bool.not_eq_eq_eq_not, Bool.not_true, Bool.not_false, bne_iff_ne, bne_eq_false_iff_eq, Int.toNat_natCast, Nat.mul_one, Nat.add_zero, Nat.zero_add, List.take_length, List.drop_zero] at h12)
                                                all_goals
                                                  exfalso
                                                  first | omega | (have g := hg (by omega); have q := hq (by omega); have e5 := e4 (by omega); omega) | (clear hr; have q := hq (by omega); cases zws <;> cases zl <;> simp_all; done) | (clear hr; have q := hq (by omega); cases zws <;> cases zl <;> simp_all <;> omega)
                                          · (try simp only [decide_eq_true_eq, decide_eq_false_iff_not, Bool.not_eq_true', Bool.not_eq_false', beq_iff_eq, beq_eq_false_iff_ne, Int.not_lt, Int.not_le, ge_iff_le, gt_iff_lt, ne_eq, Bool.false_eq_true, Bool.true_eq_false, not_true_eq_false, not_false_eq_true, Bool.and_eq_true, Bool.not_eq_eq_eq_not, Bool.not_true, Bool.not_false, bne_iff_ne, bne_eq_false_iff_eq, Int.toNat_natCast, Nat.mul_one, Nat.add_zero, Nat.zero_add, List.take_length, List.drop_zero] at h11)
                                            all_goals
                                              exfalso
                                              first | omega | (have g := hg (by omega); have q := hq (by omega); have e5 := e4 (by omega); omega) | (clear hr; have q := hq (by omega); cases zws <;> cases zl <;> simp_all; done) | (clear hr; have q := hq (by omega); cases zws <;> cases zl <;> simp_all <;> omega)
                                      · (try simp only [decide_eq_true_eq, decide_eq_false_iff_not, Bool.not_eq_true', Bool.not_eq_false', beq_iff_eq, beq_eq_false_iff_ne, Int.not_lt, Int.not_le, ge_iff_le, gt_iff_lt, ne_eq, Bool.false_eq_true, Bool.true_eq_false, not_true_eq_false, not_false_eq_true, Bool.and_eq_true, Bool.not_eq_eq_eq_not, Bool.not_true, Bool.not_false, bne_iff_ne, bne_eq_false_iff_eq, Int.toNat_natCast, Nat.mul_one, Nat.add_zero, Nat.zero_add, List.take_length, List.drop_zero] at h10)
                                        all_goals
                                          exfalso
                                          first | omega | (have g := hg (by omega); have q := hq (by omega); have e5 := e4 (by omega); omega) | (clear hr; have q := hq (by omega); cases zws <;> cases zl <;> simp_all; done) | (clear hr; have q := hq (by omega); cases zws <;> cases zl <;> simp_all <;> omega)
                                  · (try simp only [decide_eq_true_eq, decide_eq_false_iff_not, Bool.not_eq_true', Bool.not_eq_false', beq_iff_eq, beq_eq_false_iff_ne, Int.not_lt, Int.not_le, ge_iff_le, gt_iff_lt, ne_eq, Bool.false_eq_true, Bool.true_eq_false, not_true_eq_false, not_false_eq_true, Bool.and_eq_true, Bool.not_eq_eq_eq_not, Bool.not_true, Bool.not_false, bne_iff_ne, bne_eq_false_iff_eq, Int.toNat_natCast, Nat.mul_one, Nat.add_zero, Nat.zero_add, List.take_length, List.drop_zero] at h9)
                                    all_goals
                                      exfalso
                                      first | omega | (have g := hg (by omega); have q := hq (by omega); have e5 := e4 (by omega); omega) | (clear hr; have q := hq (by omega); cases zws <;> cases zl <;> simp_all; done) | (clear hr; have q := hq (by omega); cases zws <;> cases zl <;> simp_all <;> omega)
                              · (try simp only [decide_eq_true_eq, decide_eq_false_iff_not, Bool.not_eq_true', Bool.not_eq_false', beq_iff_eq, beq_eq_false_iff_ne, Int.not_lt, Int.not_le, ge_iff_le, gt_iff_lt, ne_eq, Bool.false_eq_true, Bool.true_eq_false, not_true_eq_false, not_false_eq_true, Bool.and_eq_true, Bool.not_eq_eq_eq_not, Bool.not_true, Bool.not_false, bne_iff_ne, bne_eq_false_iff_eq, Int.toNat_natCast, Nat.mul_one, Nat.add_zero, Nat.zero_add, List.take_length, List.drop_zero] at h8)
                                all_goals
                                  refine Tree.Sat.br (fun h9 => ?_) (fun h9 => ?_)
                                  · (try simp only [decide_eq_true_eq, decide_eq_false_iff_not, Bool.not_eq_true', Bool.not_eq_false', beq_iff_eq, beq_eq_false_iff_ne, Int.not_lt, Int.not_le, ge_iff_le, gt_iff_lt, ne_eq, Bool.false_eq_true, Bool.true_eq_false, not_true_eq_false, not_false_eq_true, Bool.and_eq_true, Bool.not_eq_eq_eq_not, Bool.not_true, Bool.not_false, bne_iff_ne, bne_eq_false_iff_eq, Int.toNat_natCast, Nat.mul_one, Nat.add_zero, Nat.zero_add, List.take_length, List.drop_zero] at h9)
                                    all_goals
                                      refine Tree.Sat.br (fun h10 => ?_) (fun h10 => ?_)
                                      · (try simp only [decide_eq_true_eq, decide_eq_false_iff_not, Bool.not_eq_true', Bool.not_eq_false', beq_iff_eq, beq_eq_false_iff_ne, Int.not_lt, Int.not_le, ge_iff_le, gt_iff_lt, ne_eq, Bool.false_eq_true, Bool.true_eq_false, not_true_eq_false, not_false_eq_true, Bool.and_eq_true, Bool.not_eq_eq_eq_not, Bool.not_true, Bool.not_false, bne_iff_ne, bne_eq_false_iff_eq, Int.toNat_natCast, Nat.mul_one, Nat.add_zero, Nat.zero_add, List.take_length, List.drop_zero] at h10)
                                        all_goals
                                          refine Tree.Sat.br (fun h11 => ?_) (fun h11 => ?_)
                                          · (try simp only [decide_eq_true_eq, decide_eq_false_iff_not, Bool.not_eq_true', Bool.not_eq_false', beq_iff_eq, beq_eq_false_iff_ne, Int.not_lt, Int.not_le, ge_iff_le, gt_iff_lt, ne_eq, Bool.false_eq_true, Bool.true_eq_false, not_true_eq_false, not_false_eq_true, Bool.and_eq_true, Bool.not_eq_eq_eq_not, Bool.not_true, Bool.not_false, bne_iff_ne, bne_eq_false_iff_eq, Int.toNat_natCast, Nat.mul_one, Nat.add_zero, Nat.zero_add, List.take_length, List.drop_zero] at h11)
                                            all_goals
                                              refine Tree.Sat.br (fun h12 => ?_) (fun h12 => ?_)
                                              · (try simp only [decide_eq_true_eq, decide_eq_false_iff_not, Bool.not_eq_true', Bool.not_eq_false', beq_iff_eq, beq_eq_false_iff_ne, Int.not_lt, Int.not_le, ge_iff_le, gt_iff_lt, ne_eq, Bool.false_eq_true, Bool.true_eq_false, not_true_eq_false, not_false_eq_true, Bool.and_eq_true, Bool.not_eq_eq_eq_not, Bool.not_true, Bool.not_false, bne_iff_ne, bne_eq_false_iff_eq, Int.toNat_natCast, Nat.mul_one, Nat.add_zero, Nat.zero_add, List.take_length, List.drop_zero] at h12)
                                                all_goals
                                                  refine Tree.Sat.br (fun h13 => ?_) (fun h13 => ?_)
                                                  · (try simp only [decide_eq_true_eq, decide_eq_false_iff_not, Bool.not_eq_true', Bool.not_eq_false', beq_iff_eq, beq_eq_false_iff_ne, Int.not_lt, Int.not_le, ge_iff_le, gt_iff_lt, ne_eq, Bool.false_eq_true, Bool.true_eq_false, not_true_eq_false, not_false_eq_true, Bool.and_eq_true, Bool.not_eq_eq_eq_not, Bool.not_true, Bool.not_false, bne_iff_ne, bne_eq_false_iff_eq, Int.toNat_natCast, Nat.mul_one, Nat.add_zero, Nat.zero_add, List.take_length, List.drop_zero] at h13)
                                                    all_goals
                                                      refine Tree.Sat.ret ?_
                                                      have g := hg (by omega)
                                                      have hq2 := hq (by omega)
                                                      have e5 := e4 (by omega)
                                                      have hlt : i < ws.length := by omega
                                                      have sl2 := sl hlt
                                                      have e := splitF_next (l := l) hbv hlt ha
                                                      have sv := split_val (B := l.getD (a / 16) 0 * 65536 + l.getD (a / 16 + 1) 0 % 65536) (s := 32 - a % 16 - (ws.getD i 0).toNat) (w := (ws.getD i 0).toNat) (by omega) (by omega)
                                                      have bo : IntKind.i64.wrap (l.getD (a / 16) 0 * 65536) = l.getD (a / 16) 0 * 65536 + l.getD (a / 16 + 1) 0 % 65536 := by rw [getD_out (j := a / 16 + 1) (by omega), w64]; omega
                                                      refine .norm ⟨zws, ws, zl, l, i + 1⟩ ?_ ?_ ⟨?_, ?_⟩
                                                      · constructor <;> simp only [hdsplit_0, AV.leL, AV.le, Mem.le, Mem.leP, Blk.le, Blk.pad, Data.le, Data.size, Cap.le, and_true, true_and, and_self, true_implies, implies_true, imp_self, List.length_nil] <;> (repeat' with_reducible refine And.intro ?_ ?_) <;> (try simp only [Int.toNat_natCast, Nat.mul_one, Nat.add_zero, Nat.zero_add]) <;> first | exact wadd1 (by omega) | exact sum_step hlt (by omega) (by omega) | (rw [e, List.length_append]; rfl) | (rw [e5, bo, Int.toNat_natCast, sv, e, field_eq hq2.2.1 (by omega)]) | (rw [e]; cases decide (splitF l 0 (List.take i ws) = []) <;> simp)
                                                      · simp only [musplit_0]; omega
                                                      · exact ⟨hm, hs, hzw, hzl, hlk, by omega⟩
                                                      · exact hr
                                                  · (try simp only [decide_eq_true_eq, decide_eq_false_iff_not, Bool.not_eq_true', Bool.not_eq_false', beq_iff_eq, beq_eq_false_iff_ne, Int.not_lt, Int.not_le, ge_iff_le, gt_iff_lt, ne_eq, Bool.false_eq_true, Bool.true_eq_false, not_true_eq_false, not_false_eq_true, Bool.and_eq_true, Bool.not_eq_eq_eq_not, Bool.not_true, Bool.not_false, bne_iff_ne, bne_eq_false_iff_eq, Int.toNat_natCast, Nat.mul_one, Nat.add_zero, Nat.zero_add, List.take_length, List.drop_zero] at h13)
                                                    all_goals
                                                      exfalso
                                                      rw [Bool.and_eq_false_iff] at h13
                                                      rcases h13 with h13 | h13
                                                      · rw [decide_eq_false_iff_not] at h13
                                                        exact h13 ⟨by first | rfl | (simp only [Data.size]; omega), by first | rfl | kernel_rfl⟩
                                                      · exact absurd h13 (by simp)
                                              · (try simp only [decide_eq_true_eq, decide_eq_false_iff_not, Bool.not_eq_true', Bool.not_eq_false', beq_iff_eq, beq_eq_false_iff_ne, Int.not_lt, Int.not_le, ge_iff_le, gt_iff_lt, ne_eq, Bool.false_eq_true, Bool.true_eq_false, not_true_eq_false, not_false_eq_true, Bool.and_eq_true, Bool.not_eq_eq_eq_not, Bool.not_true, Bool.not_false, bne_iff_ne, bne_eq_false_iff_eq, Int.toNat_natCast, Nat.mul_one, Nat.add_zero, Nat.zero_add, List.take_length, List.drop_zero] at h12)
                                                all_goals
                                                  exfalso
                                                  simp [most48] at h12
                                                  omega
                                          · (try simp only [decide_eq_true_eq, decide_eq_false_iff_not, Bool.not_eq_true', Bool.not_eq_false', beq_iff_eq, beq_eq_false_iff_ne, Int.not_lt, Int.not_le, ge_iff_le, gt_iff_lt, ne_eq, Bool.false_eq_true, Bool.true_eq_false, not_true_eq_false, not_false_eq_true, Bool.and_eq_true, Bool.not_eq_eq_eq_not, Bool.not_true, Bool.not_false, bne_iff_ne, bne_eq_false_iff_eq, Int.toNat_natCast, Nat.mul_one, Nat.add_zero, Nat.zero_add, List.take_length, List.drop_zero] at h11)
                                            all_goals
                                              exfalso
                                              first | omega | (have g := hg (by omega); have q := hq (by omega); have e5 := e4 (by omega); omega) | (clear hr; have q := hq (by omega); cases zws <;> cases zl <;> simp_all; done) | (clear hr; have q := hq (by omega); cases zws <;> cases zl <;> simp_all <;> omega)
                                      · (try simp only [decide_eq_true_eq, decide_eq_false_iff_not, Bool.not_eq_true', Bool.not_eq_false', beq_iff_eq, beq_eq_false_iff_ne, Int.not_lt, Int.not_le, ge_iff_le, gt_iff_lt, ne_eq, Bool.false_eq_true, Bool.true_eq_false, not_true_eq_false, not_false_eq_true, Bool.and_eq_true, Bool.not_eq_eq_eq_not, Bool.not_true, Bool.not_false, bne_iff_ne, bne_eq_false_iff_eq, Int.toNat_natCast, Nat.mul_one, Nat.add_zero, Nat.zero_add, List.take_length, List.drop_zero] at h10)
                                        all_goals
                                          exfalso
                                          first | omega | (have g := hg (by omega); have q := hq (by omega); have e5 := e4 (by omega); omega) | (clear hr; have q := hq (by omega); cases zws <;> cases zl <;> simp_all; done) | (clear hr; have q := hq (by omega); cases zws <;> cases zl <;> simp_all <;> omega)
                                  · (try simp only [decide_eq_true_eq, decide_eq_false_iff_not, Bool.not_eq_true', Bool.not_eq_false', beq_iff_eq, beq_eq_false_iff_ne, Int.not_lt, Int.not_le, ge_iff_le, gt_iff_lt, ne_eq, Bool.false_eq_true, Bool.true_eq_false, not_true_eq_false, not_false_eq_true, Bool.and_eq_true, Bool.not_eq_eq_eq_not, Bool.not_true, Bool.not_false, bne_iff_ne, bne_eq_false_iff_eq, Int.toNat_natCast, Nat.mul_one, Nat.add_zero, Nat.zero_add, List.take_length, List.drop_zero] at h9)
                                    all_goals
                                      exfalso
                                      first | omega | (have g := hg (by omega); have q := hq (by omega); have e5 := e4 (by omega); omega) | (clear hr; have q := hq (by omega); cases zws <;> cases zl <;> simp_all; done) | (clear hr; have q := hq (by omega); cases zws <;> cases zl <;> simp_all <;> omega)
                          · (try simp only [decide_eq_true_eq, decide_eq_false_iff_not, Bool.not_eq_true', Bool.not_eq_false', beq_iff_eq, beq_eq_false_iff_ne, Int.not_lt, Int.not_le, ge_iff_le, gt_iff_lt, ne_eq, Bool.false_eq_true, Bool.true_eq_false, not_true_eq_false, not_false_eq_true, Bool.and_eq_true, Bool.not_eq_eq_eq_not, Bool.not_true, Bool.not_false, bne_iff_ne, bne_eq_false_iff_eq, Int.toNat_natCast, Nat.mul_one, Nat.add_zero, Nat.zero_add, List.take_length, List.drop_zero] at h7)
                            all_goals
                              exfalso
                              first | omega | (have g := hg (by omega); have q := hq (by omega); have e5 := e4 (by omega); omega) | (clear hr; have q := hq (by omega); cases zws <;> cases zl <;> simp_all; done) | (clear hr; have q := hq (by omega); cases zws <;> cases zl <;> simp_all <;> omega)
                      · (try simp only [decide_eq_true_eq, decide_eq_false_iff_not, Bool.not_eq_true', Bool.not_eq_false', beq_iff_eq, beq_eq_false_iff_ne, Int.not_lt, Int.not_le, ge_iff_le, gt_iff_lt, ne_eq, Bool.false_eq_true, Bool.true_eq_false, not_true_eq_false, not_false_eq_true, Bool.and_eq_true, Bool.not_eq_eq_eq_not, Bool.not_true, Bool.not_false, bne_iff_ne, bne_eq_false_iff_eq, Int.toNat_natCast, Nat.mul_one, Nat.add_zero, Nat.zero_add, List.take_length, List.drop_zero] at h6)
                        all_goals
                          exfalso
                          first | omega | (have g := hg (by omega); have q := hq (by omega); have e5 := e4 (by omega); omega) | (clear hr; have q := hq (by omega); cases zws <;> cases zl <;> simp_all; done) | (clear hr; have q := hq (by omega); cases zws <;> cases zl <;> simp_all <;> omega)
                  · (try simp only [decide_eq_true_eq, decide_eq_false_iff_not, Bool.not_eq_true', Bool.not_eq_false', beq_iff_eq, beq_eq_false_iff_ne, Int.not_lt, Int.not_le, ge_iff_le, gt_iff_lt, ne_eq, Bool.false_eq_true, Bool.true_eq_false, not_true_eq_false, not_false_eq_true, Bool.and_eq_true, Bool.not_eq_eq_eq_not, Bool.not_true, Bool.not_false, bne_iff_ne, bne_eq_false_iff_eq, Int.toNat_natCast, Nat.mul_one, Nat.add_zero, Nat.zero_add, List.take_length, List.drop_zero] at h5)
                    all_goals
                      exfalso
                      first | omega | (have g := hg (by omega); have q := hq (by omega); have e5 := e4 (by omega); omega) | (clear hr; have q := hq (by omega); cases zws <;> cases zl <;> simp_all; done) | (clear hr; have q := hq (by omega); cases zws <;> cases zl <;> simp_all <;> omega)
              · (try simp only [decide_eq_true_eq, decide_eq_false_iff_not, Bool.not_eq_true', Bool.not_eq_false', beq_iff_eq, beq_eq_false_iff_ne, Int.not_lt, Int.not_le, ge_iff_le, gt_iff_lt, ne_eq, Bool.false_eq_true, Bool.true_eq_false, not_true_eq_false, not_false_eq_true, Bool.and_eq_true, Bool.not_eq_eq_eq_not, Bool.not_true, Bool.not_false, bne_iff_ne, bne_eq_false_iff_eq, Int.toNat_natCast, Nat.mul_one, Nat.add_zero, Nat.zero_add, List.take_length, List.drop_zero] at h4)
                all_goals
                  exfalso
                  first | omega | (have g := hg (by omega); have q := hq (by omega); have e5 := e4 (by omega); omega) | (clear hr; have q := hq (by omega); cases zws <;> cases zl <;> simp_all; done) | (clear hr; have q := hq (by omega); cases zws <;> cases zl <;> simp_all <;> omega)
          · (try simp only [decide_eq_true_eq, decide_eq_false_iff_not, Bool.not_eq_true', Bool.not_eq_false', beq_iff_eq, beq_eq_false_iff_ne, Int.not_lt, Int.not_le, ge_iff_le, gt_iff_lt, ne_eq, Bool.false_eq_true, Bool.true_eq_false, not_true_eq_false, not_false_eq_true, Bool.and_eq_true, Bool.not_eq_eq_eq_not, Bool.not_true, Bool.not_false, bne_iff_ne, bne_eq_false_iff_eq, Int.toNat_natCast, Nat.mul_one, Nat.add_zero, Nat.zero_add, List.take_length, List.drop_zero] at h3)
            all_goals
              exfalso
              first | omega | (have g := hg (by omega); have q := hq (by omega); have e5 := e4 (by omega); omega) | (clear hr; have q := hq (by omega); cases zws <;> cases zl <;> simp_all; done) | (clear hr; have q := hq (by omega); cases zws <;> cases zl <;> simp_all <;> omega)
      · (try simp only [decide_eq_true_eq, decide_eq_false_iff_not, Bool.not_eq_true', Bool.not_eq_false', beq_iff_eq, beq_eq_false_iff_ne, Int.not_lt, Int.not_le, ge_iff_le, gt_iff_lt, ne_eq, Bool.false_eq_true, Bool.true_eq_false, not_true_eq_false, not_false_eq_true, Bool.and_eq_true, Bool.not_eq_eq_eq_not, Bool.not_true, Bool.not_false, bne_iff_ne, bne_eq_false_iff_eq, Int.toNat_natCast, Nat.mul_one, Nat.add_zero, Nat.zero_add, List.take_length, List.drop_zero] at h2)
        all_goals
          exfalso
          first | omega | (have g := hg (by omega); have q := hq (by omega); have e5 := e4 (by omega); omega) | (clear hr; have q := hq (by omega); cases zws <;> cases zl <;> simp_all; done) | (clear hr; have q := hq (by omega); cases zws <;> cases zl <;> simp_all <;> omega)
  · (try simp only [decide_eq_true_eq, decide_eq_false_iff_not, Bool.not_eq_true', Bool.not_eq_false', beq_iff_eq, beq_eq_false_iff_ne, Int.not_lt, Int.not_le, ge_iff_le, gt_iff_lt, ne_eq, Bool.false_eq_true, Bool.true_eq_false, not_true_eq_false, not_false_eq_true, Bool.and_eq_true, Bool.not_eq_eq_eq_not, Bool.not_true, Bool.not_false, bne_iff_ne, bne_eq_false_iff_eq, Int.toNat_natCast, Nat.mul_one, Nat.add_zero, Nat.zero_add, List.take_length, List.drop_zero] at h1)
    all_goals
      refine Tree.Sat.ret ?_
      have hq := hr
      simp only [Prod.mk.injEq] at hq
      obtain ⟨rfl, rfl⟩ := hq
      refine .exit rfl ?_
      constructor <;> simp only [AV.leL, AV.le, Mem.le, Mem.leP, Blk.le, Blk.pad, Data.le, Data.size, Cap.le, and_true, true_and, and_self, true_implies, implies_true, imp_self, List.length_nil] <;> (repeat' with_reducible refine And.intro ?_ ?_) <;> (try simp only [Int.toNat_natCast, Nat.mul_one, Nat.add_zero, Nat.zero_add]) <;> rw [List.take_of_length_le (by omega)]
set_option maxHeartbeats 2000000 in
set_option maxRecDepth 100000 in
theorem loopsplit_0 (hall : AllOk Try.prog 0 (fun _ => none) tab21) : LoopOk (mkL Try.prog 0 (fun _ => none) tab21 rowssplit) 21 2 (bodyAt Try.prog 21 0) := by
  have hkey : Code.key (bodyAt Try.prog 21 0) = 10 := by kernel_rfl
  have hin : loopsIn (bodyAt Try.prog 21 0) = [] := by kernel_rfl
  have hrow : lookL rowssplit 21 (Code.key (bodyAt Try.prog 21 0)) = some rowsplit_0 := by rw [hkey]; rfl
  refine loop_rowP (X := Xsplit_0) (row := rowsplit_0) hall mix hrow (fun b hb _ => by rw [hin] at hb; cases hb) Usplit_0 hdsplit_0 ressplit_0 musplit_0 (fun st ex r h => ?_) (fun x ex r hr => ?_)
  · have h' : (anssplit_0 st).runs (ex, r) := h
    unfold anssplit_0 at h'
    split at h'
    · obtain ⟨q1, q2⟩ := Tree.chk_runs h'
      exact ⟨_, q1, q2⟩
    · exact h'.elim
  · obtain ⟨zws, ws, zl, l, i⟩ := x
    have := stepsplit_0 zws ws zl l i ex r hr.1 hr.2
    rw [← tLsplit_0] at this
    (try rw [show rowsplit_0.tidy = Tsplit_0 from rfl])
    exact this
theorem loopssplit (hall : AllOk Try.prog 0 (fun _ => none) tab21) : ∀ i, i < (loopsAt Try.prog 21).length → LoopOk (mkL Try.prog 0 (fun _ => none) tab21 rowssplit) 21 2 (bodyAt Try.prog 21 i) := by
  intro i hi
  have hlen : (loopsAt Try.prog 21).length = 1 := by kernel_rfl
  rw [hlen] at hi
  obtain rfl : i = 0 := by omega
  · exact loopsplit_0 hall
set_option maxRecDepth 100000 in
theorem tsplit (zws : Bool) (ws : List Int) (zl : Bool) (l : List Int) : evBody (mkL Try.prog 0 (fun _ => none) tab21 rowssplit) (evCall (mkC Try.prog 0 (fun _ => none) tab21) 50) 21 [.sl zws ⟨0, 0, 0, 0⟩ false ws.length .any, .sl zl ⟨1, 0, 0, 0⟩ false l.length .any] [some ⟨3, false, false, true, .ints .i64 ws⟩, some ⟨3, false, false, true, .ints .i64 l⟩] =
  Tree.chk ((0 + List.length ws ≤ List.length ws ∧ True) ∧ short (List.take (List.length ws) (List.drop (0) ws)) ∧ (zws = true → List.take (List.length ws) (List.drop (0) ws) = []))
  (Tree.br (mayZ (List.take (List.length ws) (List.drop (0) ws)) != (0 : Int))
  (Tree.ret
  (AV.tup [AV.sl true (Ref.mk (0) (0) (0) (0)) true (0) Cap.exact, AV.int IntKind.i64 false (mayZ (List.take (List.length ws) (List.drop (0) ws)))],
  [some (Blk.mk (3) false false true (Data.ints IntKind.i64 ws)), some (Blk.mk (3) false false true (Data.ints IntKind.i64 l))]))
  (Tree.chk
  ((0 + List.length ws ≤ List.length ws ∧ True) ∧
  List.length (List.take (List.length ws) (List.drop (0) ws)) ≤ 1000000 ∧ (zws = true → List.take (List.length ws) (List.drop (0) ws) = []))
  (Tree.chk
  ((True ∧ 0 + List.length l ≤ List.length l ∧ True) ∧
  short (List.take (List.length l) (List.drop (0) l)) ∧
  (zl = true → List.take (List.length l) (List.drop (0) l) = []) ∧
  (0 : Int) ≤ sizeZ (List.take (List.length ws) (List.drop (0) ws)) ∧ sizeZ (List.take (List.length ws) (List.drop (0) ws)) ≤ (140737488355328 : Int))
  (Tree.br (lookZ (sizeZ (List.take (List.length ws) (List.drop (0) ws))) (List.take (List.length l) (List.drop (0) l)) != (0 : Int))
  (Tree.ret
  (AV.tup
  [AV.sl true (Ref.mk (0) (0) (0) (0)) true (0) Cap.exact,
  AV.int IntKind.i64 false (lookZ (sizeZ (List.take (List.length ws) (List.drop (0) ws))) (List.take (List.length l) (List.drop (0) l)))],
  [some (Blk.mk (3) false false true (Data.ints IntKind.i64 ws)), some (Blk.mk (3) false false true (Data.ints IntKind.i64 l))]))
  (Tree.chk
  (St.le
  (St.mk
  [AV.junk, AV.sl zl (Ref.mk (1) (0) (0) (0)) false (List.length l) Cap.any, AV.junk, AV.junk, AV.junk, AV.junk, AV.junk, AV.junk,
  AV.sl true (Ref.mk (2) (0) (0) (0)) false (0) Cap.own, AV.int IntKind.i64 true (0 : Int), AV.junk, AV.junk, AV.junk, AV.junk, AV.junk, AV.junk, AV.junk, AV.junk, AV.junk, AV.junk,
  AV.junk, AV.junk, AV.junk, AV.junk, AV.junk, AV.sl zws (Ref.mk (0) (0) (0) (0)) false (List.length ws) Cap.any, AV.int IntKind.i64 false ((List.length ws) : Int),
  AV.int IntKind.i64 true (0 : Int), AV.junk, AV.junk, AV.junk, AV.junk, AV.junk, AV.junk, AV.junk, AV.junk, AV.junk, AV.junk, AV.junk, AV.junk, AV.junk, AV.junk, AV.junk, AV.junk, AV.junk, AV.junk, AV.junk, AV.junk,
  AV.junk, AV.junk, AV.junk, AV.junk, AV.junk, AV.junk, AV.junk, AV.junk, AV.junk, AV.junk, AV.junk, AV.junk, AV.junk, AV.junk, AV.junk, AV.junk, AV.junk, AV.junk, AV.junk, AV.junk, AV.junk, AV.junk, AV.junk]
  [some (Blk.mk (3) false false true (Data.ints IntKind.i64 ws)), some (Blk.mk (3) false false true (Data.ints IntKind.i64 l)), some (Blk.mk (3) true true true (Data.ints IntKind.i64 []))])
  (St.mk
  [AV.junk, AV.sl zl (Ref.mk (1) (0) (0) (0)) false (List.length l) Cap.any, AV.junk, AV.junk, AV.junk, AV.junk, AV.junk, AV.junk,
  AV.sl true (Ref.mk (2) (0) (0) (0)) false (0) Cap.own, AV.int IntKind.i64 false (sumI (List.take (Int.toNat (0 : Int)) ws)), AV.junk, AV.junk, AV.junk, AV.junk, AV.junk, AV.junk,
  AV.junk, AV.junk, AV.junk, AV.junk, AV.junk, AV.junk, AV.junk, AV.junk, AV.junk, AV.sl zws (Ref.mk (0) (0) (0) (0)) false (List.length ws) Cap.any,
  AV.int IntKind.i64 false ((List.length ws) : Int), AV.int IntKind.i64 false (0 : Int), AV.junk, AV.junk, AV.junk, AV.junk, AV.junk, AV.junk, AV.junk, AV.junk, AV.junk, AV.junk, AV.junk, AV.junk, AV.junk, AV.junk, AV.junk,
  AV.junk, AV.junk, AV.junk, AV.junk, AV.junk, AV.junk, AV.junk, AV.junk, AV.junk, AV.junk, AV.junk, AV.junk, AV.junk, AV.junk, AV.junk, AV.junk, AV.junk, AV.junk, AV.junk, AV.junk, AV.junk, AV.junk, AV.junk, AV.junk,
  AV.junk, AV.junk, AV.junk, AV.junk]
  [some (Blk.mk (3) false false true (Data.ints IntKind.i64 ws)), some (Blk.mk (3) false false true (Data.ints IntKind.i64 l)),
  some (Blk.mk (3) true true true (Data.ints IntKind.i64 (splitF l 0 (List.take (Int.toNat (0 : Int)) ws))))]))
  (Tree.chk (oksplit_0 (Xsplit_0.mk zws ws zl l (Int.toNat (0 : Int))))
  (Tree.ret
  (AV.tup [AV.sl (decide (splitF l 0 ws = [])) (Ref.mk (2) (0) (0) (0)) false (List.length (splitF l 0 ws)) Cap.own, AV.int IntKind.i64 true (0 : Int)],
  [some (Blk.mk (3) false false true (Data.ints IntKind.i64 ws)), some (Blk.mk (3) false false true (Data.ints IntKind.i64 l)),
  some (Blk.mk (3) true (decide ((splitF l 0 ws) = [])) true (Data.ints IntKind.i64 (splitF l 0 ws)))])))))))) := by kernel_rfl
set_option maxRecDepth 100000 in
theorem gsplit (zws : Bool) (ws : List Int) (zl : Bool) (l : List Int) (hw : short ws ∧ short l ∧ (zws = true → ws = []) ∧ (zl = true → l = [])) : (Tree.chk ((0 + List.length ws ≤ List.length ws ∧ True) ∧ short (List.take (List.length ws) (List.drop (0) ws)) ∧ (zws = true → List.take (List.length ws) (List.drop (0) ws) = []))
  (Tree.br (mayZ (List.take (List.length ws) (List.drop (0) ws)) != (0 : Int))
  (Tree.ret
  (AV.tup [AV.sl true (Ref.mk (0) (0) (0) (0)) true (0) Cap.exact, AV.int IntKind.i64 false (mayZ (List.take (List.length ws) (List.drop (0) ws)))],
  [some (Blk.mk (3) false false true (Data.ints IntKind.i64 ws)), some (Blk.mk (3) false false true (Data.ints IntKind.i64 l))]))
  (Tree.chk
  ((0 + List.length ws ≤ List.length ws ∧ True) ∧
  List.length (List.take (List.length ws) (List.drop (0) ws)) ≤ 1000000 ∧ (zws = true → List.take (List.length ws) (List.drop (0) ws) = []))
  (Tree.chk
  ((True ∧ 0 + List.length l ≤ List.length l ∧ True) ∧
  short (List.take (List.length l) (List.drop (0) l)) ∧
  (zl = true → List.take (List.length l) (List.drop (0) l) = []) ∧
  (0 : Int) ≤ sizeZ (List.take (List.length ws) (List.drop (0) ws)) ∧ sizeZ (List.take (List.length ws) (List.drop (0) ws)) ≤ (140737488355328 : Int))
  (Tree.br (lookZ (sizeZ (List.take (List.length ws) (List.drop (0) ws))) (List.take (List.length l) (List.drop (0) l)) != (0 : Int))
  (Tree.ret
  (AV.tup
  [AV.sl true (Ref.mk (0) (0) (0) (0)) true (0) Cap.exact,
  AV.int IntKind.i64 false (lookZ (sizeZ (List.take (List.length ws) (List.drop (0) ws))) (List.take (List.length l) (List.drop (0) l)))],
  [some (Blk.mk (3) false false true (Data.ints IntKind.i64 ws)), some (Blk.mk (3) false false true (Data.ints IntKind.i64 l))]))
  (Tree.chk
  (St.le
  (St.mk
  [AV.junk, AV.sl zl (Ref.mk (1) (0) (0) (0)) false (List.length l) Cap.any, AV.junk, AV.junk, AV.junk, AV.junk, AV.junk, AV.junk,
  AV.sl true (Ref.mk (2) (0) (0) (0)) false (0) Cap.own, AV.int IntKind.i64 true (0 : Int), AV.junk, AV.junk, AV.junk, AV.junk, AV.junk, AV.junk, AV.junk, AV.junk, AV.junk, AV.junk,
  AV.junk, AV.junk, AV.junk, AV.junk, AV.junk, AV.sl zws (Ref.mk (0) (0) (0) (0)) false (List.length ws) Cap.any, AV.int IntKind.i64 false ((List.length ws) : Int),
  AV.int IntKind.i64 true (0 : Int), AV.junk, AV.junk, AV.junk, AV.junk, AV.junk, AV.junk, AV.junk, AV.junk, AV.junk, AV.junk, AV.junk, AV.junk, AV.junk, AV.junk, AV.junk, AV.junk, AV.junk, AV.junk, AV.junk, AV.junk,
  AV.junk, AV.junk, AV.junk, AV.junk, AV.junk, AV.junk, AV.junk, AV.junk, AV.junk, AV.junk, AV.junk, AV.junk, AV.junk, AV.junk, AV.junk, AV.junk, AV.junk, AV.junk, AV.junk, AV.junk, AV.junk, AV.junk, AV.junk]
  [some (Blk.mk (3) false false true (Data.ints IntKind.i64 ws)), some (Blk.mk (3) false false true (Data.ints IntKind.i64 l)), some (Blk.mk (3) true true true (Data.ints IntKind.i64 []))])
  (St.mk
  [AV.junk, AV.sl zl (Ref.mk (1) (0) (0) (0)) false (List.length l) Cap.any, AV.junk, AV.junk, AV.junk, AV.junk, AV.junk, AV.junk,
  AV.sl true (Ref.mk (2) (0) (0) (0)) false (0) Cap.own, AV.int IntKind.i64 false (sumI (List.take (Int.toNat (0 : Int)) ws)), AV.junk, AV.junk, AV.junk, AV.junk, AV.junk, AV.junk,
  AV.junk, AV.junk, AV.junk, AV.junk, AV.junk, AV.junk, AV.junk, AV.junk, AV.junk, AV.sl zws (Ref.mk (0) (0) (0) (0)) false (List.length ws) Cap.any,
  AV.int IntKind.i64 false ((List.length ws) : Int), AV.int IntKind.i64 false (0 : Int), AV.junk, AV.junk, AV.junk, AV.junk, AV.junk, AV.junk, AV.junk, AV.junk, AV.junk, AV.junk, AV.junk, AV.junk, AV.junk, AV.junk, AV.junk,
  AV.junk, AV.junk, AV.junk, AV.junk, AV.junk, AV.junk, AV.junk, AV.junk, AV.junk, AV.junk, AV.junk, AV.junk, AV.junk, AV.junk, AV.junk, AV.junk, AV.junk, AV.junk, AV.junk, AV.junk, AV.junk, AV.junk, AV.junk, AV.junk,
  AV.junk, AV.junk, AV.junk, AV.junk]
  [some (Blk.mk (3) false false true (Data.ints IntKind.i64 ws)), some (Blk.mk (3) false false true (Data.ints IntKind.i64 l)),
  some (Blk.mk (3) true true true (Data.ints IntKind.i64 (splitF l 0 (List.take (Int.toNat (0 : Int)) ws))))]))
  (Tree.chk (oksplit_0 (Xsplit_0.mk zws ws zl l (Int.toNat (0 : Int))))
  (Tree.ret
  (AV.tup [AV.sl (decide (splitF l 0 ws = [])) (Ref.mk (2) (0) (0) (0)) false (List.length (splitF l 0 ws)) Cap.own, AV.int IntKind.i64 true (0 : Int)],
  [some (Blk.mk (3) false false true (Data.ints IntKind.i64 ws)), some (Blk.mk (3) false false true (Data.ints IntKind.i64 l)),
  some (Blk.mk (3) true (decide ((splitF l 0 ws) = [])) true (Data.ints IntKind.i64 (splitF l 0 ws)))])))))))) : Tree (AV × Mem)).GivesP (.tup [.sl (decide (splitL ws l = [])) ⟨2, 0, 0, 0⟩ false (splitL ws l).length .own, .int .i64 false (splitE ws l)]) ([some ⟨3, false, false, true, .ints .i64 ws⟩, some ⟨3, false, false, true, .ints .i64 l⟩, some (⟨3, true, decide (splitL ws l = []), true, .ints .i64 (splitL ws l)⟩)]) := by
  obtain ⟨hs, hs2, hzw, hzl⟩ := hw
  simp only [List.take_length, List.drop_zero]
  refine Tree.GivesP.chk (by first | (simp only [and_self]; done) | (exact ⟨⟨by omega, trivial⟩, hs, hzw⟩)) ?_
  refine Tree.GivesP.br (fun h1 => ?_) (fun h1 => ?_)
  · (try simp only [decide_eq_true_eq, decide_eq_false_iff_not, Bool.not_eq_true', Bool.not_eq_false', beq_iff_eq, beq_eq_false_iff_ne, Int.not_lt, Int.not_le, ge_iff_le, gt_iff_lt, ne_eq, Bool.false_eq_true, Bool.true_eq_false, not_true_eq_false, not_false_eq_true, Bool.and_eq_true, Bool.not_eq_eq_eq_not, Bool.not_true, Bool.not_false, bne_iff_ne, bne_eq_false_iff_eq, Int.toNat_natCast, Nat.mul_one, Nat.add_zero, Nat.zero_add, List.take_length, List.drop_zero] at h1)
    all_goals
      refine Tree.GivesP.ret ?_ ?_
      · have e := split_may (l := l) h1
        simp [AV.le, AV.leL, Cap.le, e.1, e.2] <;> first | assumption | exact pl.symm
      · have e := split_may (l := l) h1
        simp [Mem.leP, Blk.le, Blk.pad, Data.le, Data.size, AV.le, AV.leL, e.1, e.2] <;> first | assumption | (cases decide (outTo ws vs ws.length = []) <;> rfl)
  · (try simp only [decide_eq_true_eq, decide_eq_false_iff_not, Bool.not_eq_true', Bool.not_eq_false', beq_iff_eq, beq_eq_false_iff_ne, Int.not_lt, Int.not_le, ge_iff_le, gt_iff_lt, ne_eq, Bool.false_eq_true, Bool.true_eq_false, not_true_eq_false, not_false_eq_true, Bool.and_eq_true, Bool.not_eq_eq_eq_not, Bool.not_true, Bool.not_false, bne_iff_ne, bne_eq_false_iff_eq, Int.toNat_natCast, Nat.mul_one, Nat.add_zero, Nat.zero_add, List.take_length, List.drop_zero] at h1)
    all_goals
      refine Tree.GivesP.chk (by first | (simp only [and_self]; done) | (exact ⟨⟨by omega, trivial⟩, by have := (may_ok h1).1; omega, hzw⟩)) ?_
      refine Tree.GivesP.chk (by first | (simp only [and_self]; done) | (have sz := size_small h1; exact ⟨⟨trivial, by omega, trivial⟩, hs2, hzl, by omega, by omega⟩)) ?_
      refine Tree.GivesP.br (fun h2 => ?_) (fun h2 => ?_)
      · (try simp only [decide_eq_true_eq, decide_eq_false_iff_not, Bool.not_eq_true', Bool.not_eq_false', beq_iff_eq, beq_eq_false_iff_ne, Int.not_lt, Int.not_le, ge_iff_le, gt_iff_lt, ne_eq, Bool.false_eq_true, Bool.true_eq_false, not_true_eq_false, not_false_eq_true, Bool.and_eq_true, Bool.not_eq_eq_eq_not, Bool.not_true, Bool.not_false, bne_iff_ne, bne_eq_false_iff_eq, Int.toNat_natCast, Nat.mul_one, Nat.add_zero, Nat.zero_add, List.take_length, List.drop_zero] at h2)
        all_goals
          refine Tree.GivesP.ret ?_ ?_
          · have e := split_look h1 h2
            simp [AV.le, AV.leL, Cap.le, e.1, e.2] <;> first | assumption | exact pl.symm
          · have e := split_look h1 h2
            simp [Mem.leP, Blk.le, Blk.pad, Data.le, Data.size, AV.le, AV.leL, e.1, e.2] <;> first | assumption | (cases decide (outTo ws vs ws.length = []) <;> rfl)
      · (try simp only [decide_eq_true_eq, decide_eq_false_iff_not, Bool.not_eq_true', Bool.not_eq_false', beq_iff_eq, beq_eq_false_iff_ne, Int.not_lt, Int.not_le, ge_iff_le, gt_iff_lt, ne_eq, Bool.false_eq_true, Bool.true_eq_false, not_true_eq_false, not_false_eq_true, Bool.and_eq_true, Bool.not_eq_eq_eq_not, Bool.not_true, Bool.not_false, bne_iff_ne, bne_eq_false_iff_eq, Int.toNat_natCast, Nat.mul_one, Nat.add_zero, Nat.zero_add, List.take_length, List.drop_zero] at h2)
        all_goals
          refine Tree.GivesP.chk (by first | (simp only [and_self]; done) | (constructor <;> simp only [hdsplit_0, Int.toNat_zero, Int.cast_ofNat_Int, AV.leL, AV.le, Mem.le, Mem.leP, Blk.le, Blk.pad, Data.le, Data.size, Cap.le, and_true, true_and, and_self, true_implies, implies_true, imp_self, List.length_nil] <;> (try simp only [List.take_zero]) <;> (try rfl) <;> (try (repeat' with_reducible refine And.intro ?_ ?_)) <;> rfl)) ?_
          refine Tree.GivesP.chk (by first | (simp only [and_self]; done) | (exact ⟨h1, hs2, hzw, hzl, h2, Nat.zero_le _⟩)) ?_
          refine Tree.GivesP.ret ?_ ?_
          · have e := split_good h1 h2
            simp [AV.le, AV.leL, Cap.le, e.1, e.2] <;> first | assumption | exact pl.symm
          · have e := split_good h1 h2
            simp [Mem.leP, Blk.le, Blk.pad, Data.le, Data.size, AV.le, AV.leL, e.1, e.2] <;> first | assumption | (cases decide (outTo ws vs ws.length = []) <;> rfl)
theorem ssplit (hall : AllOk Try.prog 0 (fun _ => none) tab21) (zws : Bool) (ws : List Int) (zl : Bool) (l : List Int) (hw : short ws ∧ short l ∧ (zws = true → ws = []) ∧ (zl = true → l = [])) : SoundAt (mkC Try.prog 0 (fun _ => none) []) 21 [.sl zws ⟨0, 0, 0, 0⟩ false ws.length .any, .sl zl ⟨1, 0, 0, 0⟩ false l.length .any] [some ⟨3, false, false, true, .ints .i64 ws⟩, some ⟨3, false, false, true, .ints .i64 l⟩] (.tup [.sl (decide (splitL ws l = [])) ⟨2, 0, 0, 0⟩ false (splitL ws l).length .own, .int .i64 false (splitE ws l)], [some ⟨3, false, false, true, .ints .i64 ws⟩, some ⟨3, false, false, true, .ints .i64 l⟩, some (⟨3, true, decide (splitL ws l = []), true, .ints .i64 (splitL ws l)⟩)]) := sound_loopsP hall mix (loopssplit hall) (tsplit zws ws zl l) (gsplit zws ws zl l hw)
theorem Fsplit_ok (hall : AllOk Try.prog 0 (fun _ => none) tab21) : PureF Try.prog 3 21 Fsplit := by
  intro xs c v news h hc
  unfold Fsplit at h
  split at h
  · rename_i zws ws zl l
    cases h
    refine ⟨(by simp), SoundAt.flags (ssplit hall zws ws zl l hc) ?_⟩
    simp [PA.avs, AV.le, AV.leL, Cap.le]
  · cases h
end Go.Proofs.Ytnkjblmlchbfkaa.Rig

/- Qrfields -/
namespace Go.Proofs.Ytnkjblmlchbfkaa.Rig
open Go
set_option maxRecDepth 100000 in
theorem tLrfields_1 (zws : Bool) (ws : List Int) (zvs : Bool) (vs : List Int) (i : Nat) (b : Int) : tidied Trfields_1 Urfields_1 2 (evCode (mkL Try.prog 0 (fun _ => none) tab22 rowsrfields) (evCall (mkC Try.prog 0 (fun _ => none) tab22) 50) 20 2 fuelC (bodyAt Try.prog 20 1) (hdrfields_1 ⟨zws, ws, zvs, vs, i, b⟩)) =
  Tree.br (decide (b ≥ (0 : Int)))
  (Tree.br (!zvs && decide ((0 : Int) ≤ (i : Int) ∧ (i : Int) < ((List.length vs) : Int)))
  (Tree.br (decide (Int.toNat (i : Int) * 1 + 0 + 1 ≤ List.length vs))
  (Tree.chk ((True ∧ True) ∧ b ≤ (62 : Int))
  (Tree.br (!decide ((2 : Int) ^ Int.toNat b = (0 : Int)))
  (Tree.br true
  (Tree.br (Int.tmod (IntKind.wrap IntKind.i64 (Int.tdiv (List.getD vs (Int.toNat (i : Int) * 1 + 0 + 0) (0 : Int)) ((2 : Int) ^ Int.toNat b))) (2 : Int) == (1 : Int))
  (Tree.br true
  (Tree.br
  (!false &&
  decide
  ((0 : Int) ≤ IntKind.wrap IntKind.i64 (Int.tdiv ((List.length (bitsAt ws vs i b)) : Int) (16 : Int)) ∧
  IntKind.wrap IntKind.i64 (Int.tdiv ((List.length (bitsAt ws vs i b)) : Int) (16 : Int)) < ((Int.toNat (sizeZ ws)) : Int)))
  (Tree.br
  (decide (Int.toNat (IntKind.wrap IntKind.i64 (Int.tdiv ((List.length (bitsAt ws vs i b)) : Int) (16 : Int))) * 1 + 0 + 1 ≤ List.length (packS (sizeZ ws) (bitsAt ws vs i b))))
  (Tree.br true
  (Tree.chk ((True ∧ True) ∧ IntKind.wrap IntKind.i64 ((15 : Int) - Int.tmod ((List.length (bitsAt ws vs i b)) : Int) (16 : Int)) ≤ (62 : Int))
  (Tree.br
  (!false &&
  decide
  ((0 : Int) ≤ IntKind.wrap IntKind.i64 (Int.tdiv ((List.length (bitsAt ws vs i b)) : Int) (16 : Int)) ∧
  IntKind.wrap IntKind.i64 (Int.tdiv ((List.length (bitsAt ws vs i b)) : Int) (16 : Int)) < ((Int.toNat (sizeZ ws)) : Int)))
  (Tree.br
  (decide (Int.toNat (IntKind.wrap IntKind.i64 (Int.tdiv ((List.length (bitsAt ws vs i b)) : Int) (16 : Int))) * 1 + 0 < List.length (packS (sizeZ ws) (bitsAt ws vs i b))))
  (Tree.ret
  (Ex.norm,
  St.mk
  [AV.sl zws (Ref.mk (0) (0) (0) (0)) false (List.length ws) Cap.any,
  AV.sl zvs (Ref.mk (1) (0) (0) (0)) false (List.length vs) Cap.any, AV.junk, AV.junk, AV.junk, AV.junk, AV.junk,
  AV.sl false (Ref.mk (2) (0) (0) (0)) false (Int.toNat (sizeZ ws)) Cap.exact,
  AV.int IntKind.i64 false (IntKind.wrap IntKind.i64 (((List.length (bitsAt ws vs i b)) : Int) + (1 : Int))), AV.int IntKind.i64 false (i : Int),
  AV.int IntKind.i64 false (IntKind.wrap IntKind.i64 (b - (1 : Int))), AV.junk, AV.junk, AV.junk, AV.junk, AV.junk, AV.junk, AV.junk, AV.junk, AV.junk, AV.junk, AV.junk, AV.junk, AV.junk, AV.junk,
  AV.junk, AV.junk, AV.junk, AV.junk, AV.junk, AV.junk, AV.junk, AV.junk, AV.junk, AV.junk, AV.junk, AV.junk, AV.junk, AV.junk, AV.junk, AV.junk, AV.junk, AV.junk, AV.junk, AV.junk, AV.junk, AV.junk,
  AV.junk, AV.junk, AV.junk, AV.junk, AV.junk, AV.junk, AV.junk, AV.junk, AV.junk, AV.junk, AV.junk, AV.junk, AV.junk, AV.junk, AV.junk, AV.junk, AV.junk, AV.junk, AV.junk, AV.junk, AV.junk, AV.junk,
  AV.junk, AV.junk, AV.junk, AV.junk, AV.junk, AV.junk, AV.junk, AV.junk, AV.junk, AV.junk]
  [some (Blk.mk (3) false false true (Data.ints IntKind.i64 ws)), some (Blk.mk (3) false false true (Data.ints IntKind.i64 vs)),
  some
  (Blk.mk (3) true false true
  (Data.ints IntKind.i64
  (List.set (packS (sizeZ ws) (bitsAt ws vs i b)) (Int.toNat (IntKind.wrap IntKind.i64 (Int.tdiv ((List.length (bitsAt ws vs i b)) : Int) (16 : Int))) * 1 + 0)
  (IntKind.wrap IntKind.i64
  (List.getD (packS (sizeZ ws) (bitsAt ws vs i b))
  (Int.toNat (IntKind.wrap IntKind.i64 (Int.tdiv ((List.length (bitsAt ws vs i b)) : Int) (16 : Int))) * 1 + 0 + 0) (0 : Int) +
  (2 : Int) ^ Int.toNat (IntKind.wrap IntKind.i64 ((15 : Int) - Int.tmod ((List.length (bitsAt ws vs i b)) : Int) (16 : Int))))))))]))
  Tree.fail)
  Tree.fail))
  Tree.fail)
  Tree.fail)
  Tree.fail)
  Tree.fail)
  (Tree.ret
  (Ex.norm,
  St.mk
  [AV.sl zws (Ref.mk (0) (0) (0) (0)) false (List.length ws) Cap.any, AV.sl zvs (Ref.mk (1) (0) (0) (0)) false (List.length vs) Cap.any, AV.junk,
  AV.junk, AV.junk, AV.junk, AV.junk, AV.sl false (Ref.mk (2) (0) (0) (0)) false (Int.toNat (sizeZ ws)) Cap.exact,
  AV.int IntKind.i64 false (IntKind.wrap IntKind.i64 (((List.length (bitsAt ws vs i b)) : Int) + (1 : Int))), AV.int IntKind.i64 false (i : Int), AV.int IntKind.i64 false (IntKind.wrap IntKind.i64 (b - (1 : Int))),
  AV.junk, AV.junk, AV.junk, AV.junk, AV.junk, AV.junk, AV.junk, AV.junk, AV.junk, AV.junk, AV.junk, AV.junk, AV.junk, AV.junk, AV.junk, AV.junk, AV.junk, AV.junk, AV.junk, AV.junk, AV.junk, AV.junk, AV.junk, AV.junk,
  AV.junk, AV.junk, AV.junk, AV.junk, AV.junk, AV.junk, AV.junk, AV.junk, AV.junk, AV.junk, AV.junk, AV.junk, AV.junk, AV.junk, AV.junk, AV.junk, AV.junk, AV.junk, AV.junk, AV.junk, AV.junk, AV.junk, AV.junk, AV.junk,
  AV.junk, AV.junk, AV.junk, AV.junk, AV.junk, AV.junk, AV.junk, AV.junk, AV.junk, AV.junk, AV.junk, AV.junk, AV.junk, AV.junk, AV.junk, AV.junk, AV.junk, AV.junk, AV.junk, AV.junk]
  [some (Blk.mk (3) false false true (Data.ints IntKind.i64 ws)), some (Blk.mk (3) false false true (Data.ints IntKind.i64 vs)),
  some (Blk.mk (3) true false true (Data.ints IntKind.i64 (packS (sizeZ ws) (bitsAt ws vs i b))))])))
  Tree.fail)
  Tree.fail))
  Tree.fail)
  Tree.fail)
  (Tree.ret
  (Ex.exit (2),
  St.mk
  [AV.sl zws (Ref.mk (0) (0) (0) (0)) false (List.length ws) Cap.any, AV.sl zvs (Ref.mk (1) (0) (0) (0)) false (List.length vs) Cap.any, AV.junk, AV.junk,
  AV.junk, AV.junk, AV.junk, AV.sl false (Ref.mk (2) (0) (0) (0)) false (Int.toNat (sizeZ ws)) Cap.exact, AV.int IntKind.i64 false ((List.length (bitsAt ws vs i b)) : Int),
  AV.int IntKind.i64 false (i : Int), AV.junk, AV.junk, AV.junk, AV.junk, AV.junk, AV.junk, AV.junk, AV.junk, AV.junk, AV.junk, AV.junk, AV.junk, AV.junk, AV.junk, AV.junk, AV.junk, AV.junk, AV.junk, AV.junk, AV.junk, AV.junk, AV.junk,
  AV.junk, AV.junk, AV.junk, AV.junk, AV.junk, AV.junk, AV.junk, AV.junk, AV.junk, AV.junk, AV.junk, AV.junk, AV.junk, AV.junk, AV.junk, AV.junk, AV.junk, AV.junk, AV.junk, AV.junk, AV.junk, AV.junk, AV.junk, AV.junk, AV.junk,
  AV.junk, AV.junk, AV.junk, AV.junk, AV.junk, AV.junk, AV.junk, AV.junk, AV.junk, AV.junk, AV.junk, AV.junk, AV.junk, AV.junk, AV.junk, AV.junk, AV.junk, AV.junk, AV.junk, AV.junk, AV.junk, AV.junk]
  [some (Blk.mk (3) false false true (Data.ints IntKind.i64 ws)), some (Blk.mk (3) false false true (Data.ints IntKind.i64 vs)),
  some (Blk.mk (3) true false true (Data.ints IntKind.i64 (packS (sizeZ ws) (bitsAt ws vs i b))))])) := by kernel_rfl
set_option maxRecDepth 100000 in
theorem steprfields_1 (zws : Bool) (ws : List Int) (zvs : Bool) (vs : List Int) (i : Nat) (b : Int) (ex : Ex) (r : St) (hok : okrfields_1 ⟨zws, ws, zvs, vs, i, b⟩) (hr : (outrfields_1 ⟨zws, ws, zvs, vs, i, b⟩).runs (ex, r)) : (Tree.br (decide (b ≥ (0 : Int)))
  (Tree.br (!zvs && decide ((0 : Int) ≤ (i : Int) ∧ (i : Int) < ((List.length vs) : Int)))
  (Tree.br (decide (Int.toNat (i : Int) * 1 + 0 + 1 ≤ List.length vs))
  (Tree.chk ((True ∧ True) ∧ b ≤ (62 : Int))
  (Tree.br (!decide ((2 : Int) ^ Int.toNat b = (0 : Int)))
  (Tree.br true
  (Tree.br (Int.tmod (IntKind.wrap IntKind.i64 (Int.tdiv (List.getD vs (Int.toNat (i : Int) * 1 + 0 + 0) (0 : Int)) ((2 : Int) ^ Int.toNat b))) (2 : Int) == (1 : Int))
  (Tree.br true
  (Tree.br
  (!false &&
  decide
  ((0 : Int) ≤ IntKind.wrap IntKind.i64 (Int.tdiv ((List.length (bitsAt ws vs i b)) : Int) (16 : Int)) ∧
  IntKind.wrap IntKind.i64 (Int.tdiv ((List.length (bitsAt ws vs i b)) : Int) (16 : Int)) < ((Int.toNat (sizeZ ws)) : Int)))
  (Tree.br
  (decide (Int.toNat (IntKind.wrap IntKind.i64 (Int.tdiv ((List.length (bitsAt ws vs i b)) : Int) (16 : Int))) * 1 + 0 + 1 ≤ List.length (packS (sizeZ ws) (bitsAt ws vs i b))))
  (Tree.br true
  (Tree.chk ((True ∧ True) ∧ IntKind.wrap IntKind.i64 ((15 : Int) - Int.tmod ((List.length (bitsAt ws vs i b)) : Int) (16 : Int)) ≤ (62 : Int))
  (Tree.br
  (!false &&
  decide
  ((0 : Int) ≤ IntKind.wrap IntKind.i64 (Int.tdiv ((List.length (bitsAt ws vs i b)) : Int) (16 : Int)) ∧
  IntKind.wrap IntKind.i64 (Int.tdiv ((List.length (bitsAt ws vs i b)) : Int) (16 : Int)) < ((Int.toNat (sizeZ ws)) : Int)))
  (Tree.br
  (decide (Int.toNat (IntKind.wrap IntKind.i64 (Int.tdiv ((List.length (bitsAt ws vs i b)) : Int) (16 : Int))) * 1 + 0 < List.length (packS (sizeZ ws) (bitsAt ws vs i b))))
  (Tree.ret
  (Ex.norm,
  St.mk
  [AV.sl zws (Ref.mk (0) (0) (0) (0)) false (List.length ws) Cap.any,
  AV.sl zvs (Ref.mk (1) (0) (0) (0)) false (List.length vs) Cap.any, AV.junk, AV.junk, AV.junk, AV.junk, AV.junk,
  AV.sl false (Ref.mk (2) (0) (0) (0)) false (Int.toNat (sizeZ ws)) Cap.exact,
  AV.int IntKind.i64 false (IntKind.wrap IntKind.i64 (((List.length (bitsAt ws vs i b)) : Int) + (1 : Int))), AV.int IntKind.i64 false (i : Int),
  AV.int IntKind.i64 false (IntKind.wrap IntKind.i64 (b - (1 : Int))), AV.junk, AV.junk, AV.junk, AV.junk, AV.junk, AV.junk, AV.junk, AV.junk, AV.junk, AV.junk, AV.junk, AV.junk, AV.junk, AV.junk,
  AV.junk, AV.junk, AV.junk, AV.junk, AV.junk, AV.junk, AV.junk, AV.junk, AV.junk, AV.junk, AV.junk, AV.junk, AV.junk, AV.junk, AV.junk, AV.junk, AV.junk, AV.junk, AV.junk, AV.junk, AV.junk, AV.junk,
  AV.junk, AV.junk, AV.junk, AV.junk, AV.junk, AV.junk, AV.junk, AV.junk, AV.junk, AV.junk, AV.junk, AV.junk, AV.junk, AV.junk, AV.junk, AV.junk, AV.junk, AV.junk, AV.junk, AV.junk, AV.junk, AV.junk,
  AV.junk, AV.junk, AV.junk, AV.junk, AV.junk, AV.junk, AV.junk, AV.junk, AV.junk, AV.junk]
  [some (Blk.mk (3) false false true (Data.ints IntKind.i64 ws)), some (Blk.mk (3) false false true (Data.ints IntKind.i64 vs)),
  some
  (Blk.mk (3) true false true
  (Data.ints IntKind.i64
  (List.set (packS (sizeZ ws) (bitsAt ws vs i b)) (Int.toNat (IntKind.wrap IntKind.i64 (Int.tdiv ((List.length (bitsAt ws vs i b)) : Int) (16 : Int))) * 1 + 0)
  (IntKind.wrap IntKind.i64
  (List.getD (packS (sizeZ ws) (bitsAt ws vs i b))
  (Int.toNat (IntKind.wrap IntKind.i64 (Int.tdiv ((List.length (bitsAt ws vs i b)) : Int) (16 : Int))) * 1 + 0 + 0) (0 : Int) +
  (2 : Int) ^ Int.toNat (IntKind.wrap IntKind.i64 ((15 : Int) - Int.tmod ((List.length (bitsAt ws vs i b)) : Int) (16 : Int))))))))]))
  Tree.fail)
  Tree.fail))
  Tree.fail)
  Tree.fail)
  Tree.fail)
  Tree.fail)
  (Tree.ret
  (Ex.norm,
  St.mk
  [AV.sl zws (Ref.mk (0) (0) (0) (0)) false (List.length ws) Cap.any, AV.sl zvs (Ref.mk (1) (0) (0) (0)) false (List.length vs) Cap.any, AV.junk,
  AV.junk, AV.junk, AV.junk, AV.junk, AV.sl false (Ref.mk (2) (0) (0) (0)) false (Int.toNat (sizeZ ws)) Cap.exact,
  AV.int IntKind.i64 false (IntKind.wrap IntKind.i64 (((List.length (bitsAt ws vs i b)) : Int) + (1 : Int))), AV.int IntKind.i64 false (i : Int), AV.int IntKind.i64 false (IntKind.wrap IntKind.i64 (b - (1 : Int))),
  AV.junk, AV.junk, AV.junk, AV.junk, AV.junk, AV.junk, AV.junk, AV.junk, AV.junk, AV.junk, AV.junk, AV.junk, AV.junk, AV.junk, AV.junk, AV.junk, AV.junk, AV.junk, AV.junk, AV.junk, AV.junk, AV.junk, AV.junk, AV.junk,
  AV.junk, AV.junk, AV.junk, AV.junk, AV.junk, AV.junk, AV.junk, AV.junk, AV.junk, AV.junk, AV.junk, AV.junk, AV.junk, AV.junk, AV.junk, AV.junk, AV.junk, AV.junk, AV.junk, AV.junk, AV.junk, AV.junk, AV.junk, AV.junk,
  AV.junk, AV.junk, AV.junk, AV.junk, AV.junk, AV.junk, AV.junk, AV.junk, AV.junk, AV.junk, AV.junk, AV.junk, AV.junk, AV.junk, AV.junk, AV.junk, AV.junk, AV.junk, AV.junk, AV.junk]
  [some (Blk.mk (3) false false true (Data.ints IntKind.i64 ws)), some (Blk.mk (3) false false true (Data.ints IntKind.i64 vs)),
  some (Blk.mk (3) true false true (Data.ints IntKind.i64 (packS (sizeZ ws) (bitsAt ws vs i b))))])))
  Tree.fail)
  Tree.fail))
  Tree.fail)
  Tree.fail)
  (Tree.ret
  (Ex.exit (2),
  St.mk
  [AV.sl zws (Ref.mk (0) (0) (0) (0)) false (List.length ws) Cap.any, AV.sl zvs (Ref.mk (1) (0) (0) (0)) false (List.length vs) Cap.any, AV.junk, AV.junk,
  AV.junk, AV.junk, AV.junk, AV.sl false (Ref.mk (2) (0) (0) (0)) false (Int.toNat (sizeZ ws)) Cap.exact, AV.int IntKind.i64 false ((List.length (bitsAt ws vs i b)) : Int),
  AV.int IntKind.i64 false (i : Int), AV.junk, AV.junk, AV.junk, AV.junk, AV.junk, AV.junk, AV.junk, AV.junk, AV.junk, AV.junk, AV.junk, AV.junk, AV.junk, AV.junk, AV.junk, AV.junk, AV.junk, AV.junk, AV.junk, AV.junk, AV.junk, AV.junk,
  AV.junk, AV.junk, AV.junk, AV.junk, AV.junk, AV.junk, AV.junk, AV.junk, AV.junk, AV.junk, AV.junk, AV.junk, AV.junk, AV.junk, AV.junk, AV.junk, AV.junk, AV.junk, AV.junk, AV.junk, AV.junk, AV.junk, AV.junk, AV.junk, AV.junk,
  AV.junk, AV.junk, AV.junk, AV.junk, AV.junk, AV.junk, AV.junk, AV.junk, AV.junk, AV.junk, AV.junk, AV.junk, AV.junk, AV.junk, AV.junk, AV.junk, AV.junk, AV.junk, AV.junk, AV.junk, AV.junk, AV.junk]
  [some (Blk.mk (3) false false true (Data.ints IntKind.i64 ws)), some (Blk.mk (3) false false true (Data.ints IntKind.i64 vs)),
  some (Blk.mk (3) true false true (Data.ints IntKind.i64 (packS (sizeZ ws) (bitsAt ws vs i b))))])) : Tree (Ex × St)).Sat (Post hdrfields_1 resrfields_1 murfields_1 ⟨zws, ws, zvs, vs, i, b⟩ ex r) := by
  simp only [okrfields_1, outrfields_1, Tree.runs] at hok hr
  obtain ⟨⟨hm, hl, hzw, hzv, hwv, hi, hf⟩, hlt, hv0, hv1, hb0, hb1⟩ := hok
  obtain ⟨h256, hbv⟩ := may_ok hm
  have sz := size_small hm
  have hg := badV_get (i := i) hbv hlt
  have sq := sumN_eq (ws.take i) (any_take_no hbv i)
  have sl := sum_next (ws := ws) (i := i) hbv hlt
  rw [List.length_take] at sq
  have bl := bitsAt_len (vs := vs) hb0 hb1 hl
  have p16 := pow16 (w := (ws.getD i 0).toNat) (by omega)
  have wb := wordAt_bound (bitsAt_bit ws vs i b) ((bitsAt ws vs i b).length / 16)
  have ev := bit_val (x := vs.getD i 0) (n := b.toNat) hv0 (by omega)
  have hpl := packS_len (sizeZ ws) (bitsAt ws vs i b)
  generalize hn : (bitsAt ws vs i b).length = n at *
  have e1 : IntKind.i64.wrap (Int.tdiv (n : Int) 16) = ((n / 16 : Nat) : Int) := by rw [Int.tdiv_eq_ediv_of_nonneg (by omega), w64]; omega
  have e3 : IntKind.i64.wrap (15 - Int.tmod (n : Int) 16) = ((15 - n % 16 : Nat) : Int) := by rw [Int.tmod_eq_emod_of_nonneg (by omega), w64]; omega
  have pp := pow_pos b.toNat
  have p15 := pow16 (w := 15 - n % 16) (by omega)
  have p15b := pow_pos (15 - n % 16)
  have hS : 0 ≤ b → n / 16 < (sizeZ ws).toNat := fun h => by omega
  have pg : 0 ≤ b → (packS (sizeZ ws) (bitsAt ws vs i b)).getD (n / 16) 0 = wordAt (bitsAt ws vs i b) (n / 16) := fun h => packS_getD (hS h)
  simp only [Int.toNat_natCast, Nat.mul_one, Nat.add_zero, e1, e3, ev]
  refine Tree.Sat.br (fun h1 => ?_) (fun h1 => ?_)
  · (try simp only [decide_eq_true_eq, decide_eq_false_iff_not, Bool.not_eq_true', Bool.not_eq_false', beq_iff_eq, beq_eq_false_iff_ne, Int.not_lt, Int.not_le, ge_iff_le, gt_iff_lt, ne_eq, Bool.false_eq_true, Bool.true_eq_false, not_true_eq_false, not_false_eq_true, Bool.and_eq_true, Bool.not_eq_eq_eq_not, Bool.not_true, Bool.not_false, bne_iff_ne, bne_eq_false_iff_eq, Int.toNat_natCast, Nat.mul_one, Nat.add_zero, Nat.zero_add, List.take_length, List.drop_zero] at h1)
    all_goals
      refine Tree.Sat.br (fun h2 => ?_) (fun h2 => ?_)
      · (try simp only [decide_eq_true_eq, decide_eq_false_iff_not, Bool.not_eq_true', Bool.not_eq_false', beq_iff_eq, beq_eq_false_iff_ne, Int.not_lt, Int.not_le, ge_iff_le, gt_iff_lt, ne_eq, Bool.false_eq_true, Bool.true_eq_false, not_true_eq_false, not_false_eq_true, Bool.and_eq_true, Bool.not_eq_eq_eq_not, Bool.not_true, Bool.not_false, bne_iff_ne, bne_eq_false_iff_eq, Int.toNat_natCast, Nat.mul_one, Nat.add_zero, Nat.zero_add, List.take_length, List.drop_zero] at h2)
        all_goals
          refine Tree.Sat.br (fun h3 => ?_) (fun h3 => ?_)
          · (try simp only [decide_eq_true_eq, decide_eq_false_iff_not, Bool.not_eq_true', Bool.not_eq_false', beq_iff_eq, beq_eq_false_iff_ne, Int.not_lt, Int.not_le, ge_iff_le, gt_iff_lt, ne_eq, Bool.false_eq_true, Bool.true_eq_false, not_true_eq_false, not_false_eq_true, Bool.and_eq_true, Bool.not_eq_eq_eq_not, Bool.not_true, Bool.not_false, bne_iff_ne, bne_eq_false_iff_eq, Int.toNat_natCast, Nat.mul_one, Nat.add_zero, Nat.zero_add, List.take_length, List.drop_zero] at h3)
            all_goals
              refine Tree.Sat.chk (by first | (simp only [and_self]; done) | (exact ⟨⟨trivial, trivial⟩, by omega⟩)) ?_
              refine Tree.Sat.br (fun h4 => ?_) (fun h4 => ?_)
              · (try simp only [decide_eq_true_eq, decide_eq_false_iff_not, Bool.not_eq_true', Bool.not_eq_false', beq_iff_eq, beq_eq_false_iff_ne, Int.not_lt, Int.not_le, ge_iff_le, gt_iff_lt, ne_eq, Bool.false_eq_true, Bool.true_eq_false, not_true_eq_false, not_false_eq_true, Bool.and_eq_true, Bool.not_eq_eq_eq_not, Bool.not_true, Bool.not_false, bne_iff_ne, bne_eq_false_iff_eq, Int.toNat_natCast, Nat.mul_one, Nat.add_zero, Nat.zero_add, List.take_length, List.drop_zero] at h4)
                all_goals
                  refine Tree.Sat.br (fun h5 => ?_) (fun h5 => ?_)
                  · (try simp only [decide_eq_true_eq, decide_eq_false_iff_not, Bool.not_eq_true', Bool.not_eq_false', beq_iff_eq, beq_eq_false_iff_ne, Int.not_lt, Int.not_le, ge_iff_le, gt_iff_lt, ne_eq, Bool.false_eq_true, Bool.true_eq_false, not_true_eq_false, not_false_eq_true, Bool.and_eq_true, Bool.not_eq_eq_eq_not, Bool.not_true, Bool.not_false, bne_iff_ne, bne_eq_false_iff_eq, Int.toNat_natCast, Nat.mul_one, Nat.add_zero, Nat.zero_add, List.take_length, List.drop_zero] at h5)
                    all_goals
                      refine Tree.Sat.br (fun h6 => ?_) (fun h6 => ?_)
                      · (try simp only [decide_eq_true_eq, decide_eq_false_iff_not, Bool.not_eq_true', Bool.not_eq_false', beq_iff_eq, beq_eq_false_iff_ne, Int.not_lt, Int.not_le, ge_iff_le, gt_iff_lt, ne_eq, Bool.false_eq_true, Bool.true_eq_false, not_true_eq_false, not_false_eq_true, Bool.and_eq_true, Bool.not_eq_eq_eq_not, Bool.not_true, Bool.not_false, bne_iff_ne, bne_eq_false_iff_eq, Int.toNat_natCast, Nat.mul_one, Nat.add_zero, Nat.zero_add, List.take_length, List.drop_zero] at h6)
                        all_goals
                          refine Tree.Sat.br (fun h7 => ?_) (fun h7 => ?_)
                          · (try simp only [decide_eq_true_eq, decide_eq_false_iff_not, Bool.not_eq_true', Bool.not_eq_false', beq_iff_eq, beq_eq_false_iff_ne, Int.not_lt, Int.not_le, ge_iff_le, gt_iff_lt, ne_eq, Bool.false_eq_true, Bool.true_eq_false, not_true_eq_false, not_false_eq_true, Bool.and_eq_true, Bool.not_eq_eq_eq_not, Bool.not_true, Bool.not_false, bne_iff_ne, bne_eq_false_iff_eq, Int.toNat_natCast, Nat.mul_one, Nat.add_zero, Nat.zero_add, List.take_length, List.drop_zero] at h7)
                            all_goals
                              refine Tree.Sat.br (fun h8 => ?_) (fun h8 => ?_)
                              · (try simp only [decide_eq_true_eq, decide_eq_false_iff_not, Bool.not_eq_true', Bool.not_eq_false', beq_iff_eq, beq_eq_false_iff_ne, Int.not_lt, Int.not_le, ge_iff_le, gt_iff_lt, ne_eq, Bool.false_eq_true, Bool.true_eq_false, not_true_eq_false, not_false_eq_true, Bool.and_eq_true, Bool.not_eq_eq_eq_not, Bool.not_true, Bool.not_false, bne_iff_ne, bne_eq_false_iff_eq, Int.toNat_natCast, Nat.mul_one, Nat.add_zero, Nat.zero_add, List.take_length, List.drop_zero] at h8)
                                all_goals
                                  refine Tree.Sat.br (fun h9 => ?_) (fun h9 => ?_)
                                  · (try simp only [decide_eq_true_eq, decide_eq_false_iff_not, Bool.not_eq_true', Bool.not_eq_false', beq_iff_eq, beq_eq_false_iff_ne, Int.not_lt, Int.not_le, ge_iff_le, gt_iff_lt, ne_eq, Bool.false_eq_true, Bool.true_eq_false, not_true_eq_false, not_false_eq_true, Bool.and_eq_true, Bool.not_eq_eq_eq_not, Bool.not_true, Bool.not_false, bne_iff_ne, bne_eq_false_iff_eq, Int.toNat_natCast, Nat.mul_one, Nat.add_zero, Nat.zero_add, List.take_length, List.drop_zero] at h9)
                                    all_goals
                                      refine Tree.Sat.br (fun h10 => ?_) (fun h10 => ?_)
                                      · (try simp only [decide_eq_true_eq, decide_eq_false_iff_not, Bool.not_eq_true', Bool.not_eq_false', beq_iff_eq, beq_eq_false_iff_ne, Int.not_lt, Int.not_le, ge_iff_le, gt_iff_lt, ne_eq, Bool.false_eq_true, Bool.true_eq_false, not_true_eq_false, not_false_eq_true, Bool.and_eq_true, Bool.not_eq_eq_eq_not, Bool.not_true, Bool.not_false, bne_iff_ne, bne_eq_false_iff_eq, Int.toNat_natCast, Nat.mul_one, Nat.add_zero, Nat.zero_add, List.take_length, List.drop_zero] at h10)
                                        all_goals
                                          refine Tree.Sat.chk (by first | (simp only [and_self]; done) | (exact ⟨⟨trivial, trivial⟩, by omega⟩)) ?_
                                          refine Tree.Sat.br (fun h11 => ?_) (fun h11 => ?_)
                                          · (try simp only [decide_eq_true_eq, decide_eq_false_iff_not, Bool.not_eq_true', Bool.not_eq_false', beq_iff_eq, beq_eq_false_iff_ne, Int.not_lt, Int.not_le, ge_iff_le, gt_iff_lt, ne_eq, Bool.false_eq_true, Bool.true_eq_false, not_true_eq_false, not_false_eq_true, Bool.and_eq_true, Bool.not_eq_eq_eq_not, Bool.not_true, Bool.not_false, bne_iff_ne, bne_eq_false_iff_eq, Int.toNat_natCast, Nat.mul_one, Nat.add_zero, Nat.zero_add, List.take_length, List.drop_zero] at h11)
                                            all_goals
                                              refine Tree.Sat.br (fun h12 => ?_) (fun h12 => ?_)
                                              · (try simp only [decide_eq_true_eq, decide_eq_false_iff_not, Bool.not_eq_true', Bool.not_eq_false', beq_iff_eq, beq_eq_false_iff_ne, Int.not_lt, Int.not_le, ge_iff_le, gt_iff_lt, ne_eq, Bool.false_eq_true, Bool.true_eq_false, not_true_eq_false, not_false_eq_true, Bool.and_eq_true, Bool.not_eq_eq_eq_not, Bool.not_true, Bool.not_false, bne_iff_ne, bne_eq_false_iff_eq, Int.toNat_natCast, Nat.mul_one, Nat.add_zero, Nat.zero_add, List.take_length, List.drop_zero] at h12)
                                                all_goals
                                                  refine Tree.Sat.ret ?_
                                                  have nx := bitsAt_next (vs := vs) (by omega) hb1
                                                  rw [h6] at nx
                                                  have ps := packS_snoc (S := sizeZ ws) (bs := bitsAt ws vs i b) (x := 1) (by rw [hn]; exact hS (by omega))
                                                  rw [hn, Int.one_mul, pg (by omega)] at ps
                                                  have pg2 := pg (by omega)
                                                  refine .norm ⟨zws, ws, zvs, vs, i, b - 1⟩ ?_ ?_ ⟨?_, ?_⟩
                                                  · constructor <;> simp only [hdrfields_1, AV.leL, AV.le, Mem.le, Mem.leP, Blk.le, Blk.pad, Data.le, Data.size, Cap.le, and_true, true_and, and_self, true_implies, implies_true, imp_self, List.length_nil] <;> (repeat' with_reducible refine And.intro ?_ ?_) <;> (try simp only [Int.toNat_natCast, Nat.mul_one, Nat.add_zero, Nat.zero_add]) <;> first | (rw [w64]; omega) | (rw [nx, List.length_append, hn, w64]; simp only [List.length_cons, List.length_nil]; omega) | (rw [nx, ps, pg2, show IntKind.i64.wrap (wordAt (bitsAt ws vs i b) (n / 16) + 2 ^ (15 - n % 16)) = wordAt (bitsAt ws vs i b) (n / 16) + 2 ^ (15 - n % 16) by rw [w64]; omega])
                                                  · simp only [murfields_1]; omega
                                                  · exact ⟨⟨hm, hl, hzw, hzv, hwv, hi, hf⟩, hlt, hv0, hv1, by omega, by omega⟩
                                                  · exact hr
                                              · (try simp only [decide_eq_true_eq, decide_eq_false_iff_not, Bool.not_eq_true', Bool.not_eq_false', beq_iff_eq, beq_eq_false_iff_ne, Int.not_lt, Int.not_le, ge_iff_le, gt_iff_lt, ne_eq, Bool.false_eq_true, Bool.true_eq_false, not_true_eq_false, not_false_eq_true, Bool.and_eq_true, Bool.not_eq_eq_eq_not, Bool.not_true, Bool.not_false, bne_iff_ne, bne_eq_false_iff_eq, Int.toNat_natCast, Nat.mul_one, Nat.add_zero, Nat.zero_add, List.take_length, List.drop_zero] at h12)
                                                all_goals
                                                  exfalso
                                                  first | omega | (have s := hS (by omega); omega) | (clear hf hr; have s := hS (by omega); simp_all; done) | (clear hf hr; cases zws <;> cases zvs <;> simp_all; done) | (clear hf hr; cases zws <;> cases zvs <;> simp_all <;> omega)
                                          · (try simp only [decide_eq_true_eq, decide_eq_false_iff_not, Bool.not_eq_true', Bool.not_eq_false', beq_iff_eq, beq_eq_false_iff_ne, Int.not_lt, Int.not_le, ge_iff_le, gt_iff_lt, ne_eq, Bool.false_eq_true, Bool.true_eq_false, not_true_eq_false, not_false_eq_true, Bool.and_eq_true, Bool.not_eq_eq_eq_not, Bool.not_true, Bool.not_false, bne_iff_ne, bne_eq_false_iff_eq, Int.toNat_natCast, Nat.mul_one, Nat.add_zero, Nat.zero_add, List.take_length, List.drop_zero] at h11)
                                            all_goals
                                              exfalso
                                              first | omega | (have s := hS (by omega); omega) | (clear hf hr; have s := hS (by omega); simp_all; done) | (clear hf hr; cases zws <;> cases zvs <;> simp_all; done) | (clear hf hr; cases zws <;> cases zvs <;> simp_all <;> omega)
                                      · (try simp only [decide_eq_true_eq, decide_eq_false_iff_not, Bool.not_eq_true', Bool.not_eq_false', beq_iff_eq, beq_eq_false_iff_ne, Int.not_lt, Int.not_le, ge_iff_le, gt_iff_lt, ne_eq, Bool.false_eq_true, Bool.true_eq_false, not_true_eq_false, not_false_eq_true, Bool.and_eq_true, Bool.not_eq_eq_eq_not, Bool.not_true, Bool.not_false, bne_iff_ne, bne_eq_false_iff_eq, Int.toNat_natCast, Nat.mul_one, Nat.add_zero, Nat.zero_add, List.take_length, List.drop_zero] at h10)
                                        all_goals
                                          exfalso
                                          first | omega | (have s := hS (by omega); omega) | (clear hf hr; have s := hS (by omega); simp_all; done) | (clear hf hr; cases zws <;> cases zvs <;> simp_all; done) | (clear hf hr; cases zws <;> cases zvs <;> simp_all <;> omega)
                                  · (try simp only [decide_eq_true_eq, decide_eq_false_iff_not, Bool.not_eq_true', Bool.not_eq_false', beq_iff_eq, beq_eq_false_iff_ne, Int.not_lt, Int.not_le, ge_iff_le, gt_iff_lt, ne_eq, Bool.false_eq_true, Bool.true_eq_false, not_true_eq_false, not_false_eq_true, Bool.and_eq_true, Bool.not_eq_eq_eq_not, Bool.not_true, Bool.not_false, bne_iff_ne, bne_eq_false_iff_eq, Int.toNat_natCast, Nat.mul_one, Nat.add_zero, Nat.zero_add, List.take_length, List.drop_zero] at h9)
                                    all_goals
                                      exfalso
                                      first | omega | (have s := hS (by omega); omega) | (clear hf hr; have s := hS (by omega); simp_all; done) | (clear hf hr; cases zws <;> cases zvs <;> simp_all; done) | (clear hf hr; cases zws <;> cases zvs <;> simp_all <;> omega)
                              · (try simp only [decide_eq_true_eq, decide_eq_false_iff_not, Bool.not_eq_true', Bool.not_eq_false', beq_iff_eq, beq_eq_false_iff_ne, Int.not_lt, Int.not_le, ge_iff_le, gt_iff_lt, ne_eq, Bool.false_eq_true, Bool.true_eq_false, not_true_eq_false, not_false_eq_true, Bool.and_eq_true, Bool.not_eq_eq_eq_not, Bool.not_true, Bool.not_false, bne_iff_ne, bne_eq_false_iff_eq, Int.toNat_natCast, Nat.mul_one, Nat.add_zero, Nat.zero_add, List.take_length, List.drop_zero] at h8)
                                all_goals
                                  exfalso
                                  first | omega | (have s := hS (by omega); omega) | (clear hf hr; have s := hS (by omega); simp_all; done) | (clear hf hr; cases zws <;> cases zvs <;> simp_all; done) | (clear hf hr; cases zws <;> cases zvs <;> simp_all <;> omega)
                          · (try simp only [decide_eq_true_eq, decide_eq_false_iff_not, Bool.not_eq_true', Bool.not_eq_false', beq_iff_eq, beq_eq_false_iff_ne, Int.not_lt, Int.not_le, ge_iff_le, gt_iff_lt, ne_eq, Bool.false_eq_true, Bool.true_eq_false, not_true_eq_false, not_false_eq_true, Bool.and_eq_true, Bool.not_eq_eq_eq_not, Bool.not_true, Bool.not_false, bne_iff_ne, bne_eq_false_iff_eq, Int.toNat_natCast, Nat.mul_one, Nat.add_zero, Nat.zero_add, List.take_length, List.drop_zero] at h7)
                            all_goals
                              exfalso
                              first | omega | (have s := hS (by omega); omega) | (clear hf hr; have s := hS (by omega); simp_all; done) | (clear hf hr; cases zws <;> cases zvs <;> simp_all; done) | (clear hf hr; cases zws <;> cases zvs <;> simp_all <;> omega)
                      · (try simp only [decide_eq_true_eq, decide_eq_false_iff_not, Bool.not_eq_true', Bool.not_eq_false', beq_iff_eq, beq_eq_false_iff_ne, Int.not_lt, Int.not_le, ge_iff_le, gt_iff_lt, ne_eq, Bool.false_eq_true, Bool.true_eq_false, not_true_eq_false, not_false_eq_true, Bool.and_eq_true, Bool.not_eq_eq_eq_not, Bool.not_true, Bool.not_false, bne_iff_ne, bne_eq_false_iff_eq, Int.toNat_natCast, Nat.mul_one, Nat.add_zero, Nat.zero_add, List.take_length, List.drop_zero] at h6)
                        all_goals
                          refine Tree.Sat.ret ?_
                          have nx := bitsAt_next (vs := vs) (by omega) hb1
                          rw [show vs.getD i 0 / 2 ^ b.toNat % 2 = 0 by omega] at nx
                          refine .norm ⟨zws, ws, zvs, vs, i, b - 1⟩ ?_ ?_ ⟨?_, ?_⟩
                          · constructor <;> simp only [hdrfields_1, AV.leL, AV.le, Mem.le, Mem.leP, Blk.le, Blk.pad, Data.le, Data.size, Cap.le, and_true, true_and, and_self, true_implies, implies_true, imp_self, List.length_nil] <;> (repeat' with_reducible refine And.intro ?_ ?_) <;> (try simp only [Int.toNat_natCast, Nat.mul_one, Nat.add_zero, Nat.zero_add]) <;> first | (rw [w64]; omega) | (rw [nx, List.length_append, hn, w64]; simp only [List.length_cons, List.length_nil]; omega) | (rw [nx, packS_zero_bit])
                          · simp only [murfields_1]; omega
                          · exact ⟨⟨hm, hl, hzw, hzv, hwv, hi, hf⟩, hlt, hv0, hv1, by omega, by omega⟩
                          · exact hr
                  · (try simp only [decide_eq_true_eq, decide_eq_false_iff_not, Bool.not_eq_true', Bool.not_eq_false', beq_iff_eq, beq_eq_false_iff_ne, Int.not_lt, Int.not_le, ge_iff_le, gt_iff_lt, ne_eq, Bool.false_eq_true, Bool.true_eq_false, not_true_eq_false, not_false_eq_true, Bool.and_eq_true, Bool.not_eq_eq_eq_not, Bool.not_true, Bool.not_false, bne_iff_ne, bne_eq_false_iff_eq, Int.toNat_natCast, Nat.mul_one, Nat.add_zero, Nat.zero_add, List.take_length, List.drop_zero] at h5)
                    all_goals
                      exfalso
                      first | omega | (have s := hS (by omega); omega) | (clear hf hr; have s := hS (by omega); simp_all; done) | (clear hf hr; cases zws <;> cases zvs <;> simp_all; done) | (clear hf hr; cases zws <;> cases zvs <;> simp_all <;> omega)
              · (try simp only [decide_eq_true_eq, decide_eq_false_iff_not, Bool.not_eq_true', Bool.not_eq_false', beq_iff_eq, beq_eq_false_iff_ne, Int.not_lt, Int.not_le, ge_iff_le, gt_iff_lt, ne_eq, Bool.false_eq_true, Bool.true_eq_false, not_true_eq_false, not_false_eq_true, Bool.and_eq_true, Bool.not_eq_eq_eq_not, Bool.not_true, Bool.not_false, bne_iff_ne, bne_eq_false_iff_eq, Int.toNat_natCast, Nat.mul_one, Nat.add_zero, Nat.zero_add, List.take_length, List.drop_zero] at h4)
                all_goals
                  exfalso
                  first | omega | (have s := hS (by omega); omega) | (clear hf hr; have s := hS (by omega); simp_all; done) | (clear hf hr; cases zws <;> cases zvs <;> simp_all; done) | (clear hf hr; cases zws <;> cases zvs <;> simp_all <;> omega)
          · (try simp only [decide_eq_true_eq, decide_eq_false_iff_not, Bool.not_eq_true', Bool.not_eq_false', beq_iff_eq, beq_eq_false_iff_ne, Int.not_lt, Int.not_le, ge_iff_le, gt_iff_lt, ne_eq, Bool.false_eq_true, Bool.true_eq_false, not_true_eq_false, not_false_eq_true, Bool.and_eq_true, Bool.not_eq_eq_eq_not, Bool.not_true, Bool.not_false, bne_iff_ne, bne_eq_false_iff_eq, Int.toNat_natCast, Nat.mul_one, Nat.add_zero, Nat.zero_add, List.take_length, List.drop_zero] at h3)
            all_goals
              exfalso
              first | omega | (have s := hS (by omega); omega) | (clear hf hr; have s := hS (by omega); simp_all; done) | (clear hf hr; cases zws <;> cases zvs <;> simp_all; done) | (clear hf hr; cases zws <;> cases zvs <;> simp_all <;> omega)
      · (try simp only [decide_eq_true_eq, decide_eq_false_iff_not, Bool.not_eq_true', Bool.not_eq_false', beq_iff_eq, beq_eq_false_iff_ne, Int.not_lt, Int.not_le, ge_iff_le, gt_iff_lt, ne_eq, Bool.false_eq_true, Bool.true_eq_false, not_true_eq_false, not_false_eq_true, Bool.and_eq_true, Bool.not_eq_eq_eq_not, Bool.not_true, Bool.not_false, bne_iff_ne, bne_eq_false_iff_eq, Int.toNat_natCast, Nat.mul_one, Nat.add_zero, Nat.zero_add, List.take_length, List.drop_zero] at h2)
        all_goals
          exfalso
          first | omega | (have s := hS (by omega); omega) | (clear hf hr; have s := hS (by omega); simp_all; done) | (clear hf hr; cases zws <;> cases zvs <;> simp_all; done) | (clear hf hr; cases zws <;> cases zvs <;> simp_all <;> omega)
  · (try simp only [decide_eq_true_eq, decide_eq_false_iff_not, Bool.not_eq_true', Bool.not_eq_false', beq_iff_eq, beq_eq_false_iff_ne, Int.not_lt, Int.not_le, ge_iff_le, gt_iff_lt, ne_eq, Bool.false_eq_true, Bool.true_eq_false, not_true_eq_false, not_false_eq_true, Bool.and_eq_true, Bool.not_eq_eq_eq_not, Bool.not_true, Bool.not_false, bne_iff_ne, bne_eq_false_iff_eq, Int.toNat_natCast, Nat.mul_one, Nat.add_zero, Nat.zero_add, List.take_length, List.drop_zero] at h1)
    all_goals
      refine Tree.Sat.ret ?_
      have hq := hr
      simp only [Prod.mk.injEq] at hq
      obtain ⟨rfl, rfl⟩ := hq
      refine .exit rfl ?_
      constructor <;> simp only [AV.leL, AV.le, Mem.le, Mem.leP, Blk.le, Blk.pad, Data.le, Data.size, Cap.le, and_true, true_and, and_self, true_implies, implies_true, imp_self, List.length_nil] <;> (repeat' with_reducible refine And.intro ?_ ?_) <;> (try simp only [Int.toNat_natCast, Nat.mul_one, Nat.add_zero, Nat.zero_add]) <;> first | (rw [← hn, show b = -1 by omega, bitsAt_end hlt hl hg.1]) | (rw [show b = -1 by omega, bitsAt_end hlt hl hg.1])
set_option maxHeartbeats 2000000 in
set_option maxRecDepth 100000 in
theorem looprfields_1 (hall : AllOk Try.prog 0 (fun _ => none) tab22) : LoopOk (mkL Try.prog 0 (fun _ => none) tab22 rowsrfields) 20 2 (bodyAt Try.prog 20 1) := by
  have hkey : Code.key (bodyAt Try.prog 20 1) = 14 := by kernel_rfl
  have hin : loopsIn (bodyAt Try.prog 20 1) = [] := by kernel_rfl
  have hrow : lookL rowsrfields 20 (Code.key (bodyAt Try.prog 20 1)) = some rowrfields_1 := by rw [hkey]; rfl
  refine loop_rowP (X := Xrfields_1) (row := rowrfields_1) hall mix hrow (fun b hb _ => by rw [hin] at hb; cases hb) Urfields_1 hdrfields_1 resrfields_1 murfields_1 (fun st ex r h => ?_) (fun x ex r hr => ?_)
  · have h' : (ansrfields_1 st).runs (ex, r) := h
    unfold ansrfields_1 at h'
    split at h'
    · obtain ⟨q1, q2⟩ := Tree.chk_runs h'
      exact ⟨_, q1, q2⟩
    · exact h'.elim
  · obtain ⟨zws, ws, zvs, vs, i, b⟩ := x
    have := steprfields_1 zws ws zvs vs i b ex r hr.1 hr.2
    rw [← tLrfields_1] at this
    (try rw [show rowrfields_1.tidy = Trfields_1 from rfl])
    exact this
set_option maxRecDepth 100000 in
theorem tLrfields_0 (zws : Bool) (ws : List Int) (zvs : Bool) (vs : List Int) (i : Nat) : tidied Trfields_0 Urfields_0 2 (evCode (mkL Try.prog 0 (fun _ => none) tab22 rowsrfields) (evCall (mkC Try.prog 0 (fun _ => none) tab22) 50) 20 2 fuelC (bodyAt Try.prog 20 0) (hdrfields_0 ⟨zws, ws, zvs, vs, i⟩)) =
  Tree.br (decide ((i : Int) < ((List.length ws) : Int)))
  (Tree.br (!zvs && decide ((0 : Int) ≤ (i : Int) ∧ (i : Int) < ((List.length vs) : Int)))
  (Tree.br (decide (Int.toNat (i : Int) * 1 + 0 + 1 ≤ List.length vs))
  (Tree.br (decide (List.getD vs (Int.toNat (i : Int) * 1 + 0 + 0) (0 : Int) < (0 : Int)))
  (Tree.ret
  (Ex.ret,
  St.mk
  [AV.junk, AV.junk, AV.junk, AV.junk, AV.sl true (Ref.mk (0) (0) (0) (0)) true (0) Cap.exact, AV.int IntKind.i64 true (2 : Int), AV.junk, AV.junk, AV.junk, AV.junk, AV.junk, AV.junk,
  AV.junk, AV.junk, AV.junk, AV.junk, AV.junk, AV.junk, AV.junk, AV.junk, AV.junk, AV.junk, AV.junk, AV.junk, AV.junk, AV.junk, AV.junk, AV.junk, AV.junk, AV.junk, AV.junk, AV.junk, AV.junk, AV.junk, AV.junk, AV.junk, AV.junk,
  AV.junk, AV.junk, AV.junk, AV.junk, AV.junk, AV.junk, AV.junk, AV.junk, AV.junk, AV.junk, AV.junk, AV.junk, AV.junk, AV.junk, AV.junk, AV.junk, AV.junk, AV.junk, AV.junk, AV.junk, AV.junk, AV.junk, AV.junk, AV.junk, AV.junk,
  AV.junk, AV.junk, AV.junk, AV.junk, AV.junk, AV.junk, AV.junk, AV.junk, AV.junk, AV.junk, AV.junk, AV.junk, AV.junk, AV.junk, AV.junk, AV.junk, AV.junk]
  [some (Blk.mk (3) false false true (Data.ints IntKind.i64 ws)), some (Blk.mk (3) false false true (Data.ints IntKind.i64 vs))]))
  (Tree.br (!zvs && decide ((0 : Int) ≤ (i : Int) ∧ (i : Int) < ((List.length vs) : Int)))
  (Tree.br (decide (Int.toNat (i : Int) * 1 + 0 + 1 ≤ List.length vs))
  (Tree.br (!zws && decide ((0 : Int) ≤ (i : Int) ∧ (i : Int) < ((List.length ws) : Int)))
  (Tree.br (decide (Int.toNat (i : Int) * 1 + 0 + 1 ≤ List.length ws))
  (Tree.chk ((True ∧ True) ∧ List.getD ws (Int.toNat (i : Int) * 1 + 0 + 0) (0 : Int) ≤ (62 : Int))
  (Tree.br (decide (List.getD vs (Int.toNat (i : Int) * 1 + 0 + 0) (0 : Int) ≥ (2 : Int) ^ Int.toNat (List.getD ws (Int.toNat (i : Int) * 1 + 0 + 0) (0 : Int))))
  (Tree.ret
  (Ex.ret,
  St.mk
  [AV.junk, AV.junk, AV.junk, AV.junk, AV.sl true (Ref.mk (0) (0) (0) (0)) true (0) Cap.exact, AV.int IntKind.i64 true (2 : Int), AV.junk, AV.junk, AV.junk, AV.junk, AV.junk,
  AV.junk, AV.junk, AV.junk, AV.junk, AV.junk, AV.junk, AV.junk, AV.junk, AV.junk, AV.junk, AV.junk, AV.junk, AV.junk, AV.junk, AV.junk, AV.junk, AV.junk, AV.junk, AV.junk, AV.junk, AV.junk, AV.junk, AV.junk,
  AV.junk, AV.junk, AV.junk, AV.junk, AV.junk, AV.junk, AV.junk, AV.junk, AV.junk, AV.junk, AV.junk, AV.junk, AV.junk, AV.junk, AV.junk, AV.junk, AV.junk, AV.junk, AV.junk, AV.junk, AV.junk, AV.junk, AV.junk,
  AV.junk, AV.junk, AV.junk, AV.junk, AV.junk, AV.junk, AV.junk, AV.junk, AV.junk, AV.junk, AV.junk, AV.junk, AV.junk, AV.junk, AV.junk, AV.junk, AV.junk, AV.junk, AV.junk, AV.junk, AV.junk, AV.junk]
  [some (Blk.mk (3) false false true (Data.ints IntKind.i64 ws)), some (Blk.mk (3) false false true (Data.ints IntKind.i64 vs))]))
  (Tree.br (!zws && decide ((0 : Int) ≤ (i : Int) ∧ (i : Int) < ((List.length ws) : Int)))
  (Tree.br (decide (Int.toNat (i : Int) * 1 + 0 + 1 ≤ List.length ws))
  (Tree.chk
  (St.le
  (St.mk
  [AV.sl zws (Ref.mk (0) (0) (0) (0)) false (List.length ws) Cap.any, AV.sl zvs (Ref.mk (1) (0) (0) (0)) false (List.length vs) Cap.any,
  AV.junk, AV.junk, AV.junk, AV.junk, AV.junk, AV.sl false (Ref.mk (2) (0) (0) (0)) false (Int.toNat (sizeZ ws)) Cap.exact,
  AV.int IntKind.i64 false ((List.length (bitsTo ws vs i)) : Int), AV.int IntKind.i64 false (i : Int),
  AV.int IntKind.i64 false (IntKind.wrap IntKind.i64 (List.getD ws (Int.toNat (i : Int) * 1 + 0 + 0) (0 : Int) - (1 : Int))), AV.junk, AV.junk, AV.junk, AV.junk, AV.junk, AV.junk,
  AV.junk, AV.junk, AV.junk, AV.junk, AV.junk, AV.junk, AV.junk, AV.junk, AV.junk, AV.junk, AV.junk, AV.junk, AV.junk, AV.junk, AV.junk, AV.junk, AV.junk, AV.junk, AV.junk, AV.junk, AV.junk, AV.junk, AV.junk,
  AV.junk, AV.junk, AV.junk, AV.junk, AV.junk, AV.junk, AV.junk, AV.junk, AV.junk, AV.junk, AV.junk, AV.junk, AV.junk, AV.junk, AV.junk, AV.junk, AV.junk, AV.junk, AV.junk, AV.junk, AV.junk, AV.junk, AV.junk,
  AV.junk, AV.junk, AV.junk, AV.junk, AV.junk, AV.junk, AV.junk, AV.junk, AV.junk, AV.junk, AV.junk, AV.junk, AV.junk, AV.junk, AV.junk, AV.junk]
  [some (Blk.mk (3) false false true (Data.ints IntKind.i64 ws)), some (Blk.mk (3) false false true (Data.ints IntKind.i64 vs)),
  some (Blk.mk (3) true false true (Data.ints IntKind.i64 (packS (sizeZ ws) (bitsTo ws vs i))))])
  (St.mk
  [AV.sl zws (Ref.mk (0) (0) (0) (0)) false (List.length ws) Cap.any, AV.sl zvs (Ref.mk (1) (0) (0) (0)) false (List.length vs) Cap.any,
  AV.junk, AV.junk, AV.junk, AV.junk, AV.junk, AV.sl false (Ref.mk (2) (0) (0) (0)) false (Int.toNat (sizeZ ws)) Cap.exact,
  AV.int IntKind.i64 false ((List.length (bitsAt ws vs (Int.toNat (i : Int)) (IntKind.wrap IntKind.i64 (List.getD ws (Int.toNat (i : Int) * 1 + 0 + 0) (0 : Int) - (1 : Int))))) : Int),
  AV.int IntKind.i64 false ((Int.toNat (i : Int)) : Int), AV.int IntKind.i64 false (IntKind.wrap IntKind.i64 (List.getD ws (Int.toNat (i : Int) * 1 + 0 + 0) (0 : Int) - (1 : Int))), AV.junk,
  AV.junk, AV.junk, AV.junk, AV.junk, AV.junk, AV.junk, AV.junk, AV.junk, AV.junk, AV.junk, AV.junk, AV.junk, AV.junk, AV.junk, AV.junk, AV.junk, AV.junk, AV.junk, AV.junk, AV.junk, AV.junk, AV.junk, AV.junk,
  AV.junk, AV.junk, AV.junk, AV.junk, AV.junk, AV.junk, AV.junk, AV.junk, AV.junk, AV.junk, AV.junk, AV.junk, AV.junk, AV.junk, AV.junk, AV.junk, AV.junk, AV.junk, AV.junk, AV.junk, AV.junk, AV.junk, AV.junk,
  AV.junk, AV.junk, AV.junk, AV.junk, AV.junk, AV.junk, AV.junk, AV.junk, AV.junk, AV.junk, AV.junk, AV.junk, AV.junk, AV.junk, AV.junk, AV.junk, AV.junk, AV.junk, AV.junk, AV.junk, AV.junk]
  [some (Blk.mk (3) false false true (Data.ints IntKind.i64 ws)), some (Blk.mk (3) false false true (Data.ints IntKind.i64 vs)),
  some
  (Blk.mk (3) true false true
  (Data.ints IntKind.i64
  (packS (sizeZ ws) (bitsAt ws vs (Int.toNat (i : Int)) (IntKind.wrap IntKind.i64 (List.getD ws (Int.toNat (i : Int) * 1 + 0 + 0) (0 : Int) - (1 : Int)))))))]))
  (Tree.chk (okrfields_1 (Xrfields_1.mk zws ws zvs vs (Int.toNat (i : Int)) (IntKind.wrap IntKind.i64 (List.getD ws (Int.toNat (i : Int) * 1 + 0 + 0) (0 : Int) - (1 : Int)))))
  (Tree.ret
  (Ex.norm,
  St.mk
  [AV.sl zws (Ref.mk (0) (0) (0) (0)) false (List.length ws) Cap.any,
  AV.sl zvs (Ref.mk (1) (0) (0) (0)) false (List.length vs) Cap.any, AV.junk, AV.junk, AV.junk, AV.junk, AV.junk,
  AV.sl false (Ref.mk (2) (0) (0) (0)) false (Int.toNat (sizeZ ws)) Cap.exact, AV.int IntKind.i64 false ((List.length (bitsTo ws vs (Int.toNat (i : Int) + 1))) : Int),
  AV.int IntKind.i64 false (IntKind.wrap IntKind.i64 (((Int.toNat (i : Int)) : Int) + (1 : Int))), AV.junk, AV.junk, AV.junk, AV.junk, AV.junk, AV.junk, AV.junk, AV.junk, AV.junk, AV.junk, AV.junk, AV.junk, AV.junk,
  AV.junk, AV.junk, AV.junk, AV.junk, AV.junk, AV.junk, AV.junk, AV.junk, AV.junk, AV.junk, AV.junk, AV.junk, AV.junk, AV.junk, AV.junk, AV.junk, AV.junk, AV.junk, AV.junk, AV.junk, AV.junk, AV.junk,
  AV.junk, AV.junk, AV.junk, AV.junk, AV.junk, AV.junk, AV.junk, AV.junk, AV.junk, AV.junk, AV.junk, AV.junk, AV.junk, AV.junk, AV.junk, AV.junk, AV.junk, AV.junk, AV.junk, AV.junk, AV.junk, AV.junk,
  AV.junk, AV.junk, AV.junk, AV.junk, AV.junk, AV.junk, AV.junk, AV.junk, AV.junk, AV.junk, AV.junk, AV.junk]
  [some (Blk.mk (3) false false true (Data.ints IntKind.i64 ws)), some (Blk.mk (3) false false true (Data.ints IntKind.i64 vs)),
  some (Blk.mk (3) true false true (Data.ints IntKind.i64 (packS (sizeZ ws) (bitsTo ws vs (Int.toNat (i : Int) + 1)))))]))))
  Tree.fail)
  Tree.fail)))
  Tree.fail)
  Tree.fail)
  Tree.fail)
  Tree.fail))
  Tree.fail)
  Tree.fail)
  (Tree.ret
  (Ex.exit (0),
  St.mk
  [AV.junk, AV.junk, AV.junk, AV.junk, AV.junk, AV.junk, AV.junk, AV.sl false (Ref.mk (2) (0) (0) (0)) false (Int.toNat (sizeZ ws)) Cap.exact, AV.junk, AV.junk, AV.junk, AV.junk, AV.junk, AV.junk,
  AV.junk, AV.junk, AV.junk, AV.junk, AV.junk, AV.junk, AV.junk, AV.junk, AV.junk, AV.junk, AV.junk, AV.junk, AV.junk, AV.junk, AV.junk, AV.junk, AV.junk, AV.junk, AV.junk, AV.junk, AV.junk, AV.junk, AV.junk, AV.junk, AV.junk,
  AV.junk, AV.junk, AV.junk, AV.junk, AV.junk, AV.junk, AV.junk, AV.junk, AV.junk, AV.junk, AV.junk, AV.junk, AV.junk, AV.junk, AV.junk, AV.junk, AV.junk, AV.junk, AV.junk, AV.junk, AV.junk, AV.junk, AV.junk, AV.junk, AV.junk,
  AV.junk, AV.junk, AV.junk, AV.junk, AV.junk, AV.junk, AV.junk, AV.junk, AV.junk, AV.junk, AV.junk, AV.junk, AV.junk, AV.junk, AV.junk]
  [some (Blk.mk (3) false false true (Data.ints IntKind.i64 ws)), some (Blk.mk (3) false false true (Data.ints IntKind.i64 vs)),
  some (Blk.mk (3) true false true (Data.ints IntKind.i64 (packS (sizeZ ws) (bitsTo ws vs i))))])) := by kernel_rfl
set_option maxRecDepth 100000 in
theorem steprfields_0 (zws : Bool) (ws : List Int) (zvs : Bool) (vs : List Int) (i : Nat) (ex : Ex) (r : St) (hok : okrfields_0 ⟨zws, ws, zvs, vs, i⟩) (hr : (outrfields_0 ⟨zws, ws, zvs, vs, i⟩).runs (ex, r)) : (Tree.br (decide ((i : Int) < ((List.length ws) : Int)))
  (Tree.br (!zvs && decide ((0 : Int) ≤ (i : Int) ∧ (i : Int) < ((List.length vs) : Int)))
  (Tree.br (decide (Int.toNat (i : Int) * 1 + 0 + 1 ≤ List.length vs))
  (Tree.br (decide (List.getD vs (Int.toNat (i : Int) * 1 + 0 + 0) (0 : Int) < (0 : Int)))
  (Tree.ret
  (Ex.ret,
  St.mk
  [AV.junk, AV.junk, AV.junk, AV.junk, AV.sl true (Ref.mk (0) (0) (0) (0)) true (0) Cap.exact, AV.int IntKind.i64 true (2 : Int), AV.junk, AV.junk, AV.junk, AV.junk, AV.junk, AV.junk,
  AV.junk, AV.junk, AV.junk, AV.junk, AV.junk, AV.junk, AV.junk, AV.junk, AV.junk, AV.junk, AV.junk, AV.junk, AV.junk, AV.junk, AV.junk, AV.junk, AV.junk, AV.junk, AV.junk, AV.junk, AV.junk, AV.junk, AV.junk, AV.junk, AV.junk,
  AV.junk, AV.junk, AV.junk, AV.junk, AV.junk, AV.junk, AV.junk, AV.junk, AV.junk, AV.junk, AV.junk, AV.junk, AV.junk, AV.junk, AV.junk, AV.junk, AV.junk, AV.junk, AV.junk, AV.junk, AV.junk, AV.junk, AV.junk, AV.junk, AV.junk,
  AV.junk, AV.junk, AV.junk, AV.junk, AV.junk, AV.junk, AV.junk, AV.junk, AV.junk, AV.junk, AV.junk, AV.junk, AV.junk, AV.junk, AV.junk, AV.junk, AV.junk]
  [some (Blk.mk (3) false false true (Data.ints IntKind.i64 ws)), some (Blk.mk (3) false false true (Data.ints IntKind.i64 vs))]))
  (Tree.br (!zvs && decide ((0 : Int) ≤ (i : Int) ∧ (i : Int) < ((List.length vs) : Int)))
  (Tree.br (decide (Int.toNat (i : Int) * 1 + 0 + 1 ≤ List.length vs))
  (Tree.br (!zws && decide ((0 : Int) ≤ (i : Int) ∧ (i : Int) < ((List.length ws) : Int)))
  (Tree.br (decide (Int.toNat (i : Int) * 1 + 0 + 1 ≤ List.length ws))
  (Tree.chk ((True ∧ True) ∧ List.getD ws (Int.toNat (i : Int) * 1 + 0 + 0) (0 : Int) ≤ (62 : Int))
  (Tree.br (decide (List.getD vs (Int.toNat (i : Int) * 1 + 0 + 0) (0 : Int) ≥ (2 : Int) ^ Int.toNat (List.getD ws (Int.toNat (i : Int) * 1 + 0 + 0) (0 : Int))))
  (Tree.ret
  (Ex.ret,
  St.mk
  [AV.junk, AV.junk, AV.junk, AV.junk, AV.sl true (Ref.mk (0) (0) (0) (0)) true (0) Cap.exact, AV.int IntKind.i64 true (2 : Int), AV.junk, AV.junk, AV.junk, AV.junk, AV.junk,
  AV.junk, AV.junk, AV.junk, AV.junk, AV.junk, AV.junk, AV.junk, AV.junk, AV.junk, AV.junk, AV.junk, AV.junk, AV.junk, AV.junk, AV.junk, AV.junk, AV.junk, AV.junk, AV.junk, AV.junk, AV.junk, AV.junk, AV.junk,
  AV.junk, AV.junk, AV.junk, AV.junk, AV.junk, AV.junk, AV.junk, AV.junk, AV.junk, AV.junk, AV.junk, AV.junk, AV.junk, AV.junk, AV.junk, AV.junk, AV.junk, AV.junk, AV.junk, AV.junk, AV.junk, AV.junk, AV.junk,
  AV.junk, AV.junk, AV.junk, AV.junk, AV.junk, AV.junk, AV.junk, AV.junk, AV.junk, AV.junk, AV.junk, AV.junk, AV.junk, AV.junk, AV.junk, AV.junk, AV.junk, AV.junk, AV.junk, AV.junk, AV.junk, AV.junk]
  [some (Blk.mk (3) false false true (Data.ints IntKind.i64 ws)), some (Blk.mk (3) false false true (Data.ints IntKind.i64 vs))]))
  (Tree.br (!zws && decide ((0 : Int) ≤ (i : Int) ∧ (i : Int) < ((List.length ws) : Int)))
  (Tree.br (decide (Int.toNat (i : Int) * 1 + 0 + 1 ≤ List.length ws))
  (Tree.chk
  (St.le
  (St.mk
  [AV.sl zws (Ref.mk (0) (0) (0) (0)) false (List.length ws) Cap.any, AV.sl zvs (Ref.mk (1) (0) (0) (0)) false (List.length vs) Cap.any,
  AV.junk, AV.junk, AV.junk, AV.junk, AV.junk, AV.sl false (Ref.mk (2) (0) (0) (0)) false (Int.toNat (sizeZ ws)) Cap.exact,
  AV.int IntKind.i64 false ((List.length (bitsTo ws vs i)) : Int), AV.int IntKind.i64 false (i : Int),
  AV.int IntKind.i64 false (IntKind.wrap IntKind.i64 (List.getD ws (Int.toNat (i : Int) * 1 + 0 + 0) (0 : Int) - (1 : Int))), AV.junk, AV.junk, AV.junk, AV.junk, AV.junk, AV.junk,
  AV.junk, AV.junk, AV.junk, AV.junk, AV.junk, AV.junk, AV.junk, AV.junk, AV.junk, AV.junk, AV.junk, AV.junk, AV.junk, AV.junk, AV.junk, AV.junk, AV.junk, AV.junk, AV.junk, AV.junk, AV.junk, AV.junk, AV.junk,
  AV.junk, AV.junk, AV.junk, AV.junk, AV.junk, AV.junk, AV.junk, AV.junk, AV.junk, AV.junk, AV.junk, AV.junk, AV.junk, AV.junk, AV.junk, AV.junk, AV.junk, AV.junk, AV.junk, AV.junk, AV.junk, AV.junk, AV.junk,
  AV.junk, AV.junk, AV.junk, AV.junk, AV.junk, AV.junk, AV.junk, AV.junk, AV.junk, AV.junk, AV.junk, AV.junk, AV.junk, AV.junk, AV.junk, AV.junk]
  [some (Blk.mk (3) false false true (Data.ints IntKind.i64 ws)), some (Blk.mk (3) false false true (Data.ints IntKind.i64 vs)),
  some (Blk.mk (3) true false true (Data.ints IntKind.i64 (packS (sizeZ ws) (bitsTo ws vs i))))])
  (St.mk
  [AV.sl zws (Ref.mk (0) (0) (0) (0)) false (List.length ws) Cap.any, AV.sl zvs (Ref.mk (1) (0) (0) (0)) false (List.length vs) Cap.any,
  AV.junk, AV.junk, AV.junk, AV.junk, AV.junk, AV.sl false (Ref.mk (2) (0) (0) (0)) false (Int.toNat (sizeZ ws)) Cap.exact,
  AV.int IntKind.i64 false ((List.length (bitsAt ws vs (Int.toNat (i : Int)) (IntKind.wrap IntKind.i64 (List.getD ws (Int.toNat (i : Int) * 1 + 0 + 0) (0 : Int) - (1 : Int))))) : Int),
  AV.int IntKind.i64 false ((Int.toNat (i : Int)) : Int), AV.int IntKind.i64 false (IntKind.wrap IntKind.i64 (List.getD ws (Int.toNat (i : Int) * 1 + 0 + 0) (0 : Int) - (1 : Int))), AV.junk,
  AV.junk, AV.junk, AV.junk, AV.junk, AV.junk, AV.junk, AV.junk, AV.junk, AV.junk, AV.junk, AV.junk, AV.junk, AV.junk, AV.junk, AV.junk, AV.junk, AV.junk, AV.junk, AV.junk, AV.junk, AV.junk, AV.junk, AV.junk,
  AV.junk, AV.junk, AV.junk, AV.junk, AV.junk, AV.junk, AV.junk, AV.junk, AV.junk, AV.junk, AV.junk, AV.junk, AV.junk, AV.junk, AV.junk, AV.junk, AV.junk, AV.junk, AV.junk, AV.junk, AV.junk, AV.junk, AV.junk,
  AV.junk, AV.junk, AV.junk, AV.junk, AV.junk, AV.junk, AV.junk, AV.junk, AV.junk, AV.junk, AV.junk, AV.junk, AV.junk, AV.junk, AV.junk, AV.junk, AV.junk, AV.junk, AV.junk, AV.junk, AV.junk]
  [some (Blk.mk (3) false false true (Data.ints IntKind.i64 ws)), some (Blk.mk (3) false false true (Data.ints IntKind.i64 vs)),
  some
  (Blk.mk (3) true false true
  (Data.ints IntKind.i64
  (packS (sizeZ ws) (bitsAt ws vs (Int.toNat (i : Int)) (IntKind.wrap IntKind.i64 (List.getD ws (Int.toNat (i : Int) * 1 + 0 + 0) (0 : Int) - (1 : Int)))))))]))
  (Tree.chk (okrfields_1 (Xrfields_1.mk zws ws zvs vs (Int.toNat (i : Int)) (IntKind.wrap IntKind.i64 (List.getD ws (Int.toNat (i : Int) * 1 + 0 + 0) (0 : Int) - (1 : Int)))))
  (Tree.ret
  (Ex.norm,
  St.mk
  [AV.sl zws (Ref.mk (0) (0) (0) (0)) false (List.length ws) Cap.any,
  AV.sl zvs (Ref.mk (1) (0) (0) (0)) false (List.length vs) Cap.any, AV.junk, AV.junk, AV.junk, AV.junk, AV.junk,
  AV.sl false (Ref.mk (2) (0) (0) (0)) false (Int.toNat (sizeZ ws)) Cap.exact, AV.int IntKind.i64 false ((List.length (bitsTo ws vs (Int.toNat (i : Int) + 1))) : Int),
  AV.int IntKind.i64 false (IntKind.wrap IntKind.i64 (((Int.toNat (i : Int)) : Int) + (1 : Int))), AV.junk, AV.junk, AV.junk, AV.junk, AV.junk, AV.junk, AV.junk, AV.junk, AV.junk, AV.junk, AV.junk, AV.junk, AV.junk,
  AV.junk, AV.junk, AV.junk, AV.junk, AV.junk, AV.junk, AV.junk, AV.junk, AV.junk, AV.junk, AV.junk, AV.junk, AV.junk, AV.junk, AV.junk, AV.junk, AV.junk, AV.junk, AV.junk, AV.junk, AV.junk, AV.junk,
  AV.junk, AV.junk, AV.junk, AV.junk, AV.junk, AV.junk, AV.junk, AV.junk, AV.junk, AV.junk, AV.junk, AV.junk, AV.junk, AV.junk, AV.junk, AV.junk, AV.junk, AV.junk, AV.junk, AV.junk, AV.junk, AV.junk,
  AV.junk, AV.junk, AV.junk, AV.junk, AV.junk, AV.junk, AV.junk, AV.junk, AV.junk, AV.junk, AV.junk, AV.junk]
  [some (Blk.mk (3) false false true (Data.ints IntKind.i64 ws)), some (Blk.mk (3) false false true (Data.ints IntKind.i64 vs)),
  some (Blk.mk (3) true false true (Data.ints IntKind.i64 (packS (sizeZ ws) (bitsTo ws vs (Int.toNat (i : Int) + 1)))))]))))
  Tree.fail)
  Tree.fail)))
  Tree.fail)
  Tree.fail)
  Tree.fail)
  Tree.fail))
  Tree.fail)
  Tree.fail)
  (Tree.ret
  (Ex.exit (0),
  St.mk
  [AV.junk, AV.junk, AV.junk, AV.junk, AV.junk, AV.junk, AV.junk, AV.sl false (Ref.mk (2) (0) (0) (0)) false (Int.toNat (sizeZ ws)) Cap.exact, AV.junk, AV.junk, AV.junk, AV.junk, AV.junk, AV.junk,
  AV.junk, AV.junk, AV.junk, AV.junk, AV.junk, AV.junk, AV.junk, AV.junk, AV.junk, AV.junk, AV.junk, AV.junk, AV.junk, AV.junk, AV.junk, AV.junk, AV.junk, AV.junk, AV.junk, AV.junk, AV.junk, AV.junk, AV.junk, AV.junk, AV.junk,
  AV.junk, AV.junk, AV.junk, AV.junk, AV.junk, AV.junk, AV.junk, AV.junk, AV.junk, AV.junk, AV.junk, AV.junk, AV.junk, AV.junk, AV.junk, AV.junk, AV.junk, AV.junk, AV.junk, AV.junk, AV.junk, AV.junk, AV.junk, AV.junk, AV.junk,
  AV.junk, AV.junk, AV.junk, AV.junk, AV.junk, AV.junk, AV.junk, AV.junk, AV.junk, AV.junk, AV.junk, AV.junk, AV.junk, AV.junk, AV.junk]
  [some (Blk.mk (3) false false true (Data.ints IntKind.i64 ws)), some (Blk.mk (3) false false true (Data.ints IntKind.i64 vs)),
  some (Blk.mk (3) true false true (Data.ints IntKind.i64 (packS (sizeZ ws) (bitsTo ws vs i))))])) : Tree (Ex × St)).Sat (Post hdrfields_0 resrfields_0 murfields_0 ⟨zws, ws, zvs, vs, i⟩ ex r) := by
  simp only [okrfields_0, outrfields_0, Tree.runs] at hok hr
  obtain ⟨hm, hl, hzw, hzv, hwv, hi, hf⟩ := hok
  obtain ⟨h256, hbv⟩ := may_ok hm
  have sz := size_small hm
  have hg := fun h => badV_get (i := i) hbv h
  have hvb := fun h => wfL_get (i := i) hwv h
  have sq := sumN_eq (ws.take i) (any_take_no hbv i)
  rw [List.length_take] at sq
  have bl : (bitsTo ws vs i).length = sumN (ws.take i) := by unfold bitsTo; exact bitsF_len _ _ (by rw [List.length_take, List.length_take]; omega)
  simp only [Int.toNat_natCast, Nat.mul_one, Nat.add_zero]
  refine Tree.Sat.br (fun h1 => ?_) (fun h1 => ?_)
  · (try simp only [decide_eq_true_eq, decide_eq_false_iff_not, Bool.not_eq_true', Bool.not_eq_false', beq_iff_eq, beq_eq_false_iff_ne, Int.not_lt, Int.not_le, ge_iff_le, gt_iff_lt, ne_eq, Bool.false_eq_true, Bool.true_eq_false, not_true_eq_false, not_false_eq_true, Bool.and_eq_true, Bool.not_eq_eq_eq_not, Bool.not_true, Bool.not_false, bne_iff_ne, bne_eq_false_iff_eq, Int.toNat_natCast, Nat.mul_one, Nat.add_zero, Nat.zero_add, List.take_length, List.drop_zero] at h1)
    all_goals
      refine Tree.Sat.br (fun h2 => ?_) (fun h2 => ?_)
      · (try simp only [decide_eq_true_eq, decide_eq_false_iff_not, Bool.not_eq_true', Bool.not_eq_false', beq_iff_eq, beq_eq_false_iff_ne, Int.not_lt, Int.not_le, ge_iff_le, gt_iff_lt, ne_eq, Bool.false_eq_true, Bool.true_eq_false, not_true_eq_false, not_false_eq_true, Bool.and_eq_true, Bool.not_eq_eq_eq_not, Bool.not_true, Bool.not_false, bne_iff_ne, bne_eq_false_iff_eq, Int.toNat_natCast, Nat.mul_one, Nat.add_zero, Nat.zero_add, List.take_length, List.drop_zero] at h2)
        all_goals
          refine Tree.Sat.br (fun h3 => ?_) (fun h3 => ?_)
          · (try simp only [decide_eq_true_eq, decide_eq_false_iff_not, Bool.not_eq_true', Bool.not_eq_false', beq_iff_eq, beq_eq_false_iff_ne, Int.not_lt, Int.not_le, ge_iff_le, gt_iff_lt, ne_eq, Bool.false_eq_true, Bool.true_eq_false, not_true_eq_false, not_false_eq_true, Bool.and_eq_true, Bool.not_eq_eq_eq_not, Bool.not_true, Bool.not_false, bne_iff_ne, bne_eq_false_iff_eq, Int.toNat_natCast, Nat.mul_one, Nat.add_zero, Nat.zero_add, List.take_length, List.drop_zero] at h3)
            all_goals
              refine Tree.Sat.br (fun h4 => ?_) (fun h4 => ?_)
              · (try simp only [decide_eq_true_eq, decide_eq_false_iff_not, Bool.not_eq_true', Bool.not_eq_false', beq_iff_eq, beq_eq_false_iff_ne, Int.not_lt, Int.not_le, ge_iff_le, gt_iff_lt, ne_eq, Bool.false_eq_true, Bool.true_eq_false, not_true_eq_false, not_false_eq_true, Bool.and_eq_true, Bool.not_eq_eq_eq_not, Bool.not_true, Bool.not_false, bne_iff_ne, bne_eq_false_iff_eq, Int.toNat_natCast, Nat.mul_one, Nat.add_zero, Nat.zero_add, List.take_length, List.drop_zero] at h4)
                all_goals
                  refine Tree.Sat.ret ?_
                  have hq := hr.2 (fitF_miss (i := i) (by omega) hl (fun hh => absurd hh.1 (by omega)))
                  simp only [Prod.mk.injEq] at hq
                  obtain ⟨rfl, rfl⟩ := hq
                  refine .ret rfl ?_
                  constructor <;> simp only [AV.leL, AV.le, Mem.le, Mem.leP, Blk.le, Blk.pad, Data.le, Data.size, Cap.le, and_true, true_and, and_self, true_implies, implies_true, imp_self, List.length_nil] <;> (repeat' with_reducible refine And.intro ?_ ?_) <;> (try simp only [Int.toNat_natCast, Nat.mul_one, Nat.add_zero, Nat.zero_add]) <;> done
              · (try simp only [decide_eq_true_eq, decide_eq_false_iff_not, Bool.not_eq_true', Bool.not_eq_false', beq_iff_eq, beq_eq_false_iff_ne, Int.not_lt, Int.not_le, ge_iff_le, gt_iff_lt, ne_eq, Bool.false_eq_true, Bool.true_eq_false, not_true_eq_false, not_false_eq_true, Bool.and_eq_true, Bool.not_eq_eq_eq_not, Bool.not_true, Bool.not_false, bne_iff_ne, bne_eq_false_iff_eq, Int.toNat_natCast, Nat.mul_one, Nat.add_zero, Nat.zero_add, List.take_length, List.drop_zero] at h4)
                all_goals
                  refine Tree.Sat.br (fun h5 => ?_) (fun h5 => ?_)
                  · (try simp only [decide_eq_true_eq, decide_eq_false_iff_not, Bool.not_eq_true', Bool.not_eq_false', beq_iff_eq, beq_eq_false_iff_ne, Int.not_lt, Int.not_le, ge_iff_le, gt_iff_lt, ne_eq, Bool.false_eq_true, Bool.true_eq_false, not_true_eq_false, not_false_eq_true, Bool.and_eq_true, Bool.not_eq_eq_eq_not, Bool.not_true, Bool.not_false, bne_iff_ne, bne_eq_false_iff_eq, Int.toNat_natCast, Nat.mul_one, Nat.add_zero, Nat.zero_add, List.take_length, List.drop_zero] at h5)
                    all_goals
                      refine Tree.Sat.br (fun h6 => ?_) (fun h6 => ?_)
                      · (try simp only [decide_eq_true_eq, decide_eq_false_iff_not, Bool.not_eq_true', Bool.not_eq_false', beq_iff_eq, beq_eq_false_iff_ne, Int.not_lt, Int.not_le, ge_iff_le, gt_iff_lt, ne_eq, Bool.false_eq_true, Bool.true_eq_false, not_true_eq_false, not_false_eq_true, Bool.and_eq_true, Bool.not_eq_eq_eq_not, Bool.not_true, Bool.not_false, bne_iff_ne, bne_eq_false_iff_eq, Int.toNat_natCast, Nat.mul_one, Nat.add_zero, Nat.zero_add, List.take_length, List.drop_zero] at h6)
                        all_goals
                          refine Tree.Sat.br (fun h7 => ?_) (fun h7 => ?_)
                          · (try simp only [decide_eq_true_eq, decide_eq_false_iff_not, Bool.not_eq_true', Bool.not_eq_false', beq_iff_eq, beq_eq_false_iff_ne, Int.not_lt, Int.not_le, ge_iff_le, gt_iff_lt, ne_eq, Bool.false_eq_true, Bool.true_eq_false, not_true_eq_false, not_false_eq_true, Bool.and_eq_true, Bool.not_eq_eq_eq_not, Bool.not_true, Bool.not_false, bne_iff_ne, bne_eq_false_iff_eq, Int.toNat_natCast, Nat.mul_one, Nat.add_zero, Nat.zero_add, List.take_length, List.drop_zero] at h7)
                            all_goals
                              refine Tree.Sat.br (fun h8 => ?_) (fun h8 => ?_)
                              · (try simp only [decide_eq_true_eq, decide_eq_false_iff_not, Bool.not_eq_true', Bool.not_eq_false', beq_iff_eq, beq_eq_false_iff_ne, Int.not_lt, Int.not_le, ge_iff_le, gt_iff_lt, ne_eq, Bool.false_eq_true, Bool.true_eq_false, not_true_eq_false, not_false_eq_true, Bool.and_eq_true, Bool.not_eq_eq_eq_not, Bool.not_true, Bool.not_false, bne_iff_ne, bne_eq_false_iff_eq, Int.toNat_natCast, Nat.mul_one, Nat.add_zero, Nat.zero_add, List.take_length, List.drop_zero] at h8)
                                all_goals
                                  refine Tree.Sat.chk (by first | (simp only [and_self]; done) | (have g := hg (by omega); exact ⟨⟨trivial, trivial⟩, by omega⟩)) ?_
                                  refine Tree.Sat.br (fun h9 => ?_) (fun h9 => ?_)
                                  · (try simp only [decide_eq_true_eq, decide_eq_false_iff_not, Bool.not_eq_true', Bool.not_eq_false', beq_iff_eq, beq_eq_false_iff_ne, Int.not_lt, Int.not_le, ge_iff_le, gt_iff_lt, ne_eq, Bool.false_eq_true, Bool.true_eq_false, not_true_eq_false, not_false_eq_true, Bool.and_eq_true, Bool.not_eq_eq_eq_not, Bool.not_true, Bool.not_false, bne_iff_ne, bne_eq_false_iff_eq, Int.toNat_natCast, Nat.mul_one, Nat.add_zero, Nat.zero_add, List.take_length, List.drop_zero] at h9)
                                    all_goals
                                      refine Tree.Sat.ret ?_
                                      have hq := hr.2 (fitF_miss (i := i) (by omega) hl (fun hh => absurd hh.2 (by omega)))
                                      simp only [Prod.mk.injEq] at hq
                                      obtain ⟨rfl, rfl⟩ := hq
                                      refine .ret rfl ?_
                                      constructor <;> simp only [AV.leL, AV.le, Mem.le, Mem.leP, Blk.le, Blk.pad, Data.le, Data.size, Cap.le, and_true, true_and, and_self, true_implies, implies_true, imp_self, List.length_nil] <;> (repeat' with_reducible refine And.intro ?_ ?_) <;> (try simp only [Int.toNat_natCast, Nat.mul_one, Nat.add_zero, Nat.zero_add]) <;> done
                                  · (try simp only [decide_eq_true_eq, decide_eq_false_iff_not, Bool.not_eq_true', Bool.not_eq_false', beq_iff_eq, beq_eq_false_iff_ne, Int.not_lt, Int.not_le, ge_iff_le, gt_iff_lt, ne_eq, Bool.false_eq_true, Bool.true_eq_false, not_true_eq_false, not_false_eq_true, Bool.and_eq_true, Bool.not_eq_eq_eq_not, Bool.not_true, Bool.not_false, bne_iff_ne, bne_eq_false_iff_eq, Int.toNat_natCast, Nat.mul_one, Nat.add_zero, Nat.zero_add, List.take_length, List.drop_zero] at h9)
                                    all_goals
                                      refine Tree.Sat.br (fun h10 => ?_) (fun h10 => ?_)
                                      · (try simp only [decide_eq_true_eq, decide_eq_false_iff_not, Bool.not_eq_true', Bool.not_eq_false', beq_iff_eq, beq_eq_false_iff_ne, Int.not_lt, Int.not_le, ge_iff_le, gt_iff_lt, ne_eq, Bool.false_eq_true, Bool.true_eq_false, not_true_eq_false, not_false_eq_true, Bool.and_eq_true, Bool.not_eq_eq_eq_not, Bool.not_true, Bool.not_false, bne_iff_ne, bne_eq_false_iff_eq, Int.toNat_natCast, Nat.mul_one, Nat.add_zero, Nat.zero_add, List.take_length, List.drop_zero] at h10)
                                        all_goals
                                          refine Tree.Sat.br (fun h11 => ?_) (fun h11 => ?_)
                                          · (try simp only [decide_eq_true_eq, decide_eq_false_iff_not, Bool.not_eq_true', Bool.not_eq_false', beq_iff_eq, beq_eq_false_iff_ne, Int.not_lt, Int.not_le, ge_iff_le, gt_iff_lt, ne_eq, Bool.false_eq_true, Bool.true_eq_false, not_true_eq_false, not_false_eq_true, Bool.and_eq_true, Bool.not_eq_eq_eq_not, Bool.not_true, Bool.not_false, bne_iff_ne, bne_eq_false_iff_eq, Int.toNat_natCast, Nat.mul_one, Nat.add_zero, Nat.zero_add, List.take_length, List.drop_zero] at h11)
                                            all_goals
                                              refine Tree.Sat.chk (by first | (simp only [and_self]; done) | (have g := hg (by omega); have ew : IntKind.i64.wrap (ws.getD i 0 - 1) = ws.getD i 0 - 1 := (by rw [w64]; omega); constructor <;> simp only [hdrfields_1, Int.toNat_natCast, ew, bitsAt_start, AV.leL, AV.le, Mem.le, Mem.leP, Blk.le, Blk.pad, Data.le, Data.size, Cap.le, and_true, true_and, and_self, true_implies, implies_true, imp_self, List.length_nil] <;> (repeat' with_reducible refine And.intro ?_ ?_) <;> first | rfl | trivial)) ?_
                                              refine Tree.Sat.chk (by first | (simp only [and_self]; done) | (have g := hg (by omega); have hv := hvb (by omega); have ew : IntKind.i64.wrap (ws.getD i 0 - 1) = ws.getD i 0 - 1 := (by rw [w64]; omega); simp only [okrfields_1, Int.toNat_natCast, ew]; exact ⟨⟨hm, hl, hzw, hzv, hwv, hi, hf⟩, by omega, by omega, by omega, by omega, by omega⟩)) ?_
                                              refine Tree.Sat.ret ?_
                                              refine .norm ⟨zws, ws, zvs, vs, i + 1⟩ ?_ ?_ ⟨?_, ?_⟩
                                              · constructor <;> simp only [hdrfields_0, AV.leL, AV.le, Mem.le, Mem.leP, Blk.le, Blk.pad, Data.le, Data.size, Cap.le, and_true, true_and, and_self, true_implies, implies_true, imp_self, List.length_nil] <;> (repeat' with_reducible refine And.intro ?_ ?_) <;> (try simp only [Int.toNat_natCast, Nat.mul_one, Nat.add_zero, Nat.zero_add]) <;> first | exact wadd1 (by omega) | rfl
                                              · simp only [murfields_0]; omega
                                              · refine ⟨hm, hl, hzw, hzv, hwv, by omega, ?_⟩
                                                rw [fitF_take_succ (by omega) hl, hf, Bool.true_and, decide_eq_true_eq]
                                                exact ⟨by omega, by omega⟩
                                              · exact hr
                                          · (try simp only [decide_eq_true_eq, decide_eq_false_iff_not, Bool.not_eq_true', Bool.not_eq_false', beq_iff_eq, beq_eq_false_iff_ne, Int.not_lt, Int.not_le, ge_iff_le, gt_iff_lt, ne_eq, Bool.false_eq_true, Bool.true_eq_false, not_true_eq_false, not_false_eq_true, Bool.and_eq_true, Bool.not_eq_eq_eq_not, Bool.not_true, Bool.not_false, bne_iff_ne, bne_eq_false_iff_eq, Int.toNat_natCast, Nat.mul_one, Nat.add_zero, Nat.zero_add, List.take_length, List.drop_zero] at h11)
                                            all_goals
                                              exfalso
                                              first | omega | (have g := hg (by omega); omega) | (clear hf hr; cases zws <;> cases zvs <;> simp_all; done) | (clear hf hr; cases zws <;> cases zvs <;> simp_all <;> omega)
                                      · (try simp only [decide_eq_true_eq, decide_eq_false_iff_not, Bool.not_eq_true', Bool.not_eq_false', beq_iff_eq, beq_eq_false_iff_ne, Int.not_lt, Int.not_le, ge_iff_le, gt_iff_lt, ne_eq, Bool.false_eq_true, Bool.true_eq_false, not_true_eq_false, not_false_eq_true, Bool.and_eq_true, Bool.not_eq_eq_eq_not, Bool.not_true, Bool.not_false, bne_iff_ne, bne_eq_false_iff_eq, Int.toNat_natCast, Nat.mul_one, Nat.add_zero, Nat.zero_add, List.take_length, List.drop_zero] at h10)
                                        all_goals
                                          exfalso
                                          first | omega | (have g := hg (by omega); omega) | (clear hf hr; cases zws <;> cases zvs <;> simp_all; done) | (clear hf hr; cases zws <;> cases zvs <;> simp_all <;> omega)
                              · (try simp only [decide_eq_true_eq, decide_eq_false_iff_not, Bool.not_eq_true', Bool.not_eq_false', beq_iff_eq, beq_eq_false_iff_ne, Int.not_lt, Int.not_le, ge_iff_le, gt_iff_lt, ne_eq, Bool.false_eq_true, Bool.true_eq_false, not_true_eq_false, not_false_eq_true, Bool.and_eq_true, Bool.not_eq_eq_eq_not, Bool.not_true, Bool.not_false, bne_iff_ne, bne_eq_false_iff_eq, Int.toNat_natCast, Nat.mul_one, Nat.add_zero, Nat.zero_add, List.take_length, List.drop_zero] at h8)
                                all_goals
                                  exfalso
                                  first | omega | (have g := hg (by omega); omega) | (clear hf hr; cases zws <;> cases zvs <;> simp_all; done) | (clear hf hr; cases zws <;> cases zvs <;> simp_all <;> omega)
                          · (try simp only [decide_eq_true_eq, decide_eq_false_iff_not, Bool.not_eq_true', Bool.not_eq_false', beq_iff_eq, beq_eq_false_iff_ne, Int.not_lt, Int.not_le, ge_iff_le, gt_iff_lt, ne_eq, Bool.false_eq_true, Bool.true_eq_false, not_true_eq_false, not_false_eq_true, Bool.and_eq_true, Bool.not_eq_eq_eq_not, Bool.not_true, Bool.not_false, bne_iff_ne, bne_eq_false_iff_eq, Int.toNat_natCast, Nat.mul_one, Nat.add_zero, Nat.zero_add, List.take_length, List.drop_zero] at h7)
                            all_goals
                              exfalso
                              first | omega | (have g := hg (by omega); omega) | (clear hf hr; cases zws <;> cases zvs <;> simp_all; done) | (clear hf hr; cases zws <;> cases zvs <;> simp_all <;> omega)
                      · (try simp only [decide_eq_true_eq, decide_eq_false_iff_not, Bool.not_eq_true', Bool.not_eq_false', beq_iff_eq, beq_eq_false_iff_ne, Int.not_lt, Int.not_le, ge_iff_le, gt_iff_lt, ne_eq, Bool.false_eq_true, Bool.true_eq_false, not_true_eq_false, not_false_eq_true, Bool.and_eq_true, Bool.not_eq_eq_eq_not, Bool.not_true, Bool.not_false, bne_iff_ne, bne_eq_false_iff_eq, Int.toNat_natCast, Nat.mul_one, Nat.add_zero, Nat.zero_add, List.take_length, List.drop_zero] at h6)
                        all_goals
                          exfalso
                          first | omega | (have g := hg (by omega); omega) | (clear hf hr; cases zws <;> cases zvs <;> simp_all; done) | (clear hf hr; cases zws <;> cases zvs <;> simp_all <;> omega)
                  · (try simp only [decide_eq_true_eq, decide_eq_false_iff_not, Bool.not_eq_true', Bool.not_eq_false', beq_iff_eq, beq_eq_false_iff_ne, Int.not_lt, Int.not_le, ge_iff_le, gt_iff_lt, ne_eq, Bool.false_eq_true, Bool.true_eq_false, not_true_eq_false, not_false_eq_true, Bool.and_eq_true, Bool.not_eq_eq_eq_not, Bool.not_true, Bool.not_false, bne_iff_ne, bne_eq_false_iff_eq, Int.toNat_natCast, Nat.mul_one, Nat.add_zero, Nat.zero_add, List.take_length, List.drop_zero] at h5)
                    all_goals
                      exfalso
                      first | omega | (have g := hg (by omega); omega) | (clear hf hr; cases zws <;> cases zvs <;> simp_all; done) | (clear hf hr; cases zws <;> cases zvs <;> simp_all <;> omega)
          · (try simp only [decide_eq_true_eq, decide_eq_false_iff_not, Bool.not_eq_true', Bool.not_eq_false', beq_iff_eq, beq_eq_false_iff_ne, Int.not_lt, Int.not_le, ge_iff_le, gt_iff_lt, ne_eq, Bool.false_eq_true, Bool.true_eq_false, not_true_eq_false, not_false_eq_true, Bool.and_eq_true, Bool.not_eq_eq_eq_not, Bool.not_true, Bool.not_false, bne_iff_ne, bne_eq_false_iff_eq, Int.toNat_natCast, Nat.mul_one, Nat.add_zero, Nat.zero_add, List.take_length, List.drop_zero] at h3)
            all_goals
              exfalso
              first | omega | (have g := hg (by omega); omega) | (clear hf hr; cases zws <;> cases zvs <;> simp_all; done) | (clear hf hr; cases zws <;> cases zvs <;> simp_all <;> omega)
      · (try simp only [decide_eq_true_eq, decide_eq_false_iff_not, Bool.not_eq_true', Bool.not_eq_false', beq_iff_eq, beq_eq_false_iff_ne, Int.not_lt, Int.not_le, ge_iff_le, gt_iff_lt, ne_eq, Bool.false_eq_true, Bool.true_eq_false, not_true_eq_false, not_false_eq_true, Bool.and_eq_true, Bool.not_eq_eq_eq_not, Bool.not_true, Bool.not_false, bne_iff_ne, bne_eq_false_iff_eq, Int.toNat_natCast, Nat.mul_one, Nat.add_zero, Nat.zero_add, List.take_length, List.drop_zero] at h2)
        all_goals
          exfalso
          first | omega | (have g := hg (by omega); omega) | (clear hf hr; cases zws <;> cases zvs <;> simp_all; done) | (clear hf hr; cases zws <;> cases zvs <;> simp_all <;> omega)
  · (try simp only [decide_eq_true_eq, decide_eq_false_iff_not, Bool.not_eq_true', Bool.not_eq_false', beq_iff_eq, beq_eq_false_iff_ne, Int.not_lt, Int.not_le, ge_iff_le, gt_iff_lt, ne_eq, Bool.false_eq_true, Bool.true_eq_false, not_true_eq_false, not_false_eq_true, Bool.and_eq_true, Bool.not_eq_eq_eq_not, Bool.not_true, Bool.not_false, bne_iff_ne, bne_eq_false_iff_eq, Int.toNat_natCast, Nat.mul_one, Nat.add_zero, Nat.zero_add, List.take_length, List.drop_zero] at h1)
    all_goals
      refine Tree.Sat.ret ?_
      have hq := hr.1 (by rw [List.take_of_length_le (by omega), List.take_of_length_le (by omega)] at hf; exact hf)
      simp only [Prod.mk.injEq] at hq
      obtain ⟨rfl, rfl⟩ := hq
      refine .exit rfl ?_
      constructor <;> simp only [AV.leL, AV.le, Mem.le, Mem.leP, Blk.le, Blk.pad, Data.le, Data.size, Cap.le, and_true, true_and, and_self, true_implies, implies_true, imp_self, List.length_nil] <;> (repeat' with_reducible refine And.intro ?_ ?_) <;> (try simp only [Int.toNat_natCast, Nat.mul_one, Nat.add_zero, Nat.zero_add]) <;> (rw [show i = ws.length by omega, bitsTo_all hl])
set_option maxHeartbeats 2000000 in
set_option maxRecDepth 100000 in
theorem looprfields_0 (hall : AllOk Try.prog 0 (fun _ => none) tab22) : LoopOk (mkL Try.prog 0 (fun _ => none) tab22 rowsrfields) 20 2 (bodyAt Try.prog 20 0) := by
  have hkey : Code.key (bodyAt Try.prog 20 0) = 9 := by kernel_rfl
  have hin : loopsIn (bodyAt Try.prog 20 0) = [bodyAt Try.prog 20 1] := by kernel_rfl
  have hrow : lookL rowsrfields 20 (Code.key (bodyAt Try.prog 20 0)) = some rowrfields_0 := by rw [hkey]; rfl
  refine loop_rowP (X := Xrfields_0) (row := rowrfields_0) hall mix hrow (fun b hb _ => by rw [hin] at hb; simp only [List.mem_cons, List.not_mem_nil, or_false] at hb; rcases hb with rfl <;> first | exact looprfields_1 hall) Urfields_0 hdrfields_0 resrfields_0 murfields_0 (fun st ex r h => ?_) (fun x ex r hr => ?_)
  · have h' : (ansrfields_0 st).runs (ex, r) := h
    unfold ansrfields_0 at h'
    split at h'
    · obtain ⟨q1, q2⟩ := Tree.chk_runs h'
      exact ⟨_, q1, q2⟩
    · exact h'.elim
  · obtain ⟨zws, ws, zvs, vs, i⟩ := x
    have := steprfields_0 zws ws zvs vs i ex r hr.1 hr.2
    rw [← tLrfields_0] at this
    (try rw [show rowrfields_0.tidy = Trfields_0 from rfl])
    exact this
theorem loopsrfields (hall : AllOk Try.prog 0 (fun _ => none) tab22) : ∀ i, i < (loopsAt Try.prog 20).length → LoopOk (mkL Try.prog 0 (fun _ => none) tab22 rowsrfields) 20 2 (bodyAt Try.prog 20 i) := by
  intro i hi
  have hlen : (loopsAt Try.prog 20).length = 2 := by kernel_rfl
  rw [hlen] at hi
  obtain rfl | rfl : i = 0 ∨ i = 1 := by omega
  · exact looprfields_0 hall
  · exact looprfields_1 hall
set_option maxRecDepth 100000 in
theorem trfields (zws : Bool) (ws : List Int) (zvs : Bool) (vs : List Int) : evBody (mkL Try.prog 0 (fun _ => none) tab22 rowsrfields) (evCall (mkC Try.prog 0 (fun _ => none) tab22) 50) 20 [.sl zws ⟨0, 0, 0, 0⟩ false ws.length .any, .sl zvs ⟨1, 0, 0, 0⟩ false vs.length .any] [some ⟨3, false, false, true, .ints .i64 ws⟩, some ⟨3, false, false, true, .ints .i64 vs⟩] =
  Tree.chk ((0 + List.length ws ≤ List.length ws ∧ True) ∧ short (List.take (List.length ws) (List.drop (0) ws)) ∧ (zws = true → List.take (List.length ws) (List.drop (0) ws) = []))
  (Tree.br (mayZ (List.take (List.length ws) (List.drop (0) ws)) != (0 : Int))
  (Tree.ret
  (AV.tup [AV.sl true (Ref.mk (0) (0) (0) (0)) true (0) Cap.exact, AV.int IntKind.i64 false (mayZ (List.take (List.length ws) (List.drop (0) ws)))],
  [some (Blk.mk (3) false false true (Data.ints IntKind.i64 ws)), some (Blk.mk (3) false false true (Data.ints IntKind.i64 vs))]))
  (Tree.br (((List.length ws) : Int) != ((List.length vs) : Int))
  (Tree.ret
  (AV.tup [AV.sl true (Ref.mk (0) (0) (0) (0)) true (0) Cap.exact, AV.int IntKind.i64 true (2 : Int)],
  [some (Blk.mk (3) false false true (Data.ints IntKind.i64 ws)), some (Blk.mk (3) false false true (Data.ints IntKind.i64 vs))]))
  (Tree.chk
  ((0 + List.length ws ≤ List.length ws ∧ True) ∧
  List.length (List.take (List.length ws) (List.drop (0) ws)) ≤ 1000000 ∧ (zws = true → List.take (List.length ws) (List.drop (0) ws) = []))
  (Tree.br
  (decide
  ((0 : Int) ≤ sizeZ (List.take (List.length ws) (List.drop (0) ws)) ∧
  sizeZ (List.take (List.length ws) (List.drop (0) ws)) = sizeZ (List.take (List.length ws) (List.drop (0) ws)) ∧
  sizeZ (List.take (List.length ws) (List.drop (0) ws)) ≤ most48 ∧ sizeZ (List.take (List.length ws) (List.drop (0) ws)) * (8 : Int) ≤ most48))
  (Tree.chk
  (St.le
  (St.mk
  [AV.sl zws (Ref.mk (0) (0) (0) (0)) false (List.length ws) Cap.any, AV.sl zvs (Ref.mk (1) (0) (0) (0)) false (List.length vs) Cap.any, AV.junk,
  AV.junk, AV.junk, AV.junk, AV.junk, AV.sl false (Ref.mk (2) (0) (0) (0)) false (Int.toNat (sizeZ (List.take (List.length ws) (List.drop (0) ws)))) Cap.exact,
  AV.int IntKind.i64 true (0 : Int), AV.int IntKind.i64 true (0 : Int), AV.junk, AV.junk, AV.junk, AV.junk, AV.junk, AV.junk, AV.junk, AV.junk, AV.junk, AV.junk, AV.junk, AV.junk, AV.junk, AV.junk, AV.junk, AV.junk, AV.junk,
  AV.junk, AV.junk, AV.junk, AV.junk, AV.junk, AV.junk, AV.junk, AV.junk, AV.junk, AV.junk, AV.junk, AV.junk, AV.junk, AV.junk, AV.junk, AV.junk, AV.junk, AV.junk, AV.junk, AV.junk, AV.junk, AV.junk, AV.junk, AV.junk,
  AV.junk, AV.junk, AV.junk, AV.junk, AV.junk, AV.junk, AV.junk, AV.junk, AV.junk, AV.junk, AV.junk, AV.junk, AV.junk, AV.junk, AV.junk, AV.junk, AV.junk, AV.junk, AV.junk, AV.junk, AV.junk, AV.junk, AV.junk, AV.junk,
  AV.junk, AV.junk, AV.junk, AV.junk]
  [some (Blk.mk (3) false false true (Data.ints IntKind.i64 ws)), some (Blk.mk (3) false false true (Data.ints IntKind.i64 vs)),
  some (Blk.mk (3) true false true (Data.ints IntKind.i64 (List.replicate (Int.toNat (sizeZ (List.take (List.length ws) (List.drop (0) ws)))) (0 : Int))))])
  (St.mk
  [AV.sl zws (Ref.mk (0) (0) (0) (0)) false (List.length ws) Cap.any, AV.sl zvs (Ref.mk (1) (0) (0) (0)) false (List.length vs) Cap.any, AV.junk,
  AV.junk, AV.junk, AV.junk, AV.junk, AV.sl false (Ref.mk (2) (0) (0) (0)) false (Int.toNat (sizeZ ws)) Cap.exact,
  AV.int IntKind.i64 false ((List.length (bitsTo ws vs (Int.toNat (0 : Int)))) : Int), AV.int IntKind.i64 false (0 : Int), AV.junk, AV.junk, AV.junk, AV.junk, AV.junk, AV.junk, AV.junk, AV.junk, AV.junk, AV.junk, AV.junk,
  AV.junk, AV.junk, AV.junk, AV.junk, AV.junk, AV.junk, AV.junk, AV.junk, AV.junk, AV.junk, AV.junk, AV.junk, AV.junk, AV.junk, AV.junk, AV.junk, AV.junk, AV.junk, AV.junk, AV.junk, AV.junk, AV.junk, AV.junk, AV.junk,
  AV.junk, AV.junk, AV.junk, AV.junk, AV.junk, AV.junk, AV.junk, AV.junk, AV.junk, AV.junk, AV.junk, AV.junk, AV.junk, AV.junk, AV.junk, AV.junk, AV.junk, AV.junk, AV.junk, AV.junk, AV.junk, AV.junk, AV.junk, AV.junk,
  AV.junk, AV.junk, AV.junk, AV.junk, AV.junk, AV.junk, AV.junk, AV.junk, AV.junk, AV.junk]
  [some (Blk.mk (3) false false true (Data.ints IntKind.i64 ws)), some (Blk.mk (3) false false true (Data.ints IntKind.i64 vs)),
  some (Blk.mk (3) true false true (Data.ints IntKind.i64 (packS (sizeZ ws) (bitsTo ws vs (Int.toNat (0 : Int))))))]))
  (Tree.chk (okrfields_0 (Xrfields_0.mk zws ws zvs vs (Int.toNat (0 : Int))))
  (Tree.br (fitF ws vs)
  (Tree.ret
  (AV.tup [AV.sl false (Ref.mk (2) (0) (0) (0)) false (Int.toNat (sizeZ ws)) Cap.exact, AV.int IntKind.i64 true (0 : Int)],
  [some (Blk.mk (3) false false true (Data.ints IntKind.i64 ws)), some (Blk.mk (3) false false true (Data.ints IntKind.i64 vs)),
  some (Blk.mk (3) true false true (Data.ints IntKind.i64 (packS (sizeZ ws) (bitsF ws vs))))]))
  (Tree.ret
  (AV.tup [AV.sl true (Ref.mk (0) (0) (0) (0)) true (0) Cap.exact, AV.int IntKind.i64 true (2 : Int)],
  [some (Blk.mk (3) false false true (Data.ints IntKind.i64 ws)), some (Blk.mk (3) false false true (Data.ints IntKind.i64 vs))])))))
  Tree.fail)))) := by kernel_rfl
set_option maxRecDepth 100000 in
theorem grfields (zws : Bool) (ws : List Int) (zvs : Bool) (vs : List Int) (hw : short ws ∧ short vs ∧ (zws = true → ws = []) ∧ (zvs = true → vs = []) ∧ wf64L vs) : (Tree.chk ((0 + List.length ws ≤ List.length ws ∧ True) ∧ short (List.take (List.length ws) (List.drop (0) ws)) ∧ (zws = true → List.take (List.length ws) (List.drop (0) ws) = []))
  (Tree.br (mayZ (List.take (List.length ws) (List.drop (0) ws)) != (0 : Int))
  (Tree.ret
  (AV.tup [AV.sl true (Ref.mk (0) (0) (0) (0)) true (0) Cap.exact, AV.int IntKind.i64 false (mayZ (List.take (List.length ws) (List.drop (0) ws)))],
  [some (Blk.mk (3) false false true (Data.ints IntKind.i64 ws)), some (Blk.mk (3) false false true (Data.ints IntKind.i64 vs))]))
  (Tree.br (((List.length ws) : Int) != ((List.length vs) : Int))
  (Tree.ret
  (AV.tup [AV.sl true (Ref.mk (0) (0) (0) (0)) true (0) Cap.exact, AV.int IntKind.i64 true (2 : Int)],
  [some (Blk.mk (3) false false true (Data.ints IntKind.i64 ws)), some (Blk.mk (3) false false true (Data.ints IntKind.i64 vs))]))
  (Tree.chk
  ((0 + List.length ws ≤ List.length ws ∧ True) ∧
  List.length (List.take (List.length ws) (List.drop (0) ws)) ≤ 1000000 ∧ (zws = true → List.take (List.length ws) (List.drop (0) ws) = []))
  (Tree.br
  (decide
  ((0 : Int) ≤ sizeZ (List.take (List.length ws) (List.drop (0) ws)) ∧
  sizeZ (List.take (List.length ws) (List.drop (0) ws)) = sizeZ (List.take (List.length ws) (List.drop (0) ws)) ∧
  sizeZ (List.take (List.length ws) (List.drop (0) ws)) ≤ most48 ∧ sizeZ (List.take (List.length ws) (List.drop (0) ws)) * (8 : Int) ≤ most48))
  (Tree.chk
  (St.le
  (St.mk
  [AV.sl zws (Ref.mk (0) (0) (0) (0)) false (List.length ws) Cap.any, AV.sl zvs (Ref.mk (1) (0) (0) (0)) false (List.length vs) Cap.any, AV.junk,
  AV.junk, AV.junk, AV.junk, AV.junk, AV.sl false (Ref.mk (2) (0) (0) (0)) false (Int.toNat (sizeZ (List.take (List.length ws) (List.drop (0) ws)))) Cap.exact,
  AV.int IntKind.i64 true (0 : Int), AV.int IntKind.i64 true (0 : Int), AV.junk, AV.junk, AV.junk, AV.junk, AV.junk, AV.junk, AV.junk, AV.junk, AV.junk, AV.junk, AV.junk, AV.junk, AV.junk, AV.junk, AV.junk, AV.junk, AV.junk,
  AV.junk, AV.junk, AV.junk, AV.junk, AV.junk, AV.junk, AV.junk, AV.junk, AV.junk, AV.junk, AV.junk, AV.junk, AV.junk, AV.junk, AV.junk, AV.junk, AV.junk, AV.junk, AV.junk, AV.junk, AV.junk, AV.junk, AV.junk, AV.junk,
  AV.junk, AV.junk, AV.junk, AV.junk, AV.junk, AV.junk, AV.junk, AV.junk, AV.junk, AV.junk, AV.junk, AV.junk, AV.junk, AV.junk, AV.junk, AV.junk, AV.junk, AV.junk, AV.junk, AV.junk, AV.junk, AV.junk, AV.junk, AV.junk,
  AV.junk, AV.junk, AV.junk, AV.junk]
  [some (Blk.mk (3) false false true (Data.ints IntKind.i64 ws)), some (Blk.mk (3) false false true (Data.ints IntKind.i64 vs)),
  some (Blk.mk (3) true false true (Data.ints IntKind.i64 (List.replicate (Int.toNat (sizeZ (List.take (List.length ws) (List.drop (0) ws)))) (0 : Int))))])
  (St.mk
  [AV.sl zws (Ref.mk (0) (0) (0) (0)) false (List.length ws) Cap.any, AV.sl zvs (Ref.mk (1) (0) (0) (0)) false (List.length vs) Cap.any, AV.junk,
  AV.junk, AV.junk, AV.junk, AV.junk, AV.sl false (Ref.mk (2) (0) (0) (0)) false (Int.toNat (sizeZ ws)) Cap.exact,
  AV.int IntKind.i64 false ((List.length (bitsTo ws vs (Int.toNat (0 : Int)))) : Int), AV.int IntKind.i64 false (0 : Int), AV.junk, AV.junk, AV.junk, AV.junk, AV.junk, AV.junk, AV.junk, AV.junk, AV.junk, AV.junk, AV.junk,
  AV.junk, AV.junk, AV.junk, AV.junk, AV.junk, AV.junk, AV.junk, AV.junk, AV.junk, AV.junk, AV.junk, AV.junk, AV.junk, AV.junk, AV.junk, AV.junk, AV.junk, AV.junk, AV.junk, AV.junk, AV.junk, AV.junk, AV.junk, AV.junk,
  AV.junk, AV.junk, AV.junk, AV.junk, AV.junk, AV.junk, AV.junk, AV.junk, AV.junk, AV.junk, AV.junk, AV.junk, AV.junk, AV.junk, AV.junk, AV.junk, AV.junk, AV.junk, AV.junk, AV.junk, AV.junk, AV.junk, AV.junk, AV.junk,
  AV.junk, AV.junk, AV.junk, AV.junk, AV.junk, AV.junk, AV.junk, AV.junk, AV.junk, AV.junk]
  [some (Blk.mk (3) false false true (Data.ints IntKind.i64 ws)), some (Blk.mk (3) false false true (Data.ints IntKind.i64 vs)),
  some (Blk.mk (3) true false true (Data.ints IntKind.i64 (packS (sizeZ ws) (bitsTo ws vs (Int.toNat (0 : Int))))))]))
  (Tree.chk (okrfields_0 (Xrfields_0.mk zws ws zvs vs (Int.toNat (0 : Int))))
  (Tree.br (fitF ws vs)
  (Tree.ret
  (AV.tup [AV.sl false (Ref.mk (2) (0) (0) (0)) false (Int.toNat (sizeZ ws)) Cap.exact, AV.int IntKind.i64 true (0 : Int)],
  [some (Blk.mk (3) false false true (Data.ints IntKind.i64 ws)), some (Blk.mk (3) false false true (Data.ints IntKind.i64 vs)),
  some (Blk.mk (3) true false true (Data.ints IntKind.i64 (packS (sizeZ ws) (bitsF ws vs))))]))
  (Tree.ret
  (AV.tup [AV.sl true (Ref.mk (0) (0) (0) (0)) true (0) Cap.exact, AV.int IntKind.i64 true (2 : Int)],
  [some (Blk.mk (3) false false true (Data.ints IntKind.i64 ws)), some (Blk.mk (3) false false true (Data.ints IntKind.i64 vs))])))))
  Tree.fail)))) : Tree (AV × Mem)).GivesP (.tup [.sl (decide (fieldsE ws vs ≠ 0)) ⟨2, 0, 0, 0⟩ false (fieldsL ws vs).length .exact, .int .i64 false (fieldsE ws vs)]) ([some ⟨3, false, false, true, .ints .i64 ws⟩, some ⟨3, false, false, true, .ints .i64 vs⟩, some (⟨3, true, decide (fieldsE ws vs ≠ 0), true, .ints .i64 (fieldsL ws vs)⟩)]) := by
  obtain ⟨hs, hs2, hzw, hzv, hwv⟩ := hw
  simp only [List.take_length, List.drop_zero]
  refine Tree.GivesP.chk (by first | (simp only [and_self]; done) | (exact ⟨⟨by omega, trivial⟩, hs, hzw⟩)) ?_
  refine Tree.GivesP.br (fun h1 => ?_) (fun h1 => ?_)
  · (try simp only [decide_eq_true_eq, decide_eq_false_iff_not, Bool.not_eq_true', Bool.not_eq_false', beq_iff_eq, beq_eq_false_iff_ne, Int.not_lt, Int.not_le, ge_iff_le, gt_iff_lt, ne_eq, Bool.false_eq_true, Bool.true_eq_false, not_true_eq_false, not_false_eq_true, Bool.and_eq_true, Bool.not_eq_eq_eq_not, Bool.not_true, Bool.not_false, bne_iff_ne, bne_eq_false_iff_eq, Int.toNat_natCast, Nat.mul_one, Nat.add_zero, Nat.zero_add, List.take_length, List.drop_zero] at h1)
    all_goals
      refine Tree.GivesP.ret ?_ ?_
      · have e := fields_may (vs := vs) h1
        simp [AV.le, AV.leL, Cap.le, e.1, e.2] <;> first | assumption | exact pl.symm
      · have e := fields_may (vs := vs) h1
        simp [Mem.leP, Blk.le, Blk.pad, Data.le, Data.size, AV.le, AV.leL, e.1, e.2] <;> first | assumption | (cases decide (outTo ws vs ws.length = []) <;> rfl)
  · (try simp only [decide_eq_true_eq, decide_eq_false_iff_not, Bool.not_eq_true', Bool.not_eq_false', beq_iff_eq, beq_eq_false_iff_ne, Int.not_lt, Int.not_le, ge_iff_le, gt_iff_lt, ne_eq, Bool.false_eq_true, Bool.true_eq_false, not_true_eq_false, not_false_eq_true, Bool.and_eq_true, Bool.not_eq_eq_eq_not, Bool.not_true, Bool.not_false, bne_iff_ne, bne_eq_false_iff_eq, Int.toNat_natCast, Nat.mul_one, Nat.add_zero, Nat.zero_add, List.take_length, List.drop_zero] at h1)
    all_goals
      refine Tree.GivesP.br (fun h2 => ?_) (fun h2 => ?_)
      · (try simp only [decide_eq_true_eq, decide_eq_false_iff_not, Bool.not_eq_true', Bool.not_eq_false', beq_iff_eq, beq_eq_false_iff_ne, Int.not_lt, Int.not_le, ge_iff_le, gt_iff_lt, ne_eq, Bool.false_eq_true, Bool.true_eq_false, not_true_eq_false, not_false_eq_true, Bool.and_eq_true, Bool.not_eq_eq_eq_not, Bool.not_true, Bool.not_false, bne_iff_ne, bne_eq_false_iff_eq, Int.toNat_natCast, Nat.mul_one, Nat.add_zero, Nat.zero_add, List.take_length, List.drop_zero] at h2)
        all_goals
          refine Tree.GivesP.ret ?_ ?_
          · have e := fields_bad h1 (fun hh => h2 (by rw [hh.1]))
            simp [AV.le, AV.leL, Cap.le, e.1, e.2] <;> first | assumption | exact pl.symm
          · have e := fields_bad h1 (fun hh => h2 (by rw [hh.1]))
            simp [Mem.leP, Blk.le, Blk.pad, Data.le, Data.size, AV.le, AV.leL, e.1, e.2] <;> first | assumption | (cases decide (outTo ws vs ws.length = []) <;> rfl)
      · (try simp only [decide_eq_true_eq, decide_eq_false_iff_not, Bool.not_eq_true', Bool.not_eq_false', beq_iff_eq, beq_eq_false_iff_ne, Int.not_lt, Int.not_le, ge_iff_le, gt_iff_lt, ne_eq, Bool.false_eq_true, Bool.true_eq_false, not_true_eq_false, not_false_eq_true, Bool.and_eq_true, Bool.not_eq_eq_eq_not, Bool.not_true, Bool.not_false, bne_iff_ne, bne_eq_false_iff_eq, Int.toNat_natCast, Nat.mul_one, Nat.add_zero, Nat.zero_add, List.take_length, List.drop_zero] at h2)
        all_goals
          refine Tree.GivesP.chk (by first | (simp only [and_self]; done) | (exact ⟨⟨by omega, trivial⟩, by have := (may_ok h1).1; omega, hzw⟩)) ?_
          refine Tree.GivesP.br (fun h3 => ?_) (fun h3 => ?_)
          · (try simp only [decide_eq_true_eq, decide_eq_false_iff_not, Bool.not_eq_true', Bool.not_eq_false', beq_iff_eq, beq_eq_false_iff_ne, Int.not_lt, Int.not_le, ge_iff_le, gt_iff_lt, ne_eq, Bool.false_eq_true, Bool.true_eq_false, not_true_eq_false, not_false_eq_true, Bool.and_eq_true, Bool.not_eq_eq_eq_not, Bool.not_true, Bool.not_false, bne_iff_ne, bne_eq_false_iff_eq, Int.toNat_natCast, Nat.mul_one, Nat.add_zero, Nat.zero_add, List.take_length, List.drop_zero] at h3)
            all_goals
              refine Tree.GivesP.chk (by first | (simp only [and_self]; done) | (constructor <;> simp only [hdrfields_0, Int.toNat_zero, Int.cast_ofNat_Int, AV.leL, AV.le, Mem.le, Mem.leP, Blk.le, Blk.pad, Data.le, Data.size, Cap.le, and_true, true_and, and_self, true_implies, implies_true, imp_self, List.length_nil] <;> (try simp only [List.take_zero]) <;> (try rfl) <;> (try (repeat' with_reducible refine And.intro ?_ ?_)) <;> first | rfl | exact (packS_zero _).symm)) ?_
              refine Tree.GivesP.chk (by first | (simp only [and_self]; done) | (exact ⟨h1, by omega, hzw, hzv, hwv, Nat.zero_le _, rfl⟩)) ?_
              refine Tree.GivesP.br (fun h4 => ?_) (fun h4 => ?_)
              · (try simp only [decide_eq_true_eq, decide_eq_false_iff_not, Bool.not_eq_true', Bool.not_eq_false', beq_iff_eq, beq_eq_false_iff_ne, Int.not_lt, Int.not_le, ge_iff_le, gt_iff_lt, ne_eq, Bool.false_eq_true, Bool.true_eq_false, not_true_eq_false, not_false_eq_true, Bool.and_eq_true, Bool.not_eq_eq_eq_not, Bool.not_true, Bool.not_false, bne_iff_ne, bne_eq_false_iff_eq, Int.toNat_natCast, Nat.mul_one, Nat.add_zero, Nat.zero_add, List.take_length, List.drop_zero] at h4)
                all_goals
                  refine Tree.GivesP.ret ?_ ?_
                  · have e := fields_good h1 (by omega) h4
                    rw [← packS_packW h1 (by omega)] at e
                    have pl := packS_len (sizeZ ws) (bitsF ws vs)
                    simp [AV.le, AV.leL, Cap.le, e.1, e.2] <;> first | assumption | exact pl.symm
                  · have e := fields_good h1 (by omega) h4
                    rw [← packS_packW h1 (by omega)] at e
                    have pl := packS_len (sizeZ ws) (bitsF ws vs)
                    simp [Mem.leP, Blk.le, Blk.pad, Data.le, Data.size, AV.le, AV.leL, e.1, e.2] <;> first | assumption | (cases decide (outTo ws vs ws.length = []) <;> rfl)
              · (try simp only [decide_eq_true_eq, decide_eq_false_iff_not, Bool.not_eq_true', Bool.not_eq_false', beq_iff_eq, beq_eq_false_iff_ne, Int.not_lt, Int.not_le, ge_iff_le, gt_iff_lt, ne_eq, Bool.false_eq_true, Bool.true_eq_false, not_true_eq_false, not_false_eq_true, Bool.and_eq_true, Bool.not_eq_eq_eq_not, Bool.not_true, Bool.not_false, bne_iff_ne, bne_eq_false_iff_eq, Int.toNat_natCast, Nat.mul_one, Nat.add_zero, Nat.zero_add, List.take_length, List.drop_zero] at h4)
                all_goals
                  refine Tree.GivesP.ret ?_ ?_
                  · have e := fields_bad h1 (fun hh => by rw [hh.2] at h4; cases h4)
                    simp [AV.le, AV.leL, Cap.le, e.1, e.2] <;> first | assumption | exact pl.symm
                  · have e := fields_bad h1 (fun hh => by rw [hh.2] at h4; cases h4)
                    simp [Mem.leP, Blk.le, Blk.pad, Data.le, Data.size, AV.le, AV.leL, e.1, e.2] <;> first | assumption | (cases decide (outTo ws vs ws.length = []) <;> rfl)
          · (try simp only [decide_eq_true_eq, decide_eq_false_iff_not, Bool.not_eq_true', Bool.not_eq_false', beq_iff_eq, beq_eq_false_iff_ne, Int.not_lt, Int.not_le, ge_iff_le, gt_iff_lt, ne_eq, Bool.false_eq_true, Bool.true_eq_false, not_true_eq_false, not_false_eq_true, Bool.and_eq_true, Bool.not_eq_eq_eq_not, Bool.not_true, Bool.not_false, bne_iff_ne, bne_eq_false_iff_eq, Int.toNat_natCast, Nat.mul_one, Nat.add_zero, Nat.zero_add, List.take_length, List.drop_zero] at h3)
            all_goals
              exfalso
              have sz := size_small h1
              simp [most48] at h3
              omega
theorem srfields (hall : AllOk Try.prog 0 (fun _ => none) tab22) (zws : Bool) (ws : List Int) (zvs : Bool) (vs : List Int) (hw : short ws ∧ short vs ∧ (zws = true → ws = []) ∧ (zvs = true → vs = []) ∧ wf64L vs) : SoundAt (mkC Try.prog 0 (fun _ => none) []) 20 [.sl zws ⟨0, 0, 0, 0⟩ false ws.length .any, .sl zvs ⟨1, 0, 0, 0⟩ false vs.length .any] [some ⟨3, false, false, true, .ints .i64 ws⟩, some ⟨3, false, false, true, .ints .i64 vs⟩] (.tup [.sl (decide (fieldsE ws vs ≠ 0)) ⟨2, 0, 0, 0⟩ false (fieldsL ws vs).length .exact, .int .i64 false (fieldsE ws vs)], [some ⟨3, false, false, true, .ints .i64 ws⟩, some ⟨3, false, false, true, .ints .i64 vs⟩, some (⟨3, true, decide (fieldsE ws vs ≠ 0), true, .ints .i64 (fieldsL ws vs)⟩)]) := sound_loopsP hall mix (loopsrfields hall) (trfields zws ws zvs vs) (grfields zws ws zvs vs hw)
theorem Frfields_ok (hall : AllOk Try.prog 0 (fun _ => none) tab22) : PureF Try.prog 3 20 Frfields := by
  intro xs c v news h hc
  unfold Frfields at h
  split at h
  · rename_i zws ws zvs vs
    cases h
    refine ⟨(by simp), SoundAt.flags (srfields hall zws ws zvs vs hc) ?_⟩
    simp [PA.avs, AV.le, AV.leL, Cap.le]
  · cases h
end Go.Proofs.Ytnkjblmlchbfkaa.Rig
