/- MFull: what is proved for the claim, part 5: functions' reckonings, and what they give. -/
import Derived.Test.YtnkjblmlchbfkaaMFull4
import Derived.KernelRfl
set_option linter.unusedVariables false
set_option linter.unusedSimpArgs false
/- QPackFullt -/
namespace Go.Proofs.Ytnkjblmlchbfkaa.Rig
open Go
set_option maxRecDepth 100000 in
theorem tLPackFull_1 (widths : List Int) (values : List Int) (zwords : Bool) (words : List Int) (i : Nat) : tidied TPackFull_1 UPackFull_1 3 (evCode (mkL Try.prog 0 (fun _ => none) tab19 rowsPackFull) (evCall (mkC Try.prog 0 (fun _ => none) tab19) 50) 8 3 fuelC (bodyAt Try.prog 8 1) (hdPackFull_1 ⟨widths, values, zwords, words, i⟩)) =
  Tree.br (decide ((i : Int) < sizeZ widths))
  (Tree.br (!zwords && decide ((0 : Int) ≤ (i : Int) ∧ (i : Int) < ((List.length words) : Int)))
  (Tree.br (decide (Int.toNat (i : Int) * 1 + 0 + 1 ≤ List.length words))
  (Tree.br ((i : Int) == IntKind.wrap IntKind.i64 (sizeZ widths - (1 : Int)))
  (Tree.br true
  (Tree.br (decide (Int.tmod (sumI widths) (16 : Int) > (0 : Int)))
  (Tree.br true
  (Tree.br (!decide (IntKind.wrap IntKind.u64 (IntKind.wrap IntKind.i64 ((16 : Int) - Int.tmod (sumI widths) (16 : Int))) < (0 : Int)))
  (Tree.br (!decide (IntKind.wrap IntKind.u64 (IntKind.wrap IntKind.i64 ((16 : Int) - Int.tmod (sumI widths) (16 : Int))) < (0 : Int)))
  (Tree.br (!decide (fieldsL widths (splitL widths words) = []) && decide ((0 : Int) ≤ (i : Int) ∧ (i : Int) < ((List.length (fieldsL widths (splitL widths words))) : Int)))
  (Tree.br (decide (Int.toNat (i : Int) * 1 + 0 + 1 ≤ List.length (fieldsL widths (splitL widths words))))
  (Tree.br
  (List.getD (fieldsL widths (splitL widths words)) (Int.toNat (i : Int) * 1 + 0 + 0) (0 : Int) !=
  IntKind.wrap IntKind.i64
  (Int.fdiv (List.getD words (Int.toNat (i : Int) * 1 + 0 + 0) (0 : Int))
  ((2 : Int) ^ min (Int.toNat (IntKind.wrap IntKind.u64 (IntKind.wrap IntKind.i64 ((16 : Int) - Int.tmod (sumI widths) (16 : Int))))) (64)) *
  (2 : Int) ^ min (Int.toNat (IntKind.wrap IntKind.u64 (IntKind.wrap IntKind.i64 ((16 : Int) - Int.tmod (sumI widths) (16 : Int))))) (64)))
  (Tree.ret
  (Ex.ret,
  St.mk
  [jk, jk, jk, jk, jk, jk, jk, jk, jk, jk, jk, jk, jk, jk, jk, jk, jk, jk, jk, jk, jk, jk, jk,
  jk, jk, jk, jk, jk, jk, jk, jk, jk, jk, jk, jk, jk, jk, jk, jk, jk, jk, jk, jk, jk, jk, jk,
  jk, jk, jk, jk, jk, jk, jk, jk, jk, jk, jk, jk, jk, jk, jk, jk, jk, jk, jk, jk, jk, jk, jk,
  jk, jk, jk, jk, jk, jk, jk, jk, jk, jk, jk, jk, jk, jk, jk, jk, jk, jk, jk, jk, jk, jk, jk,
  jk, jk, jk, jk, jk, jk, jk, jk, jk, jk, jk, jk, jk, jk, jk, jk, jk, jk, jk, jk, jk, jk, jk,
  jk, jk, jk, jk, jk, jk, jk, jk, jk, jk, jk, jk, jk, jk, jk, jk, jk, jk, jk, jk, jk, jk, jk,
  jk]
  [some (Blk.mk (3) false false true (Data.ints IntKind.i64 widths)), some (Blk.mk (3) false false true (Data.ints IntKind.i64 values)),
  some (Blk.mk (3) false false true (Data.ints IntKind.i64 words))]))
  (Tree.ret
  (Ex.norm,
  St.mk
  [jk, jk, AV.sl zwords (Ref.mk (2) (0) (0) (0)) false (List.length words) Cap.any, jk, jk, jk, jk, jk, jk, jk, jk, jk,
  jk,
  AV.sl (decide (fieldsL widths (splitL widths words) = [])) (Ref.mk (3) (0) (0) (0)) false (List.length (fieldsL widths (splitL widths words))) Cap.own,
  jk, AV.int IntKind.i64 false (sizeZ widths), AV.int IntKind.i64 false (sumI widths), jk, AV.int IntKind.i64 false (IntKind.wrap IntKind.i64 ((i : Int) + (1 : Int))), jk, jk, jk,
  jk, jk, jk, jk, jk, jk, jk, jk, jk, jk, jk, jk, jk, jk, jk, jk, jk, jk, jk, jk, jk, jk, jk,
  jk, jk, jk, jk, jk, jk, jk, jk, jk, jk, jk, jk, jk, jk, jk, jk, jk, jk, jk, jk, jk, jk, jk,
  jk, jk, jk, jk, jk, jk, jk, jk, jk, jk, jk, jk, jk, jk, jk, jk, jk, jk, jk, jk, jk, jk, jk,
  jk, jk, jk, jk, jk, jk, jk, jk, jk, jk, jk, jk, jk, jk, jk, jk, jk, jk, jk, jk, jk, jk, jk,
  jk, jk, jk, jk, jk, jk, jk, jk, jk, jk, jk, jk, jk, jk, jk, jk, jk, jk, jk, jk, jk, jk, jk,
  jk, jk]
  [some (Blk.mk (3) false false true (Data.ints IntKind.i64 widths)), some (Blk.mk (3) false false true (Data.ints IntKind.i64 values)),
  some (Blk.mk (3) false false true (Data.ints IntKind.i64 words)),
  some
  (Blk.mk (3) true (decide ((fieldsL widths (splitL widths words)) = [])) true
  (Data.ints IntKind.i64 (fieldsL widths (splitL widths words))))])))
  Tree.fail)
  Tree.fail)
  Tree.fail)
  Tree.fail)
  Tree.fail)
  (Tree.br (!decide (fieldsL widths (splitL widths words) = []) && decide ((0 : Int) ≤ (i : Int) ∧ (i : Int) < ((List.length (fieldsL widths (splitL widths words))) : Int)))
  (Tree.br (decide (Int.toNat (i : Int) * 1 + 0 + 1 ≤ List.length (fieldsL widths (splitL widths words))))
  (Tree.br (List.getD (fieldsL widths (splitL widths words)) (Int.toNat (i : Int) * 1 + 0 + 0) (0 : Int) != List.getD words (Int.toNat (i : Int) * 1 + 0 + 0) (0 : Int))
  (Tree.ret
  (Ex.ret,
  St.mk
  [jk, jk, jk, jk, jk, jk, jk, jk, jk, jk, jk, jk, jk, jk, jk, jk, jk, jk, jk, jk, jk, jk, jk, jk,
  jk, jk, jk, jk, jk, jk, jk, jk, jk, jk, jk, jk, jk, jk, jk, jk, jk, jk, jk, jk, jk, jk, jk,
  jk, jk, jk, jk, jk, jk, jk, jk, jk, jk, jk, jk, jk, jk, jk, jk, jk, jk, jk, jk, jk, jk, jk,
  jk, jk, jk, jk, jk, jk, jk, jk, jk, jk, jk, jk, jk, jk, jk, jk, jk, jk, jk, jk, jk, jk, jk,
  jk, jk, jk, jk, jk, jk, jk, jk, jk, jk, jk, jk, jk, jk, jk, jk, jk, jk, jk, jk, jk, jk, jk,
  jk, jk, jk, jk, jk, jk, jk, jk, jk, jk, jk, jk, jk, jk, jk, jk, jk, jk, jk, jk, jk, jk, jk]
  [some (Blk.mk (3) false false true (Data.ints IntKind.i64 widths)), some (Blk.mk (3) false false true (Data.ints IntKind.i64 values)),
  some (Blk.mk (3) false false true (Data.ints IntKind.i64 words))]))
  (Tree.ret
  (Ex.norm,
  St.mk
  [jk, jk, AV.sl zwords (Ref.mk (2) (0) (0) (0)) false (List.length words) Cap.any, jk, jk, jk, jk, jk, jk, jk, jk, jk,
  jk, AV.sl (decide (fieldsL widths (splitL widths words) = [])) (Ref.mk (3) (0) (0) (0)) false (List.length (fieldsL widths (splitL widths words))) Cap.own,
  jk, AV.int IntKind.i64 false (sizeZ widths), AV.int IntKind.i64 false (sumI widths), jk, AV.int IntKind.i64 false (IntKind.wrap IntKind.i64 ((i : Int) + (1 : Int))), jk, jk, jk, jk,
  jk, jk, jk, jk, jk, jk, jk, jk, jk, jk, jk, jk, jk, jk, jk, jk, jk, jk, jk, jk, jk, jk, jk,
  jk, jk, jk, jk, jk, jk, jk, jk, jk, jk, jk, jk, jk, jk, jk, jk, jk, jk, jk, jk, jk, jk, jk,
  jk, jk, jk, jk, jk, jk, jk, jk, jk, jk, jk, jk, jk, jk, jk, jk, jk, jk, jk, jk, jk, jk, jk,
  jk, jk, jk, jk, jk, jk, jk, jk, jk, jk, jk, jk, jk, jk, jk, jk, jk, jk, jk, jk, jk, jk, jk,
  jk, jk, jk, jk, jk, jk, jk, jk, jk, jk, jk, jk, jk, jk, jk, jk, jk, jk, jk, jk, jk, jk, jk,
  jk]
  [some (Blk.mk (3) false false true (Data.ints IntKind.i64 widths)), some (Blk.mk (3) false false true (Data.ints IntKind.i64 values)),
  some (Blk.mk (3) false false true (Data.ints IntKind.i64 words)),
  some
  (Blk.mk (3) true (decide ((fieldsL widths (splitL widths words)) = [])) true
  (Data.ints IntKind.i64 (fieldsL widths (splitL widths words))))])))
  Tree.fail)
  Tree.fail))
  Tree.fail)
  (Tree.br (!decide (fieldsL widths (splitL widths words) = []) && decide ((0 : Int) ≤ (i : Int) ∧ (i : Int) < ((List.length (fieldsL widths (splitL widths words))) : Int)))
  (Tree.br (decide (Int.toNat (i : Int) * 1 + 0 + 1 ≤ List.length (fieldsL widths (splitL widths words))))
  (Tree.br (List.getD (fieldsL widths (splitL widths words)) (Int.toNat (i : Int) * 1 + 0 + 0) (0 : Int) != List.getD words (Int.toNat (i : Int) * 1 + 0 + 0) (0 : Int))
  (Tree.ret
  (Ex.ret,
  St.mk
  [jk, jk, jk, jk, jk, jk, jk, jk, jk, jk, jk, jk, jk, jk, jk, jk, jk, jk, jk, jk, jk, jk, jk, jk,
  jk, jk, jk, jk, jk, jk, jk, jk, jk, jk, jk, jk, jk, jk, jk, jk, jk, jk, jk, jk, jk, jk, jk, jk,
  jk, jk, jk, jk, jk, jk, jk, jk, jk, jk, jk, jk, jk, jk, jk, jk, jk, jk, jk, jk, jk, jk, jk, jk,
  jk, jk, jk, jk, jk, jk, jk, jk, jk, jk, jk, jk, jk, jk, jk, jk, jk, jk, jk, jk, jk, jk, jk, jk,
  jk, jk, jk, jk, jk, jk, jk, jk, jk, jk, jk, jk, jk, jk, jk, jk, jk, jk, jk, jk, jk, jk, jk, jk,
  jk, jk, jk, jk, jk, jk, jk, jk, jk, jk, jk, jk, jk, jk, jk, jk, jk, jk, jk]
  [some (Blk.mk (3) false false true (Data.ints IntKind.i64 widths)), some (Blk.mk (3) false false true (Data.ints IntKind.i64 values)),
  some (Blk.mk (3) false false true (Data.ints IntKind.i64 words))]))
  (Tree.ret
  (Ex.norm,
  St.mk
  [jk, jk, AV.sl zwords (Ref.mk (2) (0) (0) (0)) false (List.length words) Cap.any, jk, jk, jk, jk, jk, jk, jk, jk, jk, jk,
  AV.sl (decide (fieldsL widths (splitL widths words) = [])) (Ref.mk (3) (0) (0) (0)) false (List.length (fieldsL widths (splitL widths words))) Cap.own, jk,
  AV.int IntKind.i64 false (sizeZ widths), AV.int IntKind.i64 false (sumI widths), jk, AV.int IntKind.i64 false (IntKind.wrap IntKind.i64 ((i : Int) + (1 : Int))), jk, jk, jk, jk, jk,
  jk, jk, jk, jk, jk, jk, jk, jk, jk, jk, jk, jk, jk, jk, jk, jk, jk, jk, jk, jk, jk, jk, jk, jk,
  jk, jk, jk, jk, jk, jk, jk, jk, jk, jk, jk, jk, jk, jk, jk, jk, jk, jk, jk, jk, jk, jk, jk, jk,
  jk, jk, jk, jk, jk, jk, jk, jk, jk, jk, jk, jk, jk, jk, jk, jk, jk, jk, jk, jk, jk, jk, jk, jk,
  jk, jk, jk, jk, jk, jk, jk, jk, jk, jk, jk, jk, jk, jk, jk, jk, jk, jk, jk, jk, jk, jk, jk, jk,
  jk, jk, jk, jk, jk, jk, jk, jk, jk, jk, jk, jk, jk, jk, jk, jk, jk, jk, jk]
  [some (Blk.mk (3) false false true (Data.ints IntKind.i64 widths)), some (Blk.mk (3) false false true (Data.ints IntKind.i64 values)),
  some (Blk.mk (3) false false true (Data.ints IntKind.i64 words)),
  some
  (Blk.mk (3) true (decide ((fieldsL widths (splitL widths words)) = [])) true
  (Data.ints IntKind.i64 (fieldsL widths (splitL widths words))))])))
  Tree.fail)
  Tree.fail))
  Tree.fail)
  Tree.fail)
  (Tree.ret
  (Ex.exit (2),
  St.mk
  [jk, jk, jk, jk, jk, jk, jk, jk, jk, jk, jk, jk, jk, jk, jk, jk, jk, jk, jk, jk, jk, jk, jk, jk, jk,
  jk, jk, jk, jk, jk, jk, jk, jk, jk, jk, jk, jk, jk, jk, jk, jk, jk, jk, jk, jk, jk, jk, jk, jk, jk,
  jk, jk, jk, jk, jk, jk, jk, jk, jk, jk, jk, jk, jk, jk, jk, jk, jk, jk, jk, jk, jk, jk, jk, jk, jk,
  jk, jk, jk, jk, jk, jk, jk, jk, jk, jk, jk, jk, jk, jk, jk, jk, jk, jk, jk, jk, jk, jk, jk, jk, jk,
  jk, jk, jk, jk, jk, jk, jk, jk, jk, jk, jk, jk, jk, jk, jk, jk, jk, jk, jk, jk, jk, jk, jk, jk, jk,
  jk, jk, jk, jk, jk, jk, jk, jk, jk, jk, jk, jk, jk, jk]
  [some (Blk.mk (3) false false true (Data.ints IntKind.i64 widths)), some (Blk.mk (3) false false true (Data.ints IntKind.i64 values)),
  some (Blk.mk (3) false false true (Data.ints IntKind.i64 words))])) := by kernel_rfl
set_option maxRecDepth 100000 in
theorem stepPackFull_1 (widths : List Int) (values : List Int) (zwords : Bool) (words : List Int) (i : Nat) (ex : Ex) (r : St) (hok : okPackFull_1 ⟨widths, values, zwords, words, i⟩) (hr : (outPackFull_1 ⟨widths, values, zwords, words, i⟩).runs (ex, r)) : (Tree.br (decide ((i : Int) < sizeZ widths))
  (Tree.br (!zwords && decide ((0 : Int) ≤ (i : Int) ∧ (i : Int) < ((List.length words) : Int)))
  (Tree.br (decide (Int.toNat (i : Int) * 1 + 0 + 1 ≤ List.length words))
  (Tree.br ((i : Int) == IntKind.wrap IntKind.i64 (sizeZ widths - (1 : Int)))
  (Tree.br true
  (Tree.br (decide (Int.tmod (sumI widths) (16 : Int) > (0 : Int)))
  (Tree.br true
  (Tree.br (!decide (IntKind.wrap IntKind.u64 (IntKind.wrap IntKind.i64 ((16 : Int) - Int.tmod (sumI widths) (16 : Int))) < (0 : Int)))
  (Tree.br (!decide (IntKind.wrap IntKind.u64 (IntKind.wrap IntKind.i64 ((16 : Int) - Int.tmod (sumI widths) (16 : Int))) < (0 : Int)))
  (Tree.br (!decide (fieldsL widths (splitL widths words) = []) && decide ((0 : Int) ≤ (i : Int) ∧ (i : Int) < ((List.length (fieldsL widths (splitL widths words))) : Int)))
  (Tree.br (decide (Int.toNat (i : Int) * 1 + 0 + 1 ≤ List.length (fieldsL widths (splitL widths words))))
  (Tree.br
  (List.getD (fieldsL widths (splitL widths words)) (Int.toNat (i : Int) * 1 + 0 + 0) (0 : Int) !=
  IntKind.wrap IntKind.i64
  (Int.fdiv (List.getD words (Int.toNat (i : Int) * 1 + 0 + 0) (0 : Int))
  ((2 : Int) ^ min (Int.toNat (IntKind.wrap IntKind.u64 (IntKind.wrap IntKind.i64 ((16 : Int) - Int.tmod (sumI widths) (16 : Int))))) (64)) *
  (2 : Int) ^ min (Int.toNat (IntKind.wrap IntKind.u64 (IntKind.wrap IntKind.i64 ((16 : Int) - Int.tmod (sumI widths) (16 : Int))))) (64)))
  (Tree.ret
  (Ex.ret,
  St.mk
  [jk, jk, jk, jk, jk, jk, jk, jk, jk, jk, jk, jk, jk, jk, jk, jk, jk, jk, jk, jk, jk, jk, jk,
  jk, jk, jk, jk, jk, jk, jk, jk, jk, jk, jk, jk, jk, jk, jk, jk, jk, jk, jk, jk, jk, jk, jk,
  jk, jk, jk, jk, jk, jk, jk, jk, jk, jk, jk, jk, jk, jk, jk, jk, jk, jk, jk, jk, jk, jk, jk,
  jk, jk, jk, jk, jk, jk, jk, jk, jk, jk, jk, jk, jk, jk, jk, jk, jk, jk, jk, jk, jk, jk, jk,
  jk, jk, jk, jk, jk, jk, jk, jk, jk, jk, jk, jk, jk, jk, jk, jk, jk, jk, jk, jk, jk, jk, jk,
  jk, jk, jk, jk, jk, jk, jk, jk, jk, jk, jk, jk, jk, jk, jk, jk, jk, jk, jk, jk, jk, jk, jk,
  jk]
  [some (Blk.mk (3) false false true (Data.ints IntKind.i64 widths)), some (Blk.mk (3) false false true (Data.ints IntKind.i64 values)),
  some (Blk.mk (3) false false true (Data.ints IntKind.i64 words))]))
  (Tree.ret
  (Ex.norm,
  St.mk
  [jk, jk, AV.sl zwords (Ref.mk (2) (0) (0) (0)) false (List.length words) Cap.any, jk, jk, jk, jk, jk, jk, jk, jk, jk,
  jk,
  AV.sl (decide (fieldsL widths (splitL widths words) = [])) (Ref.mk (3) (0) (0) (0)) false (List.length (fieldsL widths (splitL widths words))) Cap.own,
  jk, AV.int IntKind.i64 false (sizeZ widths), AV.int IntKind.i64 false (sumI widths), jk, AV.int IntKind.i64 false (IntKind.wrap IntKind.i64 ((i : Int) + (1 : Int))), jk, jk, jk,
  jk, jk, jk, jk, jk, jk, jk, jk, jk, jk, jk, jk, jk, jk, jk, jk, jk, jk, jk, jk, jk, jk, jk,
  jk, jk, jk, jk, jk, jk, jk, jk, jk, jk, jk, jk, jk, jk, jk, jk, jk, jk, jk, jk, jk, jk, jk,
  jk, jk, jk, jk, jk, jk, jk, jk, jk, jk, jk, jk, jk, jk, jk, jk, jk, jk, jk, jk, jk, jk, jk,
  jk, jk, jk, jk, jk, jk, jk, jk, jk, jk, jk, jk, jk, jk, jk, jk, jk, jk, jk, jk, jk, jk, jk,
  jk, jk, jk, jk, jk, jk, jk, jk, jk, jk, jk, jk, jk, jk, jk, jk, jk, jk, jk, jk, jk, jk, jk,
  jk, jk]
  [some (Blk.mk (3) false false true (Data.ints IntKind.i64 widths)), some (Blk.mk (3) false false true (Data.ints IntKind.i64 values)),
  some (Blk.mk (3) false false true (Data.ints IntKind.i64 words)),
  some
  (Blk.mk (3) true (decide ((fieldsL widths (splitL widths words)) = [])) true
  (Data.ints IntKind.i64 (fieldsL widths (splitL widths words))))])))
  Tree.fail)
  Tree.fail)
  Tree.fail)
  Tree.fail)
  Tree.fail)
  (Tree.br (!decide (fieldsL widths (splitL widths words) = []) && decide ((0 : Int) ≤ (i : Int) ∧ (i : Int) < ((List.length (fieldsL widths (splitL widths words))) : Int)))
  (Tree.br (decide (Int.toNat (i : Int) * 1 + 0 + 1 ≤ List.length (fieldsL widths (splitL widths words))))
  (Tree.br (List.getD (fieldsL widths (splitL widths words)) (Int.toNat (i : Int) * 1 + 0 + 0) (0 : Int) != List.getD words (Int.toNat (i : Int) * 1 + 0 + 0) (0 : Int))
  (Tree.ret
  (Ex.ret,
  St.mk
  [jk, jk, jk, jk, jk, jk, jk, jk, jk, jk, jk, jk, jk, jk, jk, jk, jk, jk, jk, jk, jk, jk, jk, jk,
  jk, jk, jk, jk, jk, jk, jk, jk, jk, jk, jk, jk, jk, jk, jk, jk, jk, jk, jk, jk, jk, jk, jk,
  jk, jk, jk, jk, jk, jk, jk, jk, jk, jk, jk, jk, jk, jk, jk, jk, jk, jk, jk, jk, jk, jk, jk,
  jk, jk, jk, jk, jk, jk, jk, jk, jk, jk, jk, jk, jk, jk, jk, jk, jk, jk, jk, jk, jk, jk, jk,
  jk, jk, jk, jk, jk, jk, jk, jk, jk, jk, jk, jk, jk, jk, jk, jk, jk, jk, jk, jk, jk, jk, jk,
  jk, jk, jk, jk, jk, jk, jk, jk, jk, jk, jk, jk, jk, jk, jk, jk, jk, jk, jk, jk, jk, jk, jk]
  [some (Blk.mk (3) false false true (Data.ints IntKind.i64 widths)), some (Blk.mk (3) false false true (Data.ints IntKind.i64 values)),
  some (Blk.mk (3) false false true (Data.ints IntKind.i64 words))]))
  (Tree.ret
  (Ex.norm,
  St.mk
  [jk, jk, AV.sl zwords (Ref.mk (2) (0) (0) (0)) false (List.length words) Cap.any, jk, jk, jk, jk, jk, jk, jk, jk, jk,
  jk, AV.sl (decide (fieldsL widths (splitL widths words) = [])) (Ref.mk (3) (0) (0) (0)) false (List.length (fieldsL widths (splitL widths words))) Cap.own,
  jk, AV.int IntKind.i64 false (sizeZ widths), AV.int IntKind.i64 false (sumI widths), jk, AV.int IntKind.i64 false (IntKind.wrap IntKind.i64 ((i : Int) + (1 : Int))), jk, jk, jk, jk,
  jk, jk, jk, jk, jk, jk, jk, jk, jk, jk, jk, jk, jk, jk, jk, jk, jk, jk, jk, jk, jk, jk, jk,
  jk, jk, jk, jk, jk, jk, jk, jk, jk, jk, jk, jk, jk, jk, jk, jk, jk, jk, jk, jk, jk, jk, jk,
  jk, jk, jk, jk, jk, jk, jk, jk, jk, jk, jk, jk, jk, jk, jk, jk, jk, jk, jk, jk, jk, jk, jk,
  jk, jk, jk, jk, jk, jk, jk, jk, jk, jk, jk, jk, jk, jk, jk, jk, jk, jk, jk, jk, jk, jk, jk,
  jk, jk, jk, jk, jk, jk, jk, jk, jk, jk, jk, jk, jk, jk, jk, jk, jk, jk, jk, jk, jk, jk, jk,
  jk]
  [some (Blk.mk (3) false false true (Data.ints IntKind.i64 widths)), some (Blk.mk (3) false false true (Data.ints IntKind.i64 values)),
  some (Blk.mk (3) false false true (Data.ints IntKind.i64 words)),
  some
  (Blk.mk (3) true (decide ((fieldsL widths (splitL widths words)) = [])) true
  (Data.ints IntKind.i64 (fieldsL widths (splitL widths words))))])))
  Tree.fail)
  Tree.fail))
  Tree.fail)
  (Tree.br (!decide (fieldsL widths (splitL widths words) = []) && decide ((0 : Int) ≤ (i : Int) ∧ (i : Int) < ((List.length (fieldsL widths (splitL widths words))) : Int)))
  (Tree.br (decide (Int.toNat (i : Int) * 1 + 0 + 1 ≤ List.length (fieldsL widths (splitL widths words))))
  (Tree.br (List.getD (fieldsL widths (splitL widths words)) (Int.toNat (i : Int) * 1 + 0 + 0) (0 : Int) != List.getD words (Int.toNat (i : Int) * 1 + 0 + 0) (0 : Int))
  (Tree.ret
  (Ex.ret,
  St.mk
  [jk, jk, jk, jk, jk, jk, jk, jk, jk, jk, jk, jk, jk, jk, jk, jk, jk, jk, jk, jk, jk, jk, jk, jk,
  jk, jk, jk, jk, jk, jk, jk, jk, jk, jk, jk, jk, jk, jk, jk, jk, jk, jk, jk, jk, jk, jk, jk, jk,
  jk, jk, jk, jk, jk, jk, jk, jk, jk, jk, jk, jk, jk, jk, jk, jk, jk, jk, jk, jk, jk, jk, jk, jk,
  jk, jk, jk, jk, jk, jk, jk, jk, jk, jk, jk, jk, jk, jk, jk, jk, jk, jk, jk, jk, jk, jk, jk, jk,
  jk, jk, jk, jk, jk, jk, jk, jk, jk, jk, jk, jk, jk, jk, jk, jk, jk, jk, jk, jk, jk, jk, jk, jk,
  jk, jk, jk, jk, jk, jk, jk, jk, jk, jk, jk, jk, jk, jk, jk, jk, jk, jk, jk]
  [some (Blk.mk (3) false false true (Data.ints IntKind.i64 widths)), some (Blk.mk (3) false false true (Data.ints IntKind.i64 values)),
  some (Blk.mk (3) false false true (Data.ints IntKind.i64 words))]))
  (Tree.ret
  (Ex.norm,
  St.mk
  [jk, jk, AV.sl zwords (Ref.mk (2) (0) (0) (0)) false (List.length words) Cap.any, jk, jk, jk, jk, jk, jk, jk, jk, jk, jk,
  AV.sl (decide (fieldsL widths (splitL widths words) = [])) (Ref.mk (3) (0) (0) (0)) false (List.length (fieldsL widths (splitL widths words))) Cap.own, jk,
  AV.int IntKind.i64 false (sizeZ widths), AV.int IntKind.i64 false (sumI widths), jk, AV.int IntKind.i64 false (IntKind.wrap IntKind.i64 ((i : Int) + (1 : Int))), jk, jk, jk, jk, jk,
  jk, jk, jk, jk, jk, jk, jk, jk, jk, jk, jk, jk, jk, jk, jk, jk, jk, jk, jk, jk, jk, jk, jk, jk,
  jk, jk, jk, jk, jk, jk, jk, jk, jk, jk, jk, jk, jk, jk, jk, jk, jk, jk, jk, jk, jk, jk, jk, jk,
  jk, jk, jk, jk, jk, jk, jk, jk, jk, jk, jk, jk, jk, jk, jk, jk, jk, jk, jk, jk, jk, jk, jk, jk,
  jk, jk, jk, jk, jk, jk, jk, jk, jk, jk, jk, jk, jk, jk, jk, jk, jk, jk, jk, jk, jk, jk, jk, jk,
  jk, jk, jk, jk, jk, jk, jk, jk, jk, jk, jk, jk, jk, jk, jk, jk, jk, jk, jk]
  [some (Blk.mk (3) false false true (Data.ints IntKind.i64 widths)), some (Blk.mk (3) false false true (Data.ints IntKind.i64 values)),
  some (Blk.mk (3) false false true (Data.ints IntKind.i64 words)),
  some
  (Blk.mk (3) true (decide ((fieldsL widths (splitL widths words)) = [])) true
  (Data.ints IntKind.i64 (fieldsL widths (splitL widths words))))])))
  Tree.fail)
  Tree.fail))
  Tree.fail)
  Tree.fail)
  (Tree.ret
  (Ex.exit (2),
  St.mk
  [jk, jk, jk, jk, jk, jk, jk, jk, jk, jk, jk, jk, jk, jk, jk, jk, jk, jk, jk, jk, jk, jk, jk, jk, jk,
  jk, jk, jk, jk, jk, jk, jk, jk, jk, jk, jk, jk, jk, jk, jk, jk, jk, jk, jk, jk, jk, jk, jk, jk, jk,
  jk, jk, jk, jk, jk, jk, jk, jk, jk, jk, jk, jk, jk, jk, jk, jk, jk, jk, jk, jk, jk, jk, jk, jk, jk,
  jk, jk, jk, jk, jk, jk, jk, jk, jk, jk, jk, jk, jk, jk, jk, jk, jk, jk, jk, jk, jk, jk, jk, jk, jk,
  jk, jk, jk, jk, jk, jk, jk, jk, jk, jk, jk, jk, jk, jk, jk, jk, jk, jk, jk, jk, jk, jk, jk, jk, jk,
  jk, jk, jk, jk, jk, jk, jk, jk, jk, jk, jk, jk, jk, jk]
  [some (Blk.mk (3) false false true (Data.ints IntKind.i64 widths)), some (Blk.mk (3) false false true (Data.ints IntKind.i64 values)),
  some (Blk.mk (3) false false true (Data.ints IntKind.i64 words))])) : Tree (Ex × St)).Sat (Post hdPackFull_1 resPackFull_1 muPackFull_1 ⟨widths, values, zwords, words, i⟩ ex r) := by
  simp only [okPackFull_1, outPackFull_1, Tree.runs] at hok hr
  obtain ⟨he, hw3, hx3, hz3, hi⟩ := hok
  obtain ⟨hm, f0, fl, sw, hj⟩ := got_put he
  have hj := hj i
  have sz := size_small hm
  have sq := sumN_eq widths (may_ok hm).2
  have em : IntKind.u64.wrap (IntKind.i64.wrap (16 - sumI widths % 16)) = 16 - sumI widths % 16 := by rw [w64, wu64]; omega
  have et : Int.tmod (sumI widths) 16 = sumI widths % 16 := Int.tmod_eq_emod_of_nonneg (by omega)
  have e1 : IntKind.i64.wrap (sizeZ widths - 1) = sizeZ widths - 1 := by rw [w64]; omega
  have hmn : min (16 - sumI widths % 16).toNat 64 = (16 - sumI widths % 16).toNat := by omega
  have hne : (i : Int) < sizeZ widths → fieldsL widths (splitL widths words) ≠ [] := fun h hh => by rw [hh] at fl; simp at fl; omega
  have p16 := pow_pos (16 - sumI widths % 16).toNat
  simp only [Int.toNat_natCast, Nat.mul_one, Nat.add_zero, em, et, e1, hmn, fdiv_pow]
  refine Tree.Sat.br (fun h1 => ?_) (fun h1 => ?_)
  · (try simp only [decide_eq_true_eq, decide_eq_false_iff_not, Bool.not_eq_true', Bool.not_eq_false', beq_iff_eq, beq_eq_false_iff_ne, Int.not_lt, Int.not_le, ge_iff_le, gt_iff_lt, ne_eq, Bool.false_eq_true, Bool.true_eq_false, not_true_eq_false, not_false_eq_true, Bool.and_eq_true, Bool.not_eq_eq_eq_not, Bool.not_true, Bool.not_false, bne_iff_ne, bne_eq_false_iff_eq, Int.toNat_natCast, Nat.mul_one, Nat.add_zero, Nat.zero_add, List.take_length, List.drop_zero] at h1)
    all_goals
      refine Tree.Sat.br (fun h2 => ?_) (fun h2 => ?_)
      · (try simp only [decide_eq_true_eq, decide_eq_false_iff_not, Bool.not_eq_true', Bool.not_eq_false', beq_iff_eq, beq_eq_false_iff_ne, Int.not_lt, Int.not_le, ge_iff_le, gt_iff_lt, ne_eq, Bool.false_eq_true, Bool.true_eq_false, not_true_eq_false, not_false_eq_true, Bool.and_eq_true, Bool.not_eq_eq_eq_not, Bool.not_true, Bool.not_false, bne_iff_ne, bne_eq_false_iff_eq, Int.toNat_natCast, Nat.mul_one, Nat.add_zero, Nat.zero_add, List.take_length, List.drop_zero] at h2)
        all_goals
          refine Tree.Sat.br (fun h3 => ?_) (fun h3 => ?_)
          · (try simp only [decide_eq_true_eq, decide_eq_false_iff_not, Bool.not_eq_true', Bool.not_eq_false', beq_iff_eq, beq_eq_false_iff_ne, Int.not_lt, Int.not_le, ge_iff_le, gt_iff_lt, ne_eq, Bool.false_eq_true, Bool.true_eq_false, not_true_eq_false, not_false_eq_true, Bool.and_eq_true, Bool.not_eq_eq_eq_not, Bool.not_true, Bool.not_false, bne_iff_ne, bne_eq_false_iff_eq, Int.toNat_natCast, Nat.mul_one, Nat.add_zero, Nat.zero_add, List.take_length, List.drop_zero] at h3)
            all_goals
              refine Tree.Sat.br (fun h4 => ?_) (fun h4 => ?_)
              · (try simp only [decide_eq_true_eq, decide_eq_false_iff_not, Bool.not_eq_true', Bool.not_eq_false', beq_iff_eq, beq_eq_false_iff_ne, Int.not_lt, Int.not_le, ge_iff_le, gt_iff_lt, ne_eq, Bool.false_eq_true, Bool.true_eq_false, not_true_eq_false, not_false_eq_true, Bool.and_eq_true, Bool.not_eq_eq_eq_not, Bool.not_true, Bool.not_false, bne_iff_ne, bne_eq_false_iff_eq, Int.toNat_natCast, Nat.mul_one, Nat.add_zero, Nat.zero_add, List.take_length, List.drop_zero] at h4)
                all_goals
                  refine Tree.Sat.br (fun h5 => ?_) (fun h5 => ?_)
                  · (try simp only [decide_eq_true_eq, decide_eq_false_iff_not, Bool.not_eq_true', Bool.not_eq_false', beq_iff_eq, beq_eq_false_iff_ne, Int.not_lt, Int.not_le, ge_iff_le, gt_iff_lt, ne_eq, Bool.false_eq_true, Bool.true_eq_false, not_true_eq_false, not_false_eq_true, Bool.and_eq_true, Bool.not_eq_eq_eq_not, Bool.not_true, Bool.not_false, bne_iff_ne, bne_eq_false_iff_eq, Int.toNat_natCast, Nat.mul_one, Nat.add_zero, Nat.zero_add, List.take_length, List.drop_zero] at h5)
                    all_goals
                      refine Tree.Sat.br (fun h6 => ?_) (fun h6 => ?_)
                      · (try simp only [decide_eq_true_eq, decide_eq_false_iff_not, Bool.not_eq_true', Bool.not_eq_false', beq_iff_eq, beq_eq_false_iff_ne, Int.not_lt, Int.not_le, ge_iff_le, gt_iff_lt, ne_eq, Bool.false_eq_true, Bool.true_eq_false, not_true_eq_false, not_false_eq_true, Bool.and_eq_true, Bool.not_eq_eq_eq_not, Bool.not_true, Bool.not_false, bne_iff_ne, bne_eq_false_iff_eq, Int.toNat_natCast, Nat.mul_one, Nat.add_zero, Nat.zero_add, List.take_length, List.drop_zero] at h6)
                        all_goals
                          refine Tree.Sat.br (fun h7 => ?_) (fun h7 => ?_)
                          · (try simp only [decide_eq_true_eq, decide_eq_false_iff_not, Bool.not_eq_true', Bool.not_eq_false', beq_iff_eq, beq_eq_false_iff_ne, Int.not_lt, Int.not_le, ge_iff_le, gt_iff_lt, ne_eq, Bool.false_eq_true, Bool.true_eq_false, not_true_eq_false, not_false_eq_true, Bool.and_eq_true, Bool.not_eq_eq_eq_not, Bool.not_true, Bool.not_false, bne_iff_ne, bne_eq_false_iff_eq, Int.toNat_natCast, Nat.mul_one, Nat.add_zero, Nat.zero_add, List.take_length, List.drop_zero] at h7)
                            all_goals
                              refine Tree.Sat.br (fun h8 => ?_) (fun h8 => ?_)
                              · (try simp only [decide_eq_true_eq, decide_eq_false_iff_not, Bool.not_eq_true', Bool.not_eq_false', beq_iff_eq, beq_eq_false_iff_ne, Int.not_lt, Int.not_le, ge_iff_le, gt_iff_lt, ne_eq, Bool.false_eq_true, Bool.true_eq_false, not_true_eq_false, not_false_eq_true, Bool.and_eq_true, Bool.not_eq_eq_eq_not, Bool.not_true, Bool.not_false, bne_iff_ne, bne_eq_false_iff_eq, Int.toNat_natCast, Nat.mul_one, Nat.add_zero, Nat.zero_add, List.take_length, List.drop_zero] at h8)
                                all_goals
                                  refine Tree.Sat.br (fun h9 => ?_) (fun h9 => ?_)
                                  · (try simp only [decide_eq_true_eq, decide_eq_false_iff_not, Bool.not_eq_true', Bool.not_eq_false', beq_iff_eq, beq_eq_false_iff_ne, Int.not_lt, Int.not_le, ge_iff_le, gt_iff_lt, ne_eq, Bool.false_eq_true, Bool.true_eq_false, not_true_eq_false, not_false_eq_true, Bool.and_eq_true, Bool.not_eq_eq_eq_not, Bool.not_true, Bool.not_false, bne_iff_ne, bne_eq_false_iff_eq, Int.toNat_natCast, Nat.mul_one, Nat.add_zero, Nat.zero_add, List.take_length, List.drop_zero] at h9)
                                    all_goals
                                      refine Tree.Sat.br (fun h10 => ?_) (fun h10 => ?_)
                                      · (try simp only [decide_eq_true_eq, decide_eq_false_iff_not, Bool.not_eq_true', Bool.not_eq_false', beq_iff_eq, beq_eq_false_iff_ne, Int.not_lt, Int.not_le, ge_iff_le, gt_iff_lt, ne_eq, Bool.false_eq_true, Bool.true_eq_false, not_true_eq_false, not_false_eq_true, Bool.and_eq_true, Bool.not_eq_eq_eq_not, Bool.not_true, Bool.not_false, bne_iff_ne, bne_eq_false_iff_eq, Int.toNat_natCast, Nat.mul_one, Nat.add_zero, Nat.zero_add, List.take_length, List.drop_zero] at h10)
                                        all_goals
                                          refine Tree.Sat.br (fun h11 => ?_) (fun h11 => ?_)
                                          · (try simp only [decide_eq_true_eq, decide_eq_false_iff_not, Bool.not_eq_true', Bool.not_eq_false', beq_iff_eq, beq_eq_false_iff_ne, Int.not_lt, Int.not_le, ge_iff_le, gt_iff_lt, ne_eq, Bool.false_eq_true, Bool.true_eq_false, not_true_eq_false, not_false_eq_true, Bool.and_eq_true, Bool.not_eq_eq_eq_not, Bool.not_true, Bool.not_false, bne_iff_ne, bne_eq_false_iff_eq, Int.toNat_natCast, Nat.mul_one, Nat.add_zero, Nat.zero_add, List.take_length, List.drop_zero] at h11)
                                            all_goals
                                              refine Tree.Sat.br (fun h12 => ?_) (fun h12 => ?_)
                                              · (try simp only [decide_eq_true_eq, decide_eq_false_iff_not, Bool.not_eq_true', Bool.not_eq_false', beq_iff_eq, beq_eq_false_iff_ne, Int.not_lt, Int.not_le, ge_iff_le, gt_iff_lt, ne_eq, Bool.false_eq_true, Bool.true_eq_false, not_true_eq_false, not_false_eq_true, Bool.and_eq_true, Bool.not_eq_eq_eq_not, Bool.not_true, Bool.not_false, bne_iff_ne, bne_eq_false_iff_eq, Int.toNat_natCast, Nat.mul_one, Nat.add_zero, Nat.zero_add, List.take_length, List.drop_zero] at h12)
                                                all_goals
                                                  refine Tree.Sat.ret ?_
                                                  exfalso
                                                  have hj2 := hj (by omega)
                                                  rw [if_pos ⟨by omega, by omega⟩] at hj2
                                                  have q0 : 0 ≤ words.getD i 0 / 2 ^ (16 - sumI widths % 16).toNat * 2 ^ (16 - sumI widths % 16).toNat := Int.mul_nonneg (Int.ediv_nonneg hj2.1.1 (by omega)) (by omega)
                                                  have q1 := Int.ediv_mul_le (words.getD i 0) (Int.ne_of_gt p16)
                                                  have ev : IntKind.i64.wrap (words.getD i 0 / 2 ^ (16 - sumI widths % 16).toNat * 2 ^ (16 - sumI widths % 16).toNat) = words.getD i 0 / 2 ^ (16 - sumI widths % 16).toNat * 2 ^ (16 - sumI widths % 16).toNat := by rw [w64]; omega
                                                  rw [ev] at h12
                                                  exact h12 hj2.2
                                              · (try simp only [decide_eq_true_eq, decide_eq_false_iff_not, Bool.not_eq_true', Bool.not_eq_false', beq_iff_eq, beq_eq_false_iff_ne, Int.not_lt, Int.not_le, ge_iff_le, gt_iff_lt, ne_eq, Bool.false_eq_true, Bool.true_eq_false, not_true_eq_false, not_false_eq_true, Bool.and_eq_true, Bool.not_eq_eq_eq_not, Bool.not_true, Bool.not_false, bne_iff_ne, bne_eq_false_iff_eq, Int.toNat_natCast, Nat.mul_one, Nat.add_zero, Nat.zero_add, List.take_length, List.drop_zero] at h12)
                                                all_goals
                                                  refine Tree.Sat.ret ?_
                                                  refine .norm ⟨widths, values, zwords, words, i + 1⟩ ?_ ?_ ⟨?_, ?_⟩
                                                  · constructor <;> simp only [hdPackFull_1, AV.leL, AV.le, Mem.le, Mem.leP, Blk.le, Blk.pad, Data.le, Data.size, Cap.le, and_true, true_and, and_self, true_implies, implies_true, imp_self, List.length_nil] <;> (repeat' with_reducible refine And.intro ?_ ?_) <;> (try simp only [Int.toNat_natCast, Nat.mul_one, Nat.add_zero, Nat.zero_add]) <;> first | exact wadd1 (by omega) | rfl
                                                  · simp only [muPackFull_1]; omega
                                                  · exact ⟨he, hw3, hx3, hz3, by omega⟩
                                                  · exact hr
                                          · (try simp only [decide_eq_true_eq, decide_eq_false_iff_not, Bool.not_eq_true', Bool.not_eq_false', beq_iff_eq, beq_eq_false_iff_ne, Int.not_lt, Int.not_le, ge_iff_le, gt_iff_lt, ne_eq, Bool.false_eq_true, Bool.true_eq_false, not_true_eq_false, not_false_eq_true, Bool.and_eq_true, Bool.not_eq_eq_eq_not, Bool.not_true, Bool.not_false, bne_iff_ne, bne_eq_false_iff_eq, Int.toNat_natCast, Nat.mul_one, Nat.add_zero, Nat.zero_add, List.take_length, List.drop_zero] at h11)
                                            all_goals
                                              exfalso
                                              first | omega | (have h9' := hne (by omega); clear hr hj; simp_all; done) | (have h9' := hne (by omega); clear hr hj; simp_all; omega) | (clear hr hj; cases zwords <;> simp_all; done) | (clear hr hj; cases zwords <;> simp_all <;> omega)
                                      · (try simp only [decide_eq_true_eq, decide_eq_false_iff_not, Bool.not_eq_true', Bool.not_eq_false', beq_iff_eq, beq_eq_false_iff_ne, Int.not_lt, Int.not_le, ge_iff_le, gt_iff_lt, ne_eq, Bool.false_eq_true, Bool.true_eq_false, not_true_eq_false, not_false_eq_true, Bool.and_eq_true, Bool.not_eq_eq_eq_not, Bool.not_true, Bool.not_false, bne_iff_ne, bne_eq_false_iff_eq, Int.toNat_natCast, Nat.mul_one, Nat.add_zero, Nat.zero_add, List.take_length, List.drop_zero] at h10)
                                        all_goals
                                          exfalso
                                          first | omega | (have h9' := hne (by omega); clear hr hj; simp_all; done) | (have h9' := hne (by omega); clear hr hj; simp_all; omega) | (clear hr hj; cases zwords <;> simp_all; done) | (clear hr hj; cases zwords <;> simp_all <;> omega)
                                  · (try simp only [decide_eq_true_eq, decide_eq_false_iff_not, Bool.not_eq_true', Bool.not_eq_false', beq_iff_eq, beq_eq_false_iff_ne, Int.not_lt, Int.not_le, ge_iff_le, gt_iff_lt, ne_eq, Bool.false_eq_true, Bool.true_eq_false, not_true_eq_false, not_false_eq_true, Bool.and_eq_true, Bool.not_eq_eq_eq_not, Bool.not_true, Bool.not_false, bne_iff_ne, bne_eq_false_iff_eq, Int.toNat_natCast, Nat.mul_one, Nat.add_zero, Nat.zero_add, List.take_length, List.drop_zero] at h9)
                                    all_goals
                                      exfalso
                                      first | omega | (have h9' := hne (by omega); clear hr hj; simp_all; done) | (have h9' := hne (by omega); clear hr hj; simp_all; omega) | (clear hr hj; cases zwords <;> simp_all; done) | (clear hr hj; cases zwords <;> simp_all <;> omega)
                              · (try simp only [decide_eq_true_eq, decide_eq_false_iff_not, Bool.not_eq_true', Bool.not_eq_false', beq_iff_eq, beq_eq_false_iff_ne, Int.not_lt, Int.not_le, ge_iff_le, gt_iff_lt, ne_eq, Bool.false_eq_true, Bool.true_eq_false, not_true_eq_false, not_false_eq_true, Bool.and_eq_true, Bool.not_eq_eq_eq_not, Bool.not_true, Bool.not_false, bne_iff_ne, bne_eq_false_iff_eq, Int.toNat_natCast, Nat.mul_one, Nat.add_zero, Nat.zero_add, List.take_length, List.drop_zero] at h8)
                                all_goals
                                  exfalso
                                  first | omega | (have h9' := hne (by omega); clear hr hj; simp_all; done) | (have h9' := hne (by omega); clear hr hj; simp_all; omega) | (clear hr hj; cases zwords <;> simp_all; done) | (clear hr hj; cases zwords <;> simp_all <;> omega)
                          · (try simp only [decide_eq_true_eq, decide_eq_false_iff_not, Bool.not_eq_true', Bool.not_eq_false', beq_iff_eq, beq_eq_false_iff_ne, Int.not_lt, Int.not_le, ge_iff_le, gt_iff_lt, ne_eq, Bool.false_eq_true, Bool.true_eq_false, not_true_eq_false, not_false_eq_true, Bool.and_eq_true, Bool.not_eq_eq_eq_not, Bool.not_true, Bool.not_false, bne_iff_ne, bne_eq_false_iff_eq, Int.toNat_natCast, Nat.mul_one, Nat.add_zero, Nat.zero_add, List.take_length, List.drop_zero] at h7)
                            all_goals
                              exfalso
                              first | omega | (have h9' := hne (by omega); clear hr hj; simp_all; done) | (have h9' := hne (by omega); clear hr hj; simp_all; omega) | (clear hr hj; cases zwords <;> simp_all; done) | (clear hr hj; cases zwords <;> simp_all <;> omega)
                      · (try simp only [decide_eq_true_eq, decide_eq_false_iff_not, Bool.not_eq_true', Bool.not_eq_false', beq_iff_eq, beq_eq_false_iff_ne, Int.not_lt, Int.not_le, ge_iff_le, gt_iff_lt, ne_eq, Bool.false_eq_true, Bool.true_eq_false, not_true_eq_false, not_false_eq_true, Bool.and_eq_true, Bool.not_eq_eq_eq_not, Bool.not_true, Bool.not_false, bne_iff_ne, bne_eq_false_iff_eq, Int.toNat_natCast, Nat.mul_one, Nat.add_zero, Nat.zero_add, List.take_length, List.drop_zero] at h6)
                        all_goals
                          refine Tree.Sat.br (fun h7 => ?_) (fun h7 => ?_)
                          · (try simp only [decide_eq_true_eq, decide_eq_false_iff_not, Bool.not_eq_true', Bool.not_eq_false', beq_iff_eq, beq_eq_false_iff_ne, Int.not_lt, Int.not_le, ge_iff_le, gt_iff_lt, ne_eq, Bool.false_eq_true, Bool.true_eq_false, not_true_eq_false, not_false_eq_true, Bool.and_eq_true, Bool.not_eq_eq_eq_not, Bool.not_true, Bool.not_false, bne_iff_ne, bne_eq_false_iff_eq, Int.toNat_natCast, Nat.mul_one, Nat.add_zero, Nat.zero_add, List.take_length, List.drop_zero] at h7)
                            all_goals
                              refine Tree.Sat.br (fun h8 => ?_) (fun h8 => ?_)
                              · (try simp only [decide_eq_true_eq, decide_eq_false_iff_not, Bool.not_eq_true', Bool.not_eq_false', beq_iff_eq, beq_eq_false_iff_ne, Int.not_lt, Int.not_le, ge_iff_le, gt_iff_lt, ne_eq, Bool.false_eq_true, Bool.true_eq_false, not_true_eq_false, not_false_eq_true, Bool.and_eq_true, Bool.not_eq_eq_eq_not, Bool.not_true, Bool.not_false, bne_iff_ne, bne_eq_false_iff_eq, Int.toNat_natCast, Nat.mul_one, Nat.add_zero, Nat.zero_add, List.take_length, List.drop_zero] at h8)
                                all_goals
                                  refine Tree.Sat.br (fun h9 => ?_) (fun h9 => ?_)
                                  · (try simp only [decide_eq_true_eq, decide_eq_false_iff_not, Bool.not_eq_true', Bool.not_eq_false', beq_iff_eq, beq_eq_false_iff_ne, Int.not_lt, Int.not_le, ge_iff_le, gt_iff_lt, ne_eq, Bool.false_eq_true, Bool.true_eq_false, not_true_eq_false, not_false_eq_true, Bool.and_eq_true, Bool.not_eq_eq_eq_not, Bool.not_true, Bool.not_false, bne_iff_ne, bne_eq_false_iff_eq, Int.toNat_natCast, Nat.mul_one, Nat.add_zero, Nat.zero_add, List.take_length, List.drop_zero] at h9)
                                    all_goals
                                      refine Tree.Sat.ret ?_
                                      exfalso
                                      have hj2 := hj (by omega)
                                      rw [if_neg (by omega)] at hj2
                                      exact h9 hj2.2
                                  · (try simp only [decide_eq_true_eq, decide_eq_false_iff_not, Bool.not_eq_true', Bool.not_eq_false', beq_iff_eq, beq_eq_false_iff_ne, Int.not_lt, Int.not_le, ge_iff_le, gt_iff_lt, ne_eq, Bool.false_eq_true, Bool.true_eq_false, not_true_eq_false, not_false_eq_true, Bool.and_eq_true, Bool.not_eq_eq_eq_not, Bool.not_true, Bool.not_false, bne_iff_ne, bne_eq_false_iff_eq, Int.toNat_natCast, Nat.mul_one, Nat.add_zero, Nat.zero_add, List.take_length, List.drop_zero] at h9)
                                    all_goals
                                      refine Tree.Sat.ret ?_
                                      refine .norm ⟨widths, values, zwords, words, i + 1⟩ ?_ ?_ ⟨?_, ?_⟩
                                      · constructor <;> simp only [hdPackFull_1, AV.leL, AV.le, Mem.le, Mem.leP, Blk.le, Blk.pad, Data.le, Data.size, Cap.le, and_true, true_and, and_self, true_implies, implies_true, imp_self, List.length_nil] <;> (repeat' with_reducible refine And.intro ?_ ?_) <;> (try simp only [Int.toNat_natCast, Nat.mul_one, Nat.add_zero, Nat.zero_add]) <;> first | exact wadd1 (by omega) | rfl
                                      · simp only [muPackFull_1]; omega
                                      · exact ⟨he, hw3, hx3, hz3, by omega⟩
                                      · exact hr
                              · (try simp only [decide_eq_true_eq, decide_eq_false_iff_not, Bool.not_eq_true', Bool.not_eq_false', beq_iff_eq, beq_eq_false_iff_ne, Int.not_lt, Int.not_le, ge_iff_le, gt_iff_lt, ne_eq, Bool.false_eq_true, Bool.true_eq_false, not_true_eq_false, not_false_eq_true, Bool.and_eq_true, Bool.not_eq_eq_eq_not, Bool.not_true, Bool.not_false, bne_iff_ne, bne_eq_false_iff_eq, Int.toNat_natCast, Nat.mul_one, Nat.add_zero, Nat.zero_add, List.take_length, List.drop_zero] at h8)
                                all_goals
                                  exfalso
                                  first | omega | (have h9' := hne (by omega); clear hr hj; simp_all; done) | (have h9' := hne (by omega); clear hr hj; simp_all; omega) | (clear hr hj; cases zwords <;> simp_all; done) | (clear hr hj; cases zwords <;> simp_all <;> omega)
                          · (try simp only [decide_eq_true_eq, decide_eq_false_iff_not, Bool.not_eq_true', Bool.not_eq_false', beq_iff_eq, beq_eq_false_iff_ne, Int.not_lt, Int.not_le, ge_iff_le, gt_iff_lt, ne_eq, Bool.false_eq_true, Bool.true_eq_false, not_true_eq_false, not_false_eq_true, Bool.and_eq_true, Bool.not_eq_eq_eq_not, Bool.not_true, Bool.not_false, bne_iff_ne, bne_eq_false_iff_eq, Int.toNat_natCast, Nat.mul_one, Nat.add_zero, Nat.zero_add, List.take_length, List.drop_zero] at h7)
                            all_goals
                              exfalso
                              first | omega | (have h9' := hne (by omega); clear hr hj; simp_all; done) | (have h9' := hne (by omega); clear hr hj; simp_all; omega) | (clear hr hj; cases zwords <;> simp_all; done) | (clear hr hj; cases zwords <;> simp_all <;> omega)
                  · (try simp only [decide_eq_true_eq, decide_eq_false_iff_not, Bool.not_eq_true', Bool.not_eq_false', beq_iff_eq, beq_eq_false_iff_ne, Int.not_lt, Int.not_le, ge_iff_le, gt_iff_lt, ne_eq, Bool.false_eq_true, Bool.true_eq_false, not_true_eq_false, not_false_eq_true, Bool.and_eq_true, Bool.not_eq_eq_eq_not, Bool.not_true, Bool.not_false, bne_iff_ne, bne_eq_false_iff_eq, Int.toNat_natCast, Nat.mul_one, Nat.add_zero, Nat.zero_add, List.take_length, List.drop_zero] at h5)
                    all_goals
                      exfalso
                      first | omega | (have h9' := hne (by omega); clear hr hj; simp_all; done) | (have h9' := hne (by omega); clear hr hj; simp_all; omega) | (clear hr hj; cases zwords <;> simp_all; done) | (clear hr hj; cases zwords <;> simp_all <;> omega)
              · (try simp only [decide_eq_true_eq, decide_eq_false_iff_not, Bool.not_eq_true', Bool.not_eq_false', beq_iff_eq, beq_eq_false_iff_ne, Int.not_lt, Int.not_le, ge_iff_le, gt_iff_lt, ne_eq, Bool.false_eq_true, Bool.true_eq_false, not_true_eq_false, not_false_eq_true, Bool.and_eq_true, Bool.not_eq_eq_eq_not, Bool.not_true, Bool.not_false, bne_iff_ne, bne_eq_false_iff_eq, Int.toNat_natCast, Nat.mul_one, Nat.add_zero, Nat.zero_add, List.take_length, List.drop_zero] at h4)
                all_goals
                  refine Tree.Sat.br (fun h5 => ?_) (fun h5 => ?_)
                  · (try simp only [decide_eq_true_eq, decide_eq_false_iff_not, Bool.not_eq_true', Bool.not_eq_false', beq_iff_eq, beq_eq_false_iff_ne, Int.not_lt, Int.not_le, ge_iff_le, gt_iff_lt, ne_eq, Bool.false_eq_true, Bool.true_eq_false, not_true_eq_false, not_false_eq_true, Bool.and_eq_true, Bool.not_eq_eq_eq_not, Bool.not_true, Bool.not_false, bne_iff_ne, bne_eq_false_iff_eq, Int.toNat_natCast, Nat.mul_one, Nat.add_zero, Nat.zero_add, List.take_length, List.drop_zero] at h5)
                    all_goals
                      refine Tree.Sat.br (fun h6 => ?_) (fun h6 => ?_)
                      · (try simp only [decide_eq_true_eq, decide_eq_false_iff_not, Bool.not_eq_true', Bool.not_eq_false', beq_iff_eq, beq_eq_false_iff_ne, Int.not_lt, Int.not_le, ge_iff_le, gt_iff_lt, ne_eq, Bool.false_eq_true, Bool.true_eq_false, not_true_eq_false, not_false_eq_true, Bool.and_eq_true, Bool.not_eq_eq_eq_not, Bool.not_true, Bool.not_false, bne_iff_ne, bne_eq_false_iff_eq, Int.toNat_natCast, Nat.mul_one, Nat.add_zero, Nat.zero_add, List.take_length, List.drop_zero] at h6)
                        all_goals
                          refine Tree.Sat.br (fun h7 => ?_) (fun h7 => ?_)
                          · (try simp only [decide_eq_true_eq, decide_eq_false_iff_not, Bool.not_eq_true', Bool.not_eq_false', beq_iff_eq, beq_eq_false_iff_ne, Int.not_lt, Int.not_le, ge_iff_le, gt_iff_lt, ne_eq, Bool.false_eq_true, Bool.true_eq_false, not_true_eq_false, not_false_eq_true, Bool.and_eq_true, Bool.not_eq_eq_eq_not, Bool.not_true, Bool.not_false, bne_iff_ne, bne_eq_false_iff_eq, Int.toNat_natCast, Nat.mul_one, Nat.add_zero, Nat.zero_add, List.take_length, List.drop_zero] at h7)
                            all_goals
                              refine Tree.Sat.ret ?_
                              exfalso
                              have hj2 := hj (by omega)
                              rw [if_neg (by omega)] at hj2
                              exact h7 hj2.2
                          · (try simp only [decide_eq_true_eq, decide_eq_false_iff_not, Bool.not_eq_true', Bool.not_eq_false', beq_iff_eq, beq_eq_false_iff_ne, Int.not_lt, Int.not_le, ge_iff_le, gt_iff_lt, ne_eq, Bool.false_eq_true, Bool.true_eq_false, not_true_eq_false, not_false_eq_true, Bool.and_eq_true, Bool.not_eq_eq_eq_not, Bool.not_true, Bool.not_false, bne_iff_ne, bne_eq_false_iff_eq, Int.toNat_natCast, Nat.mul_one, Nat.add_zero, Nat.zero_add, List.take_length, List.drop_zero] at h7)
                            all_goals
                              refine Tree.Sat.ret ?_
                              refine .norm ⟨widths, values, zwords, words, i + 1⟩ ?_ ?_ ⟨?_, ?_⟩
                              · constructor <;> simp only [hdPackFull_1, AV.leL, AV.le, Mem.le, Mem.leP, Blk.le, Blk.pad, Data.le, Data.size, Cap.le, and_true, true_and, and_self, true_implies, implies_true, imp_self, List.length_nil] <;> (repeat' with_reducible refine And.intro ?_ ?_) <;> (try simp only [Int.toNat_natCast, Nat.mul_one, Nat.add_zero, Nat.zero_add]) <;> first | exact wadd1 (by omega) | rfl
                              · simp only [muPackFull_1]; omega
                              · exact ⟨he, hw3, hx3, hz3, by omega⟩
                              · exact hr
                      · (try simp only [decide_eq_true_eq, decide_eq_false_iff_not, Bool.not_eq_true', Bool.not_eq_false', beq_iff_eq, beq_eq_false_iff_ne, Int.not_lt, Int.not_le, ge_iff_le, gt_iff_lt, ne_eq, Bool.false_eq_true, Bool.true_eq_false, not_true_eq_false, not_false_eq_true, Bool.and_eq_true, Bool.not_eq_eq_eq_not, Bool.not_true, Bool.not_false, bne_iff_ne, bne_eq_false_iff_eq, Int.toNat_natCast, Nat.mul_one, Nat.add_zero, Nat.zero_add, List.take_length, List.drop_zero] at h6)
                        all_goals
                          exfalso
                          first | omega | (have h9' := hne (by omega); clear hr hj; simp_all; done) | (have h9' := hne (by omega); clear hr hj; simp_all; omega) | (clear hr hj; cases zwords <;> simp_all; done) | (clear hr hj; cases zwords <;> simp_all <;> omega)
                  · (try simp only [decide_eq_true_eq, decide_eq_false_iff_not, Bool.not_eq_true', Bool.not_eq_false', beq_iff_eq, beq_eq_false_iff_ne, Int.not_lt, Int.not_le, ge_iff_le, gt_iff_lt, ne_eq, Bool.false_eq_true, Bool.true_eq_false, not_true_eq_false, not_false_eq_true, Bool.and_eq_true, Bool.not_eq_eq_eq_not, Bool.not_true, Bool.not_false, bne_iff_ne, bne_eq_false_iff_eq, Int.toNat_natCast, Nat.mul_one, Nat.add_zero, Nat.zero_add, List.take_length, List.drop_zero] at h5)
                    all_goals
                      exfalso
                      first | omega | (have h9' := hne (by omega); clear hr hj; simp_all; done) | (have h9' := hne (by omega); clear hr hj; simp_all; omega) | (clear hr hj; cases zwords <;> simp_all; done) | (clear hr hj; cases zwords <;> simp_all <;> omega)
          · (try simp only [decide_eq_true_eq, decide_eq_false_iff_not, Bool.not_eq_true', Bool.not_eq_false', beq_iff_eq, beq_eq_false_iff_ne, Int.not_lt, Int.not_le, ge_iff_le, gt_iff_lt, ne_eq, Bool.false_eq_true, Bool.true_eq_false, not_true_eq_false, not_false_eq_true, Bool.and_eq_true, Bool.not_eq_eq_eq_not, Bool.not_true, Bool.not_false, bne_iff_ne, bne_eq_false_iff_eq, Int.toNat_natCast, Nat.mul_one, Nat.add_zero, Nat.zero_add, List.take_length, List.drop_zero] at h3)
            all_goals
              exfalso
              first | omega | (have h9' := hne (by omega); clear hr hj; simp_all; done) | (have h9' := hne (by omega); clear hr hj; simp_all; omega) | (clear hr hj; cases zwords <;> simp_all; done) | (clear hr hj; cases zwords <;> simp_all <;> omega)
      · (try simp only [decide_eq_true_eq, decide_eq_false_iff_not, Bool.not_eq_true', Bool.not_eq_false', beq_iff_eq, beq_eq_false_iff_ne, Int.not_lt, Int.not_le, ge_iff_le, gt_iff_lt, ne_eq, Bool.false_eq_true, Bool.true_eq_false, not_true_eq_false, not_false_eq_true, Bool.and_eq_true, Bool.not_eq_eq_eq_not, Bool.not_true, Bool.not_false, bne_iff_ne, bne_eq_false_iff_eq, Int.toNat_natCast, Nat.mul_one, Nat.add_zero, Nat.zero_add, List.take_length, List.drop_zero] at h2)
        all_goals
          exfalso
          first | omega | (have h9' := hne (by omega); clear hr hj; simp_all; done) | (have h9' := hne (by omega); clear hr hj; simp_all; omega) | (clear hr hj; cases zwords <;> simp_all; done) | (clear hr hj; cases zwords <;> simp_all <;> omega)
  · (try simp only [decide_eq_true_eq, decide_eq_false_iff_not, Bool.not_eq_true', Bool.not_eq_false', beq_iff_eq, beq_eq_false_iff_ne, Int.not_lt, Int.not_le, ge_iff_le, gt_iff_lt, ne_eq, Bool.false_eq_true, Bool.true_eq_false, not_true_eq_false, not_false_eq_true, Bool.and_eq_true, Bool.not_eq_eq_eq_not, Bool.not_true, Bool.not_false, bne_iff_ne, bne_eq_false_iff_eq, Int.toNat_natCast, Nat.mul_one, Nat.add_zero, Nat.zero_add, List.take_length, List.drop_zero] at h1)
    all_goals
      refine Tree.Sat.ret ?_
      have hq := hr
      simp only [Prod.mk.injEq] at hq
      obtain ⟨rfl, rfl⟩ := hq
      refine .exit rfl ?_
      constructor <;> simp only [AV.leL, AV.le, Mem.le, Mem.leP, Blk.le, Blk.pad, Data.le, Data.size, Cap.le, and_true, true_and, and_self, true_implies, implies_true, imp_self, List.length_nil] <;> (repeat' with_reducible refine And.intro ?_ ?_) <;> (try simp only [Int.toNat_natCast, Nat.mul_one, Nat.add_zero, Nat.zero_add]) <;> done
set_option maxHeartbeats 2000000 in
set_option maxRecDepth 100000 in
theorem loopPackFull_1 (hall : AllOk Try.prog 0 (fun _ => none) tab19) : LoopOk (mkL Try.prog 0 (fun _ => none) tab19 rowsPackFull) 8 3 (bodyAt Try.prog 8 1) := by
  have hkey : Code.key (bodyAt Try.prog 8 1) = 23 := by kernel_rfl
  have hin : loopsIn (bodyAt Try.prog 8 1) = [] := by kernel_rfl
  have hrow : lookL rowsPackFull 8 (Code.key (bodyAt Try.prog 8 1)) = some rowPackFull_1 := by rw [hkey]; rfl
  refine loop_rowP (X := XPackFull_1) (row := rowPackFull_1) hall mix hrow (fun b hb _ => by rw [hin] at hb; cases hb) UPackFull_1 hdPackFull_1 resPackFull_1 muPackFull_1 (fun st ex r h => ?_) (fun x ex r hr => ?_)
  · have h' : (ansPackFull_1 st).runs (ex, r) := h
    unfold ansPackFull_1 at h'
    split at h'
    · obtain ⟨q1, q2⟩ := Tree.chk_runs h'
      exact ⟨_, q1, q2⟩
    · exact h'.elim
  · obtain ⟨widths, values, zwords, words, i⟩ := x
    have := stepPackFull_1 widths values zwords words i ex r hr.1 hr.2
    rw [← tLPackFull_1] at this
    (try rw [show rowPackFull_1.tidy = TPackFull_1 from rfl])
    exact this
set_option maxRecDepth 100000 in
theorem tLPackFull_0 (zwidths : Bool) (widths : List Int) (values : List Int) (zwords : Bool) (words : List Int) (i : Nat) : tidied TPackFull_0 UPackFull_0 3 (evCode (mkL Try.prog 0 (fun _ => none) tab19 rowsPackFull) (evCall (mkC Try.prog 0 (fun _ => none) tab19) 50) 8 3 fuelC (bodyAt Try.prog 8 0) (hdPackFull_0 ⟨zwidths, widths, values, zwords, words, i⟩)) =
  Tree.br (decide ((i : Int) < ((List.length widths) : Int)))
  (Tree.br (!zwidths && decide ((0 : Int) ≤ (i : Int) ∧ (i : Int) < ((List.length widths) : Int)))
  (Tree.br (decide (Int.toNat (i : Int) * 1 + 0 + 1 ≤ List.length widths))
  (Tree.ret
  (Ex.norm,
  St.mk
  [AV.sl zwidths (Ref.mk (0) (0) (0) (0)) false (List.length widths) Cap.any, jk,
  AV.sl zwords (Ref.mk (2) (0) (0) (0)) false (List.length words) Cap.any, jk, jk, jk, jk, jk, jk, jk, jk, jk, jk,
  AV.sl (decide (fieldsL widths (splitL widths words) = [])) (Ref.mk (3) (0) (0) (0)) false (List.length (fieldsL widths (splitL widths words))) Cap.own,
  AV.int IntKind.i64 false (fieldsE widths (splitL widths words)), AV.int IntKind.i64 false (sizeZ widths),
  AV.int IntKind.i64 false (IntKind.wrap IntKind.i64 (sumI (List.take i widths) + List.getD widths (Int.toNat (i : Int) * 1 + 0 + 0) (0 : Int))),
  AV.int IntKind.i64 false (IntKind.wrap IntKind.i64 ((i : Int) + (1 : Int))), jk, jk, jk, jk, jk, jk, jk, jk, jk, jk, jk, jk, jk, jk, jk, jk, jk,
  jk, jk, jk, jk, jk, jk, jk, jk, jk, jk, jk, jk, jk, jk, jk, jk, jk, jk, jk, jk, jk, jk, jk, jk, jk,
  jk, jk, jk, jk, jk, jk, jk, jk, jk, jk, jk, jk, jk, jk, jk, jk, jk, jk, jk, jk, jk, jk, jk, jk, jk,
  jk, jk, jk, jk, jk, jk, jk, jk, jk, jk, jk, jk, jk, jk, jk, jk, jk, jk, jk, jk, jk, jk, jk, jk, jk,
  jk, jk, jk, jk, jk, jk, jk, jk, jk, jk, jk, jk, jk, jk, jk, jk, jk, jk, jk, jk, jk, jk, jk, jk, jk,
  jk, jk, jk, jk]
  [some (Blk.mk (3) false false true (Data.ints IntKind.i64 widths)), some (Blk.mk (3) false false true (Data.ints IntKind.i64 values)),
  some (Blk.mk (3) false false true (Data.ints IntKind.i64 words)),
  some
  (Blk.mk (3) true (decide ((fieldsL widths (splitL widths words)) = [])) true
  (Data.ints IntKind.i64 (fieldsL widths (splitL widths words))))]))
  Tree.fail)
  Tree.fail)
  (Tree.ret
  (Ex.exit (0),
  St.mk
  [jk, jk, AV.sl zwords (Ref.mk (2) (0) (0) (0)) false (List.length words) Cap.any, jk, jk, jk, jk, jk, jk, jk, jk, jk, jk,
  AV.sl (decide (fieldsL widths (splitL widths words) = [])) (Ref.mk (3) (0) (0) (0)) false (List.length (fieldsL widths (splitL widths words))) Cap.own,
  AV.int IntKind.i64 false (fieldsE widths (splitL widths words)), AV.int IntKind.i64 false (sizeZ widths), AV.int IntKind.i64 false (sumI (List.take i widths)), jk, jk, jk, jk, jk,
  jk, jk, jk, jk, jk, jk, jk, jk, jk, jk, jk, jk, jk, jk, jk, jk, jk, jk, jk, jk, jk, jk, jk, jk, jk,
  jk, jk, jk, jk, jk, jk, jk, jk, jk, jk, jk, jk, jk, jk, jk, jk, jk, jk, jk, jk, jk, jk, jk, jk, jk,
  jk, jk, jk, jk, jk, jk, jk, jk, jk, jk, jk, jk, jk, jk, jk, jk, jk, jk, jk, jk, jk, jk, jk, jk, jk,
  jk, jk, jk, jk, jk, jk, jk, jk, jk, jk, jk, jk, jk, jk, jk, jk, jk, jk, jk, jk, jk, jk, jk, jk, jk,
  jk, jk, jk, jk, jk, jk, jk, jk, jk, jk, jk, jk, jk, jk, jk, jk, jk]
  [some (Blk.mk (3) false false true (Data.ints IntKind.i64 widths)), some (Blk.mk (3) false false true (Data.ints IntKind.i64 values)),
  some (Blk.mk (3) false false true (Data.ints IntKind.i64 words)),
  some
  (Blk.mk (3) true (decide ((fieldsL widths (splitL widths words)) = [])) true (Data.ints IntKind.i64 (fieldsL widths (splitL widths words))))])) := by kernel_rfl
set_option maxRecDepth 100000 in
theorem stepPackFull_0 (zwidths : Bool) (widths : List Int) (values : List Int) (zwords : Bool) (words : List Int) (i : Nat) (ex : Ex) (r : St) (hok : okPackFull_0 ⟨zwidths, widths, values, zwords, words, i⟩) (hr : (outPackFull_0 ⟨zwidths, widths, values, zwords, words, i⟩).runs (ex, r)) : (Tree.br (decide ((i : Int) < ((List.length widths) : Int)))
  (Tree.br (!zwidths && decide ((0 : Int) ≤ (i : Int) ∧ (i : Int) < ((List.length widths) : Int)))
  (Tree.br (decide (Int.toNat (i : Int) * 1 + 0 + 1 ≤ List.length widths))
  (Tree.ret
  (Ex.norm,
  St.mk
  [AV.sl zwidths (Ref.mk (0) (0) (0) (0)) false (List.length widths) Cap.any, jk,
  AV.sl zwords (Ref.mk (2) (0) (0) (0)) false (List.length words) Cap.any, jk, jk, jk, jk, jk, jk, jk, jk, jk, jk,
  AV.sl (decide (fieldsL widths (splitL widths words) = [])) (Ref.mk (3) (0) (0) (0)) false (List.length (fieldsL widths (splitL widths words))) Cap.own,
  AV.int IntKind.i64 false (fieldsE widths (splitL widths words)), AV.int IntKind.i64 false (sizeZ widths),
  AV.int IntKind.i64 false (IntKind.wrap IntKind.i64 (sumI (List.take i widths) + List.getD widths (Int.toNat (i : Int) * 1 + 0 + 0) (0 : Int))),
  AV.int IntKind.i64 false (IntKind.wrap IntKind.i64 ((i : Int) + (1 : Int))), jk, jk, jk, jk, jk, jk, jk, jk, jk, jk, jk, jk, jk, jk, jk, jk, jk,
  jk, jk, jk, jk, jk, jk, jk, jk, jk, jk, jk, jk, jk, jk, jk, jk, jk, jk, jk, jk, jk, jk, jk, jk, jk,
  jk, jk, jk, jk, jk, jk, jk, jk, jk, jk, jk, jk, jk, jk, jk, jk, jk, jk, jk, jk, jk, jk, jk, jk, jk,
  jk, jk, jk, jk, jk, jk, jk, jk, jk, jk, jk, jk, jk, jk, jk, jk, jk, jk, jk, jk, jk, jk, jk, jk, jk,
  jk, jk, jk, jk, jk, jk, jk, jk, jk, jk, jk, jk, jk, jk, jk, jk, jk, jk, jk, jk, jk, jk, jk, jk, jk,
  jk, jk, jk, jk]
  [some (Blk.mk (3) false false true (Data.ints IntKind.i64 widths)), some (Blk.mk (3) false false true (Data.ints IntKind.i64 values)),
  some (Blk.mk (3) false false true (Data.ints IntKind.i64 words)),
  some
  (Blk.mk (3) true (decide ((fieldsL widths (splitL widths words)) = [])) true
  (Data.ints IntKind.i64 (fieldsL widths (splitL widths words))))]))
  Tree.fail)
  Tree.fail)
  (Tree.ret
  (Ex.exit (0),
  St.mk
  [jk, jk, AV.sl zwords (Ref.mk (2) (0) (0) (0)) false (List.length words) Cap.any, jk, jk, jk, jk, jk, jk, jk, jk, jk, jk,
  AV.sl (decide (fieldsL widths (splitL widths words) = [])) (Ref.mk (3) (0) (0) (0)) false (List.length (fieldsL widths (splitL widths words))) Cap.own,
  AV.int IntKind.i64 false (fieldsE widths (splitL widths words)), AV.int IntKind.i64 false (sizeZ widths), AV.int IntKind.i64 false (sumI (List.take i widths)), jk, jk, jk, jk, jk,
  jk, jk, jk, jk, jk, jk, jk, jk, jk, jk, jk, jk, jk, jk, jk, jk, jk, jk, jk, jk, jk, jk, jk, jk, jk,
  jk, jk, jk, jk, jk, jk, jk, jk, jk, jk, jk, jk, jk, jk, jk, jk, jk, jk, jk, jk, jk, jk, jk, jk, jk,
  jk, jk, jk, jk, jk, jk, jk, jk, jk, jk, jk, jk, jk, jk, jk, jk, jk, jk, jk, jk, jk, jk, jk, jk, jk,
  jk, jk, jk, jk, jk, jk, jk, jk, jk, jk, jk, jk, jk, jk, jk, jk, jk, jk, jk, jk, jk, jk, jk, jk, jk,
  jk, jk, jk, jk, jk, jk, jk, jk, jk, jk, jk, jk, jk, jk, jk, jk, jk]
  [some (Blk.mk (3) false false true (Data.ints IntKind.i64 widths)), some (Blk.mk (3) false false true (Data.ints IntKind.i64 values)),
  some (Blk.mk (3) false false true (Data.ints IntKind.i64 words)),
  some
  (Blk.mk (3) true (decide ((fieldsL widths (splitL widths words)) = [])) true (Data.ints IntKind.i64 (fieldsL widths (splitL widths words))))])) : Tree (Ex × St)).Sat (Post hdPackFull_0 resPackFull_0 muPackFull_0 ⟨zwidths, widths, values, zwords, words, i⟩ ex r) := by
  simp only [okPackFull_0, outPackFull_0, Tree.runs] at hok hr
  obtain ⟨he, hw3, hx3, hz1, hz3, hi⟩ := hok
  have gp := got_put he
  have hbv := (may_ok gp.1).2
  have hg := fun h => badV_get (i := i) hbv h
  have sq := sumN_eq (widths.take i) (any_take_no hbv i)
  rw [List.length_take] at sq
  simp only [Int.toNat_natCast, Nat.mul_one, Nat.add_zero]
  refine Tree.Sat.br (fun h1 => ?_) (fun h1 => ?_)
  · (try simp only [decide_eq_true_eq, decide_eq_false_iff_not, Bool.not_eq_true', Bool.not_eq_false', beq_iff_eq, beq_eq_false_iff_ne, Int.not_lt, Int.not_le, ge_iff_le, gt_iff_lt, ne_eq, Bool.false_eq_true, Bool.true_eq_false, not_true_eq_false, not_false_eq_true, Bool.and_eq_true, Bool.not_eq_eq_eq_not, Bool.not_true, Bool.not_false, bne_iff_ne, bne_eq_false_iff_eq, Int.toNat_natCast, Nat.mul_one, Nat.add_zero, Nat.zero_add, List.take_length, List.drop_zero] at h1)
    all_goals
      refine Tree.Sat.br (fun h2 => ?_) (fun h2 => ?_)
      · (try simp only [decide_eq_true_eq, decide_eq_false_iff_not, Bool.not_eq_true', Bool.not_eq_false', beq_iff_eq, beq_eq_false_iff_ne, Int.not_lt, Int.not_le, ge_iff_le, gt_iff_lt, ne_eq, Bool.false_eq_true, Bool.true_eq_false, not_true_eq_false, not_false_eq_true, Bool.and_eq_true, Bool.not_eq_eq_eq_not, Bool.not_true, Bool.not_false, bne_iff_ne, bne_eq_false_iff_eq, Int.toNat_natCast, Nat.mul_one, Nat.add_zero, Nat.zero_add, List.take_length, List.drop_zero] at h2)
        all_goals
          refine Tree.Sat.br (fun h3 => ?_) (fun h3 => ?_)
          · (try simp only [decide_eq_true_eq, decide_eq_false_iff_not, Bool.not_eq_true', Bool.not_eq_false', beq_iff_eq, beq_eq_false_iff_ne, Int.not_lt, Int.not_le, ge_iff_le, gt_iff_lt, ne_eq, Bool.false_eq_true, Bool.true_eq_false, not_true_eq_false, not_false_eq_true, Bool.and_eq_true, Bool.not_eq_eq_eq_not, Bool.not_true, Bool.not_false, bne_iff_ne, bne_eq_false_iff_eq, Int.toNat_natCast, Nat.mul_one, Nat.add_zero, Nat.zero_add, List.take_length, List.drop_zero] at h3)
            all_goals
              refine Tree.Sat.ret ?_
              have g := hg (by omega)
              refine .norm ⟨zwidths, widths, values, zwords, words, i + 1⟩ ?_ ?_ ⟨?_, ?_⟩
              · constructor <;> simp only [hdPackFull_0, AV.leL, AV.le, Mem.le, Mem.leP, Blk.le, Blk.pad, Data.le, Data.size, Cap.le, and_true, true_and, and_self, true_implies, implies_true, imp_self, List.length_nil] <;> (repeat' with_reducible refine And.intro ?_ ?_) <;> (try simp only [Int.toNat_natCast, Nat.mul_one, Nat.add_zero, Nat.zero_add]) <;> first | exact wadd1 (by omega) | exact sum_step (by omega) (by omega) (by omega)
              · simp only [muPackFull_0]; omega
              · exact ⟨he, hw3, hx3, hz1, hz3, by omega⟩
              · exact hr
          · (try simp only [decide_eq_true_eq, decide_eq_false_iff_not, Bool.not_eq_true', Bool.not_eq_false', beq_iff_eq, beq_eq_false_iff_ne, Int.not_lt, Int.not_le, ge_iff_le, gt_iff_lt, ne_eq, Bool.false_eq_true, Bool.true_eq_false, not_true_eq_false, not_false_eq_true, Bool.and_eq_true, Bool.not_eq_eq_eq_not, Bool.not_true, Bool.not_false, bne_iff_ne, bne_eq_false_iff_eq, Int.toNat_natCast, Nat.mul_one, Nat.add_zero, Nat.zero_add, List.take_length, List.drop_zero] at h3)
            all_goals
              exfalso
              first | omega | (clear hr; cases zwidths <;> simp_all; done) | (clear hr; cases zwidths <;> simp_all <;> omega)
      · (try simp only [decide_eq_true_eq, decide_eq_false_iff_not, Bool.not_eq_true', Bool.not_eq_false', beq_iff_eq, beq_eq_false_iff_ne, Int.not_lt, Int.not_le, ge_iff_le, gt_iff_lt, ne_eq, Bool.false_eq_true, Bool.true_eq_false, not_true_eq_false, not_false_eq_true, Bool.and_eq_true, Bool.not_eq_eq_eq_not, Bool.not_true, Bool.not_false, bne_iff_ne, bne_eq_false_iff_eq, Int.toNat_natCast, Nat.mul_one, Nat.add_zero, Nat.zero_add, List.take_length, List.drop_zero] at h2)
        all_goals
          exfalso
          first | omega | (clear hr; cases zwidths <;> simp_all; done) | (clear hr; cases zwidths <;> simp_all <;> omega)
  · (try simp only [decide_eq_true_eq, decide_eq_false_iff_not, Bool.not_eq_true', Bool.not_eq_false', beq_iff_eq, beq_eq_false_iff_ne, Int.not_lt, Int.not_le, ge_iff_le, gt_iff_lt, ne_eq, Bool.false_eq_true, Bool.true_eq_false, not_true_eq_false, not_false_eq_true, Bool.and_eq_true, Bool.not_eq_eq_eq_not, Bool.not_true, Bool.not_false, bne_iff_ne, bne_eq_false_iff_eq, Int.toNat_natCast, Nat.mul_one, Nat.add_zero, Nat.zero_add, List.take_length, List.drop_zero] at h1)
    all_goals
      refine Tree.Sat.ret ?_
      have hq := hr
      simp only [Prod.mk.injEq] at hq
      obtain ⟨rfl, rfl⟩ := hq
      refine .exit rfl ?_
      constructor <;> simp only [AV.leL, AV.le, Mem.le, Mem.leP, Blk.le, Blk.pad, Data.le, Data.size, Cap.le, and_true, true_and, and_self, true_implies, implies_true, imp_self, List.length_nil] <;> (repeat' with_reducible refine And.intro ?_ ?_) <;> (try simp only [Int.toNat_natCast, Nat.mul_one, Nat.add_zero, Nat.zero_add]) <;> rw [List.take_of_length_le (by omega)]
set_option maxHeartbeats 2000000 in
set_option maxRecDepth 100000 in
theorem loopPackFull_0 (hall : AllOk Try.prog 0 (fun _ => none) tab19) : LoopOk (mkL Try.prog 0 (fun _ => none) tab19 rowsPackFull) 8 3 (bodyAt Try.prog 8 0) := by
  have hkey : Code.key (bodyAt Try.prog 8 0) = 17 := by kernel_rfl
  have hin : loopsIn (bodyAt Try.prog 8 0) = [] := by kernel_rfl
  have hrow : lookL rowsPackFull 8 (Code.key (bodyAt Try.prog 8 0)) = some rowPackFull_0 := by rw [hkey]; rfl
  refine loop_rowP (X := XPackFull_0) (row := rowPackFull_0) hall mix hrow (fun b hb _ => by rw [hin] at hb; cases hb) UPackFull_0 hdPackFull_0 resPackFull_0 muPackFull_0 (fun st ex r h => ?_) (fun x ex r hr => ?_)
  · have h' : (ansPackFull_0 st).runs (ex, r) := h
    unfold ansPackFull_0 at h'
    split at h'
    · obtain ⟨q1, q2⟩ := Tree.chk_runs h'
      exact ⟨_, q1, q2⟩
    · exact h'.elim
  · obtain ⟨zwidths, widths, values, zwords, words, i⟩ := x
    have := stepPackFull_0 zwidths widths values zwords words i ex r hr.1 hr.2
    rw [← tLPackFull_0] at this
    (try rw [show rowPackFull_0.tidy = TPackFull_0 from rfl])
    exact this
theorem loopsPackFull (hall : AllOk Try.prog 0 (fun _ => none) tab19) : ∀ i, i < (loopsAt Try.prog 8).length → LoopOk (mkL Try.prog 0 (fun _ => none) tab19 rowsPackFull) 8 3 (bodyAt Try.prog 8 i) := by
  intro i hi
  have hlen : (loopsAt Try.prog 8).length = 2 := by kernel_rfl
  rw [hlen] at hi
  obtain rfl | rfl : i = 0 ∨ i = 1 := by omega
  · exact loopPackFull_0 hall
  · exact loopPackFull_1 hall
set_option maxRecDepth 100000 in
theorem tPackFull (zwidths : Bool) (widths : List Int) (zvalues : Bool) (values : List Int) (zwords : Bool) (words : List Int) : evBody (mkL Try.prog 0 (fun _ => none) tab19 rowsPackFull) (evCall (mkC Try.prog 0 (fun _ => none) tab19) 50) 8 [.sl zwidths ⟨0, 0, 0, 0⟩ false widths.length .any, .sl zvalues ⟨1, 0, 0, 0⟩ false values.length .any, .sl zwords ⟨2, 0, 0, 0⟩ false words.length .any] [some ⟨3, false, false, true, .ints .i64 widths⟩, some ⟨3, false, false, true, .ints .i64 values⟩, some ⟨3, false, false, true, .ints .i64 words⟩] =
  Tree.chk (True ∧ True)
  (Tree.br false
  (Tree.ret
  (AV.bool true false,
  [some (Blk.mk (3) false false true (Data.ints IntKind.i64 widths)), some (Blk.mk (3) false false true (Data.ints IntKind.i64 values)),
  some (Blk.mk (3) false false true (Data.ints IntKind.i64 words))]))
  (Tree.br (decide (((List.length widths) : Int) > (300 : Int)))
  (Tree.ret
  (AV.bool true true,
  [some (Blk.mk (3) false false true (Data.ints IntKind.i64 widths)), some (Blk.mk (3) false false true (Data.ints IntKind.i64 values)),
  some (Blk.mk (3) false false true (Data.ints IntKind.i64 words))]))
  (Tree.br (decide (((List.length values) : Int) > (300 : Int)))
  (Tree.ret
  (AV.bool true true,
  [some (Blk.mk (3) false false true (Data.ints IntKind.i64 widths)), some (Blk.mk (3) false false true (Data.ints IntKind.i64 values)),
  some (Blk.mk (3) false false true (Data.ints IntKind.i64 words))]))
  (Tree.br (decide (((List.length words) : Int) > (300 : Int)))
  (Tree.ret
  (AV.bool true true,
  [some (Blk.mk (3) false false true (Data.ints IntKind.i64 widths)), some (Blk.mk (3) false false true (Data.ints IntKind.i64 values)),
  some (Blk.mk (3) false false true (Data.ints IntKind.i64 words))]))
  (Tree.chk
  ((0 + List.length widths ≤ List.length widths ∧ 0 + List.length values ≤ List.length values ∧ True) ∧
  short (List.take (List.length widths) (List.drop (0) widths)) ∧
  short (List.take (List.length values) (List.drop (0) values)) ∧
  (zwidths = true → List.take (List.length widths) (List.drop (0) widths) = []) ∧
  (zvalues = true → List.take (List.length values) (List.drop (0) values) = []) ∧ wf64L (List.take (List.length values) (List.drop (0) values)))
  (Tree.br (fieldsE (List.take (List.length widths) (List.drop (0) widths)) (List.take (List.length values) (List.drop (0) values)) == (0 : Int))
  (Tree.chk
  ((0 + List.length (fieldsL (List.take (List.length widths) (List.drop (0) widths)) (List.take (List.length values) (List.drop (0) values))) ≤
  List.length (fieldsL (List.take (List.length widths) (List.drop (0) widths)) (List.take (List.length values) (List.drop (0) values))) ∧
  True) ∧
  List.length
  (List.take (List.length (fieldsL (List.take (List.length widths) (List.drop (0) widths)) (List.take (List.length values) (List.drop (0) values))))
  (List.drop (0) (fieldsL (List.take (List.length widths) (List.drop (0) widths)) (List.take (List.length values) (List.drop (0) values))))) ≤
  1000000 ∧
  (decide (fieldsL (List.take (List.length widths) (List.drop (0) widths)) (List.take (List.length values) (List.drop (0) values)) = []) = true →
  List.take (List.length (fieldsL (List.take (List.length widths) (List.drop (0) widths)) (List.take (List.length values) (List.drop (0) values))))
  (List.drop (0) (fieldsL (List.take (List.length widths) (List.drop (0) widths)) (List.take (List.length values) (List.drop (0) values)))) =
  []))
  (Tree.br
  (decide
  (((List.length
  (List.take (List.length (fieldsL (List.take (List.length widths) (List.drop (0) widths)) (List.take (List.length values) (List.drop (0) values))))
  (List.drop (0) (fieldsL (List.take (List.length widths) (List.drop (0) widths)) (List.take (List.length values) (List.drop (0) values))))) +
  1) : Int) ≤
  most48 ∧
  (((List.length
  (List.take (List.length (fieldsL (List.take (List.length widths) (List.drop (0) widths)) (List.take (List.length values) (List.drop (0) values))))
  (List.drop (0) (fieldsL (List.take (List.length widths) (List.drop (0) widths)) (List.take (List.length values) (List.drop (0) values))))) +
  1) *
  8) : Int) ≤
  most48))
  (Tree.br
  (decide
  (List.length
  (List.take (List.length (fieldsL (List.take (List.length widths) (List.drop (0) widths)) (List.take (List.length values) (List.drop (0) values))))
  (List.drop (0) (fieldsL (List.take (List.length widths) (List.drop (0) widths)) (List.take (List.length values) (List.drop (0) values))))) *
  1 =
  Data.size
  (Data.ints IntKind.i64
  (List.take (List.length (fieldsL (List.take (List.length widths) (List.drop (0) widths)) (List.take (List.length values) (List.drop (0) values))))
  (List.drop (0) (fieldsL (List.take (List.length widths) (List.drop (0) widths)) (List.take (List.length values) (List.drop (0) values)))))) ∧
  Data.size
  (Data.cells
  (List.take (1 * 1)
  (List.drop (0)
  (List.take (0 * 1) (zerosOf (List.map ofCell [Value.int IntKind.i64 (0 : Int)]) 1) ++
  (AV.parts
  (opnd (mkL Try.prog 0 (fun x => none) tab19 rowsPackFull)
  [AV.sl zwidths (Ref.mk 0 0 0 0) false (List.length widths) Cap.any,
  AV.sl zvalues (Ref.mk 1 0 0 0) false (List.length values) Cap.any,
  AV.sl zwords (Ref.mk 2 0 0 0) false (List.length words) Cap.any, jk, jk, jk, AV.bool true false,
  AV.sl (decide (fieldsL (List.take (List.length widths) (List.drop (0) widths)) (List.take (List.length values) (List.drop (0) values)) = []))
  (Ref.mk
  (List.length
  (id
  [some (Blk.mk 3 false false true (Data.ints IntKind.i64 widths)), some (Blk.mk 3 false false true (Data.ints IntKind.i64 values)),
  some (Blk.mk 3 false false true (Data.ints IntKind.i64 words))]) +
  (2 -
  List.length
  (List.range (0) ++
  List.filter (fun i => !decide (i < 0))
  (reach
  (id
  [some (Blk.mk 3 false false true (Data.ints IntKind.i64 widths)), some (Blk.mk 3 false false true (Data.ints IntKind.i64 values)),
  some (Blk.mk 3 false false true (Data.ints IntKind.i64 words))])
  fuelR
  (AV.refsL
  ([] ++
  List.map
  (opnd (mkL Try.prog 0 (fun x => none) tab19 rowsPackFull)
  [AV.sl zwidths (Ref.mk 0 0 0 0) false (List.length widths) Cap.any,
  AV.sl zvalues (Ref.mk 1 0 0 0) false (List.length values) Cap.any,
  AV.sl zwords (Ref.mk 2 0 0 0) false (List.length words) Cap.any, jk, jk, jk, AV.bool true false, jk,
  jk, jk, jk, jk, jk, jk, jk, jk, jk, jk, jk, jk, jk, AV.bool false true, AV.bool true false,
  AV.sl zwidths (Ref.mk 0 0 0 0) false (List.length widths) Cap.any, AV.int IntKind.i64 false ((List.length widths) : Int),
  AV.bool false (decide (((List.length widths) : Int) > (300 : Int))), AV.bool true false,
  AV.sl zvalues (Ref.mk 1 0 0 0) false (List.length values) Cap.any, AV.int IntKind.i64 false ((List.length values) : Int),
  AV.bool false (decide (((List.length values) : Int) > (300 : Int))), AV.bool false (decide (((List.length values) : Int) > (300 : Int))), AV.bool true false,
  AV.sl zwords (Ref.mk 2 0 0 0) false (List.length words) Cap.any, AV.int IntKind.i64 false ((List.length words) : Int),
  AV.bool false (decide (((List.length words) : Int) > (300 : Int))), AV.bool true false, jk,
  AV.sl zwidths (Ref.mk 0 0 0 0) false (List.length widths) Cap.any,
  AV.sl zvalues (Ref.mk 1 0 0 0) false (List.length values) Cap.any, jk, jk, jk, jk, jk, jk,
  jk, jk, jk, jk, jk, jk, jk, jk, jk, jk, jk, jk, jk, jk, jk, jk, jk, jk,
  jk, jk, jk, jk, jk, jk, jk, jk, jk, jk, jk, jk, jk, jk, jk, jk, jk, jk,
  jk, jk, jk, jk, jk, jk, jk, jk, jk, jk, jk, jk, jk, jk, jk, jk, jk, jk,
  jk, jk, jk, jk, jk, jk, jk, jk, jk, jk, jk, jk, jk, jk, jk, jk, jk, jk,
  jk, jk, jk, jk, jk, jk, jk, jk, jk, jk, jk, jk, jk, jk, jk, jk, jk, jk,
  jk, jk, jk, jk])
  [Operand.tmp 37, Operand.tmp 38] ++
  []))
  []))))
  (0) (0) (0))
  false (List.length (fieldsL (List.take (List.length widths) (List.drop (0) widths)) (List.take (List.length values) (List.drop (0) values)))) Cap.own,
  AV.int IntKind.i64 false (fieldsE (List.take (List.length widths) (List.drop (0) widths)) (List.take (List.length values) (List.drop (0) values))), jk, jk,
  jk, jk, jk, jk, jk, jk, jk, jk, jk, jk, AV.bool false true, AV.bool true false,
  AV.sl zwidths (Ref.mk 0 0 0 0) false (List.length widths) Cap.any, AV.int IntKind.i64 false ((List.length widths) : Int),
  AV.bool false (decide (((List.length widths) : Int) > (300 : Int))), AV.bool true false, AV.sl zvalues (Ref.mk 1 0 0 0) false (List.length values) Cap.any,
  AV.int IntKind.i64 false ((List.length values) : Int), AV.bool false (decide (((List.length values) : Int) > (300 : Int))), AV.bool false (decide (((List.length values) : Int) > (300 : Int))),
  AV.bool true false, AV.sl zwords (Ref.mk 2 0 0 0) false (List.length words) Cap.any, AV.int IntKind.i64 false ((List.length words) : Int),
  AV.bool false (decide (((List.length words) : Int) > (300 : Int))), AV.bool true false,
  AV.tup
  [AV.sl (decide (fieldsL (List.take (List.length widths) (List.drop (0) widths)) (List.take (List.length values) (List.drop (0) values)) = []))
  (Ref.mk
  (List.length
  (id
  [some (Blk.mk 3 false false true (Data.ints IntKind.i64 widths)), some (Blk.mk 3 false false true (Data.ints IntKind.i64 values)),
  some (Blk.mk 3 false false true (Data.ints IntKind.i64 words))]) +
  (2 -
  List.length
  (List.range (0) ++
  List.filter (fun i => !decide (i < 0))
  (reach
  (id
  [some (Blk.mk 3 false false true (Data.ints IntKind.i64 widths)), some (Blk.mk 3 false false true (Data.ints IntKind.i64 values)),
  some (Blk.mk 3 false false true (Data.ints IntKind.i64 words))])
  fuelR
  (AV.refsL
  ([] ++
  List.map
  (opnd (mkL Try.prog 0 (fun x => none) tab19 rowsPackFull)
  [AV.sl zwidths (Ref.mk 0 0 0 0) false (List.length widths) Cap.any,
  AV.sl zvalues (Ref.mk 1 0 0 0) false (List.length values) Cap.any,
  AV.sl zwords (Ref.mk 2 0 0 0) false (List.length words) Cap.any, jk, jk, jk, AV.bool true false, jk,
  jk, jk, jk, jk, jk, jk, jk, jk, jk, jk, jk, jk, jk, AV.bool false true, AV.bool true false,
  AV.sl zwidths (Ref.mk 0 0 0 0) false (List.length widths) Cap.any, AV.int IntKind.i64 false ((List.length widths) : Int),
  AV.bool false (decide (((List.length widths) : Int) > (300 : Int))), AV.bool true false,
  AV.sl zvalues (Ref.mk 1 0 0 0) false (List.length values) Cap.any, AV.int IntKind.i64 false ((List.length values) : Int),
  AV.bool false (decide (((List.length values) : Int) > (300 : Int))), AV.bool false (decide (((List.length values) : Int) > (300 : Int))), AV.bool true false,
  AV.sl zwords (Ref.mk 2 0 0 0) false (List.length words) Cap.any, AV.int IntKind.i64 false ((List.length words) : Int),
  AV.bool false (decide (((List.length words) : Int) > (300 : Int))), AV.bool true false, jk,
  AV.sl zwidths (Ref.mk 0 0 0 0) false (List.length widths) Cap.any,
  AV.sl zvalues (Ref.mk 1 0 0 0) false (List.length values) Cap.any, jk, jk, jk, jk, jk, jk,
  jk, jk, jk, jk, jk, jk, jk, jk, jk, jk, jk, jk, jk, jk, jk, jk, jk, jk,
  jk, jk, jk, jk, jk, jk, jk, jk, jk, jk, jk, jk, jk, jk, jk, jk, jk, jk,
  jk, jk, jk, jk, jk, jk, jk, jk, jk, jk, jk, jk, jk, jk, jk, jk, jk, jk,
  jk, jk, jk, jk, jk, jk, jk, jk, jk, jk, jk, jk, jk, jk, jk, jk, jk, jk,
  jk, jk, jk, jk, jk, jk, jk, jk, jk, jk, jk, jk, jk, jk, jk, jk, jk, jk,
  jk, jk, jk, jk])
  [Operand.tmp 37, Operand.tmp 38] ++
  []))
  []))))
  (0) (0) (0))
  false (List.length (fieldsL (List.take (List.length widths) (List.drop (0) widths)) (List.take (List.length values) (List.drop (0) values)))) Cap.own,
  AV.int IntKind.i64 false (fieldsE (List.take (List.length widths) (List.drop (0) widths)) (List.take (List.length values) (List.drop (0) values)))],
  AV.sl zwidths (Ref.mk 0 0 0 0) false (List.length widths) Cap.any,
  AV.sl zvalues (Ref.mk 1 0 0 0) false (List.length values) Cap.any,
  AV.tup
  [AV.sl (decide (fieldsL (List.take (List.length widths) (List.drop (0) widths)) (List.take (List.length values) (List.drop (0) values)) = []))
  (Ref.mk
  (List.length
  (id
  [some (Blk.mk 3 false false true (Data.ints IntKind.i64 widths)), some (Blk.mk 3 false false true (Data.ints IntKind.i64 values)),
  some (Blk.mk 3 false false true (Data.ints IntKind.i64 words))]) +
  (2 -
  List.length
  (List.range (0) ++
  List.filter (fun i => !decide (i < 0))
  (reach
  (id
  [some (Blk.mk 3 false false true (Data.ints IntKind.i64 widths)), some (Blk.mk 3 false false true (Data.ints IntKind.i64 values)),
  some (Blk.mk 3 false false true (Data.ints IntKind.i64 words))])
  fuelR
  (AV.refsL
  ([] ++
  List.map
  (opnd (mkL Try.prog 0 (fun x => none) tab19 rowsPackFull)
  [AV.sl zwidths (Ref.mk 0 0 0 0) false (List.length widths) Cap.any,
  AV.sl zvalues (Ref.mk 1 0 0 0) false (List.length values) Cap.any,
  AV.sl zwords (Ref.mk 2 0 0 0) false (List.length words) Cap.any, jk, jk, jk, AV.bool true false, jk,
  jk, jk, jk, jk, jk, jk, jk, jk, jk, jk, jk, jk, jk, AV.bool false true, AV.bool true false,
  AV.sl zwidths (Ref.mk 0 0 0 0) false (List.length widths) Cap.any, AV.int IntKind.i64 false ((List.length widths) : Int),
  AV.bool false (decide (((List.length widths) : Int) > (300 : Int))), AV.bool true false,
  AV.sl zvalues (Ref.mk 1 0 0 0) false (List.length values) Cap.any, AV.int IntKind.i64 false ((List.length values) : Int),
  AV.bool false (decide (((List.length values) : Int) > (300 : Int))), AV.bool false (decide (((List.length values) : Int) > (300 : Int))), AV.bool true false,
  AV.sl zwords (Ref.mk 2 0 0 0) false (List.length words) Cap.any, AV.int IntKind.i64 false ((List.length words) : Int),
  AV.bool false (decide (((List.length words) : Int) > (300 : Int))), AV.bool true false, jk,
  AV.sl zwidths (Ref.mk 0 0 0 0) false (List.length widths) Cap.any,
  AV.sl zvalues (Ref.mk 1 0 0 0) false (List.length values) Cap.any, jk, jk, jk, jk, jk, jk,
  jk, jk, jk, jk, jk, jk, jk, jk, jk, jk, jk, jk, jk, jk, jk, jk, jk, jk,
  jk, jk, jk, jk, jk, jk, jk, jk, jk, jk, jk, jk, jk, jk, jk, jk, jk, jk,
  jk, jk, jk, jk, jk, jk, jk, jk, jk, jk, jk, jk, jk, jk, jk, jk, jk, jk,
  jk, jk, jk, jk, jk, jk, jk, jk, jk, jk, jk, jk, jk, jk, jk, jk, jk, jk,
  jk, jk, jk, jk, jk, jk, jk, jk, jk, jk, jk, jk, jk, jk, jk, jk, jk, jk,
  jk, jk, jk, jk])
  [Operand.tmp 37, Operand.tmp 38] ++
  []))
  []))))
  (0) (0) (0))
  false (List.length (fieldsL (List.take (List.length widths) (List.drop (0) widths)) (List.take (List.length values) (List.drop (0) values)))) Cap.own,
  AV.int IntKind.i64 false (fieldsE (List.take (List.length widths) (List.drop (0) widths)) (List.take (List.length values) (List.drop (0) values)))],
  AV.sl (decide (fieldsL (List.take (List.length widths) (List.drop (0) widths)) (List.take (List.length values) (List.drop (0) values)) = []))
  (Ref.mk
  (List.length
  (id
  [some (Blk.mk 3 false false true (Data.ints IntKind.i64 widths)), some (Blk.mk 3 false false true (Data.ints IntKind.i64 values)),
  some (Blk.mk 3 false false true (Data.ints IntKind.i64 words))]) +
  (2 -
  List.length
  (List.range (0) ++
  List.filter (fun i => !decide (i < 0))
  (reach
  (id
  [some (Blk.mk 3 false false true (Data.ints IntKind.i64 widths)), some (Blk.mk 3 false false true (Data.ints IntKind.i64 values)),
  some (Blk.mk 3 false false true (Data.ints IntKind.i64 words))])
  fuelR
  (AV.refsL
  ([] ++
  List.map
  (opnd (mkL Try.prog 0 (fun x => none) tab19 rowsPackFull)
  [AV.sl zwidths (Ref.mk 0 0 0 0) false (List.length widths) Cap.any,
  AV.sl zvalues (Ref.mk 1 0 0 0) false (List.length values) Cap.any,
  AV.sl zwords (Ref.mk 2 0 0 0) false (List.length words) Cap.any, jk, jk, jk, AV.bool true false, jk,
  jk, jk, jk, jk, jk, jk, jk, jk, jk, jk, jk, jk, jk, AV.bool false true, AV.bool true false,
  AV.sl zwidths (Ref.mk 0 0 0 0) false (List.length widths) Cap.any, AV.int IntKind.i64 false ((List.length widths) : Int),
  AV.bool false (decide (((List.length widths) : Int) > (300 : Int))), AV.bool true false,
  AV.sl zvalues (Ref.mk 1 0 0 0) false (List.length values) Cap.any, AV.int IntKind.i64 false ((List.length values) : Int),
  AV.bool false (decide (((List.length values) : Int) > (300 : Int))), AV.bool false (decide (((List.length values) : Int) > (300 : Int))), AV.bool true false,
  AV.sl zwords (Ref.mk 2 0 0 0) false (List.length words) Cap.any, AV.int IntKind.i64 false ((List.length words) : Int),
  AV.bool false (decide (((List.length words) : Int) > (300 : Int))), AV.bool true false, jk,
  AV.sl zwidths (Ref.mk 0 0 0 0) false (List.length widths) Cap.any,
  AV.sl zvalues (Ref.mk 1 0 0 0) false (List.length values) Cap.any, jk, jk, jk, jk, jk, jk,
  jk, jk, jk, jk, jk, jk, jk, jk, jk, jk, jk, jk, jk, jk, jk, jk, jk, jk,
  jk, jk, jk, jk, jk, jk, jk, jk, jk, jk, jk, jk, jk, jk, jk, jk, jk, jk,
  jk, jk, jk, jk, jk, jk, jk, jk, jk, jk, jk, jk, jk, jk, jk, jk, jk, jk,
  jk, jk, jk, jk, jk, jk, jk, jk, jk, jk, jk, jk, jk, jk, jk, jk, jk, jk,
  jk, jk, jk, jk, jk, jk, jk, jk, jk, jk, jk, jk, jk, jk, jk, jk, jk, jk,
  jk, jk, jk, jk])
  [Operand.tmp 37, Operand.tmp 38] ++
  []))
  []))))
  (0) (0) (0))
  false (List.length (fieldsL (List.take (List.length widths) (List.drop (0) widths)) (List.take (List.length values) (List.drop (0) values)))) Cap.own,
  AV.int IntKind.i64 false (fieldsE (List.take (List.length widths) (List.drop (0) widths)) (List.take (List.length values) (List.drop (0) values))),
  AV.int IntKind.i64 false (fieldsE (List.take (List.length widths) (List.drop (0) widths)) (List.take (List.length values) (List.drop (0) values))), AV.bool true true,
  jk, AV.sl zwidths (Ref.mk 0 0 0 0) false (List.length widths) Cap.any,
  AV.sl (decide (fieldsL (List.take (List.length widths) (List.drop (0) widths)) (List.take (List.length values) (List.drop (0) values)) = []))
  (Ref.mk
  (List.length
  (id
  [some (Blk.mk 3 false false true (Data.ints IntKind.i64 widths)), some (Blk.mk 3 false false true (Data.ints IntKind.i64 values)),
  some (Blk.mk 3 false false true (Data.ints IntKind.i64 words))]) +
  (2 -
  List.length
  (List.range (0) ++
  List.filter (fun i => !decide (i < 0))
  (reach
  (id
  [some (Blk.mk 3 false false true (Data.ints IntKind.i64 widths)), some (Blk.mk 3 false false true (Data.ints IntKind.i64 values)),
  some (Blk.mk 3 false false true (Data.ints IntKind.i64 words))])
  fuelR
  (AV.refsL
  ([] ++
  List.map
  (opnd (mkL Try.prog 0 (fun x => none) tab19 rowsPackFull)
  [AV.sl zwidths (Ref.mk 0 0 0 0) false (List.length widths) Cap.any,
  AV.sl zvalues (Ref.mk 1 0 0 0) false (List.length values) Cap.any,
  AV.sl zwords (Ref.mk 2 0 0 0) false (List.length words) Cap.any, jk, jk, jk, AV.bool true false, jk,
  jk, jk, jk, jk, jk, jk, jk, jk, jk, jk, jk, jk, jk, AV.bool false true, AV.bool true false,
  AV.sl zwidths (Ref.mk 0 0 0 0) false (List.length widths) Cap.any, AV.int IntKind.i64 false ((List.length widths) : Int),
  AV.bool false (decide (((List.length widths) : Int) > (300 : Int))), AV.bool true false,
  AV.sl zvalues (Ref.mk 1 0 0 0) false (List.length values) Cap.any, AV.int IntKind.i64 false ((List.length values) : Int),
  AV.bool false (decide (((List.length values) : Int) > (300 : Int))), AV.bool false (decide (((List.length values) : Int) > (300 : Int))), AV.bool true false,
  AV.sl zwords (Ref.mk 2 0 0 0) false (List.length words) Cap.any, AV.int IntKind.i64 false ((List.length words) : Int),
  AV.bool false (decide (((List.length words) : Int) > (300 : Int))), AV.bool true false, jk,
  AV.sl zwidths (Ref.mk 0 0 0 0) false (List.length widths) Cap.any,
  AV.sl zvalues (Ref.mk 1 0 0 0) false (List.length values) Cap.any, jk, jk, jk, jk, jk, jk,
  jk, jk, jk, jk, jk, jk, jk, jk, jk, jk, jk, jk, jk, jk, jk, jk, jk, jk,
  jk, jk, jk, jk, jk, jk, jk, jk, jk, jk, jk, jk, jk, jk, jk, jk, jk, jk,
  jk, jk, jk, jk, jk, jk, jk, jk, jk, jk, jk, jk, jk, jk, jk, jk, jk, jk,
  jk, jk, jk, jk, jk, jk, jk, jk, jk, jk, jk, jk, jk, jk, jk, jk, jk, jk,
  jk, jk, jk, jk, jk, jk, jk, jk, jk, jk, jk, jk, jk, jk, jk, jk, jk, jk,
  jk, jk, jk, jk])
  [Operand.tmp 37, Operand.tmp 38] ++
  []))
  []))))
  (0) (0) (0))
  false (List.length (fieldsL (List.take (List.length widths) (List.drop (0) widths)) (List.take (List.length values) (List.drop (0) values)))) Cap.own,
  AV.sl false
  (Ref.mk
  (List.length
  (id
  [some
  (Blk.ren
  (fun i =>
  Bool.rec
  (some
  (List.length
  (id
  [some (Blk.mk 3 false false true (Data.ints IntKind.i64 widths)), some (Blk.mk 3 false false true (Data.ints IntKind.i64 values)),
  some (Blk.mk 3 false false true (Data.ints IntKind.i64 words))]) +
  (i -
  List.length
  (List.range (0) ++
  List.filter (fun i => !decide (i < 0))
  (reach
  (id
  [some (Blk.mk 3 false false true (Data.ints IntKind.i64 widths)), some (Blk.mk 3 false false true (Data.ints IntKind.i64 values)),
  some (Blk.mk 3 false false true (Data.ints IntKind.i64 words))])
  fuelR
  (AV.refsL
  ([] ++
  List.map
  (opnd (mkL Try.prog 0 (fun x => none) tab19 rowsPackFull)
  [AV.sl zwidths (Ref.mk 0 0 0 0) false (List.length widths) Cap.any,
  AV.sl zvalues (Ref.mk 1 0 0 0) false (List.length values) Cap.any,
  AV.sl zwords (Ref.mk 2 0 0 0) false (List.length words) Cap.any, jk, jk, jk,
  AV.bool true false, jk, jk, jk, jk, jk, jk, jk, jk, jk, jk, jk, jk, jk, jk,
  AV.bool false true, AV.bool true false, AV.sl zwidths (Ref.mk 0 0 0 0) false (List.length widths) Cap.any,
  AV.int IntKind.i64 false ((List.length widths) : Int), AV.bool false (decide (((List.length widths) : Int) > (300 : Int))), AV.bool true false,
  AV.sl zvalues (Ref.mk 1 0 0 0) false (List.length values) Cap.any,
  AV.int IntKind.i64 false ((List.length values) : Int), AV.bool false (decide (((List.length values) : Int) > (300 : Int))),
  AV.bool false (decide (((List.length values) : Int) > (300 : Int))), AV.bool true false,
  AV.sl zwords (Ref.mk 2 0 0 0) false (List.length words) Cap.any,
  AV.int IntKind.i64 false ((List.length words) : Int), AV.bool false (decide (((List.length words) : Int) > (300 : Int))), AV.bool true false, jk,
  AV.sl zwidths (Ref.mk 0 0 0 0) false (List.length widths) Cap.any,
  AV.sl zvalues (Ref.mk 1 0 0 0) false (List.length values) Cap.any, jk, jk, jk, jk,
  jk, jk, jk, jk, jk, jk, jk, jk, jk, jk, jk, jk, jk, jk, jk, jk,
  jk, jk, jk, jk, jk, jk, jk, jk, jk, jk, jk, jk, jk, jk, jk, jk,
  jk, jk, jk, jk, jk, jk, jk, jk, jk, jk, jk, jk, jk, jk, jk, jk,
  jk, jk, jk, jk, jk, jk, jk, jk, jk, jk, jk, jk, jk, jk, jk, jk,
  jk, jk, jk, jk, jk, jk, jk, jk, jk, jk, jk, jk, jk, jk, jk, jk,
  jk, jk, jk, jk, jk, jk, jk, jk, jk, jk, jk, jk, jk, jk, jk, jk])
  [Operand.tmp 37, Operand.tmp 38] ++
  []))
  [])))))
  (List.range (0) ++
  List.filter (fun i => !decide (i < 0))
  (reach
  (id
  [some (Blk.mk 3 false false true (Data.ints IntKind.i64 widths)), some (Blk.mk 3 false false true (Data.ints IntKind.i64 values)),
  some (Blk.mk 3 false false true (Data.ints IntKind.i64 words))])
  fuelR
  (AV.refsL
  ([] ++
  List.map
  (opnd (mkL Try.prog 0 (fun x => none) tab19 rowsPackFull)
  [AV.sl zwidths (Ref.mk 0 0 0 0) false (List.length widths) Cap.any,
  AV.sl zvalues (Ref.mk 1 0 0 0) false (List.length values) Cap.any,
  AV.sl zwords (Ref.mk 2 0 0 0) false (List.length words) Cap.any, jk, jk, jk, AV.bool true false,
  jk, jk, jk, jk, jk, jk, jk, jk, jk, jk, jk, jk, jk, jk, AV.bool false true,
  AV.bool true false, AV.sl zwidths (Ref.mk 0 0 0 0) false (List.length widths) Cap.any,
  AV.int IntKind.i64 false ((List.length widths) : Int), AV.bool false (decide (((List.length widths) : Int) > (300 : Int))), AV.bool true false,
  AV.sl zvalues (Ref.mk 1 0 0 0) false (List.length values) Cap.any,
  AV.int IntKind.i64 false ((List.length values) : Int), AV.bool false (decide (((List.length values) : Int) > (300 : Int))),
  AV.bool false (decide (((List.length values) : Int) > (300 : Int))), AV.bool true false,
  AV.sl zwords (Ref.mk 2 0 0 0) false (List.length words) Cap.any, AV.int IntKind.i64 false ((List.length words) : Int),
  AV.bool false (decide (((List.length words) : Int) > (300 : Int))), AV.bool true false, jk,
  AV.sl zwidths (Ref.mk 0 0 0 0) false (List.length widths) Cap.any,
  AV.sl zvalues (Ref.mk 1 0 0 0) false (List.length values) Cap.any, jk, jk, jk, jk, jk,
  jk, jk, jk, jk, jk, jk, jk, jk, jk, jk, jk, jk, jk, jk, jk, jk, jk,
  jk, jk, jk, jk, jk, jk, jk, jk, jk, jk, jk, jk, jk, jk, jk, jk, jk,
  jk, jk, jk, jk, jk, jk, jk, jk, jk, jk, jk, jk, jk, jk, jk, jk, jk,
  jk, jk, jk, jk, jk, jk, jk, jk, jk, jk, jk, jk, jk, jk, jk, jk, jk,
  jk, jk, jk, jk, jk, jk, jk, jk, jk, jk, jk, jk, jk, jk, jk, jk, jk,
  jk, jk, jk, jk, jk, jk, jk, jk, jk, jk])
  [Operand.tmp 37, Operand.tmp 38] ++
  []))
  []))[i]?
  (decide
  (i <
  List.length
  (List.range (0) ++
  List.filter (fun i => !decide (i < 0))
  (reach
  (id
  [some (Blk.mk 3 false false true (Data.ints IntKind.i64 widths)), some (Blk.mk 3 false false true (Data.ints IntKind.i64 values)),
  some (Blk.mk 3 false false true (Data.ints IntKind.i64 words))])
  fuelR
  (AV.refsL
  ([] ++
  List.map
  (opnd (mkL Try.prog 0 (fun x => none) tab19 rowsPackFull)
  [AV.sl zwidths (Ref.mk 0 0 0 0) false (List.length widths) Cap.any,
  AV.sl zvalues (Ref.mk 1 0 0 0) false (List.length values) Cap.any,
  AV.sl zwords (Ref.mk 2 0 0 0) false (List.length words) Cap.any, jk, jk, jk, AV.bool true false,
  jk, jk, jk, jk, jk, jk, jk, jk, jk, jk, jk, jk, jk, jk, AV.bool false true,
  AV.bool true false, AV.sl zwidths (Ref.mk 0 0 0 0) false (List.length widths) Cap.any,
  AV.int IntKind.i64 false ((List.length widths) : Int), AV.bool false (decide (((List.length widths) : Int) > (300 : Int))), AV.bool true false,
  AV.sl zvalues (Ref.mk 1 0 0 0) false (List.length values) Cap.any,
  AV.int IntKind.i64 false ((List.length values) : Int), AV.bool false (decide (((List.length values) : Int) > (300 : Int))),
  AV.bool false (decide (((List.length values) : Int) > (300 : Int))), AV.bool true false,
  AV.sl zwords (Ref.mk 2 0 0 0) false (List.length words) Cap.any,
  AV.int IntKind.i64 false ((List.length words) : Int), AV.bool false (decide (((List.length words) : Int) > (300 : Int))), AV.bool true false, jk,
  AV.sl zwidths (Ref.mk 0 0 0 0) false (List.length widths) Cap.any,
  AV.sl zvalues (Ref.mk 1 0 0 0) false (List.length values) Cap.any, jk, jk, jk, jk, jk,
  jk, jk, jk, jk, jk, jk, jk, jk, jk, jk, jk, jk, jk, jk, jk, jk,
  jk, jk, jk, jk, jk, jk, jk, jk, jk, jk, jk, jk, jk, jk, jk, jk,
  jk, jk, jk, jk, jk, jk, jk, jk, jk, jk, jk, jk, jk, jk, jk, jk,
  jk, jk, jk, jk, jk, jk, jk, jk, jk, jk, jk, jk, jk, jk, jk, jk,
  jk, jk, jk, jk, jk, jk, jk, jk, jk, jk, jk, jk, jk, jk, jk, jk,
  jk, jk, jk, jk, jk, jk, jk, jk, jk, jk, jk, jk, jk, jk, jk])
  [Operand.tmp 37, Operand.tmp 38] ++
  []))
  [])))))
  (Blk.ren
  (idxOf
  (List.range (0) ++
  List.filter (fun i => !decide (i < 0))
  (reach
  (id
  [some (Blk.mk 3 false false true (Data.ints IntKind.i64 widths)), some (Blk.mk 3 false false true (Data.ints IntKind.i64 values)),
  some (Blk.mk 3 false false true (Data.ints IntKind.i64 words))])
  fuelR
  (AV.refsL
  ([] ++
  List.map
  (opnd (mkL Try.prog 0 (fun x => none) tab19 rowsPackFull)
  [AV.sl zwidths (Ref.mk 0 0 0 0) false (List.length widths) Cap.any,
  AV.sl zvalues (Ref.mk 1 0 0 0) false (List.length values) Cap.any,
  AV.sl zwords (Ref.mk 2 0 0 0) false (List.length words) Cap.any, jk, jk, jk, AV.bool true false,
  jk, jk, jk, jk, jk, jk, jk, jk, jk, jk, jk, jk, jk, jk, AV.bool false true,
  AV.bool true false, AV.sl zwidths (Ref.mk 0 0 0 0) false (List.length widths) Cap.any,
  AV.int IntKind.i64 false ((List.length widths) : Int), AV.bool false (decide (((List.length widths) : Int) > (300 : Int))), AV.bool true false,
  AV.sl zvalues (Ref.mk 1 0 0 0) false (List.length values) Cap.any, AV.int IntKind.i64 false ((List.length values) : Int),
  AV.bool false (decide (((List.length values) : Int) > (300 : Int))), AV.bool false (decide (((List.length values) : Int) > (300 : Int))), AV.bool true false,
  AV.sl zwords (Ref.mk 2 0 0 0) false (List.length words) Cap.any, AV.int IntKind.i64 false ((List.length words) : Int),
  AV.bool false (decide (((List.length words) : Int) > (300 : Int))), AV.bool true false, jk,
  AV.sl zwidths (Ref.mk 0 0 0 0) false (List.length widths) Cap.any,
  AV.sl zvalues (Ref.mk 1 0 0 0) false (List.length values) Cap.any, jk, jk, jk, jk, jk,
  jk, jk, jk, jk, jk, jk, jk, jk, jk, jk, jk, jk, jk, jk, jk, jk, jk,
  jk, jk, jk, jk, jk, jk, jk, jk, jk, jk, jk, jk, jk, jk, jk, jk, jk,
  jk, jk, jk, jk, jk, jk, jk, jk, jk, jk, jk, jk, jk, jk, jk, jk, jk,
  jk, jk, jk, jk, jk, jk, jk, jk, jk, jk, jk, jk, jk, jk, jk, jk, jk,
  jk, jk, jk, jk, jk, jk, jk, jk, jk, jk, jk, jk, jk, jk, jk, jk, jk,
  jk, jk, jk, jk, jk, jk, jk, jk, jk, jk])
  [Operand.tmp 37, Operand.tmp 38] ++
  []))
  [])))
  (Blk.mk 3 false false true (Data.ints IntKind.i64 widths)))),
  some
  (Blk.ren
  (fun i =>
  Bool.rec
  (some
  (List.length
  (id
  [some (Blk.mk 3 false false true (Data.ints IntKind.i64 widths)), some (Blk.mk 3 false false true (Data.ints IntKind.i64 values)),
  some (Blk.mk 3 false false true (Data.ints IntKind.i64 words))]) +
  (i -
  List.length
  (List.range (0) ++
  List.filter (fun i => !decide (i < 0))
  (reach
  (id
  [some (Blk.mk 3 false false true (Data.ints IntKind.i64 widths)), some (Blk.mk 3 false false true (Data.ints IntKind.i64 values)),
  some (Blk.mk 3 false false true (Data.ints IntKind.i64 words))])
  fuelR
  (AV.refsL
  ([] ++
  List.map
  (opnd (mkL Try.prog 0 (fun x => none) tab19 rowsPackFull)
  [AV.sl zwidths (Ref.mk 0 0 0 0) false (List.length widths) Cap.any,
  AV.sl zvalues (Ref.mk 1 0 0 0) false (List.length values) Cap.any,
  AV.sl zwords (Ref.mk 2 0 0 0) false (List.length words) Cap.any, jk, jk, jk,
  AV.bool true false, jk, jk, jk, jk, jk, jk, jk, jk, jk, jk, jk, jk, jk, jk,
  AV.bool false true, AV.bool true false, AV.sl zwidths (Ref.mk 0 0 0 0) false (List.length widths) Cap.any,
  AV.int IntKind.i64 false ((List.length widths) : Int), AV.bool false (decide (((List.length widths) : Int) > (300 : Int))), AV.bool true false,
  AV.sl zvalues (Ref.mk 1 0 0 0) false (List.length values) Cap.any,
  AV.int IntKind.i64 false ((List.length values) : Int), AV.bool false (decide (((List.length values) : Int) > (300 : Int))),
  AV.bool false (decide (((List.length values) : Int) > (300 : Int))), AV.bool true false,
  AV.sl zwords (Ref.mk 2 0 0 0) false (List.length words) Cap.any,
  AV.int IntKind.i64 false ((List.length words) : Int), AV.bool false (decide (((List.length words) : Int) > (300 : Int))), AV.bool true false, jk,
  AV.sl zwidths (Ref.mk 0 0 0 0) false (List.length widths) Cap.any,
  AV.sl zvalues (Ref.mk 1 0 0 0) false (List.length values) Cap.any, jk, jk, jk, jk,
  jk, jk, jk, jk, jk, jk, jk, jk, jk, jk, jk, jk, jk, jk, jk, jk,
  jk, jk, jk, jk, jk, jk, jk, jk, jk, jk, jk, jk, jk, jk, jk, jk,
  jk, jk, jk, jk, jk, jk, jk, jk, jk, jk, jk, jk, jk, jk, jk, jk,
  jk, jk, jk, jk, jk, jk, jk, jk, jk, jk, jk, jk, jk, jk, jk, jk,
  jk, jk, jk, jk, jk, jk, jk, jk, jk, jk, jk, jk, jk, jk, jk, jk,
  jk, jk, jk, jk, jk, jk, jk, jk, jk, jk, jk, jk, jk, jk, jk, jk])
  [Operand.tmp 37, Operand.tmp 38] ++
  []))
  [])))))
  (List.range (0) ++
  List.filter (fun i => !decide (i < 0))
  (reach
  (id
  [some (Blk.mk 3 false false true (Data.ints IntKind.i64 widths)), some (Blk.mk 3 false false true (Data.ints IntKind.i64 values)),
  some (Blk.mk 3 false false true (Data.ints IntKind.i64 words))])
  fuelR
  (AV.refsL
  ([] ++
  List.map
  (opnd (mkL Try.prog 0 (fun x => none) tab19 rowsPackFull)
  [AV.sl zwidths (Ref.mk 0 0 0 0) false (List.length widths) Cap.any,
  AV.sl zvalues (Ref.mk 1 0 0 0) false (List.length values) Cap.any,
  AV.sl zwords (Ref.mk 2 0 0 0) false (List.length words) Cap.any, jk, jk, jk, AV.bool true false,
  jk, jk, jk, jk, jk, jk, jk, jk, jk, jk, jk, jk, jk, jk, AV.bool false true,
  AV.bool true false, AV.sl zwidths (Ref.mk 0 0 0 0) false (List.length widths) Cap.any,
  AV.int IntKind.i64 false ((List.length widths) : Int), AV.bool false (decide (((List.length widths) : Int) > (300 : Int))), AV.bool true false,
  AV.sl zvalues (Ref.mk 1 0 0 0) false (List.length values) Cap.any,
  AV.int IntKind.i64 false ((List.length values) : Int), AV.bool false (decide (((List.length values) : Int) > (300 : Int))),
  AV.bool false (decide (((List.length values) : Int) > (300 : Int))), AV.bool true false,
  AV.sl zwords (Ref.mk 2 0 0 0) false (List.length words) Cap.any, AV.int IntKind.i64 false ((List.length words) : Int),
  AV.bool false (decide (((List.length words) : Int) > (300 : Int))), AV.bool true false, jk,
  AV.sl zwidths (Ref.mk 0 0 0 0) false (List.length widths) Cap.any,
  AV.sl zvalues (Ref.mk 1 0 0 0) false (List.length values) Cap.any, jk, jk, jk, jk, jk,
  jk, jk, jk, jk, jk, jk, jk, jk, jk, jk, jk, jk, jk, jk, jk, jk, jk,
  jk, jk, jk, jk, jk, jk, jk, jk, jk, jk, jk, jk, jk, jk, jk, jk, jk,
  jk, jk, jk, jk, jk, jk, jk, jk, jk, jk, jk, jk, jk, jk, jk, jk, jk,
  jk, jk, jk, jk, jk, jk, jk, jk, jk, jk, jk, jk, jk, jk, jk, jk, jk,
  jk, jk, jk, jk, jk, jk, jk, jk, jk, jk, jk, jk, jk, jk, jk, jk, jk,
  jk, jk, jk, jk, jk, jk, jk, jk, jk, jk])
  [Operand.tmp 37, Operand.tmp 38] ++
  []))
  []))[i]?
  (decide
  (i <
  List.length
  (List.range (0) ++
  List.filter (fun i => !decide (i < 0))
  (reach
  (id
  [some (Blk.mk 3 false false true (Data.ints IntKind.i64 widths)), some (Blk.mk 3 false false true (Data.ints IntKind.i64 values)),
  some (Blk.mk 3 false false true (Data.ints IntKind.i64 words))])
  fuelR
  (AV.refsL
  ([] ++
  List.map
  (opnd (mkL Try.prog 0 (fun x => none) tab19 rowsPackFull)
  [AV.sl zwidths (Ref.mk 0 0 0 0) false (List.length widths) Cap.any,
  AV.sl zvalues (Ref.mk 1 0 0 0) false (List.length values) Cap.any,
  AV.sl zwords (Ref.mk 2 0 0 0) false (List.length words) Cap.any, jk, jk, jk, AV.bool true false,
  jk, jk, jk, jk, jk, jk, jk, jk, jk, jk, jk, jk, jk, jk, AV.bool false true,
  AV.bool true false, AV.sl zwidths (Ref.mk 0 0 0 0) false (List.length widths) Cap.any,
  AV.int IntKind.i64 false ((List.length widths) : Int), AV.bool false (decide (((List.length widths) : Int) > (300 : Int))), AV.bool true false,
  AV.sl zvalues (Ref.mk 1 0 0 0) false (List.length values) Cap.any,
  AV.int IntKind.i64 false ((List.length values) : Int), AV.bool false (decide (((List.length values) : Int) > (300 : Int))),
  AV.bool false (decide (((List.length values) : Int) > (300 : Int))), AV.bool true false,
  AV.sl zwords (Ref.mk 2 0 0 0) false (List.length words) Cap.any,
  AV.int IntKind.i64 false ((List.length words) : Int), AV.bool false (decide (((List.length words) : Int) > (300 : Int))), AV.bool true false, jk,
  AV.sl zwidths (Ref.mk 0 0 0 0) false (List.length widths) Cap.any,
  AV.sl zvalues (Ref.mk 1 0 0 0) false (List.length values) Cap.any, jk, jk, jk, jk, jk,
  jk, jk, jk, jk, jk, jk, jk, jk, jk, jk, jk, jk, jk, jk, jk, jk,
  jk, jk, jk, jk, jk, jk, jk, jk, jk, jk, jk, jk, jk, jk, jk, jk,
  jk, jk, jk, jk, jk, jk, jk, jk, jk, jk, jk, jk, jk, jk, jk, jk,
  jk, jk, jk, jk, jk, jk, jk, jk, jk, jk, jk, jk, jk, jk, jk, jk,
  jk, jk, jk, jk, jk, jk, jk, jk, jk, jk, jk, jk, jk, jk, jk, jk,
  jk, jk, jk, jk, jk, jk, jk, jk, jk, jk, jk, jk, jk, jk, jk])
  [Operand.tmp 37, Operand.tmp 38] ++
  []))
  [])))))
  (Blk.ren
  (idxOf
  (List.range (0) ++
  List.filter (fun i => !decide (i < 0))
  (reach
  (id
  [some (Blk.mk 3 false false true (Data.ints IntKind.i64 widths)), some (Blk.mk 3 false false true (Data.ints IntKind.i64 values)),
  some (Blk.mk 3 false false true (Data.ints IntKind.i64 words))])
  fuelR
  (AV.refsL
  ([] ++
  List.map
  (opnd (mkL Try.prog 0 (fun x => none) tab19 rowsPackFull)
  [AV.sl zwidths (Ref.mk 0 0 0 0) false (List.length widths) Cap.any,
  AV.sl zvalues (Ref.mk 1 0 0 0) false (List.length values) Cap.any,
  AV.sl zwords (Ref.mk 2 0 0 0) false (List.length words) Cap.any, jk, jk, jk, AV.bool true false,
  jk, jk, jk, jk, jk, jk, jk, jk, jk, jk, jk, jk, jk, jk, AV.bool false true,
  AV.bool true false, AV.sl zwidths (Ref.mk 0 0 0 0) false (List.length widths) Cap.any,
  AV.int IntKind.i64 false ((List.length widths) : Int), AV.bool false (decide (((List.length widths) : Int) > (300 : Int))), AV.bool true false,
  AV.sl zvalues (Ref.mk 1 0 0 0) false (List.length values) Cap.any, AV.int IntKind.i64 false ((List.length values) : Int),
  AV.bool false (decide (((List.length values) : Int) > (300 : Int))), AV.bool false (decide (((List.length values) : Int) > (300 : Int))), AV.bool true false,
  AV.sl zwords (Ref.mk 2 0 0 0) false (List.length words) Cap.any, AV.int IntKind.i64 false ((List.length words) : Int),
  AV.bool false (decide (((List.length words) : Int) > (300 : Int))), AV.bool true false, jk,
  AV.sl zwidths (Ref.mk 0 0 0 0) false (List.length widths) Cap.any,
  AV.sl zvalues (Ref.mk 1 0 0 0) false (List.length values) Cap.any, jk, jk, jk, jk, jk,
  jk, jk, jk, jk, jk, jk, jk, jk, jk, jk, jk, jk, jk, jk, jk, jk, jk,
  jk, jk, jk, jk, jk, jk, jk, jk, jk, jk, jk, jk, jk, jk, jk, jk, jk,
  jk, jk, jk, jk, jk, jk, jk, jk, jk, jk, jk, jk, jk, jk, jk, jk, jk,
  jk, jk, jk, jk, jk, jk, jk, jk, jk, jk, jk, jk, jk, jk, jk, jk, jk,
  jk, jk, jk, jk, jk, jk, jk, jk, jk, jk, jk, jk, jk, jk, jk, jk, jk,
  jk, jk, jk, jk, jk, jk, jk, jk, jk, jk])
  [Operand.tmp 37, Operand.tmp 38] ++
  []))
  [])))
  (Blk.mk 3 false false true (Data.ints IntKind.i64 values)))),
  some (Blk.mk 3 false false true (Data.ints IntKind.i64 words)),
  some
  (Blk.ren
  (fun i =>
  Bool.rec
  (some
  (List.length
  (id
  [some (Blk.mk 3 false false true (Data.ints IntKind.i64 widths)), some (Blk.mk 3 false false true (Data.ints IntKind.i64 values)),
  some (Blk.mk 3 false false true (Data.ints IntKind.i64 words))]) +
  (i -
  List.length
  (List.range (0) ++
  List.filter (fun i => !decide (i < 0))
  (reach
  (id
  [some (Blk.mk 3 false false true (Data.ints IntKind.i64 widths)), some (Blk.mk 3 false false true (Data.ints IntKind.i64 values)),
  some (Blk.mk 3 false false true (Data.ints IntKind.i64 words))])
  fuelR
  (AV.refsL
  ([] ++
  List.map
  (opnd (mkL Try.prog 0 (fun x => none) tab19 rowsPackFull)
  [AV.sl zwidths (Ref.mk 0 0 0 0) false (List.length widths) Cap.any,
  AV.sl zvalues (Ref.mk 1 0 0 0) false (List.length values) Cap.any,
  AV.sl zwords (Ref.mk 2 0 0 0) false (List.length words) Cap.any, jk, jk, jk,
  AV.bool true false, jk, jk, jk, jk, jk, jk, jk, jk, jk, jk, jk, jk, jk, jk,
  AV.bool false true, AV.bool true false, AV.sl zwidths (Ref.mk 0 0 0 0) false (List.length widths) Cap.any,
  AV.int IntKind.i64 false ((List.length widths) : Int), AV.bool false (decide (((List.length widths) : Int) > (300 : Int))), AV.bool true false,
  AV.sl zvalues (Ref.mk 1 0 0 0) false (List.length values) Cap.any,
  AV.int IntKind.i64 false ((List.length values) : Int), AV.bool false (decide (((List.length values) : Int) > (300 : Int))),
  AV.bool false (decide (((List.length values) : Int) > (300 : Int))), AV.bool true false,
  AV.sl zwords (Ref.mk 2 0 0 0) false (List.length words) Cap.any,
  AV.int IntKind.i64 false ((List.length words) : Int), AV.bool false (decide (((List.length words) : Int) > (300 : Int))), AV.bool true false, jk,
  AV.sl zwidths (Ref.mk 0 0 0 0) false (List.length widths) Cap.any,
  AV.sl zvalues (Ref.mk 1 0 0 0) false (List.length values) Cap.any, jk, jk, jk, jk,
  jk, jk, jk, jk, jk, jk, jk, jk, jk, jk, jk, jk, jk, jk, jk, jk,
  jk, jk, jk, jk, jk, jk, jk, jk, jk, jk, jk, jk, jk, jk, jk, jk,
  jk, jk, jk, jk, jk, jk, jk, jk, jk, jk, jk, jk, jk, jk, jk, jk,
  jk, jk, jk, jk, jk, jk, jk, jk, jk, jk, jk, jk, jk, jk, jk, jk,
  jk, jk, jk, jk, jk, jk, jk, jk, jk, jk, jk, jk, jk, jk, jk, jk,
  jk, jk, jk, jk, jk, jk, jk, jk, jk, jk, jk, jk, jk, jk, jk, jk])
  [Operand.tmp 37, Operand.tmp 38] ++
  []))
  [])))))
  (List.range (0) ++
  List.filter (fun i => !decide (i < 0))
  (reach
  (id
  [some (Blk.mk 3 false false true (Data.ints IntKind.i64 widths)), some (Blk.mk 3 false false true (Data.ints IntKind.i64 values)),
  some (Blk.mk 3 false false true (Data.ints IntKind.i64 words))])
  fuelR
  (AV.refsL
  ([] ++
  List.map
  (opnd (mkL Try.prog 0 (fun x => none) tab19 rowsPackFull)
  [AV.sl zwidths (Ref.mk 0 0 0 0) false (List.length widths) Cap.any,
  AV.sl zvalues (Ref.mk 1 0 0 0) false (List.length values) Cap.any,
  AV.sl zwords (Ref.mk 2 0 0 0) false (List.length words) Cap.any, jk, jk, jk, AV.bool true false,
  jk, jk, jk, jk, jk, jk, jk, jk, jk, jk, jk, jk, jk, jk, AV.bool false true,
  AV.bool true false, AV.sl zwidths (Ref.mk 0 0 0 0) false (List.length widths) Cap.any,
  AV.int IntKind.i64 false ((List.length widths) : Int), AV.bool false (decide (((List.length widths) : Int) > (300 : Int))), AV.bool true false,
  AV.sl zvalues (Ref.mk 1 0 0 0) false (List.length values) Cap.any,
  AV.int IntKind.i64 false ((List.length values) : Int), AV.bool false (decide (((List.length values) : Int) > (300 : Int))),
  AV.bool false (decide (((List.length values) : Int) > (300 : Int))), AV.bool true false,
  AV.sl zwords (Ref.mk 2 0 0 0) false (List.length words) Cap.any, AV.int IntKind.i64 false ((List.length words) : Int),
  AV.bool false (decide (((List.length words) : Int) > (300 : Int))), AV.bool true false, jk,
  AV.sl zwidths (Ref.mk 0 0 0 0) false (List.length widths) Cap.any,
  AV.sl zvalues (Ref.mk 1 0 0 0) false (List.length values) Cap.any, jk, jk, jk, jk, jk,
  jk, jk, jk, jk, jk, jk, jk, jk, jk, jk, jk, jk, jk, jk, jk, jk, jk,
  jk, jk, jk, jk, jk, jk, jk, jk, jk, jk, jk, jk, jk, jk, jk, jk, jk,
  jk, jk, jk, jk, jk, jk, jk, jk, jk, jk, jk, jk, jk, jk, jk, jk, jk,
  jk, jk, jk, jk, jk, jk, jk, jk, jk, jk, jk, jk, jk, jk, jk, jk, jk,
  jk, jk, jk, jk, jk, jk, jk, jk, jk, jk, jk, jk, jk, jk, jk, jk, jk,
  jk, jk, jk, jk, jk, jk, jk, jk, jk, jk])
  [Operand.tmp 37, Operand.tmp 38] ++
  []))
  []))[i]?
  (decide
  (i <
  List.length
  (List.range (0) ++
  List.filter (fun i => !decide (i < 0))
  (reach
  (id
  [some (Blk.mk 3 false false true (Data.ints IntKind.i64 widths)), some (Blk.mk 3 false false true (Data.ints IntKind.i64 values)),
  some (Blk.mk 3 false false true (Data.ints IntKind.i64 words))])
  fuelR
  (AV.refsL
  ([] ++
  List.map
  (opnd (mkL Try.prog 0 (fun x => none) tab19 rowsPackFull)
  [AV.sl zwidths (Ref.mk 0 0 0 0) false (List.length widths) Cap.any,
  AV.sl zvalues (Ref.mk 1 0 0 0) false (List.length values) Cap.any,
  AV.sl zwords (Ref.mk 2 0 0 0) false (List.length words) Cap.any, jk, jk, jk, AV.bool true false,
  jk, jk, jk, jk, jk, jk, jk, jk, jk, jk, jk, jk, jk, jk, AV.bool false true,
  AV.bool true false, AV.sl zwidths (Ref.mk 0 0 0 0) false (List.length widths) Cap.any,
  AV.int IntKind.i64 false ((List.length widths) : Int), AV.bool false (decide (((List.length widths) : Int) > (300 : Int))), AV.bool true false,
  AV.sl zvalues (Ref.mk 1 0 0 0) false (List.length values) Cap.any,
  AV.int IntKind.i64 false ((List.length values) : Int), AV.bool false (decide (((List.length values) : Int) > (300 : Int))),
  AV.bool false (decide (((List.length values) : Int) > (300 : Int))), AV.bool true false,
  AV.sl zwords (Ref.mk 2 0 0 0) false (List.length words) Cap.any,
  AV.int IntKind.i64 false ((List.length words) : Int), AV.bool false (decide (((List.length words) : Int) > (300 : Int))), AV.bool true false, jk,
  AV.sl zwidths (Ref.mk 0 0 0 0) false (List.length widths) Cap.any,
  AV.sl zvalues (Ref.mk 1 0 0 0) false (List.length values) Cap.any, jk, jk, jk, jk, jk,
  jk, jk, jk, jk, jk, jk, jk, jk, jk, jk, jk, jk, jk, jk, jk, jk,
  jk, jk, jk, jk, jk, jk, jk, jk, jk, jk, jk, jk, jk, jk, jk, jk,
  jk, jk, jk, jk, jk, jk, jk, jk, jk, jk, jk, jk, jk, jk, jk, jk,
  jk, jk, jk, jk, jk, jk, jk, jk, jk, jk, jk, jk, jk, jk, jk, jk,
  jk, jk, jk, jk, jk, jk, jk, jk, jk, jk, jk, jk, jk, jk, jk, jk,
  jk, jk, jk, jk, jk, jk, jk, jk, jk, jk, jk, jk, jk, jk, jk])
  [Operand.tmp 37, Operand.tmp 38] ++
  []))
  [])))))
  (Blk.mk 3 true
  (decide (fieldsL (List.take (List.length widths) (List.drop (0) widths)) (List.take (List.length values) (List.drop (0) values)) = [])) true
  (Data.ints IntKind.i64
  (fieldsL (List.take (List.length widths) (List.drop (0) widths)) (List.take (List.length values) (List.drop (0) values))))))]) +
  (1 -
  List.length
  (List.range (0) ++
  List.filter (fun i => !decide (i < 0))
  (reach
  (id
  [some
  (Blk.ren
  (fun i =>
  Bool.rec
  (some
  (List.length
  (id
  [some (Blk.mk 3 false false true (Data.ints IntKind.i64 widths)), some (Blk.mk 3 false false true (Data.ints IntKind.i64 values)),
  some (Blk.mk 3 false false true (Data.ints IntKind.i64 words))]) +
  (i -
  List.length
  (List.range (0) ++
  List.filter (fun i => !decide (i < 0))
  (reach
  (id
  [some (Blk.mk 3 false false true (Data.ints IntKind.i64 widths)),
  some (Blk.mk 3 false false true (Data.ints IntKind.i64 values)),
  some (Blk.mk 3 false false true (Data.ints IntKind.i64 words))])
  fuelR
  (AV.refsL
  ([] ++
  List.map
  (opnd (mkL Try.prog 0 (fun x => none) tab19 rowsPackFull)
  [AV.sl zwidths (Ref.mk 0 0 0 0) false (List.length widths) Cap.any,
  AV.sl zvalues (Ref.mk 1 0 0 0) false (List.length values) Cap.any,
  AV.sl zwords (Ref.mk 2 0 0 0) false (List.length words) Cap.any, jk, jk, jk,
  AV.bool true false, jk, jk, jk, jk, jk, jk, jk, jk, jk, jk, jk, jk, jk,
  jk, AV.bool false true, AV.bool true false,
  AV.sl zwidths (Ref.mk 0 0 0 0) false (List.length widths) Cap.any,
  AV.int IntKind.i64 false ((List.length widths) : Int), AV.bool false (decide (((List.length widths) : Int) > (300 : Int))), AV.bool true false,
  AV.sl zvalues (Ref.mk 1 0 0 0) false (List.length values) Cap.any,
  AV.int IntKind.i64 false ((List.length values) : Int), AV.bool false (decide (((List.length values) : Int) > (300 : Int))),
  AV.bool false (decide (((List.length values) : Int) > (300 : Int))), AV.bool true false,
  AV.sl zwords (Ref.mk 2 0 0 0) false (List.length words) Cap.any,
  AV.int IntKind.i64 false ((List.length words) : Int), AV.bool false (decide (((List.length words) : Int) > (300 : Int))), AV.bool true false,
  jk, AV.sl zwidths (Ref.mk 0 0 0 0) false (List.length widths) Cap.any,
  AV.sl zvalues (Ref.mk 1 0 0 0) false (List.length values) Cap.any, jk, jk, jk, jk,
  jk, jk, jk, jk, jk, jk, jk, jk, jk, jk, jk, jk, jk, jk, jk,
  jk, jk, jk, jk, jk, jk, jk, jk, jk, jk, jk, jk, jk, jk, jk,
  jk, jk, jk, jk, jk, jk, jk, jk, jk, jk, jk, jk, jk, jk, jk,
  jk, jk, jk, jk, jk, jk, jk, jk, jk, jk, jk, jk, jk, jk, jk,
  jk, jk, jk, jk, jk, jk, jk, jk, jk, jk, jk, jk, jk, jk, jk,
  jk, jk, jk, jk, jk, jk, jk, jk, jk, jk, jk, jk, jk, jk, jk,
  jk, jk, jk, jk, jk, jk])
  [Operand.tmp 37, Operand.tmp 38] ++
  []))
  [])))))
  (List.range (0) ++
  List.filter (fun i => !decide (i < 0))
  (reach
  (id
  [some (Blk.mk 3 false false true (Data.ints IntKind.i64 widths)),
  some (Blk.mk 3 false false true (Data.ints IntKind.i64 values)),
  some (Blk.mk 3 false false true (Data.ints IntKind.i64 words))])
  fuelR
  (AV.refsL
  ([] ++
  List.map
  (opnd (mkL Try.prog 0 (fun x => none) tab19 rowsPackFull)
  [AV.sl zwidths (Ref.mk 0 0 0 0) false (List.length widths) Cap.any,
  AV.sl zvalues (Ref.mk 1 0 0 0) false (List.length values) Cap.any,
  AV.sl zwords (Ref.mk 2 0 0 0) false (List.length words) Cap.any, jk, jk, jk,
  AV.bool true false, jk, jk, jk, jk, jk, jk, jk, jk, jk, jk, jk, jk, jk, jk,
  AV.bool false true, AV.bool true false, AV.sl zwidths (Ref.mk 0 0 0 0) false (List.length widths) Cap.any,
  AV.int IntKind.i64 false ((List.length widths) : Int), AV.bool false (decide (((List.length widths) : Int) > (300 : Int))), AV.bool true false,
  AV.sl zvalues (Ref.mk 1 0 0 0) false (List.length values) Cap.any,
  AV.int IntKind.i64 false ((List.length values) : Int), AV.bool false (decide (((List.length values) : Int) > (300 : Int))),
  AV.bool false (decide (((List.length values) : Int) > (300 : Int))), AV.bool true false,
  AV.sl zwords (Ref.mk 2 0 0 0) false (List.length words) Cap.any,
  AV.int IntKind.i64 false ((List.length words) : Int), AV.bool false (decide (((List.length words) : Int) > (300 : Int))), AV.bool true false, jk,
  AV.sl zwidths (Ref.mk 0 0 0 0) false (List.length widths) Cap.any,
  AV.sl zvalues (Ref.mk 1 0 0 0) false (List.length values) Cap.any, jk, jk, jk, jk,
  jk, jk, jk, jk, jk, jk, jk, jk, jk, jk, jk, jk, jk, jk, jk, jk,
  jk, jk, jk, jk, jk, jk, jk, jk, jk, jk, jk, jk, jk, jk, jk, jk,
  jk, jk, jk, jk, jk, jk, jk, jk, jk, jk, jk, jk, jk, jk, jk, jk,
  jk, jk, jk, jk, jk, jk, jk, jk, jk, jk, jk, jk, jk, jk, jk, jk,
  jk, jk, jk, jk, jk, jk, jk, jk, jk, jk, jk, jk, jk, jk, jk, jk,
  jk, jk, jk, jk, jk, jk, jk, jk, jk, jk, jk, jk, jk, jk, jk, jk])
  [Operand.tmp 37, Operand.tmp 38] ++
  []))
  []))[i]?
  (decide
  (i <
  List.length
  (List.range (0) ++
  List.filter (fun i => !decide (i < 0))
  (reach
  (id
  [some (Blk.mk 3 false false true (Data.ints IntKind.i64 widths)),
  some (Blk.mk 3 false false true (Data.ints IntKind.i64 values)),
  some (Blk.mk 3 false false true (Data.ints IntKind.i64 words))])
  fuelR
  (AV.refsL
  ([] ++
  List.map
  (opnd (mkL Try.prog 0 (fun x => none) tab19 rowsPackFull)
  [AV.sl zwidths (Ref.mk 0 0 0 0) false (List.length widths) Cap.any,
  AV.sl zvalues (Ref.mk 1 0 0 0) false (List.length values) Cap.any,
  AV.sl zwords (Ref.mk 2 0 0 0) false (List.length words) Cap.any, jk, jk, jk,
  AV.bool true false, jk, jk, jk, jk, jk, jk, jk, jk, jk, jk, jk, jk, jk,
  jk, AV.bool false true, AV.bool true false,
  AV.sl zwidths (Ref.mk 0 0 0 0) false (List.length widths) Cap.any,
  AV.int IntKind.i64 false ((List.length widths) : Int), AV.bool false (decide (((List.length widths) : Int) > (300 : Int))), AV.bool true false,
  AV.sl zvalues (Ref.mk 1 0 0 0) false (List.length values) Cap.any,
  AV.int IntKind.i64 false ((List.length values) : Int), AV.bool false (decide (((List.length values) : Int) > (300 : Int))),
  AV.bool false (decide (((List.length values) : Int) > (300 : Int))), AV.bool true false,
  AV.sl zwords (Ref.mk 2 0 0 0) false (List.length words) Cap.any,
  AV.int IntKind.i64 false ((List.length words) : Int), AV.bool false (decide (((List.length words) : Int) > (300 : Int))), AV.bool true false, jk,
  AV.sl zwidths (Ref.mk 0 0 0 0) false (List.length widths) Cap.any,
  AV.sl zvalues (Ref.mk 1 0 0 0) false (List.length values) Cap.any, jk, jk, jk, jk,
  jk, jk, jk, jk, jk, jk, jk, jk, jk, jk, jk, jk, jk, jk, jk,
  jk, jk, jk, jk, jk, jk, jk, jk, jk, jk, jk, jk, jk, jk, jk,
  jk, jk, jk, jk, jk, jk, jk, jk, jk, jk, jk, jk, jk, jk, jk,
  jk, jk, jk, jk, jk, jk, jk, jk, jk, jk, jk, jk, jk, jk, jk,
  jk, jk, jk, jk, jk, jk, jk, jk, jk, jk, jk, jk, jk, jk, jk,
  jk, jk, jk, jk, jk, jk, jk, jk, jk, jk, jk, jk, jk, jk, jk,
  jk, jk, jk, jk, jk, jk])
  [Operand.tmp 37, Operand.tmp 38] ++
  []))
  [])))))
  (Blk.ren
  (idxOf
  (List.range (0) ++
  List.filter (fun i => !decide (i < 0))
  (reach
  (id
  [some (Blk.mk 3 false false true (Data.ints IntKind.i64 widths)), some (Blk.mk 3 false false true (Data.ints IntKind.i64 values)),
  some (Blk.mk 3 false false true (Data.ints IntKind.i64 words))])
  fuelR
  (AV.refsL
  ([] ++
  List.map
  (opnd (mkL Try.prog 0 (fun x => none) tab19 rowsPackFull)
  [AV.sl zwidths (Ref.mk 0 0 0 0) false (List.length widths) Cap.any,
  AV.sl zvalues (Ref.mk 1 0 0 0) false (List.length values) Cap.any,
  AV.sl zwords (Ref.mk 2 0 0 0) false (List.length words) Cap.any, jk, jk, jk,
  AV.bool true false, jk, jk, jk, jk, jk, jk, jk, jk, jk, jk, jk, jk, jk, jk,
  AV.bool false true, AV.bool true false, AV.sl zwidths (Ref.mk 0 0 0 0) false (List.length widths) Cap.any,
  AV.int IntKind.i64 false ((List.length widths) : Int), AV.bool false (decide (((List.length widths) : Int) > (300 : Int))), AV.bool true false,
  AV.sl zvalues (Ref.mk 1 0 0 0) false (List.length values) Cap.any,
  AV.int IntKind.i64 false ((List.length values) : Int), AV.bool false (decide (((List.length values) : Int) > (300 : Int))),
  AV.bool false (decide (((List.length values) : Int) > (300 : Int))), AV.bool true false,
  AV.sl zwords (Ref.mk 2 0 0 0) false (List.length words) Cap.any,
  AV.int IntKind.i64 false ((List.length words) : Int), AV.bool false (decide (((List.length words) : Int) > (300 : Int))), AV.bool true false, jk,
  AV.sl zwidths (Ref.mk 0 0 0 0) false (List.length widths) Cap.any,
  AV.sl zvalues (Ref.mk 1 0 0 0) false (List.length values) Cap.any, jk, jk, jk, jk,
  jk, jk, jk, jk, jk, jk, jk, jk, jk, jk, jk, jk, jk, jk, jk, jk,
  jk, jk, jk, jk, jk, jk, jk, jk, jk, jk, jk, jk, jk, jk, jk, jk,
  jk, jk, jk, jk, jk, jk, jk, jk, jk, jk, jk, jk, jk, jk, jk, jk,
  jk, jk, jk, jk, jk, jk, jk, jk, jk, jk, jk, jk, jk, jk, jk, jk,
  jk, jk, jk, jk, jk, jk, jk, jk, jk, jk, jk, jk, jk, jk, jk, jk,
  jk, jk, jk, jk, jk, jk, jk, jk, jk, jk, jk, jk, jk, jk, jk, jk])
  [Operand.tmp 37, Operand.tmp 38] ++
  []))
  [])))
  (Blk.mk 3 false false true (Data.ints IntKind.i64 widths)))),
  some
  (Blk.ren
  (fun i =>
  Bool.rec
  (some
  (List.length
  (id
  [some (Blk.mk 3 false false true (Data.ints IntKind.i64 widths)), some (Blk.mk 3 false false true (Data.ints IntKind.i64 values)),
  some (Blk.mk 3 false false true (Data.ints IntKind.i64 words))]) +
  (i -
  List.length
  (List.range (0) ++
  List.filter (fun i => !decide (i < 0))
  (reach
  (id
  [some (Blk.mk 3 false false true (Data.ints IntKind.i64 widths)),
  some (Blk.mk 3 false false true (Data.ints IntKind.i64 values)),
  some (Blk.mk 3 false false true (Data.ints IntKind.i64 words))])
  fuelR
  (AV.refsL
  ([] ++
  List.map
  (opnd (mkL Try.prog 0 (fun x => none) tab19 rowsPackFull)
  [AV.sl zwidths (Ref.mk 0 0 0 0) false (List.length widths) Cap.any,
  AV.sl zvalues (Ref.mk 1 0 0 0) false (List.length values) Cap.any,
  AV.sl zwords (Ref.mk 2 0 0 0) false (List.length words) Cap.any, jk, jk, jk,
  AV.bool true false, jk, jk, jk, jk, jk, jk, jk, jk, jk, jk, jk, jk, jk,
  jk, AV.bool false true, AV.bool true false,
  AV.sl zwidths (Ref.mk 0 0 0 0) false (List.length widths) Cap.any,
  AV.int IntKind.i64 false ((List.length widths) : Int), AV.bool false (decide (((List.length widths) : Int) > (300 : Int))), AV.bool true false,
  AV.sl zvalues (Ref.mk 1 0 0 0) false (List.length values) Cap.any,
  AV.int IntKind.i64 false ((List.length values) : Int), AV.bool false (decide (((List.length values) : Int) > (300 : Int))),
  AV.bool false (decide (((List.length values) : Int) > (300 : Int))), AV.bool true false,
  AV.sl zwords (Ref.mk 2 0 0 0) false (List.length words) Cap.any,
  AV.int IntKind.i64 false ((List.length words) : Int), AV.bool false (decide (((List.length words) : Int) > (300 : Int))), AV.bool true false,
  jk, AV.sl zwidths (Ref.mk 0 0 0 0) false (List.length widths) Cap.any,
  AV.sl zvalues (Ref.mk 1 0 0 0) false (List.length values) Cap.any, jk, jk, jk, jk,
  jk, jk, jk, jk, jk, jk, jk, jk, jk, jk, jk, jk, jk, jk, jk,
  jk, jk, jk, jk, jk, jk, jk, jk, jk, jk, jk, jk, jk, jk, jk,
  jk, jk, jk, jk, jk, jk, jk, jk, jk, jk, jk, jk, jk, jk, jk,
  jk, jk, jk, jk, jk, jk, jk, jk, jk, jk, jk, jk, jk, jk, jk,
  jk, jk, jk, jk, jk, jk, jk, jk, jk, jk, jk, jk, jk, jk, jk,
  jk, jk, jk, jk, jk, jk, jk, jk, jk, jk, jk, jk, jk, jk, jk,
  jk, jk, jk, jk, jk, jk])
  [Operand.tmp 37, Operand.tmp 38] ++
  []))
  [])))))
  (List.range (0) ++
  List.filter (fun i => !decide (i < 0))
  (reach
  (id
  [some (Blk.mk 3 false false true (Data.ints IntKind.i64 widths)),
  some (Blk.mk 3 false false true (Data.ints IntKind.i64 values)),
  some (Blk.mk 3 false false true (Data.ints IntKind.i64 words))])
  fuelR
  (AV.refsL
  ([] ++
  List.map
  (opnd (mkL Try.prog 0 (fun x => none) tab19 rowsPackFull)
  [AV.sl zwidths (Ref.mk 0 0 0 0) false (List.length widths) Cap.any,
  AV.sl zvalues (Ref.mk 1 0 0 0) false (List.length values) Cap.any,
  AV.sl zwords (Ref.mk 2 0 0 0) false (List.length words) Cap.any, jk, jk, jk,
  AV.bool true false, jk, jk, jk, jk, jk, jk, jk, jk, jk, jk, jk, jk, jk, jk,
  AV.bool false true, AV.bool true false, AV.sl zwidths (Ref.mk 0 0 0 0) false (List.length widths) Cap.any,
  AV.int IntKind.i64 false ((List.length widths) : Int), AV.bool false (decide (((List.length widths) : Int) > (300 : Int))), AV.bool true false,
  AV.sl zvalues (Ref.mk 1 0 0 0) false (List.length values) Cap.any,
  AV.int IntKind.i64 false ((List.length values) : Int), AV.bool false (decide (((List.length values) : Int) > (300 : Int))),
  AV.bool false (decide (((List.length values) : Int) > (300 : Int))), AV.bool true false,
  AV.sl zwords (Ref.mk 2 0 0 0) false (List.length words) Cap.any,
  AV.int IntKind.i64 false ((List.length words) : Int), AV.bool false (decide (((List.length words) : Int) > (300 : Int))), AV.bool true false, jk,
  AV.sl zwidths (Ref.mk 0 0 0 0) false (List.length widths) Cap.any,
  AV.sl zvalues (Ref.mk 1 0 0 0) false (List.length values) Cap.any, jk, jk, jk, jk,
  jk, jk, jk, jk, jk, jk, jk, jk, jk, jk, jk, jk, jk, jk, jk, jk,
  jk, jk, jk, jk, jk, jk, jk, jk, jk, jk, jk, jk, jk, jk, jk, jk,
  jk, jk, jk, jk, jk, jk, jk, jk, jk, jk, jk, jk, jk, jk, jk, jk,
  jk, jk, jk, jk, jk, jk, jk, jk, jk, jk, jk, jk, jk, jk, jk, jk,
  jk, jk, jk, jk, jk, jk, jk, jk, jk, jk, jk, jk, jk, jk, jk, jk,
  jk, jk, jk, jk, jk, jk, jk, jk, jk, jk, jk, jk, jk, jk, jk, jk])
  [Operand.tmp 37, Operand.tmp 38] ++
  []))
  []))[i]?
  (decide
  (i <
  List.length
  (List.range (0) ++
  List.filter (fun i => !decide (i < 0))
  (reach
  (id
  [some (Blk.mk 3 false false true (Data.ints IntKind.i64 widths)),
  some (Blk.mk 3 false false true (Data.ints IntKind.i64 values)),
  some (Blk.mk 3 false false true (Data.ints IntKind.i64 words))])
  fuelR
  (AV.refsL
  ([] ++
  List.map
  (opnd (mkL Try.prog 0 (fun x => none) tab19 rowsPackFull)
  [AV.sl zwidths (Ref.mk 0 0 0 0) false (List.length widths) Cap.any,
  AV.sl zvalues (Ref.mk 1 0 0 0) false (List.length values) Cap.any,
  AV.sl zwords (Ref.mk 2 0 0 0) false (List.length words) Cap.any, jk, jk, jk,
  AV.bool true false, jk, jk, jk, jk, jk, jk, jk, jk, jk, jk, jk, jk, jk,
  jk, AV.bool false true, AV.bool true false,
  AV.sl zwidths (Ref.mk 0 0 0 0) false (List.length widths) Cap.any,
  AV.int IntKind.i64 false ((List.length widths) : Int), AV.bool false (decide (((List.length widths) : Int) > (300 : Int))), AV.bool true false,
  AV.sl zvalues (Ref.mk 1 0 0 0) false (List.length values) Cap.any,
  AV.int IntKind.i64 false ((List.length values) : Int), AV.bool false (decide (((List.length values) : Int) > (300 : Int))),
  AV.bool false (decide (((List.length values) : Int) > (300 : Int))), AV.bool true false,
  AV.sl zwords (Ref.mk 2 0 0 0) false (List.length words) Cap.any,
  AV.int IntKind.i64 false ((List.length words) : Int), AV.bool false (decide (((List.length words) : Int) > (300 : Int))), AV.bool true false, jk,
  AV.sl zwidths (Ref.mk 0 0 0 0) false (List.length widths) Cap.any,
  AV.sl zvalues (Ref.mk 1 0 0 0) false (List.length values) Cap.any, jk, jk, jk, jk,
  jk, jk, jk, jk, jk, jk, jk, jk, jk, jk, jk, jk, jk, jk, jk,
  jk, jk, jk, jk, jk, jk, jk, jk, jk, jk, jk, jk, jk, jk, jk,
  jk, jk, jk, jk, jk, jk, jk, jk, jk, jk, jk, jk, jk, jk, jk,
  jk, jk, jk, jk, jk, jk, jk, jk, jk, jk, jk, jk, jk, jk, jk,
  jk, jk, jk, jk, jk, jk, jk, jk, jk, jk, jk, jk, jk, jk, jk,
  jk, jk, jk, jk, jk, jk, jk, jk, jk, jk, jk, jk, jk, jk, jk,
  jk, jk, jk, jk, jk, jk])
  [Operand.tmp 37, Operand.tmp 38] ++
  []))
  [])))))
  (Blk.ren
  (idxOf
  (List.range (0) ++
  List.filter (fun i => !decide (i < 0))
  (reach
  (id
  [some (Blk.mk 3 false false true (Data.ints IntKind.i64 widths)), some (Blk.mk 3 false false true (Data.ints IntKind.i64 values)),
  some (Blk.mk 3 false false true (Data.ints IntKind.i64 words))])
  fuelR
  (AV.refsL
  ([] ++
  List.map
  (opnd (mkL Try.prog 0 (fun x => none) tab19 rowsPackFull)
  [AV.sl zwidths (Ref.mk 0 0 0 0) false (List.length widths) Cap.any,
  AV.sl zvalues (Ref.mk 1 0 0 0) false (List.length values) Cap.any,
  AV.sl zwords (Ref.mk 2 0 0 0) false (List.length words) Cap.any, jk, jk, jk,
  AV.bool true false, jk, jk, jk, jk, jk, jk, jk, jk, jk, jk, jk, jk, jk, jk,
  AV.bool false true, AV.bool true false, AV.sl zwidths (Ref.mk 0 0 0 0) false (List.length widths) Cap.any,
  AV.int IntKind.i64 false ((List.length widths) : Int), AV.bool false (decide (((List.length widths) : Int) > (300 : Int))), AV.bool true false,
  AV.sl zvalues (Ref.mk 1 0 0 0) false (List.length values) Cap.any,
  AV.int IntKind.i64 false ((List.length values) : Int), AV.bool false (decide (((List.length values) : Int) > (300 : Int))),
  AV.bool false (decide (((List.length values) : Int) > (300 : Int))), AV.bool true false,
  AV.sl zwords (Ref.mk 2 0 0 0) false (List.length words) Cap.any,
  AV.int IntKind.i64 false ((List.length words) : Int), AV.bool false (decide (((List.length words) : Int) > (300 : Int))), AV.bool true false, jk,
  AV.sl zwidths (Ref.mk 0 0 0 0) false (List.length widths) Cap.any,
  AV.sl zvalues (Ref.mk 1 0 0 0) false (List.length values) Cap.any, jk, jk, jk, jk,
  jk, jk, jk, jk, jk, jk, jk, jk, jk, jk, jk, jk, jk, jk, jk, jk,
  jk, jk, jk, jk, jk, jk, jk, jk, jk, jk, jk, jk, jk, jk, jk, jk,
  jk, jk, jk, jk, jk, jk, jk, jk, jk, jk, jk, jk, jk, jk, jk, jk,
  jk, jk, jk, jk, jk, jk, jk, jk, jk, jk, jk, jk, jk, jk, jk, jk,
  jk, jk, jk, jk, jk, jk, jk, jk, jk, jk, jk, jk, jk, jk, jk, jk,
  jk, jk, jk, jk, jk, jk, jk, jk, jk, jk, jk, jk, jk, jk, jk, jk])
  [Operand.tmp 37, Operand.tmp 38] ++
  []))
  [])))
  (Blk.mk 3 false false true (Data.ints IntKind.i64 values)))),
  some (Blk.mk 3 false false true (Data.ints IntKind.i64 words)),
  some
  (Blk.ren
  (fun i =>
  Bool.rec
  (some
  (List.length
  (id
  [some (Blk.mk 3 false false true (Data.ints IntKind.i64 widths)), some (Blk.mk 3 false false true (Data.ints IntKind.i64 values)),
  some (Blk.mk 3 false false true (Data.ints IntKind.i64 words))]) +
  (i -
  List.length
  (List.range (0) ++
  List.filter (fun i => !decide (i < 0))
  (reach
  (id
  [some (Blk.mk 3 false false true (Data.ints IntKind.i64 widths)),
  some (Blk.mk 3 false false true (Data.ints IntKind.i64 values)),
  some (Blk.mk 3 false false true (Data.ints IntKind.i64 words))])
  fuelR
  (AV.refsL
  ([] ++
  List.map
  (opnd (mkL Try.prog 0 (fun x => none) tab19 rowsPackFull)
  [AV.sl zwidths (Ref.mk 0 0 0 0) false (List.length widths) Cap.any,
  AV.sl zvalues (Ref.mk 1 0 0 0) false (List.length values) Cap.any,
  AV.sl zwords (Ref.mk 2 0 0 0) false (List.length words) Cap.any, jk, jk, jk,
  AV.bool true false, jk, jk, jk, jk, jk, jk, jk, jk, jk, jk, jk, jk, jk,
  jk, AV.bool false true, AV.bool true false,
  AV.sl zwidths (Ref.mk 0 0 0 0) false (List.length widths) Cap.any,
  AV.int IntKind.i64 false ((List.length widths) : Int), AV.bool false (decide (((List.length widths) : Int) > (300 : Int))), AV.bool true false,
  AV.sl zvalues (Ref.mk 1 0 0 0) false (List.length values) Cap.any,
  AV.int IntKind.i64 false ((List.length values) : Int), AV.bool false (decide (((List.length values) : Int) > (300 : Int))),
  AV.bool false (decide (((List.length values) : Int) > (300 : Int))), AV.bool true false,
  AV.sl zwords (Ref.mk 2 0 0 0) false (List.length words) Cap.any,
  AV.int IntKind.i64 false ((List.length words) : Int), AV.bool false (decide (((List.length words) : Int) > (300 : Int))), AV.bool true false,
  jk, AV.sl zwidths (Ref.mk 0 0 0 0) false (List.length widths) Cap.any,
  AV.sl zvalues (Ref.mk 1 0 0 0) false (List.length values) Cap.any, jk, jk, jk, jk,
  jk, jk, jk, jk, jk, jk, jk, jk, jk, jk, jk, jk, jk, jk, jk,
  jk, jk, jk, jk, jk, jk, jk, jk, jk, jk, jk, jk, jk, jk, jk,
  jk, jk, jk, jk, jk, jk, jk, jk, jk, jk, jk, jk, jk, jk, jk,
  jk, jk, jk, jk, jk, jk, jk, jk, jk, jk, jk, jk, jk, jk, jk,
  jk, jk, jk, jk, jk, jk, jk, jk, jk, jk, jk, jk, jk, jk, jk,
  jk, jk, jk, jk, jk, jk, jk, jk, jk, jk, jk, jk, jk, jk, jk,
  jk, jk, jk, jk, jk, jk])
  [Operand.tmp 37, Operand.tmp 38] ++
  []))
  [])))))
  (List.range (0) ++
  List.filter (fun i => !decide (i < 0))
  (reach
  (id
  [some (Blk.mk 3 false false true (Data.ints IntKind.i64 widths)),
  some (Blk.mk 3 false false true (Data.ints IntKind.i64 values)),
  some (Blk.mk 3 false false true (Data.ints IntKind.i64 words))])
  fuelR
  (AV.refsL
  ([] ++
  List.map
  (opnd (mkL Try.prog 0 (fun x => none) tab19 rowsPackFull)
  [AV.sl zwidths (Ref.mk 0 0 0 0) false (List.length widths) Cap.any,
  AV.sl zvalues (Ref.mk 1 0 0 0) false (List.length values) Cap.any,
  AV.sl zwords (Ref.mk 2 0 0 0) false (List.length words) Cap.any, jk, jk, jk,
  AV.bool true false, jk, jk, jk, jk, jk, jk, jk, jk, jk, jk, jk, jk, jk, jk,
  AV.bool false true, AV.bool true false, AV.sl zwidths (Ref.mk 0 0 0 0) false (List.length widths) Cap.any,
  AV.int IntKind.i64 false ((List.length widths) : Int), AV.bool false (decide (((List.length widths) : Int) > (300 : Int))), AV.bool true false,
  AV.sl zvalues (Ref.mk 1 0 0 0) false (List.length values) Cap.any,
  AV.int IntKind.i64 false ((List.length values) : Int), AV.bool false (decide (((List.length values) : Int) > (300 : Int))),
  AV.bool false (decide (((List.length values) : Int) > (300 : Int))), AV.bool true false,
  AV.sl zwords (Ref.mk 2 0 0 0) false (List.length words) Cap.any,
  AV.int IntKind.i64 false ((List.length words) : Int), AV.bool false (decide (((List.length words) : Int) > (300 : Int))), AV.bool true false, jk,
  AV.sl zwidths (Ref.mk 0 0 0 0) false (List.length widths) Cap.any,
  AV.sl zvalues (Ref.mk 1 0 0 0) false (List.length values) Cap.any, jk, jk, jk, jk,
  jk, jk, jk, jk, jk, jk, jk, jk, jk, jk, jk, jk, jk, jk, jk, jk,
  jk, jk, jk, jk, jk, jk, jk, jk, jk, jk, jk, jk, jk, jk, jk, jk,
  jk, jk, jk, jk, jk, jk, jk, jk, jk, jk, jk, jk, jk, jk, jk, jk,
  jk, jk, jk, jk, jk, jk, jk, jk, jk, jk, jk, jk, jk, jk, jk, jk,
  jk, jk, jk, jk, jk, jk, jk, jk, jk, jk, jk, jk, jk, jk, jk, jk,
  jk, jk, jk, jk, jk, jk, jk, jk, jk, jk, jk, jk, jk, jk, jk, jk])
  [Operand.tmp 37, Operand.tmp 38] ++
  []))
  []))[i]?
  (decide
  (i <
  List.length
  (List.range (0) ++
  List.filter (fun i => !decide (i < 0))
  (reach
  (id
  [some (Blk.mk 3 false false true (Data.ints IntKind.i64 widths)),
  some (Blk.mk 3 false false true (Data.ints IntKind.i64 values)),
  some (Blk.mk 3 false false true (Data.ints IntKind.i64 words))])
  fuelR
  (AV.refsL
  ([] ++
  List.map
  (opnd (mkL Try.prog 0 (fun x => none) tab19 rowsPackFull)
  [AV.sl zwidths (Ref.mk 0 0 0 0) false (List.length widths) Cap.any,
  AV.sl zvalues (Ref.mk 1 0 0 0) false (List.length values) Cap.any,
  AV.sl zwords (Ref.mk 2 0 0 0) false (List.length words) Cap.any, jk, jk, jk,
  AV.bool true false, jk, jk, jk, jk, jk, jk, jk, jk, jk, jk, jk, jk, jk,
  jk, AV.bool false true, AV.bool true false,
  AV.sl zwidths (Ref.mk 0 0 0 0) false (List.length widths) Cap.any,
  AV.int IntKind.i64 false ((List.length widths) : Int), AV.bool false (decide (((List.length widths) : Int) > (300 : Int))), AV.bool true false,
  AV.sl zvalues (Ref.mk 1 0 0 0) false (List.length values) Cap.any,
  AV.int IntKind.i64 false ((List.length values) : Int), AV.bool false (decide (((List.length values) : Int) > (300 : Int))),
  AV.bool false (decide (((List.length values) : Int) > (300 : Int))), AV.bool true false,
  AV.sl zwords (Ref.mk 2 0 0 0) false (List.length words) Cap.any,
  AV.int IntKind.i64 false ((List.length words) : Int), AV.bool false (decide (((List.length words) : Int) > (300 : Int))), AV.bool true false, jk,
  AV.sl zwidths (Ref.mk 0 0 0 0) false (List.length widths) Cap.any,
  AV.sl zvalues (Ref.mk 1 0 0 0) false (List.length values) Cap.any, jk, jk, jk, jk,
  jk, jk, jk, jk, jk, jk, jk, jk, jk, jk, jk, jk, jk, jk, jk,
  jk, jk, jk, jk, jk, jk, jk, jk, jk, jk, jk, jk, jk, jk, jk,
  jk, jk, jk, jk, jk, jk, jk, jk, jk, jk, jk, jk, jk, jk, jk,
  jk, jk, jk, jk, jk, jk, jk, jk, jk, jk, jk, jk, jk, jk, jk,
  jk, jk, jk, jk, jk, jk, jk, jk, jk, jk, jk, jk, jk, jk, jk,
  jk, jk, jk, jk, jk, jk, jk, jk, jk, jk, jk, jk, jk, jk, jk,
  jk, jk, jk, jk, jk, jk])
  [Operand.tmp 37, Operand.tmp 38] ++
  []))
  [])))))
  (Blk.mk 3 true
  (decide (fieldsL (List.take (List.length widths) (List.drop (0) widths)) (List.take (List.length values) (List.drop (0) values)) = [])) true
  (Data.ints IntKind.i64
  (fieldsL (List.take (List.length widths) (List.drop (0) widths)) (List.take (List.length values) (List.drop (0) values))))))])
  fuelR
  (AV.refsL
  ([] ++
  List.map
  (opnd (mkL Try.prog 0 (fun x => none) tab19 rowsPackFull)
  [AV.sl zwidths (Ref.mk 0 0 0 0) false (List.length widths) Cap.any,
  AV.sl zvalues (Ref.mk 1 0 0 0) false (List.length values) Cap.any,
  AV.sl zwords (Ref.mk 2 0 0 0) false (List.length words) Cap.any, jk, jk, jk, AV.bool true false,
  AV.sl
  (decide (fieldsL (List.take (List.length widths) (List.drop (0) widths)) (List.take (List.length values) (List.drop (0) values)) = []))
  (Ref.mk
  (List.length
  (id
  [some (Blk.mk 3 false false true (Data.ints IntKind.i64 widths)),
  some (Blk.mk 3 false false true (Data.ints IntKind.i64 values)),
  some (Blk.mk 3 false false true (Data.ints IntKind.i64 words))]) +
  (2 -
  List.length
  (List.range (0) ++
  List.filter (fun i => !decide (i < 0))
  (reach
  (id
  [some (Blk.mk 3 false false true (Data.ints IntKind.i64 widths)),
  some (Blk.mk 3 false false true (Data.ints IntKind.i64 values)),
  some (Blk.mk 3 false false true (Data.ints IntKind.i64 words))])
  fuelR
  (AV.refsL
  ([] ++
  List.map
  (opnd (mkL Try.prog 0 (fun x => none) tab19 rowsPackFull)
  [AV.sl zwidths (Ref.mk 0 0 0 0) false (List.length widths) Cap.any,
  AV.sl zvalues (Ref.mk 1 0 0 0) false (List.length values) Cap.any,
  AV.sl zwords (Ref.mk 2 0 0 0) false (List.length words) Cap.any, jk, jk, jk,
  AV.bool true false, jk, jk, jk, jk, jk, jk, jk, jk, jk, jk, jk, jk, jk,
  jk, AV.bool false true, AV.bool true false,
  AV.sl zwidths (Ref.mk 0 0 0 0) false (List.length widths) Cap.any,
  AV.int IntKind.i64 false ((List.length widths) : Int), AV.bool false (decide (((List.length widths) : Int) > (300 : Int))), AV.bool true false,
  AV.sl zvalues (Ref.mk 1 0 0 0) false (List.length values) Cap.any,
  AV.int IntKind.i64 false ((List.length values) : Int), AV.bool false (decide (((List.length values) : Int) > (300 : Int))),
  AV.bool false (decide (((List.length values) : Int) > (300 : Int))), AV.bool true false,
  AV.sl zwords (Ref.mk 2 0 0 0) false (List.length words) Cap.any,
  AV.int IntKind.i64 false ((List.length words) : Int), AV.bool false (decide (((List.length words) : Int) > (300 : Int))), AV.bool true false,
  jk, AV.sl zwidths (Ref.mk 0 0 0 0) false (List.length widths) Cap.any,
  AV.sl zvalues (Ref.mk 1 0 0 0) false (List.length values) Cap.any, jk, jk, jk,
  jk, jk, jk, jk, jk, jk, jk, jk, jk, jk, jk, jk, jk, jk, jk,
  jk, jk, jk, jk, jk, jk, jk, jk, jk, jk, jk, jk, jk, jk, jk,
  jk, jk, jk, jk, jk, jk, jk, jk, jk, jk, jk, jk, jk, jk, jk,
  jk, jk, jk, jk, jk, jk, jk, jk, jk, jk, jk, jk, jk, jk, jk,
  jk, jk, jk, jk, jk, jk, jk, jk, jk, jk, jk, jk, jk, jk, jk,
  jk, jk, jk, jk, jk, jk, jk, jk, jk, jk, jk, jk, jk, jk, jk,
  jk, jk, jk, jk, jk, jk, jk])
  [Operand.tmp 37, Operand.tmp 38] ++
  []))
  []))))
  (0) (0) (0))
  false
  (List.length (fieldsL (List.take (List.length widths) (List.drop (0) widths)) (List.take (List.length values) (List.drop (0) values))))
  Cap.own,
  AV.int IntKind.i64 false
  (fieldsE (List.take (List.length widths) (List.drop (0) widths)) (List.take (List.length values) (List.drop (0) values))),
  jk, jk, jk, jk, jk, jk, jk, jk, jk, jk, jk, jk, AV.bool false true, AV.bool true false,
  AV.sl zwidths (Ref.mk 0 0 0 0) false (List.length widths) Cap.any, AV.int IntKind.i64 false ((List.length widths) : Int),
  AV.bool false (decide (((List.length widths) : Int) > (300 : Int))), AV.bool true false,
  AV.sl zvalues (Ref.mk 1 0 0 0) false (List.length values) Cap.any, AV.int IntKind.i64 false ((List.length values) : Int),
  AV.bool false (decide (((List.length values) : Int) > (300 : Int))), AV.bool false (decide (((List.length values) : Int) > (300 : Int))), AV.bool true false,
  AV.sl zwords (Ref.mk 2 0 0 0) false (List.length words) Cap.any, AV.int IntKind.i64 false ((List.length words) : Int),
  AV.bool false (decide (((List.length words) : Int) > (300 : Int))), AV.bool true false,
  AV.tup
  [AV.sl
  (decide
  (fieldsL (List.take (List.length widths) (List.drop (0) widths)) (List.take (List.length values) (List.drop (0) values)) = []))
  (Ref.mk
  (List.length
  (id
  [some (Blk.mk 3 false false true (Data.ints IntKind.i64 widths)),
  some (Blk.mk 3 false false true (Data.ints IntKind.i64 values)),
  some (Blk.mk 3 false false true (Data.ints IntKind.i64 words))]) +
  (2 -
  List.length
  (List.range (0) ++
  List.filter (fun i => !decide (i < 0))
  (reach
  (id
  [some (Blk.mk 3 false false true (Data.ints IntKind.i64 widths)),
  some (Blk.mk 3 false false true (Data.ints IntKind.i64 values)),
  some (Blk.mk 3 false false true (Data.ints IntKind.i64 words))])
  fuelR
  (AV.refsL
  ([] ++
  List.map
  (opnd (mkL Try.prog 0 (fun x => none) tab19 rowsPackFull)
  [AV.sl zwidths (Ref.mk 0 0 0 0) false (List.length widths) Cap.any,
  AV.sl zvalues (Ref.mk 1 0 0 0) false (List.length values) Cap.any,
  AV.sl zwords (Ref.mk 2 0 0 0) false (List.length words) Cap.any, jk, jk, jk,
  AV.bool true false, jk, jk, jk, jk, jk, jk, jk, jk, jk, jk, jk, jk,
  jk, jk, AV.bool false true, AV.bool true false,
  AV.sl zwidths (Ref.mk 0 0 0 0) false (List.length widths) Cap.any,
  AV.int IntKind.i64 false ((List.length widths) : Int), AV.bool false (decide (((List.length widths) : Int) > (300 : Int))),
  AV.bool true false, AV.sl zvalues (Ref.mk 1 0 0 0) false (List.length values) Cap.any,
  AV.int IntKind.i64 false ((List.length values) : Int), AV.bool false (decide (((List.length values) : Int) > (300 : Int))),
  AV.bool false (decide (((List.length values) : Int) > (300 : Int))), AV.bool true false,
  AV.sl zwords (Ref.mk 2 0 0 0) false (List.length words) Cap.any,
  AV.int IntKind.i64 false ((List.length words) : Int), AV.bool false (decide (((List.length words) : Int) > (300 : Int))), AV.bool true false,
  jk, AV.sl zwidths (Ref.mk 0 0 0 0) false (List.length widths) Cap.any,
  AV.sl zvalues (Ref.mk 1 0 0 0) false (List.length values) Cap.any, jk, jk, jk,
  jk, jk, jk, jk, jk, jk, jk, jk, jk, jk, jk, jk, jk, jk, jk,
  jk, jk, jk, jk, jk, jk, jk, jk, jk, jk, jk, jk, jk, jk, jk,
  jk, jk, jk, jk, jk, jk, jk, jk, jk, jk, jk, jk, jk, jk, jk,
  jk, jk, jk, jk, jk, jk, jk, jk, jk, jk, jk, jk, jk, jk, jk,
  jk, jk, jk, jk, jk, jk, jk, jk, jk, jk, jk, jk, jk, jk, jk,
  jk, jk, jk, jk, jk, jk, jk, jk, jk, jk, jk, jk, jk, jk, jk,
  jk, jk, jk, jk, jk, jk, jk])
  [Operand.tmp 37, Operand.tmp 38] ++
  []))
  []))))
  (0) (0) (0))
  false
  (List.length
  (fieldsL (List.take (List.length widths) (List.drop (0) widths)) (List.take (List.length values) (List.drop (0) values))))
  Cap.own,
  AV.int IntKind.i64 false
  (fieldsE (List.take (List.length widths) (List.drop (0) widths)) (List.take (List.length values) (List.drop (0) values)))],
  AV.sl zwidths (Ref.mk 0 0 0 0) false (List.length widths) Cap.any,
  AV.sl zvalues (Ref.mk 1 0 0 0) false (List.length values) Cap.any,
  AV.tup
  [AV.sl
  (decide
  (fieldsL (List.take (List.length widths) (List.drop (0) widths)) (List.take (List.length values) (List.drop (0) values)) = []))
  (Ref.mk
  (List.length
  (id
  [some (Blk.mk 3 false false true (Data.ints IntKind.i64 widths)),
  some (Blk.mk 3 false false true (Data.ints IntKind.i64 values)),
  some (Blk.mk 3 false false true (Data.ints IntKind.i64 words))]) +
  (2 -
  List.length
  (List.range (0) ++
  List.filter (fun i => !decide (i < 0))
  (reach
  (id
  [some (Blk.mk 3 false false true (Data.ints IntKind.i64 widths)),
  some (Blk.mk 3 false false true (Data.ints IntKind.i64 values)),
  some (Blk.mk 3 false false true (Data.ints IntKind.i64 words))])
  fuelR
  (AV.refsL
  ([] ++
  List.map
  (opnd (mkL Try.prog 0 (fun x => none) tab19 rowsPackFull)
  [AV.sl zwidths (Ref.mk 0 0 0 0) false (List.length widths) Cap.any,
  AV.sl zvalues (Ref.mk 1 0 0 0) false (List.length values) Cap.any,
  AV.sl zwords (Ref.mk 2 0 0 0) false (List.length words) Cap.any, jk, jk, jk,
  AV.bool true false, jk, jk, jk, jk, jk, jk, jk, jk, jk, jk, jk, jk,
  jk, jk, AV.bool false true, AV.bool true false,
  AV.sl zwidths (Ref.mk 0 0 0 0) false (List.length widths) Cap.any,
  AV.int IntKind.i64 false ((List.length widths) : Int), AV.bool false (decide (((List.length widths) : Int) > (300 : Int))),
  AV.bool true false, AV.sl zvalues (Ref.mk 1 0 0 0) false (List.length values) Cap.any,
  AV.int IntKind.i64 false ((List.length values) : Int), AV.bool false (decide (((List.length values) : Int) > (300 : Int))),
  AV.bool false (decide (((List.length values) : Int) > (300 : Int))), AV.bool true false,
  AV.sl zwords (Ref.mk 2 0 0 0) false (List.length words) Cap.any,
  AV.int IntKind.i64 false ((List.length words) : Int), AV.bool false (decide (((List.length words) : Int) > (300 : Int))), AV.bool true false,
  jk, AV.sl zwidths (Ref.mk 0 0 0 0) false (List.length widths) Cap.any,
  AV.sl zvalues (Ref.mk 1 0 0 0) false (List.length values) Cap.any, jk, jk, jk,
  jk, jk, jk, jk, jk, jk, jk, jk, jk, jk, jk, jk, jk, jk, jk,
  jk, jk, jk, jk, jk, jk, jk, jk, jk, jk, jk, jk, jk, jk, jk,
  jk, jk, jk, jk, jk, jk, jk, jk, jk, jk, jk, jk, jk, jk, jk,
  jk, jk, jk, jk, jk, jk, jk, jk, jk, jk, jk, jk, jk, jk, jk,
  jk, jk, jk, jk, jk, jk, jk, jk, jk, jk, jk, jk, jk, jk, jk,
  jk, jk, jk, jk, jk, jk, jk, jk, jk, jk, jk, jk, jk, jk, jk,
  jk, jk, jk, jk, jk, jk, jk])
  [Operand.tmp 37, Operand.tmp 38] ++
  []))
  []))))
  (0) (0) (0))
  false
  (List.length
  (fieldsL (List.take (List.length widths) (List.drop (0) widths)) (List.take (List.length values) (List.drop (0) values))))
  Cap.own,
  AV.int IntKind.i64 false
  (fieldsE (List.take (List.length widths) (List.drop (0) widths)) (List.take (List.length values) (List.drop (0) values)))],
  AV.sl
  (decide (fieldsL (List.take (List.length widths) (List.drop (0) widths)) (List.take (List.length values) (List.drop (0) values)) = []))
  (Ref.mk
  (List.length
  (id
  [some (Blk.mk 3 false false true (Data.ints IntKind.i64 widths)),
  some (Blk.mk 3 false false true (Data.ints IntKind.i64 values)),
  some (Blk.mk 3 false false true (Data.ints IntKind.i64 words))]) +
  (2 -
  List.length
  (List.range (0) ++
  List.filter (fun i => !decide (i < 0))
  (reach
  (id
  [some (Blk.mk 3 false false true (Data.ints IntKind.i64 widths)),
  some (Blk.mk 3 false false true (Data.ints IntKind.i64 values)),
  some (Blk.mk 3 false false true (Data.ints IntKind.i64 words))])
  fuelR
  (AV.refsL
  ([] ++
  List.map
  (opnd (mkL Try.prog 0 (fun x => none) tab19 rowsPackFull)
  [AV.sl zwidths (Ref.mk 0 0 0 0) false (List.length widths) Cap.any,
  AV.sl zvalues (Ref.mk 1 0 0 0) false (List.length values) Cap.any,
  AV.sl zwords (Ref.mk 2 0 0 0) false (List.length words) Cap.any, jk, jk, jk,
  AV.bool true false, jk, jk, jk, jk, jk, jk, jk, jk, jk, jk, jk, jk, jk,
  jk, AV.bool false true, AV.bool true false,
  AV.sl zwidths (Ref.mk 0 0 0 0) false (List.length widths) Cap.any,
  AV.int IntKind.i64 false ((List.length widths) : Int), AV.bool false (decide (((List.length widths) : Int) > (300 : Int))), AV.bool true false,
  AV.sl zvalues (Ref.mk 1 0 0 0) false (List.length values) Cap.any,
  AV.int IntKind.i64 false ((List.length values) : Int), AV.bool false (decide (((List.length values) : Int) > (300 : Int))),
  AV.bool false (decide (((List.length values) : Int) > (300 : Int))), AV.bool true false,
  AV.sl zwords (Ref.mk 2 0 0 0) false (List.length words) Cap.any,
  AV.int IntKind.i64 false ((List.length words) : Int), AV.bool false (decide (((List.length words) : Int) > (300 : Int))), AV.bool true false,
  jk, AV.sl zwidths (Ref.mk 0 0 0 0) false (List.length widths) Cap.any,
  AV.sl zvalues (Ref.mk 1 0 0 0) false (List.length values) Cap.any, jk, jk, jk,
  jk, jk, jk, jk, jk, jk, jk, jk, jk, jk, jk, jk, jk, jk, jk,
  jk, jk, jk, jk, jk, jk, jk, jk, jk, jk, jk, jk, jk, jk, jk,
  jk, jk, jk, jk, jk, jk, jk, jk, jk, jk, jk, jk, jk, jk, jk,
  jk, jk, jk, jk, jk, jk, jk, jk, jk, jk, jk, jk, jk, jk, jk,
  jk, jk, jk, jk, jk, jk, jk, jk, jk, jk, jk, jk, jk, jk, jk,
  jk, jk, jk, jk, jk, jk, jk, jk, jk, jk, jk, jk, jk, jk, jk,
  jk, jk, jk, jk, jk, jk, jk])
  [Operand.tmp 37, Operand.tmp 38] ++
  []))
  []))))
  (0) (0) (0))
  false
  (List.length (fieldsL (List.take (List.length widths) (List.drop (0) widths)) (List.take (List.length values) (List.drop (0) values))))
  Cap.own,
  AV.int IntKind.i64 false
  (fieldsE (List.take (List.length widths) (List.drop (0) widths)) (List.take (List.length values) (List.drop (0) values))),
  AV.int IntKind.i64 false
  (fieldsE (List.take (List.length widths) (List.drop (0) widths)) (List.take (List.length values) (List.drop (0) values))),
  AV.bool true true, jk, AV.sl zwidths (Ref.mk 0 0 0 0) false (List.length widths) Cap.any,
  AV.sl
  (decide (fieldsL (List.take (List.length widths) (List.drop (0) widths)) (List.take (List.length values) (List.drop (0) values)) = []))
  (Ref.mk
  (List.length
  (id
  [some (Blk.mk 3 false false true (Data.ints IntKind.i64 widths)),
  some (Blk.mk 3 false false true (Data.ints IntKind.i64 values)),
  some (Blk.mk 3 false false true (Data.ints IntKind.i64 words))]) +
  (2 -
  List.length
  (List.range (0) ++
  List.filter (fun i => !decide (i < 0))
  (reach
  (id
  [some (Blk.mk 3 false false true (Data.ints IntKind.i64 widths)),
  some (Blk.mk 3 false false true (Data.ints IntKind.i64 values)),
  some (Blk.mk 3 false false true (Data.ints IntKind.i64 words))])
  fuelR
  (AV.refsL
  ([] ++
  List.map
  (opnd (mkL Try.prog 0 (fun x => none) tab19 rowsPackFull)
  [AV.sl zwidths (Ref.mk 0 0 0 0) false (List.length widths) Cap.any,
  AV.sl zvalues (Ref.mk 1 0 0 0) false (List.length values) Cap.any,
  AV.sl zwords (Ref.mk 2 0 0 0) false (List.length words) Cap.any, jk, jk, jk,
  AV.bool true false, jk, jk, jk, jk, jk, jk, jk, jk, jk, jk, jk, jk, jk,
  jk, AV.bool false true, AV.bool true false,
  AV.sl zwidths (Ref.mk 0 0 0 0) false (List.length widths) Cap.any,
  AV.int IntKind.i64 false ((List.length widths) : Int), AV.bool false (decide (((List.length widths) : Int) > (300 : Int))), AV.bool true false,
  AV.sl zvalues (Ref.mk 1 0 0 0) false (List.length values) Cap.any,
  AV.int IntKind.i64 false ((List.length values) : Int), AV.bool false (decide (((List.length values) : Int) > (300 : Int))),
  AV.bool false (decide (((List.length values) : Int) > (300 : Int))), AV.bool true false,
  AV.sl zwords (Ref.mk 2 0 0 0) false (List.length words) Cap.any,
  AV.int IntKind.i64 false ((List.length words) : Int), AV.bool false (decide (((List.length words) : Int) > (300 : Int))), AV.bool true false,
  jk, AV.sl zwidths (Ref.mk 0 0 0 0) false (List.length widths) Cap.any,
  AV.sl zvalues (Ref.mk 1 0 0 0) false (List.length values) Cap.any, jk, jk, jk,
  jk, jk, jk, jk, jk, jk, jk, jk, jk, jk, jk, jk, jk, jk, jk,
  jk, jk, jk, jk, jk, jk, jk, jk, jk, jk, jk, jk, jk, jk, jk,
  jk, jk, jk, jk, jk, jk, jk, jk, jk, jk, jk, jk, jk, jk, jk,
  jk, jk, jk, jk, jk, jk, jk, jk, jk, jk, jk, jk, jk, jk, jk,
  jk, jk, jk, jk, jk, jk, jk, jk, jk, jk, jk, jk, jk, jk, jk,
  jk, jk, jk, jk, jk, jk, jk, jk, jk, jk, jk, jk, jk, jk, jk,
  jk, jk, jk, jk, jk, jk, jk])
  [Operand.tmp 37, Operand.tmp 38] ++
  []))
  []))))
  (0) (0) (0))
  false
  (List.length (fieldsL (List.take (List.length widths) (List.drop (0) widths)) (List.take (List.length values) (List.drop (0) values))))
  Cap.own,
  jk, jk, jk, jk, jk, jk, jk, jk, jk, jk, jk, jk, jk, jk, jk, jk, jk, jk,
  jk, jk, jk, jk, jk, jk, jk, jk, jk, jk, jk, jk, jk, jk, jk, jk, jk, jk,
  jk, jk, jk, jk, jk, jk, jk, jk, jk, jk, jk, jk, jk, jk, jk, jk, jk, jk,
  jk, jk, jk, jk, jk, jk, jk, jk, jk, jk, jk, jk, jk, jk, jk, jk, jk, jk,
  jk, jk, jk, jk, jk, jk, jk, jk, jk, jk, jk, jk, jk, jk, jk, jk, jk, jk,
  jk, jk])
  [Operand.tmp 46] ++
  []))
  []))))
  (0) (0) (0))
  false
  (List.length
  (List.take (List.length (fieldsL (List.take (List.length widths) (List.drop (0) widths)) (List.take (List.length values) (List.drop (0) values))))
  (List.drop (0) (fieldsL (List.take (List.length widths) (List.drop (0) widths)) (List.take (List.length values) (List.drop (0) values))))))
  Cap.own,
  jk, jk, jk, jk, jk, jk, jk, jk, jk, jk, jk, jk, jk, jk, jk, jk, jk, jk, jk, jk, jk,
  jk, jk, jk, jk, jk, jk, jk, jk, jk, jk, jk, jk, jk, jk, jk, jk, jk, jk, jk, jk, jk,
  jk, jk, jk, jk, jk, jk, jk, jk, jk, jk, jk, jk, jk, jk, jk, jk, jk, jk, jk, jk, jk,
  jk, jk, jk, jk, jk, jk, jk, jk, jk, jk, jk, jk, jk, jk, jk, jk, jk, jk, jk, jk, jk,
  jk, jk, jk, jk, jk, jk, jk]
  (Operand.const (Value.int IntKind.i64 (9 : Int)))) ++
  List.drop (0 * 1 + 1) (zerosOf (List.map ofCell [Value.int IntKind.i64 (0 : Int)]) 1)))))) =
  1 * 1) &&
  false == false)
  (Tree.chk
  ((0 + List.length widths ≤ List.length widths ∧
  0 +
  (List.length
  (List.take (List.length (fieldsL (List.take (List.length widths) (List.drop (0) widths)) (List.take (List.length values) (List.drop (0) values))))
  (List.drop (0) (fieldsL (List.take (List.length widths) (List.drop (0) widths)) (List.take (List.length values) (List.drop (0) values))))) +
  1) ≤
  List.length
  (List.take (List.length (fieldsL (List.take (List.length widths) (List.drop (0) widths)) (List.take (List.length values) (List.drop (0) values))))
  (List.drop (0) (fieldsL (List.take (List.length widths) (List.drop (0) widths)) (List.take (List.length values) (List.drop (0) values)))) ++
  [(9 : Int)]) ∧
  True) ∧
  short (List.take (List.length widths) (List.drop (0) widths)) ∧
  short
  (List.take
  (List.length
  (List.take (List.length (fieldsL (List.take (List.length widths) (List.drop (0) widths)) (List.take (List.length values) (List.drop (0) values))))
  (List.drop (0) (fieldsL (List.take (List.length widths) (List.drop (0) widths)) (List.take (List.length values) (List.drop (0) values))))) +
  1)
  (List.drop (0)
  (List.take (List.length (fieldsL (List.take (List.length widths) (List.drop (0) widths)) (List.take (List.length values) (List.drop (0) values))))
  (List.drop (0) (fieldsL (List.take (List.length widths) (List.drop (0) widths)) (List.take (List.length values) (List.drop (0) values)))) ++
  [(9 : Int)]))) ∧
  (zwidths = true → List.take (List.length widths) (List.drop (0) widths) = []) ∧
  ((false && decide (1 = 0)) = true →
  List.take
  (List.length
  (List.take (List.length (fieldsL (List.take (List.length widths) (List.drop (0) widths)) (List.take (List.length values) (List.drop (0) values))))
  (List.drop (0) (fieldsL (List.take (List.length widths) (List.drop (0) widths)) (List.take (List.length values) (List.drop (0) values))))) +
  1)
  (List.drop (0)
  (List.take (List.length (fieldsL (List.take (List.length widths) (List.drop (0) widths)) (List.take (List.length values) (List.drop (0) values))))
  (List.drop (0) (fieldsL (List.take (List.length widths) (List.drop (0) widths)) (List.take (List.length values) (List.drop (0) values)))) ++
  [(9 : Int)])) =
  []))
  (Tree.br
  (splitE (List.take (List.length widths) (List.drop (0) widths))
  (List.take
  (List.length
  (List.take (List.length (fieldsL (List.take (List.length widths) (List.drop (0) widths)) (List.take (List.length values) (List.drop (0) values))))
  (List.drop (0) (fieldsL (List.take (List.length widths) (List.drop (0) widths)) (List.take (List.length values) (List.drop (0) values))))) +
  1)
  (List.drop (0)
  (List.take (List.length (fieldsL (List.take (List.length widths) (List.drop (0) widths)) (List.take (List.length values) (List.drop (0) values))))
  (List.drop (0) (fieldsL (List.take (List.length widths) (List.drop (0) widths)) (List.take (List.length values) (List.drop (0) values)))) ++
  [(9 : Int)]))) !=
  (0 : Int))
  (Tree.ret
  (AV.bool true false,
  [some (Blk.mk (3) false false true (Data.ints IntKind.i64 widths)), some (Blk.mk (3) false false true (Data.ints IntKind.i64 values)),
  some (Blk.mk (3) false false true (Data.ints IntKind.i64 words))]))
  (Tree.chk
  ((0 +
  List.length
  (splitL (List.take (List.length widths) (List.drop (0) widths))
  (List.take
  (List.length
  (List.take (List.length (fieldsL (List.take (List.length widths) (List.drop (0) widths)) (List.take (List.length values) (List.drop (0) values))))
  (List.drop (0) (fieldsL (List.take (List.length widths) (List.drop (0) widths)) (List.take (List.length values) (List.drop (0) values))))) +
  1)
  (List.drop (0)
  (List.take (List.length (fieldsL (List.take (List.length widths) (List.drop (0) widths)) (List.take (List.length values) (List.drop (0) values))))
  (List.drop (0) (fieldsL (List.take (List.length widths) (List.drop (0) widths)) (List.take (List.length values) (List.drop (0) values)))) ++
  [(9 : Int)])))) ≤
  List.length
  (splitL (List.take (List.length widths) (List.drop (0) widths))
  (List.take
  (List.length
  (List.take (List.length (fieldsL (List.take (List.length widths) (List.drop (0) widths)) (List.take (List.length values) (List.drop (0) values))))
  (List.drop (0) (fieldsL (List.take (List.length widths) (List.drop (0) widths)) (List.take (List.length values) (List.drop (0) values))))) +
  1)
  (List.drop (0)
  (List.take (List.length (fieldsL (List.take (List.length widths) (List.drop (0) widths)) (List.take (List.length values) (List.drop (0) values))))
  (List.drop (0) (fieldsL (List.take (List.length widths) (List.drop (0) widths)) (List.take (List.length values) (List.drop (0) values)))) ++
  [(9 : Int)])))) ∧
  0 + List.length values ≤ List.length values ∧ True) ∧
  short
  (List.take
  (List.length
  (splitL (List.take (List.length widths) (List.drop (0) widths))
  (List.take
  (List.length
  (List.take (List.length (fieldsL (List.take (List.length widths) (List.drop (0) widths)) (List.take (List.length values) (List.drop (0) values))))
  (List.drop (0) (fieldsL (List.take (List.length widths) (List.drop (0) widths)) (List.take (List.length values) (List.drop (0) values))))) +
  1)
  (List.drop (0)
  (List.take (List.length (fieldsL (List.take (List.length widths) (List.drop (0) widths)) (List.take (List.length values) (List.drop (0) values))))
  (List.drop (0) (fieldsL (List.take (List.length widths) (List.drop (0) widths)) (List.take (List.length values) (List.drop (0) values)))) ++
  [(9 : Int)])))))
  (List.drop (0)
  (splitL (List.take (List.length widths) (List.drop (0) widths))
  (List.take
  (List.length
  (List.take (List.length (fieldsL (List.take (List.length widths) (List.drop (0) widths)) (List.take (List.length values) (List.drop (0) values))))
  (List.drop (0) (fieldsL (List.take (List.length widths) (List.drop (0) widths)) (List.take (List.length values) (List.drop (0) values))))) +
  1)
  (List.drop (0)
  (List.take (List.length (fieldsL (List.take (List.length widths) (List.drop (0) widths)) (List.take (List.length values) (List.drop (0) values))))
  (List.drop (0) (fieldsL (List.take (List.length widths) (List.drop (0) widths)) (List.take (List.length values) (List.drop (0) values)))) ++
  [(9 : Int)])))))) ∧
  (decide
  (splitL (List.take (List.length widths) (List.drop (0) widths))
  (List.take
  (List.length
  (List.take (List.length (fieldsL (List.take (List.length widths) (List.drop (0) widths)) (List.take (List.length values) (List.drop (0) values))))
  (List.drop (0) (fieldsL (List.take (List.length widths) (List.drop (0) widths)) (List.take (List.length values) (List.drop (0) values))))) +
  1)
  (List.drop (0)
  (List.take (List.length (fieldsL (List.take (List.length widths) (List.drop (0) widths)) (List.take (List.length values) (List.drop (0) values))))
  (List.drop (0) (fieldsL (List.take (List.length widths) (List.drop (0) widths)) (List.take (List.length values) (List.drop (0) values)))) ++
  [(9 : Int)]))) =
  []) =
  true →
  List.take
  (List.length
  (splitL (List.take (List.length widths) (List.drop (0) widths))
  (List.take
  (List.length
  (List.take (List.length (fieldsL (List.take (List.length widths) (List.drop (0) widths)) (List.take (List.length values) (List.drop (0) values))))
  (List.drop (0) (fieldsL (List.take (List.length widths) (List.drop (0) widths)) (List.take (List.length values) (List.drop (0) values))))) +
  1)
  (List.drop (0)
  (List.take (List.length (fieldsL (List.take (List.length widths) (List.drop (0) widths)) (List.take (List.length values) (List.drop (0) values))))
  (List.drop (0) (fieldsL (List.take (List.length widths) (List.drop (0) widths)) (List.take (List.length values) (List.drop (0) values)))) ++
  [(9 : Int)])))))
  (List.drop (0)
  (splitL (List.take (List.length widths) (List.drop (0) widths))
  (List.take
  (List.length
  (List.take (List.length (fieldsL (List.take (List.length widths) (List.drop (0) widths)) (List.take (List.length values) (List.drop (0) values))))
  (List.drop (0) (fieldsL (List.take (List.length widths) (List.drop (0) widths)) (List.take (List.length values) (List.drop (0) values))))) +
  1)
  (List.drop (0)
  (List.take (List.length (fieldsL (List.take (List.length widths) (List.drop (0) widths)) (List.take (List.length values) (List.drop (0) values))))
  (List.drop (0) (fieldsL (List.take (List.length widths) (List.drop (0) widths)) (List.take (List.length values) (List.drop (0) values)))) ++
  [(9 : Int)]))))) =
  []) ∧
  (zvalues = true → List.take (List.length values) (List.drop (0) values) = []))
  (Tree.br
  (!decide
  (List.take
  (List.length
  (splitL (List.take (List.length widths) (List.drop (0) widths))
  (List.take
  (List.length
  (List.take (List.length (fieldsL (List.take (List.length widths) (List.drop (0) widths)) (List.take (List.length values) (List.drop (0) values))))
  (List.drop (0) (fieldsL (List.take (List.length widths) (List.drop (0) widths)) (List.take (List.length values) (List.drop (0) values))))) +
  1)
  (List.drop (0)
  (List.take (List.length (fieldsL (List.take (List.length widths) (List.drop (0) widths)) (List.take (List.length values) (List.drop (0) values))))
  (List.drop (0) (fieldsL (List.take (List.length widths) (List.drop (0) widths)) (List.take (List.length values) (List.drop (0) values)))) ++
  [(9 : Int)])))))
  (List.drop (0)
  (splitL (List.take (List.length widths) (List.drop (0) widths))
  (List.take
  (List.length
  (List.take (List.length (fieldsL (List.take (List.length widths) (List.drop (0) widths)) (List.take (List.length values) (List.drop (0) values))))
  (List.drop (0) (fieldsL (List.take (List.length widths) (List.drop (0) widths)) (List.take (List.length values) (List.drop (0) values))))) +
  1)
  (List.drop (0)
  (List.take (List.length (fieldsL (List.take (List.length widths) (List.drop (0) widths)) (List.take (List.length values) (List.drop (0) values))))
  (List.drop (0) (fieldsL (List.take (List.length widths) (List.drop (0) widths)) (List.take (List.length values) (List.drop (0) values)))) ++
  [(9 : Int)]))))) =
  List.take (List.length values) (List.drop (0) values)))
  (Tree.ret
  (AV.bool true false,
  [some (Blk.mk (3) false false true (Data.ints IntKind.i64 widths)), some (Blk.mk (3) false false true (Data.ints IntKind.i64 values)),
  some (Blk.mk (3) false false true (Data.ints IntKind.i64 words))]))
  (Tree.chk
  ((0 + List.length widths ≤ List.length widths ∧ 0 + List.length words ≤ List.length words ∧ True) ∧
  short (List.take (List.length widths) (List.drop (0) widths)) ∧
  short (List.take (List.length words) (List.drop (0) words)) ∧
  (zwidths = true → List.take (List.length widths) (List.drop (0) widths) = []) ∧ (zwords = true → List.take (List.length words) (List.drop (0) words) = []))
  (Tree.br (splitE (List.take (List.length widths) (List.drop (0) widths)) (List.take (List.length words) (List.drop (0) words)) != (0 : Int))
  (Tree.ret
  (AV.bool false (((List.length (splitL (List.take (List.length widths) (List.drop (0) widths)) (List.take (List.length words) (List.drop (0) words)))) : Int) == (0 : Int)),
  [some (Blk.mk (3) false false true (Data.ints IntKind.i64 widths)), some (Blk.mk (3) false false true (Data.ints IntKind.i64 values)),
  some (Blk.mk (3) false false true (Data.ints IntKind.i64 words))]))
  (Tree.chk
  ((0 + List.length widths ≤ List.length widths ∧
  0 + List.length (splitL (List.take (List.length widths) (List.drop (0) widths)) (List.take (List.length words) (List.drop (0) words))) ≤
  List.length (splitL (List.take (List.length widths) (List.drop (0) widths)) (List.take (List.length words) (List.drop (0) words))) ∧
  True) ∧
  short (List.take (List.length widths) (List.drop (0) widths)) ∧
  short
  (List.take (List.length (splitL (List.take (List.length widths) (List.drop (0) widths)) (List.take (List.length words) (List.drop (0) words))))
  (List.drop (0) (splitL (List.take (List.length widths) (List.drop (0) widths)) (List.take (List.length words) (List.drop (0) words))))) ∧
  (zwidths = true → List.take (List.length widths) (List.drop (0) widths) = []) ∧
  (decide (splitL (List.take (List.length widths) (List.drop (0) widths)) (List.take (List.length words) (List.drop (0) words)) = []) = true →
  List.take (List.length (splitL (List.take (List.length widths) (List.drop (0) widths)) (List.take (List.length words) (List.drop (0) words))))
  (List.drop (0) (splitL (List.take (List.length widths) (List.drop (0) widths)) (List.take (List.length words) (List.drop (0) words)))) =
  []) ∧
  wf64L
  (List.take (List.length (splitL (List.take (List.length widths) (List.drop (0) widths)) (List.take (List.length words) (List.drop (0) words))))
  (List.drop (0) (splitL (List.take (List.length widths) (List.drop (0) widths)) (List.take (List.length words) (List.drop (0) words))))))
  (Tree.chk
  ((0 + List.length widths ≤ List.length widths ∧ True) ∧
  List.length (List.take (List.length widths) (List.drop (0) widths)) ≤ 1000000 ∧ (zwidths = true → List.take (List.length widths) (List.drop (0) widths) = []))
  (Tree.chk
  (St.le
  (St.mk
  [AV.sl zwidths (Ref.mk (0) (0) (0) (0)) false (List.length widths) Cap.any, jk,
  AV.sl zwords (Ref.mk (2) (0) (0) (0)) false (List.length words) Cap.any, jk, jk, jk, jk, jk, jk, jk, jk, jk,
  jk,
  AV.sl
  (decide
  (fieldsL (List.take (List.length widths) (List.drop (0) widths))
  (List.take (List.length (splitL (List.take (List.length widths) (List.drop (0) widths)) (List.take (List.length words) (List.drop (0) words))))
  (List.drop (0) (splitL (List.take (List.length widths) (List.drop (0) widths)) (List.take (List.length words) (List.drop (0) words))))) =
  []))
  (Ref.mk (3) (0) (0) (0)) false
  (List.length
  (fieldsL (List.take (List.length widths) (List.drop (0) widths))
  (List.take (List.length (splitL (List.take (List.length widths) (List.drop (0) widths)) (List.take (List.length words) (List.drop (0) words))))
  (List.drop (0) (splitL (List.take (List.length widths) (List.drop (0) widths)) (List.take (List.length words) (List.drop (0) words)))))))
  Cap.own,
  AV.int IntKind.i64 false
  (fieldsE (List.take (List.length widths) (List.drop (0) widths))
  (List.take (List.length (splitL (List.take (List.length widths) (List.drop (0) widths)) (List.take (List.length words) (List.drop (0) words))))
  (List.drop (0) (splitL (List.take (List.length widths) (List.drop (0) widths)) (List.take (List.length words) (List.drop (0) words)))))),
  AV.int IntKind.i64 false (sizeZ (List.take (List.length widths) (List.drop (0) widths))), AV.int IntKind.i64 true (0 : Int), AV.int IntKind.i64 true (0 : Int), jk, jk,
  jk, jk, jk, jk, jk, jk, jk, jk, jk, jk, jk, jk, jk, jk, jk, jk, jk, jk, jk, jk, jk,
  jk, jk, jk, jk, jk, jk, jk, jk, jk, jk, jk, jk, jk, jk, jk, jk, jk, jk, jk, jk, jk,
  jk, jk, jk, jk, jk, jk, jk, jk, jk, jk, jk, jk, jk, jk, jk, jk, jk, jk, jk, jk, jk,
  jk, jk, jk, jk, jk, jk, jk, jk, jk, jk, jk, jk, jk, jk, jk, jk, jk, jk, jk, jk, jk,
  jk, jk, jk, jk, jk, jk, jk, jk, jk, jk, jk, jk, jk, jk, jk, jk, jk, jk, jk, jk, jk,
  jk, jk, jk, jk, jk, jk, jk, jk, jk, jk, jk, jk, jk, jk]
  [some (Blk.mk (3) false false true (Data.ints IntKind.i64 widths)), some (Blk.mk (3) false false true (Data.ints IntKind.i64 values)),
  some (Blk.mk (3) false false true (Data.ints IntKind.i64 words)),
  some
  (Blk.mk (3) true
  (Decidable.rec (fun h => false) (fun h => true)
  (List.instDecidableEqNil
  (fieldsL (List.take (List.length widths) (List.drop (0) widths))
  (List.take (List.length (splitL (List.take (List.length widths) (List.drop (0) widths)) (List.take (List.length words) (List.drop (0) words))))
  (List.drop (0) (splitL (List.take (List.length widths) (List.drop (0) widths)) (List.take (List.length words) (List.drop (0) words))))))))
  true
  (Data.ints IntKind.i64
  (fieldsL (List.take (List.length widths) (List.drop (0) widths))
  (List.take (List.length (splitL (List.take (List.length widths) (List.drop (0) widths)) (List.take (List.length words) (List.drop (0) words))))
  (List.drop (0) (splitL (List.take (List.length widths) (List.drop (0) widths)) (List.take (List.length words) (List.drop (0) words))))))))])
  (St.mk
  [AV.sl zwidths (Ref.mk (0) (0) (0) (0)) false (List.length widths) Cap.any, jk,
  AV.sl zwords (Ref.mk (2) (0) (0) (0)) false (List.length words) Cap.any, jk, jk, jk, jk, jk, jk, jk, jk, jk,
  jk,
  AV.sl (decide (fieldsL widths (splitL widths words) = [])) (Ref.mk (3) (0) (0) (0)) false (List.length (fieldsL widths (splitL widths words)))
  Cap.own,
  AV.int IntKind.i64 false (fieldsE widths (splitL widths words)), AV.int IntKind.i64 false (sizeZ widths), AV.int IntKind.i64 false (sumI (List.take (Int.toNat (0 : Int)) widths)),
  AV.int IntKind.i64 false (0 : Int), jk, jk, jk, jk, jk, jk, jk, jk, jk, jk, jk, jk, jk, jk, jk, jk, jk,
  jk, jk, jk, jk, jk, jk, jk, jk, jk, jk, jk, jk, jk, jk, jk, jk, jk, jk, jk, jk, jk,
  jk, jk, jk, jk, jk, jk, jk, jk, jk, jk, jk, jk, jk, jk, jk, jk, jk, jk, jk, jk, jk,
  jk, jk, jk, jk, jk, jk, jk, jk, jk, jk, jk, jk, jk, jk, jk, jk, jk, jk, jk, jk, jk,
  jk, jk, jk, jk, jk, jk, jk, jk, jk, jk, jk, jk, jk, jk, jk, jk, jk, jk, jk, jk, jk,
  jk, jk, jk, jk, jk, jk, jk, jk, jk, jk, jk, jk, jk, jk, jk, jk, jk, jk, jk, jk]
  [some (Blk.mk (3) false false true (Data.ints IntKind.i64 widths)), some (Blk.mk (3) false false true (Data.ints IntKind.i64 values)),
  some (Blk.mk (3) false false true (Data.ints IntKind.i64 words)),
  some (Blk.mk (3) true (decide (fieldsL widths (splitL widths words) = [])) true (Data.ints IntKind.i64 (fieldsL widths (splitL widths words))))]))
  (Tree.chk (okPackFull_0 (XPackFull_0.mk zwidths widths values zwords words (Int.toNat (0 : Int))))
  (Tree.br (fieldsE widths (splitL widths words) != (0 : Int))
  (Tree.ret
  (AV.bool true false,
  [some (Blk.mk (3) false false true (Data.ints IntKind.i64 widths)), some (Blk.mk (3) false false true (Data.ints IntKind.i64 values)),
  some (Blk.mk (3) false false true (Data.ints IntKind.i64 words))]))
  (Tree.br (((List.length (fieldsL widths (splitL widths words))) : Int) != sizeZ widths)
  (Tree.ret
  (AV.bool true false,
  [some (Blk.mk (3) false false true (Data.ints IntKind.i64 widths)), some (Blk.mk (3) false false true (Data.ints IntKind.i64 values)),
  some (Blk.mk (3) false false true (Data.ints IntKind.i64 words))]))
  (Tree.br (decide (sizeZ widths > ((List.length words) : Int)))
  (Tree.ret
  (AV.bool true false,
  [some (Blk.mk (3) false false true (Data.ints IntKind.i64 widths)), some (Blk.mk (3) false false true (Data.ints IntKind.i64 values)),
  some (Blk.mk (3) false false true (Data.ints IntKind.i64 words))]))
  (Tree.chk
  (St.le
  (St.mk
  [jk, jk, AV.sl zwords (Ref.mk (2) (0) (0) (0)) false (List.length words) Cap.any, jk, jk, jk, jk, jk, jk,
  jk, jk, jk, jk,
  AV.sl (decide (fieldsL widths (splitL widths words) = [])) (Ref.mk (3) (0) (0) (0)) false
  (List.length (fieldsL widths (splitL widths words))) Cap.own,
  jk, AV.int IntKind.i64 false (sizeZ widths), AV.int IntKind.i64 false (sumI widths), jk, AV.int IntKind.i64 true (0 : Int), jk, jk, jk, jk, jk,
  jk, jk, jk, jk, jk, jk, jk, jk, jk, jk, jk, jk, jk, jk, jk, jk, jk, jk, jk, jk,
  jk, jk, jk, jk, jk, jk, jk, jk, jk, jk, jk, jk, jk, jk, jk, jk, jk, jk, jk, jk,
  jk, jk, jk, jk, jk, jk, jk, jk, jk, jk, jk, jk, jk, jk, jk, jk, jk, jk, jk, jk,
  jk, jk, jk, jk, jk, jk, jk, jk, jk, jk, jk, jk, jk, jk, jk, jk, jk, jk, jk, jk,
  jk, jk, jk, jk, jk, jk, jk, jk, jk, jk, jk, jk, jk, jk, jk, jk, jk, jk, jk, jk,
  jk, jk, jk, jk, jk, jk, jk, jk, jk, jk, jk, jk, jk, jk, jk]
  [some (Blk.mk (3) false false true (Data.ints IntKind.i64 widths)), some (Blk.mk (3) false false true (Data.ints IntKind.i64 values)),
  some (Blk.mk (3) false false true (Data.ints IntKind.i64 words)),
  some
  (Blk.mk (3) true (decide ((fieldsL widths (splitL widths words)) = [])) true
  (Data.ints IntKind.i64 (fieldsL widths (splitL widths words))))])
  (St.mk
  [jk, jk, AV.sl zwords (Ref.mk (2) (0) (0) (0)) false (List.length words) Cap.any, jk, jk, jk, jk, jk, jk,
  jk, jk, jk, jk,
  AV.sl (decide (fieldsL widths (splitL widths words) = [])) (Ref.mk (3) (0) (0) (0)) false
  (List.length (fieldsL widths (splitL widths words))) Cap.own,
  jk, AV.int IntKind.i64 false (sizeZ widths), AV.int IntKind.i64 false (sumI widths), jk, AV.int IntKind.i64 false (0 : Int), jk, jk, jk, jk, jk,
  jk, jk, jk, jk, jk, jk, jk, jk, jk, jk, jk, jk, jk, jk, jk, jk, jk, jk, jk, jk,
  jk, jk, jk, jk, jk, jk, jk, jk, jk, jk, jk, jk, jk, jk, jk, jk, jk, jk, jk, jk,
  jk, jk, jk, jk, jk, jk, jk, jk, jk, jk, jk, jk, jk, jk, jk, jk, jk, jk, jk, jk,
  jk, jk, jk, jk, jk, jk, jk, jk, jk, jk, jk, jk, jk, jk, jk, jk, jk, jk, jk, jk,
  jk, jk, jk, jk, jk, jk, jk, jk, jk, jk, jk, jk, jk, jk, jk, jk, jk, jk, jk, jk,
  jk, jk, jk, jk, jk, jk, jk, jk, jk, jk, jk, jk, jk, jk, jk]
  [some (Blk.mk (3) false false true (Data.ints IntKind.i64 widths)), some (Blk.mk (3) false false true (Data.ints IntKind.i64 values)),
  some (Blk.mk (3) false false true (Data.ints IntKind.i64 words)),
  some (Blk.mk (3) true (decide (fieldsL widths (splitL widths words) = [])) true (Data.ints IntKind.i64 (fieldsL widths (splitL widths words))))]))
  (Tree.chk (okPackFull_1 (XPackFull_1.mk widths values zwords words (Int.toNat (0 : Int))))
  (Tree.ret
  (AV.bool true true,
  [some (Blk.mk (3) false false true (Data.ints IntKind.i64 widths)), some (Blk.mk (3) false false true (Data.ints IntKind.i64 values)),
  some (Blk.mk (3) false false true (Data.ints IntKind.i64 words))])))))))))))))))))
  Tree.fail)
  Tree.fail))
  (Tree.chk
  ((0 + List.length widths ≤ List.length widths ∧ 0 + List.length words ≤ List.length words ∧ True) ∧
  short (List.take (List.length widths) (List.drop (0) widths)) ∧
  short (List.take (List.length words) (List.drop (0) words)) ∧
  (zwidths = true → List.take (List.length widths) (List.drop (0) widths) = []) ∧ (zwords = true → List.take (List.length words) (List.drop (0) words) = []))
  (Tree.br (splitE (List.take (List.length widths) (List.drop (0) widths)) (List.take (List.length words) (List.drop (0) words)) != (0 : Int))
  (Tree.ret
  (AV.bool false (((List.length (splitL (List.take (List.length widths) (List.drop (0) widths)) (List.take (List.length words) (List.drop (0) words)))) : Int) == (0 : Int)),
  [some (Blk.mk (3) false false true (Data.ints IntKind.i64 widths)), some (Blk.mk (3) false false true (Data.ints IntKind.i64 values)),
  some (Blk.mk (3) false false true (Data.ints IntKind.i64 words))]))
  (Tree.chk
  ((0 + List.length widths ≤ List.length widths ∧
  0 + List.length (splitL (List.take (List.length widths) (List.drop (0) widths)) (List.take (List.length words) (List.drop (0) words))) ≤
  List.length (splitL (List.take (List.length widths) (List.drop (0) widths)) (List.take (List.length words) (List.drop (0) words))) ∧
  True) ∧
  short (List.take (List.length widths) (List.drop (0) widths)) ∧
  short
  (List.take (List.length (splitL (List.take (List.length widths) (List.drop (0) widths)) (List.take (List.length words) (List.drop (0) words))))
  (List.drop (0) (splitL (List.take (List.length widths) (List.drop (0) widths)) (List.take (List.length words) (List.drop (0) words))))) ∧
  (zwidths = true → List.take (List.length widths) (List.drop (0) widths) = []) ∧
  (decide (splitL (List.take (List.length widths) (List.drop (0) widths)) (List.take (List.length words) (List.drop (0) words)) = []) = true →
  List.take (List.length (splitL (List.take (List.length widths) (List.drop (0) widths)) (List.take (List.length words) (List.drop (0) words))))
  (List.drop (0) (splitL (List.take (List.length widths) (List.drop (0) widths)) (List.take (List.length words) (List.drop (0) words)))) =
  []) ∧
  wf64L
  (List.take (List.length (splitL (List.take (List.length widths) (List.drop (0) widths)) (List.take (List.length words) (List.drop (0) words))))
  (List.drop (0) (splitL (List.take (List.length widths) (List.drop (0) widths)) (List.take (List.length words) (List.drop (0) words))))))
  (Tree.chk
  ((0 + List.length widths ≤ List.length widths ∧ True) ∧
  List.length (List.take (List.length widths) (List.drop (0) widths)) ≤ 1000000 ∧ (zwidths = true → List.take (List.length widths) (List.drop (0) widths) = []))
  (Tree.chk
  (St.le
  (St.mk
  [AV.sl zwidths (Ref.mk (0) (0) (0) (0)) false (List.length widths) Cap.any, jk,
  AV.sl zwords (Ref.mk (2) (0) (0) (0)) false (List.length words) Cap.any, jk, jk, jk, jk, jk, jk, jk, jk, jk, jk,
  AV.sl
  (decide
  (fieldsL (List.take (List.length widths) (List.drop (0) widths))
  (List.take (List.length (splitL (List.take (List.length widths) (List.drop (0) widths)) (List.take (List.length words) (List.drop (0) words))))
  (List.drop (0) (splitL (List.take (List.length widths) (List.drop (0) widths)) (List.take (List.length words) (List.drop (0) words))))) =
  []))
  (Ref.mk (3) (0) (0) (0)) false
  (List.length
  (fieldsL (List.take (List.length widths) (List.drop (0) widths))
  (List.take (List.length (splitL (List.take (List.length widths) (List.drop (0) widths)) (List.take (List.length words) (List.drop (0) words))))
  (List.drop (0) (splitL (List.take (List.length widths) (List.drop (0) widths)) (List.take (List.length words) (List.drop (0) words)))))))
  Cap.own,
  AV.int IntKind.i64 false
  (fieldsE (List.take (List.length widths) (List.drop (0) widths))
  (List.take (List.length (splitL (List.take (List.length widths) (List.drop (0) widths)) (List.take (List.length words) (List.drop (0) words))))
  (List.drop (0) (splitL (List.take (List.length widths) (List.drop (0) widths)) (List.take (List.length words) (List.drop (0) words)))))),
  AV.int IntKind.i64 false (sizeZ (List.take (List.length widths) (List.drop (0) widths))), AV.int IntKind.i64 true (0 : Int), AV.int IntKind.i64 true (0 : Int), jk, jk, jk, jk,
  jk, jk, jk, jk, jk, jk, jk, jk, jk, jk, jk, jk, jk, jk, jk, jk, jk, jk, jk, jk, jk, jk, jk,
  jk, jk, jk, jk, jk, jk, jk, jk, jk, jk, jk, jk, jk, jk, jk, jk, jk, jk, jk, jk, jk, jk, jk,
  jk, jk, jk, jk, jk, jk, jk, jk, jk, jk, jk, jk, jk, jk, jk, jk, jk, jk, jk, jk, jk, jk, jk,
  jk, jk, jk, jk, jk, jk, jk, jk, jk, jk, jk, jk, jk, jk, jk, jk, jk, jk, jk, jk, jk, jk, jk,
  jk, jk, jk, jk, jk, jk, jk, jk, jk, jk, jk, jk, jk, jk, jk, jk, jk, jk, jk, jk, jk, jk, jk,
  jk, jk]
  [some (Blk.mk (3) false false true (Data.ints IntKind.i64 widths)), some (Blk.mk (3) false false true (Data.ints IntKind.i64 values)),
  some (Blk.mk (3) false false true (Data.ints IntKind.i64 words)),
  some
  (Blk.mk (3) true
  (Decidable.rec (fun h => false) (fun h => true)
  (List.instDecidableEqNil
  (fieldsL (List.take (List.length widths) (List.drop (0) widths))
  (List.take (List.length (splitL (List.take (List.length widths) (List.drop (0) widths)) (List.take (List.length words) (List.drop (0) words))))
  (List.drop (0) (splitL (List.take (List.length widths) (List.drop (0) widths)) (List.take (List.length words) (List.drop (0) words))))))))
  true
  (Data.ints IntKind.i64
  (fieldsL (List.take (List.length widths) (List.drop (0) widths))
  (List.take (List.length (splitL (List.take (List.length widths) (List.drop (0) widths)) (List.take (List.length words) (List.drop (0) words))))
  (List.drop (0) (splitL (List.take (List.length widths) (List.drop (0) widths)) (List.take (List.length words) (List.drop (0) words))))))))])
  (St.mk
  [AV.sl zwidths (Ref.mk (0) (0) (0) (0)) false (List.length widths) Cap.any, jk,
  AV.sl zwords (Ref.mk (2) (0) (0) (0)) false (List.length words) Cap.any, jk, jk, jk, jk, jk, jk, jk, jk, jk, jk,
  AV.sl (decide (fieldsL widths (splitL widths words) = [])) (Ref.mk (3) (0) (0) (0)) false (List.length (fieldsL widths (splitL widths words))) Cap.own,
  AV.int IntKind.i64 false (fieldsE widths (splitL widths words)), AV.int IntKind.i64 false (sizeZ widths), AV.int IntKind.i64 false (sumI (List.take (Int.toNat (0 : Int)) widths)),
  AV.int IntKind.i64 false (0 : Int), jk, jk, jk, jk, jk, jk, jk, jk, jk, jk, jk, jk, jk, jk, jk, jk, jk, jk, jk,
  jk, jk, jk, jk, jk, jk, jk, jk, jk, jk, jk, jk, jk, jk, jk, jk, jk, jk, jk, jk, jk, jk, jk,
  jk, jk, jk, jk, jk, jk, jk, jk, jk, jk, jk, jk, jk, jk, jk, jk, jk, jk, jk, jk, jk, jk, jk,
  jk, jk, jk, jk, jk, jk, jk, jk, jk, jk, jk, jk, jk, jk, jk, jk, jk, jk, jk, jk, jk, jk, jk,
  jk, jk, jk, jk, jk, jk, jk, jk, jk, jk, jk, jk, jk, jk, jk, jk, jk, jk, jk, jk, jk, jk, jk,
  jk, jk, jk, jk, jk, jk, jk, jk, jk, jk]
  [some (Blk.mk (3) false false true (Data.ints IntKind.i64 widths)), some (Blk.mk (3) false false true (Data.ints IntKind.i64 values)),
  some (Blk.mk (3) false false true (Data.ints IntKind.i64 words)),
  some (Blk.mk (3) true (decide (fieldsL widths (splitL widths words) = [])) true (Data.ints IntKind.i64 (fieldsL widths (splitL widths words))))]))
  (Tree.chk (okPackFull_0 (XPackFull_0.mk zwidths widths values zwords words (Int.toNat (0 : Int))))
  (Tree.br (fieldsE widths (splitL widths words) != (0 : Int))
  (Tree.ret
  (AV.bool true false,
  [some (Blk.mk (3) false false true (Data.ints IntKind.i64 widths)), some (Blk.mk (3) false false true (Data.ints IntKind.i64 values)),
  some (Blk.mk (3) false false true (Data.ints IntKind.i64 words))]))
  (Tree.br (((List.length (fieldsL widths (splitL widths words))) : Int) != sizeZ widths)
  (Tree.ret
  (AV.bool true false,
  [some (Blk.mk (3) false false true (Data.ints IntKind.i64 widths)), some (Blk.mk (3) false false true (Data.ints IntKind.i64 values)),
  some (Blk.mk (3) false false true (Data.ints IntKind.i64 words))]))
  (Tree.br (decide (sizeZ widths > ((List.length words) : Int)))
  (Tree.ret
  (AV.bool true false,
  [some (Blk.mk (3) false false true (Data.ints IntKind.i64 widths)), some (Blk.mk (3) false false true (Data.ints IntKind.i64 values)),
  some (Blk.mk (3) false false true (Data.ints IntKind.i64 words))]))
  (Tree.chk
  (St.le
  (St.mk
  [jk, jk, AV.sl zwords (Ref.mk (2) (0) (0) (0)) false (List.length words) Cap.any, jk, jk, jk, jk, jk, jk, jk, jk,
  jk, jk,
  AV.sl (decide (fieldsL widths (splitL widths words) = [])) (Ref.mk (3) (0) (0) (0)) false (List.length (fieldsL widths (splitL widths words)))
  Cap.own,
  jk, AV.int IntKind.i64 false (sizeZ widths), AV.int IntKind.i64 false (sumI widths), jk, AV.int IntKind.i64 true (0 : Int), jk, jk, jk, jk, jk, jk,
  jk, jk, jk, jk, jk, jk, jk, jk, jk, jk, jk, jk, jk, jk, jk, jk, jk, jk, jk, jk, jk, jk,
  jk, jk, jk, jk, jk, jk, jk, jk, jk, jk, jk, jk, jk, jk, jk, jk, jk, jk, jk, jk, jk, jk,
  jk, jk, jk, jk, jk, jk, jk, jk, jk, jk, jk, jk, jk, jk, jk, jk, jk, jk, jk, jk, jk, jk,
  jk, jk, jk, jk, jk, jk, jk, jk, jk, jk, jk, jk, jk, jk, jk, jk, jk, jk, jk, jk, jk, jk,
  jk, jk, jk, jk, jk, jk, jk, jk, jk, jk, jk, jk, jk, jk, jk, jk, jk, jk, jk, jk, jk, jk,
  jk, jk, jk, jk]
  [some (Blk.mk (3) false false true (Data.ints IntKind.i64 widths)), some (Blk.mk (3) false false true (Data.ints IntKind.i64 values)),
  some (Blk.mk (3) false false true (Data.ints IntKind.i64 words)),
  some
  (Blk.mk (3) true (decide ((fieldsL widths (splitL widths words)) = [])) true
  (Data.ints IntKind.i64 (fieldsL widths (splitL widths words))))])
  (St.mk
  [jk, jk, AV.sl zwords (Ref.mk (2) (0) (0) (0)) false (List.length words) Cap.any, jk, jk, jk, jk, jk, jk, jk, jk,
  jk, jk,
  AV.sl (decide (fieldsL widths (splitL widths words) = [])) (Ref.mk (3) (0) (0) (0)) false (List.length (fieldsL widths (splitL widths words)))
  Cap.own,
  jk, AV.int IntKind.i64 false (sizeZ widths), AV.int IntKind.i64 false (sumI widths), jk, AV.int IntKind.i64 false (0 : Int), jk, jk, jk, jk, jk, jk,
  jk, jk, jk, jk, jk, jk, jk, jk, jk, jk, jk, jk, jk, jk, jk, jk, jk, jk, jk, jk, jk, jk,
  jk, jk, jk, jk, jk, jk, jk, jk, jk, jk, jk, jk, jk, jk, jk, jk, jk, jk, jk, jk, jk, jk,
  jk, jk, jk, jk, jk, jk, jk, jk, jk, jk, jk, jk, jk, jk, jk, jk, jk, jk, jk, jk, jk, jk,
  jk, jk, jk, jk, jk, jk, jk, jk, jk, jk, jk, jk, jk, jk, jk, jk, jk, jk, jk, jk, jk, jk,
  jk, jk, jk, jk, jk, jk, jk, jk, jk, jk, jk, jk, jk, jk, jk, jk, jk, jk, jk, jk, jk, jk,
  jk, jk, jk, jk]
  [some (Blk.mk (3) false false true (Data.ints IntKind.i64 widths)), some (Blk.mk (3) false false true (Data.ints IntKind.i64 values)),
  some (Blk.mk (3) false false true (Data.ints IntKind.i64 words)),
  some (Blk.mk (3) true (decide (fieldsL widths (splitL widths words) = [])) true (Data.ints IntKind.i64 (fieldsL widths (splitL widths words))))]))
  (Tree.chk (okPackFull_1 (XPackFull_1.mk widths values zwords words (Int.toNat (0 : Int))))
  (Tree.ret
  (AV.bool true true,
  [some (Blk.mk (3) false false true (Data.ints IntKind.i64 widths)), some (Blk.mk (3) false false true (Data.ints IntKind.i64 values)),
  some (Blk.mk (3) false false true (Data.ints IntKind.i64 words))]))))))))))))))))))) := by kernel_rfl
end Go.Proofs.Ytnkjblmlchbfkaa.Rig
