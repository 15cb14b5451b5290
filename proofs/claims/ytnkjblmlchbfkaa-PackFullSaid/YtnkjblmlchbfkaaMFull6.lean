/- MFull: what is proved for the claim, part 6: functions' reckonings, and what they give. -/
import Derived.Test.YtnkjblmlchbfkaaMFull5
import Derived.KernelRfl
import Derived.Test.YtnkjblmlchbfkaaRows
import Derived.WalkKit
import Derived.ProofKit
import Derived.OpenShut
import Derived.ShutString
import Derived.ChangeOld
import Derived.Below
import Derived.SizedLaws
set_option linter.unusedVariables false
set_option linter.unusedSimpArgs false
/- QPackFull -/
namespace Go.Proofs.Ytnkjblmlchbfkaa.Rig
open Go
set_option maxRecDepth 100000 in
theorem gPackFull (zwidths : Bool) (widths : List Int) (zvalues : Bool) (values : List Int) (zwords : Bool) (words : List Int) (hw : widths.length ≤ 9223372036854775807 ∧ (zwidths = true → widths = []) ∧ values.length ≤ 9223372036854775807 ∧ (zvalues = true → values = []) ∧ words.length ≤ 9223372036854775807 ∧ (zwords = true → words = []) ∧ wf64L values ∧ wf64L words ∧ wf64L widths) : (Tree.chk (True ∧ True)
  (Tree.br false
  (Tree.ret
  (AV.bool true false,
  [some (Blk.mk (3) false false true (Data.ints IntKind.i64 widths)), some (Blk.mk (3) false false true (Data.ints IntKind.i64 values)),
  some (Blk.mk (3) false false true (Data.ints IntKind.i64 words))]))
  (Tree.br (decide (((List.length widths) : Int) > (300 : Int)))
  (Tree.ret
  (AV.bool true true,
  [some (Blk.mk (3) false false true (Data.ints IntKind.i64 widths)), some (Blk.mk (3) false false true (Data.ints IntKind.i64 values)),
  some (Blk.mk (3) false false true (Data.ints IntKind.i64 words))]))
  (Tree.br (decide (((List.length values) : Int) > (300 : Int)))
  (Tree.ret
  (AV.bool true true,
  [some (Blk.mk (3) false false true (Data.ints IntKind.i64 widths)), some (Blk.mk (3) false false true (Data.ints IntKind.i64 values)),
  some (Blk.mk (3) false false true (Data.ints IntKind.i64 words))]))
  (Tree.br (decide (((List.length words) : Int) > (300 : Int)))
  (Tree.ret
  (AV.bool true true,
  [some (Blk.mk (3) false false true (Data.ints IntKind.i64 widths)), some (Blk.mk (3) false false true (Data.ints IntKind.i64 values)),
  some (Blk.mk (3) false false true (Data.ints IntKind.i64 words))]))
  (Tree.chk
  ((0 + List.length widths ≤ List.length widths ∧ 0 + List.length values ≤ List.length values ∧ True) ∧
  short (List.take (List.length widths) (List.drop (0) widths)) ∧
  short (List.take (List.length values) (List.drop (0) values)) ∧
  (zwidths = true → List.take (List.length widths) (List.drop (0) widths) = []) ∧
  (zvalues = true → List.take (List.length values) (List.drop (0) values) = []) ∧ wf64L (List.take (List.length values) (List.drop (0) values)))
  (Tree.br (fieldsE (List.take (List.length widths) (List.drop (0) widths)) (List.take (List.length values) (List.drop (0) values)) == (0 : Int))
  (Tree.chk
  ((0 + List.length (fieldsL (List.take (List.length widths) (List.drop (0) widths)) (List.take (List.length values) (List.drop (0) values))) ≤
  List.length (fieldsL (List.take (List.length widths) (List.drop (0) widths)) (List.take (List.length values) (List.drop (0) values))) ∧
  True) ∧
  List.length
  (List.take (List.length (fieldsL (List.take (List.length widths) (List.drop (0) widths)) (List.take (List.length values) (List.drop (0) values))))
  (List.drop (0) (fieldsL (List.take (List.length widths) (List.drop (0) widths)) (List.take (List.length values) (List.drop (0) values))))) ≤
  1000000 ∧
  (decide (fieldsL (List.take (List.length widths) (List.drop (0) widths)) (List.take (List.length values) (List.drop (0) values)) = []) = true →
  List.take (List.length (fieldsL (List.take (List.length widths) (List.drop (0) widths)) (List.take (List.length values) (List.drop (0) values))))
  (List.drop (0) (fieldsL (List.take (List.length widths) (List.drop (0) widths)) (List.take (List.length values) (List.drop (0) values)))) =
  []))
  (Tree.br
  (decide
  (((List.length
  (List.take (List.length (fieldsL (List.take (List.length widths) (List.drop (0) widths)) (List.take (List.length values) (List.drop (0) values))))
  (List.drop (0) (fieldsL (List.take (List.length widths) (List.drop (0) widths)) (List.take (List.length values) (List.drop (0) values))))) +
  1) : Int) ≤
  most48 ∧
  (((List.length
  (List.take (List.length (fieldsL (List.take (List.length widths) (List.drop (0) widths)) (List.take (List.length values) (List.drop (0) values))))
  (List.drop (0) (fieldsL (List.take (List.length widths) (List.drop (0) widths)) (List.take (List.length values) (List.drop (0) values))))) +
  1) *
  8) : Int) ≤
  most48))
  (Tree.br
  (decide
  (List.length
  (List.take (List.length (fieldsL (List.take (List.length widths) (List.drop (0) widths)) (List.take (List.length values) (List.drop (0) values))))
  (List.drop (0) (fieldsL (List.take (List.length widths) (List.drop (0) widths)) (List.take (List.length values) (List.drop (0) values))))) *
  1 =
  Data.size
  (Data.ints IntKind.i64
  (List.take (List.length (fieldsL (List.take (List.length widths) (List.drop (0) widths)) (List.take (List.length values) (List.drop (0) values))))
  (List.drop (0) (fieldsL (List.take (List.length widths) (List.drop (0) widths)) (List.take (List.length values) (List.drop (0) values)))))) ∧
  Data.size
  (Data.cells
  (List.take (1 * 1)
  (List.drop (0)
  (List.take (0 * 1) (zerosOf (List.map ofCell [Value.int IntKind.i64 (0 : Int)]) 1) ++
  (AV.parts
  (opnd (mkL Try.prog 0 (fun x => none) tab19 rowsPackFull)
  [AV.sl zwidths (Ref.mk 0 0 0 0) false (List.length widths) Cap.any,
  AV.sl zvalues (Ref.mk 1 0 0 0) false (List.length values) Cap.any,
  AV.sl zwords (Ref.mk 2 0 0 0) false (List.length words) Cap.any, jk, jk, jk, AV.bool true false,
  AV.sl (decide (fieldsL (List.take (List.length widths) (List.drop (0) widths)) (List.take (List.length values) (List.drop (0) values)) = []))
  (Ref.mk
  (List.length
  (id
  [some (Blk.mk 3 false false true (Data.ints IntKind.i64 widths)), some (Blk.mk 3 false false true (Data.ints IntKind.i64 values)),
  some (Blk.mk 3 false false true (Data.ints IntKind.i64 words))]) +
  (2 -
  List.length
  (List.range (0) ++
  List.filter (fun i => !decide (i < 0))
  (reach
  (id
  [some (Blk.mk 3 false false true (Data.ints IntKind.i64 widths)), some (Blk.mk 3 false false true (Data.ints IntKind.i64 values)),
  some (Blk.mk 3 false false true (Data.ints IntKind.i64 words))])
  fuelR
  (AV.refsL
  ([] ++
  List.map
  (opnd (mkL Try.prog 0 (fun x => none) tab19 rowsPackFull)
  [AV.sl zwidths (Ref.mk 0 0 0 0) false (List.length widths) Cap.any,
  AV.sl zvalues (Ref.mk 1 0 0 0) false (List.length values) Cap.any,
  AV.sl zwords (Ref.mk 2 0 0 0) false (List.length words) Cap.any, jk, jk, jk, AV.bool true false, jk,
  jk, jk, jk, jk, jk, jk, jk, jk, jk, jk, jk, jk, jk, AV.bool false true, AV.bool true false,
  AV.sl zwidths (Ref.mk 0 0 0 0) false (List.length widths) Cap.any, AV.int IntKind.i64 false ((List.length widths) : Int),
  AV.bool false (decide (((List.length widths) : Int) > (300 : Int))), AV.bool true false,
  AV.sl zvalues (Ref.mk 1 0 0 0) false (List.length values) Cap.any, AV.int IntKind.i64 false ((List.length values) : Int),
  AV.bool false (decide (((List.length values) : Int) > (300 : Int))), AV.bool false (decide (((List.length values) : Int) > (300 : Int))), AV.bool true false,
  AV.sl zwords (Ref.mk 2 0 0 0) false (List.length words) Cap.any, AV.int IntKind.i64 false ((List.length words) : Int),
  AV.bool false (decide (((List.length words) : Int) > (300 : Int))), AV.bool true false, jk,
  AV.sl zwidths (Ref.mk 0 0 0 0) false (List.length widths) Cap.any,
  AV.sl zvalues (Ref.mk 1 0 0 0) false (List.length values) Cap.any, jk, jk, jk, jk, jk, jk,
  jk, jk, jk, jk, jk, jk, jk, jk, jk, jk, jk, jk, jk, jk, jk, jk, jk, jk,
  jk, jk, jk, jk, jk, jk, jk, jk, jk, jk, jk, jk, jk, jk, jk, jk, jk, jk,
  jk, jk, jk, jk, jk, jk, jk, jk, jk, jk, jk, jk, jk, jk, jk, jk, jk, jk,
  jk, jk, jk, jk, jk, jk, jk, jk, jk, jk, jk, jk, jk, jk, jk, jk, jk, jk,
  jk, jk, jk, jk, jk, jk, jk, jk, jk, jk, jk, jk, jk, jk, jk, jk, jk, jk,
  jk, jk, jk, jk])
  [Operand.tmp 37, Operand.tmp 38] ++
  []))
  []))))
  (0) (0) (0))
  false (List.length (fieldsL (List.take (List.length widths) (List.drop (0) widths)) (List.take (List.length values) (List.drop (0) values)))) Cap.own,
  AV.int IntKind.i64 false (fieldsE (List.take (List.length widths) (List.drop (0) widths)) (List.take (List.length values) (List.drop (0) values))), jk, jk,
  jk, jk, jk, jk, jk, jk, jk, jk, jk, jk, AV.bool false true, AV.bool true false,
  AV.sl zwidths (Ref.mk 0 0 0 0) false (List.length widths) Cap.any, AV.int IntKind.i64 false ((List.length widths) : Int),
  AV.bool false (decide (((List.length widths) : Int) > (300 : Int))), AV.bool true false, AV.sl zvalues (Ref.mk 1 0 0 0) false (List.length values) Cap.any,
  AV.int IntKind.i64 false ((List.length values) : Int), AV.bool false (decide (((List.length values) : Int) > (300 : Int))), AV.bool false (decide (((List.length values) : Int) > (300 : Int))),
  AV.bool true false, AV.sl zwords (Ref.mk 2 0 0 0) false (List.length words) Cap.any, AV.int IntKind.i64 false ((List.length words) : Int),
  AV.bool false (decide (((List.length words) : Int) > (300 : Int))), AV.bool true false,
  AV.tup
  [AV.sl (decide (fieldsL (List.take (List.length widths) (List.drop (0) widths)) (List.take (List.length values) (List.drop (0) values)) = []))
  (Ref.mk
  (List.length
  (id
  [some (Blk.mk 3 false false true (Data.ints IntKind.i64 widths)), some (Blk.mk 3 false false true (Data.ints IntKind.i64 values)),
  some (Blk.mk 3 false false true (Data.ints IntKind.i64 words))]) +
  (2 -
  List.length
  (List.range (0) ++
  List.filter (fun i => !decide (i < 0))
  (reach
  (id
  [some (Blk.mk 3 false false true (Data.ints IntKind.i64 widths)), some (Blk.mk 3 false false true (Data.ints IntKind.i64 values)),
  some (Blk.mk 3 false false true (Data.ints IntKind.i64 words))])
  fuelR
  (AV.refsL
  ([] ++
  List.map
  (opnd (mkL Try.prog 0 (fun x => none) tab19 rowsPackFull)
  [AV.sl zwidths (Ref.mk 0 0 0 0) false (List.length widths) Cap.any,
  AV.sl zvalues (Ref.mk 1 0 0 0) false (List.length values) Cap.any,
  AV.sl zwords (Ref.mk 2 0 0 0) false (List.length words) Cap.any, jk, jk, jk, AV.bool true false, jk,
  jk, jk, jk, jk, jk, jk, jk, jk, jk, jk, jk, jk, jk, AV.bool false true, AV.bool true false,
  AV.sl zwidths (Ref.mk 0 0 0 0) false (List.length widths) Cap.any, AV.int IntKind.i64 false ((List.length widths) : Int),
  AV.bool false (decide (((List.length widths) : Int) > (300 : Int))), AV.bool true false,
  AV.sl zvalues (Ref.mk 1 0 0 0) false (List.length values) Cap.any, AV.int IntKind.i64 false ((List.length values) : Int),
  AV.bool false (decide (((List.length values) : Int) > (300 : Int))), AV.bool false (decide (((List.length values) : Int) > (300 : Int))), AV.bool true false,
  AV.sl zwords (Ref.mk 2 0 0 0) false (List.length words) Cap.any, AV.int IntKind.i64 false ((List.length words) : Int),
  AV.bool false (decide (((List.length words) : Int) > (300 : Int))), AV.bool true false, jk,
  AV.sl zwidths (Ref.mk 0 0 0 0) false (List.length widths) Cap.any,
  AV.sl zvalues (Ref.mk 1 0 0 0) false (List.length values) Cap.any, jk, jk, jk, jk, jk, jk,
  jk, jk, jk, jk, jk, jk, jk, jk, jk, jk, jk, jk, jk, jk, jk, jk, jk, jk,
  jk, jk, jk, jk, jk, jk, jk, jk, jk, jk, jk, jk, jk, jk, jk, jk, jk, jk,
  jk, jk, jk, jk, jk, jk, jk, jk, jk, jk, jk, jk, jk, jk, jk, jk, jk, jk,
  jk, jk, jk, jk, jk, jk, jk, jk, jk, jk, jk, jk, jk, jk, jk, jk, jk, jk,
  jk, jk, jk, jk, jk, jk, jk, jk, jk, jk, jk, jk, jk, jk, jk, jk, jk, jk,
  jk, jk, jk, jk])
  [Operand.tmp 37, Operand.tmp 38] ++
  []))
  []))))
  (0) (0) (0))
  false (List.length (fieldsL (List.take (List.length widths) (List.drop (0) widths)) (List.take (List.length values) (List.drop (0) values)))) Cap.own,
  AV.int IntKind.i64 false (fieldsE (List.take (List.length widths) (List.drop (0) widths)) (List.take (List.length values) (List.drop (0) values)))],
  AV.sl zwidths (Ref.mk 0 0 0 0) false (List.length widths) Cap.any,
  AV.sl zvalues (Ref.mk 1 0 0 0) false (List.length values) Cap.any,
  AV.tup
  [AV.sl (decide (fieldsL (List.take (List.length widths) (List.drop (0) widths)) (List.take (List.length values) (List.drop (0) values)) = []))
  (Ref.mk
  (List.length
  (id
  [some (Blk.mk 3 false false true (Data.ints IntKind.i64 widths)), some (Blk.mk 3 false false true (Data.ints IntKind.i64 values)),
  some (Blk.mk 3 false false true (Data.ints IntKind.i64 words))]) +
  (2 -
  List.length
  (List.range (0) ++
  List.filter (fun i => !decide (i < 0))
  (reach
  (id
  [some (Blk.mk 3 false false true (Data.ints IntKind.i64 widths)), some (Blk.mk 3 false false true (Data.ints IntKind.i64 values)),
  some (Blk.mk 3 false false true (Data.ints IntKind.i64 words))])
  fuelR
  (AV.refsL
  ([] ++
  List.map
  (opnd (mkL Try.prog 0 (fun x => none) tab19 rowsPackFull)
  [AV.sl zwidths (Ref.mk 0 0 0 0) false (List.length widths) Cap.any,
  AV.sl zvalues (Ref.mk 1 0 0 0) false (List.length values) Cap.any,
  AV.sl zwords (Ref.mk 2 0 0 0) false (List.length words) Cap.any, jk, jk, jk, AV.bool true false, jk,
  jk, jk, jk, jk, jk, jk, jk, jk, jk, jk, jk, jk, jk, AV.bool false true, AV.bool true false,
  AV.sl zwidths (Ref.mk 0 0 0 0) false (List.length widths) Cap.any, AV.int IntKind.i64 false ((List.length widths) : Int),
  AV.bool false (decide (((List.length widths) : Int) > (300 : Int))), AV.bool true false,
  AV.sl zvalues (Ref.mk 1 0 0 0) false (List.length values) Cap.any, AV.int IntKind.i64 false ((List.length values) : Int),
  AV.bool false (decide (((List.length values) : Int) > (300 : Int))), AV.bool false (decide (((List.length values) : Int) > (300 : Int))), AV.bool true false,
  AV.sl zwords (Ref.mk 2 0 0 0) false (List.length words) Cap.any, AV.int IntKind.i64 false ((List.length words) : Int),
  AV.bool false (decide (((List.length words) : Int) > (300 : Int))), AV.bool true false, jk,
  AV.sl zwidths (Ref.mk 0 0 0 0) false (List.length widths) Cap.any,
  AV.sl zvalues (Ref.mk 1 0 0 0) false (List.length values) Cap.any, jk, jk, jk, jk, jk, jk,
  jk, jk, jk, jk, jk, jk, jk, jk, jk, jk, jk, jk, jk, jk, jk, jk, jk, jk,
  jk, jk, jk, jk, jk, jk, jk, jk, jk, jk, jk, jk, jk, jk, jk, jk, jk, jk,
  jk, jk, jk, jk, jk, jk, jk, jk, jk, jk, jk, jk, jk, jk, jk, jk, jk, jk,
  jk, jk, jk, jk, jk, jk, jk, jk, jk, jk, jk, jk, jk, jk, jk, jk, jk, jk,
  jk, jk, jk, jk, jk, jk, jk, jk, jk, jk, jk, jk, jk, jk, jk, jk, jk, jk,
  jk, jk, jk, jk])
  [Operand.tmp 37, Operand.tmp 38] ++
  []))
  []))))
  (0) (0) (0))
  false (List.length (fieldsL (List.take (List.length widths) (List.drop (0) widths)) (List.take (List.length values) (List.drop (0) values)))) Cap.own,
  AV.int IntKind.i64 false (fieldsE (List.take (List.length widths) (List.drop (0) widths)) (List.take (List.length values) (List.drop (0) values)))],
  AV.sl (decide (fieldsL (List.take (List.length widths) (List.drop (0) widths)) (List.take (List.length values) (List.drop (0) values)) = []))
  (Ref.mk
  (List.length
  (id
  [some (Blk.mk 3 false false true (Data.ints IntKind.i64 widths)), some (Blk.mk 3 false false true (Data.ints IntKind.i64 values)),
  some (Blk.mk 3 false false true (Data.ints IntKind.i64 words))]) +
  (2 -
  List.length
  (List.range (0) ++
  List.filter (fun i => !decide (i < 0))
  (reach
  (id
  [some (Blk.mk 3 false false true (Data.ints IntKind.i64 widths)), some (Blk.mk 3 false false true (Data.ints IntKind.i64 values)),
  some (Blk.mk 3 false false true (Data.ints IntKind.i64 words))])
  fuelR
  (AV.refsL
  ([] ++
  List.map
  (opnd (mkL Try.prog 0 (fun x => none) tab19 rowsPackFull)
  [AV.sl zwidths (Ref.mk 0 0 0 0) false (List.length widths) Cap.any,
  AV.sl zvalues (Ref.mk 1 0 0 0) false (List.length values) Cap.any,
  AV.sl zwords (Ref.mk 2 0 0 0) false (List.length words) Cap.any, jk, jk, jk, AV.bool true false, jk,
  jk, jk, jk, jk, jk, jk, jk, jk, jk, jk, jk, jk, jk, AV.bool false true, AV.bool true false,
  AV.sl zwidths (Ref.mk 0 0 0 0) false (List.length widths) Cap.any, AV.int IntKind.i64 false ((List.length widths) : Int),
  AV.bool false (decide (((List.length widths) : Int) > (300 : Int))), AV.bool true false,
  AV.sl zvalues (Ref.mk 1 0 0 0) false (List.length values) Cap.any, AV.int IntKind.i64 false ((List.length values) : Int),
  AV.bool false (decide (((List.length values) : Int) > (300 : Int))), AV.bool false (decide (((List.length values) : Int) > (300 : Int))), AV.bool true false,
  AV.sl zwords (Ref.mk 2 0 0 0) false (List.length words) Cap.any, AV.int IntKind.i64 false ((List.length words) : Int),
  AV.bool false (decide (((List.length words) : Int) > (300 : Int))), AV.bool true false, jk,
  AV.sl zwidths (Ref.mk 0 0 0 0) false (List.length widths) Cap.any,
  AV.sl zvalues (Ref.mk 1 0 0 0) false (List.length values) Cap.any, jk, jk, jk, jk, jk, jk,
  jk, jk, jk, jk, jk, jk, jk, jk, jk, jk, jk, jk, jk, jk, jk, jk, jk, jk,
  jk, jk, jk, jk, jk, jk, jk, jk, jk, jk, jk, jk, jk, jk, jk, jk, jk, jk,
  jk, jk, jk, jk, jk, jk, jk, jk, jk, jk, jk, jk, jk, jk, jk, jk, jk, jk,
  jk, jk, jk, jk, jk, jk, jk, jk, jk, jk, jk, jk, jk, jk, jk, jk, jk, jk,
  jk, jk, jk, jk, jk, jk, jk, jk, jk, jk, jk, jk, jk, jk, jk, jk, jk, jk,
  jk, jk, jk, jk])
  [Operand.tmp 37, Operand.tmp 38] ++
  []))
  []))))
  (0) (0) (0))
  false (List.length (fieldsL (List.take (List.length widths) (List.drop (0) widths)) (List.take (List.length values) (List.drop (0) values)))) Cap.own,
  AV.int IntKind.i64 false (fieldsE (List.take (List.length widths) (List.drop (0) widths)) (List.take (List.length values) (List.drop (0) values))),
  AV.int IntKind.i64 false (fieldsE (List.take (List.length widths) (List.drop (0) widths)) (List.take (List.length values) (List.drop (0) values))), AV.bool true true,
  jk, AV.sl zwidths (Ref.mk 0 0 0 0) false (List.length widths) Cap.any,
  AV.sl (decide (fieldsL (List.take (List.length widths) (List.drop (0) widths)) (List.take (List.length values) (List.drop (0) values)) = []))
  (Ref.mk
  (List.length
  (id
  [some (Blk.mk 3 false false true (Data.ints IntKind.i64 widths)), some (Blk.mk 3 false false true (Data.ints IntKind.i64 values)),
  some (Blk.mk 3 false false true (Data.ints IntKind.i64 words))]) +
  (2 -
  List.length
  (List.range (0) ++
  List.filter (fun i => !decide (i < 0))
  (reach
  (id
  [some (Blk.mk 3 false false true (Data.ints IntKind.i64 widths)), some (Blk.mk 3 false false true (Data.ints IntKind.i64 values)),
  some (Blk.mk 3 false false true (Data.ints IntKind.i64 words))])
  fuelR
  (AV.refsL
  ([] ++
  List.map
  (opnd (mkL Try.prog 0 (fun x => none) tab19 rowsPackFull)
  [AV.sl zwidths (Ref.mk 0 0 0 0) false (List.length widths) Cap.any,
  AV.sl zvalues (Ref.mk 1 0 0 0) false (List.length values) Cap.any,
  AV.sl zwords (Ref.mk 2 0 0 0) false (List.length words) Cap.any, jk, jk, jk, AV.bool true false, jk,
  jk, jk, jk, jk, jk, jk, jk, jk, jk, jk, jk, jk, jk, AV.bool false true, AV.bool true false,
  AV.sl zwidths (Ref.mk 0 0 0 0) false (List.length widths) Cap.any, AV.int IntKind.i64 false ((List.length widths) : Int),
  AV.bool false (decide (((List.length widths) : Int) > (300 : Int))), AV.bool true false,
  AV.sl zvalues (Ref.mk 1 0 0 0) false (List.length values) Cap.any, AV.int IntKind.i64 false ((List.length values) : Int),
  AV.bool false (decide (((List.length values) : Int) > (300 : Int))), AV.bool false (decide (((List.length values) : Int) > (300 : Int))), AV.bool true false,
  AV.sl zwords (Ref.mk 2 0 0 0) false (List.length words) Cap.any, AV.int IntKind.i64 false ((List.length words) : Int),
  AV.bool false (decide (((List.length words) : Int) > (300 : Int))), AV.bool true false, jk,
  AV.sl zwidths (Ref.mk 0 0 0 0) false (List.length widths) Cap.any,
  AV.sl zvalues (Ref.mk 1 0 0 0) false (List.length values) Cap.any, jk, jk, jk, jk, jk, jk,
  jk, jk, jk, jk, jk, jk, jk, jk, jk, jk, jk, jk, jk, jk, jk, jk, jk, jk,
  jk, jk, jk, jk, jk, jk, jk, jk, jk, jk, jk, jk, jk, jk, jk, jk, jk, jk,
  jk, jk, jk, jk, jk, jk, jk, jk, jk, jk, jk, jk, jk, jk, jk, jk, jk, jk,
  jk, jk, jk, jk, jk, jk, jk, jk, jk, jk, jk, jk, jk, jk, jk, jk, jk, jk,
  jk, jk, jk, jk, jk, jk, jk, jk, jk, jk, jk, jk, jk, jk, jk, jk, jk, jk,
  jk, jk, jk, jk])
  [Operand.tmp 37, Operand.tmp 38] ++
  []))
  []))))
  (0) (0) (0))
  false (List.length (fieldsL (List.take (List.length widths) (List.drop (0) widths)) (List.take (List.length values) (List.drop (0) values)))) Cap.own,
  AV.sl false
  (Ref.mk
  (List.length
  (id
  [some
  (Blk.ren
  (fun i =>
  Bool.rec
  (some
  (List.length
  (id
  [some (Blk.mk 3 false false true (Data.ints IntKind.i64 widths)), some (Blk.mk 3 false false true (Data.ints IntKind.i64 values)),
  some (Blk.mk 3 false false true (Data.ints IntKind.i64 words))]) +
  (i -
  List.length
  (List.range (0) ++
  List.filter (fun i => !decide (i < 0))
  (reach
  (id
  [some (Blk.mk 3 false false true (Data.ints IntKind.i64 widths)), some (Blk.mk 3 false false true (Data.ints IntKind.i64 values)),
  some (Blk.mk 3 false false true (Data.ints IntKind.i64 words))])
  fuelR
  (AV.refsL
  ([] ++
  List.map
  (opnd (mkL Try.prog 0 (fun x => none) tab19 rowsPackFull)
  [AV.sl zwidths (Ref.mk 0 0 0 0) false (List.length widths) Cap.any,
  AV.sl zvalues (Ref.mk 1 0 0 0) false (List.length values) Cap.any,
  AV.sl zwords (Ref.mk 2 0 0 0) false (List.length words) Cap.any, jk, jk, jk,
  AV.bool true false, jk, jk, jk, jk, jk, jk, jk, jk, jk, jk, jk, jk, jk, jk,
  AV.bool false true, AV.bool true false, AV.sl zwidths (Ref.mk 0 0 0 0) false (List.length widths) Cap.any,
  AV.int IntKind.i64 false ((List.length widths) : Int), AV.bool false (decide (((List.length widths) : Int) > (300 : Int))), AV.bool true false,
  AV.sl zvalues (Ref.mk 1 0 0 0) false (List.length values) Cap.any,
  AV.int IntKind.i64 false ((List.length values) : Int), AV.bool false (decide (((List.length values) : Int) > (300 : Int))),
  AV.bool false (decide (((List.length values) : Int) > (300 : Int))), AV.bool true false,
  AV.sl zwords (Ref.mk 2 0 0 0) false (List.length words) Cap.any,
  AV.int IntKind.i64 false ((List.length words) : Int), AV.bool false (decide (((List.length words) : Int) > (300 : Int))), AV.bool true false, jk,
  AV.sl zwidths (Ref.mk 0 0 0 0) false (List.length widths) Cap.any,
  AV.sl zvalues (Ref.mk 1 0 0 0) false (List.length values) Cap.any, jk, jk, jk, jk,
  jk, jk, jk, jk, jk, jk, jk, jk, jk, jk, jk, jk, jk, jk, jk, jk,
  jk, jk, jk, jk, jk, jk, jk, jk, jk, jk, jk, jk, jk, jk, jk, jk,
  jk, jk, jk, jk, jk, jk, jk, jk, jk, jk, jk, jk, jk, jk, jk, jk,
  jk, jk, jk, jk, jk, jk, jk, jk, jk, jk, jk, jk, jk, jk, jk, jk,
  jk, jk, jk, jk, jk, jk, jk, jk, jk, jk, jk, jk, jk, jk, jk, jk,
  jk, jk, jk, jk, jk, jk, jk, jk, jk, jk, jk, jk, jk, jk, jk, jk])
  [Operand.tmp 37, Operand.tmp 38] ++
  []))
  [])))))
  (List.range (0) ++
  List.filter (fun i => !decide (i < 0))
  (reach
  (id
  [some (Blk.mk 3 false false true (Data.ints IntKind.i64 widths)), some (Blk.mk 3 false false true (Data.ints IntKind.i64 values)),
  some (Blk.mk 3 false false true (Data.ints IntKind.i64 words))])
  fuelR
  (AV.refsL
  ([] ++
  List.map
  (opnd (mkL Try.prog 0 (fun x => none) tab19 rowsPackFull)
  [AV.sl zwidths (Ref.mk 0 0 0 0) false (List.length widths) Cap.any,
  AV.sl zvalues (Ref.mk 1 0 0 0) false (List.length values) Cap.any,
  AV.sl zwords (Ref.mk 2 0 0 0) false (List.length words) Cap.any, jk, jk, jk, AV.bool true false,
  jk, jk, jk, jk, jk, jk, jk, jk, jk, jk, jk, jk, jk, jk, AV.bool false true,
  AV.bool true false, AV.sl zwidths (Ref.mk 0 0 0 0) false (List.length widths) Cap.any,
  AV.int IntKind.i64 false ((List.length widths) : Int), AV.bool false (decide (((List.length widths) : Int) > (300 : Int))), AV.bool true false,
  AV.sl zvalues (Ref.mk 1 0 0 0) false (List.length values) Cap.any,
  AV.int IntKind.i64 false ((List.length values) : Int), AV.bool false (decide (((List.length values) : Int) > (300 : Int))),
  AV.bool false (decide (((List.length values) : Int) > (300 : Int))), AV.bool true false,
  AV.sl zwords (Ref.mk 2 0 0 0) false (List.length words) Cap.any, AV.int IntKind.i64 false ((List.length words) : Int),
  AV.bool false (decide (((List.length words) : Int) > (300 : Int))), AV.bool true false, jk,
  AV.sl zwidths (Ref.mk 0 0 0 0) false (List.length widths) Cap.any,
  AV.sl zvalues (Ref.mk 1 0 0 0) false (List.length values) Cap.any, jk, jk, jk, jk, jk,
  jk, jk, jk, jk, jk, jk, jk, jk, jk, jk, jk, jk, jk, jk, jk, jk, jk,
  jk, jk, jk, jk, jk, jk, jk, jk, jk, jk, jk, jk, jk, jk, jk, jk, jk,
  jk, jk, jk, jk, jk, jk, jk, jk, jk, jk, jk, jk, jk, jk, jk, jk, jk,
  jk, jk, jk, jk, jk, jk, jk, jk, jk, jk, jk, jk, jk, jk, jk, jk, jk,
  jk, jk, jk, jk, jk, jk, jk, jk, jk, jk, jk, jk, jk, jk, jk, jk, jk,
  jk, jk, jk, jk, jk, jk, jk, jk, jk, jk])
  [Operand.tmp 37, Operand.tmp 38] ++
  []))
  []))[i]?
  (decide
  (i <
  List.length
  (List.range (0) ++
  List.filter (fun i => !decide (i < 0))
  (reach
  (id
  [some (Blk.mk 3 false false true (Data.ints IntKind.i64 widths)), some (Blk.mk 3 false false true (Data.ints IntKind.i64 values)),
  some (Blk.mk 3 false false true (Data.ints IntKind.i64 words))])
  fuelR
  (AV.refsL
  ([] ++
  List.map
  (opnd (mkL Try.prog 0 (fun x => none) tab19 rowsPackFull)
  [AV.sl zwidths (Ref.mk 0 0 0 0) false (List.length widths) Cap.any,
  AV.sl zvalues (Ref.mk 1 0 0 0) false (List.length values) Cap.any,
  AV.sl zwords (Ref.mk 2 0 0 0) false (List.length words) Cap.any, jk, jk, jk, AV.bool true false,
  jk, jk, jk, jk, jk, jk, jk, jk, jk, jk, jk, jk, jk, jk, AV.bool false true,
  AV.bool true false, AV.sl zwidths (Ref.mk 0 0 0 0) false (List.length widths) Cap.any,
  AV.int IntKind.i64 false ((List.length widths) : Int), AV.bool false (decide (((List.length widths) : Int) > (300 : Int))), AV.bool true false,
  AV.sl zvalues (Ref.mk 1 0 0 0) false (List.length values) Cap.any,
  AV.int IntKind.i64 false ((List.length values) : Int), AV.bool false (decide (((List.length values) : Int) > (300 : Int))),
  AV.bool false (decide (((List.length values) : Int) > (300 : Int))), AV.bool true false,
  AV.sl zwords (Ref.mk 2 0 0 0) false (List.length words) Cap.any,
  AV.int IntKind.i64 false ((List.length words) : Int), AV.bool false (decide (((List.length words) : Int) > (300 : Int))), AV.bool true false, jk,
  AV.sl zwidths (Ref.mk 0 0 0 0) false (List.length widths) Cap.any,
  AV.sl zvalues (Ref.mk 1 0 0 0) false (List.length values) Cap.any, jk, jk, jk, jk, jk,
  jk, jk, jk, jk, jk, jk, jk, jk, jk, jk, jk, jk, jk, jk, jk, jk,
  jk, jk, jk, jk, jk, jk, jk, jk, jk, jk, jk, jk, jk, jk, jk, jk,
  jk, jk, jk, jk, jk, jk, jk, jk, jk, jk, jk, jk, jk, jk, jk, jk,
  jk, jk, jk, jk, jk, jk, jk, jk, jk, jk, jk, jk, jk, jk, jk, jk,
  jk, jk, jk, jk, jk, jk, jk, jk, jk, jk, jk, jk, jk, jk, jk, jk,
  jk, jk, jk, jk, jk, jk, jk, jk, jk, jk, jk, jk, jk, jk, jk])
  [Operand.tmp 37, Operand.tmp 38] ++
  []))
  [])))))
  (Blk.ren
  (idxOf
  (List.range (0) ++
  List.filter (fun i => !decide (i < 0))
  (reach
  (id
  [some (Blk.mk 3 false false true (Data.ints IntKind.i64 widths)), some (Blk.mk 3 false false true (Data.ints IntKind.i64 values)),
  some (Blk.mk 3 false false true (Data.ints IntKind.i64 words))])
  fuelR
  (AV.refsL
  ([] ++
  List.map
  (opnd (mkL Try.prog 0 (fun x => none) tab19 rowsPackFull)
  [AV.sl zwidths (Ref.mk 0 0 0 0) false (List.length widths) Cap.any,
  AV.sl zvalues (Ref.mk 1 0 0 0) false (List.length values) Cap.any,
  AV.sl zwords (Ref.mk 2 0 0 0) false (List.length words) Cap.any, jk, jk, jk, AV.bool true false,
  jk, jk, jk, jk, jk, jk, jk, jk, jk, jk, jk, jk, jk, jk, AV.bool false true,
  AV.bool true false, AV.sl zwidths (Ref.mk 0 0 0 0) false (List.length widths) Cap.any,
  AV.int IntKind.i64 false ((List.length widths) : Int), AV.bool false (decide (((List.length widths) : Int) > (300 : Int))), AV.bool true false,
  AV.sl zvalues (Ref.mk 1 0 0 0) false (List.length values) Cap.any, AV.int IntKind.i64 false ((List.length values) : Int),
  AV.bool false (decide (((List.length values) : Int) > (300 : Int))), AV.bool false (decide (((List.length values) : Int) > (300 : Int))), AV.bool true false,
  AV.sl zwords (Ref.mk 2 0 0 0) false (List.length words) Cap.any, AV.int IntKind.i64 false ((List.length words) : Int),
  AV.bool false (decide (((List.length words) : Int) > (300 : Int))), AV.bool true false, jk,
  AV.sl zwidths (Ref.mk 0 0 0 0) false (List.length widths) Cap.any,
  AV.sl zvalues (Ref.mk 1 0 0 0) false (List.length values) Cap.any, jk, jk, jk, jk, jk,
  jk, jk, jk, jk, jk, jk, jk, jk, jk, jk, jk, jk, jk, jk, jk, jk, jk,
  jk, jk, jk, jk, jk, jk, jk, jk, jk, jk, jk, jk, jk, jk, jk, jk, jk,
  jk, jk, jk, jk, jk, jk, jk, jk, jk, jk, jk, jk, jk, jk, jk, jk, jk,
  jk, jk, jk, jk, jk, jk, jk, jk, jk, jk, jk, jk, jk, jk, jk, jk, jk,
  jk, jk, jk, jk, jk, jk, jk, jk, jk, jk, jk, jk, jk, jk, jk, jk, jk,
  jk, jk, jk, jk, jk, jk, jk, jk, jk, jk])
  [Operand.tmp 37, Operand.tmp 38] ++
  []))
  [])))
  (Blk.mk 3 false false true (Data.ints IntKind.i64 widths)))),
  some
  (Blk.ren
  (fun i =>
  Bool.rec
  (some
  (List.length
  (id
  [some (Blk.mk 3 false false true (Data.ints IntKind.i64 widths)), some (Blk.mk 3 false false true (Data.ints IntKind.i64 values)),
  some (Blk.mk 3 false false true (Data.ints IntKind.i64 words))]) +
  (i -
  List.length
  (List.range (0) ++
  List.filter (fun i => !decide (i < 0))
  (reach
  (id
  [some (Blk.mk 3 false false true (Data.ints IntKind.i64 widths)), some (Blk.mk 3 false false true (Data.ints IntKind.i64 values)),
  some (Blk.mk 3 false false true (Data.ints IntKind.i64 words))])
  fuelR
  (AV.refsL
  ([] ++
  List.map
  (opnd (mkL Try.prog 0 (fun x => none) tab19 rowsPackFull)
  [AV.sl zwidths (Ref.mk 0 0 0 0) false (List.length widths) Cap.any,
  AV.sl zvalues (Ref.mk 1 0 0 0) false (List.length values) Cap.any,
  AV.sl zwords (Ref.mk 2 0 0 0) false (List.length words) Cap.any, jk, jk, jk,
  AV.bool true false, jk, jk, jk, jk, jk, jk, jk, jk, jk, jk, jk, jk, jk, jk,
  AV.bool false true, AV.bool true false, AV.sl zwidths (Ref.mk 0 0 0 0) false (List.length widths) Cap.any,
  AV.int IntKind.i64 false ((List.length widths) : Int), AV.bool false (decide (((List.length widths) : Int) > (300 : Int))), AV.bool true false,
  AV.sl zvalues (Ref.mk 1 0 0 0) false (List.length values) Cap.any,
  AV.int IntKind.i64 false ((List.length values) : Int), AV.bool false (decide (((List.length values) : Int) > (300 : Int))),
  AV.bool false (decide (((List.length values) : Int) > (300 : Int))), AV.bool true false,
  AV.sl zwords (Ref.mk 2 0 0 0) false (List.length words) Cap.any,
  AV.int IntKind.i64 false ((List.length words) : Int), AV.bool false (decide (((List.length words) : Int) > (300 : Int))), AV.bool true false, jk,
  AV.sl zwidths (Ref.mk 0 0 0 0) false (List.length widths) Cap.any,
  AV.sl zvalues (Ref.mk 1 0 0 0) false (List.length values) Cap.any, jk, jk, jk, jk,
  jk, jk, jk, jk, jk, jk, jk, jk, jk, jk, jk, jk, jk, jk, jk, jk,
  jk, jk, jk, jk, jk, jk, jk, jk, jk, jk, jk, jk, jk, jk, jk, jk,
  jk, jk, jk, jk, jk, jk, jk, jk, jk, jk, jk, jk, jk, jk, jk, jk,
  jk, jk, jk, jk, jk, jk, jk, jk, jk, jk, jk, jk, jk, jk, jk, jk,
  jk, jk, jk, jk, jk, jk, jk, jk, jk, jk, jk, jk, jk, jk, jk, jk,
  jk, jk, jk, jk, jk, jk, jk, jk, jk, jk, jk, jk, jk, jk, jk, jk])
  [Operand.tmp 37, Operand.tmp 38] ++
  []))
  [])))))
  (List.range (0) ++
  List.filter (fun i => !decide (i < 0))
  (reach
  (id
  [some (Blk.mk 3 false false true (Data.ints IntKind.i64 widths)), some (Blk.mk 3 false false true (Data.ints IntKind.i64 values)),
  some (Blk.mk 3 false false true (Data.ints IntKind.i64 words))])
  fuelR
  (AV.refsL
  ([] ++
  List.map
  (opnd (mkL Try.prog 0 (fun x => none) tab19 rowsPackFull)
  [AV.sl zwidths (Ref.mk 0 0 0 0) false (List.length widths) Cap.any,
  AV.sl zvalues (Ref.mk 1 0 0 0) false (List.length values) Cap.any,
  AV.sl zwords (Ref.mk 2 0 0 0) false (List.length words) Cap.any, jk, jk, jk, AV.bool true false,
  jk, jk, jk, jk, jk, jk, jk, jk, jk, jk, jk, jk, jk, jk, AV.bool false true,
  AV.bool true false, AV.sl zwidths (Ref.mk 0 0 0 0) false (List.length widths) Cap.any,
  AV.int IntKind.i64 false ((List.length widths) : Int), AV.bool false (decide (((List.length widths) : Int) > (300 : Int))), AV.bool true false,
  AV.sl zvalues (Ref.mk 1 0 0 0) false (List.length values) Cap.any,
  AV.int IntKind.i64 false ((List.length values) : Int), AV.bool false (decide (((List.length values) : Int) > (300 : Int))),
  AV.bool false (decide (((List.length values) : Int) > (300 : Int))), AV.bool true false,
  AV.sl zwords (Ref.mk 2 0 0 0) false (List.length words) Cap.any, AV.int IntKind.i64 false ((List.length words) : Int),
  AV.bool false (decide (((List.length words) : Int) > (300 : Int))), AV.bool true false, jk,
  AV.sl zwidths (Ref.mk 0 0 0 0) false (List.length widths) Cap.any,
  AV.sl zvalues (Ref.mk 1 0 0 0) false (List.length values) Cap.any, jk, jk, jk, jk, jk,
  jk, jk, jk, jk, jk, jk, jk, jk, jk, jk, jk, jk, jk, jk, jk, jk, jk,
  jk, jk, jk, jk, jk, jk, jk, jk, jk, jk, jk, jk, jk, jk, jk, jk, jk,
  jk, jk, jk, jk, jk, jk, jk, jk, jk, jk, jk, jk, jk, jk, jk, jk, jk,
  jk, jk, jk, jk, jk, jk, jk, jk, jk, jk, jk, jk, jk, jk, jk, jk, jk,
  jk, jk, jk, jk, jk, jk, jk, jk, jk, jk, jk, jk, jk, jk, jk, jk, jk,
  jk, jk, jk, jk, jk, jk, jk, jk, jk, jk])
  [Operand.tmp 37, Operand.tmp 38] ++
  []))
  []))[i]?
  (decide
  (i <
  List.length
  (List.range (0) ++
  List.filter (fun i => !decide (i < 0))
  (reach
  (id
  [some (Blk.mk 3 false false true (Data.ints IntKind.i64 widths)), some (Blk.mk 3 false false true (Data.ints IntKind.i64 values)),
  some (Blk.mk 3 false false true (Data.ints IntKind.i64 words))])
  fuelR
  (AV.refsL
  ([] ++
  List.map
  (opnd (mkL Try.prog 0 (fun x => none) tab19 rowsPackFull)
  [AV.sl zwidths (Ref.mk 0 0 0 0) false (List.length widths) Cap.any,
  AV.sl zvalues (Ref.mk 1 0 0 0) false (List.length values) Cap.any,
  AV.sl zwords (Ref.mk 2 0 0 0) false (List.length words) Cap.any, jk, jk, jk, AV.bool true false,
  jk, jk, jk, jk, jk, jk, jk, jk, jk, jk, jk, jk, jk, jk, AV.bool false true,
  AV.bool true false, AV.sl zwidths (Ref.mk 0 0 0 0) false (List.length widths) Cap.any,
  AV.int IntKind.i64 false ((List.length widths) : Int), AV.bool false (decide (((List.length widths) : Int) > (300 : Int))), AV.bool true false,
  AV.sl zvalues (Ref.mk 1 0 0 0) false (List.length values) Cap.any,
  AV.int IntKind.i64 false ((List.length values) : Int), AV.bool false (decide (((List.length values) : Int) > (300 : Int))),
  AV.bool false (decide (((List.length values) : Int) > (300 : Int))), AV.bool true false,
  AV.sl zwords (Ref.mk 2 0 0 0) false (List.length words) Cap.any,
  AV.int IntKind.i64 false ((List.length words) : Int), AV.bool false (decide (((List.length words) : Int) > (300 : Int))), AV.bool true false, jk,
  AV.sl zwidths (Ref.mk 0 0 0 0) false (List.length widths) Cap.any,
  AV.sl zvalues (Ref.mk 1 0 0 0) false (List.length values) Cap.any, jk, jk, jk, jk, jk,
  jk, jk, jk, jk, jk, jk, jk, jk, jk, jk, jk, jk, jk, jk, jk, jk,
  jk, jk, jk, jk, jk, jk, jk, jk, jk, jk, jk, jk, jk, jk, jk, jk,
  jk, jk, jk, jk, jk, jk, jk, jk, jk, jk, jk, jk, jk, jk, jk, jk,
  jk, jk, jk, jk, jk, jk, jk, jk, jk, jk, jk, jk, jk, jk, jk, jk,
  jk, jk, jk, jk, jk, jk, jk, jk, jk, jk, jk, jk, jk, jk, jk, jk,
  jk, jk, jk, jk, jk, jk, jk, jk, jk, jk, jk, jk, jk, jk, jk])
  [Operand.tmp 37, Operand.tmp 38] ++
  []))
  [])))))
  (Blk.ren
  (idxOf
  (List.range (0) ++
  List.filter (fun i => !decide (i < 0))
  (reach
  (id
  [some (Blk.mk 3 false false true (Data.ints IntKind.i64 widths)), some (Blk.mk 3 false false true (Data.ints IntKind.i64 values)),
  some (Blk.mk 3 false false true (Data.ints IntKind.i64 words))])
  fuelR
  (AV.refsL
  ([] ++
  List.map
  (opnd (mkL Try.prog 0 (fun x => none) tab19 rowsPackFull)
  [AV.sl zwidths (Ref.mk 0 0 0 0) false (List.length widths) Cap.any,
  AV.sl zvalues (Ref.mk 1 0 0 0) false (List.length values) Cap.any,
  AV.sl zwords (Ref.mk 2 0 0 0) false (List.length words) Cap.any, jk, jk, jk, AV.bool true false,
  jk, jk, jk, jk, jk, jk, jk, jk, jk, jk, jk, jk, jk, jk, AV.bool false true,
  AV.bool true false, AV.sl zwidths (Ref.mk 0 0 0 0) false (List.length widths) Cap.any,
  AV.int IntKind.i64 false ((List.length widths) : Int), AV.bool false (decide (((List.length widths) : Int) > (300 : Int))), AV.bool true false,
  AV.sl zvalues (Ref.mk 1 0 0 0) false (List.length values) Cap.any, AV.int IntKind.i64 false ((List.length values) : Int),
  AV.bool false (decide (((List.length values) : Int) > (300 : Int))), AV.bool false (decide (((List.length values) : Int) > (300 : Int))), AV.bool true false,
  AV.sl zwords (Ref.mk 2 0 0 0) false (List.length words) Cap.any, AV.int IntKind.i64 false ((List.length words) : Int),
  AV.bool false (decide (((List.length words) : Int) > (300 : Int))), AV.bool true false, jk,
  AV.sl zwidths (Ref.mk 0 0 0 0) false (List.length widths) Cap.any,
  AV.sl zvalues (Ref.mk 1 0 0 0) false (List.length values) Cap.any, jk, jk, jk, jk, jk,
  jk, jk, jk, jk, jk, jk, jk, jk, jk, jk, jk, jk, jk, jk, jk, jk, jk,
  jk, jk, jk, jk, jk, jk, jk, jk, jk, jk, jk, jk, jk, jk, jk, jk, jk,
  jk, jk, jk, jk, jk, jk, jk, jk, jk, jk, jk, jk, jk, jk, jk, jk, jk,
  jk, jk, jk, jk, jk, jk, jk, jk, jk, jk, jk, jk, jk, jk, jk, jk, jk,
  jk, jk, jk, jk, jk, jk, jk, jk, jk, jk, jk, jk, jk, jk, jk, jk, jk,
  jk, jk, jk, jk, jk, jk, jk, jk, jk, jk])
  [Operand.tmp 37, Operand.tmp 38] ++
  []))
  [])))
  (Blk.mk 3 false false true (Data.ints IntKind.i64 values)))),
  some (Blk.mk 3 false false true (Data.ints IntKind.i64 words)),
  some
  (Blk.ren
  (fun i =>
  Bool.rec
  (some
  (List.length
  (id
  [some (Blk.mk 3 false false true (Data.ints IntKind.i64 widths)), some (Blk.mk 3 false false true (Data.ints IntKind.i64 values)),
  some (Blk.mk 3 false false true (Data.ints IntKind.i64 words))]) +
  (i -
  List.length
  (List.range (0) ++
  List.filter (fun i => !decide (i < 0))
  (reach
  (id
  [some (Blk.mk 3 false false true (Data.ints IntKind.i64 widths)), some (Blk.mk 3 false false true (Data.ints IntKind.i64 values)),
  some (Blk.mk 3 false false true (Data.ints IntKind.i64 words))])
  fuelR
  (AV.refsL
  ([] ++
  List.map
  (opnd (mkL Try.prog 0 (fun x => none) tab19 rowsPackFull)
  [AV.sl zwidths (Ref.mk 0 0 0 0) false (List.length widths) Cap.any,
  AV.sl zvalues (Ref.mk 1 0 0 0) false (List.length values) Cap.any,
  AV.sl zwords (Ref.mk 2 0 0 0) false (List.length words) Cap.any, jk, jk, jk,
  AV.bool true false, jk, jk, jk, jk, jk, jk, jk, jk, jk, jk, jk, jk, jk, jk,
  AV.bool false true, AV.bool true false, AV.sl zwidths (Ref.mk 0 0 0 0) false (List.length widths) Cap.any,
  AV.int IntKind.i64 false ((List.length widths) : Int), AV.bool false (decide (((List.length widths) : Int) > (300 : Int))), AV.bool true false,
  AV.sl zvalues (Ref.mk 1 0 0 0) false (List.length values) Cap.any,
  AV.int IntKind.i64 false ((List.length values) : Int), AV.bool false (decide (((List.length values) : Int) > (300 : Int))),
  AV.bool false (decide (((List.length values) : Int) > (300 : Int))), AV.bool true false,
  AV.sl zwords (Ref.mk 2 0 0 0) false (List.length words) Cap.any,
  AV.int IntKind.i64 false ((List.length words) : Int), AV.bool false (decide (((List.length words) : Int) > (300 : Int))), AV.bool true false, jk,
  AV.sl zwidths (Ref.mk 0 0 0 0) false (List.length widths) Cap.any,
  AV.sl zvalues (Ref.mk 1 0 0 0) false (List.length values) Cap.any, jk, jk, jk, jk,
  jk, jk, jk, jk, jk, jk, jk, jk, jk, jk, jk, jk, jk, jk, jk, jk,
  jk, jk, jk, jk, jk, jk, jk, jk, jk, jk, jk, jk, jk, jk, jk, jk,
  jk, jk, jk, jk, jk, jk, jk, jk, jk, jk, jk, jk, jk, jk, jk, jk,
  jk, jk, jk, jk, jk, jk, jk, jk, jk, jk, jk, jk, jk, jk, jk, jk,
  jk, jk, jk, jk, jk, jk, jk, jk, jk, jk, jk, jk, jk, jk, jk, jk,
  jk, jk, jk, jk, jk, jk, jk, jk, jk, jk, jk, jk, jk, jk, jk, jk])
  [Operand.tmp 37, Operand.tmp 38] ++
  []))
  [])))))
  (List.range (0) ++
  List.filter (fun i => !decide (i < 0))
  (reach
  (id
  [some (Blk.mk 3 false false true (Data.ints IntKind.i64 widths)), some (Blk.mk 3 false false true (Data.ints IntKind.i64 values)),
  some (Blk.mk 3 false false true (Data.ints IntKind.i64 words))])
  fuelR
  (AV.refsL
  ([] ++
  List.map
  (opnd (mkL Try.prog 0 (fun x => none) tab19 rowsPackFull)
  [AV.sl zwidths (Ref.mk 0 0 0 0) false (List.length widths) Cap.any,
  AV.sl zvalues (Ref.mk 1 0 0 0) false (List.length values) Cap.any,
  AV.sl zwords (Ref.mk 2 0 0 0) false (List.length words) Cap.any, jk, jk, jk, AV.bool true false,
  jk, jk, jk, jk, jk, jk, jk, jk, jk, jk, jk, jk, jk, jk, AV.bool false true,
  AV.bool true false, AV.sl zwidths (Ref.mk 0 0 0 0) false (List.length widths) Cap.any,
  AV.int IntKind.i64 false ((List.length widths) : Int), AV.bool false (decide (((List.length widths) : Int) > (300 : Int))), AV.bool true false,
  AV.sl zvalues (Ref.mk 1 0 0 0) false (List.length values) Cap.any,
  AV.int IntKind.i64 false ((List.length values) : Int), AV.bool false (decide (((List.length values) : Int) > (300 : Int))),
  AV.bool false (decide (((List.length values) : Int) > (300 : Int))), AV.bool true false,
  AV.sl zwords (Ref.mk 2 0 0 0) false (List.length words) Cap.any, AV.int IntKind.i64 false ((List.length words) : Int),
  AV.bool false (decide (((List.length words) : Int) > (300 : Int))), AV.bool true false, jk,
  AV.sl zwidths (Ref.mk 0 0 0 0) false (List.length widths) Cap.any,
  AV.sl zvalues (Ref.mk 1 0 0 0) false (List.length values) Cap.any, jk, jk, jk, jk, jk,
  jk, jk, jk, jk, jk, jk, jk, jk, jk, jk, jk, jk, jk, jk, jk, jk, jk,
  jk, jk, jk, jk, jk, jk, jk, jk, jk, jk, jk, jk, jk, jk, jk, jk, jk,
  jk, jk, jk, jk, jk, jk, jk, jk, jk, jk, jk, jk, jk, jk, jk, jk, jk,
  jk, jk, jk, jk, jk, jk, jk, jk, jk, jk, jk, jk, jk, jk, jk, jk, jk,
  jk, jk, jk, jk, jk, jk, jk, jk, jk, jk, jk, jk, jk, jk, jk, jk, jk,
  jk, jk, jk, jk, jk, jk, jk, jk, jk, jk])
  [Operand.tmp 37, Operand.tmp 38] ++
  []))
  []))[i]?
  (decide
  (i <
  List.length
  (List.range (0) ++
  List.filter (fun i => !decide (i < 0))
  (reach
  (id
  [some (Blk.mk 3 false false true (Data.ints IntKind.i64 widths)), some (Blk.mk 3 false false true (Data.ints IntKind.i64 values)),
  some (Blk.mk 3 false false true (Data.ints IntKind.i64 words))])
  fuelR
  (AV.refsL
  ([] ++
  List.map
  (opnd (mkL Try.prog 0 (fun x => none) tab19 rowsPackFull)
  [AV.sl zwidths (Ref.mk 0 0 0 0) false (List.length widths) Cap.any,
  AV.sl zvalues (Ref.mk 1 0 0 0) false (List.length values) Cap.any,
  AV.sl zwords (Ref.mk 2 0 0 0) false (List.length words) Cap.any, jk, jk, jk, AV.bool true false,
  jk, jk, jk, jk, jk, jk, jk, jk, jk, jk, jk, jk, jk, jk, AV.bool false true,
  AV.bool true false, AV.sl zwidths (Ref.mk 0 0 0 0) false (List.length widths) Cap.any,
  AV.int IntKind.i64 false ((List.length widths) : Int), AV.bool false (decide (((List.length widths) : Int) > (300 : Int))), AV.bool true false,
  AV.sl zvalues (Ref.mk 1 0 0 0) false (List.length values) Cap.any,
  AV.int IntKind.i64 false ((List.length values) : Int), AV.bool false (decide (((List.length values) : Int) > (300 : Int))),
  AV.bool false (decide (((List.length values) : Int) > (300 : Int))), AV.bool true false,
  AV.sl zwords (Ref.mk 2 0 0 0) false (List.length words) Cap.any,
  AV.int IntKind.i64 false ((List.length words) : Int), AV.bool false (decide (((List.length words) : Int) > (300 : Int))), AV.bool true false, jk,
  AV.sl zwidths (Ref.mk 0 0 0 0) false (List.length widths) Cap.any,
  AV.sl zvalues (Ref.mk 1 0 0 0) false (List.length values) Cap.any, jk, jk, jk, jk, jk,
  jk, jk, jk, jk, jk, jk, jk, jk, jk, jk, jk, jk, jk, jk, jk, jk,
  jk, jk, jk, jk, jk, jk, jk, jk, jk, jk, jk, jk, jk, jk, jk, jk,
  jk, jk, jk, jk, jk, jk, jk, jk, jk, jk, jk, jk, jk, jk, jk, jk,
  jk, jk, jk, jk, jk, jk, jk, jk, jk, jk, jk, jk, jk, jk, jk, jk,
  jk, jk, jk, jk, jk, jk, jk, jk, jk, jk, jk, jk, jk, jk, jk, jk,
  jk, jk, jk, jk, jk, jk, jk, jk, jk, jk, jk, jk, jk, jk, jk])
  [Operand.tmp 37, Operand.tmp 38] ++
  []))
  [])))))
  (Blk.mk 3 true
  (decide (fieldsL (List.take (List.length widths) (List.drop (0) widths)) (List.take (List.length values) (List.drop (0) values)) = [])) true
  (Data.ints IntKind.i64
  (fieldsL (List.take (List.length widths) (List.drop (0) widths)) (List.take (List.length values) (List.drop (0) values))))))]) +
  (1 -
  List.length
  (List.range (0) ++
  List.filter (fun i => !decide (i < 0))
  (reach
  (id
  [some
  (Blk.ren
  (fun i =>
  Bool.rec
  (some
  (List.length
  (id
  [some (Blk.mk 3 false false true (Data.ints IntKind.i64 widths)), some (Blk.mk 3 false false true (Data.ints IntKind.i64 values)),
  some (Blk.mk 3 false false true (Data.ints IntKind.i64 words))]) +
  (i -
  List.length
  (List.range (0) ++
  List.filter (fun i => !decide (i < 0))
  (reach
  (id
  [some (Blk.mk 3 false false true (Data.ints IntKind.i64 widths)),
  some (Blk.mk 3 false false true (Data.ints IntKind.i64 values)),
  some (Blk.mk 3 false false true (Data.ints IntKind.i64 words))])
  fuelR
  (AV.refsL
  ([] ++
  List.map
  (opnd (mkL Try.prog 0 (fun x => none) tab19 rowsPackFull)
  [AV.sl zwidths (Ref.mk 0 0 0 0) false (List.length widths) Cap.any,
  AV.sl zvalues (Ref.mk 1 0 0 0) false (List.length values) Cap.any,
  AV.sl zwords (Ref.mk 2 0 0 0) false (List.length words) Cap.any, jk, jk, jk,
  AV.bool true false, jk, jk, jk, jk, jk, jk, jk, jk, jk, jk, jk, jk, jk,
  jk, AV.bool false true, AV.bool true false,
  AV.sl zwidths (Ref.mk 0 0 0 0) false (List.length widths) Cap.any,
  AV.int IntKind.i64 false ((List.length widths) : Int), AV.bool false (decide (((List.length widths) : Int) > (300 : Int))), AV.bool true false,
  AV.sl zvalues (Ref.mk 1 0 0 0) false (List.length values) Cap.any,
  AV.int IntKind.i64 false ((List.length values) : Int), AV.bool false (decide (((List.length values) : Int) > (300 : Int))),
  AV.bool false (decide (((List.length values) : Int) > (300 : Int))), AV.bool true false,
  AV.sl zwords (Ref.mk 2 0 0 0) false (List.length words) Cap.any,
  AV.int IntKind.i64 false ((List.length words) : Int), AV.bool false (decide (((List.length words) : Int) > (300 : Int))), AV.bool true false,
  jk, AV.sl zwidths (Ref.mk 0 0 0 0) false (List.length widths) Cap.any,
  AV.sl zvalues (Ref.mk 1 0 0 0) false (List.length values) Cap.any, jk, jk, jk, jk,
  jk, jk, jk, jk, jk, jk, jk, jk, jk, jk, jk, jk, jk, jk, jk,
  jk, jk, jk, jk, jk, jk, jk, jk, jk, jk, jk, jk, jk, jk, jk,
  jk, jk, jk, jk, jk, jk, jk, jk, jk, jk, jk, jk, jk, jk, jk,
  jk, jk, jk, jk, jk, jk, jk, jk, jk, jk, jk, jk, jk, jk, jk,
  jk, jk, jk, jk, jk, jk, jk, jk, jk, jk, jk, jk, jk, jk, jk,
  jk, jk, jk, jk, jk, jk, jk, jk, jk, jk, jk, jk, jk, jk, jk,
  jk, jk, jk, jk, jk, jk])
  [Operand.tmp 37, Operand.tmp 38] ++
  []))
  [])))))
  (List.range (0) ++
  List.filter (fun i => !decide (i < 0))
  (reach
  (id
  [some (Blk.mk 3 false false true (Data.ints IntKind.i64 widths)),
  some (Blk.mk 3 false false true (Data.ints IntKind.i64 values)),
  some (Blk.mk 3 false false true (Data.ints IntKind.i64 words))])
  fuelR
  (AV.refsL
  ([] ++
  List.map
  (opnd (mkL Try.prog 0 (fun x => none) tab19 rowsPackFull)
  [AV.sl zwidths (Ref.mk 0 0 0 0) false (List.length widths) Cap.any,
  AV.sl zvalues (Ref.mk 1 0 0 0) false (List.length values) Cap.any,
  AV.sl zwords (Ref.mk 2 0 0 0) false (List.length words) Cap.any, jk, jk, jk,
  AV.bool true false, jk, jk, jk, jk, jk, jk, jk, jk, jk, jk, jk, jk, jk, jk,
  AV.bool false true, AV.bool true false, AV.sl zwidths (Ref.mk 0 0 0 0) false (List.length widths) Cap.any,
  AV.int IntKind.i64 false ((List.length widths) : Int), AV.bool false (decide (((List.length widths) : Int) > (300 : Int))), AV.bool true false,
  AV.sl zvalues (Ref.mk 1 0 0 0) false (List.length values) Cap.any,
  AV.int IntKind.i64 false ((List.length values) : Int), AV.bool false (decide (((List.length values) : Int) > (300 : Int))),
  AV.bool false (decide (((List.length values) : Int) > (300 : Int))), AV.bool true false,
  AV.sl zwords (Ref.mk 2 0 0 0) false (List.length words) Cap.any,
  AV.int IntKind.i64 false ((List.length words) : Int), AV.bool false (decide (((List.length words) : Int) > (300 : Int))), AV.bool true false, jk,
  AV.sl zwidths (Ref.mk 0 0 0 0) false (List.length widths) Cap.any,
  AV.sl zvalues (Ref.mk 1 0 0 0) false (List.length values) Cap.any, jk, jk, jk, jk,
  jk, jk, jk, jk, jk, jk, jk, jk, jk, jk, jk, jk, jk, jk, jk, jk,
  jk, jk, jk, jk, jk, jk, jk, jk, jk, jk, jk, jk, jk, jk, jk, jk,
  jk, jk, jk, jk, jk, jk, jk, jk, jk, jk, jk, jk, jk, jk, jk, jk,
  jk, jk, jk, jk, jk, jk, jk, jk, jk, jk, jk, jk, jk, jk, jk, jk,
  jk, jk, jk, jk, jk, jk, jk, jk, jk, jk, jk, jk, jk, jk, jk, jk,
  jk, jk, jk, jk, jk, jk, jk, jk, jk, jk, jk, jk, jk, jk, jk, jk])
  [Operand.tmp 37, Operand.tmp 38] ++
  []))
  []))[i]?
  (decide
  (i <
  List.length
  (List.range (0) ++
  List.filter (fun i => !decide (i < 0))
  (reach
  (id
  [some (Blk.mk 3 false false true (Data.ints IntKind.i64 widths)),
  some (Blk.mk 3 false false true (Data.ints IntKind.i64 values)),
  some (Blk.mk 3 false false true (Data.ints IntKind.i64 words))])
  fuelR
  (AV.refsL
  ([] ++
  List.map
  (opnd (mkL Try.prog 0 (fun x => none) tab19 rowsPackFull)
  [AV.sl zwidths (Ref.mk 0 0 0 0) false (List.length widths) Cap.any,
  AV.sl zvalues (Ref.mk 1 0 0 0) false (List.length values) Cap.any,
  AV.sl zwords (Ref.mk 2 0 0 0) false (List.length words) Cap.any, jk, jk, jk,
  AV.bool true false, jk, jk, jk, jk, jk, jk, jk, jk, jk, jk, jk, jk, jk,
  jk, AV.bool false true, AV.bool true false,
  AV.sl zwidths (Ref.mk 0 0 0 0) false (List.length widths) Cap.any,
  AV.int IntKind.i64 false ((List.length widths) : Int), AV.bool false (decide (((List.length widths) : Int) > (300 : Int))), AV.bool true false,
  AV.sl zvalues (Ref.mk 1 0 0 0) false (List.length values) Cap.any,
  AV.int IntKind.i64 false ((List.length values) : Int), AV.bool false (decide (((List.length values) : Int) > (300 : Int))),
  AV.bool false (decide (((List.length values) : Int) > (300 : Int))), AV.bool true false,
  AV.sl zwords (Ref.mk 2 0 0 0) false (List.length words) Cap.any,
  AV.int IntKind.i64 false ((List.length words) : Int), AV.bool false (decide (((List.length words) : Int) > (300 : Int))), AV.bool true false, jk,
  AV.sl zwidths (Ref.mk 0 0 0 0) false (List.length widths) Cap.any,
  AV.sl zvalues (Ref.mk 1 0 0 0) false (List.length values) Cap.any, jk, jk, jk, jk,
  jk, jk, jk, jk, jk, jk, jk, jk, jk, jk, jk, jk, jk, jk, jk,
  jk, jk, jk, jk, jk, jk, jk, jk, jk, jk, jk, jk, jk, jk, jk,
  jk, jk, jk, jk, jk, jk, jk, jk, jk, jk, jk, jk, jk, jk, jk,
  jk, jk, jk, jk, jk, jk, jk, jk, jk, jk, jk, jk, jk, jk, jk,
  jk, jk, jk, jk, jk, jk, jk, jk, jk, jk, jk, jk, jk, jk, jk,
  jk, jk, jk, jk, jk, jk, jk, jk, jk, jk, jk, jk, jk, jk, jk,
  jk, jk, jk, jk, jk, jk])
  [Operand.tmp 37, Operand.tmp 38] ++
  []))
  [])))))
  (Blk.ren
  (idxOf
  (List.range (0) ++
  List.filter (fun i => !decide (i < 0))
  (reach
  (id
  [some (Blk.mk 3 false false true (Data.ints IntKind.i64 widths)), some (Blk.mk 3 false false true (Data.ints IntKind.i64 values)),
  some (Blk.mk 3 false false true (Data.ints IntKind.i64 words))])
  fuelR
  (AV.refsL
  ([] ++
  List.map
  (opnd (mkL Try.prog 0 (fun x => none) tab19 rowsPackFull)
  [AV.sl zwidths (Ref.mk 0 0 0 0) false (List.length widths) Cap.any,
  AV.sl zvalues (Ref.mk 1 0 0 0) false (List.length values) Cap.any,
  AV.sl zwords (Ref.mk 2 0 0 0) false (List.length words) Cap.any, jk, jk, jk,
  AV.bool true false, jk, jk, jk, jk, jk, jk, jk, jk, jk, jk, jk, jk, jk, jk,
  AV.bool false true, AV.bool true false, AV.sl zwidths (Ref.mk 0 0 0 0) false (List.length widths) Cap.any,
  AV.int IntKind.i64 false ((List.length widths) : Int), AV.bool false (decide (((List.length widths) : Int) > (300 : Int))), AV.bool true false,
  AV.sl zvalues (Ref.mk 1 0 0 0) false (List.length values) Cap.any,
  AV.int IntKind.i64 false ((List.length values) : Int), AV.bool false (decide (((List.length values) : Int) > (300 : Int))),
  AV.bool false (decide (((List.length values) : Int) > (300 : Int))), AV.bool true false,
  AV.sl zwords (Ref.mk 2 0 0 0) false (List.length words) Cap.any,
  AV.int IntKind.i64 false ((List.length words) : Int), AV.bool false (decide (((List.length words) : Int) > (300 : Int))), AV.bool true false, jk,
  AV.sl zwidths (Ref.mk 0 0 0 0) false (List.length widths) Cap.any,
  AV.sl zvalues (Ref.mk 1 0 0 0) false (List.length values) Cap.any, jk, jk, jk, jk,
  jk, jk, jk, jk, jk, jk, jk, jk, jk, jk, jk, jk, jk, jk, jk, jk,
  jk, jk, jk, jk, jk, jk, jk, jk, jk, jk, jk, jk, jk, jk, jk, jk,
  jk, jk, jk, jk, jk, jk, jk, jk, jk, jk, jk, jk, jk, jk, jk, jk,
  jk, jk, jk, jk, jk, jk, jk, jk, jk, jk, jk, jk, jk, jk, jk, jk,
  jk, jk, jk, jk, jk, jk, jk, jk, jk, jk, jk, jk, jk, jk, jk, jk,
  jk, jk, jk, jk, jk, jk, jk, jk, jk, jk, jk, jk, jk, jk, jk, jk])
  [Operand.tmp 37, Operand.tmp 38] ++
  []))
  [])))
  (Blk.mk 3 false false true (Data.ints IntKind.i64 widths)))),
  some
  (Blk.ren
  (fun i =>
  Bool.rec
  (some
  (List.length
  (id
  [some (Blk.mk 3 false false true (Data.ints IntKind.i64 widths)), some (Blk.mk 3 false false true (Data.ints IntKind.i64 values)),
  some (Blk.mk 3 false false true (Data.ints IntKind.i64 words))]) +
  (i -
  List.length
  (List.range (0) ++
  List.filter (fun i => !decide (i < 0))
  (reach
  (id
  [some (Blk.mk 3 false false true (Data.ints IntKind.i64 widths)),
  some (Blk.mk 3 false false true (Data.ints IntKind.i64 values)),
  some (Blk.mk 3 false false true (Data.ints IntKind.i64 words))])
  fuelR
  (AV.refsL
  ([] ++
  List.map
  (opnd (mkL Try.prog 0 (fun x => none) tab19 rowsPackFull)
  [AV.sl zwidths (Ref.mk 0 0 0 0) false (List.length widths) Cap.any,
  AV.sl zvalues (Ref.mk 1 0 0 0) false (List.length values) Cap.any,
  AV.sl zwords (Ref.mk 2 0 0 0) false (List.length words) Cap.any, jk, jk, jk,
  AV.bool true false, jk, jk, jk, jk, jk, jk, jk, jk, jk, jk, jk, jk, jk,
  jk, AV.bool false true, AV.bool true false,
  AV.sl zwidths (Ref.mk 0 0 0 0) false (List.length widths) Cap.any,
  AV.int IntKind.i64 false ((List.length widths) : Int), AV.bool false (decide (((List.length widths) : Int) > (300 : Int))), AV.bool true false,
  AV.sl zvalues (Ref.mk 1 0 0 0) false (List.length values) Cap.any,
  AV.int IntKind.i64 false ((List.length values) : Int), AV.bool false (decide (((List.length values) : Int) > (300 : Int))),
  AV.bool false (decide (((List.length values) : Int) > (300 : Int))), AV.bool true false,
  AV.sl zwords (Ref.mk 2 0 0 0) false (List.length words) Cap.any,
  AV.int IntKind.i64 false ((List.length words) : Int), AV.bool false (decide (((List.length words) : Int) > (300 : Int))), AV.bool true false,
  jk, AV.sl zwidths (Ref.mk 0 0 0 0) false (List.length widths) Cap.any,
  AV.sl zvalues (Ref.mk 1 0 0 0) false (List.length values) Cap.any, jk, jk, jk, jk,
  jk, jk, jk, jk, jk, jk, jk, jk, jk, jk, jk, jk, jk, jk, jk,
  jk, jk, jk, jk, jk, jk, jk, jk, jk, jk, jk, jk, jk, jk, jk,
  jk, jk, jk, jk, jk, jk, jk, jk, jk, jk, jk, jk, jk, jk, jk,
  jk, jk, jk, jk, jk, jk, jk, jk, jk, jk, jk, jk, jk, jk, jk,
  jk, jk, jk, jk, jk, jk, jk, jk, jk, jk, jk, jk, jk, jk, jk,
  jk, jk, jk, jk, jk, jk, jk, jk, jk, jk, jk, jk, jk, jk, jk,
  jk, jk, jk, jk, jk, jk])
  [Operand.tmp 37, Operand.tmp 38] ++
  []))
  [])))))
  (List.range (0) ++
  List.filter (fun i => !decide (i < 0))
  (reach
  (id
  [some (Blk.mk 3 false false true (Data.ints IntKind.i64 widths)),
  some (Blk.mk 3 false false true (Data.ints IntKind.i64 values)),
  some (Blk.mk 3 false false true (Data.ints IntKind.i64 words))])
  fuelR
  (AV.refsL
  ([] ++
  List.map
  (opnd (mkL Try.prog 0 (fun x => none) tab19 rowsPackFull)
  [AV.sl zwidths (Ref.mk 0 0 0 0) false (List.length widths) Cap.any,
  AV.sl zvalues (Ref.mk 1 0 0 0) false (List.length values) Cap.any,
  AV.sl zwords (Ref.mk 2 0 0 0) false (List.length words) Cap.any, jk, jk, jk,
  AV.bool true false, jk, jk, jk, jk, jk, jk, jk, jk, jk, jk, jk, jk, jk, jk,
  AV.bool false true, AV.bool true false, AV.sl zwidths (Ref.mk 0 0 0 0) false (List.length widths) Cap.any,
  AV.int IntKind.i64 false ((List.length widths) : Int), AV.bool false (decide (((List.length widths) : Int) > (300 : Int))), AV.bool true false,
  AV.sl zvalues (Ref.mk 1 0 0 0) false (List.length values) Cap.any,
  AV.int IntKind.i64 false ((List.length values) : Int), AV.bool false (decide (((List.length values) : Int) > (300 : Int))),
  AV.bool false (decide (((List.length values) : Int) > (300 : Int))), AV.bool true false,
  AV.sl zwords (Ref.mk 2 0 0 0) false (List.length words) Cap.any,
  AV.int IntKind.i64 false ((List.length words) : Int), AV.bool false (decide (((List.length words) : Int) > (300 : Int))), AV.bool true false, jk,
  AV.sl zwidths (Ref.mk 0 0 0 0) false (List.length widths) Cap.any,
  AV.sl zvalues (Ref.mk 1 0 0 0) false (List.length values) Cap.any, jk, jk, jk, jk,
  jk, jk, jk, jk, jk, jk, jk, jk, jk, jk, jk, jk, jk, jk, jk, jk,
  jk, jk, jk, jk, jk, jk, jk, jk, jk, jk, jk, jk, jk, jk, jk, jk,
  jk, jk, jk, jk, jk, jk, jk, jk, jk, jk, jk, jk, jk, jk, jk, jk,
  jk, jk, jk, jk, jk, jk, jk, jk, jk, jk, jk, jk, jk, jk, jk, jk,
  jk, jk, jk, jk, jk, jk, jk, jk, jk, jk, jk, jk, jk, jk, jk, jk,
  jk, jk, jk, jk, jk, jk, jk, jk, jk, jk, jk, jk, jk, jk, jk, jk])
  [Operand.tmp 37, Operand.tmp 38] ++
  []))
  []))[i]?
  (decide
  (i <
  List.length
  (List.range (0) ++
  List.filter (fun i => !decide (i < 0))
  (reach
  (id
  [some (Blk.mk 3 false false true (Data.ints IntKind.i64 widths)),
  some (Blk.mk 3 false false true (Data.ints IntKind.i64 values)),
  some (Blk.mk 3 false false true (Data.ints IntKind.i64 words))])
  fuelR
  (AV.refsL
  ([] ++
  List.map
  (opnd (mkL Try.prog 0 (fun x => none) tab19 rowsPackFull)
  [AV.sl zwidths (Ref.mk 0 0 0 0) false (List.length widths) Cap.any,
  AV.sl zvalues (Ref.mk 1 0 0 0) false (List.length values) Cap.any,
  AV.sl zwords (Ref.mk 2 0 0 0) false (List.length words) Cap.any, jk, jk, jk,
  AV.bool true false, jk, jk, jk, jk, jk, jk, jk, jk, jk, jk, jk, jk, jk,
  jk, AV.bool false true, AV.bool true false,
  AV.sl zwidths (Ref.mk 0 0 0 0) false (List.length widths) Cap.any,
  AV.int IntKind.i64 false ((List.length widths) : Int), AV.bool false (decide (((List.length widths) : Int) > (300 : Int))), AV.bool true false,
  AV.sl zvalues (Ref.mk 1 0 0 0) false (List.length values) Cap.any,
  AV.int IntKind.i64 false ((List.length values) : Int), AV.bool false (decide (((List.length values) : Int) > (300 : Int))),
  AV.bool false (decide (((List.length values) : Int) > (300 : Int))), AV.bool true false,
  AV.sl zwords (Ref.mk 2 0 0 0) false (List.length words) Cap.any,
  AV.int IntKind.i64 false ((List.length words) : Int), AV.bool false (decide (((List.length words) : Int) > (300 : Int))), AV.bool true false, jk,
  AV.sl zwidths (Ref.mk 0 0 0 0) false (List.length widths) Cap.any,
  AV.sl zvalues (Ref.mk 1 0 0 0) false (List.length values) Cap.any, jk, jk, jk, jk,
  jk, jk, jk, jk, jk, jk, jk, jk, jk, jk, jk, jk, jk, jk, jk,
  jk, jk, jk, jk, jk, jk, jk, jk, jk, jk, jk, jk, jk, jk, jk,
  jk, jk, jk, jk, jk, jk, jk, jk, jk, jk, jk, jk, jk, jk, jk,
  jk, jk, jk, jk, jk, jk, jk, jk, jk, jk, jk, jk, jk, jk, jk,
  jk, jk, jk, jk, jk, jk, jk, jk, jk, jk, jk, jk, jk, jk, jk,
  jk, jk, jk, jk, jk, jk, jk, jk, jk, jk, jk, jk, jk, jk, jk,
  jk, jk, jk, jk, jk, jk])
  [Operand.tmp 37, Operand.tmp 38] ++
  []))
  [])))))
  (Blk.ren
  (idxOf
  (List.range (0) ++
  List.filter (fun i => !decide (i < 0))
  (reach
  (id
  [some (Blk.mk 3 false false true (Data.ints IntKind.i64 widths)), some (Blk.mk 3 false false true (Data.ints IntKind.i64 values)),
  some (Blk.mk 3 false false true (Data.ints IntKind.i64 words))])
  fuelR
  (AV.refsL
  ([] ++
  List.map
  (opnd (mkL Try.prog 0 (fun x => none) tab19 rowsPackFull)
  [AV.sl zwidths (Ref.mk 0 0 0 0) false (List.length widths) Cap.any,
  AV.sl zvalues (Ref.mk 1 0 0 0) false (List.length values) Cap.any,
  AV.sl zwords (Ref.mk 2 0 0 0) false (List.length words) Cap.any, jk, jk, jk,
  AV.bool true false, jk, jk, jk, jk, jk, jk, jk, jk, jk, jk, jk, jk, jk, jk,
  AV.bool false true, AV.bool true false, AV.sl zwidths (Ref.mk 0 0 0 0) false (List.length widths) Cap.any,
  AV.int IntKind.i64 false ((List.length widths) : Int), AV.bool false (decide (((List.length widths) : Int) > (300 : Int))), AV.bool true false,
  AV.sl zvalues (Ref.mk 1 0 0 0) false (List.length values) Cap.any,
  AV.int IntKind.i64 false ((List.length values) : Int), AV.bool false (decide (((List.length values) : Int) > (300 : Int))),
  AV.bool false (decide (((List.length values) : Int) > (300 : Int))), AV.bool true false,
  AV.sl zwords (Ref.mk 2 0 0 0) false (List.length words) Cap.any,
  AV.int IntKind.i64 false ((List.length words) : Int), AV.bool false (decide (((List.length words) : Int) > (300 : Int))), AV.bool true false, jk,
  AV.sl zwidths (Ref.mk 0 0 0 0) false (List.length widths) Cap.any,
  AV.sl zvalues (Ref.mk 1 0 0 0) false (List.length values) Cap.any, jk, jk, jk, jk,
  jk, jk, jk, jk, jk, jk, jk, jk, jk, jk, jk, jk, jk, jk, jk, jk,
  jk, jk, jk, jk, jk, jk, jk, jk, jk, jk, jk, jk, jk, jk, jk, jk,
  jk, jk, jk, jk, jk, jk, jk, jk, jk, jk, jk, jk, jk, jk, jk, jk,
  jk, jk, jk, jk, jk, jk, jk, jk, jk, jk, jk, jk, jk, jk, jk, jk,
  jk, jk, jk, jk, jk, jk, jk, jk, jk, jk, jk, jk, jk, jk, jk, jk,
  jk, jk, jk, jk, jk, jk, jk, jk, jk, jk, jk, jk, jk, jk, jk, jk])
  [Operand.tmp 37, Operand.tmp 38] ++
  []))
  [])))
  (Blk.mk 3 false false true (Data.ints IntKind.i64 values)))),
  some (Blk.mk 3 false false true (Data.ints IntKind.i64 words)),
  some
  (Blk.ren
  (fun i =>
  Bool.rec
  (some
  (List.length
  (id
  [some (Blk.mk 3 false false true (Data.ints IntKind.i64 widths)), some (Blk.mk 3 false false true (Data.ints IntKind.i64 values)),
  some (Blk.mk 3 false false true (Data.ints IntKind.i64 words))]) +
  (i -
  List.length
  (List.range (0) ++
  List.filter (fun i => !decide (i < 0))
  (reach
  (id
  [some (Blk.mk 3 false false true (Data.ints IntKind.i64 widths)),
  some (Blk.mk 3 false false true (Data.ints IntKind.i64 values)),
  some (Blk.mk 3 false false true (Data.ints IntKind.i64 words))])
  fuelR
  (AV.refsL
  ([] ++
  List.map
  (opnd (mkL Try.prog 0 (fun x => none) tab19 rowsPackFull)
  [AV.sl zwidths (Ref.mk 0 0 0 0) false (List.length widths) Cap.any,
  AV.sl zvalues (Ref.mk 1 0 0 0) false (List.length values) Cap.any,
  AV.sl zwords (Ref.mk 2 0 0 0) false (List.length words) Cap.any, jk, jk, jk,
  AV.bool true false, jk, jk, jk, jk, jk, jk, jk, jk, jk, jk, jk, jk, jk,
  jk, AV.bool false true, AV.bool true false,
  AV.sl zwidths (Ref.mk 0 0 0 0) false (List.length widths) Cap.any,
  AV.int IntKind.i64 false ((List.length widths) : Int), AV.bool false (decide (((List.length widths) : Int) > (300 : Int))), AV.bool true false,
  AV.sl zvalues (Ref.mk 1 0 0 0) false (List.length values) Cap.any,
  AV.int IntKind.i64 false ((List.length values) : Int), AV.bool false (decide (((List.length values) : Int) > (300 : Int))),
  AV.bool false (decide (((List.length values) : Int) > (300 : Int))), AV.bool true false,
  AV.sl zwords (Ref.mk 2 0 0 0) false (List.length words) Cap.any,
  AV.int IntKind.i64 false ((List.length words) : Int), AV.bool false (decide (((List.length words) : Int) > (300 : Int))), AV.bool true false,
  jk, AV.sl zwidths (Ref.mk 0 0 0 0) false (List.length widths) Cap.any,
  AV.sl zvalues (Ref.mk 1 0 0 0) false (List.length values) Cap.any, jk, jk, jk, jk,
  jk, jk, jk, jk, jk, jk, jk, jk, jk, jk, jk, jk, jk, jk, jk,
  jk, jk, jk, jk, jk, jk, jk, jk, jk, jk, jk, jk, jk, jk, jk,
  jk, jk, jk, jk, jk, jk, jk, jk, jk, jk, jk, jk, jk, jk, jk,
  jk, jk, jk, jk, jk, jk, jk, jk, jk, jk, jk, jk, jk, jk, jk,
  jk, jk, jk, jk, jk, jk, jk, jk, jk, jk, jk, jk, jk, jk, jk,
  jk, jk, jk, jk, jk, jk, jk, jk, jk, jk, jk, jk, jk, jk, jk,
  jk, jk, jk, jk, jk, jk])
  [Operand.tmp 37, Operand.tmp 38] ++
  []))
  [])))))
  (List.range (0) ++
  List.filter (fun i => !decide (i < 0))
  (reach
  (id
  [some (Blk.mk 3 false false true (Data.ints IntKind.i64 widths)),
  some (Blk.mk 3 false false true (Data.ints IntKind.i64 values)),
  some (Blk.mk 3 false false true (Data.ints IntKind.i64 words))])
  fuelR
  (AV.refsL
  ([] ++
  List.map
  (opnd (mkL Try.prog 0 (fun x => none) tab19 rowsPackFull)
  [AV.sl zwidths (Ref.mk 0 0 0 0) false (List.length widths) Cap.any,
  AV.sl zvalues (Ref.mk 1 0 0 0) false (List.length values) Cap.any,
  AV.sl zwords (Ref.mk 2 0 0 0) false (List.length words) Cap.any, jk, jk, jk,
  AV.bool true false, jk, jk, jk, jk, jk, jk, jk, jk, jk, jk, jk, jk, jk, jk,
  AV.bool false true, AV.bool true false, AV.sl zwidths (Ref.mk 0 0 0 0) false (List.length widths) Cap.any,
  AV.int IntKind.i64 false ((List.length widths) : Int), AV.bool false (decide (((List.length widths) : Int) > (300 : Int))), AV.bool true false,
  AV.sl zvalues (Ref.mk 1 0 0 0) false (List.length values) Cap.any,
  AV.int IntKind.i64 false ((List.length values) : Int), AV.bool false (decide (((List.length values) : Int) > (300 : Int))),
  AV.bool false (decide (((List.length values) : Int) > (300 : Int))), AV.bool true false,
  AV.sl zwords (Ref.mk 2 0 0 0) false (List.length words) Cap.any,
  AV.int IntKind.i64 false ((List.length words) : Int), AV.bool false (decide (((List.length words) : Int) > (300 : Int))), AV.bool true false, jk,
  AV.sl zwidths (Ref.mk 0 0 0 0) false (List.length widths) Cap.any,
  AV.sl zvalues (Ref.mk 1 0 0 0) false (List.length values) Cap.any, jk, jk, jk, jk,
  jk, jk, jk, jk, jk, jk, jk, jk, jk, jk, jk, jk, jk, jk, jk, jk,
  jk, jk, jk, jk, jk, jk, jk, jk, jk, jk, jk, jk, jk, jk, jk, jk,
  jk, jk, jk, jk, jk, jk, jk, jk, jk, jk, jk, jk, jk, jk, jk, jk,
  jk, jk, jk, jk, jk, jk, jk, jk, jk, jk, jk, jk, jk, jk, jk, jk,
  jk, jk, jk, jk, jk, jk, jk, jk, jk, jk, jk, jk, jk, jk, jk, jk,
  jk, jk, jk, jk, jk, jk, jk, jk, jk, jk, jk, jk, jk, jk, jk, jk])
  [Operand.tmp 37, Operand.tmp 38] ++
  []))
  []))[i]?
  (decide
  (i <
  List.length
  (List.range (0) ++
  List.filter (fun i => !decide (i < 0))
  (reach
  (id
  [some (Blk.mk 3 false false true (Data.ints IntKind.i64 widths)),
  some (Blk.mk 3 false false true (Data.ints IntKind.i64 values)),
  some (Blk.mk 3 false false true (Data.ints IntKind.i64 words))])
  fuelR
  (AV.refsL
  ([] ++
  List.map
  (opnd (mkL Try.prog 0 (fun x => none) tab19 rowsPackFull)
  [AV.sl zwidths (Ref.mk 0 0 0 0) false (List.length widths) Cap.any,
  AV.sl zvalues (Ref.mk 1 0 0 0) false (List.length values) Cap.any,
  AV.sl zwords (Ref.mk 2 0 0 0) false (List.length words) Cap.any, jk, jk, jk,
  AV.bool true false, jk, jk, jk, jk, jk, jk, jk, jk, jk, jk, jk, jk, jk,
  jk, AV.bool false true, AV.bool true false,
  AV.sl zwidths (Ref.mk 0 0 0 0) false (List.length widths) Cap.any,
  AV.int IntKind.i64 false ((List.length widths) : Int), AV.bool false (decide (((List.length widths) : Int) > (300 : Int))), AV.bool true false,
  AV.sl zvalues (Ref.mk 1 0 0 0) false (List.length values) Cap.any,
  AV.int IntKind.i64 false ((List.length values) : Int), AV.bool false (decide (((List.length values) : Int) > (300 : Int))),
  AV.bool false (decide (((List.length values) : Int) > (300 : Int))), AV.bool true false,
  AV.sl zwords (Ref.mk 2 0 0 0) false (List.length words) Cap.any,
  AV.int IntKind.i64 false ((List.length words) : Int), AV.bool false (decide (((List.length words) : Int) > (300 : Int))), AV.bool true false, jk,
  AV.sl zwidths (Ref.mk 0 0 0 0) false (List.length widths) Cap.any,
  AV.sl zvalues (Ref.mk 1 0 0 0) false (List.length values) Cap.any, jk, jk, jk, jk,
  jk, jk, jk, jk, jk, jk, jk, jk, jk, jk, jk, jk, jk, jk, jk,
  jk, jk, jk, jk, jk, jk, jk, jk, jk, jk, jk, jk, jk, jk, jk,
  jk, jk, jk, jk, jk, jk, jk, jk, jk, jk, jk, jk, jk, jk, jk,
  jk, jk, jk, jk, jk, jk, jk, jk, jk, jk, jk, jk, jk, jk, jk,
  jk, jk, jk, jk, jk, jk, jk, jk, jk, jk, jk, jk, jk, jk, jk,
  jk, jk, jk, jk, jk, jk, jk, jk, jk, jk, jk, jk, jk, jk, jk,
  jk, jk, jk, jk, jk, jk])
  [Operand.tmp 37, Operand.tmp 38] ++
  []))
  [])))))
  (Blk.mk 3 true
  (decide (fieldsL (List.take (List.length widths) (List.drop (0) widths)) (List.take (List.length values) (List.drop (0) values)) = [])) true
  (Data.ints IntKind.i64
  (fieldsL (List.take (List.length widths) (List.drop (0) widths)) (List.take (List.length values) (List.drop (0) values))))))])
  fuelR
  (AV.refsL
  ([] ++
  List.map
  (opnd (mkL Try.prog 0 (fun x => none) tab19 rowsPackFull)
  [AV.sl zwidths (Ref.mk 0 0 0 0) false (List.length widths) Cap.any,
  AV.sl zvalues (Ref.mk 1 0 0 0) false (List.length values) Cap.any,
  AV.sl zwords (Ref.mk 2 0 0 0) false (List.length words) Cap.any, jk, jk, jk, AV.bool true false,
  AV.sl
  (decide (fieldsL (List.take (List.length widths) (List.drop (0) widths)) (List.take (List.length values) (List.drop (0) values)) = []))
  (Ref.mk
  (List.length
  (id
  [some (Blk.mk 3 false false true (Data.ints IntKind.i64 widths)),
  some (Blk.mk 3 false false true (Data.ints IntKind.i64 values)),
  some (Blk.mk 3 false false true (Data.ints IntKind.i64 words))]) +
  (2 -
  List.length
  (List.range (0) ++
  List.filter (fun i => !decide (i < 0))
  (reach
  (id
  [some (Blk.mk 3 false false true (Data.ints IntKind.i64 widths)),
  some (Blk.mk 3 false false true (Data.ints IntKind.i64 values)),
  some (Blk.mk 3 false false true (Data.ints IntKind.i64 words))])
  fuelR
  (AV.refsL
  ([] ++
  List.map
  (opnd (mkL Try.prog 0 (fun x => none) tab19 rowsPackFull)
  [AV.sl zwidths (Ref.mk 0 0 0 0) false (List.length widths) Cap.any,
  AV.sl zvalues (Ref.mk 1 0 0 0) false (List.length values) Cap.any,
  AV.sl zwords (Ref.mk 2 0 0 0) false (List.length words) Cap.any, jk, jk, jk,
  AV.bool true false, jk, jk, jk, jk, jk, jk, jk, jk, jk, jk, jk, jk, jk,
  jk, AV.bool false true, AV.bool true false,
  AV.sl zwidths (Ref.mk 0 0 0 0) false (List.length widths) Cap.any,
  AV.int IntKind.i64 false ((List.length widths) : Int), AV.bool false (decide (((List.length widths) : Int) > (300 : Int))), AV.bool true false,
  AV.sl zvalues (Ref.mk 1 0 0 0) false (List.length values) Cap.any,
  AV.int IntKind.i64 false ((List.length values) : Int), AV.bool false (decide (((List.length values) : Int) > (300 : Int))),
  AV.bool false (decide (((List.length values) : Int) > (300 : Int))), AV.bool true false,
  AV.sl zwords (Ref.mk 2 0 0 0) false (List.length words) Cap.any,
  AV.int IntKind.i64 false ((List.length words) : Int), AV.bool false (decide (((List.length words) : Int) > (300 : Int))), AV.bool true false,
  jk, AV.sl zwidths (Ref.mk 0 0 0 0) false (List.length widths) Cap.any,
  AV.sl zvalues (Ref.mk 1 0 0 0) false (List.length values) Cap.any, jk, jk, jk,
  jk, jk, jk, jk, jk, jk, jk, jk, jk, jk, jk, jk, jk, jk, jk,
  jk, jk, jk, jk, jk, jk, jk, jk, jk, jk, jk, jk, jk, jk, jk,
  jk, jk, jk, jk, jk, jk, jk, jk, jk, jk, jk, jk, jk, jk, jk,
  jk, jk, jk, jk, jk, jk, jk, jk, jk, jk, jk, jk, jk, jk, jk,
  jk, jk, jk, jk, jk, jk, jk, jk, jk, jk, jk, jk, jk, jk, jk,
  jk, jk, jk, jk, jk, jk, jk, jk, jk, jk, jk, jk, jk, jk, jk,
  jk, jk, jk, jk, jk, jk, jk])
  [Operand.tmp 37, Operand.tmp 38] ++
  []))
  []))))
  (0) (0) (0))
  false
  (List.length (fieldsL (List.take (List.length widths) (List.drop (0) widths)) (List.take (List.length values) (List.drop (0) values))))
  Cap.own,
  AV.int IntKind.i64 false
  (fieldsE (List.take (List.length widths) (List.drop (0) widths)) (List.take (List.length values) (List.drop (0) values))),
  jk, jk, jk, jk, jk, jk, jk, jk, jk, jk, jk, jk, AV.bool false true, AV.bool true false,
  AV.sl zwidths (Ref.mk 0 0 0 0) false (List.length widths) Cap.any, AV.int IntKind.i64 false ((List.length widths) : Int),
  AV.bool false (decide (((List.length widths) : Int) > (300 : Int))), AV.bool true false,
  AV.sl zvalues (Ref.mk 1 0 0 0) false (List.length values) Cap.any, AV.int IntKind.i64 false ((List.length values) : Int),
  AV.bool false (decide (((List.length values) : Int) > (300 : Int))), AV.bool false (decide (((List.length values) : Int) > (300 : Int))), AV.bool true false,
  AV.sl zwords (Ref.mk 2 0 0 0) false (List.length words) Cap.any, AV.int IntKind.i64 false ((List.length words) : Int),
  AV.bool false (decide (((List.length words) : Int) > (300 : Int))), AV.bool true false,
  AV.tup
  [AV.sl
  (decide
  (fieldsL (List.take (List.length widths) (List.drop (0) widths)) (List.take (List.length values) (List.drop (0) values)) = []))
  (Ref.mk
  (List.length
  (id
  [some (Blk.mk 3 false false true (Data.ints IntKind.i64 widths)),
  some (Blk.mk 3 false false true (Data.ints IntKind.i64 values)),
  some (Blk.mk 3 false false true (Data.ints IntKind.i64 words))]) +
  (2 -
  List.length
  (List.range (0) ++
  List.filter (fun i => !decide (i < 0))
  (reach
  (id
  [some (Blk.mk 3 false false true (Data.ints IntKind.i64 widths)),
  some (Blk.mk 3 false false true (Data.ints IntKind.i64 values)),
  some (Blk.mk 3 false false true (Data.ints IntKind.i64 words))])
  fuelR
  (AV.refsL
  ([] ++
  List.map
  (opnd (mkL Try.prog 0 (fun x => none) tab19 rowsPackFull)
  [AV.sl zwidths (Ref.mk 0 0 0 0) false (List.length widths) Cap.any,
  AV.sl zvalues (Ref.mk 1 0 0 0) false (List.length values) Cap.any,
  AV.sl zwords (Ref.mk 2 0 0 0) false (List.length words) Cap.any, jk, jk, jk,
  AV.bool true false, jk, jk, jk, jk, jk, jk, jk, jk, jk, jk, jk, jk,
  jk, jk, AV.bool false true, AV.bool true false,
  AV.sl zwidths (Ref.mk 0 0 0 0) false (List.length widths) Cap.any,
  AV.int IntKind.i64 false ((List.length widths) : Int), AV.bool false (decide (((List.length widths) : Int) > (300 : Int))),
  AV.bool true false, AV.sl zvalues (Ref.mk 1 0 0 0) false (List.length values) Cap.any,
  AV.int IntKind.i64 false ((List.length values) : Int), AV.bool false (decide (((List.length values) : Int) > (300 : Int))),
  AV.bool false (decide (((List.length values) : Int) > (300 : Int))), AV.bool true false,
  AV.sl zwords (Ref.mk 2 0 0 0) false (List.length words) Cap.any,
  AV.int IntKind.i64 false ((List.length words) : Int), AV.bool false (decide (((List.length words) : Int) > (300 : Int))), AV.bool true false,
  jk, AV.sl zwidths (Ref.mk 0 0 0 0) false (List.length widths) Cap.any,
  AV.sl zvalues (Ref.mk 1 0 0 0) false (List.length values) Cap.any, jk, jk, jk,
  jk, jk, jk, jk, jk, jk, jk, jk, jk, jk, jk, jk, jk, jk, jk,
  jk, jk, jk, jk, jk, jk, jk, jk, jk, jk, jk, jk, jk, jk, jk,
  jk, jk, jk, jk, jk, jk, jk, jk, jk, jk, jk, jk, jk, jk, jk,
  jk, jk, jk, jk, jk, jk, jk, jk, jk, jk, jk, jk, jk, jk, jk,
  jk, jk, jk, jk, jk, jk, jk, jk, jk, jk, jk, jk, jk, jk, jk,
  jk, jk, jk, jk, jk, jk, jk, jk, jk, jk, jk, jk, jk, jk, jk,
  jk, jk, jk, jk, jk, jk, jk])
  [Operand.tmp 37, Operand.tmp 38] ++
  []))
  []))))
  (0) (0) (0))
  false
  (List.length
  (fieldsL (List.take (List.length widths) (List.drop (0) widths)) (List.take (List.length values) (List.drop (0) values))))
  Cap.own,
  AV.int IntKind.i64 false
  (fieldsE (List.take (List.length widths) (List.drop (0) widths)) (List.take (List.length values) (List.drop (0) values)))],
  AV.sl zwidths (Ref.mk 0 0 0 0) false (List.length widths) Cap.any,
  AV.sl zvalues (Ref.mk 1 0 0 0) false (List.length values) Cap.any,
  AV.tup
  [AV.sl
  (decide
  (fieldsL (List.take (List.length widths) (List.drop (0) widths)) (List.take (List.length values) (List.drop (0) values)) = []))
  (Ref.mk
  (List.length
  (id
  [some (Blk.mk 3 false false true (Data.ints IntKind.i64 widths)),
  some (Blk.mk 3 false false true (Data.ints IntKind.i64 values)),
  some (Blk.mk 3 false false true (Data.ints IntKind.i64 words))]) +
  (2 -
  List.length
  (List.range (0) ++
  List.filter (fun i => !decide (i < 0))
  (reach
  (id
  [some (Blk.mk 3 false false true (Data.ints IntKind.i64 widths)),
  some (Blk.mk 3 false false true (Data.ints IntKind.i64 values)),
  some (Blk.mk 3 false false true (Data.ints IntKind.i64 words))])
  fuelR
  (AV.refsL
  ([] ++
  List.map
  (opnd (mkL Try.prog 0 (fun x => none) tab19 rowsPackFull)
  [AV.sl zwidths (Ref.mk 0 0 0 0) false (List.length widths) Cap.any,
  AV.sl zvalues (Ref.mk 1 0 0 0) false (List.length values) Cap.any,
  AV.sl zwords (Ref.mk 2 0 0 0) false (List.length words) Cap.any, jk, jk, jk,
  AV.bool true false, jk, jk, jk, jk, jk, jk, jk, jk, jk, jk, jk, jk,
  jk, jk, AV.bool false true, AV.bool true false,
  AV.sl zwidths (Ref.mk 0 0 0 0) false (List.length widths) Cap.any,
  AV.int IntKind.i64 false ((List.length widths) : Int), AV.bool false (decide (((List.length widths) : Int) > (300 : Int))),
  AV.bool true false, AV.sl zvalues (Ref.mk 1 0 0 0) false (List.length values) Cap.any,
  AV.int IntKind.i64 false ((List.length values) : Int), AV.bool false (decide (((List.length values) : Int) > (300 : Int))),
  AV.bool false (decide (((List.length values) : Int) > (300 : Int))), AV.bool true false,
  AV.sl zwords (Ref.mk 2 0 0 0) false (List.length words) Cap.any,
  AV.int IntKind.i64 false ((List.length words) : Int), AV.bool false (decide (((List.length words) : Int) > (300 : Int))), AV.bool true false,
  jk, AV.sl zwidths (Ref.mk 0 0 0 0) false (List.length widths) Cap.any,
  AV.sl zvalues (Ref.mk 1 0 0 0) false (List.length values) Cap.any, jk, jk, jk,
  jk, jk, jk, jk, jk, jk, jk, jk, jk, jk, jk, jk, jk, jk, jk,
  jk, jk, jk, jk, jk, jk, jk, jk, jk, jk, jk, jk, jk, jk, jk,
  jk, jk, jk, jk, jk, jk, jk, jk, jk, jk, jk, jk, jk, jk, jk,
  jk, jk, jk, jk, jk, jk, jk, jk, jk, jk, jk, jk, jk, jk, jk,
  jk, jk, jk, jk, jk, jk, jk, jk, jk, jk, jk, jk, jk, jk, jk,
  jk, jk, jk, jk, jk, jk, jk, jk, jk, jk, jk, jk, jk, jk, jk,
  jk, jk, jk, jk, jk, jk, jk])
  [Operand.tmp 37, Operand.tmp 38] ++
  []))
  []))))
  (0) (0) (0))
  false
  (List.length
  (fieldsL (List.take (List.length widths) (List.drop (0) widths)) (List.take (List.length values) (List.drop (0) values))))
  Cap.own,
  AV.int IntKind.i64 false
  (fieldsE (List.take (List.length widths) (List.drop (0) widths)) (List.take (List.length values) (List.drop (0) values)))],
  AV.sl
  (decide (fieldsL (List.take (List.length widths) (List.drop (0) widths)) (List.take (List.length values) (List.drop (0) values)) = []))
  (Ref.mk
  (List.length
  (id
  [some (Blk.mk 3 false false true (Data.ints IntKind.i64 widths)),
  some (Blk.mk 3 false false true (Data.ints IntKind.i64 values)),
  some (Blk.mk 3 false false true (Data.ints IntKind.i64 words))]) +
  (2 -
  List.length
  (List.range (0) ++
  List.filter (fun i => !decide (i < 0))
  (reach
  (id
  [some (Blk.mk 3 false false true (Data.ints IntKind.i64 widths)),
  some (Blk.mk 3 false false true (Data.ints IntKind.i64 values)),
  some (Blk.mk 3 false false true (Data.ints IntKind.i64 words))])
  fuelR
  (AV.refsL
  ([] ++
  List.map
  (opnd (mkL Try.prog 0 (fun x => none) tab19 rowsPackFull)
  [AV.sl zwidths (Ref.mk 0 0 0 0) false (List.length widths) Cap.any,
  AV.sl zvalues (Ref.mk 1 0 0 0) false (List.length values) Cap.any,
  AV.sl zwords (Ref.mk 2 0 0 0) false (List.length words) Cap.any, jk, jk, jk,
  AV.bool true false, jk, jk, jk, jk, jk, jk, jk, jk, jk, jk, jk, jk, jk,
  jk, AV.bool false true, AV.bool true false,
  AV.sl zwidths (Ref.mk 0 0 0 0) false (List.length widths) Cap.any,
  AV.int IntKind.i64 false ((List.length widths) : Int), AV.bool false (decide (((List.length widths) : Int) > (300 : Int))), AV.bool true false,
  AV.sl zvalues (Ref.mk 1 0 0 0) false (List.length values) Cap.any,
  AV.int IntKind.i64 false ((List.length values) : Int), AV.bool false (decide (((List.length values) : Int) > (300 : Int))),
  AV.bool false (decide (((List.length values) : Int) > (300 : Int))), AV.bool true false,
  AV.sl zwords (Ref.mk 2 0 0 0) false (List.length words) Cap.any,
  AV.int IntKind.i64 false ((List.length words) : Int), AV.bool false (decide (((List.length words) : Int) > (300 : Int))), AV.bool true false,
  jk, AV.sl zwidths (Ref.mk 0 0 0 0) false (List.length widths) Cap.any,
  AV.sl zvalues (Ref.mk 1 0 0 0) false (List.length values) Cap.any, jk, jk, jk,
  jk, jk, jk, jk, jk, jk, jk, jk, jk, jk, jk, jk, jk, jk, jk,
  jk, jk, jk, jk, jk, jk, jk, jk, jk, jk, jk, jk, jk, jk, jk,
  jk, jk, jk, jk, jk, jk, jk, jk, jk, jk, jk, jk, jk, jk, jk,
  jk, jk, jk, jk, jk, jk, jk, jk, jk, jk, jk, jk, jk, jk, jk,
  jk, jk, jk, jk, jk, jk, jk, jk, jk, jk, jk, jk, jk, jk, jk,
  jk, jk, jk, jk, jk, jk, jk, jk, jk, jk, jk, jk, jk, jk, jk,
  jk, jk, jk, jk, jk, jk, jk])
  [Operand.tmp 37, Operand.tmp 38] ++
  []))
  []))))
  (0) (0) (0))
  false
  (List.length (fieldsL (List.take (List.length widths) (List.drop (0) widths)) (List.take (List.length values) (List.drop (0) values))))
  Cap.own,
  AV.int IntKind.i64 false
  (fieldsE (List.take (List.length widths) (List.drop (0) widths)) (List.take (List.length values) (List.drop (0) values))),
  AV.int IntKind.i64 false
  (fieldsE (List.take (List.length widths) (List.drop (0) widths)) (List.take (List.length values) (List.drop (0) values))),
  AV.bool true true, jk, AV.sl zwidths (Ref.mk 0 0 0 0) false (List.length widths) Cap.any,
  AV.sl
  (decide (fieldsL (List.take (List.length widths) (List.drop (0) widths)) (List.take (List.length values) (List.drop (0) values)) = []))
  (Ref.mk
  (List.length
  (id
  [some (Blk.mk 3 false false true (Data.ints IntKind.i64 widths)),
  some (Blk.mk 3 false false true (Data.ints IntKind.i64 values)),
  some (Blk.mk 3 false false true (Data.ints IntKind.i64 words))]) +
  (2 -
  List.length
  (List.range (0) ++
  List.filter (fun i => !decide (i < 0))
  (reach
  (id
  [some (Blk.mk 3 false false true (Data.ints IntKind.i64 widths)),
  some (Blk.mk 3 false false true (Data.ints IntKind.i64 values)),
  some (Blk.mk 3 false false true (Data.ints IntKind.i64 words))])
  fuelR
  (AV.refsL
  ([] ++
  List.map
  (opnd (mkL Try.prog 0 (fun x => none) tab19 rowsPackFull)
  [AV.sl zwidths (Ref.mk 0 0 0 0) false (List.length widths) Cap.any,
  AV.sl zvalues (Ref.mk 1 0 0 0) false (List.length values) Cap.any,
  AV.sl zwords (Ref.mk 2 0 0 0) false (List.length words) Cap.any, jk, jk, jk,
  AV.bool true false, jk, jk, jk, jk, jk, jk, jk, jk, jk, jk, jk, jk, jk,
  jk, AV.bool false true, AV.bool true false,
  AV.sl zwidths (Ref.mk 0 0 0 0) false (List.length widths) Cap.any,
  AV.int IntKind.i64 false ((List.length widths) : Int), AV.bool false (decide (((List.length widths) : Int) > (300 : Int))), AV.bool true false,
  AV.sl zvalues (Ref.mk 1 0 0 0) false (List.length values) Cap.any,
  AV.int IntKind.i64 false ((List.length values) : Int), AV.bool false (decide (((List.length values) : Int) > (300 : Int))),
  AV.bool false (decide (((List.length values) : Int) > (300 : Int))), AV.bool true false,
  AV.sl zwords (Ref.mk 2 0 0 0) false (List.length words) Cap.any,
  AV.int IntKind.i64 false ((List.length words) : Int), AV.bool false (decide (((List.length words) : Int) > (300 : Int))), AV.bool true false,
  jk, AV.sl zwidths (Ref.mk 0 0 0 0) false (List.length widths) Cap.any,
  AV.sl zvalues (Ref.mk 1 0 0 0) false (List.length values) Cap.any, jk, jk, jk,
  jk, jk, jk, jk, jk, jk, jk, jk, jk, jk, jk, jk, jk, jk, jk,
  jk, jk, jk, jk, jk, jk, jk, jk, jk, jk, jk, jk, jk, jk, jk,
  jk, jk, jk, jk, jk, jk, jk, jk, jk, jk, jk, jk, jk, jk, jk,
  jk, jk, jk, jk, jk, jk, jk, jk, jk, jk, jk, jk, jk, jk, jk,
  jk, jk, jk, jk, jk, jk, jk, jk, jk, jk, jk, jk, jk, jk, jk,
  jk, jk, jk, jk, jk, jk, jk, jk, jk, jk, jk, jk, jk, jk, jk,
  jk, jk, jk, jk, jk, jk, jk])
  [Operand.tmp 37, Operand.tmp 38] ++
  []))
  []))))
  (0) (0) (0))
  false
  (List.length (fieldsL (List.take (List.length widths) (List.drop (0) widths)) (List.take (List.length values) (List.drop (0) values))))
  Cap.own,
  jk, jk, jk, jk, jk, jk, jk, jk, jk, jk, jk, jk, jk, jk, jk, jk, jk, jk,
  jk, jk, jk, jk, jk, jk, jk, jk, jk, jk, jk, jk, jk, jk, jk, jk, jk, jk,
  jk, jk, jk, jk, jk, jk, jk, jk, jk, jk, jk, jk, jk, jk, jk, jk, jk, jk,
  jk, jk, jk, jk, jk, jk, jk, jk, jk, jk, jk, jk, jk, jk, jk, jk, jk, jk,
  jk, jk, jk, jk, jk, jk, jk, jk, jk, jk, jk, jk, jk, jk, jk, jk, jk, jk,
  jk, jk])
  [Operand.tmp 46] ++
  []))
  []))))
  (0) (0) (0))
  false
  (List.length
  (List.take (List.length (fieldsL (List.take (List.length widths) (List.drop (0) widths)) (List.take (List.length values) (List.drop (0) values))))
  (List.drop (0) (fieldsL (List.take (List.length widths) (List.drop (0) widths)) (List.take (List.length values) (List.drop (0) values))))))
  Cap.own,
  jk, jk, jk, jk, jk, jk, jk, jk, jk, jk, jk, jk, jk, jk, jk, jk, jk, jk, jk, jk, jk,
  jk, jk, jk, jk, jk, jk, jk, jk, jk, jk, jk, jk, jk, jk, jk, jk, jk, jk, jk, jk, jk,
  jk, jk, jk, jk, jk, jk, jk, jk, jk, jk, jk, jk, jk, jk, jk, jk, jk, jk, jk, jk, jk,
  jk, jk, jk, jk, jk, jk, jk, jk, jk, jk, jk, jk, jk, jk, jk, jk, jk, jk, jk, jk, jk,
  jk, jk, jk, jk, jk, jk, jk]
  (Operand.const (Value.int IntKind.i64 (9 : Int)))) ++
  List.drop (0 * 1 + 1) (zerosOf (List.map ofCell [Value.int IntKind.i64 (0 : Int)]) 1)))))) =
  1 * 1) &&
  false == false)
  (Tree.chk
  ((0 + List.length widths ≤ List.length widths ∧
  0 +
  (List.length
  (List.take (List.length (fieldsL (List.take (List.length widths) (List.drop (0) widths)) (List.take (List.length values) (List.drop (0) values))))
  (List.drop (0) (fieldsL (List.take (List.length widths) (List.drop (0) widths)) (List.take (List.length values) (List.drop (0) values))))) +
  1) ≤
  List.length
  (List.take (List.length (fieldsL (List.take (List.length widths) (List.drop (0) widths)) (List.take (List.length values) (List.drop (0) values))))
  (List.drop (0) (fieldsL (List.take (List.length widths) (List.drop (0) widths)) (List.take (List.length values) (List.drop (0) values)))) ++
  [(9 : Int)]) ∧
  True) ∧
  short (List.take (List.length widths) (List.drop (0) widths)) ∧
  short
  (List.take
  (List.length
  (List.take (List.length (fieldsL (List.take (List.length widths) (List.drop (0) widths)) (List.take (List.length values) (List.drop (0) values))))
  (List.drop (0) (fieldsL (List.take (List.length widths) (List.drop (0) widths)) (List.take (List.length values) (List.drop (0) values))))) +
  1)
  (List.drop (0)
  (List.take (List.length (fieldsL (List.take (List.length widths) (List.drop (0) widths)) (List.take (List.length values) (List.drop (0) values))))
  (List.drop (0) (fieldsL (List.take (List.length widths) (List.drop (0) widths)) (List.take (List.length values) (List.drop (0) values)))) ++
  [(9 : Int)]))) ∧
  (zwidths = true → List.take (List.length widths) (List.drop (0) widths) = []) ∧
  ((false && decide (1 = 0)) = true →
  List.take
  (List.length
  (List.take (List.length (fieldsL (List.take (List.length widths) (List.drop (0) widths)) (List.take (List.length values) (List.drop (0) values))))
  (List.drop (0) (fieldsL (List.take (List.length widths) (List.drop (0) widths)) (List.take (List.length values) (List.drop (0) values))))) +
  1)
  (List.drop (0)
  (List.take (List.length (fieldsL (List.take (List.length widths) (List.drop (0) widths)) (List.take (List.length values) (List.drop (0) values))))
  (List.drop (0) (fieldsL (List.take (List.length widths) (List.drop (0) widths)) (List.take (List.length values) (List.drop (0) values)))) ++
  [(9 : Int)])) =
  []))
  (Tree.br
  (splitE (List.take (List.length widths) (List.drop (0) widths))
  (List.take
  (List.length
  (List.take (List.length (fieldsL (List.take (List.length widths) (List.drop (0) widths)) (List.take (List.length values) (List.drop (0) values))))
  (List.drop (0) (fieldsL (List.take (List.length widths) (List.drop (0) widths)) (List.take (List.length values) (List.drop (0) values))))) +
  1)
  (List.drop (0)
  (List.take (List.length (fieldsL (List.take (List.length widths) (List.drop (0) widths)) (List.take (List.length values) (List.drop (0) values))))
  (List.drop (0) (fieldsL (List.take (List.length widths) (List.drop (0) widths)) (List.take (List.length values) (List.drop (0) values)))) ++
  [(9 : Int)]))) !=
  (0 : Int))
  (Tree.ret
  (AV.bool true false,
  [some (Blk.mk (3) false false true (Data.ints IntKind.i64 widths)), some (Blk.mk (3) false false true (Data.ints IntKind.i64 values)),
  some (Blk.mk (3) false false true (Data.ints IntKind.i64 words))]))
  (Tree.chk
  ((0 +
  List.length
  (splitL (List.take (List.length widths) (List.drop (0) widths))
  (List.take
  (List.length
  (List.take (List.length (fieldsL (List.take (List.length widths) (List.drop (0) widths)) (List.take (List.length values) (List.drop (0) values))))
  (List.drop (0) (fieldsL (List.take (List.length widths) (List.drop (0) widths)) (List.take (List.length values) (List.drop (0) values))))) +
  1)
  (List.drop (0)
  (List.take (List.length (fieldsL (List.take (List.length widths) (List.drop (0) widths)) (List.take (List.length values) (List.drop (0) values))))
  (List.drop (0) (fieldsL (List.take (List.length widths) (List.drop (0) widths)) (List.take (List.length values) (List.drop (0) values)))) ++
  [(9 : Int)])))) ≤
  List.length
  (splitL (List.take (List.length widths) (List.drop (0) widths))
  (List.take
  (List.length
  (List.take (List.length (fieldsL (List.take (List.length widths) (List.drop (0) widths)) (List.take (List.length values) (List.drop (0) values))))
  (List.drop (0) (fieldsL (List.take (List.length widths) (List.drop (0) widths)) (List.take (List.length values) (List.drop (0) values))))) +
  1)
  (List.drop (0)
  (List.take (List.length (fieldsL (List.take (List.length widths) (List.drop (0) widths)) (List.take (List.length values) (List.drop (0) values))))
  (List.drop (0) (fieldsL (List.take (List.length widths) (List.drop (0) widths)) (List.take (List.length values) (List.drop (0) values)))) ++
  [(9 : Int)])))) ∧
  0 + List.length values ≤ List.length values ∧ True) ∧
  short
  (List.take
  (List.length
  (splitL (List.take (List.length widths) (List.drop (0) widths))
  (List.take
  (List.length
  (List.take (List.length (fieldsL (List.take (List.length widths) (List.drop (0) widths)) (List.take (List.length values) (List.drop (0) values))))
  (List.drop (0) (fieldsL (List.take (List.length widths) (List.drop (0) widths)) (List.take (List.length values) (List.drop (0) values))))) +
  1)
  (List.drop (0)
  (List.take (List.length (fieldsL (List.take (List.length widths) (List.drop (0) widths)) (List.take (List.length values) (List.drop (0) values))))
  (List.drop (0) (fieldsL (List.take (List.length widths) (List.drop (0) widths)) (List.take (List.length values) (List.drop (0) values)))) ++
  [(9 : Int)])))))
  (List.drop (0)
  (splitL (List.take (List.length widths) (List.drop (0) widths))
  (List.take
  (List.length
  (List.take (List.length (fieldsL (List.take (List.length widths) (List.drop (0) widths)) (List.take (List.length values) (List.drop (0) values))))
  (List.drop (0) (fieldsL (List.take (List.length widths) (List.drop (0) widths)) (List.take (List.length values) (List.drop (0) values))))) +
  1)
  (List.drop (0)
  (List.take (List.length (fieldsL (List.take (List.length widths) (List.drop (0) widths)) (List.take (List.length values) (List.drop (0) values))))
  (List.drop (0) (fieldsL (List.take (List.length widths) (List.drop (0) widths)) (List.take (List.length values) (List.drop (0) values)))) ++
  [(9 : Int)])))))) ∧
  (decide
  (splitL (List.take (List.length widths) (List.drop (0) widths))
  (List.take
  (List.length
  (List.take (List.length (fieldsL (List.take (List.length widths) (List.drop (0) widths)) (List.take (List.length values) (List.drop (0) values))))
  (List.drop (0) (fieldsL (List.take (List.length widths) (List.drop (0) widths)) (List.take (List.length values) (List.drop (0) values))))) +
  1)
  (List.drop (0)
  (List.take (List.length (fieldsL (List.take (List.length widths) (List.drop (0) widths)) (List.take (List.length values) (List.drop (0) values))))
  (List.drop (0) (fieldsL (List.take (List.length widths) (List.drop (0) widths)) (List.take (List.length values) (List.drop (0) values)))) ++
  [(9 : Int)]))) =
  []) =
  true →
  List.take
  (List.length
  (splitL (List.take (List.length widths) (List.drop (0) widths))
  (List.take
  (List.length
  (List.take (List.length (fieldsL (List.take (List.length widths) (List.drop (0) widths)) (List.take (List.length values) (List.drop (0) values))))
  (List.drop (0) (fieldsL (List.take (List.length widths) (List.drop (0) widths)) (List.take (List.length values) (List.drop (0) values))))) +
  1)
  (List.drop (0)
  (List.take (List.length (fieldsL (List.take (List.length widths) (List.drop (0) widths)) (List.take (List.length values) (List.drop (0) values))))
  (List.drop (0) (fieldsL (List.take (List.length widths) (List.drop (0) widths)) (List.take (List.length values) (List.drop (0) values)))) ++
  [(9 : Int)])))))
  (List.drop (0)
  (splitL (List.take (List.length widths) (List.drop (0) widths))
  (List.take
  (List.length
  (List.take (List.length (fieldsL (List.take (List.length widths) (List.drop (0) widths)) (List.take (List.length values) (List.drop (0) values))))
  (List.drop (0) (fieldsL (List.take (List.length widths) (List.drop (0) widths)) (List.take (List.length values) (List.drop (0) values))))) +
  1)
  (List.drop (0)
  (List.take (List.length (fieldsL (List.take (List.length widths) (List.drop (0) widths)) (List.take (List.length values) (List.drop (0) values))))
  (List.drop (0) (fieldsL (List.take (List.length widths) (List.drop (0) widths)) (List.take (List.length values) (List.drop (0) values)))) ++
  [(9 : Int)]))))) =
  []) ∧
  (zvalues = true → List.take (List.length values) (List.drop (0) values) = []))
  (Tree.br
  (!decide
  (List.take
  (List.length
  (splitL (List.take (List.length widths) (List.drop (0) widths))
  (List.take
  (List.length
  (List.take (List.length (fieldsL (List.take (List.length widths) (List.drop (0) widths)) (List.take (List.length values) (List.drop (0) values))))
  (List.drop (0) (fieldsL (List.take (List.length widths) (List.drop (0) widths)) (List.take (List.length values) (List.drop (0) values))))) +
  1)
  (List.drop (0)
  (List.take (List.length (fieldsL (List.take (List.length widths) (List.drop (0) widths)) (List.take (List.length values) (List.drop (0) values))))
  (List.drop (0) (fieldsL (List.take (List.length widths) (List.drop (0) widths)) (List.take (List.length values) (List.drop (0) values)))) ++
  [(9 : Int)])))))
  (List.drop (0)
  (splitL (List.take (List.length widths) (List.drop (0) widths))
  (List.take
  (List.length
  (List.take (List.length (fieldsL (List.take (List.length widths) (List.drop (0) widths)) (List.take (List.length values) (List.drop (0) values))))
  (List.drop (0) (fieldsL (List.take (List.length widths) (List.drop (0) widths)) (List.take (List.length values) (List.drop (0) values))))) +
  1)
  (List.drop (0)
  (List.take (List.length (fieldsL (List.take (List.length widths) (List.drop (0) widths)) (List.take (List.length values) (List.drop (0) values))))
  (List.drop (0) (fieldsL (List.take (List.length widths) (List.drop (0) widths)) (List.take (List.length values) (List.drop (0) values)))) ++
  [(9 : Int)]))))) =
  List.take (List.length values) (List.drop (0) values)))
  (Tree.ret
  (AV.bool true false,
  [some (Blk.mk (3) false false true (Data.ints IntKind.i64 widths)), some (Blk.mk (3) false false true (Data.ints IntKind.i64 values)),
  some (Blk.mk (3) false false true (Data.ints IntKind.i64 words))]))
  (Tree.chk
  ((0 + List.length widths ≤ List.length widths ∧ 0 + List.length words ≤ List.length words ∧ True) ∧
  short (List.take (List.length widths) (List.drop (0) widths)) ∧
  short (List.take (List.length words) (List.drop (0) words)) ∧
  (zwidths = true → List.take (List.length widths) (List.drop (0) widths) = []) ∧ (zwords = true → List.take (List.length words) (List.drop (0) words) = []))
  (Tree.br (splitE (List.take (List.length widths) (List.drop (0) widths)) (List.take (List.length words) (List.drop (0) words)) != (0 : Int))
  (Tree.ret
  (AV.bool false (((List.length (splitL (List.take (List.length widths) (List.drop (0) widths)) (List.take (List.length words) (List.drop (0) words)))) : Int) == (0 : Int)),
  [some (Blk.mk (3) false false true (Data.ints IntKind.i64 widths)), some (Blk.mk (3) false false true (Data.ints IntKind.i64 values)),
  some (Blk.mk (3) false false true (Data.ints IntKind.i64 words))]))
  (Tree.chk
  ((0 + List.length widths ≤ List.length widths ∧
  0 + List.length (splitL (List.take (List.length widths) (List.drop (0) widths)) (List.take (List.length words) (List.drop (0) words))) ≤
  List.length (splitL (List.take (List.length widths) (List.drop (0) widths)) (List.take (List.length words) (List.drop (0) words))) ∧
  True) ∧
  short (List.take (List.length widths) (List.drop (0) widths)) ∧
  short
  (List.take (List.length (splitL (List.take (List.length widths) (List.drop (0) widths)) (List.take (List.length words) (List.drop (0) words))))
  (List.drop (0) (splitL (List.take (List.length widths) (List.drop (0) widths)) (List.take (List.length words) (List.drop (0) words))))) ∧
  (zwidths = true → List.take (List.length widths) (List.drop (0) widths) = []) ∧
  (decide (splitL (List.take (List.length widths) (List.drop (0) widths)) (List.take (List.length words) (List.drop (0) words)) = []) = true →
  List.take (List.length (splitL (List.take (List.length widths) (List.drop (0) widths)) (List.take (List.length words) (List.drop (0) words))))
  (List.drop (0) (splitL (List.take (List.length widths) (List.drop (0) widths)) (List.take (List.length words) (List.drop (0) words)))) =
  []) ∧
  wf64L
  (List.take (List.length (splitL (List.take (List.length widths) (List.drop (0) widths)) (List.take (List.length words) (List.drop (0) words))))
  (List.drop (0) (splitL (List.take (List.length widths) (List.drop (0) widths)) (List.take (List.length words) (List.drop (0) words))))))
  (Tree.chk
  ((0 + List.length widths ≤ List.length widths ∧ True) ∧
  List.length (List.take (List.length widths) (List.drop (0) widths)) ≤ 1000000 ∧ (zwidths = true → List.take (List.length widths) (List.drop (0) widths) = []))
  (Tree.chk
  (St.le
  (St.mk
  [AV.sl zwidths (Ref.mk (0) (0) (0) (0)) false (List.length widths) Cap.any, jk,
  AV.sl zwords (Ref.mk (2) (0) (0) (0)) false (List.length words) Cap.any, jk, jk, jk, jk, jk, jk, jk, jk, jk,
  jk,
  AV.sl
  (decide
  (fieldsL (List.take (List.length widths) (List.drop (0) widths))
  (List.take (List.length (splitL (List.take (List.length widths) (List.drop (0) widths)) (List.take (List.length words) (List.drop (0) words))))
  (List.drop (0) (splitL (List.take (List.length widths) (List.drop (0) widths)) (List.take (List.length words) (List.drop (0) words))))) =
  []))
  (Ref.mk (3) (0) (0) (0)) false
  (List.length
  (fieldsL (List.take (List.length widths) (List.drop (0) widths))
  (List.take (List.length (splitL (List.take (List.length widths) (List.drop (0) widths)) (List.take (List.length words) (List.drop (0) words))))
  (List.drop (0) (splitL (List.take (List.length widths) (List.drop (0) widths)) (List.take (List.length words) (List.drop (0) words)))))))
  Cap.own,
  AV.int IntKind.i64 false
  (fieldsE (List.take (List.length widths) (List.drop (0) widths))
  (List.take (List.length (splitL (List.take (List.length widths) (List.drop (0) widths)) (List.take (List.length words) (List.drop (0) words))))
  (List.drop (0) (splitL (List.take (List.length widths) (List.drop (0) widths)) (List.take (List.length words) (List.drop (0) words)))))),
  AV.int IntKind.i64 false (sizeZ (List.take (List.length widths) (List.drop (0) widths))), AV.int IntKind.i64 true (0 : Int), AV.int IntKind.i64 true (0 : Int), jk, jk,
  jk, jk, jk, jk, jk, jk, jk, jk, jk, jk, jk, jk, jk, jk, jk, jk, jk, jk, jk, jk, jk,
  jk, jk, jk, jk, jk, jk, jk, jk, jk, jk, jk, jk, jk, jk, jk, jk, jk, jk, jk, jk, jk,
  jk, jk, jk, jk, jk, jk, jk, jk, jk, jk, jk, jk, jk, jk, jk, jk, jk, jk, jk, jk, jk,
  jk, jk, jk, jk, jk, jk, jk, jk, jk, jk, jk, jk, jk, jk, jk, jk, jk, jk, jk, jk, jk,
  jk, jk, jk, jk, jk, jk, jk, jk, jk, jk, jk, jk, jk, jk, jk, jk, jk, jk, jk, jk, jk,
  jk, jk, jk, jk, jk, jk, jk, jk, jk, jk, jk, jk, jk, jk]
  [some (Blk.mk (3) false false true (Data.ints IntKind.i64 widths)), some (Blk.mk (3) false false true (Data.ints IntKind.i64 values)),
  some (Blk.mk (3) false false true (Data.ints IntKind.i64 words)),
  some
  (Blk.mk (3) true
  (Decidable.rec (fun h => false) (fun h => true)
  (List.instDecidableEqNil
  (fieldsL (List.take (List.length widths) (List.drop (0) widths))
  (List.take (List.length (splitL (List.take (List.length widths) (List.drop (0) widths)) (List.take (List.length words) (List.drop (0) words))))
  (List.drop (0) (splitL (List.take (List.length widths) (List.drop (0) widths)) (List.take (List.length words) (List.drop (0) words))))))))
  true
  (Data.ints IntKind.i64
  (fieldsL (List.take (List.length widths) (List.drop (0) widths))
  (List.take (List.length (splitL (List.take (List.length widths) (List.drop (0) widths)) (List.take (List.length words) (List.drop (0) words))))
  (List.drop (0) (splitL (List.take (List.length widths) (List.drop (0) widths)) (List.take (List.length words) (List.drop (0) words))))))))])
  (St.mk
  [AV.sl zwidths (Ref.mk (0) (0) (0) (0)) false (List.length widths) Cap.any, jk,
  AV.sl zwords (Ref.mk (2) (0) (0) (0)) false (List.length words) Cap.any, jk, jk, jk, jk, jk, jk, jk, jk, jk,
  jk,
  AV.sl (decide (fieldsL widths (splitL widths words) = [])) (Ref.mk (3) (0) (0) (0)) false (List.length (fieldsL widths (splitL widths words)))
  Cap.own,
  AV.int IntKind.i64 false (fieldsE widths (splitL widths words)), AV.int IntKind.i64 false (sizeZ widths), AV.int IntKind.i64 false (sumI (List.take (Int.toNat (0 : Int)) widths)),
  AV.int IntKind.i64 false (0 : Int), jk, jk, jk, jk, jk, jk, jk, jk, jk, jk, jk, jk, jk, jk, jk, jk, jk,
  jk, jk, jk, jk, jk, jk, jk, jk, jk, jk, jk, jk, jk, jk, jk, jk, jk, jk, jk, jk, jk,
  jk, jk, jk, jk, jk, jk, jk, jk, jk, jk, jk, jk, jk, jk, jk, jk, jk, jk, jk, jk, jk,
  jk, jk, jk, jk, jk, jk, jk, jk, jk, jk, jk, jk, jk, jk, jk, jk, jk, jk, jk, jk, jk,
  jk, jk, jk, jk, jk, jk, jk, jk, jk, jk, jk, jk, jk, jk, jk, jk, jk, jk, jk, jk, jk,
  jk, jk, jk, jk, jk, jk, jk, jk, jk, jk, jk, jk, jk, jk, jk, jk, jk, jk, jk, jk]
  [some (Blk.mk (3) false false true (Data.ints IntKind.i64 widths)), some (Blk.mk (3) false false true (Data.ints IntKind.i64 values)),
  some (Blk.mk (3) false false true (Data.ints IntKind.i64 words)),
  some (Blk.mk (3) true (decide (fieldsL widths (splitL widths words) = [])) true (Data.ints IntKind.i64 (fieldsL widths (splitL widths words))))]))
  (Tree.chk (okPackFull_0 (XPackFull_0.mk zwidths widths values zwords words (Int.toNat (0 : Int))))
  (Tree.br (fieldsE widths (splitL widths words) != (0 : Int))
  (Tree.ret
  (AV.bool true false,
  [some (Blk.mk (3) false false true (Data.ints IntKind.i64 widths)), some (Blk.mk (3) false false true (Data.ints IntKind.i64 values)),
  some (Blk.mk (3) false false true (Data.ints IntKind.i64 words))]))
  (Tree.br (((List.length (fieldsL widths (splitL widths words))) : Int) != sizeZ widths)
  (Tree.ret
  (AV.bool true false,
  [some (Blk.mk (3) false false true (Data.ints IntKind.i64 widths)), some (Blk.mk (3) false false true (Data.ints IntKind.i64 values)),
  some (Blk.mk (3) false false true (Data.ints IntKind.i64 words))]))
  (Tree.br (decide (sizeZ widths > ((List.length words) : Int)))
  (Tree.ret
  (AV.bool true false,
  [some (Blk.mk (3) false false true (Data.ints IntKind.i64 widths)), some (Blk.mk (3) false false true (Data.ints IntKind.i64 values)),
  some (Blk.mk (3) false false true (Data.ints IntKind.i64 words))]))
  (Tree.chk
  (St.le
  (St.mk
  [jk, jk, AV.sl zwords (Ref.mk (2) (0) (0) (0)) false (List.length words) Cap.any, jk, jk, jk, jk, jk, jk,
  jk, jk, jk, jk,
  AV.sl (decide (fieldsL widths (splitL widths words) = [])) (Ref.mk (3) (0) (0) (0)) false
  (List.length (fieldsL widths (splitL widths words))) Cap.own,
  jk, AV.int IntKind.i64 false (sizeZ widths), AV.int IntKind.i64 false (sumI widths), jk, AV.int IntKind.i64 true (0 : Int), jk, jk, jk, jk, jk,
  jk, jk, jk, jk, jk, jk, jk, jk, jk, jk, jk, jk, jk, jk, jk, jk, jk, jk, jk, jk,
  jk, jk, jk, jk, jk, jk, jk, jk, jk, jk, jk, jk, jk, jk, jk, jk, jk, jk, jk, jk,
  jk, jk, jk, jk, jk, jk, jk, jk, jk, jk, jk, jk, jk, jk, jk, jk, jk, jk, jk, jk,
  jk, jk, jk, jk, jk, jk, jk, jk, jk, jk, jk, jk, jk, jk, jk, jk, jk, jk, jk, jk,
  jk, jk, jk, jk, jk, jk, jk, jk, jk, jk, jk, jk, jk, jk, jk, jk, jk, jk, jk, jk,
  jk, jk, jk, jk, jk, jk, jk, jk, jk, jk, jk, jk, jk, jk, jk]
  [some (Blk.mk (3) false false true (Data.ints IntKind.i64 widths)), some (Blk.mk (3) false false true (Data.ints IntKind.i64 values)),
  some (Blk.mk (3) false false true (Data.ints IntKind.i64 words)),
  some
  (Blk.mk (3) true (decide ((fieldsL widths (splitL widths words)) = [])) true
  (Data.ints IntKind.i64 (fieldsL widths (splitL widths words))))])
  (St.mk
  [jk, jk, AV.sl zwords (Ref.mk (2) (0) (0) (0)) false (List.length words) Cap.any, jk, jk, jk, jk, jk, jk,
  jk, jk, jk, jk,
  AV.sl (decide (fieldsL widths (splitL widths words) = [])) (Ref.mk (3) (0) (0) (0)) false
  (List.length (fieldsL widths (splitL widths words))) Cap.own,
  jk, AV.int IntKind.i64 false (sizeZ widths), AV.int IntKind.i64 false (sumI widths), jk, AV.int IntKind.i64 false (0 : Int), jk, jk, jk, jk, jk,
  jk, jk, jk, jk, jk, jk, jk, jk, jk, jk, jk, jk, jk, jk, jk, jk, jk, jk, jk, jk,
  jk, jk, jk, jk, jk, jk, jk, jk, jk, jk, jk, jk, jk, jk, jk, jk, jk, jk, jk, jk,
  jk, jk, jk, jk, jk, jk, jk, jk, jk, jk, jk, jk, jk, jk, jk, jk, jk, jk, jk, jk,
  jk, jk, jk, jk, jk, jk, jk, jk, jk, jk, jk, jk, jk, jk, jk, jk, jk, jk, jk, jk,
  jk, jk, jk, jk, jk, jk, jk, jk, jk, jk, jk, jk, jk, jk, jk, jk, jk, jk, jk, jk,
  jk, jk, jk, jk, jk, jk, jk, jk, jk, jk, jk, jk, jk, jk, jk]
  [some (Blk.mk (3) false false true (Data.ints IntKind.i64 widths)), some (Blk.mk (3) false false true (Data.ints IntKind.i64 values)),
  some (Blk.mk (3) false false true (Data.ints IntKind.i64 words)),
  some (Blk.mk (3) true (decide (fieldsL widths (splitL widths words) = [])) true (Data.ints IntKind.i64 (fieldsL widths (splitL widths words))))]))
  (Tree.chk (okPackFull_1 (XPackFull_1.mk widths values zwords words (Int.toNat (0 : Int))))
  (Tree.ret
  (AV.bool true true,
  [some (Blk.mk (3) false false true (Data.ints IntKind.i64 widths)), some (Blk.mk (3) false false true (Data.ints IntKind.i64 values)),
  some (Blk.mk (3) false false true (Data.ints IntKind.i64 words))])))))))))))))))))
  Tree.fail)
  Tree.fail))
  (Tree.chk
  ((0 + List.length widths ≤ List.length widths ∧ 0 + List.length words ≤ List.length words ∧ True) ∧
  short (List.take (List.length widths) (List.drop (0) widths)) ∧
  short (List.take (List.length words) (List.drop (0) words)) ∧
  (zwidths = true → List.take (List.length widths) (List.drop (0) widths) = []) ∧ (zwords = true → List.take (List.length words) (List.drop (0) words) = []))
  (Tree.br (splitE (List.take (List.length widths) (List.drop (0) widths)) (List.take (List.length words) (List.drop (0) words)) != (0 : Int))
  (Tree.ret
  (AV.bool false (((List.length (splitL (List.take (List.length widths) (List.drop (0) widths)) (List.take (List.length words) (List.drop (0) words)))) : Int) == (0 : Int)),
  [some (Blk.mk (3) false false true (Data.ints IntKind.i64 widths)), some (Blk.mk (3) false false true (Data.ints IntKind.i64 values)),
  some (Blk.mk (3) false false true (Data.ints IntKind.i64 words))]))
  (Tree.chk
  ((0 + List.length widths ≤ List.length widths ∧
  0 + List.length (splitL (List.take (List.length widths) (List.drop (0) widths)) (List.take (List.length words) (List.drop (0) words))) ≤
  List.length (splitL (List.take (List.length widths) (List.drop (0) widths)) (List.take (List.length words) (List.drop (0) words))) ∧
  True) ∧
  short (List.take (List.length widths) (List.drop (0) widths)) ∧
  short
  (List.take (List.length (splitL (List.take (List.length widths) (List.drop (0) widths)) (List.take (List.length words) (List.drop (0) words))))
  (List.drop (0) (splitL (List.take (List.length widths) (List.drop (0) widths)) (List.take (List.length words) (List.drop (0) words))))) ∧
  (zwidths = true → List.take (List.length widths) (List.drop (0) widths) = []) ∧
  (decide (splitL (List.take (List.length widths) (List.drop (0) widths)) (List.take (List.length words) (List.drop (0) words)) = []) = true →
  List.take (List.length (splitL (List.take (List.length widths) (List.drop (0) widths)) (List.take (List.length words) (List.drop (0) words))))
  (List.drop (0) (splitL (List.take (List.length widths) (List.drop (0) widths)) (List.take (List.length words) (List.drop (0) words)))) =
  []) ∧
  wf64L
  (List.take (List.length (splitL (List.take (List.length widths) (List.drop (0) widths)) (List.take (List.length words) (List.drop (0) words))))
  (List.drop (0) (splitL (List.take (List.length widths) (List.drop (0) widths)) (List.take (List.length words) (List.drop (0) words))))))
  (Tree.chk
  ((0 + List.length widths ≤ List.length widths ∧ True) ∧
  List.length (List.take (List.length widths) (List.drop (0) widths)) ≤ 1000000 ∧ (zwidths = true → List.take (List.length widths) (List.drop (0) widths) = []))
  (Tree.chk
  (St.le
  (St.mk
  [AV.sl zwidths (Ref.mk (0) (0) (0) (0)) false (List.length widths) Cap.any, jk,
  AV.sl zwords (Ref.mk (2) (0) (0) (0)) false (List.length words) Cap.any, jk, jk, jk, jk, jk, jk, jk, jk, jk, jk,
  AV.sl
  (decide
  (fieldsL (List.take (List.length widths) (List.drop (0) widths))
  (List.take (List.length (splitL (List.take (List.length widths) (List.drop (0) widths)) (List.take (List.length words) (List.drop (0) words))))
  (List.drop (0) (splitL (List.take (List.length widths) (List.drop (0) widths)) (List.take (List.length words) (List.drop (0) words))))) =
  []))
  (Ref.mk (3) (0) (0) (0)) false
  (List.length
  (fieldsL (List.take (List.length widths) (List.drop (0) widths))
  (List.take (List.length (splitL (List.take (List.length widths) (List.drop (0) widths)) (List.take (List.length words) (List.drop (0) words))))
  (List.drop (0) (splitL (List.take (List.length widths) (List.drop (0) widths)) (List.take (List.length words) (List.drop (0) words)))))))
  Cap.own,
  AV.int IntKind.i64 false
  (fieldsE (List.take (List.length widths) (List.drop (0) widths))
  (List.take (List.length (splitL (List.take (List.length widths) (List.drop (0) widths)) (List.take (List.length words) (List.drop (0) words))))
  (List.drop (0) (splitL (List.take (List.length widths) (List.drop (0) widths)) (List.take (List.length words) (List.drop (0) words)))))),
  AV.int IntKind.i64 false (sizeZ (List.take (List.length widths) (List.drop (0) widths))), AV.int IntKind.i64 true (0 : Int), AV.int IntKind.i64 true (0 : Int), jk, jk, jk, jk,
  jk, jk, jk, jk, jk, jk, jk, jk, jk, jk, jk, jk, jk, jk, jk, jk, jk, jk, jk, jk, jk, jk, jk,
  jk, jk, jk, jk, jk, jk, jk, jk, jk, jk, jk, jk, jk, jk, jk, jk, jk, jk, jk, jk, jk, jk, jk,
  jk, jk, jk, jk, jk, jk, jk, jk, jk, jk, jk, jk, jk, jk, jk, jk, jk, jk, jk, jk, jk, jk, jk,
  jk, jk, jk, jk, jk, jk, jk, jk, jk, jk, jk, jk, jk, jk, jk, jk, jk, jk, jk, jk, jk, jk, jk,
  jk, jk, jk, jk, jk, jk, jk, jk, jk, jk, jk, jk, jk, jk, jk, jk, jk, jk, jk, jk, jk, jk, jk,
  jk, jk]
  [some (Blk.mk (3) false false true (Data.ints IntKind.i64 widths)), some (Blk.mk (3) false false true (Data.ints IntKind.i64 values)),
  some (Blk.mk (3) false false true (Data.ints IntKind.i64 words)),
  some
  (Blk.mk (3) true
  (Decidable.rec (fun h => false) (fun h => true)
  (List.instDecidableEqNil
  (fieldsL (List.take (List.length widths) (List.drop (0) widths))
  (List.take (List.length (splitL (List.take (List.length widths) (List.drop (0) widths)) (List.take (List.length words) (List.drop (0) words))))
  (List.drop (0) (splitL (List.take (List.length widths) (List.drop (0) widths)) (List.take (List.length words) (List.drop (0) words))))))))
  true
  (Data.ints IntKind.i64
  (fieldsL (List.take (List.length widths) (List.drop (0) widths))
  (List.take (List.length (splitL (List.take (List.length widths) (List.drop (0) widths)) (List.take (List.length words) (List.drop (0) words))))
  (List.drop (0) (splitL (List.take (List.length widths) (List.drop (0) widths)) (List.take (List.length words) (List.drop (0) words))))))))])
  (St.mk
  [AV.sl zwidths (Ref.mk (0) (0) (0) (0)) false (List.length widths) Cap.any, jk,
  AV.sl zwords (Ref.mk (2) (0) (0) (0)) false (List.length words) Cap.any, jk, jk, jk, jk, jk, jk, jk, jk, jk, jk,
  AV.sl (decide (fieldsL widths (splitL widths words) = [])) (Ref.mk (3) (0) (0) (0)) false (List.length (fieldsL widths (splitL widths words))) Cap.own,
  AV.int IntKind.i64 false (fieldsE widths (splitL widths words)), AV.int IntKind.i64 false (sizeZ widths), AV.int IntKind.i64 false (sumI (List.take (Int.toNat (0 : Int)) widths)),
  AV.int IntKind.i64 false (0 : Int), jk, jk, jk, jk, jk, jk, jk, jk, jk, jk, jk, jk, jk, jk, jk, jk, jk, jk, jk,
  jk, jk, jk, jk, jk, jk, jk, jk, jk, jk, jk, jk, jk, jk, jk, jk, jk, jk, jk, jk, jk, jk, jk,
  jk, jk, jk, jk, jk, jk, jk, jk, jk, jk, jk, jk, jk, jk, jk, jk, jk, jk, jk, jk, jk, jk, jk,
  jk, jk, jk, jk, jk, jk, jk, jk, jk, jk, jk, jk, jk, jk, jk, jk, jk, jk, jk, jk, jk, jk, jk,
  jk, jk, jk, jk, jk, jk, jk, jk, jk, jk, jk, jk, jk, jk, jk, jk, jk, jk, jk, jk, jk, jk, jk,
  jk, jk, jk, jk, jk, jk, jk, jk, jk, jk]
  [some (Blk.mk (3) false false true (Data.ints IntKind.i64 widths)), some (Blk.mk (3) false false true (Data.ints IntKind.i64 values)),
  some (Blk.mk (3) false false true (Data.ints IntKind.i64 words)),
  some (Blk.mk (3) true (decide (fieldsL widths (splitL widths words) = [])) true (Data.ints IntKind.i64 (fieldsL widths (splitL widths words))))]))
  (Tree.chk (okPackFull_0 (XPackFull_0.mk zwidths widths values zwords words (Int.toNat (0 : Int))))
  (Tree.br (fieldsE widths (splitL widths words) != (0 : Int))
  (Tree.ret
  (AV.bool true false,
  [some (Blk.mk (3) false false true (Data.ints IntKind.i64 widths)), some (Blk.mk (3) false false true (Data.ints IntKind.i64 values)),
  some (Blk.mk (3) false false true (Data.ints IntKind.i64 words))]))
  (Tree.br (((List.length (fieldsL widths (splitL widths words))) : Int) != sizeZ widths)
  (Tree.ret
  (AV.bool true false,
  [some (Blk.mk (3) false false true (Data.ints IntKind.i64 widths)), some (Blk.mk (3) false false true (Data.ints IntKind.i64 values)),
  some (Blk.mk (3) false false true (Data.ints IntKind.i64 words))]))
  (Tree.br (decide (sizeZ widths > ((List.length words) : Int)))
  (Tree.ret
  (AV.bool true false,
  [some (Blk.mk (3) false false true (Data.ints IntKind.i64 widths)), some (Blk.mk (3) false false true (Data.ints IntKind.i64 values)),
  some (Blk.mk (3) false false true (Data.ints IntKind.i64 words))]))
  (Tree.chk
  (St.le
  (St.mk
  [jk, jk, AV.sl zwords (Ref.mk (2) (0) (0) (0)) false (List.length words) Cap.any, jk, jk, jk, jk, jk, jk, jk, jk,
  jk, jk,
  AV.sl (decide (fieldsL widths (splitL widths words) = [])) (Ref.mk (3) (0) (0) (0)) false (List.length (fieldsL widths (splitL widths words)))
  Cap.own,
  jk, AV.int IntKind.i64 false (sizeZ widths), AV.int IntKind.i64 false (sumI widths), jk, AV.int IntKind.i64 true (0 : Int), jk, jk, jk, jk, jk, jk,
  jk, jk, jk, jk, jk, jk, jk, jk, jk, jk, jk, jk, jk, jk, jk, jk, jk, jk, jk, jk, jk, jk,
  jk, jk, jk, jk, jk, jk, jk, jk, jk, jk, jk, jk, jk, jk, jk, jk, jk, jk, jk, jk, jk, jk,
  jk, jk, jk, jk, jk, jk, jk, jk, jk, jk, jk, jk, jk, jk, jk, jk, jk, jk, jk, jk, jk, jk,
  jk, jk, jk, jk, jk, jk, jk, jk, jk, jk, jk, jk, jk, jk, jk, jk, jk, jk, jk, jk, jk, jk,
  jk, jk, jk, jk, jk, jk, jk, jk, jk, jk, jk, jk, jk, jk, jk, jk, jk, jk, jk, jk, jk, jk,
  jk, jk, jk, jk]
  [some (Blk.mk (3) false false true (Data.ints IntKind.i64 widths)), some (Blk.mk (3) false false true (Data.ints IntKind.i64 values)),
  some (Blk.mk (3) false false true (Data.ints IntKind.i64 words)),
  some
  (Blk.mk (3) true (decide ((fieldsL widths (splitL widths words)) = [])) true
  (Data.ints IntKind.i64 (fieldsL widths (splitL widths words))))])
  (St.mk
  [jk, jk, AV.sl zwords (Ref.mk (2) (0) (0) (0)) false (List.length words) Cap.any, jk, jk, jk, jk, jk, jk, jk, jk,
  jk, jk,
  AV.sl (decide (fieldsL widths (splitL widths words) = [])) (Ref.mk (3) (0) (0) (0)) false (List.length (fieldsL widths (splitL widths words)))
  Cap.own,
  jk, AV.int IntKind.i64 false (sizeZ widths), AV.int IntKind.i64 false (sumI widths), jk, AV.int IntKind.i64 false (0 : Int), jk, jk, jk, jk, jk, jk,
  jk, jk, jk, jk, jk, jk, jk, jk, jk, jk, jk, jk, jk, jk, jk, jk, jk, jk, jk, jk, jk, jk,
  jk, jk, jk, jk, jk, jk, jk, jk, jk, jk, jk, jk, jk, jk, jk, jk, jk, jk, jk, jk, jk, jk,
  jk, jk, jk, jk, jk, jk, jk, jk, jk, jk, jk, jk, jk, jk, jk, jk, jk, jk, jk, jk, jk, jk,
  jk, jk, jk, jk, jk, jk, jk, jk, jk, jk, jk, jk, jk, jk, jk, jk, jk, jk, jk, jk, jk, jk,
  jk, jk, jk, jk, jk, jk, jk, jk, jk, jk, jk, jk, jk, jk, jk, jk, jk, jk, jk, jk, jk, jk,
  jk, jk, jk, jk]
  [some (Blk.mk (3) false false true (Data.ints IntKind.i64 widths)), some (Blk.mk (3) false false true (Data.ints IntKind.i64 values)),
  some (Blk.mk (3) false false true (Data.ints IntKind.i64 words)),
  some (Blk.mk (3) true (decide (fieldsL widths (splitL widths words) = [])) true (Data.ints IntKind.i64 (fieldsL widths (splitL widths words))))]))
  (Tree.chk (okPackFull_1 (XPackFull_1.mk widths values zwords words (Int.toNat (0 : Int))))
  (Tree.ret
  (AV.bool true true,
  [some (Blk.mk (3) false false true (Data.ints IntKind.i64 widths)), some (Blk.mk (3) false false true (Data.ints IntKind.i64 values)),
  some (Blk.mk (3) false false true (Data.ints IntKind.i64 words))]))))))))))))))))))) : Tree (AV × Mem)).GivesP (.bool false true) ([some ⟨3, false, false, true, .ints .i64 widths⟩, some ⟨3, false, false, true, .ints .i64 values⟩, some ⟨3, false, false, true, .ints .i64 words⟩]) := by
  obtain ⟨l1, z1, l2, z2, l3, z3, wv, ww, wd⟩ := hw
  have fl := fieldsL_len widths values
  have sl := splitL_len widths words
  have fl3 := fieldsL_len widths (splitL widths words)
  have sl3 := splitL_len widths (fieldsL widths values ++ [9])
  have fl2 := fl.2
  have sl2 := sl.2
  have pg := put_got (ws := widths) (vs := values)
  have gp := got_put (ws := widths) (l := words)
  have swf := splitL_wf widths words
  have eA : List.take ((fieldsL widths values).length + 1) (fieldsL widths values ++ [9]) = fieldsL widths values ++ [9] := List.take_of_length_le (by rw [List.length_append]; simp)
  have eL : (fieldsL widths values ++ [9]).length = (fieldsL widths values).length + 1 := by rw [List.length_append]; rfl
  simp only [List.take_length, List.drop_zero, eA]
  refine Tree.GivesP.chk (by first | (simp only [and_self]; done) | (first | ((repeat' with_reducible refine And.intro ?_ ?_) <;> first | trivial | omega | assumption | (rw [eL]; omega) | (simp only [short]; rw [eL]; omega) | (simp only [short]; omega) | (intro hh; first | cases hh | simpa using hh | (simp at hh; simp [hh]) | (simp at hh; exact hh) | exact fl2 (by simpa using hh) | exact sl2 (by simpa using hh))) | skip)) ?_
  refine Tree.GivesP.br (fun h1 => ?_) (fun h1 => ?_)
  · (try simp only [decide_eq_true_eq, decide_eq_false_iff_not, Bool.not_eq_true', Bool.not_eq_false', beq_iff_eq, beq_eq_false_iff_ne, Int.not_lt, Int.not_le, ge_iff_le, gt_iff_lt, ne_eq, Bool.false_eq_true, Bool.true_eq_false, not_true_eq_false, not_false_eq_true, Bool.and_eq_true, Bool.not_eq_eq_eq_not, Bool.not_true, Bool.not_false, bne_iff_ne, bne_eq_false_iff_eq, Int.toNat_natCast, Nat.mul_one, Nat.add_zero, Nat.zero_add, List.take_length, List.drop_zero] at h1)
    all_goals
      refine Tree.GivesP.ret ?_ ?_
      · first | (simp only [AV.le]; done) | (simp only [AV.le, sl2 (by assumption)]; first | done | rfl | decide) | (exfalso; have g := gp (by assumption); obtain ⟨g1, g2, g3, g4, g5⟩ := g; omega) | (exfalso; have g := gp (by assumption); obtain ⟨g1, g2, g3, g4, g5⟩ := g; contradiction) | (exfalso; have p := pg (by assumption); simp_all; done)
      · simp only [AV.leL, AV.le, Mem.le, Mem.leP, Blk.le, Blk.pad, Data.le, Data.size, Cap.le, and_true, true_and, and_self, true_implies, implies_true, imp_self, List.length_nil]
  · (try simp only [decide_eq_true_eq, decide_eq_false_iff_not, Bool.not_eq_true', Bool.not_eq_false', beq_iff_eq, beq_eq_false_iff_ne, Int.not_lt, Int.not_le, ge_iff_le, gt_iff_lt, ne_eq, Bool.false_eq_true, Bool.true_eq_false, not_true_eq_false, not_false_eq_true, Bool.and_eq_true, Bool.not_eq_eq_eq_not, Bool.not_true, Bool.not_false, bne_iff_ne, bne_eq_false_iff_eq, Int.toNat_natCast, Nat.mul_one, Nat.add_zero, Nat.zero_add, List.take_length, List.drop_zero] at h1)
    all_goals
      refine Tree.GivesP.br (fun h2 => ?_) (fun h2 => ?_)
      · (try simp only [decide_eq_true_eq, decide_eq_false_iff_not, Bool.not_eq_true', Bool.not_eq_false', beq_iff_eq, beq_eq_false_iff_ne, Int.not_lt, Int.not_le, ge_iff_le, gt_iff_lt, ne_eq, Bool.false_eq_true, Bool.true_eq_false, not_true_eq_false, not_false_eq_true, Bool.and_eq_true, Bool.not_eq_eq_eq_not, Bool.not_true, Bool.not_false, bne_iff_ne, bne_eq_false_iff_eq, Int.toNat_natCast, Nat.mul_one, Nat.add_zero, Nat.zero_add, List.take_length, List.drop_zero] at h2)
        all_goals
          refine Tree.GivesP.ret ?_ ?_
          · first | (simp only [AV.le]; done) | (simp only [AV.le, sl2 (by assumption)]; first | done | rfl | decide) | (exfalso; have g := gp (by assumption); obtain ⟨g1, g2, g3, g4, g5⟩ := g; omega) | (exfalso; have g := gp (by assumption); obtain ⟨g1, g2, g3, g4, g5⟩ := g; contradiction) | (exfalso; have p := pg (by assumption); simp_all; done)
          · simp only [AV.leL, AV.le, Mem.le, Mem.leP, Blk.le, Blk.pad, Data.le, Data.size, Cap.le, and_true, true_and, and_self, true_implies, implies_true, imp_self, List.length_nil]
      · (try simp only [decide_eq_true_eq, decide_eq_false_iff_not, Bool.not_eq_true', Bool.not_eq_false', beq_iff_eq, beq_eq_false_iff_ne, Int.not_lt, Int.not_le, ge_iff_le, gt_iff_lt, ne_eq, Bool.false_eq_true, Bool.true_eq_false, not_true_eq_false, not_false_eq_true, Bool.and_eq_true, Bool.not_eq_eq_eq_not, Bool.not_true, Bool.not_false, bne_iff_ne, bne_eq_false_iff_eq, Int.toNat_natCast, Nat.mul_one, Nat.add_zero, Nat.zero_add, List.take_length, List.drop_zero] at h2)
        all_goals
          refine Tree.GivesP.br (fun h3 => ?_) (fun h3 => ?_)
          · (try simp only [decide_eq_true_eq, decide_eq_false_iff_not, Bool.not_eq_true', Bool.not_eq_false', beq_iff_eq, beq_eq_false_iff_ne, Int.not_lt, Int.not_le, ge_iff_le, gt_iff_lt, ne_eq, Bool.false_eq_true, Bool.true_eq_false, not_true_eq_false, not_false_eq_true, Bool.and_eq_true, Bool.not_eq_eq_eq_not, Bool.not_true, Bool.not_false, bne_iff_ne, bne_eq_false_iff_eq, Int.toNat_natCast, Nat.mul_one, Nat.add_zero, Nat.zero_add, List.take_length, List.drop_zero] at h3)
            all_goals
              refine Tree.GivesP.ret ?_ ?_
              · first | (simp only [AV.le]; done) | (simp only [AV.le, sl2 (by assumption)]; first | done | rfl | decide) | (exfalso; have g := gp (by assumption); obtain ⟨g1, g2, g3, g4, g5⟩ := g; omega) | (exfalso; have g := gp (by assumption); obtain ⟨g1, g2, g3, g4, g5⟩ := g; contradiction) | (exfalso; have p := pg (by assumption); simp_all; done)
              · simp only [AV.leL, AV.le, Mem.le, Mem.leP, Blk.le, Blk.pad, Data.le, Data.size, Cap.le, and_true, true_and, and_self, true_implies, implies_true, imp_self, List.length_nil]
          · (try simp only [decide_eq_true_eq, decide_eq_false_iff_not, Bool.not_eq_true', Bool.not_eq_false', beq_iff_eq, beq_eq_false_iff_ne, Int.not_lt, Int.not_le, ge_iff_le, gt_iff_lt, ne_eq, Bool.false_eq_true, Bool.true_eq_false, not_true_eq_false, not_false_eq_true, Bool.and_eq_true, Bool.not_eq_eq_eq_not, Bool.not_true, Bool.not_false, bne_iff_ne, bne_eq_false_iff_eq, Int.toNat_natCast, Nat.mul_one, Nat.add_zero, Nat.zero_add, List.take_length, List.drop_zero] at h3)
            all_goals
              refine Tree.GivesP.br (fun h4 => ?_) (fun h4 => ?_)
              · (try simp only [decide_eq_true_eq, decide_eq_false_iff_not, Bool.not_eq_true', Bool.not_eq_false', beq_iff_eq, beq_eq_false_iff_ne, Int.not_lt, Int.not_le, ge_iff_le, gt_iff_lt, ne_eq, Bool.false_eq_true, Bool.true_eq_false, not_true_eq_false, not_false_eq_true, Bool.and_eq_true, Bool.not_eq_eq_eq_not, Bool.not_true, Bool.not_false, bne_iff_ne, bne_eq_false_iff_eq, Int.toNat_natCast, Nat.mul_one, Nat.add_zero, Nat.zero_add, List.take_length, List.drop_zero] at h4)
                all_goals
                  refine Tree.GivesP.ret ?_ ?_
                  · first | (simp only [AV.le]; done) | (simp only [AV.le, sl2 (by assumption)]; first | done | rfl | decide) | (exfalso; have g := gp (by assumption); obtain ⟨g1, g2, g3, g4, g5⟩ := g; omega) | (exfalso; have g := gp (by assumption); obtain ⟨g1, g2, g3, g4, g5⟩ := g; contradiction) | (exfalso; have p := pg (by assumption); simp_all; done)
                  · simp only [AV.leL, AV.le, Mem.le, Mem.leP, Blk.le, Blk.pad, Data.le, Data.size, Cap.le, and_true, true_and, and_self, true_implies, implies_true, imp_self, List.length_nil]
              · (try simp only [decide_eq_true_eq, decide_eq_false_iff_not, Bool.not_eq_true', Bool.not_eq_false', beq_iff_eq, beq_eq_false_iff_ne, Int.not_lt, Int.not_le, ge_iff_le, gt_iff_lt, ne_eq, Bool.false_eq_true, Bool.true_eq_false, not_true_eq_false, not_false_eq_true, Bool.and_eq_true, Bool.not_eq_eq_eq_not, Bool.not_true, Bool.not_false, bne_iff_ne, bne_eq_false_iff_eq, Int.toNat_natCast, Nat.mul_one, Nat.add_zero, Nat.zero_add, List.take_length, List.drop_zero] at h4)
                all_goals
                  refine Tree.GivesP.chk (by first | (simp only [and_self]; done) | (first | ((repeat' with_reducible refine And.intro ?_ ?_) <;> first | trivial | omega | assumption | (rw [eL]; omega) | (simp only [short]; rw [eL]; omega) | (simp only [short]; omega) | (intro hh; first | cases hh | simpa using hh | (simp at hh; simp [hh]) | (simp at hh; exact hh) | exact fl2 (by simpa using hh) | exact sl2 (by simpa using hh))) | skip)) ?_
                  refine Tree.GivesP.br (fun h5 => ?_) (fun h5 => ?_)
                  · (try simp only [decide_eq_true_eq, decide_eq_false_iff_not, Bool.not_eq_true', Bool.not_eq_false', beq_iff_eq, beq_eq_false_iff_ne, Int.not_lt, Int.not_le, ge_iff_le, gt_iff_lt, ne_eq, Bool.false_eq_true, Bool.true_eq_false, not_true_eq_false, not_false_eq_true, Bool.and_eq_true, Bool.not_eq_eq_eq_not, Bool.not_true, Bool.not_false, bne_iff_ne, bne_eq_false_iff_eq, Int.toNat_natCast, Nat.mul_one, Nat.add_zero, Nat.zero_add, List.take_length, List.drop_zero] at h5)
                    all_goals
                      refine Tree.GivesP.chk (by first | (simp only [and_self]; done) | (first | ((repeat' with_reducible refine And.intro ?_ ?_) <;> first | trivial | omega | assumption | (rw [eL]; omega) | (simp only [short]; rw [eL]; omega) | (simp only [short]; omega) | (intro hh; first | cases hh | simpa using hh | (simp at hh; simp [hh]) | (simp at hh; exact hh) | exact fl2 (by simpa using hh) | exact sl2 (by simpa using hh))) | skip)) ?_
                      refine Tree.GivesP.br (fun h6 => ?_) (fun h6 => ?_)
                      · (try simp only [decide_eq_true_eq, decide_eq_false_iff_not, Bool.not_eq_true', Bool.not_eq_false', beq_iff_eq, beq_eq_false_iff_ne, Int.not_lt, Int.not_le, ge_iff_le, gt_iff_lt, ne_eq, Bool.false_eq_true, Bool.true_eq_false, not_true_eq_false, not_false_eq_true, Bool.and_eq_true, Bool.not_eq_eq_eq_not, Bool.not_true, Bool.not_false, bne_iff_ne, bne_eq_false_iff_eq, Int.toNat_natCast, Nat.mul_one, Nat.add_zero, Nat.zero_add, List.take_length, List.drop_zero] at h6)
                        all_goals
                          refine Tree.GivesP.br (fun h7 => ?_) (fun h7 => ?_)
                          · (try simp only [decide_eq_true_eq, decide_eq_false_iff_not, Bool.not_eq_true', Bool.not_eq_false', beq_iff_eq, beq_eq_false_iff_ne, Int.not_lt, Int.not_le, ge_iff_le, gt_iff_lt, ne_eq, Bool.false_eq_true, Bool.true_eq_false, not_true_eq_false, not_false_eq_true, Bool.and_eq_true, Bool.not_eq_eq_eq_not, Bool.not_true, Bool.not_false, bne_iff_ne, bne_eq_false_iff_eq, Int.toNat_natCast, Nat.mul_one, Nat.add_zero, Nat.zero_add, List.take_length, List.drop_zero] at h7)
                            all_goals
                              refine Tree.GivesP.chk (by first | (simp only [and_self]; done) | (first | ((repeat' with_reducible refine And.intro ?_ ?_) <;> first | trivial | omega | assumption | (rw [eL]; omega) | (simp only [short]; rw [eL]; omega) | (simp only [short]; omega) | (intro hh; first | cases hh | simpa using hh | (simp at hh; simp [hh]) | (simp at hh; exact hh) | exact fl2 (by simpa using hh) | exact sl2 (by simpa using hh))) | skip)) ?_
                              refine Tree.GivesP.br (fun h8 => ?_) (fun h8 => ?_)
                              · (try simp only [decide_eq_true_eq, decide_eq_false_iff_not, Bool.not_eq_true', Bool.not_eq_false', beq_iff_eq, beq_eq_false_iff_ne, Int.not_lt, Int.not_le, ge_iff_le, gt_iff_lt, ne_eq, Bool.false_eq_true, Bool.true_eq_false, not_true_eq_false, not_false_eq_true, Bool.and_eq_true, Bool.not_eq_eq_eq_not, Bool.not_true, Bool.not_false, bne_iff_ne, bne_eq_false_iff_eq, Int.toNat_natCast, Nat.mul_one, Nat.add_zero, Nat.zero_add, List.take_length, List.drop_zero] at h8)
                                all_goals
                                  refine Tree.GivesP.ret ?_ ?_
                                  all_goals exfalso
                                  all_goals have p := pg (by assumption)
                                  all_goals simp_all
                              · (try simp only [decide_eq_true_eq, decide_eq_false_iff_not, Bool.not_eq_true', Bool.not_eq_false', beq_iff_eq, beq_eq_false_iff_ne, Int.not_lt, Int.not_le, ge_iff_le, gt_iff_lt, ne_eq, Bool.false_eq_true, Bool.true_eq_false, not_true_eq_false, not_false_eq_true, Bool.and_eq_true, Bool.not_eq_eq_eq_not, Bool.not_true, Bool.not_false, bne_iff_ne, bne_eq_false_iff_eq, Int.toNat_natCast, Nat.mul_one, Nat.add_zero, Nat.zero_add, List.take_length, List.drop_zero] at h8)
                                all_goals
                                  refine Tree.GivesP.chk (by first | (simp only [and_self]; done) | (first | ((repeat' with_reducible refine And.intro ?_ ?_) <;> first | trivial | omega | assumption | (rw [eL]; omega) | (simp only [short]; rw [eL]; omega) | (simp only [short]; omega) | (intro hh; first | cases hh | simpa using hh | (simp at hh; simp [hh]) | (simp at hh; exact hh) | exact fl2 (by simpa using hh) | exact sl2 (by simpa using hh))) | skip)) ?_
                                  refine Tree.GivesP.br (fun h9 => ?_) (fun h9 => ?_)
                                  · (try simp only [decide_eq_true_eq, decide_eq_false_iff_not, Bool.not_eq_true', Bool.not_eq_false', beq_iff_eq, beq_eq_false_iff_ne, Int.not_lt, Int.not_le, ge_iff_le, gt_iff_lt, ne_eq, Bool.false_eq_true, Bool.true_eq_false, not_true_eq_false, not_false_eq_true, Bool.and_eq_true, Bool.not_eq_eq_eq_not, Bool.not_true, Bool.not_false, bne_iff_ne, bne_eq_false_iff_eq, Int.toNat_natCast, Nat.mul_one, Nat.add_zero, Nat.zero_add, List.take_length, List.drop_zero] at h9)
                                    all_goals
                                      refine Tree.GivesP.ret ?_ ?_
                                      all_goals exfalso
                                      all_goals have p := pg (by assumption)
                                      all_goals simp_all
                                  · (try simp only [decide_eq_true_eq, decide_eq_false_iff_not, Bool.not_eq_true', Bool.not_eq_false', beq_iff_eq, beq_eq_false_iff_ne, Int.not_lt, Int.not_le, ge_iff_le, gt_iff_lt, ne_eq, Bool.false_eq_true, Bool.true_eq_false, not_true_eq_false, not_false_eq_true, Bool.and_eq_true, Bool.not_eq_eq_eq_not, Bool.not_true, Bool.not_false, bne_iff_ne, bne_eq_false_iff_eq, Int.toNat_natCast, Nat.mul_one, Nat.add_zero, Nat.zero_add, List.take_length, List.drop_zero] at h9)
                                    all_goals
                                      refine Tree.GivesP.chk (by first | (simp only [and_self]; done) | (first | ((repeat' with_reducible refine And.intro ?_ ?_) <;> first | trivial | omega | assumption | (rw [eL]; omega) | (simp only [short]; rw [eL]; omega) | (simp only [short]; omega) | (intro hh; first | cases hh | simpa using hh | (simp at hh; simp [hh]) | (simp at hh; exact hh) | exact fl2 (by simpa using hh) | exact sl2 (by simpa using hh))) | skip)) ?_
                                      refine Tree.GivesP.br (fun h10 => ?_) (fun h10 => ?_)
                                      · (try simp only [decide_eq_true_eq, decide_eq_false_iff_not, Bool.not_eq_true', Bool.not_eq_false', beq_iff_eq, beq_eq_false_iff_ne, Int.not_lt, Int.not_le, ge_iff_le, gt_iff_lt, ne_eq, Bool.false_eq_true, Bool.true_eq_false, not_true_eq_false, not_false_eq_true, Bool.and_eq_true, Bool.not_eq_eq_eq_not, Bool.not_true, Bool.not_false, bne_iff_ne, bne_eq_false_iff_eq, Int.toNat_natCast, Nat.mul_one, Nat.add_zero, Nat.zero_add, List.take_length, List.drop_zero] at h10)
                                        all_goals
                                          refine Tree.GivesP.ret ?_ ?_
                                          · first | (simp only [AV.le]; done) | (simp only [AV.le, sl2 (by assumption)]; first | done | rfl | decide) | (exfalso; have g := gp (by assumption); obtain ⟨g1, g2, g3, g4, g5⟩ := g; omega) | (exfalso; have g := gp (by assumption); obtain ⟨g1, g2, g3, g4, g5⟩ := g; contradiction) | (exfalso; have p := pg (by assumption); simp_all; done)
                                          · simp only [AV.leL, AV.le, Mem.le, Mem.leP, Blk.le, Blk.pad, Data.le, Data.size, Cap.le, and_true, true_and, and_self, true_implies, implies_true, imp_self, List.length_nil]
                                      · (try simp only [decide_eq_true_eq, decide_eq_false_iff_not, Bool.not_eq_true', Bool.not_eq_false', beq_iff_eq, beq_eq_false_iff_ne, Int.not_lt, Int.not_le, ge_iff_le, gt_iff_lt, ne_eq, Bool.false_eq_true, Bool.true_eq_false, not_true_eq_false, not_false_eq_true, Bool.and_eq_true, Bool.not_eq_eq_eq_not, Bool.not_true, Bool.not_false, bne_iff_ne, bne_eq_false_iff_eq, Int.toNat_natCast, Nat.mul_one, Nat.add_zero, Nat.zero_add, List.take_length, List.drop_zero] at h10)
                                        all_goals
                                          refine Tree.GivesP.chk (by first | (simp only [and_self]; done) | (first | ((repeat' with_reducible refine And.intro ?_ ?_) <;> first | trivial | omega | assumption | (rw [eL]; omega) | (simp only [short]; rw [eL]; omega) | (simp only [short]; omega) | (intro hh; first | cases hh | simpa using hh | (simp at hh; simp [hh]) | (simp at hh; exact hh) | exact fl2 (by simpa using hh) | exact sl2 (by simpa using hh))) | skip)) ?_
                                          refine Tree.GivesP.chk (by first | (simp only [and_self]; done) | (first | ((repeat' with_reducible refine And.intro ?_ ?_) <;> first | trivial | omega | assumption | (rw [eL]; omega) | (simp only [short]; rw [eL]; omega) | (simp only [short]; omega) | (intro hh; first | cases hh | simpa using hh | (simp at hh; simp [hh]) | (simp at hh; exact hh) | exact fl2 (by simpa using hh) | exact sl2 (by simpa using hh))) | skip)) ?_
                                          refine Tree.GivesP.chk (by first | (simp only [and_self]; done) | (constructor <;> simp only [hdPackFull_0, Int.toNat_zero, Int.cast_ofNat_Int, AV.leL, AV.le, Mem.le, Mem.leP, Blk.le, Blk.pad, Data.le, Data.size, Cap.le, and_true, true_and, and_self, true_implies, implies_true, imp_self, List.length_nil] <;> (repeat' with_reducible refine And.intro ?_ ?_) <;> first | rfl | trivial | (change @Decidable.decide (_ = ([] : List Int)) (List.instDecidableEqNil _) = _; simp only [List.take_length, List.drop_zero]) | omega)) ?_
                                          refine Tree.GivesP.chk (by first | (simp only [and_self]; done) | (exact ⟨by assumption, by omega, by omega, z1, z3, Nat.zero_le _⟩)) ?_
                                          refine Tree.GivesP.br (fun h11 => ?_) (fun h11 => ?_)
                                          · (try simp only [decide_eq_true_eq, decide_eq_false_iff_not, Bool.not_eq_true', Bool.not_eq_false', beq_iff_eq, beq_eq_false_iff_ne, Int.not_lt, Int.not_le, ge_iff_le, gt_iff_lt, ne_eq, Bool.false_eq_true, Bool.true_eq_false, not_true_eq_false, not_false_eq_true, Bool.and_eq_true, Bool.not_eq_eq_eq_not, Bool.not_true, Bool.not_false, bne_iff_ne, bne_eq_false_iff_eq, Int.toNat_natCast, Nat.mul_one, Nat.add_zero, Nat.zero_add, List.take_length, List.drop_zero] at h11)
                                            all_goals
                                              refine Tree.GivesP.ret ?_ ?_
                                              · first | (simp only [AV.le]; done) | (simp only [AV.le, sl2 (by assumption)]; first | done | rfl | decide) | (exfalso; have g := gp (by assumption); obtain ⟨g1, g2, g3, g4, g5⟩ := g; omega) | (exfalso; have g := gp (by assumption); obtain ⟨g1, g2, g3, g4, g5⟩ := g; contradiction) | (exfalso; have p := pg (by assumption); simp_all; done)
                                              · simp only [AV.leL, AV.le, Mem.le, Mem.leP, Blk.le, Blk.pad, Data.le, Data.size, Cap.le, and_true, true_and, and_self, true_implies, implies_true, imp_self, List.length_nil]
                                          · (try simp only [decide_eq_true_eq, decide_eq_false_iff_not, Bool.not_eq_true', Bool.not_eq_false', beq_iff_eq, beq_eq_false_iff_ne, Int.not_lt, Int.not_le, ge_iff_le, gt_iff_lt, ne_eq, Bool.false_eq_true, Bool.true_eq_false, not_true_eq_false, not_false_eq_true, Bool.and_eq_true, Bool.not_eq_eq_eq_not, Bool.not_true, Bool.not_false, bne_iff_ne, bne_eq_false_iff_eq, Int.toNat_natCast, Nat.mul_one, Nat.add_zero, Nat.zero_add, List.take_length, List.drop_zero] at h11)
                                            all_goals
                                              refine Tree.GivesP.br (fun h12 => ?_) (fun h12 => ?_)
                                              · (try simp only [decide_eq_true_eq, decide_eq_false_iff_not, Bool.not_eq_true', Bool.not_eq_false', beq_iff_eq, beq_eq_false_iff_ne, Int.not_lt, Int.not_le, ge_iff_le, gt_iff_lt, ne_eq, Bool.false_eq_true, Bool.true_eq_false, not_true_eq_false, not_false_eq_true, Bool.and_eq_true, Bool.not_eq_eq_eq_not, Bool.not_true, Bool.not_false, bne_iff_ne, bne_eq_false_iff_eq, Int.toNat_natCast, Nat.mul_one, Nat.add_zero, Nat.zero_add, List.take_length, List.drop_zero] at h12)
                                                all_goals
                                                  refine Tree.GivesP.ret ?_ ?_
                                                  · first | (simp only [AV.le]; done) | (simp only [AV.le, sl2 (by assumption)]; first | done | rfl | decide) | (exfalso; have g := gp (by assumption); obtain ⟨g1, g2, g3, g4, g5⟩ := g; omega) | (exfalso; have g := gp (by assumption); obtain ⟨g1, g2, g3, g4, g5⟩ := g; contradiction) | (exfalso; have p := pg (by assumption); simp_all; done)
                                                  · simp only [AV.leL, AV.le, Mem.le, Mem.leP, Blk.le, Blk.pad, Data.le, Data.size, Cap.le, and_true, true_and, and_self, true_implies, implies_true, imp_self, List.length_nil]
                                              · (try simp only [decide_eq_true_eq, decide_eq_false_iff_not, Bool.not_eq_true', Bool.not_eq_false', beq_iff_eq, beq_eq_false_iff_ne, Int.not_lt, Int.not_le, ge_iff_le, gt_iff_lt, ne_eq, Bool.false_eq_true, Bool.true_eq_false, not_true_eq_false, not_false_eq_true, Bool.and_eq_true, Bool.not_eq_eq_eq_not, Bool.not_true, Bool.not_false, bne_iff_ne, bne_eq_false_iff_eq, Int.toNat_natCast, Nat.mul_one, Nat.add_zero, Nat.zero_add, List.take_length, List.drop_zero] at h12)
                                                all_goals
                                                  refine Tree.GivesP.br (fun h13 => ?_) (fun h13 => ?_)
                                                  · (try simp only [decide_eq_true_eq, decide_eq_false_iff_not, Bool.not_eq_true', Bool.not_eq_false', beq_iff_eq, beq_eq_false_iff_ne, Int.not_lt, Int.not_le, ge_iff_le, gt_iff_lt, ne_eq, Bool.false_eq_true, Bool.true_eq_false, not_true_eq_false, not_false_eq_true, Bool.and_eq_true, Bool.not_eq_eq_eq_not, Bool.not_true, Bool.not_false, bne_iff_ne, bne_eq_false_iff_eq, Int.toNat_natCast, Nat.mul_one, Nat.add_zero, Nat.zero_add, List.take_length, List.drop_zero] at h13)
                                                    all_goals
                                                      refine Tree.GivesP.ret ?_ ?_
                                                      · first | (simp only [AV.le]; done) | (simp only [AV.le, sl2 (by assumption)]; first | done | rfl | decide) | (exfalso; have g := gp (by assumption); obtain ⟨g1, g2, g3, g4, g5⟩ := g; omega) | (exfalso; have g := gp (by assumption); obtain ⟨g1, g2, g3, g4, g5⟩ := g; contradiction) | (exfalso; have p := pg (by assumption); simp_all; done)
                                                      · simp only [AV.leL, AV.le, Mem.le, Mem.leP, Blk.le, Blk.pad, Data.le, Data.size, Cap.le, and_true, true_and, and_self, true_implies, implies_true, imp_self, List.length_nil]
                                                  · (try simp only [decide_eq_true_eq, decide_eq_false_iff_not, Bool.not_eq_true', Bool.not_eq_false', beq_iff_eq, beq_eq_false_iff_ne, Int.not_lt, Int.not_le, ge_iff_le, gt_iff_lt, ne_eq, Bool.false_eq_true, Bool.true_eq_false, not_true_eq_false, not_false_eq_true, Bool.and_eq_true, Bool.not_eq_eq_eq_not, Bool.not_true, Bool.not_false, bne_iff_ne, bne_eq_false_iff_eq, Int.toNat_natCast, Nat.mul_one, Nat.add_zero, Nat.zero_add, List.take_length, List.drop_zero] at h13)
                                                    all_goals
                                                      refine Tree.GivesP.chk (by first | (simp only [and_self]; done) | (constructor <;> simp only [hdPackFull_1, Int.toNat_zero, Int.cast_ofNat_Int, AV.leL, AV.le, Mem.le, Mem.leP, Blk.le, Blk.pad, Data.le, Data.size, Cap.le, and_true, true_and, and_self, true_implies, implies_true, imp_self, List.length_nil] <;> (repeat' with_reducible refine And.intro ?_ ?_) <;> first | rfl | trivial | (change @Decidable.decide (_ = ([] : List Int)) (List.instDecidableEqNil _) = _; simp only [List.take_length, List.drop_zero]) | omega)) ?_
                                                      refine Tree.GivesP.chk (by first | (simp only [and_self]; done) | (exact ⟨by assumption, by omega, by omega, z3, by have := size_small (gp (by assumption)).1; omega⟩)) ?_
                                                      refine Tree.GivesP.ret ?_ ?_
                                                      · first | (simp only [AV.le]; done) | (simp only [AV.le, sl2 (by assumption)]; first | done | rfl | decide) | (exfalso; have g := gp (by assumption); obtain ⟨g1, g2, g3, g4, g5⟩ := g; omega) | (exfalso; have g := gp (by assumption); obtain ⟨g1, g2, g3, g4, g5⟩ := g; contradiction) | (exfalso; have p := pg (by assumption); simp_all; done)
                                                      · simp only [AV.leL, AV.le, Mem.le, Mem.leP, Blk.le, Blk.pad, Data.le, Data.size, Cap.le, and_true, true_and, and_self, true_implies, implies_true, imp_self, List.length_nil]
                          · (try simp only [decide_eq_true_eq, decide_eq_false_iff_not, Bool.not_eq_true', Bool.not_eq_false', beq_iff_eq, beq_eq_false_iff_ne, Int.not_lt, Int.not_le, ge_iff_le, gt_iff_lt, ne_eq, Bool.false_eq_true, Bool.true_eq_false, not_true_eq_false, not_false_eq_true, Bool.and_eq_true, Bool.not_eq_eq_eq_not, Bool.not_true, Bool.not_false, bne_iff_ne, bne_eq_false_iff_eq, Int.toNat_natCast, Nat.mul_one, Nat.add_zero, Nat.zero_add, List.take_length, List.drop_zero] at h7)
                            all_goals
                              exfalso
                              rw [Bool.and_eq_false_iff] at h7
                              rcases h7 with h7 | h7
                              · rw [decide_eq_false_iff_not] at h7
                                exact h7 ⟨by first | rfl | (simp only [Data.size]; omega), by first | rfl | kernel_rfl⟩
                              · exact absurd h7 (by simp)
                      · (try simp only [decide_eq_true_eq, decide_eq_false_iff_not, Bool.not_eq_true', Bool.not_eq_false', beq_iff_eq, beq_eq_false_iff_ne, Int.not_lt, Int.not_le, ge_iff_le, gt_iff_lt, ne_eq, Bool.false_eq_true, Bool.true_eq_false, not_true_eq_false, not_false_eq_true, Bool.and_eq_true, Bool.not_eq_eq_eq_not, Bool.not_true, Bool.not_false, bne_iff_ne, bne_eq_false_iff_eq, Int.toNat_natCast, Nat.mul_one, Nat.add_zero, Nat.zero_add, List.take_length, List.drop_zero] at h6)
                        all_goals
                          exfalso
                          simp [most48] at h6
                          omega
                  · (try simp only [decide_eq_true_eq, decide_eq_false_iff_not, Bool.not_eq_true', Bool.not_eq_false', beq_iff_eq, beq_eq_false_iff_ne, Int.not_lt, Int.not_le, ge_iff_le, gt_iff_lt, ne_eq, Bool.false_eq_true, Bool.true_eq_false, not_true_eq_false, not_false_eq_true, Bool.and_eq_true, Bool.not_eq_eq_eq_not, Bool.not_true, Bool.not_false, bne_iff_ne, bne_eq_false_iff_eq, Int.toNat_natCast, Nat.mul_one, Nat.add_zero, Nat.zero_add, List.take_length, List.drop_zero] at h5)
                    all_goals
                      refine Tree.GivesP.chk (by first | (simp only [and_self]; done) | (first | ((repeat' with_reducible refine And.intro ?_ ?_) <;> first | trivial | omega | assumption | (rw [eL]; omega) | (simp only [short]; rw [eL]; omega) | (simp only [short]; omega) | (intro hh; first | cases hh | simpa using hh | (simp at hh; simp [hh]) | (simp at hh; exact hh) | exact fl2 (by simpa using hh) | exact sl2 (by simpa using hh))) | skip)) ?_
                      refine Tree.GivesP.br (fun h6 => ?_) (fun h6 => ?_)
                      · (try simp only [decide_eq_true_eq, decide_eq_false_iff_not, Bool.not_eq_true', Bool.not_eq_false', beq_iff_eq, beq_eq_false_iff_ne, Int.not_lt, Int.not_le, ge_iff_le, gt_iff_lt, ne_eq, Bool.false_eq_true, Bool.true_eq_false, not_true_eq_false, not_false_eq_true, Bool.and_eq_true, Bool.not_eq_eq_eq_not, Bool.not_true, Bool.not_false, bne_iff_ne, bne_eq_false_iff_eq, Int.toNat_natCast, Nat.mul_one, Nat.add_zero, Nat.zero_add, List.take_length, List.drop_zero] at h6)
                        all_goals
                          refine Tree.GivesP.ret ?_ ?_
                          · first | (simp only [AV.le]; done) | (simp only [AV.le, sl2 (by assumption)]; first | done | rfl | decide) | (exfalso; have g := gp (by assumption); obtain ⟨g1, g2, g3, g4, g5⟩ := g; omega) | (exfalso; have g := gp (by assumption); obtain ⟨g1, g2, g3, g4, g5⟩ := g; contradiction) | (exfalso; have p := pg (by assumption); simp_all; done)
                          · simp only [AV.leL, AV.le, Mem.le, Mem.leP, Blk.le, Blk.pad, Data.le, Data.size, Cap.le, and_true, true_and, and_self, true_implies, implies_true, imp_self, List.length_nil]
                      · (try simp only [decide_eq_true_eq, decide_eq_false_iff_not, Bool.not_eq_true', Bool.not_eq_false', beq_iff_eq, beq_eq_false_iff_ne, Int.not_lt, Int.not_le, ge_iff_le, gt_iff_lt, ne_eq, Bool.false_eq_true, Bool.true_eq_false, not_true_eq_false, not_false_eq_true, Bool.and_eq_true, Bool.not_eq_eq_eq_not, Bool.not_true, Bool.not_false, bne_iff_ne, bne_eq_false_iff_eq, Int.toNat_natCast, Nat.mul_one, Nat.add_zero, Nat.zero_add, List.take_length, List.drop_zero] at h6)
                        all_goals
                          refine Tree.GivesP.chk (by first | (simp only [and_self]; done) | (first | ((repeat' with_reducible refine And.intro ?_ ?_) <;> first | trivial | omega | assumption | (rw [eL]; omega) | (simp only [short]; rw [eL]; omega) | (simp only [short]; omega) | (intro hh; first | cases hh | simpa using hh | (simp at hh; simp [hh]) | (simp at hh; exact hh) | exact fl2 (by simpa using hh) | exact sl2 (by simpa using hh))) | skip)) ?_
                          refine Tree.GivesP.chk (by first | (simp only [and_self]; done) | (first | ((repeat' with_reducible refine And.intro ?_ ?_) <;> first | trivial | omega | assumption | (rw [eL]; omega) | (simp only [short]; rw [eL]; omega) | (simp only [short]; omega) | (intro hh; first | cases hh | simpa using hh | (simp at hh; simp [hh]) | (simp at hh; exact hh) | exact fl2 (by simpa using hh) | exact sl2 (by simpa using hh))) | skip)) ?_
                          refine Tree.GivesP.chk (by first | (simp only [and_self]; done) | (constructor <;> simp only [hdPackFull_0, Int.toNat_zero, Int.cast_ofNat_Int, AV.leL, AV.le, Mem.le, Mem.leP, Blk.le, Blk.pad, Data.le, Data.size, Cap.le, and_true, true_and, and_self, true_implies, implies_true, imp_self, List.length_nil] <;> (repeat' with_reducible refine And.intro ?_ ?_) <;> first | rfl | trivial | (change @Decidable.decide (_ = ([] : List Int)) (List.instDecidableEqNil _) = _; simp only [List.take_length, List.drop_zero]) | omega)) ?_
                          refine Tree.GivesP.chk (by first | (simp only [and_self]; done) | (exact ⟨by assumption, by omega, by omega, z1, z3, Nat.zero_le _⟩)) ?_
                          refine Tree.GivesP.br (fun h7 => ?_) (fun h7 => ?_)
                          · (try simp only [decide_eq_true_eq, decide_eq_false_iff_not, Bool.not_eq_true', Bool.not_eq_false', beq_iff_eq, beq_eq_false_iff_ne, Int.not_lt, Int.not_le, ge_iff_le, gt_iff_lt, ne_eq, Bool.false_eq_true, Bool.true_eq_false, not_true_eq_false, not_false_eq_true, Bool.and_eq_true, Bool.not_eq_eq_eq_not, Bool.not_true, Bool.not_false, bne_iff_ne, bne_eq_false_iff_eq, Int.toNat_natCast, Nat.mul_one, Nat.add_zero, Nat.zero_add, List.take_length, List.drop_zero] at h7)
                            all_goals
                              refine Tree.GivesP.ret ?_ ?_
                              · first | (simp only [AV.le]; done) | (simp only [AV.le, sl2 (by assumption)]; first | done | rfl | decide) | (exfalso; have g := gp (by assumption); obtain ⟨g1, g2, g3, g4, g5⟩ := g; omega) | (exfalso; have g := gp (by assumption); obtain ⟨g1, g2, g3, g4, g5⟩ := g; contradiction) | (exfalso; have p := pg (by assumption); simp_all; done)
                              · simp only [AV.leL, AV.le, Mem.le, Mem.leP, Blk.le, Blk.pad, Data.le, Data.size, Cap.le, and_true, true_and, and_self, true_implies, implies_true, imp_self, List.length_nil]
                          · (try simp only [decide_eq_true_eq, decide_eq_false_iff_not, Bool.not_eq_true', Bool.not_eq_false', beq_iff_eq, beq_eq_false_iff_ne, Int.not_lt, Int.not_le, ge_iff_le, gt_iff_lt, ne_eq, Bool.false_eq_true, Bool.true_eq_false, not_true_eq_false, not_false_eq_true, Bool.and_eq_true, Bool.not_eq_eq_eq_not, Bool.not_true, Bool.not_false, bne_iff_ne, bne_eq_false_iff_eq, Int.toNat_natCast, Nat.mul_one, Nat.add_zero, Nat.zero_add, List.take_length, List.drop_zero] at h7)
                            all_goals
                              refine Tree.GivesP.br (fun h8 => ?_) (fun h8 => ?_)
                              · (try simp only [decide_eq_true_eq, decide_eq_false_iff_not, Bool.not_eq_true', Bool.not_eq_false', beq_iff_eq, beq_eq_false_iff_ne, Int.not_lt, Int.not_le, ge_iff_le, gt_iff_lt, ne_eq, Bool.false_eq_true, Bool.true_eq_false, not_true_eq_false, not_false_eq_true, Bool.and_eq_true, Bool.not_eq_eq_eq_not, Bool.not_true, Bool.not_false, bne_iff_ne, bne_eq_false_iff_eq, Int.toNat_natCast, Nat.mul_one, Nat.add_zero, Nat.zero_add, List.take_length, List.drop_zero] at h8)
                                all_goals
                                  refine Tree.GivesP.ret ?_ ?_
                                  · first | (simp only [AV.le]; done) | (simp only [AV.le, sl2 (by assumption)]; first | done | rfl | decide) | (exfalso; have g := gp (by assumption); obtain ⟨g1, g2, g3, g4, g5⟩ := g; omega) | (exfalso; have g := gp (by assumption); obtain ⟨g1, g2, g3, g4, g5⟩ := g; contradiction) | (exfalso; have p := pg (by assumption); simp_all; done)
                                  · simp only [AV.leL, AV.le, Mem.le, Mem.leP, Blk.le, Blk.pad, Data.le, Data.size, Cap.le, and_true, true_and, and_self, true_implies, implies_true, imp_self, List.length_nil]
                              · (try simp only [decide_eq_true_eq, decide_eq_false_iff_not, Bool.not_eq_true', Bool.not_eq_false', beq_iff_eq, beq_eq_false_iff_ne, Int.not_lt, Int.not_le, ge_iff_le, gt_iff_lt, ne_eq, Bool.false_eq_true, Bool.true_eq_false, not_true_eq_false, not_false_eq_true, Bool.and_eq_true, Bool.not_eq_eq_eq_not, Bool.not_true, Bool.not_false, bne_iff_ne, bne_eq_false_iff_eq, Int.toNat_natCast, Nat.mul_one, Nat.add_zero, Nat.zero_add, List.take_length, List.drop_zero] at h8)
                                all_goals
                                  refine Tree.GivesP.br (fun h9 => ?_) (fun h9 => ?_)
                                  · (try simp only [decide_eq_true_eq, decide_eq_false_iff_not, Bool.not_eq_true', Bool.not_eq_false', beq_iff_eq, beq_eq_false_iff_ne, Int.not_lt, Int.not_le, ge_iff_le, gt_iff_lt, ne_eq, Bool.false_eq_true, Bool.true_eq_false, not_true_eq_false, not_false_eq_true, Bool.and_eq_true, Bool.not_eq_eq_eq_not, Bool.not_true, Bool.not_false, bne_iff_ne, bne_eq_false_iff_eq, Int.toNat_natCast, Nat.mul_one, Nat.add_zero, Nat.zero_add, List.take_length, List.drop_zero] at h9)
                                    all_goals
                                      refine Tree.GivesP.ret ?_ ?_
                                      · first | (simp only [AV.le]; done) | (simp only [AV.le, sl2 (by assumption)]; first | done | rfl | decide) | (exfalso; have g := gp (by assumption); obtain ⟨g1, g2, g3, g4, g5⟩ := g; omega) | (exfalso; have g := gp (by assumption); obtain ⟨g1, g2, g3, g4, g5⟩ := g; contradiction) | (exfalso; have p := pg (by assumption); simp_all; done)
                                      · simp only [AV.leL, AV.le, Mem.le, Mem.leP, Blk.le, Blk.pad, Data.le, Data.size, Cap.le, and_true, true_and, and_self, true_implies, implies_true, imp_self, List.length_nil]
                                  · (try simp only [decide_eq_true_eq, decide_eq_false_iff_not, Bool.not_eq_true', Bool.not_eq_false', beq_iff_eq, beq_eq_false_iff_ne, Int.not_lt, Int.not_le, ge_iff_le, gt_iff_lt, ne_eq, Bool.false_eq_true, Bool.true_eq_false, not_true_eq_false, not_false_eq_true, Bool.and_eq_true, Bool.not_eq_eq_eq_not, Bool.not_true, Bool.not_false, bne_iff_ne, bne_eq_false_iff_eq, Int.toNat_natCast, Nat.mul_one, Nat.add_zero, Nat.zero_add, List.take_length, List.drop_zero] at h9)
                                    all_goals
                                      refine Tree.GivesP.chk (by first | (simp only [and_self]; done) | (constructor <;> simp only [hdPackFull_1, Int.toNat_zero, Int.cast_ofNat_Int, AV.leL, AV.le, Mem.le, Mem.leP, Blk.le, Blk.pad, Data.le, Data.size, Cap.le, and_true, true_and, and_self, true_implies, implies_true, imp_self, List.length_nil] <;> (repeat' with_reducible refine And.intro ?_ ?_) <;> first | rfl | trivial | (change @Decidable.decide (_ = ([] : List Int)) (List.instDecidableEqNil _) = _; simp only [List.take_length, List.drop_zero]) | omega)) ?_
                                      refine Tree.GivesP.chk (by first | (simp only [and_self]; done) | (exact ⟨by assumption, by omega, by omega, z3, by have := size_small (gp (by assumption)).1; omega⟩)) ?_
                                      refine Tree.GivesP.ret ?_ ?_
                                      · first | (simp only [AV.le]; done) | (simp only [AV.le, sl2 (by assumption)]; first | done | rfl | decide) | (exfalso; have g := gp (by assumption); obtain ⟨g1, g2, g3, g4, g5⟩ := g; omega) | (exfalso; have g := gp (by assumption); obtain ⟨g1, g2, g3, g4, g5⟩ := g; contradiction) | (exfalso; have p := pg (by assumption); simp_all; done)
                                      · simp only [AV.leL, AV.le, Mem.le, Mem.leP, Blk.le, Blk.pad, Data.le, Data.size, Cap.le, and_true, true_and, and_self, true_implies, implies_true, imp_self, List.length_nil]
theorem sPackFull (hall : AllOk Try.prog 0 (fun _ => none) tab19) (zwidths : Bool) (widths : List Int) (zvalues : Bool) (values : List Int) (zwords : Bool) (words : List Int) (hw : widths.length ≤ 9223372036854775807 ∧ (zwidths = true → widths = []) ∧ values.length ≤ 9223372036854775807 ∧ (zvalues = true → values = []) ∧ words.length ≤ 9223372036854775807 ∧ (zwords = true → words = []) ∧ wf64L values ∧ wf64L words ∧ wf64L widths) : SoundAt (mkC Try.prog 0 (fun _ => none) []) 8 [.sl zwidths ⟨0, 0, 0, 0⟩ false widths.length .any, .sl zvalues ⟨1, 0, 0, 0⟩ false values.length .any, .sl zwords ⟨2, 0, 0, 0⟩ false words.length .any] [some ⟨3, false, false, true, .ints .i64 widths⟩, some ⟨3, false, false, true, .ints .i64 values⟩, some ⟨3, false, false, true, .ints .i64 words⟩] (.bool false true, [some ⟨3, false, false, true, .ints .i64 widths⟩, some ⟨3, false, false, true, .ints .i64 values⟩, some ⟨3, false, false, true, .ints .i64 words⟩]) := sound_loopsP hall mix (loopsPackFull hall) (tPackFull zwidths widths zvalues values zwords words) (gPackFull zwidths widths zvalues values zwords words hw)
end Go.Proofs.Ytnkjblmlchbfkaa.Rig

/- The row of the law PackFull: whatever the input it gives true, and what came in stays. -/
namespace Go.Proofs.Ytnkjblmlchbfkaa.packFull
open Go.ChangeShapes Go.WideShapes Go.ChangeAt Go.RowKit Go.Proofs.Ytnkjblmlchbfkaa.Rig
open Go.ChangeMaps (open_string shut_string)
set_option linter.unusedVariables false

theorem own : ownKnob Try.prog.godebug = none := by kernel_rfl
theorem laidOut : laidOutB Try.prog = true := by kernel_rfl
theorem walk (A0 : Option Addr) (len0 cap0 : Nat) (zs0 : List Int) (A1 : Option Addr) (len1 cap1 : Nat) (zs1 : List Int) (A2 : Option Addr) (len2 cap2 : Nat) (zs2 : List Int) (w : World) (wz0 : (A0 = none ∧ len0 = 0 ∧ cap0 = 0 ∧ zs0 = []) ∨ ∃ x, A0 = some x ∧ len0 ≤ cap0 ∧ cap0 ≤ maxLen ∧ zs0.length = cap0 ∧ (∀ i, i < zs0.length → w.cell? (x.add i) = some (.int .i64 (zs0.getD i 0))) ∧ ∀ n ∈ zs0, (Lit.int .i64 n).wf = true) (wz1 : (A1 = none ∧ len1 = 0 ∧ cap1 = 0 ∧ zs1 = []) ∨ ∃ x, A1 = some x ∧ len1 ≤ cap1 ∧ cap1 ≤ maxLen ∧ zs1.length = cap1 ∧ (∀ i, i < zs1.length → w.cell? (x.add i) = some (.int .i64 (zs1.getD i 0))) ∧ ∀ n ∈ zs1, (Lit.int .i64 n).wf = true) (wz2 : (A2 = none ∧ len2 = 0 ∧ cap2 = 0 ∧ zs2 = []) ∨ ∃ x, A2 = some x ∧ len2 ≤ cap2 ∧ cap2 ≤ maxLen ∧ zs2.length = cap2 ∧ (∀ i, i < zs2.length → w.cell? (x.add i) = some (.int .i64 (zs2.getD i 0))) ∧ ∀ n ∈ zs2, (Lit.int .i64 n).wf = true) :
    Calls Try.prog 8 #[.slice A0 len0 cap0, .slice A1 len1 cap1, .slice A2 len2 cap2] w fun e w' => e = .returned (.bool true) ∧ Below w.heap.size w w' := by
  obtain ⟨z0, l0, b0, hl0, hz0, hm0, hw0, hr0, hb0⟩ := arg_ints 3 wz0
  subst hl0
  obtain ⟨z1, l1, b1, hl1, hz1, hm1, hw1, hr1, hb1⟩ := arg_ints 3 wz1
  subst hl1
  obtain ⟨z2, l2, b2, hl2, hz2, hm2, hw2, hr2, hb2⟩ := arg_ints 3 wz2
  subst hl2
  have h := sPackFull all19 z0 l0 z1 l1 z2 l2 ⟨by simpa [maxLen] using hm0, hz0, by simpa [maxLen] using hm1, hz1, by simpa [maxLen] using hm2, hz2, fun n hn => wf64 (hw1 n hn), fun n hn => wf64 (hw2 n hn), fun n hn => wf64 (hw0 n hn)⟩
  refine h.top (σ := fun i => [b0, b1, b2][i]?) (vals := [.slice A0 l0.length cap0, .slice A1 l1.length cap1, .slice A2 l2.length cap2]) (fun i b hb => ?_) ?_ (rel_args _ _ rfl fun i b hb => ?_) (fun g i h => by cases h) (Nat.zero_le _)
  · rcases i with _ | _ | _ | i <;> simp [Mem.at] at hb <;> subst hb <;> rfl
  · exact RepL.cons (hr0 _ 0 rfl) (RepL.cons (hr1 _ 1 rfl) (RepL.cons (hr2 _ 2 rfl) (RepL.nil)))
  · rcases i with _ | _ | _ | i <;> simp [Mem.at] at hb
    · subst hb; exact ⟨_, rfl, rfl, hb0⟩
    · subst hb; exact ⟨_, rfl, rfl, hb1⟩
    · subst hb; exact ⟨_, rfl, rfl, hb2⟩
set_option maxRecDepth 100000 in
theorem lifted (os : Os) (started : os.Started) (H : Type) (enc : TypeId × Value → H) :
    ReturnsInHanded {} Try.checked os 8 .any (Rows.packFullSpec.pre6 enc Try.prog Try.f8 Rows.packFullRow.domain false) (Rows.packFullSpec.post enc Try.prog Try.f8 false true false false) := by
  refine returnsInHanded_of_change_sized (C := Try.checked) own started (by kernel_rfl) Try.func8
    (ChangeSpec.witness6 (enc := enc) (C := Try.checked) false ⟨#[], #[.slice none 0 0, .slice none 0 0, .slice none 0 0], []⟩ 8 (by kernel_rfl) (by kernel_rfl) (by kernel_rfl) (by kernel_rfl)) ?_
  intro W base args ds gs before hval0 hW hcnd hsz0 _
  have hval : ∀ (j : Nat) t v, Try.f8.params[j]? = some t → args[j]? = some v → Value.okWide Try.prog W .any base t v := hval0
  have hW' := hW
  obtain ⟨p, q, hA0, hV, rfl, hfz, hnd⟩ := hW
  have hA : DataW.TrodAll enc Try.prog W 0 (fun _ => true) true Try.f8.params.toList args.toList ds p := hA0
  rw [Try.params8] at hA hval
  obtain ⟨v0, vs0, d0, ds0, p0, z0, hargs, rfl, rfl, h0, r0⟩ := trodAll_cons hA
  obtain ⟨v1, vs1, d1, ds1, p1, z1, rfl, rfl, rfl, h1, r1⟩ := trodAll_cons r0
  obtain ⟨v2, vs2, d2, ds2, p2, z2, rfl, rfl, rfl, h2, r2⟩ := trodAll_cons r1
  obtain ⟨rfl, rfl, rfl⟩ := trodAll_nil r2
  obtain rfl : args = #[v0, v1, v2] := by cases args; simp_all
  obtain ⟨rfl, rfl⟩ := trodVars_none hV
  obtain ⟨A0, len0, cap0, rfl⟩ := okWide_slice Try.underlying22 (hval 0 22 v0 rfl rfl)
  have k0 := h0
  have lt0 : ∀ x ∈ p0, x.block < W.heap.size := by obtain ⟨m, hm⟩ := k0; exact DataW.trod_lt m _ _ _ hm
  obtain ⟨zs0, wz0⟩ := Open.ints_open Try.underlying22 Try.underlying3 (by kernel_rfl) h0
  simp only [if_true] at wz0
  obtain ⟨A1, len1, cap1, rfl⟩ := okWide_slice Try.underlying22 (hval 1 22 v1 rfl rfl)
  have k1 := h1
  have lt1 : ∀ x ∈ p1, x.block < W.heap.size := by obtain ⟨m, hm⟩ := k1; exact DataW.trod_lt m _ _ _ hm
  obtain ⟨zs1, wz1⟩ := Open.ints_open Try.underlying22 Try.underlying3 (by kernel_rfl) h1
  simp only [if_true] at wz1
  obtain ⟨A2, len2, cap2, rfl⟩ := okWide_slice Try.underlying22 (hval 2 22 v2 rfl rfl)
  have k2 := h2
  have lt2 : ∀ x ∈ p2, x.block < W.heap.size := by obtain ⟨m, hm⟩ := k2; exact DataW.trod_lt m _ _ _ hm
  obtain ⟨zs2, wz2⟩ := Open.ints_open Try.underlying22 Try.underlying3 (by kernel_rfl) h2
  simp only [if_true] at wz2
  clear hA0 hval0 hsz0
  refine (walk A0 len0 cap0 zs0 A1 len1 cap1 zs1 A2 len2 cap2 zs2 W wz0 wz1 wz2).mono fun e W' ⟨he, bel⟩ => ?_
  subst he
  exact ⟨_, rfl, _, _, _, [], _, [], hW', trodAll_mk1 (shut_bool Try.underlying4 _), (trodAll_cons_mk (Below.trod laidOut (by kernel_rfl) (of_decide_eq_true (by kernel_rfl)) k0 bel lt0) (trodAll_cons_mk (Below.trod laidOut (by kernel_rfl) (of_decide_eq_true (by kernel_rfl)) k1 bel lt1) (trodAll_cons_mk (Below.trod laidOut (by kernel_rfl) (of_decide_eq_true (by kernel_rfl)) k2 bel lt2) trodAll_mk0))), rfl, bel.frame _, fun h => by cases h⟩
theorem over : Rows.packFullRow.holds Try.pinned (OpenSpec.ofChange Rows.packFullSpec) :=
  OpenClaim.holds_of_wide 8 Try.f8 rfl rfl rfl rfl rfl rfl rfl ⟨rfl, rfl, rfl, rfl, rfl⟩ rfl rfl rfl rfl rfl (by kernel_rfl) Try.func8 (by kernel_rfl)
    (of_decide_eq_true (by kernel_rfl)) (by unfold Func.isWrapper; first | (rw [if_pos (by decide +kernel)]; kernel_rfl) | (rw [if_neg (by decide +kernel)]; exact ⟨rfl, rfl⟩))
    (fun os started H enc _ => lifted os started H enc)
theorem proved : Rows.PackFullSaid := over
#print axioms proved
end Go.Proofs.Ytnkjblmlchbfkaa.packFull
namespace Go.Proofs.Ytnkjblmlchbfkaa
/-- The row, under a short name, for the claim. -/
theorem packFull_holds : Rows.PackFullSaid := packFull.proved
end Go.Proofs.Ytnkjblmlchbfkaa
