/-
  No cell of these rows narrows 'for every input' (looked for: loops, veiled, ifaces, maps, wideKeys, modest, calm, conditions, laid).
  DERIVED. THE GIVEN ROWS OF THIS SEAT. 6 by the template 'for every input the law returns true; each argument reads behind the call as it read before'; 0 by the template 'total and deterministic' (their statements: YtoihhmpmlbdeiaaTotals.lean).
  GIVEN WITH THE SEED: the statements are not yours to turn. If you find one false, say at which input.
  Laid BY PROGRAM, IN A SANDBOX (cutbox-rows.mjs): the forced cells as the released guide's own fill.sh prints them over the translation 943bc93fb19a3826… (all of the seat's roots in one cut). By AI agents, Wed Nov 11 2026. No macro, syntax, notation, axiom, sorry.
-/
import Derived.Test.YtoihhmpmlbdeiaaChecked
import GoSem.Claim
import GoSem.ClaimJoined
import GoSem.ClaimMapViews
import Derived.JoinedTies
import Derived.KernelRfl
namespace Go.Proofs.Ytoihhmpmlbdeiaa
/- THE CELL 'sum', in the pinned program and in every row, IS THE sha256 OF THE DUMP (.gsa) THAT YtoihhmpmlbdeiaaProg.lean LOADS. Nothing in Lean hashes anything: it is a label: what it is worth is what the hold of that sum in a sandbox is worth. -/
noncomputable def Try.pinned : Pinned := { name := "ytoihhmpmlbdeiaa", sum := "943bc93fb19a38266a54f4103aa9f5d432d5f6c5502d5d4bd11bb6ec6d00a968", checked := Try.checked }
namespace Rows
def none {H : Type} : Left H := { results := [], args := [] }

/-- 'rheostatlaw15.ModelRests': WHATEVER THE INPUT: true; the input reads as it did. -/
def modelRestsSpec : ChangeSpec := { name := "modelRests", fn := fun _ => fun
  | [d1, d2, d3, d4, d5] => { results := [.lit (.bool true)], args := [d1, d2, d3, d4, d5] }
  | _ => none }
def modelRestsRow : OpenClaim := { program := "ytoihhmpmlbdeiaa", sum := "943bc93fb19a38266a54f4103aa9f5d432d5f6c5502d5d4bd11bb6ec6d00a968", func := "rheostat/rheostatlaw15.ModelRests", spec := "modelRests", inPlace := ["math/bits.Sub64"], unfollowed := true, recurses := true, named := ["math/bits.overflowError", "math/bits.divideError"], apart := false }
def ModelRestsSaid : Prop := modelRestsRow.holds Try.pinned (OpenSpec.ofChange modelRestsSpec)

/-- ITS FALSE NEIGHBOUR: 'it returns false'. Refute it at one input. -/
def modelRestsWrong : ChangeSpec := { name := "modelRests", fn := fun _ => fun
  | [d1, d2, d3, d4, d5] => { results := [.lit (.bool false)], args := [d1, d2, d3, d4, d5] }
  | _ => none }
def ModelRestsWrongFalsely : Prop := modelRestsRow.holds Try.pinned (OpenSpec.ofChange modelRestsWrong)

/-- 'rheostatlaw15.ModelBetween': WHATEVER THE INPUT: true; the input reads as it did. -/
def modelBetweenSpec : ChangeSpec := { name := "modelBetween", fn := fun _ => fun
  | [d1, d2, d3, d4, d5] => { results := [.lit (.bool true)], args := [d1, d2, d3, d4, d5] }
  | _ => none }
def modelBetweenRow : OpenClaim := { program := "ytoihhmpmlbdeiaa", sum := "943bc93fb19a38266a54f4103aa9f5d432d5f6c5502d5d4bd11bb6ec6d00a968", func := "rheostat/rheostatlaw15.ModelBetween", spec := "modelBetween", inPlace := ["math/bits.Sub64"], unfollowed := true, recurses := true, named := ["math/bits.overflowError", "math/bits.divideError"], apart := false }
def ModelBetweenSaid : Prop := modelBetweenRow.holds Try.pinned (OpenSpec.ofChange modelBetweenSpec)

/-- ITS FALSE NEIGHBOUR: 'it returns false'. Refute it at one input. -/
def modelBetweenWrong : ChangeSpec := { name := "modelBetween", fn := fun _ => fun
  | [d1, d2, d3, d4, d5] => { results := [.lit (.bool false)], args := [d1, d2, d3, d4, d5] }
  | _ => none }
def ModelBetweenWrongFalsely : Prop := modelBetweenRow.holds Try.pinned (OpenSpec.ofChange modelBetweenWrong)

/-- 'rheostatlaw15.ModelUndone': WHATEVER THE INPUT: true; the input reads as it did. -/
def modelUndoneSpec : ChangeSpec := { name := "modelUndone", fn := fun _ => fun
  | [d1, d2, d3, d4, d5] => { results := [.lit (.bool true)], args := [d1, d2, d3, d4, d5] }
  | _ => none }
def modelUndoneRow : OpenClaim := { program := "ytoihhmpmlbdeiaa", sum := "943bc93fb19a38266a54f4103aa9f5d432d5f6c5502d5d4bd11bb6ec6d00a968", func := "rheostat/rheostatlaw15.ModelUndone", spec := "modelUndone", inPlace := ["math/bits.Sub64"], unfollowed := true, recurses := true, named := ["math/bits.overflowError", "math/bits.divideError"], apart := false }
def ModelUndoneSaid : Prop := modelUndoneRow.holds Try.pinned (OpenSpec.ofChange modelUndoneSpec)

/-- ITS FALSE NEIGHBOUR: 'it returns false'. Refute it at one input. -/
def modelUndoneWrong : ChangeSpec := { name := "modelUndone", fn := fun _ => fun
  | [d1, d2, d3, d4, d5] => { results := [.lit (.bool false)], args := [d1, d2, d3, d4, d5] }
  | _ => none }
def ModelUndoneWrongFalsely : Prop := modelUndoneRow.holds Try.pinned (OpenSpec.ofChange modelUndoneWrong)

/-- 'rheostatlaw15.ModelGoes': WHATEVER THE INPUT: true; the input reads as it did. -/
def modelGoesSpec : ChangeSpec := { name := "modelGoes", fn := fun _ => fun
  | [d1, d2, d3] => { results := [.lit (.bool true)], args := [d1, d2, d3] }
  | _ => none }
def modelGoesRow : OpenClaim := { program := "ytoihhmpmlbdeiaa", sum := "943bc93fb19a38266a54f4103aa9f5d432d5f6c5502d5d4bd11bb6ec6d00a968", func := "rheostat/rheostatlaw15.ModelGoes", spec := "modelGoes", inPlace := ["math/bits.Sub64"], unfollowed := true, recurses := true, named := ["math/bits.overflowError", "math/bits.divideError"], apart := false }
def ModelGoesSaid : Prop := modelGoesRow.holds Try.pinned (OpenSpec.ofChange modelGoesSpec)

/-- ITS FALSE NEIGHBOUR: 'it returns false'. Refute it at one input. -/
def modelGoesWrong : ChangeSpec := { name := "modelGoes", fn := fun _ => fun
  | [d1, d2, d3] => { results := [.lit (.bool false)], args := [d1, d2, d3] }
  | _ => none }
def ModelGoesWrongFalsely : Prop := modelGoesRow.holds Try.pinned (OpenSpec.ofChange modelGoesWrong)

/-- 'rheostatlaw15.ModelCalms': WHATEVER THE INPUT: true; the input reads as it did. -/
def modelCalmsSpec : ChangeSpec := { name := "modelCalms", fn := fun _ => fun
  | [d1, d2, d3, d4] => { results := [.lit (.bool true)], args := [d1, d2, d3, d4] }
  | _ => none }
def modelCalmsRow : OpenClaim := { program := "ytoihhmpmlbdeiaa", sum := "943bc93fb19a38266a54f4103aa9f5d432d5f6c5502d5d4bd11bb6ec6d00a968", func := "rheostat/rheostatlaw15.ModelCalms", spec := "modelCalms", inPlace := ["math/bits.Sub64"], unfollowed := true, recurses := true, named := ["math/bits.overflowError", "math/bits.divideError"], apart := false }
def ModelCalmsSaid : Prop := modelCalmsRow.holds Try.pinned (OpenSpec.ofChange modelCalmsSpec)

/-- ITS FALSE NEIGHBOUR: 'it returns false'. Refute it at one input. -/
def modelCalmsWrong : ChangeSpec := { name := "modelCalms", fn := fun _ => fun
  | [d1, d2, d3, d4] => { results := [.lit (.bool false)], args := [d1, d2, d3, d4] }
  | _ => none }
def ModelCalmsWrongFalsely : Prop := modelCalmsRow.holds Try.pinned (OpenSpec.ofChange modelCalmsWrong)

/-- 'rheostatlaw15.ModelSteps': WHATEVER THE INPUT: true; the input reads as it did. -/
def modelStepsSpec : ChangeSpec := { name := "modelSteps", fn := fun _ => fun
  | [d1, d2, d3, d4, d5] => { results := [.lit (.bool true)], args := [d1, d2, d3, d4, d5] }
  | _ => none }
def modelStepsRow : OpenClaim := { program := "ytoihhmpmlbdeiaa", sum := "943bc93fb19a38266a54f4103aa9f5d432d5f6c5502d5d4bd11bb6ec6d00a968", func := "rheostat/rheostatlaw15.ModelSteps", spec := "modelSteps", inPlace := ["math/bits.Sub64"], unfollowed := true, recurses := true, named := ["math/bits.overflowError", "math/bits.divideError"], apart := false }
def ModelStepsSaid : Prop := modelStepsRow.holds Try.pinned (OpenSpec.ofChange modelStepsSpec)

/-- ITS FALSE NEIGHBOUR: 'it returns false'. Refute it at one input. -/
def modelStepsWrong : ChangeSpec := { name := "modelSteps", fn := fun _ => fun
  | [d1, d2, d3, d4, d5] => { results := [.lit (.bool false)], args := [d1, d2, d3, d4, d5] }
  | _ => none }
def ModelStepsWrongFalsely : Prop := modelStepsRow.holds Try.pinned (OpenSpec.ofChange modelStepsWrong)

/- THE SECOND FORM. 'bulk': how many values and letters a reading holds, each counted each time it is reached (what is shared counts as often as it is met; a slice's spare places count too). A statement '..UptoSaid' is the law's where the arguments, and the package variables that the reading takes, are together of bulk at most 1048576: NARROWER than '..Said'. Prove '..Said' where nothing that the law and all that it calls make is longer than what came in: it says more and counts as full. Else prove '..UptoSaid'. A law counts once. -/
mutual
def uptoBulk {H : Type} : DataW H → Nat
  | .lit (.string bytes) => bytes.length + 1
  | .lit _ => 1
  | .nil => 1
  | .ptr d => uptoBulk d + 1
  | .slice elems spare => uptoBulkAll elems + uptoBulkAll spare + 1
  | .agg parts => uptoBulkAll parts + 1
  | .iface _ d => uptoBulk d + 1
  | .map entries => uptoBulkEntries entries + 1
  | .held _ => 1
def uptoBulkAll {H : Type} : List (DataW H) → Nat
  | [] => 0
  | d :: r => uptoBulk d + uptoBulkAll r
def uptoBulkEntries {H : Type} : List (Lit × DataW H) → Nat
  | [] => 0
  | x :: r => uptoBulkEntry x + uptoBulkEntries r
def uptoBulkEntry {H : Type} : Lit × DataW H → Nat
  | (.string bytes, d) => bytes.length + uptoBulk d + 1
  | (_, d) => uptoBulk d + 1
 end
def uptoSmall : (H : Type) → List (DataW H) → Bool := fun _ ds => decide (uptoBulkAll ds ≤ 1048576)
def OpenSpec.upto (s : _root_.Go.ChangeSpec) : _root_.Go.OpenSpec := { _root_.Go.OpenSpec.ofChange s with cond := some uptoSmall }

/-- 'rheostatlaw15.ModelRests', WHERE WHAT IT READS IS OF BULK AT MOST 1048576: true; the input reads as it did. -/
def modelRestsUptoRow : OpenClaim := { program := "ytoihhmpmlbdeiaa", sum := "943bc93fb19a38266a54f4103aa9f5d432d5f6c5502d5d4bd11bb6ec6d00a968", func := "rheostat/rheostatlaw15.ModelRests", spec := "modelRests", inPlace := ["math/bits.Sub64"], unfollowed := true, recurses := true, named := ["math/bits.overflowError", "math/bits.divideError"], apart := false, narrowed := true }
def ModelRestsUptoSaid : Prop := modelRestsUptoRow.holds Try.pinned (OpenSpec.upto modelRestsSpec)

/-- 'rheostatlaw15.ModelBetween', WHERE WHAT IT READS IS OF BULK AT MOST 1048576: true; the input reads as it did. -/
def modelBetweenUptoRow : OpenClaim := { program := "ytoihhmpmlbdeiaa", sum := "943bc93fb19a38266a54f4103aa9f5d432d5f6c5502d5d4bd11bb6ec6d00a968", func := "rheostat/rheostatlaw15.ModelBetween", spec := "modelBetween", inPlace := ["math/bits.Sub64"], unfollowed := true, recurses := true, named := ["math/bits.overflowError", "math/bits.divideError"], apart := false, narrowed := true }
def ModelBetweenUptoSaid : Prop := modelBetweenUptoRow.holds Try.pinned (OpenSpec.upto modelBetweenSpec)

/-- 'rheostatlaw15.ModelUndone', WHERE WHAT IT READS IS OF BULK AT MOST 1048576: true; the input reads as it did. -/
def modelUndoneUptoRow : OpenClaim := { program := "ytoihhmpmlbdeiaa", sum := "943bc93fb19a38266a54f4103aa9f5d432d5f6c5502d5d4bd11bb6ec6d00a968", func := "rheostat/rheostatlaw15.ModelUndone", spec := "modelUndone", inPlace := ["math/bits.Sub64"], unfollowed := true, recurses := true, named := ["math/bits.overflowError", "math/bits.divideError"], apart := false, narrowed := true }
def ModelUndoneUptoSaid : Prop := modelUndoneUptoRow.holds Try.pinned (OpenSpec.upto modelUndoneSpec)

/-- 'rheostatlaw15.ModelGoes', WHERE WHAT IT READS IS OF BULK AT MOST 1048576: true; the input reads as it did. -/
def modelGoesUptoRow : OpenClaim := { program := "ytoihhmpmlbdeiaa", sum := "943bc93fb19a38266a54f4103aa9f5d432d5f6c5502d5d4bd11bb6ec6d00a968", func := "rheostat/rheostatlaw15.ModelGoes", spec := "modelGoes", inPlace := ["math/bits.Sub64"], unfollowed := true, recurses := true, named := ["math/bits.overflowError", "math/bits.divideError"], apart := false, narrowed := true }
def ModelGoesUptoSaid : Prop := modelGoesUptoRow.holds Try.pinned (OpenSpec.upto modelGoesSpec)

/-- 'rheostatlaw15.ModelCalms', WHERE WHAT IT READS IS OF BULK AT MOST 1048576: true; the input reads as it did. -/
def modelCalmsUptoRow : OpenClaim := { program := "ytoihhmpmlbdeiaa", sum := "943bc93fb19a38266a54f4103aa9f5d432d5f6c5502d5d4bd11bb6ec6d00a968", func := "rheostat/rheostatlaw15.ModelCalms", spec := "modelCalms", inPlace := ["math/bits.Sub64"], unfollowed := true, recurses := true, named := ["math/bits.overflowError", "math/bits.divideError"], apart := false, narrowed := true }
def ModelCalmsUptoSaid : Prop := modelCalmsUptoRow.holds Try.pinned (OpenSpec.upto modelCalmsSpec)

/-- 'rheostatlaw15.ModelSteps', WHERE WHAT IT READS IS OF BULK AT MOST 1048576: true; the input reads as it did. -/
def modelStepsUptoRow : OpenClaim := { program := "ytoihhmpmlbdeiaa", sum := "943bc93fb19a38266a54f4103aa9f5d432d5f6c5502d5d4bd11bb6ec6d00a968", func := "rheostat/rheostatlaw15.ModelSteps", spec := "modelSteps", inPlace := ["math/bits.Sub64"], unfollowed := true, recurses := true, named := ["math/bits.overflowError", "math/bits.divideError"], apart := false, narrowed := true }
def ModelStepsUptoSaid : Prop := modelStepsUptoRow.holds Try.pinned (OpenSpec.upto modelStepsSpec)

end Rows
end Go.Proofs.Ytoihhmpmlbdeiaa
