/-
  No cell of these rows narrows 'for every input' (looked for: loops, veiled, ifaces, maps, wideKeys, modest, calm, conditions, laid).
  DERIVED. THE GIVEN ROWS OF THIS SEAT. 10 by the template 'for every input the law returns true; each argument reads behind the call as it read before'; 0 by the template 'total and deterministic' (their statements: YtonhkbgielilbaaTotals.lean).
  GIVEN WITH THE SEED: the statements are not yours to turn. If you find one false, say at which input.
  Laid BY PROGRAM, IN A SANDBOX (cutbox-rows.mjs): the forced cells as the released guide's own fill.sh prints them over the translation 46e8ec2aa3231666… (all of the seat's roots in one cut). By AI agents, Wed Nov 11 2026. No macro, syntax, notation, axiom, sorry.
-/
import Derived.Test.YtonhkbgielilbaaChecked
import GoSem.Claim
import GoSem.ClaimJoined
import GoSem.ClaimMapViews
import Derived.JoinedTies
import Derived.KernelRfl
namespace Go.Proofs.Ytonhkbgielilbaa
/- THE CELL 'sum', in the pinned program and in every row, IS THE sha256 OF THE DUMP (.gsa) THAT YtonhkbgielilbaaProg.lean LOADS. Nothing in Lean hashes anything: it is a label: what it is worth is what the hold of that sum in a sandbox is worth. -/
noncomputable def Try.pinned : Pinned := { name := "ytonhkbgielilbaa", sum := "46e8ec2aa32316661a5c1e00aa1cc645d26df5686d112c39dafeb26a0e856b58", checked := Try.checked }
namespace Rows
def none {H : Type} : Left H := { results := [], args := [] }

/-- 'rheostatlaw16.RestSteps': WHATEVER THE INPUT: true; the input reads as it did. -/
def restStepsSpec : ChangeSpec := { name := "restSteps", fn := fun _ => fun
  | [d1, d2, d3] => { results := [.lit (.bool true)], args := [d1, d2, d3] }
  | _ => none }
def restStepsRow : OpenClaim := { program := "ytonhkbgielilbaa", sum := "46e8ec2aa32316661a5c1e00aa1cc645d26df5686d112c39dafeb26a0e856b58", func := "rheostat/rheostatlaw16.RestSteps", spec := "restSteps", apart := false }
def RestStepsSaid : Prop := restStepsRow.holds Try.pinned (OpenSpec.ofChange restStepsSpec)

/-- ITS FALSE NEIGHBOUR: 'it returns false'. Refute it at one input. -/
def restStepsWrong : ChangeSpec := { name := "restSteps", fn := fun _ => fun
  | [d1, d2, d3] => { results := [.lit (.bool false)], args := [d1, d2, d3] }
  | _ => none }
def RestStepsWrongFalsely : Prop := restStepsRow.holds Try.pinned (OpenSpec.ofChange restStepsWrong)

/-- 'rheostatlaw16.RestTells': WHATEVER THE INPUT: true; the input reads as it did. -/
def restTellsSpec : ChangeSpec := { name := "restTells", fn := fun _ => fun
  | [d1, d2] => { results := [.lit (.bool true)], args := [d1, d2] }
  | _ => none }
def restTellsRow : OpenClaim := { program := "ytonhkbgielilbaa", sum := "46e8ec2aa32316661a5c1e00aa1cc645d26df5686d112c39dafeb26a0e856b58", func := "rheostat/rheostatlaw16.RestTells", spec := "restTells", apart := false }
def RestTellsSaid : Prop := restTellsRow.holds Try.pinned (OpenSpec.ofChange restTellsSpec)

/-- ITS FALSE NEIGHBOUR: 'it returns false'. Refute it at one input. -/
def restTellsWrong : ChangeSpec := { name := "restTells", fn := fun _ => fun
  | [d1, d2] => { results := [.lit (.bool false)], args := [d1, d2] }
  | _ => none }
def RestTellsWrongFalsely : Prop := restTellsRow.holds Try.pinned (OpenSpec.ofChange restTellsWrong)

/-- 'rheostatlaw16.RestRuns': WHATEVER THE INPUT: true; the input reads as it did. -/
def restRunsSpec : ChangeSpec := { name := "restRuns", fn := fun _ => fun
  | [d1, d2] => { results := [.lit (.bool true)], args := [d1, d2] }
  | _ => none }
def restRunsRow : OpenClaim := { program := "ytonhkbgielilbaa", sum := "46e8ec2aa32316661a5c1e00aa1cc645d26df5686d112c39dafeb26a0e856b58", func := "rheostat/rheostatlaw16.RestRuns", spec := "restRuns", apart := false }
def RestRunsSaid : Prop := restRunsRow.holds Try.pinned (OpenSpec.ofChange restRunsSpec)

/-- ITS FALSE NEIGHBOUR: 'it returns false'. Refute it at one input. -/
def restRunsWrong : ChangeSpec := { name := "restRuns", fn := fun _ => fun
  | [d1, d2] => { results := [.lit (.bool false)], args := [d1, d2] }
  | _ => none }
def RestRunsWrongFalsely : Prop := restRunsRow.holds Try.pinned (OpenSpec.ofChange restRunsWrong)

/-- 'rheostatlaw16.RestStill': WHATEVER THE INPUT: true; the input reads as it did. -/
def restStillSpec : ChangeSpec := { name := "restStill", fn := fun _ => fun
  | [d1, d2] => { results := [.lit (.bool true)], args := [d1, d2] }
  | _ => none }
def restStillRow : OpenClaim := { program := "ytonhkbgielilbaa", sum := "46e8ec2aa32316661a5c1e00aa1cc645d26df5686d112c39dafeb26a0e856b58", func := "rheostat/rheostatlaw16.RestStill", spec := "restStill", apart := false }
def RestStillSaid : Prop := restStillRow.holds Try.pinned (OpenSpec.ofChange restStillSpec)

/-- ITS FALSE NEIGHBOUR: 'it returns false'. Refute it at one input. -/
def restStillWrong : ChangeSpec := { name := "restStill", fn := fun _ => fun
  | [d1, d2] => { results := [.lit (.bool false)], args := [d1, d2] }
  | _ => none }
def RestStillWrongFalsely : Prop := restStillRow.holds Try.pinned (OpenSpec.ofChange restStillWrong)

/-- 'rheostatlaw16.RestWider': WHATEVER THE INPUT: true; the input reads as it did. -/
def restWiderSpec : ChangeSpec := { name := "restWider", fn := fun _ => fun
  | [d1, d2, d3, d4] => { results := [.lit (.bool true)], args := [d1, d2, d3, d4] }
  | _ => none }
def restWiderRow : OpenClaim := { program := "ytonhkbgielilbaa", sum := "46e8ec2aa32316661a5c1e00aa1cc645d26df5686d112c39dafeb26a0e856b58", func := "rheostat/rheostatlaw16.RestWider", spec := "restWider", apart := false }
def RestWiderSaid : Prop := restWiderRow.holds Try.pinned (OpenSpec.ofChange restWiderSpec)

/-- ITS FALSE NEIGHBOUR: 'it returns false'. Refute it at one input. -/
def restWiderWrong : ChangeSpec := { name := "restWider", fn := fun _ => fun
  | [d1, d2, d3, d4] => { results := [.lit (.bool false)], args := [d1, d2, d3, d4] }
  | _ => none }
def RestWiderWrongFalsely : Prop := restWiderRow.holds Try.pinned (OpenSpec.ofChange restWiderWrong)

/-- 'rheostatlaw19.CycleSteps': WHATEVER THE INPUT: true; the input reads as it did. -/
def cycleStepsSpec : ChangeSpec := { name := "cycleSteps", fn := fun _ => fun
  | [d1, d2] => { results := [.lit (.bool true)], args := [d1, d2] }
  | _ => none }
def cycleStepsRow : OpenClaim := { program := "ytonhkbgielilbaa", sum := "46e8ec2aa32316661a5c1e00aa1cc645d26df5686d112c39dafeb26a0e856b58", func := "rheostat/rheostatlaw19.CycleSteps", spec := "cycleSteps", unfollowed := true, recurses := true, apart := false }
def CycleStepsSaid : Prop := cycleStepsRow.holds Try.pinned (OpenSpec.ofChange cycleStepsSpec)

/-- ITS FALSE NEIGHBOUR: 'it returns false'. Refute it at one input. -/
def cycleStepsWrong : ChangeSpec := { name := "cycleSteps", fn := fun _ => fun
  | [d1, d2] => { results := [.lit (.bool false)], args := [d1, d2] }
  | _ => none }
def CycleStepsWrongFalsely : Prop := cycleStepsRow.holds Try.pinned (OpenSpec.ofChange cycleStepsWrong)

/-- 'rheostatlaw19.CycleNexts': WHATEVER THE INPUT: true; the input reads as it did. -/
def cycleNextsSpec : ChangeSpec := { name := "cycleNexts", fn := fun _ => fun
  | [d] => { results := [.lit (.bool true)], args := [d] }
  | _ => none }
def cycleNextsRow : OpenClaim := { program := "ytonhkbgielilbaa", sum := "46e8ec2aa32316661a5c1e00aa1cc645d26df5686d112c39dafeb26a0e856b58", func := "rheostat/rheostatlaw19.CycleNexts", spec := "cycleNexts", unfollowed := true, recurses := true, apart := false }
def CycleNextsSaid : Prop := cycleNextsRow.holds Try.pinned (OpenSpec.ofChange cycleNextsSpec)

/-- ITS FALSE NEIGHBOUR: 'it returns false'. Refute it at one input. -/
def cycleNextsWrong : ChangeSpec := { name := "cycleNexts", fn := fun _ => fun
  | [d] => { results := [.lit (.bool false)], args := [d] }
  | _ => none }
def CycleNextsWrongFalsely : Prop := cycleNextsRow.holds Try.pinned (OpenSpec.ofChange cycleNextsWrong)

/-- 'rheostatlaw19.CycleExact': WHATEVER THE INPUT: true; the input reads as it did. -/
def cycleExactSpec : ChangeSpec := { name := "cycleExact", fn := fun _ => fun
  | [d1, d2] => { results := [.lit (.bool true)], args := [d1, d2] }
  | _ => none }
def cycleExactRow : OpenClaim := { program := "ytonhkbgielilbaa", sum := "46e8ec2aa32316661a5c1e00aa1cc645d26df5686d112c39dafeb26a0e856b58", func := "rheostat/rheostatlaw19.CycleExact", spec := "cycleExact", unfollowed := true, recurses := true, apart := false }
def CycleExactSaid : Prop := cycleExactRow.holds Try.pinned (OpenSpec.ofChange cycleExactSpec)

/-- ITS FALSE NEIGHBOUR: 'it returns false'. Refute it at one input. -/
def cycleExactWrong : ChangeSpec := { name := "cycleExact", fn := fun _ => fun
  | [d1, d2] => { results := [.lit (.bool false)], args := [d1, d2] }
  | _ => none }
def CycleExactWrongFalsely : Prop := cycleExactRow.holds Try.pinned (OpenSpec.ofChange cycleExactWrong)

/-- 'rheostatlaw19.CycleKeeps': WHATEVER THE INPUT: true; the input reads as it did. -/
def cycleKeepsSpec : ChangeSpec := { name := "cycleKeeps", fn := fun _ => fun
  | [d1, d2] => { results := [.lit (.bool true)], args := [d1, d2] }
  | _ => none }
def cycleKeepsRow : OpenClaim := { program := "ytonhkbgielilbaa", sum := "46e8ec2aa32316661a5c1e00aa1cc645d26df5686d112c39dafeb26a0e856b58", func := "rheostat/rheostatlaw19.CycleKeeps", spec := "cycleKeeps", unfollowed := true, recurses := true, apart := false }
def CycleKeepsSaid : Prop := cycleKeepsRow.holds Try.pinned (OpenSpec.ofChange cycleKeepsSpec)

/-- ITS FALSE NEIGHBOUR: 'it returns false'. Refute it at one input. -/
def cycleKeepsWrong : ChangeSpec := { name := "cycleKeeps", fn := fun _ => fun
  | [d1, d2] => { results := [.lit (.bool false)], args := [d1, d2] }
  | _ => none }
def CycleKeepsWrongFalsely : Prop := cycleKeepsRow.holds Try.pinned (OpenSpec.ofChange cycleKeepsWrong)

/-- 'rheostatlaw19.CycleComes': WHATEVER THE INPUT: true; the input reads as it did. -/
def cycleComesSpec : ChangeSpec := { name := "cycleComes", fn := fun _ => fun
  | [d1, d2] => { results := [.lit (.bool true)], args := [d1, d2] }
  | _ => none }
def cycleComesRow : OpenClaim := { program := "ytonhkbgielilbaa", sum := "46e8ec2aa32316661a5c1e00aa1cc645d26df5686d112c39dafeb26a0e856b58", func := "rheostat/rheostatlaw19.CycleComes", spec := "cycleComes", unfollowed := true, recurses := true, apart := false }
def CycleComesSaid : Prop := cycleComesRow.holds Try.pinned (OpenSpec.ofChange cycleComesSpec)

/-- ITS FALSE NEIGHBOUR: 'it returns false'. Refute it at one input. -/
def cycleComesWrong : ChangeSpec := { name := "cycleComes", fn := fun _ => fun
  | [d1, d2] => { results := [.lit (.bool false)], args := [d1, d2] }
  | _ => none }
def CycleComesWrongFalsely : Prop := cycleComesRow.holds Try.pinned (OpenSpec.ofChange cycleComesWrong)

/- THE SECOND FORM. 'bulk': how many values and letters a reading holds, each counted each time it is reached (what is shared counts as often as it is met; a slice's spare places count too). A statement '..UptoSaid' is the law's where the arguments, and the package variables that the reading takes, are together of bulk at most 1048576: NARROWER than '..Said'. Prove '..Said' where nothing that the law and all that it calls make is longer than what came in: it says more and counts as full. Else prove '..UptoSaid'. A law counts once. -/
mutual
def uptoBulk {H : Type} : DataW H → Nat
  | .lit (.string bytes) => bytes.length + 1
  | .lit _ => 1
  | .nil => 1
  | .ptr d => uptoBulk d + 1
  | .slice elems spare => uptoBulkAll elems + uptoBulkAll spare + 1
  | .agg parts => uptoBulkAll parts + 1
  | .iface _ d => uptoBulk d + 1
  | .map entries => uptoBulkEntries entries + 1
  | .held _ => 1
def uptoBulkAll {H : Type} : List (DataW H) → Nat
  | [] => 0
  | d :: r => uptoBulk d + uptoBulkAll r
def uptoBulkEntries {H : Type} : List (Lit × DataW H) → Nat
  | [] => 0
  | x :: r => uptoBulkEntry x + uptoBulkEntries r
def uptoBulkEntry {H : Type} : Lit × DataW H → Nat
  | (.string bytes, d) => bytes.length + uptoBulk d + 1
  | (_, d) => uptoBulk d + 1
 end
def uptoSmall : (H : Type) → List (DataW H) → Bool := fun _ ds => decide (uptoBulkAll ds ≤ 1048576)
def OpenSpec.upto (s : _root_.Go.ChangeSpec) : _root_.Go.OpenSpec := { _root_.Go.OpenSpec.ofChange s with cond := some uptoSmall }

/-- 'rheostatlaw16.RestSteps', WHERE WHAT IT READS IS OF BULK AT MOST 1048576: true; the input reads as it did. -/
def restStepsUptoRow : OpenClaim := { program := "ytonhkbgielilbaa", sum := "46e8ec2aa32316661a5c1e00aa1cc645d26df5686d112c39dafeb26a0e856b58", func := "rheostat/rheostatlaw16.RestSteps", spec := "restSteps", apart := false, narrowed := true }
def RestStepsUptoSaid : Prop := restStepsUptoRow.holds Try.pinned (OpenSpec.upto restStepsSpec)

/-- 'rheostatlaw16.RestTells', WHERE WHAT IT READS IS OF BULK AT MOST 1048576: true; the input reads as it did. -/
def restTellsUptoRow : OpenClaim := { program := "ytonhkbgielilbaa", sum := "46e8ec2aa32316661a5c1e00aa1cc645d26df5686d112c39dafeb26a0e856b58", func := "rheostat/rheostatlaw16.RestTells", spec := "restTells", apart := false, narrowed := true }
def RestTellsUptoSaid : Prop := restTellsUptoRow.holds Try.pinned (OpenSpec.upto restTellsSpec)

/-- 'rheostatlaw16.RestRuns', WHERE WHAT IT READS IS OF BULK AT MOST 1048576: true; the input reads as it did. -/
def restRunsUptoRow : OpenClaim := { program := "ytonhkbgielilbaa", sum := "46e8ec2aa32316661a5c1e00aa1cc645d26df5686d112c39dafeb26a0e856b58", func := "rheostat/rheostatlaw16.RestRuns", spec := "restRuns", apart := false, narrowed := true }
def RestRunsUptoSaid : Prop := restRunsUptoRow.holds Try.pinned (OpenSpec.upto restRunsSpec)

/-- 'rheostatlaw16.RestStill', WHERE WHAT IT READS IS OF BULK AT MOST 1048576: true; the input reads as it did. -/
def restStillUptoRow : OpenClaim := { program := "ytonhkbgielilbaa", sum := "46e8ec2aa32316661a5c1e00aa1cc645d26df5686d112c39dafeb26a0e856b58", func := "rheostat/rheostatlaw16.RestStill", spec := "restStill", apart := false, narrowed := true }
def RestStillUptoSaid : Prop := restStillUptoRow.holds Try.pinned (OpenSpec.upto restStillSpec)

/-- 'rheostatlaw16.RestWider', WHERE WHAT IT READS IS OF BULK AT MOST 1048576: true; the input reads as it did. -/
def restWiderUptoRow : OpenClaim := { program := "ytonhkbgielilbaa", sum := "46e8ec2aa32316661a5c1e00aa1cc645d26df5686d112c39dafeb26a0e856b58", func := "rheostat/rheostatlaw16.RestWider", spec := "restWider", apart := false, narrowed := true }
def RestWiderUptoSaid : Prop := restWiderUptoRow.holds Try.pinned (OpenSpec.upto restWiderSpec)

/-- 'rheostatlaw19.CycleSteps', WHERE WHAT IT READS IS OF BULK AT MOST 1048576: true; the input reads as it did. -/
def cycleStepsUptoRow : OpenClaim := { program := "ytonhkbgielilbaa", sum := "46e8ec2aa32316661a5c1e00aa1cc645d26df5686d112c39dafeb26a0e856b58", func := "rheostat/rheostatlaw19.CycleSteps", spec := "cycleSteps", unfollowed := true, recurses := true, apart := false, narrowed := true }
def CycleStepsUptoSaid : Prop := cycleStepsUptoRow.holds Try.pinned (OpenSpec.upto cycleStepsSpec)

/-- 'rheostatlaw19.CycleNexts', WHERE WHAT IT READS IS OF BULK AT MOST 1048576: true; the input reads as it did. -/
def cycleNextsUptoRow : OpenClaim := { program := "ytonhkbgielilbaa", sum := "46e8ec2aa32316661a5c1e00aa1cc645d26df5686d112c39dafeb26a0e856b58", func := "rheostat/rheostatlaw19.CycleNexts", spec := "cycleNexts", unfollowed := true, recurses := true, apart := false, narrowed := true }
def CycleNextsUptoSaid : Prop := cycleNextsUptoRow.holds Try.pinned (OpenSpec.upto cycleNextsSpec)

/-- 'rheostatlaw19.CycleExact', WHERE WHAT IT READS IS OF BULK AT MOST 1048576: true; the input reads as it did. -/
def cycleExactUptoRow : OpenClaim := { program := "ytonhkbgielilbaa", sum := "46e8ec2aa32316661a5c1e00aa1cc645d26df5686d112c39dafeb26a0e856b58", func := "rheostat/rheostatlaw19.CycleExact", spec := "cycleExact", unfollowed := true, recurses := true, apart := false, narrowed := true }
def CycleExactUptoSaid : Prop := cycleExactUptoRow.holds Try.pinned (OpenSpec.upto cycleExactSpec)

/-- 'rheostatlaw19.CycleKeeps', WHERE WHAT IT READS IS OF BULK AT MOST 1048576: true; the input reads as it did. -/
def cycleKeepsUptoRow : OpenClaim := { program := "ytonhkbgielilbaa", sum := "46e8ec2aa32316661a5c1e00aa1cc645d26df5686d112c39dafeb26a0e856b58", func := "rheostat/rheostatlaw19.CycleKeeps", spec := "cycleKeeps", unfollowed := true, recurses := true, apart := false, narrowed := true }
def CycleKeepsUptoSaid : Prop := cycleKeepsUptoRow.holds Try.pinned (OpenSpec.upto cycleKeepsSpec)

/-- 'rheostatlaw19.CycleComes', WHERE WHAT IT READS IS OF BULK AT MOST 1048576: true; the input reads as it did. -/
def cycleComesUptoRow : OpenClaim := { program := "ytonhkbgielilbaa", sum := "46e8ec2aa32316661a5c1e00aa1cc645d26df5686d112c39dafeb26a0e856b58", func := "rheostat/rheostatlaw19.CycleComes", spec := "cycleComes", unfollowed := true, recurses := true, apart := false, narrowed := true }
def CycleComesUptoSaid : Prop := cycleComesUptoRow.holds Try.pinned (OpenSpec.upto cycleComesSpec)

end Rows
end Go.Proofs.Ytonhkbgielilbaa
