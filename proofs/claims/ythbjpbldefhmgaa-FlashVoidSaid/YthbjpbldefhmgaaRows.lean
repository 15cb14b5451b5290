/-
  No cell of these rows narrows 'for every input' (looked for: loops, veiled, ifaces, maps, wideKeys, modest, calm, conditions, laid).
  DERIVED. THE GIVEN ROWS OF THIS SEAT. 5 by the template 'for every input the law returns true; each argument reads behind the call as it read before'; 0 by the template 'total and deterministic' (their statements: YthbjpbldefhmgaaTotals.lean).
  GIVEN WITH THE SEED: the statements are not yours to turn. If you find one false, say at which input.
  Laid BY PROGRAM, IN A SANDBOX (cutbox-rows.mjs): the forced cells as the released guide's own fill.sh prints them over the translation d0b79404942e00cf… (all of the seat's roots in one cut). By AI agents, Wed Nov 11 2026. No macro, syntax, notation, axiom, sorry.
-/
import Derived.Test.YthbjpbldefhmgaaChecked
import GoSem.Claim
import GoSem.ClaimJoined
import GoSem.ClaimMapViews
import Derived.JoinedTies
import Derived.KernelRfl
namespace Go.Proofs.Ythbjpbldefhmgaa
/- THE CELL 'sum', in the pinned program and in every row, IS THE sha256 OF THE DUMP (.gsa) THAT YthbjpbldefhmgaaProg.lean LOADS. Nothing in Lean hashes anything: it is a label: what it is worth is what the hold of that sum in a sandbox is worth. -/
noncomputable def Try.pinned : Pinned := { name := "ythbjpbldefhmgaa", sum := "d0b79404942e00cfdf752dc3cd732ffa1db16762ac3874b31905d5cff23e8851", checked := Try.checked }
namespace Rows
def none {H : Type} : Left H := { results := [], args := [] }

/-- 'rheostatlaw01.FlashBits': WHATEVER THE INPUT: true; the input reads as it did. -/
def flashBitsSpec : ChangeSpec := { name := "flashBits", fn := fun _ => fun
  | [d1, d2, d3] => { results := [.lit (.bool true)], args := [d1, d2, d3] }
  | _ => none }
def flashBitsRow : OpenClaim := { program := "ythbjpbldefhmgaa", sum := "d0b79404942e00cfdf752dc3cd732ffa1db16762ac3874b31905d5cff23e8851", func := "rheostat/rheostatlaw01.FlashBits", spec := "flashBits", unfollowed := true, recurses := true, apart := false }
def FlashBitsSaid : Prop := flashBitsRow.holds Try.pinned (OpenSpec.ofChange flashBitsSpec)

/-- ITS FALSE NEIGHBOUR: 'it returns false'. Refute it at one input. -/
def flashBitsWrong : ChangeSpec := { name := "flashBits", fn := fun _ => fun
  | [d1, d2, d3] => { results := [.lit (.bool false)], args := [d1, d2, d3] }
  | _ => none }
def FlashBitsWrongFalsely : Prop := flashBitsRow.holds Try.pinned (OpenSpec.ofChange flashBitsWrong)

/-- 'rheostatlaw01.FlashErases': WHATEVER THE INPUT: true; the input reads as it did. -/
def flashErasesSpec : ChangeSpec := { name := "flashErases", fn := fun _ => fun
  | [d1, d2, d3] => { results := [.lit (.bool true)], args := [d1, d2, d3] }
  | _ => none }
def flashErasesRow : OpenClaim := { program := "ythbjpbldefhmgaa", sum := "d0b79404942e00cfdf752dc3cd732ffa1db16762ac3874b31905d5cff23e8851", func := "rheostat/rheostatlaw01.FlashErases", spec := "flashErases", unfollowed := true, recurses := true, apart := false }
def FlashErasesSaid : Prop := flashErasesRow.holds Try.pinned (OpenSpec.ofChange flashErasesSpec)

/-- ITS FALSE NEIGHBOUR: 'it returns false'. Refute it at one input. -/
def flashErasesWrong : ChangeSpec := { name := "flashErases", fn := fun _ => fun
  | [d1, d2, d3] => { results := [.lit (.bool false)], args := [d1, d2, d3] }
  | _ => none }
def FlashErasesWrongFalsely : Prop := flashErasesRow.holds Try.pinned (OpenSpec.ofChange flashErasesWrong)

/-- 'rheostatlaw01.FlashLoads': WHATEVER THE INPUT: true; the input reads as it did. -/
def flashLoadsSpec : ChangeSpec := { name := "flashLoads", fn := fun _ => fun
  | [d] => { results := [.lit (.bool true)], args := [d] }
  | _ => none }
def flashLoadsRow : OpenClaim := { program := "ythbjpbldefhmgaa", sum := "d0b79404942e00cfdf752dc3cd732ffa1db16762ac3874b31905d5cff23e8851", func := "rheostat/rheostatlaw01.FlashLoads", spec := "flashLoads", unfollowed := true, recurses := true, apart := false }
def FlashLoadsSaid : Prop := flashLoadsRow.holds Try.pinned (OpenSpec.ofChange flashLoadsSpec)

/-- ITS FALSE NEIGHBOUR: 'it returns false'. Refute it at one input. -/
def flashLoadsWrong : ChangeSpec := { name := "flashLoads", fn := fun _ => fun
  | [d] => { results := [.lit (.bool false)], args := [d] }
  | _ => none }
def FlashLoadsWrongFalsely : Prop := flashLoadsRow.holds Try.pinned (OpenSpec.ofChange flashLoadsWrong)

/-- 'rheostatlaw01.FlashCuts': WHATEVER THE INPUT: true; the input reads as it did. -/
def flashCutsSpec : ChangeSpec := { name := "flashCuts", fn := fun _ => fun
  | [d1, d2] => { results := [.lit (.bool true)], args := [d1, d2] }
  | _ => none }
def flashCutsRow : OpenClaim := { program := "ythbjpbldefhmgaa", sum := "d0b79404942e00cfdf752dc3cd732ffa1db16762ac3874b31905d5cff23e8851", func := "rheostat/rheostatlaw01.FlashCuts", spec := "flashCuts", unfollowed := true, recurses := true, apart := false }
def FlashCutsSaid : Prop := flashCutsRow.holds Try.pinned (OpenSpec.ofChange flashCutsSpec)

/-- ITS FALSE NEIGHBOUR: 'it returns false'. Refute it at one input. -/
def flashCutsWrong : ChangeSpec := { name := "flashCuts", fn := fun _ => fun
  | [d1, d2] => { results := [.lit (.bool false)], args := [d1, d2] }
  | _ => none }
def FlashCutsWrongFalsely : Prop := flashCutsRow.holds Try.pinned (OpenSpec.ofChange flashCutsWrong)

/-- 'rheostatlaw01.FlashVoid': WHATEVER THE INPUT: true; the input reads as it did. -/
def flashVoidSpec : ChangeSpec := { name := "flashVoid", fn := fun _ => fun
  | [d] => { results := [.lit (.bool true)], args := [d] }
  | _ => none }
def flashVoidRow : OpenClaim := { program := "ythbjpbldefhmgaa", sum := "d0b79404942e00cfdf752dc3cd732ffa1db16762ac3874b31905d5cff23e8851", func := "rheostat/rheostatlaw01.FlashVoid", spec := "flashVoid", unfollowed := true, recurses := true, apart := false }
def FlashVoidSaid : Prop := flashVoidRow.holds Try.pinned (OpenSpec.ofChange flashVoidSpec)

/-- ITS FALSE NEIGHBOUR: 'it returns false'. Refute it at one input. -/
def flashVoidWrong : ChangeSpec := { name := "flashVoid", fn := fun _ => fun
  | [d] => { results := [.lit (.bool false)], args := [d] }
  | _ => none }
def FlashVoidWrongFalsely : Prop := flashVoidRow.holds Try.pinned (OpenSpec.ofChange flashVoidWrong)

/- THE SECOND FORM. 'bulk': how many values and letters a reading holds, each counted each time it is reached (what is shared counts as often as it is met; a slice's spare places count too). A statement '..UptoSaid' is the law's where the arguments, and the package variables that the reading takes, are together of bulk at most 1048576: NARROWER than '..Said'. Prove '..Said' where nothing that the law and all that it calls make is longer than what came in: it says more and counts as full. Else prove '..UptoSaid'. A law counts once. -/
mutual
def uptoBulk {H : Type} : DataW H → Nat
  | .lit (.string bytes) => bytes.length + 1
  | .lit _ => 1
  | .nil => 1
  | .ptr d => uptoBulk d + 1
  | .slice elems spare => uptoBulkAll elems + uptoBulkAll spare + 1
  | .agg parts => uptoBulkAll parts + 1
  | .iface _ d => uptoBulk d + 1
  | .map entries => uptoBulkEntries entries + 1
  | .held _ => 1
def uptoBulkAll {H : Type} : List (DataW H) → Nat
  | [] => 0
  | d :: r => uptoBulk d + uptoBulkAll r
def uptoBulkEntries {H : Type} : List (Lit × DataW H) → Nat
  | [] => 0
  | x :: r => uptoBulkEntry x + uptoBulkEntries r
def uptoBulkEntry {H : Type} : Lit × DataW H → Nat
  | (.string bytes, d) => bytes.length + uptoBulk d + 1
  | (_, d) => uptoBulk d + 1
 end
def uptoSmall : (H : Type) → List (DataW H) → Bool := fun _ ds => decide (uptoBulkAll ds ≤ 1048576)
def OpenSpec.upto (s : _root_.Go.ChangeSpec) : _root_.Go.OpenSpec := { _root_.Go.OpenSpec.ofChange s with cond := some uptoSmall }

/-- 'rheostatlaw01.FlashBits', WHERE WHAT IT READS IS OF BULK AT MOST 1048576: true; the input reads as it did. -/
def flashBitsUptoRow : OpenClaim := { program := "ythbjpbldefhmgaa", sum := "d0b79404942e00cfdf752dc3cd732ffa1db16762ac3874b31905d5cff23e8851", func := "rheostat/rheostatlaw01.FlashBits", spec := "flashBits", unfollowed := true, recurses := true, apart := false, narrowed := true }
def FlashBitsUptoSaid : Prop := flashBitsUptoRow.holds Try.pinned (OpenSpec.upto flashBitsSpec)

/-- 'rheostatlaw01.FlashErases', WHERE WHAT IT READS IS OF BULK AT MOST 1048576: true; the input reads as it did. -/
def flashErasesUptoRow : OpenClaim := { program := "ythbjpbldefhmgaa", sum := "d0b79404942e00cfdf752dc3cd732ffa1db16762ac3874b31905d5cff23e8851", func := "rheostat/rheostatlaw01.FlashErases", spec := "flashErases", unfollowed := true, recurses := true, apart := false, narrowed := true }
def FlashErasesUptoSaid : Prop := flashErasesUptoRow.holds Try.pinned (OpenSpec.upto flashErasesSpec)

/-- 'rheostatlaw01.FlashLoads', WHERE WHAT IT READS IS OF BULK AT MOST 1048576: true; the input reads as it did. -/
def flashLoadsUptoRow : OpenClaim := { program := "ythbjpbldefhmgaa", sum := "d0b79404942e00cfdf752dc3cd732ffa1db16762ac3874b31905d5cff23e8851", func := "rheostat/rheostatlaw01.FlashLoads", spec := "flashLoads", unfollowed := true, recurses := true, apart := false, narrowed := true }
def FlashLoadsUptoSaid : Prop := flashLoadsUptoRow.holds Try.pinned (OpenSpec.upto flashLoadsSpec)

/-- 'rheostatlaw01.FlashCuts', WHERE WHAT IT READS IS OF BULK AT MOST 1048576: true; the input reads as it did. -/
def flashCutsUptoRow : OpenClaim := { program := "ythbjpbldefhmgaa", sum := "d0b79404942e00cfdf752dc3cd732ffa1db16762ac3874b31905d5cff23e8851", func := "rheostat/rheostatlaw01.FlashCuts", spec := "flashCuts", unfollowed := true, recurses := true, apart := false, narrowed := true }
def FlashCutsUptoSaid : Prop := flashCutsUptoRow.holds Try.pinned (OpenSpec.upto flashCutsSpec)

/-- 'rheostatlaw01.FlashVoid', WHERE WHAT IT READS IS OF BULK AT MOST 1048576: true; the input reads as it did. -/
def flashVoidUptoRow : OpenClaim := { program := "ythbjpbldefhmgaa", sum := "d0b79404942e00cfdf752dc3cd732ffa1db16762ac3874b31905d5cff23e8851", func := "rheostat/rheostatlaw01.FlashVoid", spec := "flashVoid", unfollowed := true, recurses := true, apart := false, narrowed := true }
def FlashVoidUptoSaid : Prop := flashVoidUptoRow.holds Try.pinned (OpenSpec.upto flashVoidSpec)

end Rows
end Go.Proofs.Ythbjpbldefhmgaa
