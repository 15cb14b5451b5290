/-
  NARROWER THAN 'FOR EVERY INPUT', by the rows' own cells (each row's printed sentence says how): CrcTells: laid · CrcPieces: laid · CrcFinds: laid · CrcEnds: laid.
  DERIVED. THE GIVEN ROWS OF THIS SEAT. 4 by the template 'for every input the law returns true; each argument reads behind the call as it read before'; 0 by the template 'total and deterministic' (their statements: YtfebnnjdkkcphaaDoorTotals.lean).
  GIVEN WITH THE SEED: the statements are not yours to turn. If you find one false, say at which input.
  Laid BY PROGRAM, IN A SANDBOX (cutbox-rows.mjs): the forced cells as the released guide's own fill.sh prints them over the translation 38dc8f5758b7bcdb… (all of the seat's roots in one cut). By AI agents, Wed Nov 11 2026. No macro, syntax, notation, axiom, sorry.
-/
import Derived.Test.YtfebnnjdkkcphaaDoorChecked
import GoSem.Claim
import GoSem.ClaimJoined
import GoSem.ClaimMapViews
import Derived.JoinedTies
import Derived.KernelRfl
namespace Go.Proofs.YtfebnnjdkkcphaaDoor
/- THE CELL 'sum', in the pinned program and in every row, IS THE sha256 OF THE DUMP (.gsa) THAT YtfebnnjdkkcphaaDoorProg.lean LOADS. Nothing in Lean hashes anything: it is a label: what it is worth is what the hold of that sum in a sandbox is worth. -/
noncomputable def Tryd.pinned : Pinned := { name := "ytfebnnjdkkcphaadoor", sum := "38dc8f5758b7bcdbc6ff8188eab14fb6b72a43b07fce85db63286444bff77a1a", checked := Tryd.checked }
namespace Rows
def none {H : Type} : Left H := { results := [], args := [] }

/- WHAT THE LISTED PACKAGE-LEVEL VARIABLES READ AS WHEN THE CALL BEGINS. Each datum BY PROGRAM (the guide's laid-datum.mjs) off the statement by which the dump's own 'gosem.cut.vars' lays the variable. In a bare row this is a premise. The card (YtfebnnjdkkcphaaDoorCards.lean) ties it to the program's text. -/
def laid_rheostat_crc_nibbles {H : Type} : DataW H := .agg [.lit (.int .i64 0), .lit (.int .i64 4129), .lit (.int .i64 8258), .lit (.int .i64 12387), .lit (.int .i64 16516), .lit (.int .i64 20645), .lit (.int .i64 24774), .lit (.int .i64 28903), .lit (.int .i64 33032), .lit (.int .i64 37161), .lit (.int .i64 41290), .lit (.int .i64 45419), .lit (.int .i64 49548), .lit (.int .i64 53677), .lit (.int .i64 57806), .lit (.int .i64 61935)]

/-- 'rheostatlaw02.CrcTells': WHATEVER THE INPUT: true; the input reads as it did. -/
def crcTellsSpec : ChangeSpec := { name := "crcTells", fn := fun _ => fun
  | [d1, d2] => { results := [.lit (.bool true)], args := [d1, d2] }
  | _ => none }
def crcTellsRow : OpenClaim := { program := "ytfebnnjdkkcphaadoor", sum := "38dc8f5758b7bcdbc6ff8188eab14fb6b72a43b07fce85db63286444bff77a1a", func := "rheostat/rheostatlaw02.CrcTells", spec := "crcTells", named := ["rheostat/crc.nibbles"], apart := false, laid := [("rheostat/crc.nibbles", laid_rheostat_crc_nibbles)] }
def CrcTellsSaid : Prop := crcTellsRow.holds Tryd.pinned (OpenSpec.ofChange crcTellsSpec)

/-- ITS FALSE NEIGHBOUR: 'it returns false'. Refute it at one input. -/
def crcTellsWrong : ChangeSpec := { name := "crcTells", fn := fun _ => fun
  | [d1, d2] => { results := [.lit (.bool false)], args := [d1, d2] }
  | _ => none }
def CrcTellsWrongFalsely : Prop := crcTellsRow.holds Tryd.pinned (OpenSpec.ofChange crcTellsWrong)

/-- 'rheostatlaw02.CrcPieces': WHATEVER THE INPUT: true; the input reads as it did. -/
def crcPiecesSpec : ChangeSpec := { name := "crcPieces", fn := fun _ => fun
  | [d1, d2] => { results := [.lit (.bool true)], args := [d1, d2] }
  | _ => none }
def crcPiecesRow : OpenClaim := { program := "ytfebnnjdkkcphaadoor", sum := "38dc8f5758b7bcdbc6ff8188eab14fb6b72a43b07fce85db63286444bff77a1a", func := "rheostat/rheostatlaw02.CrcPieces", spec := "crcPieces", named := ["rheostat/crc.nibbles"], apart := false, laid := [("rheostat/crc.nibbles", laid_rheostat_crc_nibbles)] }
def CrcPiecesSaid : Prop := crcPiecesRow.holds Tryd.pinned (OpenSpec.ofChange crcPiecesSpec)

/-- ITS FALSE NEIGHBOUR: 'it returns false'. Refute it at one input. -/
def crcPiecesWrong : ChangeSpec := { name := "crcPieces", fn := fun _ => fun
  | [d1, d2] => { results := [.lit (.bool false)], args := [d1, d2] }
  | _ => none }
def CrcPiecesWrongFalsely : Prop := crcPiecesRow.holds Tryd.pinned (OpenSpec.ofChange crcPiecesWrong)

/-- 'rheostatlaw02.CrcFinds': WHATEVER THE INPUT: true; the input reads as it did. -/
def crcFindsSpec : ChangeSpec := { name := "crcFinds", fn := fun _ => fun
  | [d1, d2, d3, d4] => { results := [.lit (.bool true)], args := [d1, d2, d3, d4] }
  | _ => none }
def crcFindsRow : OpenClaim := { program := "ytfebnnjdkkcphaadoor", sum := "38dc8f5758b7bcdbc6ff8188eab14fb6b72a43b07fce85db63286444bff77a1a", func := "rheostat/rheostatlaw02.CrcFinds", spec := "crcFinds", named := ["rheostat/crc.nibbles"], apart := false, laid := [("rheostat/crc.nibbles", laid_rheostat_crc_nibbles)] }
def CrcFindsSaid : Prop := crcFindsRow.holds Tryd.pinned (OpenSpec.ofChange crcFindsSpec)

/-- ITS FALSE NEIGHBOUR: 'it returns false'. Refute it at one input. -/
def crcFindsWrong : ChangeSpec := { name := "crcFinds", fn := fun _ => fun
  | [d1, d2, d3, d4] => { results := [.lit (.bool false)], args := [d1, d2, d3, d4] }
  | _ => none }
def CrcFindsWrongFalsely : Prop := crcFindsRow.holds Tryd.pinned (OpenSpec.ofChange crcFindsWrong)

/-- 'rheostatlaw02.CrcEnds': WHATEVER THE INPUT: true; the input reads as it did. -/
def crcEndsSpec : ChangeSpec := { name := "crcEnds", fn := fun _ => fun
  | [d1, d2] => { results := [.lit (.bool true)], args := [d1, d2] }
  | _ => none }
def crcEndsRow : OpenClaim := { program := "ytfebnnjdkkcphaadoor", sum := "38dc8f5758b7bcdbc6ff8188eab14fb6b72a43b07fce85db63286444bff77a1a", func := "rheostat/rheostatlaw02.CrcEnds", spec := "crcEnds", named := ["rheostat/crc.nibbles"], apart := false, laid := [("rheostat/crc.nibbles", laid_rheostat_crc_nibbles)] }
def CrcEndsSaid : Prop := crcEndsRow.holds Tryd.pinned (OpenSpec.ofChange crcEndsSpec)

/-- ITS FALSE NEIGHBOUR: 'it returns false'. Refute it at one input. -/
def crcEndsWrong : ChangeSpec := { name := "crcEnds", fn := fun _ => fun
  | [d1, d2] => { results := [.lit (.bool false)], args := [d1, d2] }
  | _ => none }
def CrcEndsWrongFalsely : Prop := crcEndsRow.holds Tryd.pinned (OpenSpec.ofChange crcEndsWrong)

/- THE SECOND FORM. 'bulk': how many values and letters a reading holds, each counted each time it is reached (what is shared counts as often as it is met; a slice's spare places count too). A statement '..UptoSaid' is the law's where the arguments, and the package variables that the reading takes, are together of bulk at most 1048576: NARROWER than '..Said'. Prove '..Said' where nothing that the law and all that it calls make is longer than what came in: it says more and counts as full. Else prove '..UptoSaid'. A law counts once. -/
mutual
def uptoBulk {H : Type} : DataW H → Nat
  | .lit (.string bytes) => bytes.length + 1
  | .lit _ => 1
  | .nil => 1
  | .ptr d => uptoBulk d + 1
  | .slice elems spare => uptoBulkAll elems + uptoBulkAll spare + 1
  | .agg parts => uptoBulkAll parts + 1
  | .iface _ d => uptoBulk d + 1
  | .map entries => uptoBulkEntries entries + 1
  | .held _ => 1
def uptoBulkAll {H : Type} : List (DataW H) → Nat
  | [] => 0
  | d :: r => uptoBulk d + uptoBulkAll r
def uptoBulkEntries {H : Type} : List (Lit × DataW H) → Nat
  | [] => 0
  | x :: r => uptoBulkEntry x + uptoBulkEntries r
def uptoBulkEntry {H : Type} : Lit × DataW H → Nat
  | (.string bytes, d) => bytes.length + uptoBulk d + 1
  | (_, d) => uptoBulk d + 1
 end
def uptoSmall : (H : Type) → List (DataW H) → Bool := fun _ ds => decide (uptoBulkAll ds ≤ 1048576)
def OpenSpec.upto (s : _root_.Go.ChangeSpec) : _root_.Go.OpenSpec := { _root_.Go.OpenSpec.ofChange s with cond := some uptoSmall }

/-- 'rheostatlaw02.CrcTells', WHERE WHAT IT READS IS OF BULK AT MOST 1048576: true; the input reads as it did. -/
def crcTellsUptoRow : OpenClaim := { program := "ytfebnnjdkkcphaadoor", sum := "38dc8f5758b7bcdbc6ff8188eab14fb6b72a43b07fce85db63286444bff77a1a", func := "rheostat/rheostatlaw02.CrcTells", spec := "crcTells", named := ["rheostat/crc.nibbles"], apart := false, laid := [("rheostat/crc.nibbles", laid_rheostat_crc_nibbles)], narrowed := true }
def CrcTellsUptoSaid : Prop := crcTellsUptoRow.holds Tryd.pinned (OpenSpec.upto crcTellsSpec)

/-- 'rheostatlaw02.CrcPieces', WHERE WHAT IT READS IS OF BULK AT MOST 1048576: true; the input reads as it did. -/
def crcPiecesUptoRow : OpenClaim := { program := "ytfebnnjdkkcphaadoor", sum := "38dc8f5758b7bcdbc6ff8188eab14fb6b72a43b07fce85db63286444bff77a1a", func := "rheostat/rheostatlaw02.CrcPieces", spec := "crcPieces", named := ["rheostat/crc.nibbles"], apart := false, laid := [("rheostat/crc.nibbles", laid_rheostat_crc_nibbles)], narrowed := true }
def CrcPiecesUptoSaid : Prop := crcPiecesUptoRow.holds Tryd.pinned (OpenSpec.upto crcPiecesSpec)

/-- 'rheostatlaw02.CrcFinds', WHERE WHAT IT READS IS OF BULK AT MOST 1048576: true; the input reads as it did. -/
def crcFindsUptoRow : OpenClaim := { program := "ytfebnnjdkkcphaadoor", sum := "38dc8f5758b7bcdbc6ff8188eab14fb6b72a43b07fce85db63286444bff77a1a", func := "rheostat/rheostatlaw02.CrcFinds", spec := "crcFinds", named := ["rheostat/crc.nibbles"], apart := false, laid := [("rheostat/crc.nibbles", laid_rheostat_crc_nibbles)], narrowed := true }
def CrcFindsUptoSaid : Prop := crcFindsUptoRow.holds Tryd.pinned (OpenSpec.upto crcFindsSpec)

/-- 'rheostatlaw02.CrcEnds', WHERE WHAT IT READS IS OF BULK AT MOST 1048576: true; the input reads as it did. -/
def crcEndsUptoRow : OpenClaim := { program := "ytfebnnjdkkcphaadoor", sum := "38dc8f5758b7bcdbc6ff8188eab14fb6b72a43b07fce85db63286444bff77a1a", func := "rheostat/rheostatlaw02.CrcEnds", spec := "crcEnds", named := ["rheostat/crc.nibbles"], apart := false, laid := [("rheostat/crc.nibbles", laid_rheostat_crc_nibbles)], narrowed := true }
def CrcEndsUptoSaid : Prop := crcEndsUptoRow.holds Tryd.pinned (OpenSpec.upto crcEndsSpec)

end Rows
end Go.Proofs.YtfebnnjdkkcphaaDoor
