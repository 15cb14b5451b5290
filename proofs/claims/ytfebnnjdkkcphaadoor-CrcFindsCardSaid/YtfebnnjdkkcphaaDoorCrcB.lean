/- Four bits at a time are four times one bit: each of the 65536 sums. -/
import Derived.Test.YtfebnnjdkkcphaaDoorHcrc
namespace Go.Proofs.YtfebnnjdkkcphaaDoor.CrcL
open Go.Proofs.YtfebnnjdkkcphaaDoor.Hand
/-- One bit. -/
def bitN (s : Nat) : Nat := if 32768 ≤ s then (2 * (s - 32768)) ^^^ 4129 else 2 * s
def nibN (i : Nat) : Nat := (nib (i : Int)).toNat
theorem four_bits : ∀ h : Fin 256, ∀ l : Fin 256, (((h.val * 256 + l.val) * 16 % 65536) ^^^ nibN ((h.val * 256 + l.val) / 4096)) = bitN (bitN (bitN (bitN (h.val * 256 + l.val)))) := by decide +kernel
end Go.Proofs.YtfebnnjdkkcphaaDoor.CrcL
