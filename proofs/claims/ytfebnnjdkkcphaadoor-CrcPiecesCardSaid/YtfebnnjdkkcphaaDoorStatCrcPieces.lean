import Derived.Test.YtfebnnjdkkcphaaDoorPAllx11
import Derived.Test.YtfebnnjdkkcphaaDoorWSized
import Derived.Test.YtfebnnjdkkcphaaDoorOpen
namespace Go.Proofs.YtfebnnjdkkcphaaDoor.Stat
open Go.RowKit Go.Proofs.YtfebnnjdkkcphaaDoor.PAll Go.Proofs.YtfebnnjdkkcphaaDoorW.PrintWords Go.Proofs.YtfebnnjdkkcphaaDoorW.PrintLast
set_option linter.unusedVariables false

/-- The one pure statement of rheostat/rheostatlaw02.CrcPieces. -/
def CrcPieces.Pure : Prop := ∀ (l0 : List Int) (l1 : List Int), l0.length ≤ maxLen → l0.length * 8 ≤ 140737488351232 → (∀ x ∈ l0, (Lit.int .i64 x).wf = true) → l1.length ≤ maxLen → l1.length * 8 ≤ 140737488351232 → (∀ x ∈ l1, (Lit.int .i64 x).wf = true) → ∃ k, rheostatlaw02_CrcPieces.f k l0 l1 = some true
theorem CrcPieces.walk (P : CrcPieces.Pure) (l0 : List Int) (l1 : List Int) (A0 : Option Addr) (len0 cap0 : Nat) (A1 : Option Addr) (len1 cap1 : Nat) (w : World) (e0 : len0 = l0.length) (hr0 : ReadsInt w .i64 A0 l0.length l0) (m0 : l0.length ≤ maxLen) (y0 : l0.length * 8 ≤ 140737488351232) (wl0 : ∀ x ∈ l0, (Lit.int .i64 x).wf = true) (hc0 : l0.length ≤ cap0) (e1 : len1 = l1.length) (hr1 : ReadsInt w .i64 A1 l1.length l1) (m1 : l1.length ≤ maxLen) (y1 : l1.length * 8 ≤ 140737488351232) (wl1 : ∀ x ∈ l1, (Lit.int .i64 x).wf = true) (hc1 : l1.length ≤ cap1) (hT : Hand.Tab w) :
    Calls Tryd.prog 4 #[.slice A0 len0 cap0, .slice A1 len1 cap1] w fun e w' => e = .returned (.bool true) ∧ Below w.heap.size w w' := by
  subst e0
  subst e1
  obtain ⟨k, h⟩ := P l0 l1 m0 y0 wl0 m1 y1 wl1
  refine (rheostatlaw02_CrcPieces.calls k _ _ l0 _ _ l1 true w (Kd.C_of_reads (d := (0 : Int)) (h1 := fun _ => rfl) hr0) hc0 (Kd.C_of_reads (d := (0 : Int)) (h1 := fun _ => rfl) hr1) hc1 hT h).mono ?_
  rintro e w' ⟨rfl, hd⟩
  exact ⟨rfl, hd⟩
end Go.Proofs.YtfebnnjdkkcphaaDoor.Stat
