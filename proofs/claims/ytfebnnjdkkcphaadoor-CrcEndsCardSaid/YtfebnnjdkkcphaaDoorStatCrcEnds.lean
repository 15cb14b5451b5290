import Derived.Test.YtfebnnjdkkcphaaDoorPAllx14
import Derived.Test.YtfebnnjdkkcphaaDoorWSized
import Derived.Test.YtfebnnjdkkcphaaDoorOpen
namespace Go.Proofs.YtfebnnjdkkcphaaDoor.Stat
open Go.RowKit Go.Proofs.YtfebnnjdkkcphaaDoor.PAll Go.Proofs.YtfebnnjdkkcphaaDoorW.PrintWords Go.Proofs.YtfebnnjdkkcphaaDoorW.PrintLast
set_option linter.unusedVariables false

/-- The one pure statement of rheostat/rheostatlaw02.CrcEnds. -/
def CrcEnds.Pure : Prop := ∀ (l0 : List Int) (a1 : Int), l0.length ≤ maxLen → l0.length * 8 ≤ 140737488351232 → (∀ x ∈ l0, (Lit.int .i64 x).wf = true) → (Lit.int .i64 a1).wf = true → ∃ k, rheostatlaw02_CrcEnds.f k l0 a1 = some true
theorem CrcEnds.walk (P : CrcEnds.Pure) (l0 : List Int) (a1 : Int) (A0 : Option Addr) (len0 cap0 : Nat) (w : World) (e0 : len0 = l0.length) (hr0 : ReadsInt w .i64 A0 l0.length l0) (m0 : l0.length ≤ maxLen) (y0 : l0.length * 8 ≤ 140737488351232) (wl0 : ∀ x ∈ l0, (Lit.int .i64 x).wf = true) (hc0 : l0.length ≤ cap0) (w1 : (Lit.int .i64 a1).wf = true) (hT : Hand.Tab w) :
    Calls Tryd.prog 6 #[.slice A0 len0 cap0, .int .i64 a1] w fun e w' => e = .returned (.bool true) ∧ Below w.heap.size w w' := by
  subst e0
  obtain ⟨k, h⟩ := P l0 a1 m0 y0 wl0 w1
  refine (rheostatlaw02_CrcEnds.calls k _ _ l0 a1 true w (Kd.C_of_reads (d := (0 : Int)) (h1 := fun _ => rfl) hr0) hc0 hT h).mono ?_
  rintro e w' ⟨rfl, hd⟩
  exact ⟨rfl, hd⟩
end Go.Proofs.YtfebnnjdkkcphaaDoor.Stat
