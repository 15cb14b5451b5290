import Derived.Test.YtfebnnjdkkcphaaDoorPAllx13
import Derived.Test.YtfebnnjdkkcphaaDoorWSized
import Derived.Test.YtfebnnjdkkcphaaDoorOpen
namespace Go.Proofs.YtfebnnjdkkcphaaDoor.Stat
open Go.RowKit Go.Proofs.YtfebnnjdkkcphaaDoor.PAll Go.Proofs.YtfebnnjdkkcphaaDoorW.PrintWords Go.Proofs.YtfebnnjdkkcphaaDoorW.PrintLast
set_option linter.unusedVariables false

/-- The one pure statement of rheostat/rheostatlaw02.CrcFinds. -/
def CrcFinds.Pure : Prop := ∀ (l0 : List Int) (a1 : Int) (a2 : Int) (a3 : Int), l0.length ≤ maxLen → l0.length * 8 ≤ 140737488351232 → (∀ x ∈ l0, (Lit.int .i64 x).wf = true) → (Lit.int .i64 a1).wf = true → (Lit.int .i64 a2).wf = true → (Lit.int .i64 a3).wf = true → ∃ k, rheostatlaw02_CrcFinds.f k l0 a1 a2 a3 = some true
theorem CrcFinds.walk (P : CrcFinds.Pure) (l0 : List Int) (a1 : Int) (a2 : Int) (a3 : Int) (A0 : Option Addr) (len0 cap0 : Nat) (w : World) (e0 : len0 = l0.length) (hr0 : ReadsInt w .i64 A0 l0.length l0) (m0 : l0.length ≤ maxLen) (y0 : l0.length * 8 ≤ 140737488351232) (wl0 : ∀ x ∈ l0, (Lit.int .i64 x).wf = true) (hc0 : l0.length ≤ cap0) (w1 : (Lit.int .i64 a1).wf = true) (w2 : (Lit.int .i64 a2).wf = true) (w3 : (Lit.int .i64 a3).wf = true) (hT : Hand.Tab w) :
    Calls Tryd.prog 5 #[.slice A0 len0 cap0, .int .i64 a1, .int .i64 a2, .int .i64 a3] w fun e w' => e = .returned (.bool true) ∧ Below w.heap.size w w' := by
  subst e0
  obtain ⟨k, h⟩ := P l0 a1 a2 a3 m0 y0 wl0 w1 w2 w3
  refine (rheostatlaw02_CrcFinds.calls k _ _ l0 a1 a2 a3 true w (Kd.C_of_reads (d := (0 : Int)) (h1 := fun _ => rfl) hr0) hc0 hT h).mono ?_
  rintro e w' ⟨rfl, hd⟩
  exact ⟨rfl, hd⟩
end Go.Proofs.YtfebnnjdkkcphaaDoor.Stat
