import Derived.Test.YtfebnnjdkkcphaaDoorPAllx9
import Derived.Test.YtfebnnjdkkcphaaDoorWSized
import Derived.Test.YtfebnnjdkkcphaaDoorOpen
namespace Go.Proofs.YtfebnnjdkkcphaaDoor.Stat
open Go.RowKit Go.Proofs.YtfebnnjdkkcphaaDoor.PAll Go.Proofs.YtfebnnjdkkcphaaDoorW.PrintWords Go.Proofs.YtfebnnjdkkcphaaDoorW.PrintLast
set_option linter.unusedVariables false

/-- The one pure statement of rheostat/rheostatlaw02.CrcTells. -/
def CrcTells.Pure : Prop := ∀ (a0 : Int) (l1 : List Int), (Lit.int .i64 a0).wf = true → l1.length ≤ maxLen → l1.length * 8 ≤ 140737488351232 → (∀ x ∈ l1, (Lit.int .i64 x).wf = true) → ∃ k, rheostatlaw02_CrcTells.f k a0 l1 = some true
theorem CrcTells.walk (P : CrcTells.Pure) (a0 : Int) (l1 : List Int) (A1 : Option Addr) (len1 cap1 : Nat) (w : World) (w0 : (Lit.int .i64 a0).wf = true) (e1 : len1 = l1.length) (hr1 : ReadsInt w .i64 A1 l1.length l1) (m1 : l1.length ≤ maxLen) (y1 : l1.length * 8 ≤ 140737488351232) (wl1 : ∀ x ∈ l1, (Lit.int .i64 x).wf = true) (hc1 : l1.length ≤ cap1) (hT : Hand.Tab w) :
    Calls Tryd.prog 3 #[.int .i64 a0, .slice A1 len1 cap1] w fun e w' => e = .returned (.bool true) ∧ Below w.heap.size w w' := by
  subst e1
  obtain ⟨k, h⟩ := P a0 l1 w0 m1 y1 wl1
  refine (rheostatlaw02_CrcTells.calls k a0 _ _ l1 true w (Kd.C_of_reads (d := (0 : Int)) (h1 := fun _ => rfl) hr1) hc1 hT h).mono ?_
  rintro e w' ⟨rfl, hd⟩
  exact ⟨rfl, hd⟩
end Go.Proofs.YtfebnnjdkkcphaaDoor.Stat
