/- A reckoner over Go's operations: what its user needs. -/
import Derived.Test.YtonhkbgielilbaaR21
import Derived.KernelRfl
import Derived.Below
namespace Go.Proofs.Ytonhkbgielilbaa.Rig
open Go
def Tree.Gives : Tree (AV × Mem) → AV → Mem → Prop
  | .ret a, v, M => a.1.le v ∧ Mem.le a.2 M
  | .br b t e, v, M => (b = true → t.Gives v M) ∧ (b = false → e.Gives v M)
  | .chk p t, v, M => p ∧ t.Gives v M
  | .fail, _, _ => False
theorem Tree.Gives.runs : ∀ {t : Tree (AV × Mem)} {v : AV} {M : Mem}, t.Gives v M → ∃ r, t.runs r ∧ r.1.le v ∧ Mem.le r.2 M
  | .ret a, v, M, h => ⟨a, rfl, h⟩
  | .br b t e, v, M, h => by
    cases b
    · obtain ⟨r, h1, h2⟩ := (h.2 rfl).runs
      exact ⟨r, ⟨fun hb => (by cases hb), fun _ => h1⟩, h2⟩
    · obtain ⟨r, h1, h2⟩ := (h.1 rfl).runs
      exact ⟨r, ⟨fun _ => h1, fun hb => (by cases hb)⟩, h2⟩
  | .chk p t, v, M, h => by
    obtain ⟨r, h1, h2⟩ := h.2.runs
    exact ⟨r, ⟨h.1, h1⟩, h2⟩
theorem SoundAt.le {C : Ctx} {f : FuncId} {args : List AV} {M : Mem} {r : AV × Mem} (h : SoundAt C f args M r) {v : AV} {M' : Mem} (h1 : r.1.le v) (h2 : Mem.le r.2 M') : SoundAt C f args M (v, M') := by
  intro σ w vals ha hr hg hng
  obtain ⟨he, hc⟩ := h σ w vals ha hr hg hng
  refine ⟨he, hc.mono fun e w' hp => ?_⟩
  obtain ⟨val, σ', rfl, h3, h4⟩ := hp
  exact ⟨val, σ', rfl, h1.imp _ _ h3, h4.le h2⟩
/-- Out of what the reckoning of a body gives. -/
theorem SoundAt.of_body {C : Ctx} {callF : FuncId → List AV → Mem → Tree (AV × Mem)} (hC : CallOk C callF) (hmix : C.P.follows .mixedOrders = true) {f : FuncId} {args : List AV} {M : Mem}
    (hL : ∀ fn c, C.P.funcs[f]? = some fn → fn.body = some c → ∀ b ∈ loopsIn c, (C.keep f (Code.key b)).isSome = true → LoopOk C f M.length b) {T : Tree (AV × Mem)} (hT : evBody C callF f args M = T) {v : AV} {M' : Mem} (h : T.Gives v M') : SoundAt C f args M (v, M') := by
  obtain ⟨r, h1, h2, h3⟩ := h.runs
  exact (body_ok hC hmix hL (by rw [hT]; exact h1)).le h2 h3
theorem w64 (n : Int) : IntKind.i64.wrap n = (n + 9223372036854775808) % 18446744073709551616 - 9223372036854775808 := by
  simp [IntKind.wrap, IntKind.bits, IntKind.signed]
  split <;> omega
theorem w64_id {n : Int} (h : -9223372036854775808 ≤ n) (h' : n ≤ 9223372036854775807) : IntKind.i64.wrap n = n := by rw [w64]; omega
theorem wu64 (n : Int) : IntKind.u64.wrap n = n % 18446744073709551616 := by
  simp [IntKind.wrap, IntKind.bits, IntKind.signed]
/-- At the top: nothing that was there is turned. -/
theorem SoundAt.top {C : Ctx} {f : FuncId} {args : List AV} {M : Mem} {M' : Mem} {c : Bool} (h : SoundAt C f args M (.bool c true, M')) (hro : ∀ i b, M.at i = some b → b.rw = false) {σ : Sig} {w : World} {vals : List Value}
    (ha : RepL σ args vals) (hr : Rel C.P σ M w) (hg : GlOk C σ) (hng : C.ng ≤ M.length) : Calls C.P f vals.toArray w fun e w' => e = .returned (.bool true) ∧ RowKit.Below w.heap.size w w' := by
  refine (h σ w vals ha hr hg hng).2.mono fun e w' hp => ?_
  obtain ⟨val, σ', rfl, hv, hm⟩ := hp
  simp only [Rep] at hv
  subst hv
  refine ⟨rfl, hm.kept.os, hm.kept.tape, hm.kept.output, hm.kept.size, fun k hk => hm.kept.block k hk fun hf => ?_⟩
  obtain ⟨i, b, x, h1, _, h3, _⟩ := hf
  rw [hro i b h1] at h3; cases h3
theorem Rel.empty (P : Program) (w : World) : Rel P (fun _ => none) [] w := ⟨fun _ _ => rfl, fun i b h => by simp [Mem.at] at h, fun i j bi bj x y h => by simp [Mem.at] at h⟩
theorem SoundAt.top0 {C : Ctx} {f : FuncId} {args : List AV} {c : Bool} (h : SoundAt C f args [] (.bool c true, [])) (hgl : ∀ g, C.gl g = none) (hng : C.ng = 0) {w : World} {vals : List Value} (ha : RepL (fun _ => none) args vals) :
    Calls C.P f vals.toArray w fun e w' => e = .returned (.bool true) ∧ RowKit.Below w.heap.size w w' :=
  h.top (fun i b h => by simp [Mem.at] at h) ha (Rel.empty C.P w) (fun g i h => by rw [hgl] at h; cases h) (by rw [hng]; exact Nat.zero_le _)
theorem wf64 {n : Int} (h : (Lit.int .i64 n).wf = true) : -9223372036854775808 ≤ n ∧ n ≤ 9223372036854775807 := by
  simp [Lit.wf, IntKind.min, IntKind.max, IntKind.signed, IntKind.bits] at h
  omega
theorem wfu64 {n : Int} (h : (Lit.int .u64 n).wf = true) : 0 ≤ n ∧ n ≤ 18446744073709551615 := by
  simp [Lit.wf, IntKind.min, IntKind.max, IntKind.signed, IntKind.bits] at h
  omega
end Go.Proofs.Ytonhkbgielilbaa.Rig
