/- A reckoner over Go's operations: functions. -/
import Derived.Test.YtonhkbgielilbaaR19
namespace Go.Proofs.Ytonhkbgielilbaa.Rig
open Go
def SoundAt (C : Ctx) (f : FuncId) (args : List AV) (M : Mem) (r : AV × Mem) : Prop :=
  ∀ σ w vals, RepL σ args vals → Rel C.P σ M w → GlOk C σ → C.ng ≤ M.length → Enters C.P f ∧ Comes' C.P σ M w f vals.toArray r
section
variable {C : Ctx} {callF : FuncId → List AV → Mem → Tree (AV × Mem)} {σ0 : Sig} {M0 : Mem} {w0 : World} {ds : List Deferred} {σ : Sig} {st st' : St} {a : Act} {w : World}
theorem loadAV_var {P : Program} {M : Mem} {t : TypeId} {x v : AV} {vx : Value} (h : (loadAV P t x M).runs v) (hx : Rep σ x vx) (hr : Rel P σ M w) : ∃ ad val, vx = .pointer (some ad) ∧ (loadVar t ad).run P w = .ok val w ∧ Rep σ v val := by
  obtain ⟨val, h1, h2⟩ := loadAV_ok h hx hr
  have : ∃ ad, vx = .pointer (some ad) := by
    unfold loadAV at h
    split at h
    · simp only [Rep] at hx
      obtain ⟨x, _, rfl⟩ := hx
      exact ⟨_, rfl⟩
    · exact h.elim
  obtain ⟨ad, rfl⟩ := this
  exact ⟨ad, val, rfl, by simpa [Instr.loadAt, Instr.sureAddr] using h1, h2⟩
def resSem (tmps : Array Value) : ResultVar → Sem Value
  | .tmp t => pure (tmps.getD t undef)
  | .cell ad t => do loadVar t (← asAddr (tmps.getD ad undef))
theorem results_eq (fn : Func) (tmps : Array Value) : results fn tmps = (do
    let vs ← fn.results.mapM (resSem tmps)
    pure (if h : vs.size = 1 then vs[0] else .tuple vs)) := by
  unfold results
  congr 1
theorem resAll_ok (hok : StOk C σ st a w) : ∀ (l : List ResultVar) {vs : List AV}, (resAll C.P st l).runs vs → ∃ vals, RepL σ vs vals ∧ (l.mapM (resSem a.tmps)).run C.P w = .ok vals w
  | [], vs, h => by
    simp only [resAll, Tree.runs] at h
    subst h
    exact ⟨[], RepL.nil, by simp⟩
  | r :: l, vs, h => by
    simp only [resAll] at h
    obtain ⟨v, h1, h2⟩ := Tree.runs_bind h
    obtain ⟨vs', h3, h4⟩ := Tree.runs_bind h2
    simp only [Tree.runs] at h4
    subst h4
    obtain ⟨vals, g1, g2⟩ := resAll_ok hok l h3
    cases r with
    | tmp t =>
      simp only [resAV, Tree.runs] at h1
      subst h1
      exact ⟨_, RepL.cons (hok.env.getD t) g1, by simp only [List.mapM_cons, Sem.run_bind, resSem, Sem.run_pure, Result.andThen_ok, g2]⟩
    | cell ad t =>
      simp only [resAV] at h1
      obtain ⟨p, val, e1, e2, e3⟩ := loadAV_var h1 (hok.env.getD ad) hok.rel
      exact ⟨_, RepL.cons e3 g1, by simp only [List.mapM_cons, Sem.run_bind, resSem, e1, asAddr, Sem.run_pure, Result.andThen_ok, e2, g2]⟩
theorem packRes_ok {vs : List AV} {vals : List Value} (h : RepL σ vs vals) : Rep σ (packRes vs) (if h : vals.toArray.size = 1 then vals.toArray[0] else .tuple vals.toArray) := by
  have hl := h.length
  cases vs with
  | nil =>
    simp only [RepL] at h
    subst h
    simp only [packRes, Rep]
    exact ⟨#[], rfl, RepL.nil⟩
  | cons v l =>
    cases l with
    | nil =>
      simp only [RepL] at h
      obtain ⟨u, r, rfl, h1, rfl⟩ := h
      simpa [packRes] using h1
    | cons v2 l =>
      have : ¬ vals.toArray.size = 1 := by simp at hl ⊢; omega
      rw [dif_neg this]
      simp only [packRes, Rep]
      exact ⟨_, rfl, h⟩
theorem finish_ok {fn : Func} (hf : Fr C σ0 M0 w0 [] σ st a w) {r : AV × Mem} (h : (finish C.P fn M0.length st).runs r) :
    a.defers = [] ∧ ∃ val σ', (results fn a.tmps).run C.P w = .ok val w ∧ Rep σ' r.1 val ∧ Moved C.P σ0 M0 w0 σ' r.2 w := by
  unfold finish at h
  obtain ⟨vs, h1, h2⟩ := Tree.runs_bind h
  dsimp only at h2
  split at h2
  · rename_i hnd
    simp only [Tree.runs] at h2
    subst h2
    obtain ⟨vals, g1, g2⟩ := resAll_ok hf.ok fn.results.toList h1
    have hs := hf.sub hnd (env := []) ⟨by simp, fun t v hv => by simp at hv⟩
    refine ⟨hf.defers, _, _, ?_, (packRes_ok g1).ren subSig_ren, hs.moved⟩
    rw [results_eq, Array.mapM_eq_mapM_toList]
    simp only [Sem.run_bind, Sem.run_map, g2, Result.andThen_ok, Sem.run_pure]
  · exact h2.elim
theorem body_ok (hC : CallOk C callF) (hmix : C.P.follows .mixedOrders = true) {f : FuncId} {args : List AV} {M : Mem} {r : AV × Mem} (hL : ∀ fn c, C.P.funcs[f]? = some fn → fn.body = some c → ∀ b ∈ loopsIn c, (C.keep f (Code.key b)).isSome = true → LoopOk C f M.length b)
    (h : (evBody C callF f args M).runs r) : SoundAt C f args M r := by
  intro σ w vals ha hr hg hng
  unfold evBody at h
  split at h
  · rename_i fn hfn
    split at h
    · rename_i c hc
      split at h
      · exact h.elim
      · rename_i hname
        have hname : ¬ fn.name = "runtime.NumGoroutine" := by simpa using hname
        obtain ⟨⟨ex, st'⟩, h1, h2⟩ := Tree.runs_bind h
        refine ⟨⟨fn, c, hfn, hc, by simpa using hname⟩, calls_of_wp hfn hc ?_⟩
        have hal := ha.length
        have hf : Fr C σ M w [] σ ⟨args ++ List.replicate (fn.ntmps - args.length) .junk, M⟩ { tmps := vals.toArray ++ Array.replicate (fn.ntmps - vals.toArray.size) undef, defers := [] } w := by
          refine ⟨Moved.refl hr, ⟨⟨by simp; omega, fun t v hv => ?_⟩, hr, hg, hng⟩, rfl, hr.dom, hg, hng⟩
          rw [Array.getD_eq_getD_getElem?]
          by_cases ht : t < args.length
          · rw [List.getElem?_append_left ht] at hv
            obtain ⟨u, hu, hru⟩ := ha.get hv
            rw [Array.getElem?_append_left (by simpa using (by omega))]
            simp only [List.getElem?_toArray, hu, Option.getD_some]
            exact hru
          · rw [List.getElem?_append_right (by omega)] at hv
            have := List.mem_of_getElem? hv
            rw [List.eq_of_mem_replicate this]
            simp only [Rep]
        refine code_ok hC hmix fuelC c (hL fn c hfn hc) h1 hf _ fun σ' a' w' g => ?_
        cases ex with
        | norm =>
          obtain ⟨d1, val, σ2, e1, e2, e3⟩ := finish_ok g h2
          exact ⟨d1, val, e1, val, σ2, rfl, e2, e3⟩
        | ret =>
          obtain ⟨d1, val, σ2, e1, e2, e3⟩ := finish_ok g h2
          exact ⟨d1, val, e1, val, σ2, rfl, e2, e3⟩
        | exit id => exact h2.elim
    · exact h.elim
  · exact h.elim
/-- What the table tells of calls is so. -/
def TabOk (C : Ctx) : Prop := ∀ f args M t, C.call f args M = some t → ∀ r, t.runs r → SoundAt C f args M r
theorem call_ok (hT : TabOk C) (hmix : C.P.follows .mixedOrders = true) (hK : ∀ f k, C.keep f k = none) : ∀ n, CallOk C (evCall C n)
  | 0, f, args, M, r, h => h.elim
  | n + 1, f, args, M, r, h => by
    unfold evCall at h
    split at h
    · rename_i t ht
      exact hT f args M t ht r h
    · exact body_ok (call_ok hT hmix hK n) hmix (fun _ _ _ _ b _ hb => by rw [hK] at hb; cases hb) h
end
end Go.Proofs.Ytonhkbgielilbaa.Rig
