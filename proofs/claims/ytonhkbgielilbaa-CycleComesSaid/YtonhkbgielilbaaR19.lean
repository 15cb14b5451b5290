/- A reckoner over Go's operations: code, and calls of functions. -/
import Derived.Test.YtonhkbgielilbaaR18
namespace Go.Proofs.Ytonhkbgielilbaa.Rig
open Go
/-- Where a function's body stands, seen from where it was entered. -/
structure Fr (C : Ctx) (σ0 : Sig) (M0 : Mem) (w0 : World) (ds : List Deferred) (σ : Sig) (st : St) (a : Act) (w : World) : Prop where
  moved : Moved C.P σ0 M0 w0 σ st.mem w
  ok : StOk C σ st a w
  defers : a.defers = ds
  dom0 : ∀ i, M0.length ≤ i → σ0 i = none
  gl0 : GlOk C σ0
  ng0 : C.ng ≤ M0.length
def Ex.out : Ex → Exit
  | .norm => .normal
  | .exit id => .exit id
  | .ret => .ret
/-- What a loop's answer is worth. -/
def LoopOk (C : Ctx) (f : FuncId) (lo : Nat) (body : Code) : Prop :=
  ∀ st ex st', (C.loop f (Code.key body) st).runs (ex, st') → ∀ (σ0 : Sig) (M0 : Mem) (w0 : World) (ds : List Deferred) (σ : Sig) (a : Act) (w : World), M0.length = lo → Fr C σ0 M0 w0 ds σ st a w →
    ∀ Q : Exit → Act → World → Prop, (∀ σ' a' w', Fr C σ0 M0 w0 ds σ' st' a' w' → Q ex.out a' w') → (Code.loop body).wp C.P Q a w
section
variable {C : Ctx} {callF : FuncId → List AV → Mem → Tree (AV × Mem)} {σ0 : Sig} {M0 : Mem} {w0 : World} {ds : List Deferred} {σ : Sig} {st st' : St} {a : Act} {w : World}
theorem Fr.went {σ' : Sig} {a' : Act} {w' : World} (h : Fr C σ0 M0 w0 ds σ st a w) (g : Went C σ st a w σ' st' a' w') : Fr C σ0 M0 w0 ds σ' st' a' w' :=
  ⟨h.moved.trans g.moved, g.ok, g.defers.trans h.defers, h.dom0, h.gl0, h.ng0⟩
theorem maskAt_get (ks : List Nat) : ∀ (l : List AV) (i t : Nat) v, (maskAt ks i l)[t]? = some v → v = .junk ∨ l[t]? = some v
  | [], i, t, v, h => by simp [maskAt] at h
  | u :: l, i, t, v, h => by
    cases t with
    | zero =>
      simp only [maskAt, List.getElem?_cons_zero, Option.some.injEq] at h
      split at h
      · right; rw [← h]; rfl
      · left; exact h.symm
    | succ t => simpa [maskAt] using maskAt_get ks l (i + 1) t v (by simpa [maskAt] using h)
theorem maskAt_len (ks : List Nat) : ∀ (l : List AV) (i : Nat), (maskAt ks i l).length = l.length
  | [], i => rfl
  | u :: l, i => by simp [maskAt, maskAt_len ks l]
theorem EnvOk.mask {env : List AV} {tmps : Array Value} (h : EnvOk σ env tmps) (ks : List Nat) : EnvOk σ (maskAt ks 0 env) tmps :=
  ⟨by rw [maskAt_len]; exact h.1, fun t v hv => by
    rcases maskAt_get ks env 0 t v hv with rfl | hv
    · simp only [Rep]
    · exact h.2 t v hv⟩
theorem keepIds_pre {M : Mem} {lo : Nat} {roots : List Nat} {i : Nat} (hi : i < lo) : (keepIds M lo roots)[i]? = some i := by
  unfold keepIds
  rw [List.getElem?_append_left (by simpa using hi)]
  simp [hi]
/-- Of the blocks just those of a list are kept. -/
theorem Fr.sub (h : Fr C σ0 M0 w0 ds σ st a w) {roots : List Nat} (hnd : nodup (keepIds st.mem M0.length roots) = true) {env : List AV} (he : EnvOk σ env a.tmps) :
    Fr C σ0 M0 w0 ds (subSig σ (keepIds st.mem M0.length roots)) ⟨AV.renL (idxOf (keepIds st.mem M0.length roots)) env, st.mem.sub (keepIds st.mem M0.length roots)⟩ a w := by
  generalize hks : keepIds st.mem M0.length roots = ks at *
  have hpre : ∀ i, i < M0.length → ks[i]? = some i := fun i hi => by rw [← hks]; exact keepIds_pre hi
  have hag : ∀ i, i < M0.length → subSig σ ks i = σ i := fun i hi => by unfold subSig; rw [hpre i hi]; rfl
  have hlen : M0.length ≤ ks.length := by
    rcases Nat.lt_or_ge ks.length M0.length with c | c
    · have := hpre ks.length c
      rw [List.getElem?_eq_none (Nat.le_refl _)] at this; cases this
    · exact c
  have hrel := h.ok.rel.sub (nodup_spec hnd)
  have hext : Ext σ0 (subSig σ ks) := fun i x hx => by
    have hi : i < M0.length := by
      rcases Nat.lt_or_ge i M0.length with c | c
      · exact c
      · rw [h.dom0 i c] at hx; cases hx
    rw [hag i hi]
    exact h.moved.ext i x hx
  refine ⟨⟨hext, hrel, h.moved.kept, fun i hi => (hag i hi).trans (h.moved.agree i hi), fun Q hQ hQ' k hk ho => ?_, by simpa [Mem.sub] using hlen⟩, ⟨⟨by rw [AV.renL_eq, List.length_map]; exact he.1, fun t v hv => ?_⟩, hrel, h.gl0.mono hext, Nat.le_trans h.ng0 (by simpa [Mem.sub] using hlen)⟩, h.defers, h.dom0, h.gl0, h.ng0⟩
  · obtain ⟨i, _, b, x, c1, c2, c3, c4, c5⟩ := occ_sub (fun b g => hQ'.ren) ho
    exact h.moved.occ Q hQ hQ' k hk ⟨i, b, x, c1, c2, c3, c4, c5⟩
  · rw [AV.renL_eq, List.getElem?_map, Option.map_eq_some_iff] at hv
    obtain ⟨u, hu, rfl⟩ := hv
    exact (he.2 t u hu).ren subSig_ren
theorem Fr.norm (h : Fr C σ0 M0 w0 ds σ st a w) {ks : List Nat} (hn : normSt ks M0.length st = some st') : ∃ σ', Fr C σ0 M0 w0 ds σ' st' a w := by
  unfold normSt at hn
  dsimp only at hn
  split at hn
  · rename_i hnd
    cases hn
    exact ⟨_, h.sub hnd (h.ok.env.mask ks)⟩
  · cases hn
theorem Fr.mat {C : Ctx} {σ0 : Sig} {M0 : Mem} {w0 : World} {ds : List Deferred} {st st' : St} {a : Act} {w : World} (h : Fr C σ0 M0 w0 ds σ st a w) {t : Nat} {e : TypeId} {d : Data} (hm : matSt t e d st = some st') : ∃ σ', Fr C σ0 M0 w0 ds σ' st' a w := by
  unfold matSt at hm
  split at hm
  · rename_i r m ht hd
    have hd : d.size = 0 := by simpa using hd
    cases hm
    have hr := h.ok.rel
    have hadd := hr.add (w' := w) ⟨e, true, true, true, d⟩ ⟨w.heap.size, 0, 0⟩ (.inl ⟨rfl, hd⟩) (fun j bj y hj hy hvj hyb => by
      obtain ⟨y', hy', hok⟩ := hr.blk j bj hj
      rw [hy] at hy'; cases hy'
      have hno : ¬ (bj.rw = true ∨ ¬ bj.d.void) := fun h => by
        have := hok.lt hvj h
        simp only at hyb
        omega
      refine ⟨?_, .inr rfl⟩
      cases hq : bj.rw with
      | false => rfl
      | true => exact absurd (.inl hq) hno) (.inl rfl) (fun _ _ _ => rfl) (fun h => absurd h (Nat.lt_irrefl _))
    have hext : Ext σ (upd σ st.mem.length ⟨w.heap.size, 0, 0⟩) := upd_ext (hr.dom _ (Nat.le_refl _))
    have hmov : Moved C.P σ st.mem w (upd σ st.mem.length ⟨w.heap.size, 0, 0⟩) (st.mem ++ [some ⟨e, true, true, true, d⟩]) w := by
      refine ⟨hext, hadd, Kept.refl _ _ _, fun i hi => by unfold upd; rw [if_neg (by omega)], fun Q hQ hQ' k hk hf => ?_, by simp⟩
      obtain ⟨j, c, y, hj, hy, c1, c2, c3⟩ := hf
      by_cases hlt : j < st.mem.length
      · rw [Mem.at_append_left hlt] at hj
        unfold upd at hy
        rw [if_neg (by omega)] at hy
        exact ⟨j, c, y, hj, hy, c1, c2, c3⟩
      · rw [Mem.at_append_right (by omega), Mem.at_one] at hj
        split at hj
        · cases hj; cases c2
        · cases hj
    refine ⟨_, ⟨h.moved.trans hmov, ⟨(h.ok.env.mono hext).set_same ?_, hmov.rel, h.ok.gl.mono hext, Nat.le_trans h.ok.ng hmov.len⟩, h.defers, h.dom0, h.gl0, h.ng0⟩⟩
    have h1 := h.ok.env.2 t _ ht
    simp only [Rep] at h1 ⊢
    exact ⟨h1.1, fun hh => (by cases hh)⟩
  · cases hm
theorem Fr.mats (l : List (Nat × TypeId × Data)) : ∀ {o : Option St}, (∀ s, o = some s → ∃ σ', Fr C σ0 M0 w0 ds σ' s a w) → ∀ s, l.foldl (fun s m => s.bind (matSt m.1 m.2.1 m.2.2)) o = some s → ∃ σ', Fr C σ0 M0 w0 ds σ' s a w := by
  induction l with
  | nil => intro o ho s hs; exact ho s hs
  | cons m l ih =>
    intro o ho s hs
    simp only [List.foldl_cons] at hs
    refine ih (fun s1 h1 => ?_) s hs
    obtain ⟨s0, h2, h3⟩ := Option.bind_eq_some_iff.1 h1
    obtain ⟨σ1, h4⟩ := ho s0 h2
    exact h4.mat h3
theorem Fr.tidy (h : Fr C σ0 M0 w0 ds σ st a w) {T : Tidy} (ht : T.go M0.length st = some st') : ∃ σ', Fr C σ0 M0 w0 ds σ' st' a w := by
  obtain ⟨s, h1, h2⟩ := Option.bind_eq_some_iff.1 ht
  obtain ⟨σ1, h3⟩ := Fr.mats T.mats (o := some st) (fun s hs => by cases hs; exact ⟨σ, h⟩) s h1
  exact h3.norm h2
theorem Fr.cond (h : Fr C σ0 M0 w0 ds σ st a w) {x : Operand} {c b : Bool} (hx : opnd C st.env x = .bool c b) : Fr C σ0 M0 w0 ds σ (condSt x b st) a w := by
  have hr := h.ok.opnd x
  rw [hx] at hr
  simp only [Rep] at hr
  cases x with
  | tmp t =>
    refine ⟨h.moved, ⟨h.ok.env.set_same ?_, h.ok.rel, h.ok.gl, h.ok.ng⟩, h.defers, h.dom0, h.gl0, h.ng0⟩
    simp only [Rep]
    exact hr
  | _ => exact h
/-- A loop, its rounds counted from outside. -/
theorem loop_idx {P : Program} {c : Code} {Q : Exit → Act → World → Prop} (I : Nat → Act → World → Prop) (round : ∀ m a w, I m a w → c.wp P (Exit.then (fun a' w' => ∃ m', m' < m ∧ I m' a' w') Q) a w) {m : Nat} {a : Act} {w : World} (h0 : I m a w) : (Code.loop c).wp P Q a w := by
  intro b k cs
  have key : ∀ n a w, I n a w → ∃ e a' w', Q e a' w' ∧ Arrives P (lone (b.at a (.code c :: .inLoop c :: k)) cs w) b k cs e a' w' := by
    intro n
    induction n using Nat.strongRecOn with
    | _ n ih =>
      intro a w hI
      obtain ⟨e, a1, w1, hq, harr⟩ := round n a w hI b (.inLoop c :: k) cs
      have pass : e ≠ .normal → Q e a1 w1 → ∃ e a' w', Q e a' w' ∧ Arrives P (lone (b.at a (.code c :: .inLoop c :: k)) cs w) b k cs e a' w' := fun hne hq => ⟨e, a1, w1, hq, .pass (x := .inLoop c) rfl (fun _ _ => .inl hne) harr⟩
      cases e with
      | normal =>
        obtain ⟨m', hlt, hI1⟩ := hq
        obtain ⟨e2, a2, w2, hq2, harr2⟩ := ih m' hlt a1 w1 hI1
        exact ⟨e2, a2, w2, hq2, .of_steps (Steps.trans harr (.one step_inLoop)) harr2⟩
      | _ => exact pass (by simp) hq
  obtain ⟨e, a', w', hq, harr⟩ := key m a w h0
  exact ⟨e, a', w', hq, .of_steps (.one step_loop) harr⟩
theorem code_ok (hC : CallOk C callF) (hmix : C.P.follows .mixedOrders = true) {f : FuncId} : ∀ (n : Nat) (c : Code) {st : St} {ex : Ex} {st' : St} {σ : Sig} {a : Act} {w : World}, (∀ b ∈ loopsIn c, (C.keep f (Code.key b)).isSome = true → LoopOk C f M0.length b) →
    (evCode C callF f M0.length n c st).runs (ex, st') → Fr C σ0 M0 w0 ds σ st a w → ∀ Q : Exit → Act → World → Prop, (∀ σ' a' w', Fr C σ0 M0 w0 ds σ' st' a' w' → Q ex.out a' w') → c.wp C.P Q a w := by
  intro n
  induction n using Nat.strongRecOn with
  | _ n0 ihs =>
    intro c st ex st' σ a w hL h hf Q hQ
    cases n0 with
    | zero => exact h.elim
    | succ n =>
    have ih := ihs n (Nat.lt_succ_self n)
    cases c with
    | skip => simp only [evCode, Tree.runs] at h; cases h; exact wp_skip (hQ σ a w hf)
    | label l => simp only [evCode, Tree.runs] at h; cases h; exact wp_label (hQ σ a w hf)
    | ret => simp only [evCode, Tree.runs] at h; cases h; exact wp_ret (hQ σ a w hf)
    | exit id => simp only [evCode, Tree.runs] at h; cases h; exact wp_exit (hQ σ a w hf)
    | seq x y =>
      simp only [evCode] at h
      obtain ⟨⟨ex1, st1⟩, h1, h2⟩ := Tree.runs_bind h
      refine wp_seq (ih x (fun b hb => hL b (by simp [loopsIn, hb])) h1 hf _ fun σ1 a1 w1 g => ?_)
      cases ex1 with
      | norm => exact ih y (fun b hb => hL b (by simp [loopsIn, hb])) h2 g Q hQ
      | exit id => simp only [Tree.runs] at h2; cases h2; exact hQ σ1 a1 w1 g
      | ret => simp only [Tree.runs] at h2; cases h2; exact hQ σ1 a1 w1 g
    | cond x y z =>
      simp only [evCode] at h
      split at h
      · rename_i k g hx
        have hr := hf.ok.opnd x
        rw [hx] at hr
        simp only [Rep] at hr
        rcases Tree.runs_ifB h with ⟨hg, h2⟩ | ⟨hg, h2⟩
        · subst hg
          exact wp_cond_true hr (ih y (fun b hb => hL b (by simp [loopsIn, hb])) h2 (hf.cond hx) Q hQ)
        · subst hg
          exact wp_cond_false hr (ih z (fun b hb => hL b (by simp [loopsIn, hb])) h2 (hf.cond hx) Q hQ)
      · exact h.elim
    | block id body =>
      simp only [evCode] at h
      obtain ⟨⟨ex1, st1⟩, h1, h2⟩ := Tree.runs_bind h
      refine wp_block (ih body (fun b hb => hL b (by simpa [loopsIn] using hb)) h1 hf _ fun σ1 a1 w1 g => ?_)
      cases ex1 with
      | norm => simp only [Tree.runs] at h2; cases h2; exact hQ σ1 a1 w1 g
      | ret => simp only [Tree.runs] at h2; cases h2; exact hQ σ1 a1 w1 g
      | exit id' =>
        dsimp only at h2
        split at h2
        · rename_i he
          have he : id' = id := by simpa using he
          simp only [Tree.runs] at h2; cases h2
          simp only [Ex.out, Exit.inBlock, he, if_true]
          exact hQ σ1 a1 w1 g
        · rename_i he
          have he : ¬ id' = id := by simpa using he
          simp only [Tree.runs] at h2; cases h2
          simp only [Ex.out, Exit.inBlock, he, if_false]
          exact hQ σ1 a1 w1 g
    | loop body =>
      simp only [evCode] at h
      split at h
      · rename_i ks hk
        split at h
        · rename_i st1 hn
          obtain ⟨σ1, h1⟩ := hf.tidy hn
          exact hL body (by simp [loopsIn]) (by rw [hk]; rfl) st1 ex st' h σ0 M0 w0 ds σ1 a w rfl h1 Q hQ
        · exact h.elim
      · rename_i hk
        have hunroll : ∀ m, m ≤ n → ∀ (st : St), (evCode C callF f M0.length (m + 1) (.loop body) st).runs (ex, st') → ∃ ex1 st1, (evCode C callF f M0.length m body st).runs (ex1, st1) ∧ ((ex1 = .norm ∧ (evCode C callF f M0.length m (.loop body) st1).runs (ex, st')) ∨ (ex1 ≠ .norm ∧ ex = ex1 ∧ st' = st1)) := by
          intro m _ st h
          simp only [evCode, hk] at h
          obtain ⟨⟨ex1, st1⟩, h1, h2⟩ := Tree.runs_bind h
          refine ⟨ex1, st1, h1, ?_⟩
          cases ex1 with
          | norm => exact .inl ⟨rfl, h2⟩
          | exit id => simp only [Tree.runs] at h2; cases h2; exact .inr ⟨by simp, rfl, rfl⟩
          | ret => simp only [Tree.runs] at h2; cases h2; exact .inr ⟨by simp, rfl, rfl⟩
        have hstart : (evCode C callF f M0.length (n + 1) (.loop body) st).runs (ex, st') := by simp only [evCode, hk]; exact h
        refine loop_idx (fun m a w => m ≤ n ∧ ∃ σ st, (evCode C callF f M0.length (m + 1) (.loop body) st).runs (ex, st') ∧ Fr C σ0 M0 w0 ds σ st a w) (fun m a w hI => ?_) (m := n) ⟨Nat.le_refl _, σ, st, hstart, hf⟩
        obtain ⟨hm, σ, st, hr, hf⟩ := hI
        obtain ⟨ex1, st1, h1, h2⟩ := hunroll m hm st hr
        refine ihs m (by omega) body (fun b hb => hL b (by simp [loopsIn, hb])) h1 hf _ fun σ1 a1 w1 g => ?_
        rcases h2 with ⟨rfl, h2⟩ | ⟨hne, rfl, rfl⟩
        · cases m with
          | zero => exact h2.elim
          | succ m => exact ⟨m, by omega, by omega, σ1, st1, h2, g⟩
        · cases ex with
          | norm => exact absurd rfl hne
          | exit id => exact hQ σ1 a1 w1 g
          | ret => exact hQ σ1 a1 w1 g
    | region id ops draw =>
      simp only [evCode] at h
      obtain ⟨st1, h1, h2⟩ := Tree.runs_bind h
      simp only [Tree.runs] at h2; cases h2
      exact region_ok hC hmix h1 hf.ok fun σ' a' w' g => hQ σ' a' w' (hf.went g)
    | _ => exact h.elim
end
end Go.Proofs.Ytonhkbgielilbaa.Rig
