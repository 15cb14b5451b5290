/- A reckoner over Go's operations: operations in a row. -/
import Derived.Test.YtonhkbgielilbaaR13
namespace Go.Proofs.Ytonhkbgielilbaa.Rig
open Go
def EnvOk (σ : Sig) (env : List AV) (tmps : Array Value) : Prop := env.length ≤ tmps.size ∧ ∀ t v, env[t]? = some v → Rep σ v (tmps.getD t undef)
structure StOk (C : Ctx) (σ : Sig) (st : St) (a : Act) (w : World) : Prop where
  env : EnvOk σ st.env a.tmps
  rel : Rel C.P σ st.mem w
  gl : GlOk C σ
  ng : C.ng ≤ st.mem.length
structure Went (C : Ctx) (σ : Sig) (st : St) (a : Act) (w : World) (σ' : Sig) (st' : St) (a' : Act) (w' : World) : Prop where
  ok : StOk C σ' st' a' w'
  moved : Moved C.P σ st.mem w σ' st'.mem w'
  defers : a'.defers = a.defers
  len : st'.env.length = st.env.length
section
variable {C : Ctx} {callF : FuncId → List AV → Mem → Tree (AV × Mem)} {σ σ' : Sig} {st st' : St} {a a' : Act} {w w' : World}
theorem EnvOk.mono (h : Ext σ σ') {env : List AV} {tmps : Array Value} (k : EnvOk σ env tmps) : EnvOk σ' env tmps := ⟨k.1, fun t v hv => (k.2 t v hv).mono h⟩
theorem EnvOk.getD {env : List AV} {tmps : Array Value} (h : EnvOk σ env tmps) (t : Nat) : Rep σ (env.getD t .junk) (tmps.getD t undef) := by
  rw [List.getD_eq_getElem?_getD]
  cases he : env[t]? with
  | none => simp only [Option.getD_none, Rep]
  | some v => exact h.2 t v he
theorem EnvOk.put {env : List AV} {a : Act} (h : EnvOk σ env a.tmps) (d : Option Tmp) {v : AV} {val : Value} (hv : Rep σ v val) : EnvOk σ (putV env d v) (a.put d val).tmps := by
  cases d with
  | none => exact h
  | some d =>
    refine ⟨by simpa [putV, Act.put] using h.1, fun t u hu => ?_⟩
    simp only [putV, Act.put] at hu ⊢
    rw [List.getElem?_set] at hu
    split at hu
    · rename_i e
      subst e
      split at hu
      · rename_i hlt
        cases hu
        have := h.1
        rw [Array.getD_eq_getD_getElem?, Array.getElem?_setIfInBounds_self_of_lt (by omega)]
        exact hv
      · cases hu
    · rename_i e
      rw [Array.getD_eq_getD_getElem?, Array.getElem?_setIfInBounds_ne e, ← Array.getD_eq_getD_getElem?]
      exact h.2 t u hu
theorem EnvOk.set_same {env : List AV} {tmps : Array Value} (h : EnvOk σ env tmps) {g : Nat} {v : AV} (hv : Rep σ v (tmps.getD g undef)) : EnvOk σ (env.set g v) tmps := by
  refine ⟨by simpa using h.1, fun t u hu => ?_⟩
  rw [List.getElem?_set] at hu
  split at hu
  · rename_i e
    subst e
    split at hu
    · cases hu; exact hv
    · cases hu
  · exact h.2 t u hu
theorem StOk.opnd (h : StOk C σ st a w) (x : Operand) : Rep σ (opnd C st.env x) (a.eval x) := by
  cases x with
  | tmp t => exact h.env.getD t
  | const v => exact Rep.ofVal v
  | func f => simp only [Rig.opnd, Act.eval, Rep]; exact ⟨#[], #[], rfl, RepL.nil, RepL.nil⟩
  | global g =>
    simp only [Rig.opnd, Act.eval, glob]
    split
    · rename_i i hi
      obtain ⟨_, x, h1, h2, h3⟩ := h.gl g i hi
      simp only [Rep, pos0]
      exact ⟨x, h1, by rw [at0 x h3, h2]⟩
    · simp only [Rep]
theorem Went.refl (h : StOk C σ st a w) : Went C σ st a w σ st a w := ⟨h, Moved.refl h.rel, rfl, rfl⟩
theorem Went.trans {σ2 : Sig} {st2 : St} {a2 : Act} {w2 : World} (h : Went C σ st a w σ' st' a' w') (k : Went C σ' st' a' w' σ2 st2 a2 w2) : Went C σ st a w σ2 st2 a2 w2 :=
  ⟨k.ok, h.moved.trans k.moved, k.defers.trans h.defers, k.len.trans h.len⟩
theorem putV_len (env : List AV) (d : Option Tmp) (v : AV) : (putV env d v).length = env.length := by cases d <;> simp [putV]
theorem put_defers (a : Act) (d : Option Tmp) (v : Value) : (a.put d v).defers = a.defers := by cases d <;> rfl
theorem GlOk.mono (h : Ext σ σ') (k : GlOk C σ) : GlOk C σ' := fun g i hi => by
  obtain ⟨h1, x, h2, h3⟩ := k g i hi
  exact ⟨h1, x, h i x h2, h3⟩
theorem Went.put {M' : Mem} {o : Oper} {v : AV} {val : Value} (hs : StOk C σ st a w) (hm : Moved C.P σ st.mem w σ' M' w') (hv : Rep σ' v val) : Went C σ st a w σ' ⟨putV st.env o.dst v, M'⟩ (a.put o.dst val) w' :=
  ⟨⟨(hs.env.mono hm.ext).put o.dst hv, hm.rel, hs.gl.mono hm.ext, Nat.le_trans hs.ng hm.len⟩, hm, put_defers _ _ _, putV_len _ _ _⟩
/-- What an operation does is what its wp asks. -/
theorem OpDoes.wp {P : Program} {M : Mem} {o : Oper} {r : AV × Mem} {K : Act → World → Prop} {Q : Exit → Act → World → Prop} (h : OpDoes P σ M w (execOp a.eval o) r)
    (hK : ∀ val σ' w', Rep σ' r.1 val → Moved P σ M w σ' r.2 w' → K (a.put o.dst val) w') : o.wp P a w K Q := by
  unfold Oper.wp
  cases h with
  | value val w' σ' h1 h2 h3 => rw [h1]; exact hK val σ' w' h2 h3
  | skip w' σ' h1 h2 h3 => rw [h1]; exact hK undef σ' w' h2 h3
  | enter f args h1 h2 =>
    rw [h1]
    refine Calls.mono h2 fun e w' hp => ?_
    obtain ⟨val, σ', rfl, h3, h4⟩ := hp
    exact hK val σ' w' h3 h4
theorem wanted_none {o : Oper} {ops : List Oper} {y : Nat → Option Bool} (h : guardOf ops o = none) : Region.wanted o y = true := by
  unfold guardOf at h
  unfold Region.wanted
  cases hg : o.guard with
  | none => rfl
  | some p => rw [hg] at h; cases h
theorem wanted_some {o : Oper} {ops : List Oper} {tmps : Array Value} {g : Nat} {want b : Bool} (h : guardOf ops o = some (some g, want)) (hb : tmps[g]? = some (.bool b)) : Region.wanted o (yielded ops.toArray tmps) = (b == want) := by
  unfold guardOf at h
  unfold Region.wanted
  cases hg : o.guard with
  | none => rw [hg] at h; cases h
  | some p =>
    obtain ⟨j, wn⟩ := p
    rw [hg] at h
    simp only [Option.some.injEq, Prod.mk.injEq] at h
    obtain ⟨h1, rfl⟩ := h
    simp only [yielded, List.getElem?_toArray, h1, Option.bind_some, hb]
    cases b <;> cases wn <;> rfl
theorem env_bool {env : List AV} {tmps : Array Value} {g : Nat} {c b : Bool} (h : EnvOk σ env tmps) (hg : env.getD g .junk = .bool c b) : tmps[g]? = some (.bool b) := by
  rw [List.getD_eq_getElem?_getD] at hg
  cases he : env[g]? with
  | none => rw [he] at hg; cases hg
  | some v =>
    rw [he] at hg
    simp only [Option.getD_some] at hg
    subst hg
    have h1 := h.2 g _ he
    have h2 := (List.getElem?_eq_some_iff.1 he).1
    have h3 := h.1
    simp only [Rep] at h1
    rw [Array.getD_eq_getD_getElem?, Array.getElem?_eq_getElem (by omega)] at h1
    rw [Array.getElem?_eq_getElem (by omega)]
    simpa using h1
theorem rep_skip {σ : Sig} : Rep σ (.tup []) undef := by
  simp only [Rep]
  exact ⟨#[], rfl, RepL.nil⟩
theorem rep_skip_eq {σ : Sig} {v : Value} (h : Rep σ (.tup []) v) : v = .tuple #[] := by
  simp only [Rep] at h
  obtain ⟨x, rfl, h⟩ := h
  simp only [RepL] at h
  cases x
  simp at h
  subst h
  rfl
theorem wanted_skip {o : Oper} {ops : List Oper} {tmps : Array Value} {g : Nat} {want : Bool} (h : guardOf ops o = some (some g, want)) (hb : tmps.getD g undef = .tuple #[]) : Region.wanted o (yielded ops.toArray tmps) = false := by
  unfold guardOf at h
  unfold Region.wanted
  cases hg : o.guard with
  | none => rw [hg] at h; cases h
  | some p =>
    obtain ⟨j, wn⟩ := p
    rw [hg] at h
    simp only [Option.some.injEq, Prod.mk.injEq] at h
    obtain ⟨h1, rfl⟩ := h
    simp only [yielded, List.getElem?_toArray, h1, Option.bind_some]
    rw [Array.getD_eq_getD_getElem?] at hb
    cases ht : tmps[g]? with
    | none => rfl
    | some v =>
      rw [ht] at hb
      simp only [Option.getD_some] at hb
      subst hb
      rfl
theorem env_skip {σ : Sig} {env : List AV} {tmps : Array Value} {g : Nat} (h : EnvOk σ env tmps) (hg : env.getD g .junk = .tup []) : tmps.getD g undef = .tuple #[] := by
  rw [List.getD_eq_getElem?_getD] at hg
  cases he : env[g]? with
  | none => rw [he] at hg; cases hg
  | some v =>
    rw [he] at hg
    simp only [Option.getD_some] at hg
    subst hg
    exact rep_skip_eq (h.2 g _ he)
/-- One operation, where its guard lets it. -/
theorem step_ok (hC : CallOk C callF) {ops : List Oper} {o : Oper} (h : (evStep C callF ops o id (fun _ M => M) st).runs st') (hs : StOk C σ st a w) (Q : Exit → Act → World → Prop) :
    if Region.wanted o (yielded ops.toArray a.tmps) then o.wp C.P a w (fun a' w' => ∃ σ', Went C σ st a w σ' st' a' w') Q else ∃ σ', Went C σ st a w σ' st' (a.put o.dst undef) w := by
  have run : ∀ env, StOk C σ ⟨env, st.mem⟩ a w → env.length = st.env.length → ((evOp C callF (opnd C env) o.op st.mem).bind fun (v, M) => Tree.ret (⟨putV env o.dst v, M⟩ : St)).runs st' → o.wp C.P a w (fun a' w' => ∃ σ', Went C σ st a w σ' st' a' w') Q := by
    intro env he hlen hr
    obtain ⟨⟨v, M⟩, h1, h2⟩ := Tree.runs_bind hr
    simp only [Tree.runs] at h2
    subst h2
    refine (evOp_ok hC (fun x _ => he.opnd x) he.rel he.gl he.ng h1).wp fun val σ' w' hv hm => ⟨σ', ?_⟩
    have := Went.put (o := o) he hm hv
    exact ⟨this.ok, this.moved, this.defers, this.len.trans hlen⟩
  unfold evStep at h
  simp only [forceV_eq] at h
  dsimp only [id] at h
  split at h
  · rename_i hg
    rw [wanted_none hg, if_pos rfl]
    exact run st.env hs rfl h
  · rename_i g want hg
    split at h
    · rename_i c b hb
      have hbv := env_bool hs.env hb
      rw [wanted_some hg hbv]
      have hset : ∀ b', b' = b → StOk C σ ⟨st.env.set g (.bool true b'), st.mem⟩ a w := fun b' hb' => by
        subst hb'
        refine ⟨hs.env.set_same ?_, hs.rel, hs.gl, hs.ng⟩
        simp only [Rep, Array.getD_eq_getD_getElem?, hbv, Option.getD_some]
      rcases Tree.runs_ifB h with ⟨rfl, h2⟩ | ⟨rfl, h2⟩
      · cases want
        · simp only [Tree.runs] at h2
          subst h2
          simp only [Bool.true_beq, Bool.false_eq_true, if_false]
          have := Went.put (o := o) (hset true rfl) (Moved.refl hs.rel) (v := .tup []) (val := undef) rep_skip
          exact ⟨σ, this.ok, this.moved, this.defers, by simp [putV_len]⟩
        · simp only [Bool.true_beq, if_true]
          exact run _ (hset true rfl) (by simp) h2
      · cases want
        · simp only [Bool.false_beq, Bool.not_false, if_true]
          exact run _ (hset false rfl) (by simp) h2
        · simp only [Tree.runs] at h2
          subst h2
          simp only [Bool.false_beq, Bool.not_true, Bool.false_eq_true, if_false]
          have := Went.put (o := o) (hset false rfl) (Moved.refl hs.rel) (v := .tup []) (val := undef) rep_skip
          exact ⟨σ, this.ok, this.moved, this.defers, by simp [putV_len]⟩
    · rename_i hb
      rw [wanted_skip hg (env_skip hs.env hb)]
      simp only [Tree.runs] at h
      subst h
      simp only [Bool.false_eq_true, if_false]
      have := Went.put (o := o) hs (Moved.refl hs.rel) (v := .tup []) (val := undef) rep_skip
      exact ⟨σ, this.ok, this.moved, this.defers, by simp [putV_len]⟩
    · exact h.elim
  · exact h.elim
theorem seq_ok (hC : CallOk C callF) {ops : List Oper} {Q : Exit → Act → World → Prop} : ∀ (l : List Oper) {σ : Sig} {st : St} {a : Act} {w : World}, (evSeq C callF ops l st).runs st' → StOk C σ st a w →
    (∀ σ' a' w', Went C σ st a w σ' st' a' w' → Q .normal a' w') → wpList C.P ops.toArray Q l a w
  | [], σ, st, a, w, h, hs, hQ => by
    simp only [evSeq, Tree.runs] at h
    subst h
    exact hQ σ a w (Went.refl hs)
  | o :: l, σ, st, a, w, h, hs, hQ => by
    obtain ⟨st1, h1, h2⟩ := Tree.runs_bind h
    have hst := step_ok hC h1 hs Q
    unfold wpList
    split
    · rename_i hw
      rw [if_pos hw] at hst
      refine .inl (Oper.wp_mono (fun a1 w1 hk => ?_) hst)
      obtain ⟨σ1, g⟩ := hk
      exact seq_ok hC l h2 g.ok fun σ' a' w' k => hQ σ' a' w' (g.trans k)
    · rename_i hw
      rw [if_neg hw] at hst
      obtain ⟨σ1, g⟩ := hst
      exact seq_ok hC l h2 g.ok fun σ' a' w' k => hQ σ' a' w' (g.trans k)
end
end Go.Proofs.Ytonhkbgielilbaa.Rig
