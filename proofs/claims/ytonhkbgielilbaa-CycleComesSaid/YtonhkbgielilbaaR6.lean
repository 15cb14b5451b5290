/- A reckoner over Go's operations: operations that only tell. -/
import Derived.Test.YtonhkbgielilbaaR5
import Derived.ChangeKeysEq
import Derived.WalkSpells
namespace Go.Proofs.Ytonhkbgielilbaa.Rig
open Go
namespace Tree
variable {α β : Type}
theorem runs_bind {t : Tree α} {k : α → Tree β} {x : β} (h : (t.bind k).runs x) : ∃ y, t.runs y ∧ (k y).runs x := by
  induction t with
  | ret a => exact ⟨a, rfl, h⟩
  | br b t e iht ihe =>
    cases b
    · obtain ⟨y, hy, hk⟩ := ihe (h.2 rfl)
      exact ⟨y, ⟨fun hb => (by cases hb), fun _ => hy⟩, hk⟩
    · obtain ⟨y, hy, hk⟩ := iht (h.1 rfl)
      exact ⟨y, ⟨fun _ => hy, fun hb => (by cases hb)⟩, hk⟩
  | chk p t ih =>
    obtain ⟨y, hy, hk⟩ := ih h.2
    exact ⟨y, ⟨h.1, hy⟩, hk⟩
  | fail => exact h.elim
theorem runs_ifB {c b : Bool} {x y : Tree α} {r : α} (h : (ifB c b x y).runs r) : (b = true ∧ x.runs r) ∨ (b = false ∧ y.runs r) := by
  cases c <;> cases b <;> simp only [ifB, Tree.runs] at h
  · exact .inr ⟨rfl, h.2 trivial⟩
  · exact .inl ⟨rfl, h.1 trivial⟩
  · exact .inr ⟨rfl, h⟩
  · exact .inl ⟨rfl, h⟩
theorem runs_need {c b : Bool} {x : Tree α} {r : α} (h : (need c b x).runs r) : b = true ∧ x.runs r := by
  rcases runs_ifB h with h | h
  · exact h
  · exact h.2.elim
theorem runs_ofOpt {o : Option α} {r : α} (h : (ofOpt o).runs r) : o = some r := by
  cases o with
  | none => exact h.elim
  | some a => simp only [ofOpt, Tree.runs] at h; rw [h]
end Tree

def Yld (P : Program) (σ : Sig) (w : World) (s : Sem Value) (v : AV) : Prop := ∃ val, s.run P w = .ok val w ∧ Rep σ v val
section
variable {P : Program} {σ : Sig} {M : Mem} {w : World}

theorem intBin_ok {op : BinOp} {k : IntKind} {c : Bool} {a b : Int} {v : AV} (t : TypeId) (hs : op ≠ .shl) (hs' : op ≠ .shr) (h : (intBin op k c a b).runs v) :
    Yld P σ w (binOp op t (.int k a) (.int k b)) v := by
  cases op <;> simp only [intBin, Tree.runs, ne_eq, not_true_eq_false, reduceCtorEq] at h hs hs'
  case quo =>
    obtain ⟨h1, h2⟩ := Tree.runs_need h
    have hb : ¬ b = 0 := by simpa using h1
    simp only [Tree.runs] at h2
    subst h2
    exact ⟨.int k (k.wrap (a.tdiv b)), by simp [binOp, Op.intDiv, hb], by simp only [Rep]⟩
  case rem =>
    obtain ⟨h1, h2⟩ := Tree.runs_need h
    have hb : ¬ b = 0 := by simpa using h1
    simp only [Tree.runs] at h2
    subst h2
    exact ⟨.int k (a.tmod b), by simp [binOp, Op.intDiv, hb], by simp only [Rep]⟩
  all_goals
    subst h
    first
      | exact ⟨.int k _, by simp only [binOp, ne_eq, not_true_eq_false, if_false, Op.intArith, Op.intBits, Op.intCmp, Sem.run_pure]; rfl, by simp only [Rep]⟩
      | exact ⟨.bool _, by simp only [binOp, ne_eq, not_true_eq_false, if_false, Op.intArith, Op.intBits, Op.intCmp, Sem.run_pure]; rfl, by simp only [Rep]⟩
theorem shiftBin_ok {op : BinOp} {k k' : IntKind} {c d : Bool} {a b : Int} {v : AV} (t : TypeId) (h : (shiftBin op k c d a b).runs v) :
    Yld P σ w (binOp op t (.int k a) (.int k' b)) v := by
  cases op <;> simp only [shiftBin, Tree.runs] at h
  all_goals
    obtain ⟨h1, h2⟩ := Tree.runs_need h
    have hb : ¬ b < 0 := by simpa using h1
    simp only [Tree.runs] at h2
    subst h2
    exact ⟨.int k _, by simp only [binOp, Op.shift, hb, if_false, Sem.run_pure]; rfl, by simp only [Rep]⟩

theorem aggT_run {t : TypeId} {a : Bool} (h : aggT P t = some a) : (isAgg t).run P w = .ok a w := by
  unfold aggT at h
  split at h <;> cases h
  · rename_i fs hu; simp [isAgg, run_underlying hu]
  · rename_i n e hu; simp [isAgg, run_underlying hu]
  · rename_i d h1 h2 hu
    cases d <;> simp_all [isAgg, run_underlying]
theorem szT_run {t : TypeId} {n : Nat} (h : szT P t = some n) : (sizeOf t).run P w = .ok n w := by
  obtain ⟨i, hi, rfl⟩ := Option.map_eq_some_iff.1 h
  simp [sizeOf, typeInfo, hi]
theorem partV_ok {t : TypeId} {cs : List AV} {xs : Array Value} {off : Nat} {v : AV} (h : partV P t cs off = some v) (hr : RepL σ cs xs.toList) : Yld P σ w (part t xs off) v := by
  obtain ⟨a, ha, h2⟩ := Option.bind_eq_some_iff.1 h
  cases a
  · obtain ⟨u, hu, hru⟩ := hr.get h2
    have hu' : xs[off]? = some u := by simpa using hu
    exact ⟨u, by simp [part, aggT_run ha, hu'], hru⟩
  · obtain ⟨n, hn, rfl⟩ := Option.map_eq_some_iff.1 h2
    refine ⟨.agg (xs.extract off (off + n)), by simp [part, aggT_run ha, szT_run hn], ?_⟩
    simp only [Rep]
    refine ⟨_, rfl, ?_⟩
    have : (xs.extract off (off + n)).toList = (xs.toList.drop off).take n := by
      simp [List.take_drop, Nat.add_comm]
    rw [this]
    exact (hr.drop off).take n

/-- '==' by type. -/
theorem eqT_ok : ∀ (d D : Nat), d ≤ D → ∀ (t : TypeId) (x y : AV) (c b : Bool) (vx vy : Value), eqT P d t x y = some (c, b) → Rep σ x vx → Rep σ y vy → (Op.equalIn D t vx vy).run P w = .ok b w := by
  intro d
  induction d with
  | zero => intro D _ t x y c b vx vy h; simp [eqT] at h
  | succ d ih =>
    intro D hD t x y c b vx vy h hx hy
    obtain ⟨D, rfl⟩ : ∃ m, D = m + 1 := ⟨D - 1, by omega⟩
    simp only [eqT] at h
    split at h
    · rename_i c1 a c2 b1 hu
      simp only [Rep] at hx hy
      subst hx; subst hy
      cases h
      simp [Op.equalIn, run_underlying hu]
    · rename_i kk k1 c1 a k2 c2 b1 hu
      simp only [Rep] at hx hy
      subst hx; subst hy
      split at h
      · rename_i hk
        have hk : k1 = k2 := by simpa using hk
        subst hk
        cases h
        simp [Op.equalIn, run_underlying hu]
      · cases h
    · rename_i fs xs ys hu
      simp only [Rep] at hx hy
      obtain ⟨X, rfl, hX⟩ := hx
      obtain ⟨Y, rfl, hY⟩ := hy
      split at h
      · cases h
      · rename_i hst
        have hf : P.fieldsOf t = fs := by simp [Program.fieldsOf, hu]
        rw [run_equalIn_struct (P := P) (w := w) D t X Y (by rw [hf]; exact hu) hst, hf]
        generalize fs.toList = l at h
        induction l generalizing c b with
        | nil => simp only [List.foldr_nil, Option.some.injEq, Prod.mk.injEq] at h; obtain ⟨_, rfl⟩ := h; simp [Op.eqFields]
        | cons f l ihl =>
          simp only [List.foldr_cons] at h
          obtain ⟨⟨c0, b0⟩, h0, h1⟩ := Option.bind_eq_some_iff.1 h
          have hrest := ihl c0 b0 h0
          simp only at h1
          split at h1
          · rename_i hn
            have hn : f.name = "_" := by simpa using hn
            cases h1
            simp [Op.eqFields, hn, hrest]
          · rename_i hn
            have hn : ¬ f.name = "_" := by simpa using hn
            obtain ⟨u, hu1, h2⟩ := Option.bind_eq_some_iff.1 h1
            obtain ⟨u', hu2, h3⟩ := Option.bind_eq_some_iff.1 h2
            obtain ⟨⟨c3, b3⟩, h4, h5⟩ := Option.map_eq_some_iff.1 h3
            cases h5
            obtain ⟨p, hp, hrp⟩ := partV_ok (w := w) hu1 hX
            obtain ⟨q, hq, hrq⟩ := partV_ok (w := w) hu2 hY
            have he := ih D (by omega) f.type u u' c3 b3 p q h4 hrp hrq
            cases b3 <;> simp [Op.eqFields, hn, hp, hq, he, hrest]
    · rename_i n e xs ys hu
      simp only [Rep] at hx hy
      obtain ⟨X, rfl, hX⟩ := hx
      obtain ⟨Y, rfl, hY⟩ := hy
      obtain ⟨s, hs, h'⟩ := Option.bind_eq_some_iff.1 h
      clear h
      obtain ⟨i, hi, rfl⟩ := Option.map_eq_some_iff.1 hs
      rw [run_equalIn_array (P := P) (w := w) D X Y hu hi, show P.cellsOf e = i.size by simp [Program.cellsOf, hi]]
      generalize List.range n = l at h'
      induction l generalizing c b with
      | nil => simp only [List.foldr_nil, Option.some.injEq, Prod.mk.injEq] at h'; obtain ⟨_, rfl⟩ := h'; simp [Op.eqItems]
      | cons f l ihl =>
        simp only [List.foldr_cons] at h'
        obtain ⟨⟨c0, b0⟩, h0, h1⟩ := Option.bind_eq_some_iff.1 h'
        have hrest := ihl c0 b0 h0
        obtain ⟨u, hu1, h2⟩ := Option.bind_eq_some_iff.1 h1
        obtain ⟨u', hu2, h3⟩ := Option.bind_eq_some_iff.1 h2
        obtain ⟨⟨c3, b3⟩, h4, h5⟩ := Option.map_eq_some_iff.1 h3
        cases h5
        obtain ⟨p, hp, hrp⟩ := partV_ok (w := w) hu1 hX
        obtain ⟨q, hq, hrq⟩ := partV_ok (w := w) hu2 hY
        have he := ih D (by omega) e u u' c3 b3 p q h4 hrp hrq
        cases b3 <;> simp [Op.eqItems, hp, hq, he, hrest]
    · cases h

theorem eqGuard_scalar {op : BinOp} {t : TypeId} {x y : Operand} {vx vy : Value} (h : ∀ xs, vx ≠ .agg xs) (h' : vx ≠ .nilIface) : (eqGuard op t x y vx vy).run P w = .ok () w := by
  cases op <;> cases vx <;> first
    | (exact absurd rfl (h _))
    | (exact absurd rfl h')
    | (simp [eqGuard])
theorem equalIn_ptr (d : Nat) {t : TypeId} {a b : Option Addr} {e : TypeId} (hu : P.underlying t = some (.pointer e)) (h : a = none ∨ b = none) : (Op.equalIn (d + 1) t (.pointer a) (.pointer b)).run P w = .ok (a.isNone && b.isNone) w := by
  rcases h with rfl | rfl
  · cases b <;> simp [Op.equalIn, run_underlying hu]
  · cases a <;> simp [Op.equalIn, run_underlying hu]
/-- '==' as the walk meets it. -/
theorem eqAV_ok {t : TypeId} {x y : AV} {c b : Bool} {vx vy : Value} (X Y : Operand) (op : BinOp) (h : eqAV P t x y = some (c, b)) (hx : Rep σ x vx) (hy : Rep σ y vy) :
    (eqGuard op t X Y vx vy).run P w = .ok () w ∧ (Op.equal t vx vy).run P w = .ok b w ∧ (∀ z, (binOp .eql t vx vy).run P w = z ↔ ((Op.equal t vx vy).run P w).andThen (fun b w' => .ok (.bool b) w') = z) ∧
      (∀ z, (binOp .neq t vx vy).run P w = z ↔ ((Op.equal t vx vy).run P w).andThen (fun b w' => .ok (.bool (!b)) w') = z) := by
  unfold Op.equal
  obtain ⟨D, hD⟩ : ∃ D, Op.maxDepth = D + 1 := ⟨9999, rfl⟩
  have h60 : 60 ≤ D + 1 := by rw [← hD]; decide
  rw [show (binOp .eql t vx vy) = (binOp .eql t vx vy) from rfl]
  unfold eqAV at h
  split at h
  · rename_i e r hu
    simp only [Rep] at hx hy
    obtain ⟨x, _, rfl⟩ := hx
    subst hy; cases h
    refine ⟨eqGuard_scalar (by simp) (by simp), ?_, fun z => ?_, fun z => ?_⟩
    · rw [hD]; exact equalIn_ptr D hu (.inr rfl)
    · simp [binOp, Op.equal]
    · simp [binOp, Op.equal]
  · rename_i e r hu
    simp only [Rep] at hx hy
    obtain ⟨x, _, rfl⟩ := hy
    subst hx; cases h
    refine ⟨eqGuard_scalar (by simp) (by simp), ?_, fun z => ?_, fun z => ?_⟩
    · rw [hD]; exact equalIn_ptr D hu (.inl rfl)
    · simp [binOp, Op.equal]
    · simp [binOp, Op.equal]
  · rename_i e hu
    simp only [Rep] at hx hy
    subst hx; subst hy; cases h
    refine ⟨eqGuard_scalar (by simp) (by simp), ?_, fun z => ?_, fun z => ?_⟩
    · rw [hD]; exact equalIn_ptr D hu (.inl rfl)
    · simp [binOp, Op.equal]
    · simp [binOp, Op.equal]
  · rename_i p1 p2 p3 f a b' hu
    simp only [Rep] at hx hy
    obtain ⟨x, y, rfl, _⟩ := hx
    subst hy; cases h
    refine ⟨eqGuard_scalar (by simp) (by simp), ?_, fun z => ?_, fun z => ?_⟩
    · rw [hD]; simp [Op.equalIn, run_underlying hu]
    · simp [binOp, Op.equal]
    · simp [binOp, Op.equal]
  · rename_i p1 p2 p3 hu
    simp only [Rep] at hx hy
    subst hx; subst hy; cases h
    refine ⟨eqGuard_scalar (by simp) (by simp), ?_, fun z => ?_, fun z => ?_⟩
    · rw [hD]; simp [Op.equalIn, run_underlying hu]
    · simp [binOp, Op.equal]
    · simp [binOp, Op.equal]
  · rename_i e z r c' len m r' len' m' hu
    simp only [Rep] at hx hy
    obtain ⟨rfl, _⟩ := hy.1 trivial
    cases h
    cases b
    · obtain ⟨x, a, cap, _, rfl, _⟩ := hx.2 rfl
      refine ⟨eqGuard_scalar (by simp) (by simp), ?_, fun z => ?_, fun z => ?_⟩
      · rw [hD]; simp [Op.equalIn, run_underlying hu]
      · simp [binOp, Op.equal]
      · simp [binOp, Op.equal]
    · obtain ⟨rfl, _⟩ := hx.1 rfl
      refine ⟨eqGuard_scalar (by simp) (by simp), ?_, fun z => ?_, fun z => ?_⟩
      · rw [hD]; simp [Op.equalIn, run_underlying hu]
      · simp [binOp, Op.equal]
      · simp [binOp, Op.equal]
  · rename_i c1 a c2 b1 hu
    simp only [Rep] at hx hy
    subst hx; subst hy; cases h
    refine ⟨eqGuard_scalar (by simp) (by simp), ?_, fun z => ?_, fun z => ?_⟩
    · rw [hD]; simp [Op.equalIn, run_underlying hu]
    · simp [binOp, Op.equal]
    · simp [binOp, Op.equal]
  · rename_i fs xs ys hu
    split at h
    · rename_i hg
      have he := eqT_ok (w := w) 60 (D + 1) h60 t _ _ c b vx vy h hx hy
      simp only [Rep] at hx hy
      obtain ⟨X', rfl, _⟩ := hx
      obtain ⟨Y', rfl, _⟩ := hy
      refine ⟨run_eqGuard_agg w op t X Y X' Y' hg, by rw [hD]; exact he, fun z => ?_, fun z => ?_⟩
      · simp [binOp, Op.equal]
      · simp [binOp, Op.equal]
    · cases h
  · rename_i n e xs ys hu
    split at h
    · rename_i hg
      have he := eqT_ok (w := w) 60 (D + 1) h60 t _ _ c b vx vy h hx hy
      simp only [Rep] at hx hy
      obtain ⟨X', rfl, _⟩ := hx
      obtain ⟨Y', rfl, _⟩ := hy
      refine ⟨run_eqGuard_agg w op t X Y X' Y' hg, by rw [hD]; exact he, fun z => ?_, fun z => ?_⟩
      · simp [binOp, Op.equal]
      · simp [binOp, Op.equal]
    · cases h
  · cases h
theorem eqGuard_int {op : BinOp} {t : TypeId} {x y : Operand} {k : IntKind} {n : Int} {vy : Value} : (eqGuard op t x y (.int k n) vy).run P w = .ok () w := eqGuard_scalar (by simp) (by simp)
theorem binAV_ok {op : BinOp} {t : TypeId} {x y v : AV} {vx vy : Value} (X Y : Operand) (h : (binAV P op t x y).runs v) (hx : Rep σ x vx) (hy : Rep σ y vy) :
    Yld P σ w (do eqGuard op t X Y vx vy; binOp op t vx vy) v := by
  have guardInt : ∀ {k n} {s : Sem Value}, vx = .int k n → Yld P σ w s v → Yld P σ w (do eqGuard op t X Y vx vy; s) v := by
    intro k n s hv hs
    subst hv
    obtain ⟨val, h1, h2⟩ := hs
    exact ⟨val, by rw [Sem.run_bind, eqGuard_int, Result.andThen_ok]; exact h1, h2⟩
  unfold binAV at h
  split at h
  · rename_i k c a k' d b
    simp only [Rep] at hx hy
    subst hx; subst hy
    exact guardInt rfl (shiftBin_ok t h)
  · rename_i k c a k' d b
    simp only [Rep] at hx hy
    subst hx; subst hy
    exact guardInt rfl (shiftBin_ok t h)
  · rename_i k c a k' d b h1 h2
    simp only [Rep] at hx hy
    subst hx; subst hy
    split at h
    · rename_i hk
      have hk : k = k' := by simpa using hk
      subst hk
      exact guardInt rfl (intBin_ok t (fun e => h1 e) (fun e => h2 e) h)
    · exact h.elim
  · split at h
    · rename_i c b he
      simp only [Tree.runs] at h
      subst h
      obtain ⟨h1, h2, h3, _⟩ := eqAV_ok (w := w) X Y .eql he hx hy
      refine ⟨.bool b, ?_, by simp only [Rep]⟩
      rw [Sem.run_bind, h1, Result.andThen_ok, h3, h2]
      rfl
    · exact h.elim
  · split at h
    · rename_i c b he
      simp only [Tree.runs] at h
      subst h
      obtain ⟨h1, h2, _, h3⟩ := eqAV_ok (w := w) X Y .neq he hx hy
      refine ⟨.bool (!b), ?_, by simp only [Rep]⟩
      rw [Sem.run_bind, h1, Result.andThen_ok, h3, h2]
      rfl
    · exact h.elim
  · exact h.elim
theorem unAV_ok {op : UnOp} {x v : AV} {vx : Value} (h : (unAV op x).runs v) (hx : Rep σ x vx) : Yld P σ w (Op.unary op vx) v := by
  unfold unAV at h
  split at h
  · simp only [Tree.runs, Rep] at h hx; subst h; subst hx
    exact ⟨.int _ _, by simp only [Op.unary, Op.intArith, Sem.run_pure]; rfl, by simp only [Rep]⟩
  · simp only [Tree.runs, Rep] at h hx; subst h; subst hx
    exact ⟨.int _ _, by simp only [Op.unary, Op.intBits, Sem.run_pure]; rfl, by simp only [Rep]⟩
  · simp only [Tree.runs, Rep] at h hx; subst h; subst hx
    exact ⟨.bool _, by simp only [Op.unary, Sem.run_pure]; rfl, by simp only [Rep]⟩
  · exact h.elim
theorem convAV_ok {s d : TypeId} {x v : AV} {vx : Value} (hs : (P.underlying s).isSome = true) (h : (convAV P d x).runs v) (hx : Rep σ x vx) : Yld P σ w (convert s d vx) v := by
  unfold convAV at h
  split at h
  · rename_i k k' c n hu
    simp only [Tree.runs, Rep] at h hx; subst h; subst hx
    obtain ⟨u, hsu⟩ := Option.isSome_iff_exists.1 hs
    exact ⟨.int k (k.wrap n), by simp [convert, run_underlying hsu, run_underlying hu, Conv.intToInt], by simp only [Rep]⟩
  · exact h.elim
theorem minAV_ok : ∀ {l : List AV} {x v : AV} {vx : Value} {vs : List Value}, (minAV x l).runs v → Rep σ x vx → RepL σ l vs → Yld P σ w (vs.foldlM Builtin.min2 vx) v
  | [], x, v, vx, vs, h, hx, hl => by
    simp only [RepL] at hl
    subst hl
    simp only [minAV, Tree.runs] at h
    subst h
    exact ⟨vx, by simp, hx⟩
  | y :: l, x, v, vx, vs, h, hx, hl => by
    simp only [RepL] at hl
    obtain ⟨u, r, rfl, hu, hr⟩ := hl
    cases x <;> cases y <;> simp only [minAV, Tree.runs] at h
    rename_i k c a k' d b
    simp only [Rep] at hx hu
    subst hx; subst hu
    obtain ⟨val, h1, h2⟩ := minAV_ok (vx := .int k (if b < a then b else a)) h (by simp only [Rep]) hr
    exact ⟨val, by simpa [Builtin.min2] using h1, h2⟩
theorem maxAV_ok : ∀ {l : List AV} {x v : AV} {vx : Value} {vs : List Value}, (maxAV x l).runs v → Rep σ x vx → RepL σ l vs → Yld P σ w (vs.foldlM Builtin.max2 vx) v
  | [], x, v, vx, vs, h, hx, hl => by
    simp only [RepL] at hl
    subst hl
    simp only [maxAV, Tree.runs] at h
    subst h
    exact ⟨vx, by simp, hx⟩
  | y :: l, x, v, vx, vs, h, hx, hl => by
    simp only [RepL] at hl
    obtain ⟨u, r, rfl, hu, hr⟩ := hl
    cases x <;> cases y <;> simp only [maxAV, Tree.runs] at h
    rename_i k c a k' d b
    simp only [Rep] at hx hu
    subst hx; subst hu
    obtain ⟨val, h1, h2⟩ := maxAV_ok (vx := .int k (if b > a then b else a)) h (by simp only [Rep]) hr
    exact ⟨val, by simpa [Builtin.max2] using h1, h2⟩
end
end Go.Proofs.Ytonhkbgielilbaa.Rig
