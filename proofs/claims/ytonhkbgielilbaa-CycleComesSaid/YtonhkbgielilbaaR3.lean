/- A reckoner over Go's operations: what its values and its memory stand for. -/
import Derived.Test.YtonhkbgielilbaaR2
namespace Go.Proofs.Ytonhkbgielilbaa.Rig
open Go

structure Bl where
  blk : Nat
  off : Nat
  cap : Nat
def Bl.at (x : Bl) (j : Nat) : Addr := ⟨x.blk, x.off + j, none⟩
abbrev Sig := Nat → Option Bl
def Ext (σ σ' : Sig) : Prop := ∀ i x, σ i = some x → σ' i = some x
theorem Ext.refl (σ : Sig) : Ext σ σ := fun _ _ h => h
theorem Ext.trans {a b c : Sig} (h : Ext a b) (k : Ext b c) : Ext a c := fun i x hx => k i x (h i x hx)

def slOk (m : Cap) (x : Bl) (p : Nat) (a : Addr) (len cap : Nat) : Prop :=
  len ≤ cap ∧ match m with
  | .exact => cap = len ∧ (a = x.at p ∨ len = 0)
  | .own => cap = x.cap ∧ p = 0 ∧ x.off = 0 ∧ a = x.at p
  | .any => a = x.at p ∨ len = 0
theorem slOk.addr {m : Cap} {x : Bl} {p : Nat} {a : Addr} {len cap : Nat} (h : slOk m x p a len cap) : a = x.at p ∨ len = 0 := by
  cases m <;> simp only [slOk] at h
  · exact h.2.2
  · exact .inl h.2.2.2.2
  · exact h.2
mutual
def Rep (σ : Sig) : AV → Value → Prop
  | .junk, _ => True
  | .bool _ b, v => v = .bool b
  | .int k _ n, v => v = .int k n
  | .nilp, v => v = .pointer none
  | .ptr r, v => ∃ x, σ r.id = some x ∧ v = .pointer (some (x.at r.pos))
  | .sl z r _ len m, v => (z = true → v = .slice none 0 0 ∧ len = 0) ∧
      (z = false → ∃ x a cap, σ r.id = some x ∧ v = .slice (some a) len cap ∧ slOk m x r.pos a len cap)
  | .fn f a b, v => ∃ x y, v = .func f x y ∧ RepL σ a x.toList ∧ RepL σ b y.toList
  | .nilfn, v => v = .nilFunc
  | .agg cs, v => ∃ x : Array Value, v = .agg x ∧ RepL σ cs x.toList
  | .tup cs, v => ∃ x : Array Value, v = .tuple x ∧ RepL σ cs x.toList
def RepL (σ : Sig) : List AV → List Value → Prop
  | [], vs => vs = []
  | a :: l, vs => ∃ v r, vs = v :: r ∧ Rep σ a v ∧ RepL σ l r
end

section
variable {σ σ' : Sig}
theorem RepL.length : ∀ {l : List AV} {vs : List Value}, RepL σ l vs → l.length = vs.length
  | [], vs, h => by simp only [RepL] at h; subst h; rfl
  | a :: l, vs, h => by
    simp only [RepL] at h
    obtain ⟨v, r, rfl, _, h2⟩ := h
    simp [h2.length]
theorem RepL.get : ∀ {l : List AV} {vs : List Value}, RepL σ l vs → ∀ {i : Nat} {a : AV}, l[i]? = some a → ∃ v, vs[i]? = some v ∧ Rep σ a v
  | [], vs, _, i, a, hi => by simp at hi
  | b :: l, vs, h, i, a, hi => by
    simp only [RepL] at h
    obtain ⟨v, r, rfl, h1, h2⟩ := h
    cases i with
    | zero => simp at hi; subst hi; exact ⟨v, rfl, h1⟩
    | succ i => simpa using h2.get (i := i) (by simpa using hi)
theorem RepL.mk : ∀ {l : List AV} {vs : List Value}, l.length = vs.length → (∀ (i : Nat) a v, l[i]? = some a → vs[i]? = some v → Rep σ a v) → RepL σ l vs
  | [], vs, h, _ => by simp only [RepL]; exact List.eq_nil_of_length_eq_zero (by simpa using h.symm)
  | a :: l, [], h, _ => by simp at h
  | a :: l, v :: r, h, hr => by
    simp only [RepL]
    exact ⟨v, r, rfl, hr 0 a v rfl rfl, RepL.mk (by simpa using h) fun i a v h1 h2 => hr (i + 1) a v (by simpa using h1) (by simpa using h2)⟩
theorem RepL.append {l m : List AV} {vs us : List Value} (h : RepL σ l vs) (k : RepL σ m us) : RepL σ (l ++ m) (vs ++ us) := by
  refine RepL.mk (by simp [h.length, k.length]) fun i a v hi hv => ?_
  by_cases hlt : i < l.length
  · rw [List.getElem?_append_left hlt] at hi
    rw [List.getElem?_append_left (by rw [← h.length]; exact hlt)] at hv
    obtain ⟨u, hu, hr⟩ := h.get hi
    rw [hv] at hu; cases hu; exact hr
  · rw [List.getElem?_append_right (by omega)] at hi
    rw [List.getElem?_append_right (by rw [← h.length]; omega), ← h.length] at hv
    obtain ⟨u, hu, hr⟩ := k.get hi
    rw [hv] at hu; cases hu; exact hr
theorem RepL.take {l : List AV} {vs : List Value} (h : RepL σ l vs) (n : Nat) : RepL σ (l.take n) (vs.take n) := by
  refine RepL.mk (by simp [h.length]) fun i a v hi hv => ?_
  rw [List.getElem?_take] at hi hv
  split at hi
  · rename_i hlt
    rw [if_pos hlt] at hv
    obtain ⟨u, hu, hr⟩ := h.get hi
    rw [hv] at hu; cases hu; exact hr
  · cases hi
theorem RepL.drop {l : List AV} {vs : List Value} (h : RepL σ l vs) (n : Nat) : RepL σ (l.drop n) (vs.drop n) := by
  refine RepL.mk (by simp [h.length]) fun i a v hi hv => ?_
  rw [List.getElem?_drop] at hi hv
  obtain ⟨u, hu, hr⟩ := h.get hi
  rw [hv] at hu; cases hu; exact hr
theorem RepL.cons {a : AV} {l : List AV} {v : Value} {vs : List Value} (h : Rep σ a v) (k : RepL σ l vs) : RepL σ (a :: l) (v :: vs) := by
  simp only [RepL]; exact ⟨v, vs, rfl, h, k⟩
theorem RepL.nil : RepL σ [] [] := by simp only [RepL]

/-! ### renumbering, and places that stay -/
mutual
theorem Rep.congr : ∀ {a : AV} {v : Value}, Rep σ a v → (∀ i ∈ a.refs, ∀ x, σ i = some x → σ' i = some x) → Rep σ' a v
  | .junk, _, _, _ => by simp only [Rep]
  | .bool _ _, _, h, _ => by simpa only [Rep] using h
  | .int _ _ _, _, h, _ => by simpa only [Rep] using h
  | .nilp, _, h, _ => by simpa only [Rep] using h
  | .nilfn, _, h, _ => by simpa only [Rep] using h
  | .ptr r, _, h, hs => by
    simp only [Rep] at h ⊢
    obtain ⟨x, h1, h2⟩ := h
    exact ⟨x, hs r.id (by simp [AV.refs]) x h1, h2⟩
  | .sl z r c len m, _, h, hs => by
    cases c <;> cases z
    case true.true =>
      simp only [Rep] at h ⊢
      exact ⟨h.1, fun hh => (by cases hh)⟩
    all_goals
      simp only [Rep] at h ⊢
      refine ⟨h.1, fun hz => ?_⟩
      obtain ⟨x, a, cap, h1, h2⟩ := h.2 hz
      exact ⟨x, a, cap, hs r.id (by simp [AV.refs]) x h1, h2⟩
  | .fn f a b, _, h, hs => by
    simp only [Rep] at h ⊢
    obtain ⟨x, y, h0, h1, h2⟩ := h
    exact ⟨x, y, h0, RepL.congr h1 fun i hi => hs i (by simp [AV.refs, hi]), RepL.congr h2 fun i hi => hs i (by simp [AV.refs, hi])⟩
  | .agg cs, _, h, hs => by
    simp only [Rep] at h ⊢
    obtain ⟨x, h0, h1⟩ := h
    exact ⟨x, h0, RepL.congr h1 fun i hi => hs i (by simpa [AV.refs] using hi)⟩
  | .tup cs, _, h, hs => by
    simp only [Rep] at h ⊢
    obtain ⟨x, h0, h1⟩ := h
    exact ⟨x, h0, RepL.congr h1 fun i hi => hs i (by simpa [AV.refs] using hi)⟩
theorem RepL.congr : ∀ {l : List AV} {vs : List Value}, RepL σ l vs → (∀ i ∈ AV.refsL l, ∀ x, σ i = some x → σ' i = some x) → RepL σ' l vs
  | [], _, h, _ => by simpa only [RepL] using h
  | a :: l, _, h, hs => by
    simp only [RepL] at h ⊢
    obtain ⟨v, r, h0, h1, h2⟩ := h
    exact ⟨v, r, h0, Rep.congr h1 fun i hi => hs i (by simp [AV.refsL, hi]), RepL.congr h2 fun i hi => hs i (by simp [AV.refsL, hi])⟩
end
mutual
theorem Rep.ren {g : Nat → Option Nat} (hg : ∀ i j x, g i = some j → σ i = some x → σ' j = some x) : ∀ {a : AV} {v : Value}, Rep σ a v → Rep σ' (a.ren g) v
  | .junk, _, _ => by simp only [AV.ren, Rep]
  | .bool _ _, _, h => by simpa only [AV.ren, Rep] using h
  | .int _ _ _, _, h => by simpa only [AV.ren, Rep] using h
  | .nilp, _, h => by simpa only [AV.ren, Rep] using h
  | .nilfn, _, h => by simpa only [AV.ren, Rep] using h
  | .ptr r, _, h => by
    simp only [AV.ren]
    split
    · rename_i j hj
      simp only [Rep] at h ⊢
      obtain ⟨x, h1, h2⟩ := h
      exact ⟨x, hg r.id j x hj h1, h2⟩
    · simp only [Rep]
  | .sl z r c len m, v, h => by
    have key : ∀ j, g r.id = some j → Rep σ' (.sl z { r with id := j } c len m) v := fun j hj => by
      simp only [Rep] at h ⊢
      refine ⟨h.1, fun hz => ?_⟩
      obtain ⟨x, a, cap, h1, h2⟩ := h.2 hz
      exact ⟨x, a, cap, hg r.id j x hj h1, h2⟩
    cases c <;> cases z <;> simp only [AV.ren]
    case true.true =>
      simp only [Rep] at h ⊢
      exact ⟨h.1, fun hh => (by cases hh)⟩
    all_goals
      split
      · rename_i j hj; exact key j hj
      · simp only [Rep]
  | .fn f a b, _, h => by
    simp only [AV.ren, Rep] at h ⊢
    obtain ⟨x, y, h0, h1, h2⟩ := h
    exact ⟨x, y, h0, RepL.ren hg h1, RepL.ren hg h2⟩
  | .agg cs, _, h => by
    simp only [AV.ren, Rep] at h ⊢
    obtain ⟨x, h0, h1⟩ := h
    exact ⟨x, h0, RepL.ren hg h1⟩
  | .tup cs, _, h => by
    simp only [AV.ren, Rep] at h ⊢
    obtain ⟨x, h0, h1⟩ := h
    exact ⟨x, h0, RepL.ren hg h1⟩
theorem RepL.ren {g : Nat → Option Nat} (hg : ∀ i j x, g i = some j → σ i = some x → σ' j = some x) : ∀ {l : List AV} {vs : List Value}, RepL σ l vs → RepL σ' (AV.renL g l) vs
  | [], _, h => by simpa only [AV.renL, RepL] using h
  | a :: l, _, h => by
    simp only [AV.renL, RepL] at h ⊢
    obtain ⟨v, r, h0, h1, h2⟩ := h
    exact ⟨v, r, h0, Rep.ren hg h1, RepL.ren hg h2⟩
end
theorem Rep.mono (h : Ext σ σ') {a : AV} {v : Value} (k : Rep σ a v) : Rep σ' a v := k.congr fun i _ x hx => h i x hx
theorem RepL.mono (h : Ext σ σ') {l : List AV} {vs : List Value} (k : RepL σ l vs) : RepL σ' l vs := k.congr fun i _ x hx => h i x hx
theorem AV.renL_eq (g : Nat → Option Nat) : ∀ l, AV.renL g l = l.map (AV.ren g)
  | [] => rfl
  | a :: l => by simp [AV.renL, AV.renL_eq g l]

/-! ### constants -/
theorem Rep.ofCell (v : Value) : Rep σ (ofCell v) v := by
  unfold Rig.ofCell
  split <;> simp [Rep]
theorem RepL.ofCells : ∀ (l : List Value), RepL σ (l.map Rig.ofCell) l
  | [] => RepL.nil
  | v :: l => RepL.cons (Rep.ofCell v) (RepL.ofCells l)
theorem Rep.ofVal (v : Value) : Rep σ (ofVal v) v := by
  unfold Rig.ofVal
  split
  · simp only [Rep]; exact ⟨_, rfl, RepL.ofCells _⟩
  · exact Rep.ofCell v

/-! ### cells -/
theorem Rep.one {a : AV} {v : Value} (h : Rep σ a v) (h1 : a.one = true) : v.oneCell' = true := by
  cases a <;> simp only [AV.one, Bool.false_eq_true] at h1 <;> simp only [Rep] at h
  case bool => subst h; rfl
  case int => subst h; rfl
  case nilp => subst h; rfl
  case ptr => obtain ⟨x, _, rfl⟩ := h; rfl
  case nilfn => subst h; rfl
  case fn => obtain ⟨x, y, rfl, _⟩ := h; rfl
  case sl z r c len m =>
    cases z
    · obtain ⟨x, a, cap, _, rfl, _⟩ := h.2 rfl; rfl
    · obtain ⟨rfl, _⟩ := h.1 rfl; rfl
theorem RepL.one {l : List AV} {vs : List Value} (h : RepL σ l vs) (h1 : l.all AV.one = true) : ∀ v ∈ vs, v.oneCell' = true := by
  intro v hv
  obtain ⟨i, hi, rfl⟩ := List.mem_iff_getElem.1 hv
  have hl : i < l.length := by rw [h.length]; exact hi
  obtain ⟨u, hu, hr⟩ := h.get (List.getElem?_eq_getElem hl)
  rw [List.getElem?_eq_getElem hi] at hu
  cases hu
  exact hr.one (List.all_eq_true.1 h1 _ (List.getElem_mem hl))
/-- A value's cells. -/
theorem Rep.parts {a : AV} {v : Value} (h : Rep σ a v) (h1 : a.parts.all AV.one = true) : RepL σ a.parts v.cells.toList := by
  cases a with
  | agg cs => simp only [Rep] at h; obtain ⟨x, rfl, hx⟩ := h; exact hx
  | junk => simp [AV.parts, AV.one] at h1
  | tup => simp [AV.parts, AV.one] at h1
  | _ =>
    have h2 := h.one (by simpa [AV.parts] using h1)
    have : v.cells = #[v] := by cases v <;> simp_all [Value.cells, Value.oneCell']
    rw [this]
    exact RepL.cons h RepL.nil

theorem RepL.intsOf {k : IntKind} : ∀ {l : List AV} {ns : List Int} {vs : List Value}, intsOf k l = some ns → RepL σ l vs → vs = ns.map (Value.int k)
  | [], ns, vs, h, hr => by
    simp only [Rig.intsOf, Option.some.injEq] at h
    subst h
    simpa [RepL] using hr
  | a :: l, ns, vs, h, hr => by
    cases a <;> simp only [Rig.intsOf] at h <;> try cases h
    rename_i k' c n
    split at h
    · rename_i hk
      have hk : k' = k := by simpa using hk
      subst hk
      obtain ⟨ms, hms, rfl⟩ := Option.map_eq_some_iff.1 h
      simp only [RepL] at hr
      obtain ⟨v, r, rfl, h1, h2⟩ := hr
      simp only [Rep] at h1
      subst h1
      simp [RepL.intsOf hms h2]
    · cases h
theorem RepL.ofInts (k : IntKind) (c : Bool) (f : Nat → Int) : ∀ (ns : List Nat), RepL σ (ns.map fun j => .int k c (f j)) (ns.map fun j => Value.int k (f j))
  | [] => RepL.nil
  | n :: l => RepL.cons (by simp only [Rep]) (RepL.ofInts k c f l)
end
end Go.Proofs.Ytonhkbgielilbaa.Rig
