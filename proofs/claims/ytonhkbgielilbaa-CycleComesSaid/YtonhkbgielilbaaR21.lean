/- A reckoner over Go's operations: telling less of a state; loops. -/
import Derived.Test.YtonhkbgielilbaaR20
namespace Go.Proofs.Ytonhkbgielilbaa.Rig
open Go
def Cap.le : Cap → Cap → Prop
  | _, .any => True
  | .exact, .exact => True
  | .own, .own => True
  | _, _ => False
mutual
def AV.le : AV → AV → Prop
  | _, .junk => True
  | .bool _ b, .bool _ b' => b = b'
  | .int k _ n, .int k' _ n' => k = k' ∧ n = n'
  | .nilp, .nilp => True
  | .ptr r, .ptr r' => r.id = r'.id ∧ r.pos = r'.pos
  | .sl z r _ len m, .sl z' r' _ len' m' => z = z' ∧ len = len' ∧ (z = false → r.id = r'.id ∧ r.pos = r'.pos ∧ m.le m')
  | .fn f a b, .fn f' a' b' => f = f' ∧ AV.leL a a' ∧ AV.leL b b'
  | .nilfn, .nilfn => True
  | .agg cs, .agg cs' => AV.leL cs cs'
  | .tup cs, .tup cs' => AV.leL cs cs'
  | _, _ => False
def AV.leL : List AV → List AV → Prop
  | [], [] => True
  | a :: l, b :: m => AV.le a b ∧ AV.leL l m
  | _, _ => False
end
def Data.le : Data → Data → Prop
  | .cells l, .cells l' => AV.leL l l'
  | .cells l, .ints k ns => intsOf k l = some ns
  | .ints k l, .ints k' l' => k = k' ∧ l = l'
  | .ints k l, .cells l' => AV.leL (l.map (.int k false)) l'
  | .tab sz n f, .tab sz' n' f' => sz = sz' ∧ n = n' ∧ ∀ i, i < n → AV.leL (f i) (f' i)
  | .cells l, .tab _ n _ => l.length = 0 ∧ n = 0
  | _, _ => False
def Blk.le (b b' : Blk) : Prop := b.e = b'.e ∧ (b'.rw = true → b.rw = true) ∧ b.virt = b'.virt ∧ (b'.row = true → b.row = true) ∧ b.d.le b'.d
def Mem.le : Mem → Mem → Prop
  | [], [] => True
  | _ :: M, none :: M' => Mem.le M M'
  | some b :: M, some b' :: M' => b.le b' ∧ Mem.le M M'
  | _, _ => False
def St.le (s t : St) : Prop := AV.leL s.env t.env ∧ Mem.le s.mem t.mem
section
variable {σ : Sig}
mutual
theorem AV.le.imp : ∀ {a b : AV}, a.le b → Imp a b := fun {a b} h σ v hv => by
  cases b with
  | junk => simp only [Rep]
  | bool c b' =>
    cases a <;> simp only [AV.le] at h
    subst h; simpa only [Rep] using hv
  | int k c n =>
    cases a <;> simp only [AV.le] at h
    obtain ⟨rfl, rfl⟩ := h; simpa only [Rep] using hv
  | nilp => cases a <;> simp only [AV.le] at h; exact hv
  | nilfn => cases a <;> simp only [AV.le] at h; exact hv
  | ptr r =>
    cases a <;> simp only [AV.le] at h
    simp only [Rep] at hv ⊢
    rw [← h.1, ← h.2]; exact hv
  | sl z r c len m =>
    cases a with
    | sl z1 r1 c1 len1 m1 =>
      simp only [AV.le] at h
      obtain ⟨rfl, rfl, h⟩ := h
      simp only [Rep] at hv ⊢
      refine ⟨hv.1, fun hz => ?_⟩
      obtain ⟨x, ad, cap, e1, e2, e3⟩ := hv.2 hz
      obtain ⟨h1, h2, h3⟩ := h hz
      refine ⟨x, ad, cap, by rw [← h1]; exact e1, e2, ?_⟩
      rw [← h2]
      have hadd := e3.addr
      cases m <;> cases m1 <;> simp only [Cap.le] at h3
      · exact e3
      · exact e3
      · exact ⟨e3.1, hadd⟩
      · exact ⟨e3.1, hadd⟩
      · exact e3
    | _ => simp only [AV.le] at h
  | fn f x y =>
    cases a <;> simp only [AV.le] at h
    obtain ⟨rfl, h1, h2⟩ := h
    simp only [Rep] at hv ⊢
    obtain ⟨p, q, e0, e1, e2⟩ := hv
    exact ⟨p, q, e0, AV.leL.imp h1 e1, AV.leL.imp h2 e2⟩
  | agg cs =>
    cases a <;> simp only [AV.le] at h
    simp only [Rep] at hv ⊢
    obtain ⟨p, e0, e1⟩ := hv
    exact ⟨p, e0, AV.leL.imp h e1⟩
  | tup cs =>
    cases a <;> simp only [AV.le] at h
    simp only [Rep] at hv ⊢
    obtain ⟨p, e0, e1⟩ := hv
    exact ⟨p, e0, AV.leL.imp h e1⟩
theorem AV.leL.imp {σ : Sig} : ∀ {l m : List AV} {vs : List Value}, AV.leL l m → RepL σ l vs → RepL σ m vs
  | [], [], vs, _, hr => hr
  | a :: l, b :: m, vs, h, hr => by
    simp only [AV.leL] at h
    simp only [RepL] at hr ⊢
    obtain ⟨v, r, e0, e1, e2⟩ := hr
    exact ⟨v, r, e0, AV.le.imp h.1 σ v e1, AV.leL.imp h.2 e2⟩
  | [], b :: m, vs, h, _ => by simp only [AV.leL] at h
  | a :: l, [], vs, h, _ => by simp only [AV.leL] at h
end
theorem AV.leL.get : ∀ {l m : List AV}, AV.leL l m → l.length = m.length ∧ ∀ (i : Nat) b, m[i]? = some b → ∃ a, l[i]? = some a ∧ Imp a b
  | [], [], _ => ⟨rfl, fun i b h => by simp at h⟩
  | a :: l, b :: m, h => by
    simp only [AV.leL] at h
    obtain ⟨h1, h2⟩ := AV.leL.get h.2
    refine ⟨by simp [h1], fun i c hc => ?_⟩
    cases i with
    | zero => simp at hc; subst hc; exact ⟨a, rfl, h.1.imp⟩
    | succ i => simpa using h2 i c (by simpa using hc)
  | [], b :: m, h => by simp only [AV.leL] at h
  | a :: l, [], h => by simp only [AV.leL] at h
theorem Data.le.get {d d' : Data} (h : d.le d') : d'.size = d.size ∧ ∀ (j : Nat) a, d'.get? j = some a → ∃ a', d.get? j = some a' ∧ Imp a' a := by
  cases d <;> cases d' <;> simp only [Data.le] at h
  case cells.cells l m =>
    obtain ⟨h1, h2⟩ := h.get
    exact ⟨h1.symm, h2⟩
  case cells.ints l k ns =>
    obtain ⟨h1, h2⟩ := intsOf_get h
    refine ⟨h1.symm, fun j a hj => ?_⟩
    simp only [Data.get?, Option.map_eq_some_iff] at hj
    obtain ⟨n, hn, rfl⟩ := hj
    obtain ⟨c, hc⟩ := h2 j n hn
    exact ⟨_, hc, Imp.int⟩
  case cells.tab l sz n f =>
    obtain ⟨h1, h2⟩ := h
    subst h2
    refine ⟨by simp [Data.size, h1], fun j a hj => ?_⟩
    simp [Data.get?] at hj
  case ints.ints k l k' l' =>
    obtain ⟨rfl, rfl⟩ := h
    exact ⟨rfl, fun j a hj => ⟨a, hj, Imp.refl a⟩⟩
  case ints.cells k l m =>
    obtain ⟨h1, h2⟩ := h.get
    refine ⟨by simpa [Data.size] using h1.symm, fun j a hj => ?_⟩
    obtain ⟨a', h3, h4⟩ := h2 j a hj
    exact ⟨a', by simpa [Data.get?] using h3, h4⟩
  case tab.tab sz n f sz' n' f' =>
    obtain ⟨rfl, rfl, h⟩ := h
    refine ⟨rfl, fun j a hj => ?_⟩
    simp only [Data.get?] at hj ⊢
    split at hj
    · rename_i hlt
      rw [if_pos hlt]
      have hsz : 0 < sz := by
        rcases Nat.eq_zero_or_pos sz with e | e
        · subst e; simp at hlt
        · exact e
      exact (h _ ((Nat.div_lt_iff_lt_mul hsz).2 hlt)).get.2 _ a hj
    · cases hj
theorem Data.le.void {d d' : Data} (h : d.le d') (hv : d.void) : d'.void := fun j => by
  cases hj : d'.get? j with
  | none => rfl
  | some a =>
    obtain ⟨a', h1, _⟩ := h.get.2 j a hj
    rw [hv j] at h1; cases h1
theorem Mem.le.at_ : ∀ {M M' : Mem}, Mem.le M M' → M.length = M'.length ∧ ∀ i b', M'.at i = some b' → ∃ b, M.at i = some b ∧ b.le b'
  | [], [], _ => ⟨rfl, fun i b h => by simp [Mem.at] at h⟩
  | o :: M, none :: M', h => by
    simp only [Mem.le] at h
    obtain ⟨h1, h2⟩ := h.at_
    refine ⟨by simp [h1], fun i b hb => ?_⟩
    cases i with
    | zero => simp [Mem.at] at hb
    | succ i => simpa [Mem.at] using h2 i b (by simpa [Mem.at] using hb)
  | some c :: M, some c' :: M', h => by
    simp only [Mem.le] at h
    obtain ⟨h1, h2⟩ := h.2.at_
    refine ⟨by simp [h1], fun i b hb => ?_⟩
    cases i with
    | zero => simp [Mem.at] at hb; subst hb; exact ⟨c, rfl, h.1⟩
    | succ i => simpa [Mem.at] using h2 i b (by simpa [Mem.at] using hb)
  | [], none :: M', h => by simp only [Mem.le] at h
  | [], some c' :: M', h => by simp only [Mem.le] at h
  | o :: M, [], h => by cases o <;> simp only [Mem.le] at h
  | none :: M, some c' :: M', h => by simp only [Mem.le] at h
theorem BlkOk.le {P : Program} {w : World} {x : Bl} {b b' : Blk} (h : BlkOk P σ w x b) (hl : b.le b') : BlkOk P σ w x b' := by
  obtain ⟨l1, l2, l3, l4, l5⟩ := hl
  obtain ⟨d1, d2⟩ := l5.get
  rcases h with ⟨h1, h2⟩ | ⟨h1, h2, h3⟩
  · exact .inl ⟨by rw [← l3]; exact h1, by rw [d1]; exact h2⟩
  · refine .inr ⟨by rw [← l3]; exact h1, fun j a hj => ?_, fun hr => ?_⟩
    · obtain ⟨a', e1, e2⟩ := d2 j a hj
      obtain ⟨v, e3, e4⟩ := h2 j a' e1
      exact ⟨v, e3, e2 _ _ e4⟩
    · obtain ⟨cur, c1, c2, c3, c4⟩ := h3 (l2 hr)
      exact ⟨cur, by rw [← l1]; exact c1, c2, by rw [d1]; exact c3, fun hq => by rw [← l1]; exact c4 (l4 hq)⟩
theorem Rel.le {P : Program} {w : World} {M M' : Mem} (h : Rel P σ M w) (hl : M.le M') : Rel P σ M' w := by
  obtain ⟨h1, h2⟩ := hl.at_
  refine ⟨fun i hi => h.dom i (by omega), fun i b' hi => ?_, fun i j bi bj x y hi hj hne hx hy hrw hvi hvj hxy => ?_⟩
  · obtain ⟨b, hb, hbl⟩ := h2 i b' hi
    obtain ⟨x, hx, hok⟩ := h.blk i b hb
    exact ⟨x, hx, hok.le hbl⟩
  · obtain ⟨b, hb, hbl⟩ := h2 i bi hi
    obtain ⟨c, hc, hcl⟩ := h2 j bj hj
    obtain ⟨e1, e2⟩ := h.sep i j b c x y hb hc hne hx hy (hbl.2.1 hrw) (by rw [hbl.2.2.1]; exact hvi) (by rw [hcl.2.2.1]; exact hvj) hxy
    refine ⟨?_, hcl.2.2.2.2.void e2⟩
    cases hq : bj.rw with
    | false => rfl
    | true => rw [hcl.2.1 hq] at e1; cases e1
theorem Moved.le {P : Program} {σ0 : Sig} {M0 M M' : Mem} {w0 w : World} (h : Moved P σ0 M0 w0 σ M w) (hl : M.le M') : Moved P σ0 M0 w0 σ M' w := by
  obtain ⟨h1, h2⟩ := hl.at_
  refine ⟨h.ext, h.rel.le hl, h.kept, h.agree, fun Q hQ hQ' k hk ho => ?_, by have := h.len; omega⟩
  obtain ⟨i, b', x, c1, c2, c3, c4, c5⟩ := ho
  obtain ⟨b, hb, hbl⟩ := h2 i b' c1
  exact h.occ Q hQ hQ' k hk ⟨i, b, x, hb, c2, hQ' b b' hbl.2.1 hbl.2.2.2.2.void c3, by rw [hbl.2.2.1]; exact c4, c5⟩
theorem Fr.le {C : Ctx} {σ0 : Sig} {M0 : Mem} {w0 : World} {ds : List Deferred} {st st' : St} {a : Act} {w : World} (h : Fr C σ0 M0 w0 ds σ st a w) (hl : st.le st') : Fr C σ0 M0 w0 ds σ st' a w := by
  have hm := h.moved.le hl.2
  obtain ⟨e1, e2⟩ := hl.1.get
  exact ⟨hm, ⟨⟨by rw [← e1]; exact h.ok.env.1, fun t v hv => by
    obtain ⟨u, hu, hi⟩ := e2 t v hv
    exact hi _ _ (h.ok.env.2 t u hu)⟩, hm.rel, h.ok.gl, by have := h.ok.ng; have := hl.2.at_.1; omega⟩, h.defers, h.dom0, h.gl0, h.ng0⟩

end

/-! ### a state made ready -/
section
variable {C : Ctx} {σ0 : Sig} {M0 : Mem} {w0 : World} {ds : List Deferred} {σ : Sig} {st st' : St} {a : Act} {w : World}
/-- The state st, made ready, tells at least what st' tells. -/
def Brings (lo : Nat) (T : Tidy) (st st' : St) : Prop := ∃ s, T.go lo st = some s ∧ s.le st'
theorem Fr.brings (h : Fr C σ0 M0 w0 ds σ st a w) {T : Tidy} (hb : Brings M0.length T st st') : ∃ σ', Fr C σ0 M0 w0 ds σ' st' a w := by
  obtain ⟨s, h1, h2⟩ := hb
  obtain ⟨σ1, h3⟩ := h.tidy h1
  exact ⟨σ1, h3.le h2⟩
/-- A LOOP, by its states x: 'hd x' stands at its head, 'res x' is what comes out of it. -/
theorem loop_ok {X : Type} {callF : FuncId → List AV → Mem → Tree (AV × Mem)} (hC : CallOk C callF) (hmix : C.P.follows .mixedOrders = true) {f : FuncId} {body : Code} (n : Nat) (hL : ∀ b ∈ loopsIn body, (C.keep f (Code.key b)).isSome = true → LoopOk C f M0.length b)
    (T : Tidy) (U : Ex → Tidy) (hd : X → St) (res : X → Ex → St → Prop) (μ : X → Nat)
    (step : ∀ x ex r, res x ex r → ∃ ex1 s, (evCode C callF f M0.length n body (hd x)).runs (ex1, s) ∧ match ex1 with
      | .norm => ∃ x', Brings M0.length T s (hd x') ∧ μ x' < μ x ∧ res x' ex r
      | e => ex = e ∧ Brings M0.length (U e) s r) {x : X} {ex : Ex} {r : St} (hr : res x ex r) (hf : Fr C σ0 M0 w0 ds σ (hd x) a w) {Q : Exit → Act → World → Prop}
    (hQ : ∀ σ' a' w', Fr C σ0 M0 w0 ds σ' r a' w' → Q ex.out a' w') : (Code.loop body).wp C.P Q a w := by
  refine loop_idx (fun m a w => ∃ x σ, μ x = m ∧ res x ex r ∧ Fr C σ0 M0 w0 ds σ (hd x) a w) (fun m a w hI => ?_) (m := μ x) ⟨x, σ, rfl, hr, hf⟩
  obtain ⟨x, σ, rfl, hr, hf⟩ := hI
  obtain ⟨ex1, s, h1, h2⟩ := step x ex r hr
  refine code_ok hC hmix n body hL h1 hf _ fun σ1 a1 w1 g => ?_
  cases ex1 with
  | norm =>
    obtain ⟨x', hb, hlt, hr'⟩ := h2
    obtain ⟨σ2, g2⟩ := g.brings hb
    exact ⟨μ x', hlt, x', σ2, rfl, hr', g2⟩
  | exit id =>
    obtain ⟨rfl, hb⟩ := h2
    obtain ⟨σ2, g2⟩ := g.brings hb
    exact hQ σ2 a1 w1 g2
  | ret =>
    obtain ⟨rfl, hb⟩ := h2
    obtain ⟨σ2, g2⟩ := g.brings hb
    exact hQ σ2 a1 w1 g2
end
end Go.Proofs.Ytonhkbgielilbaa.Rig
