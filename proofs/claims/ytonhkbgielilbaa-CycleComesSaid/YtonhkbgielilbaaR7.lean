/- A reckoner over Go's operations: places, parts, what is built. -/
import Derived.Test.YtonhkbgielilbaaR6
namespace Go.Proofs.Ytonhkbgielilbaa.Rig
open Go
section
variable {P : Program} {σ : Sig} {M : Mem} {w : World}

theorem Bl.at_add (x : Bl) (p n : Nat) : (x.at p).add n = x.at (p + n) := by
  unfold Bl.at Addr.add
  split
  · rename_i h; subst h; rfl
  · simp [Nat.add_assoc]
theorem idx_ok {r r' : Ref} {c : Bool} {i sz : Nat} (h : r.idx c i sz = some r') : r'.id = r.id ∧ r'.pos = r.pos + i * sz := by
  unfold Ref.idx at h
  split at h
  · cases h; exact ⟨rfl, by simp only [Ref.pos]; omega⟩
  · split at h
    · rename_i hw
      cases h
      exact ⟨rfl, by simp only [Ref.pos, hw]; omega⟩
    · rename_i n hw
      split at h
      · rename_i hs
        have hs : n + 1 = sz := by simpa using hs
        cases h
        refine ⟨rfl, ?_⟩
        simp only [Ref.pos, hw]
        rw [show n.succ = sz from hs, Nat.add_mul]; omega
      · cases h
theorem fieldOf_run {s : TypeId} {f : Nat} {fd : Field} (h : fieldOf P s f = some fd) : ∃ fs, P.underlying s = some (.struct fs) ∧ fs[f]? = some fd := by
  unfold fieldOf at h
  split at h
  · rename_i fs hu; exact ⟨fs, hu, h⟩
  · cases h
theorem fieldAddrAV_ok {s : TypeId} {x v : AV} {f : Nat} {vx : Value} (h : (fieldAddrAV P s x f).runs v) (hx : Rep σ x vx) : Yld P σ w (Instr.fieldAt s vx f) v := by
  unfold fieldAddrAV at h
  split at h
  · rename_i r fd hf
    split at h
    · rename_i n hn
      simp only [Tree.runs] at h
      subst h
      simp only [Rep] at hx
      obtain ⟨x, hσ, rfl⟩ := hx
      obtain ⟨fs, hu, hg⟩ := fieldOf_run hf
      have hsz : (sizeOf fd.type).run P w = .ok (n + 1) w := szT_run hn
      refine ⟨.pointer (some ((x.at r.pos).add fd.offset)), ?_, ?_⟩
      · simp [Instr.fieldAt, run_underlying hu, hg, Instr.sureAddr, fieldPlace, hsz]
      · simp only [Rep]
        exact ⟨x, hσ, by rw [Bl.at_add]; simp only [Ref.pos]; rw [Nat.add_assoc]⟩
    · exact h.elim
  · exact h.elim
theorem fieldAV_ok {s : TypeId} {x v : AV} {f : Nat} {vx : Value} (h : (fieldAV P s x f).runs v) (hx : Rep σ x vx) : Yld P σ w (Instr.field s vx f) v := by
  unfold fieldAV at h
  split at h
  · rename_i cs fd hf
    have h := Tree.runs_ofOpt h
    simp only [Rep] at hx
    obtain ⟨X, rfl, hX⟩ := hx
    obtain ⟨fs, hu, hg⟩ := fieldOf_run hf
    obtain ⟨val, h1, h2⟩ := partV_ok (w := w) h hX
    exact ⟨val, by simp [Instr.field, run_underlying hu, hg, asAgg, h1], h2⟩
  · exact h.elim
theorem indexAddrAV_ok {t : TypeId} {x i v : AV} {vx vi : Value} (h : (indexAddrAV P t x i).runs v) (hx : Rep σ x vx) (hi : Rep σ i vi) : Yld P σ w (Instr.indexAt t vx vi) v := by
  unfold indexAddrAV at h
  split at h
  · rename_i len e r k c n hu
    split at h
    · rename_i s hs
      obtain ⟨h1, h2⟩ := Tree.runs_need h
      obtain ⟨h0, hl⟩ : 0 ≤ n ∧ n < len := by simpa using h1
      split at h2
      · rename_i r' hr
        simp only [Tree.runs] at h2
        subst h2
        simp only [Rep] at hx hi
        subst hi
        obtain ⟨x, hσ, rfl⟩ := hx
        obtain ⟨e1, e2⟩ := idx_ok hr
        have hsz : (sizeOf e).run P w = .ok s w := szT_run hs
        refine ⟨.pointer (some ((x.at r.pos).add (n.toNat * s))), by simp [Instr.indexAt, asIntOf, run_underlying hu, Instr.sureAddr, h0, hl, hsz], ?_⟩
        simp only [Rep, e1, e2]
        exact ⟨x, hσ, by rw [Bl.at_add]⟩
      · exact h2.elim
    · exact h.elim
  · rename_i e z r d len m k c n hu
    split at h
    · rename_i s hs
      obtain ⟨h1, h2⟩ := Tree.runs_need h
      simp only [Bool.and_eq_true, Bool.not_eq_true', decide_eq_true_eq] at h1
      obtain ⟨hz, h0, hl⟩ := h1
      split at h2
      · rename_i r' hr
        simp only [Tree.runs] at h2
        subst h2
        simp only [Rep] at hx hi
        subst hi
        obtain ⟨x, a, cap, hσ, rfl, hok⟩ := hx.2 hz
        obtain rfl : a = x.at r.pos := hok.addr.resolve_right (by omega)
        obtain ⟨e1, e2⟩ := idx_ok hr
        have hsz : (sizeOf e).run P w = .ok s w := szT_run hs
        refine ⟨.pointer (some ((x.at r.pos).add (n.toNat * s))), by simp [Instr.indexAt, asIntOf, run_underlying hu, h0, hl, hsz], ?_⟩
        simp only [Rep, e1, e2]
        exact ⟨x, hσ, by rw [Bl.at_add]⟩
      · exact h2.elim
    · exact h.elim
  · exact h.elim
theorem indexAV_ok {t : TypeId} {x i v : AV} {vx vi : Value} (h : (indexAV P t x i).runs v) (hx : Rep σ x vx) (hi : Rep σ i vi) : Yld P σ w (Instr.index t vx vi) v := by
  unfold indexAV at h
  split at h
  · rename_i len e cs k c n hu
    split at h
    · rename_i s hs
      obtain ⟨h1, h2⟩ := Tree.runs_need h
      obtain ⟨h0, hl⟩ : 0 ≤ n ∧ n < len := by simpa using h1
      simp only [Rep] at hx hi
      subst hi
      obtain ⟨X, rfl, hX⟩ := hx
      have hsz : (sizeOf e).run P w = .ok s w := szT_run hs
      split at h2
      · have h2 := Tree.runs_ofOpt h2
        obtain ⟨val, h3, h4⟩ := partV_ok (w := w) h2 hX
        exact ⟨val, by simp [Instr.index, asIntOf, run_underlying hu, h0, hl, hsz, h3], h4⟩
      · split at h2
        · rename_i k' ns ha hk
          obtain ⟨h3, h4⟩ := Tree.runs_need h2
          have h3 : n.toNat < cs.length := by simpa using h3
          simp only [Tree.runs] at h4
          subst h4
          obtain ⟨cc, hc⟩ := intsOf_getD (kind_ints hk) h3
          obtain ⟨u, hu1, hu2⟩ := hX.get hc
          have hu' : X[n.toNat]? = some u := by simpa using hu1
          refine ⟨u, by simp [Instr.index, asIntOf, run_underlying hu, h0, hl, hsz, part, aggT_run ha, hu'], ?_⟩
          exact Imp.int _ _ hu2
        · exact h2.elim
    · exact h.elim
  · exact h.elim

theorem optNat_ok {d : Nat} {o : Option AV} {c : Bool} {n : Int} {vo : Option Value} (h : optNat d o = some (c, n)) (ho : ∀ x, o = some x → ∃ v, vo = some v ∧ Rep σ x v) (hn : o = none → vo = none) :
    (o = none ∧ vo = none ∧ n = d) ∨ ∃ k, vo = some (.int k n) := by
  unfold optNat at h
  split at h
  · cases h; exact .inl ⟨rfl, hn rfl, rfl⟩
  · cases h
    obtain ⟨v, hv, hr⟩ := ho _ rfl
    simp only [Rep] at hr
    subst hr
    exact .inr ⟨_, hv⟩
  · cases h
theorem sliceBounds_ok {isSlice : Bool} {len cap : Nat} {lo hi : Option Value} {l h : Int} (hlo : (lo = none ∧ l = 0) ∨ ∃ k, lo = some (.int k l)) (hhi : (hi = none ∧ h = len) ∨ ∃ k, hi = some (.int k h))
    (h0 : 0 ≤ l) (h1 : l ≤ h) (h2 : h ≤ len) (hc : len ≤ cap) : (Instr.sliceBounds isSlice len cap lo hi none).run P w = .ok (l.toNat, h.toNat, cap) w := by
  have hb : ∀ (k : IntKind) (i : Int) (y : Nat) code, 0 ≤ i → i ≤ y → (Instr.sliceBound (.int k i) y code).run P w = .ok i.toNat w := fun k i y code h0 h1 => run_sliceBound w k i y code h0 h1
  have hh : ∃ code, (match hi, (none : Option Value) with | some v, some _ => Instr.sliceBound v cap .slice3B | some v, none => Instr.sliceBound v cap code | none, none => pure len | none, some _ => stuck "Slice: max without high").run P w = .ok h.toNat w := by
    refine ⟨.sliceB, ?_⟩
    rcases hhi with ⟨rfl, rfl⟩ | ⟨k, rfl⟩
    · simp
    · exact hb _ _ _ _ (by omega) (by omega)
  unfold Instr.sliceBounds
  rcases hhi with ⟨rfl, rfl⟩ | ⟨k, rfl⟩ <;> rcases hlo with ⟨rfl, rfl⟩ | ⟨k', rfl⟩
  · simp
  · simp [hb k' l len _ h0 (by omega)]
  · simp [hb k h cap _ (by omega) (by omega)]
  · simp [hb k h cap _ (by omega) (by omega), hb k' l h.toNat _ h0 (by omega)]
theorem sliceBounds3_ok {isSlice : Bool} {len cap : Nat} {lo hi : Option Value} {l h q : Int} {kq : IntKind} (hlo : (lo = none ∧ l = 0) ∨ ∃ k, lo = some (.int k l)) (hhi : ∃ k, hi = some (.int k h))
    (h0 : 0 ≤ l) (h1 : l ≤ h) (h2 : h ≤ q) (h3 : q ≤ len) (hc : len ≤ cap) : (Instr.sliceBounds isSlice len cap lo hi (some (.int kq q))).run P w = .ok (l.toNat, h.toNat, q.toNat) w := by
  have hb : ∀ (k : IntKind) (i : Int) (y : Nat) code, 0 ≤ i → i ≤ y → (Instr.sliceBound (.int k i) y code).run P w = .ok i.toNat w := fun k i y code h0 h1 => run_sliceBound w k i y code h0 h1
  obtain ⟨k, rfl⟩ := hhi
  unfold Instr.sliceBounds
  rcases hlo with ⟨rfl, rfl⟩ | ⟨k', rfl⟩
  · simp [hb kq q cap _ (by omega) (by omega), hb k h q.toNat _ (by omega) (by omega)]
  · simp [hb kq q cap _ (by omega) (by omega), hb k h q.toNat _ (by omega) (by omega), hb k' l h.toNat _ h0 (by omega)]

theorem sliceCap_exact {hi : Option AV} {m : Cap} (h : sliceCap hi m = .exact) : hi = none ∧ m = .exact := by
  cases hi <;> cases m <;> simp [sliceCap] at h ⊢
theorem sliceCap_own (hi : Option AV) (m : Cap) : sliceCap hi m ≠ .own := by
  cases hi <;> cases m <;> simp [sliceCap]
theorem slice_go {e : TypeId} {r : Ref} {d : Bool} {len : Nat} {m : Cap} {lo hi mx : Option AV} {vlo vhi vmx : Option Value} {z : Bool} {v : AV} (isSlice : Bool) (cap : Nat) (hcap : len ≤ cap) (hm : m = .exact → cap = len)
    (h : (match optNat 0 lo, optNat len hi, szT P e with
    | some (c1, l), some (c2, h), some s =>
      match mx, hi with
      | none, _ => Tree.need (c1 && c2 && d) (decide (0 ≤ l ∧ l ≤ h ∧ h ≤ len)) (match r.idx c1 l.toNat s with
          | some r' => .ret (AV.sl z r' (c1 && c2 && d) (h.toNat - l.toNat) (sliceCap hi m))
          | none => .fail)
      | some (.int _ c3 q), some _ => Tree.need (c1 && c2 && c3 && d) (decide (0 ≤ l ∧ l ≤ h ∧ h ≤ q ∧ q ≤ len)) (Tree.need (c2 && c3) (decide (h = q)) (match r.idx c1 l.toNat s with
          | some r' => .ret (.sl z r' (c1 && c2 && d) (h.toNat - l.toNat) .exact)
          | none => .fail))
      | _, _ => .fail
    | _, _, _ => .fail).runs v)
    (hlo : ∀ x, lo = some x → ∃ v, vlo = some v ∧ Rep σ x v) (hlo' : lo = none → vlo = none)
    (hhi : ∀ x, hi = some x → ∃ v, vhi = some v ∧ Rep σ x v) (hhi' : hi = none → vhi = none)
    (hmx : ∀ x, mx = some x → ∃ v, vmx = some v ∧ Rep σ x v) (hmx' : mx = none → vmx = none) :
    ∃ (l h q : Nat) (s : Nat) (r' : Ref) (c' : Bool) (m' : Cap), (Instr.sliceBounds isSlice len cap vlo vhi vmx).run P w = .ok (l, h, q) w ∧ szT P e = some s ∧ l ≤ h ∧ h ≤ q ∧ q ≤ cap ∧ h ≤ len ∧ r'.id = r.id ∧ r'.pos = r.pos + l * s ∧ v = .sl z r' c' (h - l) m' ∧
      (m' = .exact → q = h) ∧ m' ≠ .own := by
  split at h
  · rename_i c1 l c2 hh s e1 e2 e3
    have g1 := optNat_ok e1 hlo hlo'
    have g2 := optNat_ok e2 hhi hhi'
    split at h
    · obtain ⟨h1, h2⟩ := Tree.runs_need h
      obtain ⟨h0, hl, hu⟩ : 0 ≤ l ∧ l ≤ hh ∧ hh ≤ len := by simpa using h1
      have hq := hmx' rfl
      subst hq
      have gb := sliceBounds_ok (P := P) (w := w) (isSlice := isSlice) (cap := cap) (g1.imp (fun g => ⟨g.2.1, g.2.2⟩) id) (g2.imp (fun g => ⟨g.2.1, g.2.2⟩) id) h0 hl hu hcap
      split at h2
      · rename_i r' hr
        obtain ⟨i1, i2⟩ := idx_ok hr
        simp only [Tree.runs] at h2
        refine ⟨_, _, _, s, r', _, _, gb, e3, by omega, by omega, by omega, by omega, i1, i2, h2.symm, ?_, ?_⟩
        · intro hex
          obtain ⟨h3, h4⟩ := sliceCap_exact hex
          subst h3
          rcases g2 with ⟨_, _, g2⟩ | ⟨k, g2⟩
          · have := hm h4; omega
          · rw [hhi' rfl] at g2; cases g2
        · exact sliceCap_own _ _
      · exact h2.elim
    · rename_i kk c3 q hv
      obtain ⟨h1, h2⟩ := Tree.runs_need h
      obtain ⟨h0, hl, hu, hu2⟩ : 0 ≤ l ∧ l ≤ hh ∧ hh ≤ q ∧ q ≤ len := by simpa using h1
      obtain ⟨h3, h4⟩ := Tree.runs_need h2
      have h3 : hh = q := by simpa using h3
      obtain ⟨vq, rfl, hq⟩ := hmx _ rfl
      simp only [Rep] at hq
      subst hq
      split at h4
      · rename_i r' hr
        obtain ⟨i1, i2⟩ := idx_ok hr
        simp only [Tree.runs] at h4
        rcases g2 with ⟨g2, _, _⟩ | g2
        · cases g2
        · have gb := sliceBounds3_ok (P := P) (w := w) (isSlice := isSlice) (cap := cap) (kq := kk) (g1.imp (fun g => ⟨g.2.1, g.2.2⟩) id) g2 h0 hl hu hu2 hcap
          exact ⟨_, _, _, s, r', _, _, gb, e3, by omega, by omega, by omega, by omega, i1, i2, h4.symm, fun _ => by omega, by simp⟩
      · exact h4.elim
    · exact h.elim
  · exact h.elim
end
end Go.Proofs.Ytonhkbgielilbaa.Rig
