/- A reckoner over Go's operations: copy. -/
import Derived.Test.YtonhkbgielilbaaR10
namespace Go.Proofs.Ytonhkbgielilbaa.Rig
open Go
section
variable {P : Program} {σ : Sig} {M : Mem} {w : World}
theorem intList_get {d : Data} {k : IntKind} {ns : List Int} (h : d.intList = some (k, ns)) : d.size = ns.length ∧ ∀ (i : Nat) n, ns[i]? = some n → ∃ c, d.get? i = some (.int k c n) := by
  cases d with
  | ints k' l => simp only [Data.intList, Option.some.injEq, Prod.mk.injEq] at h; obtain ⟨rfl, rfl⟩ := h; exact ⟨rfl, fun i n hi => ⟨false, by simp [Data.get?, hi]⟩⟩
  | cells l =>
    have h := kind_ints h
    obtain ⟨h1, h2⟩ := intsOf_get h
    exact ⟨h1, h2⟩
  | tab => simp [Data.intList] at h
theorem copy_core {td ts ty e : TypeId} (hr : Rel P σ M w) (hu : P.underlying td = some (.slice e)) (hsz : szT P e = some 1) {r r' : Ref} {d c' z' : Bool} {len len' : Nat} {m m' : Cap} {b b' : Blk} {vx vy : Value} {d' : Data} (cf : Bool)
    (hx : Rep σ (.sl false r d len m) vx) (hy : Rep σ (.sl z' r' c' len' m') vy) (hb : M.at r.id = some b) (hb' : M.at r'.id = some b') (hv : b.virt = false) (hrw : b.rw = true) (hv' : b'.virt = false)
    (hfit : r.pos + Nat.min len' len ≤ b.d.size) (hsrc : ∀ j, j < Nat.min len' len → ∃ k c n, b'.d.get? (r'.pos + j) = some (.int k c n)) (hds : d'.size = b.d.size)
    (hd : ∀ (j : Nat) a, d'.get? j = some a → (r.pos ≤ j ∧ j < r.pos + Nat.min len' len ∧ ∃ a', b'.d.get? (r'.pos + (j - r.pos)) = some a' ∧ Imp a' a) ∨ ((j < r.pos ∨ r.pos + Nat.min len' len ≤ j) ∧ ∃ a', b.d.get? j = some a' ∧ Imp a' a)) :
    Does P σ M w (Builtin.copy_ #[td, ts] ty #[vx, vy]) (.int .i64 cf (Nat.min len' len : Nat), M.set r.id (some { b with d := d' })) := by
  obtain ⟨x, hσ, hok⟩ := hr.blk _ b hb
  obtain ⟨hcov, cur, hcur, hoff, hcs, hrow⟩ : Covers σ w x b.d ∧ ∃ cur, w.heap[x.blk]? = some (.cells cur b.e (0, 0)) ∧ x.off = 0 ∧ b.d.size ≤ cur.size ∧ (b.row = true → x.cap ≤ maxLen ∧ ∀ n, szT P b.e = some n → cur.size = x.cap * n) := by
    rcases hok with h | h
    · rw [hv] at h; cases h.1
    · exact ⟨h.2.1, h.2.2 hrw⟩
  simp only [Rep] at hx
  obtain ⟨x2, a, cap, hσ2, rfl, hsl⟩ := hx.2 trivial
  rw [hσ] at hσ2; cases hσ2
  have hsize : (P.info? e).map (·.size) = some 1 := hsz
  have hcell : ∀ j, w.cell? (x.at j) = cur[j]? := fun j => by
    rw [show x.at j = ⟨x.blk, j, none⟩ by simp [Bl.at, hoff]]
    exact cell_of_row w x.blk j cur _ (0, 0) hcur
  -- what remains of it
  have fin : ∀ (W : World) (cur1 : Array Value), W.heap[x.blk]? = some (.cells cur1 b.e (0, 0)) → (∀ k, k ≠ x.blk → W.heap[k]? = w.heap[k]?) → W.os = w.os ∧ W.tape = w.tape ∧ W.output = w.output ∧ W.heap.size = w.heap.size → cur1.size = cur.size →
      (∀ (j : Nat) a, d'.get? j = some a → ∃ u, cur1[j]? = some u ∧ Rep σ a u) → (Builtin.copy_ #[td, ts] ty #[.slice (some a) len cap, vy]).run P w = .ok (goInt (Nat.min len' len : Nat)) W →
      Does P σ M w (Builtin.copy_ #[td, ts] ty #[.slice (some a) len cap, vy]) (.int .i64 cf (Nat.min len' len : Nat), M.set r.id (some { b with d := d' })) := by
    intro W cur1 hh hoth hfix hs1 hg hrun
    have hrel : Rel P σ (M.set r.id (some { b with d := d' })) W := hr.update hb hσ hrw hv (.inr ⟨hv, fun j a hj => by
      obtain ⟨u, hu, hru⟩ := hg j a hj
      refine ⟨u, ?_, hru⟩
      rw [show x.at j = ⟨x.blk, j, none⟩ by simp [Bl.at, hoff], cell_of_row W x.blk j _ _ _ hh]
      exact hu, fun _ => ⟨cur1, hh, hoff, by show d'.size ≤ cur1.size; omega, fun hq => ⟨(hrow hq).1, fun n hn => by rw [hs1]; exact (hrow hq).2 n hn⟩⟩⟩) hrw hoth
    refine ⟨_, W, σ, hrun, by simp only [Rep, goInt], ⟨Ext.refl _, hrel, ⟨hfix.1, hfix.2.1, hfix.2.2.1, Nat.le_of_eq hfix.2.2.2.symm, fun k hk hf => hoth k fun e' => hf ⟨r.id, b, x, hb, hσ, hrw, hv, e'.symm⟩⟩, fun _ _ => rfl, fun Q hQ hQ' k hk hf => ?_, by simp⟩⟩
    obtain ⟨i, c, y, hi, hy', c1, c2, c3⟩ := hf
    rw [Mem.at_set (Mem.at_lt hb)] at hi
    split at hi
    · rename_i e'
      subst e'
      rw [hσ] at hy'; cases hy'
      exact ⟨r.id, b, x, hb, hσ, hQ b hrw, hv, c3⟩
    · exact ⟨i, c, y, hi, hy', c1, c2, c3⟩
  have hold : ∀ (j : Nat) a, b.d.get? j = some a → ∃ u, cur[j]? = some u ∧ Rep σ a u := fun j a hj => by
    obtain ⟨u, hu, hru⟩ := hcov j a hj
    exact ⟨u, by rw [← hcell]; exact hu, hru⟩
  by_cases hn : Nat.min len' len = 0
  · refine fin w cur hcur (fun _ _ => rfl) ⟨rfl, rfl, rfl, rfl⟩ rfl (fun j a hj => ?_) ?_
    · rcases hd j a hj with ⟨c1, c2, _⟩ | ⟨_, a', c2, c3⟩
      · omega
      · obtain ⟨u, hu, hru⟩ := hold j a' c2
        exact ⟨u, hu, c3 _ _ hru⟩
    · rw [hn]
      simp only [Rep] at hy
      cases z'
      · obtain ⟨_, a2, cap2, _, rfl, _⟩ := hy.2 rfl
        exact run_copy_none (P := P) w td ts ty e _ _ _ _ _ _ hu hsize hn
      · obtain ⟨rfl, h0⟩ := hy.1 rfl
        exact run_copy_none (P := P) w td ts ty e _ _ _ _ _ _ hu hsize (by simp [Nat.min_def])
  · have hne : len ≠ 0 ∧ len' ≠ 0 := by
      simp only [Nat.min_def] at hn
      split at hn <;> omega
    have ha := hsl.addr.resolve_right hne.1
    rw [show x.at r.pos = ⟨x.blk, r.pos, none⟩ by simp [Bl.at, hoff]] at ha
    subst ha
    simp only [Rep] at hy
    cases z'
    case true => exact absurd (hy.1 rfl).2 hne.2
    obtain ⟨y, a2, cap2, hσ', rfl, hsl'⟩ := hy.2 rfl
    have ha2 := hsl'.addr.resolve_right hne.2
    subst ha2
    obtain ⟨y', hy1, hok'⟩ := hr.blk _ b' hb'
    rw [hσ'] at hy1; cases hy1
    have hcov' : Covers σ w y b'.d := by
      rcases hok' with h | h
      · rw [hv'] at h; cases h.1
      · exact h.2.1
    have hcs1 : ∀ j, j < Nat.min len' len → ∃ k n, w.cell? (y.at (r'.pos + j)) = some (.int k n) := fun j hj => by
      obtain ⟨k, c, n, h1⟩ := hsrc j hj
      obtain ⟨u, h2, h3⟩ := hcov' _ _ h1
      simp only [Rep] at h3
      subst h3
      exact ⟨k, n, h2⟩
    have hgetc : ∀ (j : Nat) u, ((List.range (Nat.min len' len)).map fun j => (w.cell? (y.at (r'.pos + j))).getD undef)[j]? = some u → j < Nat.min len' len ∧ w.cell? (y.at (r'.pos + j)) = some u := fun j u hj => by
      simp only [List.getElem?_map, Option.map_eq_some_iff] at hj
      obtain ⟨j', hj', rfl⟩ := hj
      obtain ⟨hlt, rfl⟩ := List.getElem?_eq_some_iff.1 hj'
      simp only [List.length_range] at hlt
      simp only [List.getElem_range]
      obtain ⟨k, n, h1⟩ := hcs1 j hlt
      rw [h1]; exact ⟨hlt, rfl⟩
    generalize hcsd : (List.range (Nat.min len' len)).map (fun j => (w.cell? (y.at (r'.pos + j))).getD undef) = cs at hgetc
    have hcl : cs.length = Nat.min len' len := by subst hcsd; simp
    have hcg : ∀ j, j < Nat.min len' len → cs[j]? = w.cell? (y.at (r'.pos + j)) := fun j hj => by
      have hlt : j < cs.length := by omega
      rw [List.getElem?_eq_getElem hlt, (hgetc j _ (List.getElem?_eq_getElem hlt)).2]
    have hrun := run_copy_row (P := P) w td ts ty e x.blk r.pos len cap (y.at r'.pos) len' cap2 cur b.e cs hu hsize hcur hcl (fun j v hj => by rw [Bl.at_add]; exact (hgetc j v hj).2) (by omega) (fun v hv => by
      obtain ⟨j, hj, rfl⟩ := List.mem_iff_getElem.1 hv
      obtain ⟨h1, h2⟩ := hgetc j _ (List.getElem?_eq_getElem hj)
      obtain ⟨k, n, h3⟩ := hcs1 j h1
      rw [h3] at h2; simp only [Option.some.injEq] at h2; rw [← h2]; rfl)
    have hget : ∀ j, (cur.toList.take r.pos ++ cs ++ cur.toList.drop (r.pos + cs.length))[j]? = if j < r.pos then cur[j]? else if j < r.pos + cs.length then cs[j - r.pos]? else cur[j]? := by
      intro j
      have hl1 : (cur.toList.take r.pos).length = r.pos := by simp; omega
      by_cases c1 : j < r.pos
      · rw [if_pos c1, List.append_assoc, List.getElem?_append_left (by omega), List.getElem?_take, if_pos c1]; simp
      · rw [if_neg c1, List.append_assoc, List.getElem?_append_right (by omega), hl1]
        by_cases c2 : j < r.pos + cs.length
        · rw [if_pos c2, List.getElem?_append_left (by omega)]
        · rw [if_neg c2, List.getElem?_append_right (by omega), List.getElem?_drop]
          rw [show r.pos + cs.length + (j - r.pos - cs.length) = j by omega]; simp
    refine fin (w.setRow x.blk (cur.toList.take r.pos ++ cs ++ cur.toList.drop (r.pos + cs.length)).toArray) (cur.toList.take r.pos ++ cs ++ cur.toList.drop (r.pos + cs.length)).toArray (setRow_heap w x.blk cur _ b.e _ hcur) (fun k hk' => setRow_other w x.blk k _ hk') ⟨by simp, by simp, by simp, by simp⟩ (by simp; omega) (fun j a hj => ?_) (by rw [← hcl]; exact hrun)
    simp only [List.getElem?_toArray]
    rw [hget j]
    rcases hd j a hj with ⟨c1, c2, a', c3, c4⟩ | ⟨c1, a', c2, c3⟩
    · rw [if_neg (by omega), if_pos (by omega), hcg _ (by omega)]
      obtain ⟨u, hu', hru⟩ := hcov' _ _ c3
      exact ⟨u, hu', c4 _ _ hru⟩
    · obtain ⟨u, hu', hru⟩ := hold j a' c2
      refine ⟨u, ?_, c3 _ _ hru⟩
      rcases c1 with c1 | c1
      · rw [if_pos c1]; exact hu'
      · rw [if_neg (by omega), if_neg (by omega)]; exact hu'
theorem copyAV_ok {td ts ty : TypeId} {x y : AV} {vx vy : Value} {r : AV × Mem} (hr : Rel P σ M w) (hx : Rep σ x vx) (hy : Rep σ y vy) (h : (copyAV P td ts x y M).runs r) :
    Does P σ M w (Builtin.copy_ #[td, ts] ty #[vx, vy]) r := by
  unfold copyAV at h
  split at h
  · rename_i r1 d len m z' r' d' len' m' e hu
    split at h
    · rename_i hsz
      split at h
      · rename_i b b' hb hb'
        split at h
        · rename_i hv hrw hv'
          split at h
          · rename_i l k ns hbd hil hw
            split at h
            · rename_i ms hms
              obtain ⟨g1, h⟩ := Tree.runs_need h
              simp only [Tree.runs] at h
              subst h
              obtain ⟨p1, p2⟩ : r1.off + len ≤ l.length ∧ r'.pos + len' ≤ ns.length := by simpa using g1
              have hp : r1.pos = r1.off := by simp [Ref.pos, hw]
              have hmin : Nat.min len' len ≤ len ∧ Nat.min len' len ≤ len' := ⟨Nat.min_le_right _ _, Nat.min_le_left _ _⟩
              obtain ⟨i1, i2⟩ := intList_get hil
              obtain ⟨j1, j2⟩ := intsOf_get hms
              refine copy_core hr hu hsz _ hx hy hb hb' hv hrw hv' (by rw [hbd, hp]; simp only [Data.size]; omega) (fun j hj => ?_) (by rw [hbd]; simp [Data.size]) (fun j a hj => ?_)
              · obtain ⟨c, hc⟩ := i2 (r'.pos + j) _ (List.getElem?_eq_getElem (by omega))
                exact ⟨_, _, _, hc⟩
              · simp only [Data.get?, List.getElem?_map, Option.map_eq_some_iff] at hj
                obtain ⟨j', hj', rfl⟩ := hj
                obtain ⟨hlt, rfl⟩ := List.getElem?_eq_some_iff.1 hj'
                simp only [List.length_range] at hlt
                simp only [List.getElem_range]
                rw [hp]
                by_cases hin : r1.off ≤ j ∧ j < r1.off + Nat.min len' len
                · have hn : ns[r'.pos + (j - r1.off)]? = some (ns.getD (r'.pos + (j - r1.off)) 0) := by
                    rw [List.getD_eq_getElem?_getD, List.getElem?_eq_getElem (by omega)]; rfl
                  obtain ⟨c, hc⟩ := i2 _ _ hn
                  refine .inl ⟨hin.1, hin.2, _, hc, ?_⟩
                  simp only [hin, and_self, decide_true, cond_true]
                  exact Imp.int
                · have hn : ms[j]? = some (ms.getD j 0) := by
                    rw [List.getD_eq_getElem?_getD, List.getElem?_eq_getElem (by omega)]; rfl
                  obtain ⟨c, hc⟩ := j2 _ _ hn
                  refine .inr ⟨by omega, _, by rw [hbd]; exact hc, ?_⟩
                  simp only [hin, decide_false, cond_false]
                  exact Imp.int
            · exact h.elim
          · rename_i k l k' ns hbd hil
            split at h
            · rename_i hk
              have hk : k = k' := by simpa using hk
              subst hk
              obtain ⟨g1, h⟩ := Tree.runs_need h
              simp only [Tree.runs] at h
              subst h
              obtain ⟨p1, p2⟩ : r1.pos + len ≤ l.length ∧ r'.pos + len' ≤ ns.length := by simpa using g1
              have hmin : Nat.min len' len ≤ len ∧ Nat.min len' len ≤ len' := ⟨Nat.min_le_right _ _, Nat.min_le_left _ _⟩
              obtain ⟨i1, i2⟩ := intList_get hil
              have hl1 : (l.take r1.pos).length = r1.pos := by simp; omega
              have hl2 : ((ns.drop r'.pos).take (Nat.min len' len)).length = Nat.min len' len := by rw [List.length_take, List.length_drop]; exact Nat.min_eq_left (by omega)
              refine copy_core hr hu hsz _ hx hy hb hb' hv hrw hv' (by rw [hbd]; simp only [Data.size]; omega) (fun j hj => ?_) (by rw [hbd]; simp only [Data.size, List.length_append, hl1, hl2, List.length_drop]; omega) (fun j a hj => ?_)
              · obtain ⟨c, hc⟩ := i2 (r'.pos + j) _ (List.getElem?_eq_getElem (by omega))
                exact ⟨_, _, _, hc⟩
              · simp only [Data.get?, Option.map_eq_some_iff] at hj
                obtain ⟨n, hn, rfl⟩ := hj
                by_cases c1 : j < r1.pos
                · rw [List.getElem?_append_left (by omega), List.getElem?_take, if_pos c1] at hn
                  exact .inr ⟨.inl c1, _, by rw [hbd]; simp only [Data.get?, hn]; rfl, Imp.refl _⟩
                · rw [List.getElem?_append_right (by omega), hl1] at hn
                  by_cases c2 : j - r1.pos < Nat.min len' len
                  · rw [List.getElem?_append_left (by omega), List.getElem?_take, if_pos c2, List.getElem?_drop] at hn
                    obtain ⟨c, hc⟩ := i2 _ _ hn
                    exact .inl ⟨by omega, by omega, _, hc, Imp.int⟩
                  · rw [List.getElem?_append_right (by omega), hl2, List.getElem?_drop] at hn
                    rw [show r1.pos + Nat.min len' len + (j - r1.pos - Nat.min len' len) = j by omega] at hn
                    exact .inr ⟨.inr (by omega), _, by rw [hbd]; simp only [Data.get?, hn]; rfl, Imp.refl _⟩
            · exact h.elim
          · exact h.elim
        · exact h.elim
      · exact h.elim
    · exact h.elim
  · exact h.elim
theorem lenAV_ok {t ty : TypeId} {x v : AV} {vx : Value} (h : (lenAV P t x).runs v) (hx : Rep σ x vx) : Yld P σ w (Builtin.len_ #[t] ty #[vx]) v := by
  unfold lenAV at h
  split at h
  · rename_i e z r c n m hu
    simp only [Tree.runs] at h
    subst h
    simp only [Rep] at hx
    refine ⟨.int .i64 n, ?_, by simp only [Rep]⟩
    cases z
    · obtain ⟨x, a, cap, _, rfl, _⟩ := hx.2 rfl
      simp [Builtin.len_, run_underlying hu, goInt]
    · obtain ⟨rfl, rfl⟩ := hx.1 rfl
      simp [Builtin.len_, run_underlying hu, goInt]
  · rename_i n e hu
    simp only [Tree.runs] at h
    subst h
    refine ⟨.int .i64 n, ?_, by simp only [Rep]⟩
    cases vx <;> simp [Builtin.len_, run_underlying hu, goInt]
  · rename_i a hu
    split at h
    · rename_i n e hu2
      simp only [Tree.runs] at h
      subst h
      refine ⟨.int .i64 n, ?_, by simp only [Rep]⟩
      cases vx <;> simp [Builtin.len_, run_underlying hu, run_underlying hu2, goInt]
    · exact h.elim
  · exact h.elim
end
end Go.Proofs.Ytonhkbgielilbaa.Rig
