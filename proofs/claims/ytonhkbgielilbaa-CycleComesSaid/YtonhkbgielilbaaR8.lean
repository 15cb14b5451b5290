/- A reckoner over Go's operations: cuts, loads, what is built. -/
import Derived.Test.YtonhkbgielilbaaR7
namespace Go.Proofs.Ytonhkbgielilbaa.Rig
open Go
section
variable {P : Program} {σ : Sig} {M : Mem} {w : World}
theorem sliceAV_ok {t : TypeId} {x v : AV} {lo hi mx : Option AV} {vx : Value} {vlo vhi vmx : Option Value} (h : (sliceAV P t x lo hi mx).runs v) (hx : Rep σ x vx)
    (hlo : ∀ x, lo = some x → ∃ v, vlo = some v ∧ Rep σ x v) (hlo' : lo = none → vlo = none)
    (hhi : ∀ x, hi = some x → ∃ v, vhi = some v ∧ Rep σ x v) (hhi' : hi = none → vhi = none)
    (hmx : ∀ x, mx = some x → ∃ v, vmx = some v ∧ Rep σ x v) (hmx' : mx = none → vmx = none) : Yld P σ w (Instr.sliceAt t vx vlo vhi vmx) v := by
  unfold sliceAV at h
  dsimp only at h
  split at h
  · rename_i e z r d len m hu
    simp only [Rep] at hx
    have hat : (Instr.sliceAt t vx vlo vhi vmx).run P w = (Instr.slice t vx vlo vhi vmx).run P w := by
      simp [Instr.sliceAt, run_underlying hu]
    cases z
    · obtain ⟨x, a, cap, hσ, rfl, hok⟩ := hx.2 rfl
      obtain ⟨l, hh, q, s, r', c', m', hb, hs, h1, h2, h2', h3, e1, e2, rfl, hex, hown⟩ := slice_go (w := w) true cap hok.1 (fun hm => by subst hm; exact hok.2.1) h hlo hlo' hhi hhi' hmx hmx'
      have hsz : (sizeOf e).run P w = .ok s w := szT_run hs
      refine ⟨.slice (if q = l then some a else some (a.add (l * s))) (hh - l) (q - l), by rw [hat]; simp [Instr.slice, run_underlying hu, hb, hsz], ?_⟩
      simp only [Rep]
      refine ⟨fun hh => (by cases hh), fun _ => ⟨x, if q = l then a else a.add (l * s), q - l, by rw [e1]; exact hσ, by split <;> rfl, ?_⟩⟩
      have haddr : (if q = l then a else a.add (l * s)) = x.at r'.pos ∨ hh - l = 0 := by
        by_cases hql : q = l
        · right; omega
        · rcases hok.addr with ha | ha
          · left; rw [if_neg hql, ha, Bl.at_add, e2]
          · right; omega
      cases m'
      · exact ⟨by omega, by have := hex rfl; omega, haddr⟩
      · exact absurd rfl hown
      · exact ⟨by omega, haddr⟩
    · obtain ⟨rfl, rfl⟩ := hx.1 rfl
      obtain ⟨l, hh, q, s, r', c', m', hb, hs, h1, h2, h2', h3, e1, e2, rfl, hex, hown⟩ := slice_go (w := w) true 0 (Nat.le_refl _) (fun _ => rfl) h hlo hlo' hhi hhi' hmx hmx'
      have hsz : (sizeOf e).run P w = .ok s w := szT_run hs
      have hq : q = 0 := by omega
      refine ⟨.slice none 0 0, by rw [hat]; simp [Instr.slice, run_underlying hu, hb, hsz, hq]; omega, ?_⟩
      simp only [Rep]
      exact ⟨fun _ => ⟨trivial, by omega⟩, fun hh => (by cases hh)⟩
  · rename_i n e r hu
    simp only [Rep] at hx
    obtain ⟨x, hσ, rfl⟩ := hx
    obtain ⟨l, hh, q, s, r', c', m', hb, hs, h1, h2, h2', h3, e1, e2, rfl, hex, hown⟩ := slice_go (w := w) false n (Nat.le_refl _) (fun _ => rfl) h hlo hlo' hhi hhi' hmx hmx'
    have hsz : (sizeOf e).run P w = .ok s w := szT_run hs
    refine ⟨.slice (some (if q = l then x.at r.pos else (x.at r.pos).add (l * s))) (hh - l) (q - l), by simp [Instr.sliceAt, run_underlying hu, Instr.sureAddr, hb, hsz], ?_⟩
    simp only [Rep]
    refine ⟨fun hh => (by cases hh), fun _ => ⟨x, _, q - l, by rw [e1]; exact hσ, rfl, ?_⟩⟩
    have haddr : (if q = l then x.at r.pos else (x.at r.pos).add (l * s)) = x.at r'.pos ∨ hh - l = 0 := by
      by_cases hql : q = l
      · right; omega
      · left; rw [if_neg hql, Bl.at_add, e2]
    cases m'
    · exact ⟨by omega, by have := hex rfl; omega, haddr⟩
    · exact absurd rfl hown
    · exact ⟨by omega, haddr⟩
  · rename_i a r hu
    split at h
    · rename_i n e hu2
      simp only [Rep] at hx
      obtain ⟨x, hσ, rfl⟩ := hx
      obtain ⟨l, hh, q, s, r', c', m', hb, hs, h1, h2, h2', h3, e1, e2, rfl, hex, hown⟩ := slice_go (w := w) false n (Nat.le_refl _) (fun _ => rfl) h hlo hlo' hhi hhi' hmx hmx'
      have hsz : (sizeOf e).run P w = .ok s w := szT_run hs
      refine ⟨.slice (some (if q = l then x.at r.pos else (x.at r.pos).add (l * s))) (hh - l) (q - l), by simp [Instr.sliceAt, Instr.slice, run_underlying hu, run_underlying hu2, asAddr, hb, hsz], ?_⟩
      simp only [Rep]
      refine ⟨fun hh => (by cases hh), fun _ => ⟨x, _, q - l, by rw [e1]; exact hσ, rfl, ?_⟩⟩
      have haddr : (if q = l then x.at r.pos else (x.at r.pos).add (l * s)) = x.at r'.pos ∨ hh - l = 0 := by
        by_cases hql : q = l
        · right; omega
        · left; rw [if_neg hql, Bl.at_add, e2]
      cases m'
      · exact ⟨by omega, by have := hex rfl; omega, haddr⟩
      · exact absurd rfl hown
      · exact ⟨by omega, haddr⟩
    · exact h.elim
  · exact h.elim

/-- The cells that a piece stands for lie there. -/
theorem range_of {x : Bl} {d : Data} {l : List AV} {p : Nat} (hc : Covers σ w x d) (hl : ∀ (j : Nat) a, l[j]? = some a → ∃ a', d.get? (p + j) = some a' ∧ Imp a' a) :
    ∃ vs : List Value, RepL σ l vs ∧ w.rangeAt x.blk (x.off + p) vs := by
  have hcell : ∀ (j : Nat) a, l[j]? = some a → ∃ v, w.cell? (x.at (p + j)) = some v ∧ Rep σ a v := fun j a hj => by
    obtain ⟨a', h1, h2⟩ := hl j a hj
    obtain ⟨v, h3, h4⟩ := hc _ a' h1
    exact ⟨v, h3, h2 _ _ h4⟩
  refine ⟨(List.range l.length).map fun j => (w.cell? (x.at (p + j))).getD undef, RepL.mk (by simp) fun i a v hi hv => ?_, fun j v hj => ?_⟩
  · obtain ⟨u, hu, hr⟩ := hcell i a hi
    simp only [List.getElem?_map, Option.map_eq_some_iff] at hv
    obtain ⟨i', hi', rfl⟩ := hv
    obtain ⟨_, rfl⟩ := List.getElem?_eq_some_iff.1 hi'
    simp only [List.getElem_range, hu, Option.getD_some]
    exact hr
  · simp only [List.getElem?_map, Option.map_eq_some_iff] at hj
    obtain ⟨j', hj', rfl⟩ := hj
    obtain ⟨hlt, rfl⟩ := List.getElem?_eq_some_iff.1 hj'
    simp only [List.length_range] at hlt
    simp only [List.getElem_range]
    obtain ⟨u, hu, hr⟩ := hcell j _ (List.getElem?_eq_getElem hlt)
    rw [hu]
    simpa [Bl.at, Nat.add_assoc] using hu
theorem aggT_isRow {t : TypeId} (h : aggT P t = some true) : ∃ d, P.underlying t = some d ∧ d.isRow = true := by
  unfold aggT at h
  split at h
  · rename_i fs hu; exact ⟨_, hu, rfl⟩
  · rename_i n e hu; exact ⟨_, hu, rfl⟩
  · cases h
  · cases h
theorem loadAV_ok {t : TypeId} {x v : AV} {vx : Value} (h : (loadAV P t x M).runs v) (hx : Rep σ x vx) (hr : Rel P σ M w) : Yld P σ w (Instr.loadAt t vx) v := by
  unfold loadAV at h
  split at h
  · rename_i r
    simp only [Rep] at hx
    obtain ⟨x, hσ, rfl⟩ := hx
    split at h
    · rename_i b n a hb hn ha
      obtain ⟨x', hσ', hok⟩ := hr.blk _ b hb
      rw [hσ] at hσ'
      cases hσ'
      split at h
      · exact h.elim
      · rename_i hv
        have hc : Covers σ w x b.d := by
          rcases hok with hok | hok
          · rw [hv] at hok; cases hok.1
          · exact hok.2.1
        split at h
        · obtain ⟨l, h1, h2⟩ := Tree.runs_bind h
          simp only [Tree.runs] at h2
          subst h2
          obtain ⟨e1, e2⟩ := read_ok h1
          obtain ⟨vs, hvs, hrange⟩ := range_of hc e2
          obtain ⟨d, hd1, hd2⟩ := aggT_isRow ha
          have hlen : (P.info? t).map (·.size) = some vs.length := by rw [← hvs.length, e1]; exact hn
          refine ⟨.agg vs.toArray, run_loadAt_mid w x.blk (x.off + r.pos) t vs d hrange hd1 hd2 hlen, ?_⟩
          simp only [Rep]
          exact ⟨_, rfl, hvs⟩
        · obtain ⟨l, h1, h2⟩ := Tree.runs_bind h
          split at h2
          · rename_i u
            simp only [Tree.runs] at h2
            subst h2
            obtain ⟨e1, e2⟩ := read_ok h1
            obtain ⟨a', g1, g2⟩ := e2 0 u rfl
            obtain ⟨val, g3, g4⟩ := hc _ a' g1
            refine ⟨val, ?_, g2 _ _ g4⟩
            simp only [Nat.add_zero] at g3
            simp [Instr.loadAt, Instr.sureAddr, loadVar, aggT_run ha, g3]
          · exact h2.elim
    · exact h.elim
  · exact h.elim

/-! ### build -/
theorem Rep.cellsOf {a : AV} {v : Value} (h : Rep σ a v) (h1 : a.okv = true) : RepL σ a.parts v.cells.toList := by
  cases a with
  | agg cs => simp only [Rep] at h; obtain ⟨x, rfl, hx⟩ := h; exact hx
  | junk => simp [AV.okv] at h1
  | tup => simp [AV.okv] at h1
  | _ =>
    have h2 := h.one rfl
    have : v.cells = #[v] := by cases v <;> simp_all [Value.cells, Value.oneCell']
    rw [this]
    exact RepL.cons h RepL.nil
theorem foldl_put (off : Nat) : ∀ (l : List Value) (k : Nat) (cs : Array Value), off + k + l.length ≤ cs.size →
    ((l.zipIdx k).foldl (fun cs p => cs.setIfInBounds (off + p.2) p.1) cs).size = cs.size ∧
    ∀ i, ((l.zipIdx k).foldl (fun cs p => cs.setIfInBounds (off + p.2) p.1) cs)[i]? = if off + k ≤ i ∧ i < off + k + l.length then l[i - (off + k)]? else cs[i]?
  | [], k, cs, _ => ⟨rfl, fun i => by
      have : ¬ (off + k ≤ i ∧ i < off + k + ([] : List Value).length) := by simp
      rw [if_neg this]; rfl⟩
  | v :: l, k, cs, h => by
    simp only [List.length_cons] at h
    have ih := foldl_put off l (k + 1) (cs.setIfInBounds (off + k) v) (by simp; omega)
    simp only [List.zipIdx_cons, List.foldl_cons]
    refine ⟨by rw [ih.1]; simp, fun i => ?_⟩
    rw [ih.2 i]
    simp only [List.length_cons]
    by_cases h1 : off + (k + 1) ≤ i ∧ i < off + (k + 1) + l.length
    · rw [if_pos h1, if_pos (by omega), show i - (off + k) = (i - (off + (k + 1))) + 1 by omega, List.getElem?_cons_succ]
    · rw [if_neg h1]
      by_cases h2 : i = off + k
      · subst h2
        rw [if_pos (by omega)]
        simp only [Nat.sub_self, List.getElem?_cons_zero]
        rw [Array.getElem?_setIfInBounds_self_of_lt (by omega)]
      · rw [if_neg (by omega), Array.getElem?_setIfInBounds_ne (by omega)]
theorem put_cells {l : List AV} {vl : List Value} {cells : List AV} {vcells : Array Value} {off n : Nat} (hl : RepL σ l vl) (hc : RepL σ cells vcells.toList) (hn : l.length = n) (hle : off + n ≤ cells.length) :
    RepL σ (cells.take off ++ (l ++ cells.drop (off + n))) ((vl.zipIdx).foldl (fun cs p => cs.setIfInBounds (off + p.2) p.1) vcells).toList := by
  have hvl : vl.length = n := by rw [← hl.length]; exact hn
  have hvc : vcells.size = cells.length := by have := hc.length; simpa using this.symm
  obtain ⟨f1, f2⟩ := foldl_put off vl 0 vcells (by omega)
  refine RepL.mk (by simp [f1]; omega) fun i a v hi hv => ?_
  rw [Array.getElem?_toList, f2 i] at hv
  simp only [Nat.add_zero] at hv
  by_cases h1 : i < off
  · rw [List.getElem?_append_left (by simp; omega), List.getElem?_take, if_pos h1] at hi
    rw [if_neg (by omega)] at hv
    obtain ⟨u, hu, hr⟩ := hc.get hi
    simp only [Array.getElem?_toList] at hu
    rw [hv] at hu; cases hu; exact hr
  · have hlt : (cells.take off).length = off := by simp; omega
    rw [List.getElem?_append_right (by omega), hlt] at hi
    by_cases h2 : i - off < l.length
    · rw [List.getElem?_append_left h2] at hi
      rw [if_pos (by omega)] at hv
      obtain ⟨u, hu, hr⟩ := hl.get hi
      rw [hv] at hu; cases hu; exact hr
    · rw [List.getElem?_append_right (by omega), List.getElem?_drop] at hi
      rw [if_neg (by omega)] at hv
      obtain ⟨u, hu, hr⟩ := hc.get hi
      simp only [Array.getElem?_toList] at hu
      rw [show off + n + (i - off - l.length) = i by omega] at hu
      rw [hv] at hu; cases hu; exact hr
def PartsOk (σ : Sig) (parts : List (Nat × AV)) (vparts : List (Nat × Value)) : Prop :=
  vparts.length = parts.length ∧ ∀ (i : Nat) p q, parts[i]? = some p → vparts[i]? = some q → p.1 = q.1 ∧ Rep σ p.2 q.2
theorem fillAV_ok (places : List (Nat × Nat)) (place : Nat → Option (Nat × Nat)) (hpl : ∀ i p, places[i]? = some p → place i = some p) : ∀ (parts : List (Nat × AV)) (cells out : List AV) (vparts : List (Nat × Value)) (vcells : Array Value),
    fillAV places cells parts = some out → RepL σ cells vcells.toList → PartsOk σ parts vparts →
    ∃ vout : Array Value, Instr.fill place vcells vparts = some vout ∧ RepL σ out vout.toList
  | [], cells, out, vparts, vcells, h, hc, hp => by
    simp only [fillAV, Option.some.injEq] at h
    subst h
    have : vparts = [] := List.eq_nil_of_length_eq_zero hp.1
    subst this
    exact ⟨vcells, rfl, hc⟩
  | (i, v) :: rest, cells, out, vparts, vcells, h, hc, hp => by
    cases vparts with
    | nil => exact absurd hp.1 (by simp)
    | cons q vrest =>
      obtain ⟨qi, qv⟩ := q
      obtain ⟨e1, e2⟩ := hp.2 0 _ _ rfl rfl
      simp only at e1 e2
      subst e1
      simp only [fillAV] at h
      split at h
      · cases h
      · rename_i off n hpn
        split at h
        · rename_i hd
          simp only [Bool.and_eq_true, decide_eq_true_eq] at hd
          obtain ⟨hk, hn, hle⟩ := hd
          have hcells := e2.cellsOf hk
          have hsz : qv.cells.size = n := by have := hcells.length; simp at this; omega
          have hvc : vcells.size = cells.length := by have := hc.length; simpa using this.symm
          have hput := put_cells hcells hc hn hle
          obtain ⟨vout, h1, h2⟩ := fillAV_ok places place hpl rest _ out vrest _ h hput ⟨by have := hp.1; simpa using this, fun j p q hj hq => hp.2 (j + 1) p q (by simpa using hj) (by simpa using hq)⟩
          refine ⟨vout, ?_, h2⟩
          simp only [Instr.fill, hpl _ _ hpn]
          rw [if_neg (by simp only [Bool.or_eq_true, decide_eq_true_eq, hsz, hvc]; simp; omega)]
          rw [← h1]
          congr 1
          rw [← Array.foldl_toList, Array.toList_zipIdx]
        · cases h
theorem fillAV_len {places : List (Nat × Nat)} : ∀ {parts : List (Nat × AV)} {cells out : List AV}, fillAV places cells parts = some out → out.length = cells.length
  | [], cells, out, h => by simp only [fillAV, Option.some.injEq] at h; rw [h]
  | (i, v) :: rest, cells, out, h => by
    simp only [fillAV] at h
    split at h
    · cases h
    · rename_i off n hpn
      split at h
      · rename_i hd
        simp only [Bool.and_eq_true, decide_eq_true_eq] at hd
        rw [fillAV_len h]
        simp; omega
      · cases h
theorem mapM_some {α β : Type} {f : α → Option β} : ∀ {l : List α} {r : List β}, l.mapM f = some r → r.length = l.length ∧ ∀ (i : Nat) b, r[i]? = some b → ∃ a, l[i]? = some a ∧ f a = some b
  | [], r, h => by simp at h; subst h; simp
  | a :: l, r, h => by
    rw [List.mapM_cons] at h
    simp only [Option.bind_eq_bind, Option.bind_eq_some_iff, Option.pure_def, Option.some.injEq] at h
    obtain ⟨b, hb, r', hr', rfl⟩ := h
    obtain ⟨h1, h2⟩ := mapM_some hr'
    refine ⟨by simp [h1], fun i c hc => ?_⟩
    cases i with
    | zero => simp at hc; subst hc; exact ⟨a, rfl, hb⟩
    | succ i => simpa using h2 i c (by simpa using hc)
theorem buildAV_ok {t : TypeId} {parts : List (Nat × AV)} {vparts : List (Nat × Value)} {v : AV} (h : (buildAV P t parts).runs v) (hp : PartsOk σ parts vparts) : Yld P σ w (Instr.build t vparts.toArray) v := by
  unfold buildAV at h
  split at h
  · rename_i z pl hz hpl
    split at h
    · rename_i cs hcs
      simp only [Tree.runs] at h
      subst h
      obtain ⟨i, hi, hz'⟩ := Option.bind_eq_some_iff.1 hz
      have hzr : (zeroValue t).run P w = .ok (.agg z) w := by simp [zeroValue, typeInfo, hi, hz']
      unfold placesT at hpl
      split at hpl
      · rename_i fs hu
        obtain ⟨m1, m2⟩ := mapM_some hpl
        have hrun := run_places (P := P) w fs.toList pl hpl
        obtain ⟨vout, h1, h2⟩ := fillAV_ok (σ := σ) pl (fun x => pl[x]?) (fun i p hip => hip) parts _ cs vparts z hcs (RepL.ofCells _) hp
        refine ⟨.agg vout, ?_, by simp only [Rep]; exact ⟨_, rfl, h2⟩⟩
        have hrun' : (fs.mapM fun f => Prod.mk f.offset <$> sizeOf f.type).run P w = .ok pl.toArray w := by
          rw [Array.mapM_eq_mapM_toList]
          simp [hrun]
        simp [Instr.build, hzr, run_underlying hu, hrun', Value.cells, h1]
      · rename_i n e hu
        obtain ⟨s, hs, rfl⟩ := Option.map_eq_some_iff.1 hpl
        have hsz : (sizeOf e).run P w = .ok s w := szT_run hs
        obtain ⟨vout, h1, h2⟩ := fillAV_ok (σ := σ) _ (fun i => some (i * s, s)) (fun i p hip => by
          simp only [List.getElem?_map, Option.map_eq_some_iff] at hip
          obtain ⟨i', hi', rfl⟩ := hip
          obtain ⟨_, rfl⟩ := List.getElem?_eq_some_iff.1 hi'
          simp) parts _ cs vparts z hcs (RepL.ofCells _) hp
        exact ⟨.agg vout, by simp [Instr.build, hzr, run_underlying hu, hsz, Value.cells, h1], by simp only [Rep]; exact ⟨_, rfl, h2⟩⟩
      · cases hpl
    · exact h.elim
  · exact h.elim
end
end Go.Proofs.Ytonhkbgielilbaa.Rig
