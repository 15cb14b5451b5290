/- A reckoner over Go's operations: append. -/
import Derived.Test.YtonhkbgielilbaaR9
namespace Go.Proofs.Ytonhkbgielilbaa.Rig
open Go
section
variable {P : Program} {σ : Sig} {M : Mem} {w : World}
theorem Moved.of_kill {i : Nat} {σ' : Sig} {M' : Mem} {w' : World} (h : Moved P σ (M.set i none) w σ' M' w') : Moved P σ M w σ' M' w' :=
  ⟨h.ext, h.rel, ⟨h.kept.os, h.kept.tape, h.kept.output, h.kept.size, fun k hk hf => h.kept.block k hk fun hf' => hf hf'.kill⟩, fun i hi => h.agree i (by simpa using hi), fun Q hQ hQ' k hk hf => (h.occ Q hQ hQ' k hk hf).kill, by have := h.len; simpa using this⟩

/-- What is read from a slice. -/
structure Src (σ : Sig) (w : World) (size len : Nat) (v : Value) (d : Data) (news : List Value) : Prop where
  num : news.length = len * size
  rep : ∀ (j : Nat) a, d.get? j = some a → ∃ u, news[j]? = some u ∧ Rep σ a u
  one : ∀ u ∈ news, u.oneCell' = true
  at_ : (v = .slice none 0 0 ∧ len = 0) ∨ ∃ a c, v = .slice (some a) len c ∧ ∀ (j : Nat) u, news[j]? = some u → w.cell? (a.add j) = some u
theorem ones_get {d : Data} (h : d.ones = true) {j : Nat} {a : AV} (hj : d.get? j = some a) : a.one = true := by
  cases d with
  | cells l => exact List.all_eq_true.1 h a (List.mem_of_getElem? hj)
  | ints k l =>
    simp only [Data.get?, Option.map_eq_some_iff] at hj
    obtain ⟨n, _, rfl⟩ := hj; rfl
  | tab => simp [Data.ones] at h
theorem get?_some {d : Data} (h : d.ones = true) {j : Nat} (hj : j < d.size) : ∃ a, d.get? j = some a := by
  cases d with
  | cells l => exact ⟨_, List.getElem?_eq_getElem hj⟩
  | ints k l =>
    have hj' : j < l.length := hj
    exact ⟨.int k false l[j], by simp only [Data.get?]; rw [List.getElem?_eq_getElem hj']; rfl⟩
  | tab => simp [Data.ones] at h
theorem src_ok {size len : Nat} {z c : Bool} {r : Ref} {m : Cap} {v : Value} {d : Data} (hr : Rel P σ M w) (hv : Rep σ (.sl z r c len m) v) (h : srcOf M size z r c len = some d) (ho : d.ones = true) (hs : d.size = len * size) :
    ∃ news, Src σ w size len v d news := by
  simp only [Rep] at hv
  by_cases hl0 : len * size = 0
  · have he : ∀ (j : Nat) a, d.get? j = some a → False := fun j a hj => by have := get?_lt hj; omega
    refine ⟨[], ⟨by simp [hl0], fun j a hj => (he j a hj).elim, by simp, ?_⟩⟩
    cases z
    · obtain ⟨x, a, cap, hσ, rfl, hok⟩ := hv.2 rfl
      exact .inr ⟨a, cap, rfl, by simp⟩
    · exact .inl (hv.1 rfl)
  · have hl : len ≠ 0 := fun e => hl0 (by simp [e])
    unfold srcOf at h
    split at h
    · rename_i hc hlen; omega
    · obtain ⟨b, hb, h2⟩ := Option.bind_eq_some_iff.1 h
      split at h2
      · cases h2
      · rename_i hvirt
        have hz : z = false := by
          cases z
          · rfl
          · exact absurd (hv.1 rfl).2 hl
        obtain ⟨x, a, cap, hσ, rfl, hok⟩ := hv.2 hz
        have ha := hok.addr.resolve_right hl
        obtain ⟨x', hσ', hbok⟩ := hr.blk _ b hb
        rw [hσ] at hσ'; cases hσ'
        have hc : Covers σ w x b.d := by
          rcases hbok with hbok | hbok
          · rw [hvirt] at hbok; cases hbok.1
          · exact hbok.2.1
        have hp := piece_ok h2
        have hcell : ∀ (j : Nat) a, d.get? j = some a → ∃ v, w.cell? (x.at (r.pos + j)) = some v ∧ Rep σ a v := fun j a hj => by
          obtain ⟨a', h1, h2⟩ := hp j a hj
          obtain ⟨v, h3, h4⟩ := hc _ a' h1
          exact ⟨v, h3, h2 _ _ h4⟩
        have hsome : ∀ j, j < len * size → ∃ a u, d.get? j = some a ∧ w.cell? (x.at (r.pos + j)) = some u ∧ Rep σ a u := fun j hj => by
          obtain ⟨a, ha⟩ := get?_some ho (j := j) (by omega)
          obtain ⟨u, h1, h2⟩ := hcell j a ha
          exact ⟨a, u, ha, h1, h2⟩
        have hget : ∀ (j : Nat) u, ((List.range (len * size)).map fun j => (w.cell? (x.at (r.pos + j))).getD undef)[j]? = some u → j < len * size ∧ w.cell? (x.at (r.pos + j)) = some u := fun j u hj => by
          simp only [List.getElem?_map, Option.map_eq_some_iff] at hj
          obtain ⟨j', hj', rfl⟩ := hj
          obtain ⟨hlt, rfl⟩ := List.getElem?_eq_some_iff.1 hj'
          simp only [List.length_range] at hlt
          simp only [List.getElem_range]
          obtain ⟨a, u, _, h1, _⟩ := hsome j hlt
          rw [h1]; exact ⟨hlt, rfl⟩
        refine ⟨(List.range (len * size)).map fun j => (w.cell? (x.at (r.pos + j))).getD undef, ⟨by simp, fun j a hj => ?_, fun u hu => ?_, .inr ⟨a, cap, rfl, fun j u hj => ?_⟩⟩⟩
        · obtain ⟨u, h1, h2⟩ := hcell j a hj
          have hlt : j < len * size := by have := get?_lt hj; omega
          exact ⟨u, by simp [hlt, h1], h2⟩
        · obtain ⟨j, hj, rfl⟩ := List.mem_iff_getElem.1 hu
          obtain ⟨hlt, hcu⟩ := hget j _ (List.getElem?_eq_getElem hj)
          obtain ⟨a, u, h0, h1, h2⟩ := hsome j hlt
          rw [hcu] at h1; cases h1
          exact h2.one (ones_get ho h0)
        · rw [ha, Bl.at_add]
          exact (hget j u hj).2
theorem grownCap_ok {e : TypeId} {need old : Nat} (h : need ≤ maxLen) : need ≤ grownCap w need old e ∧ grownCap w need old e ≤ maxLen := ⟨grownCap_ge w need old e, grownCap_le_maxLen w need old e h⟩

/-- A fresh block holds what was there, and what came. -/
theorem fresh_ok {e : TypeId} {i : TypeInfo} {z : Value} (hr : Rel P σ M w) (hi : P.info? e = some i) (hz : z.cells.size = i.size) {dn : Data} {cells : List Value} {len cap : Nat} (hcap : len ≤ cap ∧ cap ≤ maxLen) (hl : cells.length = len * i.size)
    (hd : ∀ (j : Nat) a, dn.get? j = some a → ∃ u, cells[j]? = some u ∧ Rep σ a u) (hs : dn.size = len * i.size) (cur : Array Value) (hcur : cur = cells.toArray ++ Builtin.zeroCells z.cells (cap - len)) :
    ∃ σ', σ' M.length = some ⟨w.heap.size, 0, cap⟩ ∧ Moved P σ M w σ' (M ++ [some ⟨e, true, false, true, dn⟩]) (w.drew.alloc (.cells cur e)) := by
  have hsz : cur.size = cap * i.size := by
    subst hcur
    rw [Array.size_append, List.size_toArray, size_zeroCells, hz, hl, ← Nat.add_mul]
    congr 1; omega
  refine new_ok hr ⟨e, true, false, true, dn⟩ cur cap (w.drew.alloc (.cells cur e)) rfl rfl rfl rfl rfl rfl (fun j a hj => ?_) ?_ (fun _ => ⟨hcap.2, fun n hn => ?_⟩)
  · obtain ⟨u, hu, hru⟩ := hd j a hj
    refine ⟨u, ?_, hru⟩
    subst hcur
    have hlt := (List.getElem?_eq_some_iff.1 hu).1
    rw [Array.getElem?_append_left (by simpa using hlt)]
    simpa using hu
  · show dn.size ≤ cur.size
    rw [hs, hsz]; exact Nat.mul_le_mul_right _ hcap.1
  · have : n = i.size := by simp [szT, hi] at hn; exact hn.symm
    rw [this]; exact hsz
theorem append_own_ok {ts ty e : TypeId} {i : TypeInfo} {zv : Value} (hr : Rel P σ M w) (ht : P.underlying ts = some (.slice e)) (hi : P.info? e = some i) (hz : i.zero = some zv) (hzs : zv.cells.size = i.size) (h0 : 0 < i.size)
    {z cf : Bool} {r : Ref} {d : Bool} {len : Nat} {b : Blk} {vs vx : Value} {len' : Nat} {new dn : Data} {news : List Value} (hrw0 : r.w = 0) (hro : r.off = 0) (hb : M.at r.id = some b) (hbrw : b.rw = true) (hbrow : b.row = true) (hbe : b.e = e)
    (hdn : b.d.append new = some dn) (hroom1 : len + len' ≤ 140737488355328) (hroom2 : (len + len') * i.bytes ≤ 140737488355328) (hlen : len * i.size = b.d.size) (hzv : z = b.virt)
    (hs : Rep σ (.sl z r d len .own) vs) (hsrc : Src σ w i.size len' vx new news) (hnew : new.size = len' * i.size) :
    Does P σ M w (Builtin.append_ #[ts, ts] ty #[vs, vx]) (.sl (z && decide (len' = 0)) ⟨M.length, 0, 0, 0⟩ cf (len + len') .own, M.set r.id none ++ [some ⟨e, true, b.virt && decide (len' = 0), true, dn⟩]) := by
  have hpos : r.pos = 0 := by simp [Ref.pos, hrw0, hro]
  have hM1 : (M.set r.id none).length = M.length := by simp
  have hk := hr.kill r.id
  obtain ⟨x, hσ, hbok⟩ := hr.blk _ b hb
  obtain ⟨a1, a2⟩ := append_ok hdn
  have hmax : len + len' ≤ maxLen := by unfold maxLen; omega
  simp only [Rep] at hs
  -- a fresh block at the end
  have fresh : ∀ (olds : List Value) (cap old : Nat), olds.length = len * i.size → (∀ (j : Nat) a, b.d.get? j = some a → ∃ u, olds[j]? = some u ∧ Rep σ a u) → cap = grownCap w (len + len') old e → (z && decide (len' = 0)) = false →
      (Builtin.append_ #[ts, ts] ty #[vs, vx]).run P w = .ok (.slice (some ⟨w.heap.size, 0, none⟩) (len + len') cap) (w.drew.alloc (.cells (olds.toArray ++ news.toArray ++ Builtin.zeroCells zv.cells (cap - (len + len'))) e)) →
      Does P σ M w (Builtin.append_ #[ts, ts] ty #[vs, vx]) (.sl (z && decide (len' = 0)) ⟨M.length, 0, 0, 0⟩ cf (len + len') .own, M.set r.id none ++ [some ⟨e, true, b.virt && decide (len' = 0), true, dn⟩]) := by
    intro olds cap old ho hold hcap hzf hrun
    have hcap' : len + len' ≤ cap ∧ cap ≤ maxLen := by subst hcap; exact grownCap_ok hmax
    obtain ⟨σ', f1, f2⟩ := fresh_ok (w := w) hk hi hzs (dn := dn) (cells := olds ++ news) hcap' (by rw [List.length_append, ho, hsrc.num, Nat.add_mul]) (fun j a hj => by
      rcases a2 j a hj with ⟨c1, a', c2, c3⟩ | ⟨c1, a', c2, c3⟩
      · obtain ⟨u, hu, hru⟩ := hold j a' c2
        exact ⟨u, by rw [List.getElem?_append_left (by omega)]; exact hu, c3 _ _ hru⟩
      · obtain ⟨u, hu, hru⟩ := hsrc.rep _ a' c2
        exact ⟨u, by rw [List.getElem?_append_right (by omega), ho, hlen]; exact hu, c3 _ _ hru⟩) (by rw [a1, hnew, ← hlen, Nat.add_mul]) _ (by rw [show (olds ++ news).toArray = olds.toArray ++ news.toArray by simp])
    rw [hM1] at f1
    refine ⟨_, _, σ', hrun, ?_, ?_⟩
    · rw [hzf]
      simp only [Rep, pos0]
      exact ⟨fun hh => (by cases hh), fun _ => ⟨_, _, cap, f1, rfl, hcap'.1, rfl, rfl, rfl, by simp [Bl.at]⟩⟩
    · have : (b.virt && decide (len' = 0)) = false := by rw [← hzv]; exact hzf
      rw [this]
      exact f2.of_kill
  by_cases hzt : z = true
  · obtain ⟨rfl, rfl⟩ := hs.1 hzt
    have hbv : b.virt = true := by rw [← hzv]; exact hzt
    have hb0 : b.d.size = 0 := by omega
    by_cases hl' : len' = 0
    · -- nothing comes to nothing
      have hrun : (Builtin.append_ #[ts, ts] ty #[.slice none 0 0, vx]).run P w = .ok (.slice none 0 0) w := by
        rcases hsrc.at_ with ⟨rfl, _⟩ | ⟨a, c, rfl, _⟩
        · simp [Builtin.append_, run_underlying ht, sizeOf, typeInfo, hi, Builtin.lenOf, Builtin.firstCells]
        · subst hl'
          simp [Builtin.append_, run_underlying ht, sizeOf, typeInfo, hi, Builtin.lenOf, Builtin.firstCells, loadCells, loadCellsFrom]
      have hadd := hk.add (w' := w) ⟨e, true, true, true, dn⟩ ⟨w.heap.size, 0, 0⟩ (.inl ⟨rfl, by show dn.size = 0; rw [a1, hb0, hnew, hl']; simp⟩) (fun j bj y hj hy hvj hyb => by
        obtain ⟨y', hy', hok⟩ := hk.blk j bj hj
        rw [hy] at hy'; cases hy'
        have hno : ¬ (bj.rw = true ∨ ¬ bj.d.void) := fun h => by
          have := hok.lt hvj h
          simp only at hyb
          omega
        refine ⟨?_, .inr rfl⟩
        cases hq : bj.rw with
        | false => rfl
        | true => exact absurd (.inl hq) hno) (.inl rfl) (fun _ _ _ => rfl) (fun h => absurd h (Nat.lt_irrefl _))
      rw [hM1] at hadd
      refine ⟨_, w, _, hrun, ?_, ⟨?_, by simpa [hbv, hl'] using hadd, Kept.refl _ _ _, fun i hi => by unfold upd; rw [if_neg (by omega)], fun Q hQ hQ' k hk' hf => ?_, by simp⟩⟩
      · simp only [Rep, hzt, hl', decide_true, Bool.and_true]
        exact ⟨fun _ => ⟨trivial, trivial⟩, fun hh => (by cases hh)⟩
      · exact upd_ext (hr.dom _ (Nat.le_refl _))
      · obtain ⟨j, c, y, hj, hy, c1, c2, c3⟩ := hf
        by_cases hlt : j < M.length
        · rw [Mem.at_append_left (by simpa using hlt)] at hj
          unfold upd at hy
          rw [if_neg (by omega)] at hy
          exact occ.kill ⟨j, c, y, hj, hy, c1, c2, c3⟩
        · rw [Mem.at_append_right (by simp; omega), Mem.at_one] at hj
          split at hj
          · cases hj
            simp only [hbv, hl', decide_true, Bool.and_true] at c2
            cases c2
          · cases hj
    · obtain ⟨a, c, rfl, hcells⟩ := hsrc.at_.resolve_left (fun h => hl' h.2)
      have hrun := run_append_nil (P := P) w ts ty e i zv ht hi hz a len' c news hsrc.num hcells (by omega) (by omega) (by simp only [Nat.zero_add] at hroom2; omega)
      refine fresh [] _ 0 (by simp) (fun j a hj => absurd (get?_lt hj) (by omega)) rfl (by simp [hl']) ?_
      simpa using hrun
  · have hzf : z = false := by simpa using hzt
    obtain ⟨x', a, cap, hσ', rfl, hok⟩ := hs.2 hzf
    rw [hσ] at hσ'; cases hσ'
    obtain ⟨hcap, hcx, _, hxo, ha⟩ := hok
    rw [hpos] at ha
    have ha' : a = ⟨x.blk, 0, none⟩ := by rw [ha, at0 x hxo]
    subst ha'
    have hbv : b.virt = false := by rw [← hzv]; exact hzf
    obtain ⟨hcov, cur, hcur, hdsz, hrow⟩ : Covers σ w x b.d ∧ ∃ cur, w.heap[x.blk]? = some (.cells cur b.e (0, 0)) ∧ b.d.size ≤ cur.size ∧ (x.cap ≤ maxLen ∧ ∀ n, szT P b.e = some n → cur.size = x.cap * n) := by
      rcases hbok with h | h
      · rw [hbv] at h; cases h.1
      · obtain ⟨cur, h1, _, h2, h3⟩ := h.2.2 hbrw
        exact ⟨h.2.1, cur, h1, h2, h3 hbrow⟩
    rw [hbe] at hcur
    have hcsz : cur.size = x.cap * i.size := hrow.2 i.size (by rw [hbe]; simp [szT, hi])
    have hcell : ∀ j, w.cell? (x.at j) = cur[j]? := fun j => by
      rw [show x.at j = ⟨x.blk, j, none⟩ by simp [Bl.at, hxo]]
      exact cell_of_row w x.blk j cur e (0, 0) hcur
    -- in place
    have inplace : ∀ (w1 : World) (cur1 : Array Value), w1.heap[x.blk]? = some (.cells cur1 e (0, 0)) → (∀ k, k ≠ x.blk → w1.heap[k]? = w.heap[k]?) → w1.os = w.os ∧ w1.tape = w.tape ∧ w1.output = w.output ∧ w1.heap.size = w.heap.size →
        cur1.size = cur.size → (∀ (j : Nat) a, dn.get? j = some a → ∃ u, cur1[j]? = some u ∧ Rep σ a u) → len + len' ≤ x.cap →
        (Builtin.append_ #[ts, ts] ty #[.slice (some ⟨x.blk, 0, none⟩) len cap, vx]).run P w = .ok (.slice (some ⟨x.blk, 0, none⟩) (len + len') cap) w1 →
        Does P σ M w (Builtin.append_ #[ts, ts] ty #[.slice (some ⟨x.blk, 0, none⟩) len cap, vx]) (.sl (z && decide (len' = 0)) ⟨M.length, 0, 0, 0⟩ cf (len + len') .own, M.set r.id none ++ [some ⟨e, true, b.virt && decide (len' = 0), true, dn⟩]) := by
      intro w1 cur1 hh hoth hfix hsz1 hd1 hfit hrun
      have hext : Ext σ (upd σ M.length x) := upd_ext (hr.dom _ (Nat.le_refl _))
      have hadd := hk.add (w' := w1) ⟨e, true, false, true, dn⟩ x (.inr ⟨rfl, fun j a hj => by
          obtain ⟨u, hu, hru⟩ := hd1 j a hj
          refine ⟨u, ?_, (hru.mono (by rw [hM1]; exact hext))⟩
          rw [show x.at j = ⟨x.blk, j, none⟩ by simp [Bl.at, hxo], cell_of_row w1 x.blk j cur1 e (0, 0) hh]
          exact hu, fun _ => ⟨cur1, hh, hxo, by
            show dn.size ≤ cur1.size
            rw [a1, hnew, ← hlen, hsz1, hcsz, ← Nat.add_mul]; exact Nat.mul_le_mul_right _ hfit, fun _ => ⟨hrow.1, fun n hn => by rw [hsz1]; exact hrow.2 n (by rw [hbe]; exact hn)⟩⟩⟩)
        (fun j bj y hj hy hvj hyb => by
          have hji : r.id ≠ j := by
            intro e'; subst e'
            rw [Mem.at_set (Mem.at_lt hb)] at hj
            simp at hj
          have hj' : M.at j = some bj := by
            rw [Mem.at_set (Mem.at_lt hb), if_neg hji] at hj
            exact hj
          obtain ⟨c1, c2⟩ := hr.sep r.id j b bj x y hb hj' hji hσ hy hbrw hbv hvj hyb.symm
          exact ⟨c1, .inl c2⟩) (.inl rfl) (fun k _ hk' => hoth k hk') (fun _ h => by cases h)
      rw [hM1] at hadd
      have hvf : (b.virt && decide (len' = 0)) = false := by rw [hbv]; rfl
      refine ⟨_, w1, _, hrun, ?_, ⟨hext, by rw [hvf]; exact hadd, ⟨hfix.1, hfix.2.1, hfix.2.2.1, Nat.le_of_eq hfix.2.2.2.symm, fun k hk' hf => hoth k fun e' => hf ⟨r.id, b, x, hb, hσ, hbrw, hbv, e'.symm⟩⟩, fun i hi => by unfold upd; rw [if_neg (by omega)], fun Q hQ hQ' k hk' hf => ?_, by simp⟩⟩
      · simp only [Rep, hzf, Bool.false_and, pos0]
        exact ⟨fun hh => (by cases hh), fun _ => ⟨x, _, cap, by simp [upd], rfl, by omega, hcx, rfl, hxo, by rw [at0 x hxo]⟩⟩
      · obtain ⟨j, c, y, hj, hy, c1, c2, c3⟩ := hf
        by_cases hlt : j < M.length
        · rw [Mem.at_append_left (by simpa using hlt)] at hj
          unfold upd at hy
          rw [if_neg (by omega)] at hy
          exact occ.kill ⟨j, c, y, hj, hy, c1, c2, c3⟩
        · rw [Mem.at_append_right (by simp; omega), Mem.at_one] at hj
          split at hj
          · have : j = M.length := by simp at *; omega
            subst this
            simp [upd] at hy
            subst hy
            exact ⟨r.id, b, x, hb, hσ, hQ b hbrw, hbv, c3⟩
          · cases hj
    have hold : ∀ (j : Nat) a, b.d.get? j = some a → ∃ u, cur[j]? = some u ∧ Rep σ a u := fun j a hj => by
      obtain ⟨u, hu, hru⟩ := hcov j a hj
      exact ⟨u, by rw [← hcell]; exact hu, hru⟩
    rcases hsrc.at_ with ⟨rfl, hl'⟩ | ⟨a, c, rfl, hcells⟩
    · refine inplace w cur hcur (fun _ _ => rfl) ⟨rfl, rfl, rfl, rfl⟩ rfl (fun j a hj => ?_) (by omega) ?_
      · rcases a2 j a hj with ⟨c1, a', c2, c3⟩ | ⟨c1, a', c2, c3⟩
        · obtain ⟨u, hu, hru⟩ := hold j a' c2
          exact ⟨u, hu, c3 _ _ hru⟩
        · have := get?_lt c2
          rw [hnew, hl'] at this; simp at this
      · subst hl'
        simp [Builtin.append_, run_underlying ht, sizeOf, typeInfo, hi, Builtin.lenOf, Builtin.firstCells, hcap, storeCells]
    · by_cases hroom : len + len' ≤ cap
      · have hfit : len * i.size + news.length ≤ cur.size := by rw [hsrc.num, hcsz, ← Nat.add_mul]; exact Nat.mul_le_mul_right _ (by omega)
        have hrun := run_append_room (P := P) w ts ty e i ht hi x.blk len cap cur hcur a len' c news hsrc.num hcells hsrc.one hroom hfit
        have hget : ∀ j, (cur.toList.take (len * i.size) ++ news ++ cur.toList.drop (len * i.size + news.length))[j]? = if j < len * i.size then cur[j]? else if j < len * i.size + news.length then news[j - len * i.size]? else cur[j]? := by
          intro j
          have hl1 : (cur.toList.take (len * i.size)).length = len * i.size := by simp; omega
          by_cases c1 : j < len * i.size
          · rw [if_pos c1, List.append_assoc, List.getElem?_append_left (by omega), List.getElem?_take, if_pos c1]; simp
          · rw [if_neg c1, List.append_assoc, List.getElem?_append_right (by omega), hl1]
            by_cases c2 : j < len * i.size + news.length
            · rw [if_pos c2, List.getElem?_append_left (by omega)]
            · rw [if_neg c2, List.getElem?_append_right (by omega), List.getElem?_drop]
              rw [show len * i.size + news.length + (j - len * i.size - news.length) = j by omega]; simp
        refine inplace _ _ (setRow_heap w x.blk cur _ e _ hcur) (fun k hk' => setRow_other w x.blk k _ hk') ⟨by simp, by simp, by simp, by simp⟩ (by simp; omega) (fun j a' hj => ?_) (by omega) hrun
        simp only [List.getElem?_toArray]
        rw [hget j]
        rcases a2 j a' hj with ⟨c1, a'', c2, c3⟩ | ⟨c1, a'', c2, c3⟩
        · obtain ⟨u, hu, hru⟩ := hold j a'' c2
          exact ⟨u, by rw [if_pos (by omega)]; exact hu, c3 _ _ hru⟩
        · obtain ⟨u, hu, hru⟩ := hsrc.rep _ a'' c2
          have := get?_lt c2
          refine ⟨u, ?_, c3 _ _ hru⟩
          rw [if_neg (by omega), if_pos (by rw [hsrc.num]; omega), hlen]
          exact hu
      · have holds : ∀ (j : Nat) u, (cur.toList.take (len * i.size))[j]? = some u → w.cell? ((⟨x.blk, 0, none⟩ : Addr).add j) = some u := fun j u hj => by
          rw [List.getElem?_take] at hj
          split at hj
          · rw [← at0 x hxo, Bl.at_add, Nat.zero_add, hcell]; simpa using hj
          · cases hj
        have hlo : (cur.toList.take (len * i.size)).length = len * i.size := by simp; omega
        have hrun := run_append_grow (P := P) w ts ty e i zv ht hi hz ⟨x.blk, 0, none⟩ len cap (cur.toList.take (len * i.size)) hlo holds a len' c news hsrc.num hcells (by omega) (by omega) (growslice_fits (by omega) hroom2)
        refine fresh (cur.toList.take (len * i.size)) _ cap hlo (fun j a' hj => ?_) rfl (by rw [hzf]; rfl) hrun
        obtain ⟨u, hu, hru⟩ := hold j a' hj
        have := get?_lt hj
        exact ⟨u, by rw [List.getElem?_take, if_pos (by omega)]; simpa using hu, hru⟩

theorem append_exact_ok {ts ty e : TypeId} {i : TypeInfo} {zv : Value} (hr : Rel P σ M w) (ht : P.underlying ts = some (.slice e)) (hi : P.info? e = some i) (hz : i.zero = some zv) (hzs : zv.cells.size = i.size)
    {cf z d : Bool} {r : Ref} {len : Nat} {vs vx : Value} {len' : Nat} {new od dn : Data} {olds news : List Value}
    (hdn : od.append new = some dn) (hroom1 : len + len' ≤ 140737488355328) (hroom2 : (len + len') * i.bytes ≤ 140737488355328) (hol : od.size = len * i.size) (hnl : new.size = len' * i.size)
    (hs : Rep σ (.sl z r d len .exact) vs) (hold : Src σ w i.size len vs od olds) (hsrc : Src σ w i.size len' vx new news) (h1 : len' ≠ 0) :
    Does P σ M w (Builtin.append_ #[ts, ts] ty #[vs, vx]) (.sl false ⟨M.length, 0, 0, 0⟩ cf (len + len') .own, M ++ [some ⟨e, true, false, true, dn⟩]) := by
  obtain ⟨a1, a2⟩ := append_ok hdn
  have hmax : len + len' ≤ maxLen := by unfold maxLen; omega
  obtain ⟨a, c, rfl, hcells⟩ := hsrc.at_.resolve_left (fun h => h1 h.2)
  have fresh : ∀ (cap old : Nat) (ol : List Value), ol = olds → cap = grownCap w (len + len') old e →
      (Builtin.append_ #[ts, ts] ty #[vs, .slice (some a) len' c]).run P w = .ok (.slice (some ⟨w.heap.size, 0, none⟩) (len + len') cap) (w.drew.alloc (.cells (ol.toArray ++ news.toArray ++ Builtin.zeroCells zv.cells (cap - (len + len'))) e)) →
      Does P σ M w (Builtin.append_ #[ts, ts] ty #[vs, .slice (some a) len' c]) (.sl false ⟨M.length, 0, 0, 0⟩ cf (len + len') .own, M ++ [some ⟨e, true, false, true, dn⟩]) := by
    intro cap old ol hol' hcap hrun
    subst hol'
    have hcap' : len + len' ≤ cap ∧ cap ≤ maxLen := by subst hcap; exact grownCap_ok hmax
    obtain ⟨σ', f1, f2⟩ := fresh_ok (w := w) hr hi hzs (dn := dn) (cells := ol ++ news) hcap' (by rw [List.length_append, hold.num, hsrc.num, Nat.add_mul]) (fun j a hj => by
      rcases a2 j a hj with ⟨c1, a', c2, c3⟩ | ⟨c1, a', c2, c3⟩
      · obtain ⟨u, hu, hru⟩ := hold.rep j a' c2
        exact ⟨u, by rw [List.getElem?_append_left (by rw [hold.num]; omega)]; exact hu, c3 _ _ hru⟩
      · obtain ⟨u, hu, hru⟩ := hsrc.rep _ a' c2
        exact ⟨u, by rw [List.getElem?_append_right (by rw [hold.num]; omega), hold.num, ← hol]; exact hu, c3 _ _ hru⟩) (by rw [a1, hol, hnl, Nat.add_mul]) _ (by rw [show (ol ++ news).toArray = ol.toArray ++ news.toArray by simp])
    refine ⟨_, _, σ', hrun, ?_, f2⟩
    simp only [Rep, pos0]
    exact ⟨fun hh => (by cases hh), fun _ => ⟨_, _, cap, f1, rfl, hcap'.1, rfl, rfl, rfl, by simp [Bl.at]⟩⟩
  simp only [Rep] at hs
  cases z
  · obtain ⟨x, a0, cap, _, rfl, hok⟩ := hs.2 rfl
    obtain ⟨_, hcap, _⟩ := hok
    subst hcap
    have hcells0 : ∀ (j : Nat) u, olds[j]? = some u → w.cell? (a0.add j) = some u := by
      rcases hold.at_ with ⟨h, _⟩ | ⟨b0, c0, h2, h3⟩
      · cases h
      · have : a0 = b0 := by simpa using (Value.slice.inj h2).1
        rw [this]; exact h3
    have hrun := run_append_grow (P := P) w ts ty e i zv ht hi hz a0 cap cap olds hold.num hcells0 a len' c news hsrc.num hcells (by omega) (by omega) (growslice_fits (by omega) hroom2)
    exact fresh _ cap olds rfl rfl hrun
  · obtain ⟨rfl, rfl⟩ := hs.1 rfl
    have hrun := run_append_nil (P := P) w ts ty e i zv ht hi hz a len' c news hsrc.num hcells (by omega) (by omega) (by simp only [Nat.zero_add] at hroom2; omega)
    have ho : olds = [] := List.eq_nil_of_length_eq_zero (by rw [hold.num]; simp)
    refine fresh _ 0 [] ho.symm rfl ?_
    simpa using hrun
/-- Nothing comes: the slice is as it was. -/
theorem append_none_run {ts ty e : TypeId} {i : TypeInfo} (ht : P.underlying ts = some (.slice e)) (hi : P.info? e = some i) {z c : Bool} {r : Ref} {len : Nat} {m : Cap} {vs vx : Value} {z' c' : Bool} {r' : Ref} {m' : Cap}
    (hs : Rep σ (.sl z r c len m) vs) (hx : Rep σ (.sl z' r' c' 0 m') vx) : (Builtin.append_ #[ts, ts] ty #[vs, vx]).run P w = .ok vs w := by
  simp only [Rep] at hs hx
  have hx' : vx = .slice none 0 0 ∨ ∃ a c, vx = .slice (some a) 0 c := by
    cases z'
    · obtain ⟨_, a, cap, _, h, _⟩ := hx.2 rfl; exact .inr ⟨a, cap, h⟩
    · exact .inl (hx.1 rfl).1
  have hs' : vs = .slice none 0 0 ∨ ∃ a n c, vs = .slice (some a) n c ∧ n ≤ c := by
    cases z
    · obtain ⟨_, a, cap, _, h, hok⟩ := hs.2 rfl; exact .inr ⟨a, len, cap, h, hok.1⟩
    · exact .inl (hs.1 rfl).1
  rcases hs' with rfl | ⟨a, n, c, rfl, hn⟩ <;> rcases hx' with rfl | ⟨b, d, rfl⟩
  · simp [Builtin.append_, run_underlying ht, sizeOf, typeInfo, hi, Builtin.lenOf, Builtin.firstCells]
  · simp [Builtin.append_, run_underlying ht, sizeOf, typeInfo, hi, Builtin.lenOf, Builtin.firstCells, loadCells, loadCellsFrom]
  · simp [Builtin.append_, run_underlying ht, sizeOf, typeInfo, hi, Builtin.lenOf, Builtin.firstCells, hn, storeCells]
  · simp [Builtin.append_, run_underlying ht, sizeOf, typeInfo, hi, Builtin.lenOf, Builtin.firstCells, loadCells, loadCellsFrom, hn, storeCells]
/-- A piece put behind makes whole numbers out of cells. -/
theorem src_widen {size len : Nat} {z c : Bool} {r : Ref} {m : Cap} {v : Value} {d : Data} (hr : Rel P σ M w) (hv : Rep σ (.sl z r c len m) v) (h0 : len = 0) (hs : d.size = 0) : ∃ olds, Src σ w size len v d olds := by
  subst h0
  simp only [Rep] at hv
  refine ⟨[], by simp, fun j a hj => absurd (get?_lt hj) (by omega), by simp, ?_⟩
  cases z
  · obtain ⟨x, a, cap, _, rfl, _⟩ := hv.2 rfl; exact .inr ⟨a, cap, rfl, by simp⟩
  · exact .inl ⟨(hv.1 rfl).1, rfl⟩

theorem appendAV_ok {ts tx ty : TypeId} {s x : AV} {vs vx : Value} {r : AV × Mem} (hr : Rel P σ M w) (hs : Rep σ s vs) (hx : Rep σ x vx) (h : (appendAV P ts tx s x M).runs r) :
    Does P σ M w (Builtin.append_ #[ts, tx] ty #[vs, vx]) r := by
  unfold appendAV at h
  split at h
  · rename_i z ref d len m z' r' d' len' m' e hts ht
    have hts : ts = tx := by simpa using hts
    subst hts
    split at h
    · rename_i i hi
      split at h
      · rename_i zv hz
        split at h
        · rename_i hzd
          obtain ⟨hzs, h0⟩ : zv.cells.size = i.size ∧ 0 < i.size := by simpa using hzd
          split at h
          · exact h.elim
          · rename_i new hnew
            dsimp only at h
            split at h
            · exact h.elim
            · rename_i hones
              split at h
              · -- own
                split at h
                · rename_i b hw0 ho0 hb
                  split at h
                  · rename_i dn hrw hrow hbe hdn
                    obtain ⟨g1, h⟩ := Tree.runs_need h
                    obtain ⟨g2, h⟩ := Tree.runs_need h
                    simp only [Tree.runs] at h
                    subst h
                    simp only [Bool.and_eq_true, decide_eq_true_eq, beq_iff_eq] at g1 g2
                    obtain ⟨⟨q1, q2⟩, q3⟩ := g2
                    obtain ⟨p1, p2⟩ := g1
                    unfold most48 at p1 p2
                    obtain ⟨news, hsrc⟩ := src_ok hr hx hnew hones q2
                    exact append_own_ok hr ht hi hz hzs h0 hw0 ho0 hb hrw hrow (by simpa using hbe) hdn (by omega) (by omega) q1 q3 hs hsrc q2
                  · exact h.elim
                · exact h.elim
              · -- exact
                split at h
                · simp only [Tree.runs] at h
                  subst h
                  exact ⟨vs, w, σ, append_none_run ht hi hs hx, hs, Moved.refl hr⟩
                · split at h
                  · exact h.elim
                  · rename_i od hod
                    split at h
                    · exact h.elim
                    · rename_i dn hdn
                      obtain ⟨g1, h⟩ := Tree.runs_need h
                      obtain ⟨g2, h⟩ := Tree.runs_need h
                      simp only [decide_eq_true_eq] at g1 g2
                      obtain ⟨p1, p2⟩ := g1
                      obtain ⟨q1, q2⟩ := g2
                      unfold most48 at p1 p2
                      rcases Tree.runs_ifB h with ⟨hl, h⟩ | ⟨hl, h⟩
                      · simp only [Tree.runs] at h
                        subst h
                        have hl : len' = 0 := by simpa using hl
                        subst hl
                        exact ⟨vs, w, σ, append_none_run ht hi hs hx, hs, Moved.refl hr⟩
                      · simp only [Tree.runs] at h
                        subst h
                        have hl : len' ≠ 0 := by simpa using hl
                        obtain ⟨news, hsrc⟩ := src_ok hr hx hnew hones q2
                        obtain ⟨olds, hold⟩ : ∃ olds, Src σ w i.size len vs od olds := by
                          split at hod
                          · cases hod; exact src_widen hr hs rfl rfl
                          · cases hod; exact src_widen hr hs rfl (by simp [Data.size])
                          · obtain ⟨od', h1, h2⟩ := Option.bind_eq_some_iff.1 hod
                            split at h2
                            · rename_i ho
                              cases h2
                              exact src_ok hr hs h1 ho q1
                            · cases h2
                        exact append_exact_ok hr ht hi hz hzs hdn (by omega) (by omega) q1 q2 hs hold hsrc hl
              · exact h.elim
        · exact h.elim
      · exact h.elim
    · exact h.elim
  · exact h.elim
end
end Go.Proofs.Ytonhkbgielilbaa.Rig
