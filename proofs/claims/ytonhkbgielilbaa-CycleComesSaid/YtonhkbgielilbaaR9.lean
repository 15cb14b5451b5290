/- A reckoner over Go's operations: what turns memory. -/
import Derived.Test.YtonhkbgielilbaaR8
namespace Go.Proofs.Ytonhkbgielilbaa.Rig
open Go
section
variable {P : Program} {σ : Sig} {M : Mem} {w : World}

/-- What an operation with an effect comes to. -/
def Does (P : Program) (σ : Sig) (M : Mem) (w : World) (s : Sem Value) (r : AV × Mem) : Prop :=
  ∃ val w' σ', s.run P w = .ok val w' ∧ Rep σ' r.1 val ∧ Moved P σ M w σ' r.2 w'
theorem Yld.does {s : Sem Value} {v : AV} (h : Yld P σ w s v) (hr : Rel P σ M w) : Does P σ M w s (v, M) := by
  obtain ⟨val, h1, h2⟩ := h
  exact ⟨val, w, σ, h1, h2, Moved.refl hr⟩

/-- A new block. -/
theorem new_ok (hr : Rel P σ M w) (b : Blk) (cur : Array Value) (cap : Nat) (w1 : World) (hw1 : w1.heap = w.heap.push (.cells cur b.e)) (hos : w1.os = w.os) (htape : w1.tape = w.tape) (hout : w1.output = w.output)
    (hrw : b.rw = true) (hv : b.virt = false) (hd : ∀ (j : Nat) a, b.d.get? j = some a → ∃ v, cur[j]? = some v ∧ Rep σ a v) (hsz : b.d.size ≤ cur.size)
    (hrow : b.row = true → cap ≤ maxLen ∧ ∀ n, szT P b.e = some n → cur.size = cap * n) :
    ∃ σ', σ' M.length = some ⟨w.heap.size, 0, cap⟩ ∧ Moved P σ M w σ' (M ++ [some b]) w1 := by
  have hnew : w1.heap[w.heap.size]? = some (.cells cur b.e (0, 0)) := by rw [hw1]; simp
  have hold : ∀ k, k < w.heap.size → w1.heap[k]? = w.heap[k]? := fun k hk => by rw [hw1, Array.getElem?_push, if_neg (by omega)]
  have hext : Ext σ (upd σ M.length ⟨w.heap.size, 0, cap⟩) := upd_ext (hr.dom _ (Nat.le_refl _))
  have hrel : Rel P (upd σ M.length ⟨w.heap.size, 0, cap⟩) (M ++ [some b]) w1 := by
    refine hr.add b ⟨w.heap.size, 0, cap⟩ (.inr ⟨hv, fun j a hj => ?_, fun _ => ⟨cur, hnew, rfl, hsz, hrow⟩⟩) (fun j bj z hj hz hvj hzb => ?_) (.inl hrw) (fun k hk _ => hold k hk) (fun h => absurd h (Nat.lt_irrefl _))
    · obtain ⟨v, h1, h2⟩ := hd j a hj
      refine ⟨v, ?_, h2.mono hext⟩
      rw [show (Bl.at ⟨w.heap.size, 0, cap⟩ j) = ⟨w.heap.size, j, none⟩ by simp [Bl.at], cell_of_row w1 _ j cur _ _ hnew]
      exact h1
    · obtain ⟨y, hy, hok⟩ := hr.blk j bj hj
      rw [hz] at hy; cases hy
      have hno : ¬ (bj.rw = true ∨ ¬ bj.d.void) := fun h => by
        have := hok.lt hvj h
        simp only at hzb
        omega
      refine ⟨?_, .inl ?_⟩
      · cases hq : bj.rw with
        | false => rfl
        | true => exact absurd (.inl hq) hno
      · by_cases hq : bj.d.void
        · exact hq
        · exact absurd (.inr hq) hno
  refine ⟨_, by simp [upd], hext, hrel, ⟨hos, htape, hout, by rw [hw1]; simp, fun k hk _ => hold k hk⟩, fun i hi => by unfold upd; rw [if_neg (by omega)], fun Q hQ hQ' k hk hf => ?_, by simp⟩
  obtain ⟨i, c, x, hi, hx, h1, h2, h3⟩ := hf
  by_cases hlt : i < M.length
  · rw [Mem.at_append_left hlt] at hi
    unfold upd at hx
    rw [if_neg (by omega)] at hx
    exact ⟨i, c, x, hi, hx, h1, h2, h3⟩
  · rw [Mem.at_append_right (by omega), Mem.at_one] at hi
    split at hi
    · have : i = M.length := by omega
      subst this
      simp [upd] at hx
      subst hx
      simp at h3
      omega
    · cases hi
theorem box_run {t : TypeId} {cur : Array Value} : (newRow t cur).run P w = .ok ⟨w.heap.size, 0, none⟩ (w.alloc (.cells cur t)) := by
  simp [newRow]
theorem pos0 (n : Nat) : (⟨n, 0, 0, 0⟩ : Ref).pos = 0 := rfl
theorem at0 (x : Bl) (h : x.off = 0) : x.at 0 = ⟨x.blk, 0, none⟩ := by simp [Bl.at, h]
theorem box_ok {t : TypeId} {v : AV} {vx : Value} (hr : Rel P σ M w) (hx : Rep σ v vx) (hk : v.okv = true) :
    Does P σ M w (Instr.box t vx) (.ptr ⟨M.length, 0, 0, 0⟩, M ++ [some ⟨t, true, false, false, .cells v.parts⟩]) := by
  have hc := hx.cellsOf hk
  obtain ⟨σ', h1, h2⟩ := new_ok hr ⟨t, true, false, false, .cells v.parts⟩ vx.cells 0 (w.alloc (.cells vx.cells t)) rfl rfl rfl rfl rfl rfl (fun j a hj => by
    obtain ⟨u, hu, hru⟩ := hc.get (i := j) hj
    exact ⟨u, by simpa using hu, hru⟩) (by have := hc.length; simp [Data.size] at this ⊢; omega) (fun h => by cases h)
  refine ⟨.pointer (some ⟨w.heap.size, 0, none⟩), _, σ', by simp [Instr.box, newVar, box_run], ?_, h2⟩
  simp only [Rep, pos0]
  exact ⟨_, h1, rfl⟩
theorem alloc_ok {t : TypeId} {z : Value} (hr : Rel P σ M w) (hz : zeroT P t = some z) (hk : (ofVal z).okv = true) :
    Does P σ M w (Instr.alloc t true (.tuple #[])) (.ptr ⟨M.length, 0, 0, 0⟩, M ++ [some ⟨t, true, false, false, .cells (ofVal z).parts⟩]) := by
  obtain ⟨val, w', σ', h1, h2, h3⟩ := box_ok (t := t) hr (Rep.ofVal z) hk
  obtain ⟨i, hi, hz'⟩ := Option.bind_eq_some_iff.1 hz
  refine ⟨val, w', σ', ?_, h2, h3⟩
  have hzr : (zeroValue t).run P w = .ok z w := by simp [zeroValue, typeInfo, hi, hz']
  simp only [Instr.alloc, Sem.run_bind, hzr, Result.andThen_ok]
  simpa [Instr.box] using h1

theorem flatten_rep {n : Nat} {z : List AV} {vz : List Value} (h : RepL σ z vz) : ∀ m, RepL σ (zerosOf z m) (List.replicate m vz).flatten
  | 0 => RepL.nil
  | m + 1 => by
    simp only [zerosOf, List.replicate_succ, List.flatten_cons]
    exact h.append (flatten_rep (n := n) h m)
/-- The model's way to fill a row with zeros. -/
theorem madeCells_flat (z : Array Value) (hz : 0 < z.size) : ∀ m, (madeCells z (m * z.size)).toList = (List.replicate m z.toList).flatten := by
  intro m
  apply List.ext_getElem?
  intro i
  have hlen : (List.replicate m z.toList).flatten.length = m * z.size := by simp
  by_cases hi : i < m * z.size
  · have h1 : (madeCells z (m * z.size)).toList[i]? = some (z[i % z.size]!) := by
      simp [madeCells, hi]
    rw [h1]
    have : ∀ (m i : Nat), i < m * z.size → (List.replicate m z.toList).flatten[i]? = some (z[i % z.size]!) := by
      intro m
      induction m with
      | zero => intro i hi; simp at hi
      | succ m ih =>
        intro i hi
        simp only [List.replicate_succ, List.flatten_cons]
        by_cases h : i < z.size
        · rw [List.getElem?_append_left (by simpa using h), Nat.mod_eq_of_lt h]
          simp [h]
        · rw [List.getElem?_append_right (by simp; omega)]
          simp only [Array.length_toList]
          rw [ih (i - z.size) (by rw [Nat.succ_mul] at hi; omega)]
          rw [show i % z.size = (i - z.size) % z.size by rw [Nat.mod_eq_sub_mod (by omega)]]
    exact (this m i hi).symm
  · rw [List.getElem?_eq_none (by simp [size_madeCells]; omega), List.getElem?_eq_none (by omega)]
theorem buildSliceAV_ok {t : TypeId} {n : Nat} {parts : List (Nat × AV)} {vparts : List (Nat × Value)} {r : AV × Mem} (hr : Rel P σ M w) (hp : PartsOk σ parts vparts) (h : (buildSliceAV P t n parts M).runs r) :
    Does P σ M w (Instr.buildSlice t n vparts.toArray) r := by
  unfold buildSliceAV at h
  split at h
  · rename_i e hu
    split at h
    · rename_i s z hs hz
      split at h
      · rename_i hd
        obtain ⟨hle, h0, hzs⟩ : n * s ≤ 65536 ∧ 0 < s ∧ z.cells.size = s := by simpa using hd
        split at h
        · rename_i cs hcs
          simp only [newBlk, Tree.runs] at h
          subst h
          obtain ⟨i, hi, hz'⟩ := Option.bind_eq_some_iff.1 hz
          have hzr : (zeroValue e).run P w = .ok z w := by simp [zeroValue, typeInfo, hi, hz']
          have hsz : (sizeOf e).run P w = .ok s w := szT_run hs
          have hz1 : 0 < z.cells.size := by omega
          have hmade : RepL σ (zerosOf (z.cells.toList.map ofCell) n) (madeCells z.cells (n * z.cells.size)).toList := by
            rw [madeCells_flat z.cells hz1]
            exact flatten_rep (n := n) (RepL.ofCells _) n
          obtain ⟨vout, f1, f2⟩ := fillAV_ok (σ := σ) _ (fun i => some (i * s, s)) (fun i p hip => by
            simp only [List.getElem?_map, Option.map_eq_some_iff] at hip
            obtain ⟨i', hi', rfl⟩ := hip
            obtain ⟨_, rfl⟩ := List.getElem?_eq_some_iff.1 hi'
            simp) parts _ cs vparts _ hcs hmade hp
          have hlen : vout.size = n * s := by
            have h1 := f2.length
            rw [fillAV_len hcs] at h1
            have h2 := hmade.length
            rw [h2] at h1
            simpa [size_madeCells, hzs] using h1.symm
          obtain ⟨σ', h1, h2⟩ := new_ok hr ⟨e, true, false, true, .cells cs⟩ vout n (w.alloc (.cells vout e)) rfl rfl rfl rfl rfl rfl (fun j a hj => by
            obtain ⟨u, hu', hru⟩ := f2.get (i := j) hj
            exact ⟨u, by simpa using hu', hru⟩) (by have := f2.length; simp [Data.size] at this ⊢; omega)
            (fun _ => ⟨by unfold maxLen; have : n ≤ n * s := Nat.le_mul_of_pos_right _ h0; omega, fun m hm => by rw [hs] at hm; cases hm; exact hlen⟩)
          refine ⟨.slice (some ⟨w.heap.size, 0, none⟩) n n, _, σ', ?_, ?_, h2⟩
          · have hbig : ¬ (n * s > 2 ^ 24) := by omega
            obtain ⟨i', hi', rfl⟩ := Option.map_eq_some_iff.1 hs
            rw [hi] at hi'; cases hi'
            rw [hzs] at f1
            by_cases hns : n * i.size = 0
            · have hm0 : madeCells z.cells (n * i.size) = #[] := by simp [madeCells, hns]
              rw [hm0] at f1
              simp [Instr.buildSlice, run_underlying hu, sizeOf, typeInfo, hi, hns, f1, newRow, Array.range_zero']
            · simp only [madeCells] at f1
              simp [Instr.buildSlice, run_underlying hu, sizeOf, typeInfo, zeroValue, hi, hz', hbig, hns, f1, newRow]
          · simp only [Rep, pos0]
            exact ⟨fun hh => (by cases hh), fun _ => ⟨_, _, n, h1, rfl, Nat.le_refl _, rfl, .inl (by simp [Bl.at])⟩⟩
        · exact h.elim
      · exact h.elim
    · exact h.elim
  · exact h.elim

theorem makeSliceAV_ok {t : TypeId} {l c : AV} {vl vc : Value} {r : AV × Mem} (hr : Rel P σ M w) (hl : Rep σ l vl) (hc : Rep σ c vc) (h : (makeSliceAV P t l c M).runs r) :
    Does P σ M w (Instr.makeSlice t vl vc) r := by
  unfold makeSliceAV at h
  split at h
  · rename_i e k1 cl n k2 cc m hu
    split at h
    · rename_i i hi
      split at h
      · rename_i z hz
        split at h
        · rename_i hd
          obtain ⟨hzs, h0⟩ : z.cells.size = i.size ∧ 0 < i.size := by simpa using hd
          obtain ⟨h1, h2⟩ := Tree.runs_need h
          obtain ⟨g0, g1, g2, g3⟩ : 0 ≤ n ∧ n = m ∧ n ≤ most48 ∧ n * i.bytes ≤ most48 := by simpa using h1
          simp only [Rep] at hl hc
          subst hl; subst hc
          subst g1
          unfold most48 at g2 g3
          have hrun := run_make (P := P) w t e i z hu hi hz k1 k2 n n g0 (Int.le_refl _) (by rw [Int.mul_comm]; omega) (by omega)
          obtain ⟨m, rfl⟩ := Int.eq_ofNat_of_zero_le g0
          simp only [Int.toNat_natCast] at hrun h2
          have done : ∀ (d : Data) (cf : Bool), d.size = m * i.size → (∀ (j : Nat) a, d.get? j = some a → ∃ v, (madeCells z.cells (m * i.size))[j]? = some v ∧ Rep σ a v) →
              Does P σ M w (Instr.makeSlice t (.int k1 m) (.int k2 m)) (.sl false ⟨M.length, 0, 0, 0⟩ cf m .exact, M ++ [some ⟨e, true, false, true, d⟩]) := by
            intro d cf hdsz hdg
            obtain ⟨σ', f1, f2⟩ := new_ok hr ⟨e, true, false, true, d⟩ (madeCells z.cells (m * i.size)) m (w.alloc (.cells (madeCells z.cells (m * i.size)) e)) rfl rfl rfl rfl rfl rfl hdg (by rw [size_madeCells]; exact Nat.le_of_eq hdsz)
              (fun _ => ⟨by unfold maxLen; omega, fun q hq => by
                have : q = i.size := by simp [szT, hi] at hq; exact hq.symm
                rw [size_madeCells, this]⟩)
            refine ⟨_, _, σ', hrun, ?_, f2⟩
            simp only [Rep, pos0]
            exact ⟨fun hh => (by cases hh), fun _ => ⟨_, _, m, f1, rfl, Nat.le_refl _, rfl, .inl (by simp [Bl.at])⟩⟩
          split at h2
          · simp only [newBlk, Tree.runs] at h2
            subst h2
            have hrep : RepL σ (zerosOf (z.cells.toList.map ofCell) m) (madeCells z.cells (m * z.cells.size)).toList := by
              rw [madeCells_flat z.cells (by omega)]
              exact flatten_rep (n := m) (RepL.ofCells _) m
            rw [hzs] at hrep
            refine done (.cells _) true ?_ (fun j a hj => ?_)
            · have := hrep.length
              simpa [Data.size, size_madeCells] using this
            · obtain ⟨v, hv, hrv⟩ := hrep.get (i := j) hj
              exact ⟨v, by simpa using hv, hrv⟩
          · rename_i k x
            simp only [newBlk, Tree.runs] at h2
            subst h2
            have h1' : i.size = 1 := by rw [← hzs]; rfl
            refine done (.ints k (List.replicate m x)) false (by simp [Data.size, h1']) (fun j a hj => ?_)
            simp only [Data.get?, Option.map_eq_some_iff] at hj
            obtain ⟨y, hy, rfl⟩ := hj
            obtain ⟨hlt, rfl⟩ := List.getElem?_eq_some_iff.1 hy
            simp only [List.length_replicate] at hlt
            refine ⟨.int k x, ?_, by simp [Rep]⟩
            rw [h1', Nat.mul_one, ← Array.getElem?_toList]
            have := toList_madeCells_one (.int k x) m
            simp only [Value.cells]
            rw [this]
            simp [hlt]
          · exact h2.elim
        · exact h.elim
      · exact h.elim
    · exact h.elim
  · exact h.elim

/-- A store. -/
theorem storeAV_ok {t : TypeId} {x v : AV} {vx vv : Value} {M' : Mem} (hr : Rel P σ M w) (hx : Rep σ x vx) (hv : Rep σ v vv) (h : (storeAV P t x v M).runs M') :
    ∃ w', (Instr.storeAt t vx vv).run P w = .ok () w' ∧ Moved P σ M w σ M' w' := by
  unfold storeAV at h
  split at h
  · rename_i r
    simp only [Rep] at hx
    obtain ⟨x, hσ, rfl⟩ := hx
    split at h
    · rename_i b n hb hn
      obtain ⟨x', hσ', hok⟩ := hr.blk _ b hb
      rw [hσ] at hσ'; cases hσ'
      split at h
      · rename_i hvirt hrw hlen hone
        have hlen : v.parts.length = n := by simpa using hlen
        obtain ⟨d', h1, h2⟩ := Tree.runs_bind h
        simp only [Tree.runs] at h2
        subst h2
        obtain ⟨e1, e2, e3⟩ := write_ok h1
        have hparts := hv.parts hone
        obtain ⟨cur, hcur, hoff, hsz, hrow⟩ : ∃ cur, w.heap[x.blk]? = some (.cells cur b.e (0, 0)) ∧ x.off = 0 ∧ b.d.size ≤ cur.size ∧ (b.row = true → x.cap ≤ maxLen ∧ ∀ n, szT P b.e = some n → cur.size = x.cap * n) := by
          rcases hok with hok | hok
          · rw [hvirt] at hok; cases hok.1
          · exact hok.2.2 hrw
        have hcov : Covers σ w x b.d := by
          rcases hok with hok | hok
          · rw [hvirt] at hok; cases hok.1
          · exact hok.2.1
        have hpl : v.parts.length = vv.cells.toList.length := hparts.length
        have hall := hparts.one hone
        -- the run
        have hrun := run_storeCells_at P x.blk r.pos b.e vv.cells.toList 0 cur w hcur (by omega) hall
        simp only [Nat.add_zero] at hrun
        refine ⟨w.setRow x.blk (cur.toList.take r.pos ++ vv.cells.toList ++ cur.toList.drop (r.pos + vv.cells.toList.length)).toArray, ?_, ?_⟩
        · have hszr : (sizeOf t).run P w = .ok n w := szT_run hn
          have hcs : vv.cells.size = n := by simp at hpl; omega
          simp only [Instr.storeAt, Instr.sureAddr, Sem.run_bind, Sem.run_pure, Result.andThen_ok, storeVar, hszr, hcs, ne_eq, not_true_eq_false, if_false]
          rw [show x.at r.pos = ⟨x.blk, r.pos, none⟩ by simp [Bl.at, hoff]]
          exact hrun
        · have hheap : (w.setRow x.blk (cur.toList.take r.pos ++ vv.cells.toList ++ cur.toList.drop (r.pos + vv.cells.toList.length)).toArray).heap[x.blk]? = some (.cells (cur.toList.take r.pos ++ vv.cells.toList ++ cur.toList.drop (r.pos + vv.cells.toList.length)).toArray b.e (0, 0)) := setRow_heap w x.blk cur _ b.e _ hcur
          have hother : ∀ k, k ≠ x.blk → (w.setRow x.blk (cur.toList.take r.pos ++ vv.cells.toList ++ cur.toList.drop (r.pos + vv.cells.toList.length)).toArray).heap[k]? = w.heap[k]? := fun k hk => setRow_other w x.blk k _ hk
          have hsize : (cur.toList.take r.pos ++ vv.cells.toList ++ cur.toList.drop (r.pos + vv.cells.toList.length)).toArray.size = cur.size := by
            simp; simp at hpl; omega
          generalize hW : w.setRow x.blk _ = W at hheap hother ⊢
          have hWf : W.os = w.os ∧ W.tape = w.tape ∧ W.output = w.output ∧ W.heap.size = w.heap.size := by subst hW; simp
          have hget : ∀ j, (cur.toList.take r.pos ++ vv.cells.toList ++ cur.toList.drop (r.pos + vv.cells.toList.length))[j]? = if j < r.pos then cur[j]? else if j < r.pos + vv.cells.toList.length then vv.cells.toList[j - r.pos]? else cur[j]? := by
            intro j
            have hl1 : (cur.toList.take r.pos).length = r.pos := by simp; simp at hpl; omega
            by_cases c1 : j < r.pos
            · rw [if_pos c1, List.append_assoc, List.getElem?_append_left (by omega), List.getElem?_take, if_pos c1]; simp
            · rw [if_neg c1, List.append_assoc, List.getElem?_append_right (by omega), hl1]
              by_cases c2 : j < r.pos + vv.cells.toList.length
              · rw [if_pos c2, List.getElem?_append_left (by omega)]
              · rw [if_neg c2, List.getElem?_append_right (by omega), List.getElem?_drop]
                rw [show r.pos + vv.cells.toList.length + (j - r.pos - vv.cells.toList.length) = j by omega]; simp
          have hrel : Rel P σ (M.set r.id (some { b with d := d' })) W := by
            refine hr.update hb hσ hrw hvirt ?_ hrw hother
            refine .inr ⟨hvirt, fun j a hj => ?_, fun _ => ⟨_, hheap, hoff, by rw [hsize]; show d'.size ≤ cur.size; omega, fun hq => ⟨(hrow hq).1, fun q hq' => by rw [hsize]; exact (hrow hq).2 q hq'⟩⟩⟩
            rw [show x.at j = ⟨x.blk, j, none⟩ by simp [Bl.at, hoff], cell_of_row W x.blk j _ _ _ hheap]
            simp only [List.getElem?_toArray]
            rw [hget j]
            rcases e3 j a hj with ⟨c1, c2, a', c3, c4⟩ | ⟨c1, a', c3, c4⟩
            · rw [if_neg (by omega), if_pos (by omega)]
              obtain ⟨u, hu, hru⟩ := hparts.get c3
              exact ⟨u, hu, c4 _ _ hru⟩
            · obtain ⟨u, hu, hru⟩ := hcov j a' c3
              rw [show x.at j = ⟨x.blk, j, none⟩ by simp [Bl.at, hoff], cell_of_row w x.blk j _ _ _ hcur] at hu
              refine ⟨u, ?_, c4 _ _ hru⟩
              rcases c1 with c1 | c1
              · rw [if_pos c1]; exact hu
              · rw [if_neg (by omega), if_neg (by omega)]; exact hu
          refine ⟨Ext.refl _, hrel, ⟨hWf.1, hWf.2.1, hWf.2.2.1, Nat.le_of_eq hWf.2.2.2.symm, fun k hk hf => hother k fun e => hf ⟨r.id, b, x, hb, hσ, hrw, hvirt, e.symm⟩⟩, fun _ _ => rfl, fun Q hQ hQ' k hk hf => ?_, by simp⟩
          obtain ⟨i, c, y, hi, hy, c1, c2, c3⟩ := hf
          rw [Mem.at_set (Mem.at_lt hb)] at hi
          split at hi
          · rename_i e
            subst e
            rw [hσ] at hy; cases hy
            exact ⟨r.id, b, x, hb, hσ, hQ b hrw, hvirt, c3⟩
          · exact ⟨i, c, y, hi, hy, c1, c2, c3⟩
      · exact h.elim
    · exact h.elim
  · exact h.elim
end
end Go.Proofs.Ytonhkbgielilbaa.Rig
