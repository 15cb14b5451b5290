/- A reckoner over Go's operations: its memory against the world's. -/
import Derived.Test.YtonhkbgielilbaaR4
namespace Go.Proofs.Ytonhkbgielilbaa.Rig
open Go

theorem Mem.at_lt {M : Mem} {i : Nat} {b : Blk} (h : M.at i = some b) : i < M.length := by
  unfold Mem.at at h
  rcases Nat.lt_or_ge i M.length with h' | h'
  · exact h'
  · rw [List.getElem?_eq_none h'] at h; cases h
theorem Mem.at_append_left {M N : Mem} {i : Nat} (h : i < M.length) : Mem.at (M ++ N) i = M.at i := by
  unfold Mem.at; rw [List.getElem?_append_left h]
theorem Mem.at_append_right {M N : Mem} {i : Nat} (h : M.length ≤ i) : Mem.at (M ++ N) i = N.at (i - M.length) := by
  unfold Mem.at; rw [List.getElem?_append_right h]
theorem Mem.at_set {M : Mem} {i j : Nat} {o : Option Blk} (h : i < M.length) : Mem.at (M.set i o) j = if i = j then o else M.at j := by
  unfold Mem.at
  rw [List.getElem?_set]
  split
  · rename_i e; subst e; rfl
  · rfl
theorem Mem.at_one (b : Option Blk) (j : Nat) : Mem.at [b] j = if j = 0 then b else none := by
  cases j <;> simp [Mem.at]

def Data.void (d : Data) : Prop := ∀ j, d.get? j = none
theorem Data.void_of_size {d : Data} (h : d.size = 0) : d.void := fun j => by
  cases hj : d.get? j with
  | none => rfl
  | some a => have := get?_lt hj; omega
def Covers (σ : Sig) (w : World) (x : Bl) (d : Data) : Prop := ∀ (j : Nat) a, d.get? j = some a → ∃ v, w.cell? (x.at j) = some v ∧ Rep σ a v
def BlkOk (P : Program) (σ : Sig) (w : World) (x : Bl) (b : Blk) : Prop :=
  (b.virt = true ∧ b.d.size = 0) ∨
  (b.virt = false ∧ Covers σ w x b.d ∧ (b.rw = true → ∃ cur, w.heap[x.blk]? = some (.cells cur b.e (0, 0)) ∧ x.off = 0 ∧ b.d.size ≤ cur.size ∧
    (b.row = true → x.cap ≤ maxLen ∧ ∀ n, szT P b.e = some n → cur.size = x.cap * n)))
structure Rel (P : Program) (σ : Sig) (M : Mem) (w : World) : Prop where
  dom : ∀ i, M.length ≤ i → σ i = none
  blk : ∀ i b, M.at i = some b → ∃ x, σ i = some x ∧ BlkOk P σ w x b
  sep : ∀ i j bi bj x y, M.at i = some bi → M.at j = some bj → i ≠ j → σ i = some x → σ j = some y → bi.rw = true → bi.virt = false → bj.virt = false → x.blk = y.blk → bj.rw = false ∧ bj.d.void
def occ (Q : Blk → Prop) (σ : Sig) (M : Mem) (k : Nat) : Prop := ∃ i b x, M.at i = some b ∧ σ i = some x ∧ Q b ∧ b.virt = false ∧ x.blk = k
def foot (σ : Sig) (M : Mem) (k : Nat) : Prop := occ (fun b => b.rw = true) σ M k
structure Kept (σ : Sig) (M : Mem) (w w' : World) : Prop where
  os : w'.os = w.os
  tape : w'.tape = w.tape
  output : w'.output = w.output
  size : w.heap.size ≤ w'.heap.size
  block : ∀ k, k < w.heap.size → ¬ foot σ M k → w'.heap[k]? = w.heap[k]?
/-- What may be asked of a block: less of it asks for less. -/
def QOk (Q : Blk → Prop) : Prop := ∀ b b' : Blk, (b'.rw = true → b.rw = true) → (b.d.void → b'.d.void) → Q b' → Q b
structure Moved (P : Program) (σ : Sig) (M : Mem) (w : World) (σ' : Sig) (M' : Mem) (w' : World) : Prop where
  ext : Ext σ σ'
  rel : Rel P σ' M' w'
  kept : Kept σ M w w'
  agree : ∀ i, i < M.length → σ' i = σ i
  occ : ∀ Q : Blk → Prop, (∀ b : Blk, b.rw = true → Q b) → QOk Q → ∀ k, k < w.heap.size → occ Q σ' M' k → occ Q σ M k
  len : M.length ≤ M'.length

theorem Kept.refl (σ : Sig) (M : Mem) (w : World) : Kept σ M w w := ⟨rfl, rfl, rfl, Nat.le_refl _, fun _ _ _ => rfl⟩
section
variable {P : Program} {σ σ' : Sig} {M M' : Mem} {w w' : World}
theorem Moved.refl (h : Rel P σ M w) : Moved P σ M w σ M w := ⟨Ext.refl _, h, Kept.refl _ _ _, fun _ _ => rfl, fun _ _ _ _ _ h => h, Nat.le_refl _⟩
theorem Moved.foot (h : Moved P σ M w σ' M' w') : ∀ k, k < w.heap.size → foot σ' M' k → foot σ M k := h.occ _ (fun _ hb => hb) fun _ _ h1 _ h2 => h1 h2
theorem Moved.trans {σ2 : Sig} {M2 : Mem} {w2 : World} (h : Moved P σ M w σ' M' w') (k : Moved P σ' M' w' σ2 M2 w2) : Moved P σ M w σ2 M2 w2 := by
  refine ⟨h.ext.trans k.ext, k.rel, ⟨k.kept.os.trans h.kept.os, k.kept.tape.trans h.kept.tape, k.kept.output.trans h.kept.output, Nat.le_trans h.kept.size k.kept.size, fun i hi hf => ?_⟩, fun i hi => (k.agree i (Nat.lt_of_lt_of_le hi h.len)).trans (h.agree i hi), fun Q hQ hQ' i hi hf => ?_, Nat.le_trans h.len k.len⟩
  · rw [k.kept.block i (Nat.lt_of_lt_of_le hi h.kept.size) (fun hf' => hf (h.foot i hi hf'))]
    exact h.kept.block i hi hf
  · exact h.occ Q hQ hQ' i hi (k.occ Q hQ hQ' i (Nat.lt_of_lt_of_le hi h.kept.size) hf)

theorem Covers.congr {x : Bl} {d : Data} (h : Covers σ w x d) (hb : w'.heap[x.blk]? = w.heap[x.blk]?) : Covers σ w' x d := fun j a hj => by
  obtain ⟨v, hv, hr⟩ := h j a hj
  exact ⟨v, (World.cell?_of_block (a := x.at j) hb).trans hv, hr⟩
theorem Covers.mono (he : Ext σ σ') {x : Bl} {d : Data} (h : Covers σ w x d) : Covers σ' w x d := fun j a hj => by
  obtain ⟨v, hv, hr⟩ := h j a hj
  exact ⟨v, hv, hr.mono he⟩
theorem Covers.empty {x : Bl} {d : Data} (h : d.void) : Covers σ w x d := fun j a hj => by rw [h j] at hj; cases hj
theorem BlkOk.mono (he : Ext σ σ') {x : Bl} {b : Blk} (h : BlkOk P σ w x b) : BlkOk P σ' w x b := by
  rcases h with h | ⟨h1, h2, h3⟩
  · exact .inl h
  · exact .inr ⟨h1, h2.mono he, h3⟩
theorem BlkOk.congr {x : Bl} {b : Blk} (h : BlkOk P σ w x b) (hb : b.virt = false → w'.heap[x.blk]? = w.heap[x.blk]?) : BlkOk P σ w' x b := by
  rcases h with h | ⟨h1, h2, h3⟩
  · exact .inl h
  · exact .inr ⟨h1, h2.congr (hb h1), fun hr => by rw [hb h1]; exact h3 hr⟩
/-- A block that counts lies in the heap. -/
theorem BlkOk.lt {x : Bl} {b : Blk} (h : BlkOk P σ w x b) (hv : b.virt = false) (hs : b.rw = true ∨ ¬ b.d.void) : x.blk < w.heap.size := by
  rcases h with h | ⟨_, h2, h3⟩
  · rw [hv] at h; cases h.1
  · rcases hs with hs | hs
    · obtain ⟨cur, hc, _⟩ := h3 hs
      rcases Nat.lt_or_ge x.blk w.heap.size with h' | h'
      · exact h'
      · rw [Array.getElem?_eq_none h'] at hc; cases hc
    · obtain ⟨j, hj⟩ := Classical.not_forall.1 hs
      cases ha : b.d.get? j with
      | none => exact absurd ha hj
      | some a =>
        obtain ⟨v, hv', _⟩ := h2 j a ha
        exact World.block_lt_of_cell? w _ hv'

/-- A block is let go. -/
theorem Rel.kill (h : Rel P σ M w) (i : Nat) : Rel P σ (M.set i none) w := by
  have hk : ∀ {j b}, Mem.at (M.set i none) j = some b → M.at j = some b := by
    intro j b hj
    by_cases hi : i < M.length
    · rw [Mem.at_set hi] at hj
      split at hj
      · cases hj
      · exact hj
    · rwa [List.set_eq_of_length_le (by omega)] at hj
  exact ⟨fun j hj => h.dom j (by simpa using hj), fun j b hj => h.blk j b (hk hj), fun i' j bi bj x y hi hj => h.sep i' j bi bj x y (hk hi) (hk hj)⟩
theorem occ.kill {Q : Blk → Prop} {i k : Nat} (h : occ Q σ (M.set i none) k) : occ Q σ M k := by
  obtain ⟨j, b, x, hj, h2⟩ := h
  refine ⟨j, b, x, ?_, h2⟩
  by_cases hi : i < M.length
  · rw [Mem.at_set hi] at hj
    split at hj
    · cases hj
    · exact hj
  · rwa [List.set_eq_of_length_le (by omega)] at hj

theorem foot.kill {i k : Nat} (h : foot σ (M.set i none) k) : foot σ M k := occ.kill h
def upd (σ : Sig) (n : Nat) (x : Bl) : Sig := fun i => if i = n then some x else σ i
theorem upd_ext {n : Nat} {x : Bl} (h : σ n = none) : Ext σ (upd σ n x) := fun i y hy => by
  unfold upd
  split
  · rename_i e; subst e; rw [h] at hy; cases hy
  · exact hy
/-- A block more. -/
theorem Rel.add (h : Rel P σ M w) (b : Blk) (x : Bl) (hb : BlkOk P (upd σ M.length x) w' x b)
    (hfr : ∀ j bj z, M.at j = some bj → σ j = some z → bj.virt = false → z.blk = x.blk → bj.rw = false ∧ (bj.d.void ∨ b.virt = true))
    (hvoid : b.rw = true ∨ b.virt = true)
    (hw : ∀ k, k < w.heap.size → k ≠ x.blk → w'.heap[k]? = w.heap[k]?) (hx : x.blk < w.heap.size → b.virt = true → w'.heap[x.blk]? = w.heap[x.blk]?) : Rel P (upd σ M.length x) (M ++ [some b]) w' := by
  have hext : Ext σ (upd σ M.length x) := upd_ext (h.dom _ (Nat.le_refl _))
  have split_at : ∀ {j bj}, Mem.at (M ++ [some b]) j = some bj → (j < M.length ∧ M.at j = some bj) ∨ (j = M.length ∧ bj = b) := by
    intro j bj hj
    by_cases hlt : j < M.length
    · rw [Mem.at_append_left hlt] at hj; exact .inl ⟨hlt, hj⟩
    · rw [Mem.at_append_right (by omega), Mem.at_one] at hj
      split at hj
      · cases hj; exact .inr ⟨by omega, rfl⟩
      · cases hj
  have old : ∀ {j : Nat} {y : Bl}, j < M.length → upd σ M.length x j = some y → σ j = some y := by
    intro j y hlt hy
    unfold upd at hy
    rwa [if_neg (by omega)] at hy
  have new : ∀ {y : Bl}, upd σ M.length x M.length = some y → y = x := by
    intro y hy; simp [upd] at hy; exact hy.symm
  refine ⟨fun i hi => ?_, fun j bj hj => ?_, fun i j bi bj y z hi hj hne hy hz hrw hvi hvj hyz => ?_⟩
  · simp at hi
    unfold upd
    rw [if_neg (by omega)]
    exact h.dom i (by omega)
  · rcases split_at hj with ⟨hlt, hj⟩ | ⟨rfl, rfl⟩
    · obtain ⟨z, hz, hok⟩ := h.blk j bj hj
      refine ⟨z, hext j z hz, ?_⟩
      by_cases hv : bj.virt = true
      · rcases hok with hok | hok
        · exact .inl hok
        · rw [hv] at hok; cases hok.1
      · have hv : bj.virt = false := by simpa using hv
        by_cases hzx : z.blk = x.blk
        · obtain ⟨hr, hvd⟩ := hfr j bj z hj hz hv hzx
          rcases hvd with hvd | hvd
          · refine .inr ⟨hv, Covers.empty hvd, fun hr' => ?_⟩
            rw [hr] at hr'; cases hr'
          · by_cases hsz : bj.d.void
            · refine .inr ⟨hv, Covers.empty hsz, fun hr' => ?_⟩
              rw [hr] at hr'; cases hr'
            · have hlt' := hok.lt hv (.inr hsz)
              refine BlkOk.mono hext (hok.congr fun _ => ?_)
              rw [hzx] at hlt' ⊢
              exact hx hlt' hvd
        · by_cases hsz : bj.rw = true ∨ ¬ bj.d.void
          · exact BlkOk.mono hext (hok.congr fun _ => hw z.blk (hok.lt hv hsz) hzx)
          · have hr : bj.rw = false := by
              cases hq : bj.rw with
              | false => rfl
              | true => exact absurd (.inl hq) hsz
            have hvd : bj.d.void := by
              by_cases hq : bj.d.void
              · exact hq
              · exact absurd (.inr hq) hsz
            refine .inr ⟨hv, Covers.empty hvd, fun hr' => ?_⟩
            rw [hr] at hr'; cases hr'
    · exact ⟨x, by simp [upd], hb⟩
  · rcases split_at hi with ⟨hli, hi2⟩ | ⟨rfl, rfl⟩ <;> rcases split_at hj with ⟨hlj, hj2⟩ | ⟨rfl, rfl⟩
    · exact h.sep i j bi bj y z hi2 hj2 hne (old hli hy) (old hlj hz) hrw hvi hvj hyz
    · have := new hz
      subst this
      have := (hfr i bi y hi2 (old hli hy) hvi hyz).1
      rw [hrw] at this; cases this
    · have := new hy
      subst this
      obtain ⟨h1, h2⟩ := hfr j bj z hj2 (old hlj hz) hvj hyz.symm
      exact ⟨h1, h2.resolve_right (by simp [hvi])⟩
    · exact absurd rfl hne

/-- What a block holds is turned. -/
theorem Rel.update (h : Rel P σ M w) {i : Nat} {b b' : Blk} {x : Bl} (hi : M.at i = some b) (hx : σ i = some x) (hrw : b.rw = true) (hv : b.virt = false)
    (hb : BlkOk P σ w' x b') (hrw' : b'.rw = true) (hw : ∀ k, k ≠ x.blk → w'.heap[k]? = w.heap[k]?) : Rel P σ (M.set i (some b')) w' := by
  have hil := Mem.at_lt hi
  have split_at : ∀ {j bj}, Mem.at (M.set i (some b')) j = some bj → (j ≠ i ∧ M.at j = some bj) ∨ (j = i ∧ bj = b') := by
    intro j bj hj
    rw [Mem.at_set hil] at hj
    split at hj
    · cases hj; exact .inr ⟨by omega, rfl⟩
    · exact .inl ⟨by omega, hj⟩
  refine ⟨fun j hj => h.dom j (by simpa using hj), fun j bj hj => ?_, fun i' j bi bj y z hi' hj hne hy hz hr hvi hvj hyz => ?_⟩
  · rcases split_at hj with ⟨hne, hj⟩ | ⟨rfl, rfl⟩
    · obtain ⟨z, hz, hok⟩ := h.blk j bj hj
      refine ⟨z, hz, ?_⟩
      by_cases hvj : bj.virt = true
      · rcases hok with hok | hok
        · exact .inl hok
        · rw [hvj] at hok; cases hok.1
      · have hvj : bj.virt = false := by simpa using hvj
        by_cases hzx : z.blk = x.blk
        · obtain ⟨h1, h2⟩ := h.sep i j b bj x z hi hj (Ne.symm hne) hx hz hrw hv hvj hzx.symm
          refine .inr ⟨hvj, Covers.empty h2, fun hr' => ?_⟩
          rw [h1] at hr'; cases hr'
        · exact hok.congr fun _ => hw _ hzx
    · exact ⟨x, hx, hb⟩
  · have wasi : ∀ {j bj}, (j ≠ i ∧ M.at j = some bj) ∨ (j = i ∧ bj = b') → bj.rw = true → bj.virt = false → ∃ c, M.at j = some c ∧ c.rw = true ∧ c.virt = false := by
      intro j bj hj h1 h2
      rcases hj with ⟨_, hj⟩ | ⟨rfl, rfl⟩
      · exact ⟨bj, hj, h1, h2⟩
      · exact ⟨b, hi, hrw, hv⟩
    obtain ⟨c, hc, hc1, hc2⟩ := wasi (split_at hi') hr hvi
    rcases split_at hj with ⟨hne', hj⟩ | ⟨rfl, rfl⟩
    · exact h.sep i' j c bj y z hc hj hne hy hz hc1 hc2 hvj hyz
    · have := (h.sep i' j c b y z hc hi hne hy hz hc1 hc2 hv hyz).1
      rw [hrw] at this; cases this
end
end Go.Proofs.Ytonhkbgielilbaa.Rig
