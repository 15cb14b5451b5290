/- A reckoner over Go's operations: its memory's pieces. -/
import Derived.Test.YtonhkbgielilbaaR3
namespace Go.Proofs.Ytonhkbgielilbaa.Rig
open Go

def Imp (a b : AV) : Prop := ∀ σ v, Rep σ a v → Rep σ b v
theorem Imp.refl (a : AV) : Imp a a := fun _ _ h => h
theorem Imp.int {k : IntKind} {c c' : Bool} {n : Int} : Imp (.int k c n) (.int k c' n) := fun _ _ h => by simpa only [Rep] using h

theorem intsOf_get {k : IntKind} : ∀ {l : List AV} {ns : List Int}, intsOf k l = some ns → l.length = ns.length ∧ ∀ i : Nat, ∀ n, ns[i]? = some n → ∃ c, l[i]? = some (.int k c n)
  | [], ns, h => by simp only [intsOf, Option.some.injEq] at h; subst h; simp
  | a :: l, ns, h => by
    cases a <;> simp only [intsOf] at h <;> try cases h
    rename_i k' c n
    split at h
    · rename_i hk
      have hk : k' = k := by simpa using hk
      subst hk
      obtain ⟨ms, hms, rfl⟩ := Option.map_eq_some_iff.1 h
      obtain ⟨h1, h2⟩ := intsOf_get hms
      refine ⟨by simp [h1], fun i m hi => ?_⟩
      cases i with
      | zero => simp at hi; subst hi; exact ⟨c, rfl⟩
      | succ i => simpa using h2 i m (by simpa using hi)
    · cases h
theorem intsOf_getD {k : IntKind} {l : List AV} {ns : List Int} (h : intsOf k l = some ns) {i : Nat} (hi : i < l.length) : ∃ c, l[i]? = some (.int k c (ns.getD i 0)) := by
  obtain ⟨h1, h2⟩ := intsOf_get h
  have : ns[i]? = some (ns.getD i 0) := by
    rw [List.getD_eq_getElem?_getD, List.getElem?_eq_getElem (by omega)]; rfl
  exact h2 i _ this

theorem kind_ints {l : List AV} {k : IntKind} {ns : List Int} (h : ((kindOf l).bind fun k => (intsOf k l).map fun ns => (k, ns)) = some (k, ns)) : intsOf k l = some ns := by
  obtain ⟨k', hk, h2⟩ := Option.bind_eq_some_iff.1 h
  obtain ⟨ns', h3, h4⟩ := Option.map_eq_some_iff.1 h2
  cases h4
  exact h3

theorem read_ok {d : Data} {r : Ref} {n : Nat} {l : List AV} (h : (d.read r n).runs l) :
    l.length = n ∧ ∀ (j : Nat) a, l[j]? = some a → ∃ a', d.get? (r.pos + j) = some a' ∧ Imp a' a := by
  cases d with
  | cells cs =>
    simp only [Data.read] at h
    split at h
    · rename_i hw
      have hp : r.pos = r.off := by simp [Ref.pos, hw]
      split at h
      · rename_i hd
        have hd : r.off + n ≤ cs.length := by simpa using hd
        simp only [Tree.runs] at h
        subst h
        refine ⟨by simp; omega, fun j a hj => ⟨a, ?_, Imp.refl a⟩⟩
        rw [List.getElem?_take] at hj
        split at hj
        · rw [List.getElem?_drop] at hj
          simpa [Data.get?, hp] using hj
        · cases hj
      · exact h.elim
    · split at h
      · rename_i k ns hk
        have hk := kind_ints hk
        simp only [Tree.runs, decide_eq_true_eq, decide_eq_false_iff_not, Nat.not_le] at h
        obtain ⟨h1, h2⟩ := h
        have hle : r.pos + n ≤ cs.length := by
          rcases Nat.lt_or_ge cs.length (r.pos + n) with h' | h'
          · exact (h2 h').elim
          · exact h'
        have h1 := h1 hle
        subst h1
        refine ⟨by simp, fun j a hj => ?_⟩
        simp only [List.getElem?_map, Option.map_eq_some_iff] at hj
        obtain ⟨j', hj', rfl⟩ := hj
        obtain ⟨hjn, rfl⟩ := List.getElem?_eq_some_iff.1 hj'
        simp only [List.length_range] at hjn
        simp only [List.getElem_range]
        obtain ⟨c, hc⟩ := intsOf_getD hk (i := r.pos + j) (by omega)
        exact ⟨_, by simpa [Data.get?] using hc, Imp.int⟩
      · exact h.elim
  | ints k cs =>
    simp only [Data.read, Tree.runs, decide_eq_true_eq, decide_eq_false_iff_not, Nat.not_le] at h
    obtain ⟨h1, h2⟩ := h
    have hle : r.pos + n ≤ cs.length := by
      rcases Nat.lt_or_ge cs.length (r.pos + n) with h' | h'
      · exact (h2 h').elim
      · exact h'
    have h1 := h1 hle
    subst h1
    refine ⟨by simp, fun j a hj => ?_⟩
    simp only [List.getElem?_map, Option.map_eq_some_iff] at hj
    obtain ⟨j', hj', rfl⟩ := hj
    obtain ⟨hjn, rfl⟩ := List.getElem?_eq_some_iff.1 hj'
    simp only [List.length_range] at hjn
    simp only [List.getElem_range]
    refine ⟨_, ?_, Imp.refl _⟩
    simp only [Data.get?, List.getD_eq_getElem?_getD, List.getElem?_eq_getElem (show r.pos + j < cs.length by omega)]
    rfl
  | tab sz m f =>
    simp only [Data.read] at h
    split at h
    · rename_i hw
      have hp : r.pos = r.off := by simp [Ref.pos, hw]
      simp only [Tree.runs, decide_eq_true_eq, decide_eq_false_iff_not, Nat.not_lt] at h
      obtain ⟨h1, h2⟩ := h
      have hlt : r.off / sz < m := by
        rcases Nat.lt_or_ge (r.off / sz) m with h' | h'
        · exact h'
        · exact (h2 h').elim
      have h1 := h1 hlt
      split at h1
      · rename_i hd
        obtain ⟨hd, hf⟩ : r.off % sz + n ≤ (f (r.off / sz)).length ∧ (f (r.off / sz)).length = sz := by simpa using hd
        simp only [Tree.runs] at h1
        subst h1
        refine ⟨by simp; omega, fun j a hj => ⟨a, ?_, Imp.refl a⟩⟩
        rw [List.getElem?_take] at hj
        split at hj
        · rename_i hjn
          rw [List.getElem?_drop] at hj
          have hsz : 0 < sz := by
            have := (List.getElem?_eq_some_iff.1 hj).1
            omega
          have hdm := Nat.div_add_mod r.off sz
          have hd1 : (r.off + j) / sz = r.off / sz := by
            rw [show r.off + j = (r.off % sz + j) + sz * (r.off / sz) by omega, Nat.add_mul_div_left _ _ hsz, Nat.div_eq_of_lt (by omega)]; omega
          have hd2 : (r.off + j) % sz = r.off % sz + j := by
            rw [show r.off + j = (r.off % sz + j) + sz * (r.off / sz) by omega, Nat.add_mul_mod_self_left, Nat.mod_eq_of_lt (by omega)]
          have hlt2 : r.off + j < m * sz := by rw [← Nat.div_lt_iff_lt_mul hsz, hd1]; exact hlt
          simp only [Data.get?, hp]
          rw [if_pos hlt2, hd1, hd2]
          exact hj
        · cases hj
      · exact h1.elim
    · rename_i w hw
      split at h
      · rename_i hd
        obtain ⟨hw1, hd, hf⟩ : w + 1 = sz ∧ r.off + n ≤ (f r.row).length ∧ (f r.row).length = sz := by simpa using hd
        simp only [Tree.runs, decide_eq_true_eq, decide_eq_false_iff_not, Nat.not_lt] at h
        obtain ⟨h1, h2⟩ := h
        have hlt : r.row < m := by
          rcases Nat.lt_or_ge r.row m with h' | h'
          · exact h'
          · exact (h2 h').elim
        have h1 := h1 hlt
        subst h1
        refine ⟨by simp; omega, fun j a hj => ⟨a, ?_, Imp.refl a⟩⟩
        rw [List.getElem?_take] at hj
        split at hj
        · rename_i hjn
          rw [List.getElem?_drop] at hj
          have hsz : 0 < sz := by omega
          have hp : r.pos = r.off + sz * r.row := by simp only [Ref.pos, hw]; rw [show w.succ = sz from hw1, Nat.mul_comm]; omega
          have hd1 : (r.pos + j) / sz = r.row := by
            rw [show r.pos + j = (r.off + j) + sz * r.row by omega, Nat.add_mul_div_left _ _ hsz, Nat.div_eq_of_lt (by omega)]; omega
          have hd2 : (r.pos + j) % sz = r.off + j := by
            rw [show r.pos + j = (r.off + j) + sz * r.row by omega, Nat.add_mul_mod_self_left, Nat.mod_eq_of_lt (by omega)]
          have hlt2 : r.pos + j < m * sz := by rw [← Nat.div_lt_iff_lt_mul hsz, hd1]; exact hlt
          simp only [Data.get?]
          rw [if_pos hlt2, hd1, hd2]
          exact hj
        · cases hj
      · exact h.elim

theorem get?_lt {d : Data} {j : Nat} {a : AV} (h : d.get? j = some a) : j < d.size := by
  cases d with
  | cells l => exact (List.getElem?_eq_some_iff.1 h).1
  | ints k l =>
    simp only [Data.get?, Option.map_eq_some_iff] at h
    obtain ⟨n, hn, _⟩ := h
    exact (List.getElem?_eq_some_iff.1 hn).1
  | tab sz n f =>
    simp only [Data.get?] at h
    split at h
    · rename_i h'; exact h'
    · cases h

theorem write_ok {d d' : Data} {r : Ref} {vs : List AV} (h : (d.write r vs).runs d') :
    d'.size = d.size ∧ r.pos + vs.length ≤ d.size ∧
    ∀ (j : Nat) a, d'.get? j = some a → (r.pos ≤ j ∧ j < r.pos + vs.length ∧ ∃ a', vs[j - r.pos]? = some a' ∧ Imp a' a) ∨ ((j < r.pos ∨ r.pos + vs.length ≤ j) ∧ ∃ a', d.get? j = some a' ∧ Imp a' a) := by
  cases d with
  | cells cs =>
    simp only [Data.write] at h
    split at h
    · rename_i hw
      have hp : r.pos = r.off := by simp [Ref.pos, hw]
      split at h
      · rename_i hd
        have hd : r.off + vs.length ≤ cs.length := by simpa using hd
        simp only [Tree.runs] at h
        subst h
        refine ⟨by simp [Data.size]; omega, by simpa [Data.size, hp] using hd, fun j a hj => ?_⟩
        simp only [Data.get?, hp] at hj ⊢
        by_cases h1 : j < r.off
        · rw [List.getElem?_append_left (by simp; omega), List.getElem?_take, if_pos h1] at hj
          exact .inr ⟨.inl h1, a, hj, Imp.refl a⟩
        · rw [List.getElem?_append_right (by simp; omega)] at hj
          have hl : (cs.take r.off).length = r.off := by simp; omega
          rw [hl] at hj
          by_cases h2 : j - r.off < vs.length
          · rw [List.getElem?_append_left h2] at hj
            exact .inl ⟨by omega, by omega, a, hj, Imp.refl a⟩
          · rw [List.getElem?_append_right (by omega), List.getElem?_drop] at hj
            refine .inr ⟨.inr (by omega), a, ?_, Imp.refl a⟩
            rw [← hj]; congr 1; omega
      · exact h.elim
    · split at h
      · rename_i k ns ms hk
        obtain ⟨k', hk1, hk2⟩ := Option.bind_eq_some_iff.1 hk
        obtain ⟨ns', hk3, hk4⟩ := Option.bind_eq_some_iff.1 hk2
        obtain ⟨ms', hk5, hk6⟩ := Option.map_eq_some_iff.1 hk4
        cases hk6
        simp only [Tree.runs, decide_eq_true_eq, decide_eq_false_iff_not, Nat.not_le] at h
        obtain ⟨h1, h2⟩ := h
        have hle : r.pos + vs.length ≤ cs.length := by
          rcases Nat.lt_or_ge cs.length (r.pos + vs.length) with h' | h'
          · exact (h2 h').elim
          · exact h'
        have h1 := h1 hle
        subst h1
        refine ⟨by simp [Data.size], by simpa [Data.size] using hle, fun j a hj => ?_⟩
        simp only [Data.get?, List.getElem?_map, Option.map_eq_some_iff] at hj
        obtain ⟨j', hj', rfl⟩ := hj
        obtain ⟨hjn, rfl⟩ := List.getElem?_eq_some_iff.1 hj'
        simp only [List.length_range] at hjn
        simp only [List.getElem_range]
        by_cases hin : r.pos ≤ j ∧ j < r.pos + vs.length
        · obtain ⟨c, hc⟩ := intsOf_getD hk5 (i := j - r.pos) (by omega)
          refine .inl ⟨hin.1, hin.2, _, hc, ?_⟩
          simp only [hin, and_self, decide_true, cond_true]
          exact Imp.int
        · obtain ⟨c, hc⟩ := intsOf_getD hk3 (i := j) (by omega)
          refine .inr ⟨by omega, _, hc, ?_⟩
          simp only [hin, decide_false, cond_false]
          exact Imp.int
      · exact h.elim
  | ints k cs =>
    simp only [Data.write] at h
    split at h
    · rename_i n hn
      simp only [Tree.runs, decide_eq_true_eq, decide_eq_false_iff_not, Nat.not_lt] at h
      obtain ⟨h1, h2⟩ := h
      have hle : r.pos < cs.length := by
        rcases Nat.lt_or_ge r.pos cs.length with h' | h'
        · exact h'
        · exact (h2 h').elim
      have h1 := h1 hle
      subst h1
      obtain ⟨hl, hg⟩ := intsOf_get hn
      simp only [List.length_singleton] at hl
      refine ⟨by simp [Data.size], by simp only [Data.size]; omega, fun j a hj => ?_⟩
      simp only [Data.get?, List.getElem?_set, hle, if_true, Option.map_eq_some_iff] at hj
      obtain ⟨m, hm, rfl⟩ := hj
      split at hm
      · rename_i hpj
        subst hpj
        cases hm
        obtain ⟨c, hc⟩ := hg 0 n rfl
        exact .inl ⟨Nat.le_refl _, by omega, _, by simpa using hc, Imp.int⟩
      · refine .inr ⟨by omega, _, by simp [Data.get?, hm], Imp.refl _⟩
    · exact h.elim
  | tab sz m f => exact h.elim

theorem append_ok {d e d' : Data} (h : d.append e = some d') :
    d'.size = d.size + e.size ∧ ∀ (j : Nat) a, d'.get? j = some a → (j < d.size ∧ ∃ a', d.get? j = some a' ∧ Imp a' a) ∨ (d.size ≤ j ∧ ∃ a', e.get? (j - d.size) = some a' ∧ Imp a' a) := by
  cases d <;> cases e <;> simp only [Data.append] at h <;> try cases h
  case cells.cells l m =>
    refine ⟨by simp [Data.size], fun j a hj => ?_⟩
    simp only [Data.get?, Data.size] at hj ⊢
    by_cases hlt : j < l.length
    · rw [List.getElem?_append_left hlt] at hj; exact .inl ⟨hlt, a, hj, Imp.refl a⟩
    · rw [List.getElem?_append_right (by omega)] at hj; exact .inr ⟨by omega, a, hj, Imp.refl a⟩
  case cells.ints l k m =>
    obtain ⟨l', hl', rfl⟩ := Option.map_eq_some_iff.1 h
    obtain ⟨h1, h2⟩ := intsOf_get hl'
    refine ⟨by simp [Data.size, h1], fun j a hj => ?_⟩
    simp only [Data.get?, Data.size, Option.map_eq_some_iff] at hj ⊢
    obtain ⟨n, hn, rfl⟩ := hj
    by_cases hlt : j < l.length
    · rw [List.getElem?_append_left (by omega)] at hn
      obtain ⟨c, hc⟩ := h2 j n hn
      exact .inl ⟨hlt, _, hc, Imp.int⟩
    · rw [List.getElem?_append_right (by omega), ← h1] at hn
      exact .inr ⟨by omega, _, ⟨n, hn, rfl⟩, Imp.refl _⟩
  case ints.cells k l m =>
    obtain ⟨m', hm', rfl⟩ := Option.map_eq_some_iff.1 h
    obtain ⟨h1, h2⟩ := intsOf_get hm'
    refine ⟨by simp [Data.size, h1], fun j a hj => ?_⟩
    simp only [Data.get?, Data.size, Option.map_eq_some_iff] at hj ⊢
    obtain ⟨n, hn, rfl⟩ := hj
    by_cases hlt : j < l.length
    · rw [List.getElem?_append_left hlt] at hn
      exact .inl ⟨hlt, _, ⟨n, hn, rfl⟩, Imp.refl _⟩
    · rw [List.getElem?_append_right (by omega)] at hn
      obtain ⟨c, hc⟩ := h2 _ n hn
      exact .inr ⟨by omega, _, hc, Imp.int⟩
  case ints.ints k l k' m =>
    split at h
    · rename_i hk
      have hk : k' = k := by simpa using hk
      subst hk
      cases h
      refine ⟨by simp [Data.size], fun j a hj => ?_⟩
      simp only [Data.get?, Data.size, Option.map_eq_some_iff] at hj ⊢
      obtain ⟨n, hn, rfl⟩ := hj
      by_cases hlt : j < l.length
      · rw [List.getElem?_append_left hlt] at hn
        exact .inl ⟨hlt, _, ⟨n, hn, rfl⟩, Imp.refl _⟩
      · rw [List.getElem?_append_right (by omega)] at hn
        exact .inr ⟨by omega, _, ⟨n, hn, rfl⟩, Imp.refl _⟩
    · cases h
  case tab.cells sz n f m =>
    split at h
    · rename_i hd
      obtain ⟨hm, hsz⟩ : m.length = sz ∧ 0 < sz := by simpa using hd
      cases h
      refine ⟨by simp only [Data.size, hm, Nat.succ_mul], fun j a hj => ?_⟩
      simp only [Data.get?, Data.size] at hj ⊢
      split at hj
      · rename_i hlt
        by_cases hn : j < n * sz
        · have hq : j / sz < n := (Nat.div_lt_iff_lt_mul hsz).2 hn
          simp only [hq, decide_true, cond_true] at hj
          exact .inl ⟨hn, a, by rw [if_pos hn]; exact hj, Imp.refl a⟩
        · have hq : ¬ j / sz < n := fun h => hn ((Nat.div_lt_iff_lt_mul hsz).1 h)
          simp only [hq, decide_false, cond_false] at hj
          refine .inr ⟨by omega, a, ?_, Imp.refl a⟩
          have hq2 : j / sz < n + 1 := (Nat.div_lt_iff_lt_mul hsz).2 hlt
          have hq3 : j / sz = n := by omega
          have := Nat.div_add_mod j sz
          rw [hq3, Nat.mul_comm] at this
          rw [show j - n * sz = j % sz by omega]
          exact hj
      · cases hj
    · cases h

theorem piece_ok {d e : Data} {r : Ref} {c : Bool} {n : Nat} (h : d.piece r c n = some e) :
    ∀ (j : Nat) a, e.get? j = some a → ∃ a', d.get? (r.pos + j) = some a' ∧ Imp a' a := by
  cases d with
  | cells cs =>
    have key : ∀ {e}, ((kindOf cs).bind fun k => (intsOf k cs).map fun ns => Data.ints k ((ns.drop r.pos).take n)) = some e → ∀ (j : Nat) a, e.get? j = some a → ∃ a', (Data.cells cs).get? (r.pos + j) = some a' ∧ Imp a' a := by
      intro e h j a hj
      obtain ⟨k, _, h2⟩ := Option.bind_eq_some_iff.1 h
      obtain ⟨ns, h3, rfl⟩ := Option.map_eq_some_iff.1 h2
      simp only [Data.get?, Option.map_eq_some_iff] at hj
      obtain ⟨m, hm, rfl⟩ := hj
      rw [List.getElem?_take] at hm
      split at hm
      · rw [List.getElem?_drop] at hm
        obtain ⟨c, hc⟩ := (intsOf_get h3).2 _ m hm
        exact ⟨_, hc, Imp.int⟩
      · cases hm
    simp only [Data.piece] at h
    split at h
    · rename_i hw
      split at h
      · cases h
        intro j a hj
        simp only [Data.get?] at hj ⊢
        rw [List.getElem?_take] at hj
        split at hj
        · rw [List.getElem?_drop] at hj
          exact ⟨a, by simpa [Ref.pos, hw] using hj, Imp.refl a⟩
        · cases hj
      · cases h
    · exact key h
  | ints k cs =>
    simp only [Data.piece, Option.some.injEq] at h
    subst h
    intro j a hj
    simp only [Data.get?, Option.map_eq_some_iff] at hj ⊢
    obtain ⟨m, hm, rfl⟩ := hj
    rw [List.getElem?_take] at hm
    split at hm
    · rw [List.getElem?_drop] at hm
      exact ⟨_, ⟨m, hm, rfl⟩, Imp.refl _⟩
    · cases hm
  | tab sz m f =>
    simp only [Data.piece] at h
    split at h
    · rename_i hw ho
      split at h
      · cases h
        intro j a hj
        simp only [Data.get?] at hj ⊢
        split at hj
        · rename_i hlt
          refine ⟨a, ?_, Imp.refl a⟩
          rw [show r.pos + j = j by simp [Ref.pos, hw, ho]]
          rw [if_pos (Nat.lt_of_lt_of_le hlt (Nat.mul_le_mul_right _ (Nat.min_le_left _ _)))]
          exact hj
        · cases hj
      · cases h
    · cases h
end Go.Proofs.Ytonhkbgielilbaa.Rig
