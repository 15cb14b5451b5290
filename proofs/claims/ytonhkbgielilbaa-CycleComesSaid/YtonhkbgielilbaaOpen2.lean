/- A struct or an array of whole numbers, bools, strings and slices, by value: its cells, one by one. -/
import Derived.ProofKit
import Derived.OpenShut
import Derived.SizedLaws
import Derived.Deep.Slices
import Derived.ChangeOld
import Derived.Below
import Derived.ShutString
namespace Go.Proofs.Ytonhkbgielilbaa.Open
open Go Go.RowKit

/-- How many times a list. -/
def reps {α : Type} (l : List α) : Nat → List α
  | 0 => []
  | n + 1 => l ++ reps l n

mutual
/-- The types of a value's cells, in order, where all are whole numbers, bools, strings or slices, and nothing lies between. -/
def flat (P : Program) : Nat → TypeId → Option (List TypeId)
  | 0, _ => none
  | n + 1, t => match P.underlying t with
    | some (.struct fs) => (flatFields P n 0 fs.toList).bind fun l => if l.length = P.cellsOf t then some l else none
    | some (.array k e) => (flat P n e).bind fun l => if l.length = P.cellsOf e ∧ P.cellsOf t = k * P.cellsOf e then some (reps l k) else none
    | some (.int _) => some [t]
    | some .bool => some [t]
    | some .string => some [t]
    | some (.slice _) => some [t]
    | _ => none
def flatFields (P : Program) : Nat → Nat → List Field → Option (List TypeId)
  | 0, _, _ => none
  | _ + 1, _, [] => some []
  | n + 1, at_, f :: fs => if f.offset = at_ then (flat P n f.type).bind fun l => if l.length = P.cellsOf f.type then (flatFields P n (at_ + l.length) fs).map (l ++ ·) else none else none
end

section
variable {H : Type} {enc : TypeId × Value → H} {P : Program} {w : World} {base : Nat} {spare : Nat → Bool} {held : Bool}

/-- Each cell reads as its type. -/
def Cells (enc : TypeId × Value → H) (P : Program) (w : World) (base : Nat) (spare : Nat → Bool) (held : Bool) : List TypeId → List Value → Prop
  | [], cs => cs = []
  | t :: ts, cs => ∃ v r, cs = v :: r ∧ (∃ m y, DataW.trod enc P w base spare held m t [v] = some y) ∧ Cells enc P w base spare held ts r

theorem Cells.append {ts us : List TypeId} : ∀ {cs ds : List Value}, Cells enc P w base spare held ts cs → Cells enc P w base spare held us ds → Cells enc P w base spare held (ts ++ us) (cs ++ ds) := by
  induction ts with
  | nil => intro cs ds h k; cases h; exact k
  | cons t ts ih =>
    intro cs ds h k
    obtain ⟨v, r, rfl, h1, h2⟩ := h
    exact ⟨v, r ++ ds, rfl, h1, ih h2 k⟩
theorem Cells.length {ts : List TypeId} : ∀ {cs : List Value}, Cells enc P w base spare held ts cs → cs.length = ts.length := by
  induction ts with
  | nil => intro cs h; cases h; rfl
  | cons t ts ih => intro cs h; obtain ⟨v, r, rfl, _, h2⟩ := h; simp [ih h2]

theorem Cells.reps {l : List TypeId} {e : TypeId} : ∀ (k : Nat) (cs : List Value), cs.length = k * P.cellsOf e →
    (∀ i, i < k → Cells enc P w base spare held l ((cs.drop (i * P.cellsOf e)).take (P.cellsOf e))) → Cells enc P w base spare held (reps l k) cs := by
  intro k
  induction k with
  | zero => intro cs hl _; simp at hl; subst hl; exact rfl
  | succ k ih =>
    intro cs hl h
    have h0 := h 0 (by omega)
    rw [Nat.zero_mul, List.drop_zero] at h0
    have h1 : Cells enc P w base spare held (Open.reps l k) (cs.drop (P.cellsOf e)) := by
      refine ih _ (by rw [List.length_drop, hl, Nat.succ_mul]; omega) (fun i hi => ?_)
      have := h (i + 1) (by omega)
      rw [List.drop_drop, show P.cellsOf e + i * P.cellsOf e = (i + 1) * P.cellsOf e by rw [Nat.succ_mul]; omega]
      exact this
    have := Cells.append h0 h1
    rw [List.take_append_drop] at this
    exact this

theorem Cells.one {t : TypeId} {fuel : Nat} {cs : List Value} {x : DataW H × List MemPlace} (h : DataW.trod enc P w base spare held fuel t cs = some x) (hl : ∃ v, cs = [v]) : Cells enc P w base spare held [t] cs := by
  obtain ⟨v, rfl⟩ := hl
  exact ⟨v, [], rfl, ⟨fuel, x, h⟩, rfl⟩

/-- What reads as such a type has these cells. -/
theorem flat_open : ∀ n,
    (∀ (t : TypeId) (ts : List TypeId) (fuel : Nat) (cs : List Value) (x : DataW H × List MemPlace), flat P n t = some ts → DataW.trod enc P w base spare held fuel t cs = some x → Cells enc P w base spare held ts cs) ∧
    (∀ (at_ : Nat) (fs : List Field) (ts : List TypeId) (fuel : Nat) (cs : List Value), flatFields P n at_ fs = some ts →
      (∀ (i : Nat) (f : Field), fs[i]? = some f → ∃ y, DataW.trod enc P w base spare held fuel f.type ((cs.drop f.offset).take (P.cellsOf f.type)) = some y) →
      Cells enc P w base spare held ts ((cs.drop at_).take ts.length)) := by
  intro n
  induction n with
  | zero => exact ⟨fun t ts fuel cs x h => by simp [flat] at h, fun at_ fs ts fuel cs h => by simp [flatFields] at h⟩
  | succ n ih =>
    refine ⟨?_, ?_⟩
    · intro t ts fuel cs x h hx
      simp only [flat] at h
      split at h
      · rename_i fs hu
        obtain ⟨xs, m, rfl, rfl, hl, hlen, hf⟩ := DataW.trod_struct hu hx
        obtain ⟨l, h1, h2⟩ := Option.bind_eq_some_iff.1 h
        split at h2
        rotate_left
        · cases h2
        rename_i hsz
        simp only [Option.some.injEq] at h2
        subst h2
        have k := ih.2 0 fs.toList l m cs h1 (fun i f hi => by
          have hi' : fs[i]? = some f := by simpa using hi
          have hlt : i < fs.size := (Array.getElem?_eq_some_iff.1 hi').1
          refine ⟨xs[i]'(by omega), ?_⟩
          rw [hf i f hi', List.getElem?_eq_getElem])
        rw [List.drop_zero] at k
        rw [List.take_of_length_le (by omega)] at k
        exact k
      · rename_i k e hu
        obtain ⟨xs, m, rfl, rfl, hl, hlen, hf⟩ := DataW.trod_array hu hx
        obtain ⟨l, h1, h2⟩ := Option.bind_eq_some_iff.1 h
        split at h2
        · rename_i hle
          simp only [Option.some.injEq] at h2
          subst h2
          refine Cells.reps (e := e) k cs (by rw [hl, hle.2]) (fun i hi => ih.1 e l m _ (xs[i]'(by omega)) h1 (by rw [hf i hi, List.getElem?_eq_getElem]))
        · cases h2
      · rename_i kk hu
        simp only [Option.some.injEq] at h; subst h
        obtain ⟨a, rfl, _⟩ := DataW.trod_int hu hx
        exact Cells.one hx ⟨_, rfl⟩
      · rename_i hu
        simp only [Option.some.injEq] at h; subst h
        obtain ⟨a, rfl, _⟩ := DataW.trod_bool hu hx
        exact Cells.one hx ⟨_, rfl⟩
      · rename_i hu
        simp only [Option.some.injEq] at h; subst h
        obtain ⟨a, rfl, _⟩ := DataW.trod_string hu hx
        exact Cells.one hx ⟨_, rfl⟩
      · rename_i e hu
        simp only [Option.some.injEq] at h; subst h
        rcases DataW.trod_slice hu hx with ⟨rfl, _⟩ | ⟨a, len, cap, _, _, _, _, rfl, _⟩
        · exact Cells.one hx ⟨_, rfl⟩
        · exact Cells.one hx ⟨_, rfl⟩
      · cases h
    · intro at_ fs ts fuel cs h hf
      cases fs with
      | nil =>
        simp only [flatFields, Option.some.injEq] at h
        subst h
        simp [Cells]
      | cons f fs =>
        simp only [flatFields] at h
        split at h
        · rename_i ho
          obtain ⟨l, h1, h2⟩ := Option.bind_eq_some_iff.1 h
          split at h2
          · rename_i hle
            obtain ⟨us, h3, h4⟩ := Option.map_eq_some_iff.1 h2
            subst h4
            obtain ⟨y, hy⟩ := hf 0 f rfl
            have k1 := ih.1 f.type l fuel _ y h1 hy
            have k2 := ih.2 (at_ + l.length) fs us fuel cs h3 (fun i g hi => hf (i + 1) g (by simpa using hi))
            have k := Cells.append k1 k2
            rw [ho, ← hle] at k
            have e : (cs.drop at_).take (l ++ us).length = (cs.drop at_).take l.length ++ (cs.drop (at_ + l.length)).take us.length := by
              rw [List.length_append, List.take_add, List.drop_drop]
            rw [e]
            exact k
          · cases h2
        · cases h

/-- A struct's cells. -/
theorem struct_cells {t : TypeId} {ts : List TypeId} {cs : Array Value} {d : DataW H} {p : List MemPlace} (n : Nat) (hf : flat P n t = some ts) (h : DataW.Trod enc P w base spare held t (.agg cs) d p) : Cells enc P w base spare held ts cs.toList := by
  obtain ⟨fuel, hx⟩ := h
  exact (flat_open n).1 t ts fuel _ _ hf hx

theorem list_of {α : Type} {Q : Nat → α → Prop} : ∀ n, (∀ i, i < n → ∃ x, Q i x) → ∃ l : List α, l.length = n ∧ ∀ i x, l[i]? = some x → Q i x
  | 0, _ => ⟨[], rfl, fun i x h => by simp at h⟩
  | n + 1, h => by
    obtain ⟨l, hl, hq⟩ := list_of n (fun i hi => h i (by omega))
    obtain ⟨x, hx⟩ := h n (by omega)
    refine ⟨l ++ [x], by simp [hl], fun i y hy => ?_⟩
    by_cases hi : i < n
    · rw [List.getElem?_append_left (by omega)] at hy
      exact hq i y hy
    · rw [List.getElem?_append_right (by omega)] at hy
      have : i = n := by
        have := (List.getElem?_eq_some_iff.1 hy).1
        simp at this
        omega
      subst this
      rw [hl] at hy
      simp at hy
      exact hy ▸ hx

/-- A slice of whole numbers, as the print's words take it. -/
theorem ints_open {t e : TypeId} {k : IntKind} {a : Option Addr} {len cap : Nat} {d : DataW H} {p : List MemPlace} (hu : P.underlying t = some (.slice e)) (he : P.underlying e = some (.int k)) (hc : P.cellsOf e = 1) (h : DataW.Trod enc P w base spare held t (.slice a len cap) d p) :
    ∃ zs : List Int, (a = none ∧ len = 0 ∧ cap = 0 ∧ zs = []) ∨ ∃ x, a = some x ∧ len ≤ cap ∧ cap ≤ maxLen ∧ zs.length = (if spare x.block then cap else len) ∧ (∀ i, i < zs.length → w.cell? (x.add i) = some (.int k (zs.getD i 0))) ∧ ∀ n ∈ zs, (Lit.int k n).wf = true := by
  obtain ⟨fuel, hf⟩ := h
  rcases Go.ChangeShapes.open_ints hu he hc hf with ⟨hcs, _⟩ | ⟨x, l, c, zs, hcs, _, hl, hm, hz, _, hcell, hwz⟩
  · simp [Value.cells] at hcs
    obtain ⟨rfl, rfl, rfl⟩ := hcs
    exact ⟨[], .inl ⟨rfl, rfl, rfl, rfl⟩⟩
  · simp [Value.cells] at hcs
    obtain ⟨rfl, rfl, rfl⟩ := hcs
    exact ⟨zs, .inr ⟨_, rfl, hl, hm, hz, hcell, hwz⟩⟩
end
end Go.Proofs.Ytonhkbgielilbaa.Open
