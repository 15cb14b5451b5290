/- What crc.On answers, where its table lies as its initialiser laid it. -/
import Derived.Test.YtfebnnjdkkcphaaDoorProg
import Derived.WalkKit
import Derived.WalkSpells
import Derived.WalkLawsBesides
import Derived.RegionTactic
import Derived.ChangeAlike
import Derived.Deep.QuietTactic
import Derived.BigQuiet
import Derived.Lib.Hide
import Derived.Laws.BitsLemmas
import Derived.Test.YtfebnnjdkkcphaaDoorWWords
namespace Go.Proofs.YtfebnnjdkkcphaaDoor.Hand
open Go.RowKit Go.Proofs.YtfebnnjdkkcphaaDoorW.PrintWords

set_option linter.unusedVariables false
def nibs : List Int := [0, 4129, 8258, 12387, 16516, 20645, 24774, 28903, 33032, 37161, 41290, 45419, 49548, 53677, 57806, 61935]
def nib (i : Int) : Int := nibs.getD i.toNat 0
/-- The table lies where it lay. -/
structure Tab (w : World) : Prop where
  at_ : ∀ i : Int, 0 ≤ i → i < 16 → w.cell? ⟨0, i.toNat, none⟩ = some (.int .i64 (nib i))
theorem Tab.size {w : World} (h : Tab w) : 0 < w.heap.size := World.block_lt_of_cell? w ⟨0, 0, none⟩ (h.at_ 0 (by omega) (by omega))
theorem Tab.below {w w' : World} (h : Tab w) (hb : Below w.heap.size w w') : Tab w' :=
  ⟨fun i h0 h1 => (hb.cell (p := ⟨0, i.toNat, none⟩) h.size).trans (h.at_ i h0 h1)⟩

theorem and16 (x : Int) : bits BinOp.and IntKind.i64 x 65535 = x % 65536 := by
  simp only [bits, BitVec.toNat_and, BitVec.toNat_ofInt, IntKind.wrap_i64]
  have : ((65535 : Int) % ((2 : Nat) ^ IntKind.i64.bits : Nat)).toNat = 2 ^ 16 - 1 := by decide
  rw [this, Nat.and_two_pow_sub_one_eq_mod]
  simp only [IntKind.bits]
  omega
theorem xor16 (a b : Int) (ha : 0 ≤ a) (ha1 : a < 65536) (hb : 0 ≤ b) (hb1 : b < 65536) : bits BinOp.xor IntKind.i64 a b = ((a.toNat ^^^ b.toNat : Nat) : Int) := by
  have hx : a.toNat ^^^ b.toNat < 2 ^ 16 := Nat.xor_lt_two_pow (by omega) (by omega)
  simp only [bits, BitVec.toNat_xor, BitVec.toNat_ofInt, IntKind.wrap_i64]
  have e1 : (a % ((2 : Nat) ^ IntKind.i64.bits : Nat)).toNat = a.toNat := by simp only [IntKind.bits]; omega
  have e2 : (b % ((2 : Nat) ^ IntKind.i64.bits : Nat)).toNat = b.toNat := by simp only [IntKind.bits]; omega
  rw [e1, e2]
  omega
theorem xor16_in (a b : Int) (ha : 0 ≤ a) (ha1 : a < 65536) (hb : 0 ≤ b) (hb1 : b < 65536) : 0 ≤ ((a.toNat ^^^ b.toNat : Nat) : Int) ∧ ((a.toNat ^^^ b.toNat : Nat) : Int) < 65536 := by
  have hx : a.toNat ^^^ b.toNat < 2 ^ 16 := Nat.xor_lt_two_pow (by omega) (by omega)
  omega
theorem nib_in (i : Int) : 0 ≤ nib i ∧ nib i < 65536 := by
  have : ∀ k : Nat, 0 ≤ nibs.getD k 0 ∧ nibs.getD k 0 < 65536 := by
    intro k
    by_cases h : k < 16
    · have : ∀ k : Fin 16, 0 ≤ nibs.getD k.val 0 ∧ nibs.getD k.val 0 < 65536 := by decide
      exact this ⟨k, h⟩
    · have : nibs.getD k 0 = 0 := by simp only [nibs, List.getD_eq_getElem?_getD]; rw [List.getElem?_eq_none (by simp; omega)]; rfl
      omega
  exact this _
/-- Four bits. -/
def rndZ (s : Int) : Int := (((s * 16 % 65536).toNat ^^^ (nib (s / 4096)).toNat : Nat) : Int)
theorem rndZ_in (s : Int) : 0 ≤ rndZ s ∧ rndZ s < 65536 := xor16_in _ _ (by omega) (by omega) (nib_in _).1 (nib_in _).2
theorem rndZ_walk (s : Int) : bits BinOp.xor IntKind.i64 (bits BinOp.and IntKind.i64 (s * 16) 65535) (nib (s / 4096)) = rndZ s := by
  rw [and16, xor16 _ _ (by omega) (by omega) (nib_in _).1 (nib_in _).2]
  rfl
def iter : Nat → Int → Int
  | 0, s => s
  | n + 1, s => rndZ (iter n s)
theorem iter_in (n : Nat) (s : Int) (h0 : 0 ≤ s) (h1 : s < 65536) : 0 ≤ iter n s ∧ iter n s < 65536 := by
  cases n with
  | zero => exact ⟨h0, h1⟩
  | succ n => exact rndZ_in _
/-- A word. -/
def wordZ (s w : Int) : Int := iter 4 ((s.toNat ^^^ (w % 65536).toNat : Nat) : Int)
def onZ (s : Int) (l : List Int) : Int := l.foldl wordZ s
theorem wordZ_in (s w : Int) (h0 : 0 ≤ s) (h1 : s < 65536) : 0 ≤ wordZ s w ∧ wordZ s w < 65536 := rndZ_in _
theorem onZ_in (l : List Int) : ∀ s, 0 ≤ s → s < 65536 → 0 ≤ onZ s l ∧ onZ s l < 65536 := by
  induction l with
  | nil => intro s h0 h1; exact ⟨h0, h1⟩
  | cons x l ih => intro s h0 h1; exact ih _ (wordZ_in s x h0 h1).1 (wordZ_in s x h0 h1).2
theorem onZ_snoc (s : Int) (l : List Int) (x : Int) : onZ s (l ++ [x]) = wordZ (onZ s l) x := by simp [onZ]
theorem take_rd (l : List Int) (k : Nat) (h : k < l.length) : l.take (k + 1) = l.take k ++ [rd l (k : Int)] := by
  rw [List.take_succ_eq_append_getElem h]
  simp [rd, List.getElem?_eq_getElem h]

theorem val_eq {a b : Int} (h : a = b) : Value.int .i64 a = Value.int .i64 b := by rw [h]
theorem ret_eq {a b : Int} (h : a = b) : Ending.returned (.int .i64 a) = Ending.returned (.int .i64 b) := by rw [h]

set_option maxHeartbeats 1000000 in
theorem on_some (a0 : Int) (ad : Addr) (c1 : Nat) (l1 : List Int) (w : World) (hl : l1.length ≤ 9223372036854775807) (hT : Tab w)
   (hc : ∀ i : Nat, i < l1.length → w.cell? (ad.add i) = some (.int .i64 (rd l1 i))) :
    Calls Tryd.prog 9 #[.int .i64 a0, .slice (some ad) l1.length c1] w fun e w' => e = .returned (.int .i64 (onZ (a0 % 65536) l1)) ∧ w' = w := by
  have HT := Aside0.mk hT
  have HC := Aside0.mk hc
  clear hT hc
  have ham := and16 a0
  go_enter Tryd.func9, Tryd.ntmps9
  go_wp2
  go_loop [0, 11] (fun s i => ∃ (k : Nat) (x : Int), k ≤ l1.length ∧ 0 ≤ x ∧ x < 65536 ∧ i = .int .i64 k ∧ s = .int .i64 x ∧ Aside0 (x = onZ (a0 % 65536) (l1.take k))) (fun _ i => l1.length - (intOf i).toNat)
  case atStart => exact ⟨0, a0 % 65536, Nat.zero_le _, by omega, by omega, rfl, rfl, ⟨rfl⟩⟩
  case round =>
    obtain ⟨k, x, hk, hx0, hx1, rfl, rfl, HX⟩ := hrel
    by_cases hlt : k < l1.length
    · have hcell := HC.out k hlt
      have hw := and16 (rd l1 (k : Int))
      have hxo := xor16 x (rd l1 (k : Int) % 65536) hx0 hx1 (by omega) (by omega)
      have hxi := xor16_in x (rd l1 (k : Int) % 65536) hx0 hx1 (by omega) (by omega)
      have hgo : onZ (a0 % 65536) (l1.take (k + 1)) = iter 4 ((x.toNat ^^^ (rd l1 (k : Int) % 65536).toNat : Nat) : Int) := by
        rw [take_rd l1 k hlt, onZ_snoc, ← HX.out]; rfl
      have HGO := Aside0.mk hgo
      clear hgo
      generalize ((x.toNat ^^^ (rd l1 (k : Int) % 65536).toNat : Nat) : Int) = z at *
      go_wp2
      clear hw hxo hcell
      go_loop [0, 19] (fun s i => ∃ (j : Nat) (y : Int), j ≤ 4 ∧ 0 ≤ y ∧ y < 65536 ∧ i = .int .i64 j ∧ s = .int .i64 y ∧ Aside0 (y = iter j z)) (fun _ i => 4 - (intOf i).toNat)
      case atStart => exact ⟨0, z, by omega, hxi.1, hxi.2, rfl, rfl, ⟨rfl⟩⟩
      case round =>
        obtain ⟨j, y, hj, hy0, hy1, rfl, rfl, HY⟩ := hrel
        by_cases hlt2 : j < 4
        · have hn := HT.out.at_ (y / 4096) (by omega) (by omega)
          have hr := rndZ_walk y
          have hri := rndZ_in y
          go_wp2
          go_round
          case rel => exact ⟨j + 1, rndZ y, by omega, hri.1, hri.2, by go_num, rfl, ⟨by rw [HY.out]; rfl⟩⟩
          case measure => simp [intOf]; omega
        · have hj4 : j = 4 := by omega
          have HJ := Aside0.mk hj4
          clear hj4
          go_wp2
          go_round
          case rel => exact ⟨k + 1, y, by omega, hy0, hy1, by go_num, rfl, ⟨by rw [HGO.out, HY.out, HJ.out]⟩⟩
          case measure => simp [intOf]; omega
    · have hfin : onZ (a0 % 65536) l1 = x := by rw [HX.out, List.take_of_length_le (by omega)]
      have HF := Aside0.mk hfin
      clear hfin
      go_wp2
      go_ret
      exact ⟨ret_eq HF.out.symm, rfl⟩

set_option maxHeartbeats 400000 in
theorem on_none (a0 : Int) (A1 : Option Addr) (c1 : Nat) (w : World) :
    Calls Tryd.prog 9 #[.int .i64 a0, .slice A1 0 c1] w fun e w' => e = .returned (.int .i64 (a0 % 65536)) ∧ w' = w := by
  have ham := and16 a0
  go_enter Tryd.func9, Tryd.ntmps9
  go_wp2
  go_loop [0, 11] (fun s i => i = .int .i64 0 ∧ s = .int .i64 (a0 % 65536)) (fun _ _ => 0)
  case atStart => exact ⟨rfl, rfl⟩
  case round =>
    obtain ⟨rfl, rfl⟩ := hrel
    go_wp2
    go_ret
    exact ⟨rfl, rfl⟩

def crc_On.f (a0 : Int) (l1 : List Int) : Option Int := some (onZ (a0 % 65536) l1)
theorem crc_On.calls (a0 : Int) (A1 : Option Addr) (c1 : Nat) (l1 : List Int) (r : Int) (w : World) (hr1 : Kd.C (Kd.int .i64) w A1 l1.length l1) (hc1 : l1.length ≤ c1) (hT : Tab w) (h : crc_On.f a0 l1 = some r) :
    Calls Tryd.prog 9 #[.int .i64 a0, .slice A1 l1.length c1] w fun e w' => e = .returned (.int .i64 r) ∧ Below w.heap.size w w' := by
  have hr : r = onZ (a0 % 65536) l1 := (Option.some.inj h).symm
  subst hr
  by_cases hl : l1.length = 0
  · have hn : l1 = [] := List.length_eq_zero_iff.1 hl
    subst hn
    refine (on_none a0 A1 c1 w).mono ?_
    rintro e w' ⟨rfl, rfl⟩
    exact ⟨rfl, Below.refl _ _⟩
  · obtain ⟨ad, rfl, _⟩ := Kd.at_int hr1 0 (by omega) (by omega)
    refine (on_some a0 ad c1 l1 w hr1.2.1 hT (fun i hi => ?_)).mono ?_
    · obtain ⟨ad', e, hc⟩ := Kd.at_int hr1 (i : Int) (by omega) (by omega)
      cases e
      simpa using hc
    · rintro e w' ⟨rfl, rfl⟩
      exact ⟨rfl, Below.refl _ _⟩
end Go.Proofs.YtfebnnjdkkcphaaDoor.Hand
