/- Words that differ in one word, or within sixteen bits one behind the other, have other sums. -/
import Derived.Test.YtfebnnjdkkcphaaDoorStatCrcFinds
import Derived.Test.YtfebnnjdkkcphaaDoorCrcL
namespace Go.Proofs.YtfebnnjdkkcphaaDoor.Pure
open Go.RowKit Go.Proofs.YtfebnnjdkkcphaaDoor.Hand Go.Proofs.YtfebnnjdkkcphaaDoor.PAll Go.Proofs.YtfebnnjdkkcphaaDoorW.PrintWords Go.Proofs.YtfebnnjdkkcphaaDoorW.PrintLast Go.Proofs.YtfebnnjdkkcphaaDoorW.PrintMore Go.Proofs.YtfebnnjdkkcphaaDoor.CrcL
set_option linter.unusedVariables false

theorem xor_cancel (a b : Nat) : a ^^^ (a ^^^ b) = b := by rw [← Nat.xor_assoc, Nat.xor_self, Nat.zero_xor]
theorem xor_zero_eq {a b : Nat} (h : a ^^^ b = 0) : a = b := by
  have := xor_cancel a b
  rw [h, Nat.xor_zero] at this
  exact this
theorem two_xor (u v : Nat) : 2 * (u ^^^ v) % 65536 = (2 * u % 65536) ^^^ (2 * v % 65536) := by
  have h := Nat.xor_mod_two_pow (a := 2 * u) (b := 2 * v) (n := 16)
  have e : 2 * (u ^^^ v) = (2 * u) ^^^ (2 * v) := by
    have := Nat.shiftLeft_xor_distrib (a := u) (b := v) (i := 1)
    simp only [Nat.shiftLeft_eq, Nat.pow_one] at this
    rw [Nat.mul_comm 2 (u ^^^ v), Nat.mul_comm 2 u, Nat.mul_comm 2 v]
    exact this
  rw [e]
  exact h
theorem bitN_eq (u : Nat) (h : u < 65536) : bitN u = (2 * u % 65536) ^^^ (if u.testBit 15 then 4129 else 0) := by
  unfold bitN
  rw [Nat.testBit_eq_decide_div_mod_eq]
  by_cases hu : 32768 ≤ u
  · rw [if_pos hu, decide_eq_true (by omega), if_pos rfl]
    have e : 2 * (u - 32768) = 2 * u % 65536 := by omega
    rw [e]
  · rw [if_neg hu, decide_eq_false (by omega), if_neg (by decide), Nat.xor_zero]
    omega
theorem lt_xor {u v : Nat} (hu : u < 65536) (hv : v < 65536) : u ^^^ v < 65536 := Nat.xor_lt_two_pow (n := 16) hu hv
theorem bitN_xor (u v : Nat) (hu : u < 65536) (hv : v < 65536) : bitN (u ^^^ v) = bitN u ^^^ bitN v := by
  rw [bitN_eq _ (lt_xor hu hv), bitN_eq u hu, bitN_eq v hv, two_xor, Nat.testBit_xor]
  generalize 2 * u % 65536 = A
  generalize 2 * v % 65536 = B
  generalize 4129 = p
  cases u.testBit 15 <;> cases v.testBit 15 <;> simp
  · rw [Nat.xor_assoc]
  · rw [Nat.xor_assoc, Nat.xor_assoc, Nat.xor_comm B p]
  · rw [Nat.xor_assoc, Nat.xor_comm B p, xor_cancel]
theorem T_xor (n : Nat) : ∀ u v, u < 65536 → v < 65536 → bits16 n (u ^^^ v) = bits16 n u ^^^ bits16 n v := by
  induction n with
  | zero => intro u v _ _; rfl
  | succ n ih =>
    intro u v hu hv
    show bits16 n (bitN (u ^^^ v)) = bits16 n (bitN u) ^^^ bits16 n (bitN v)
    rw [bitN_xor u v hu hv, ih _ _ (bitN_lt u hu) (bitN_lt v hv)]
theorem bit_zero (s : Nat) (h : s < 65536) (hz : bitN s = 0) : s = 0 := by
  unfold bitN at hz
  split at hz
  · exfalso
    have e : ((2 * (s - 32768)) ^^^ 4129) % 2 = 1 := by
      have := Nat.xor_mod_two_pow (a := 2 * (s - 32768)) (b := 4129) (n := 1)
      rw [Nat.pow_one, show 2 * (s - 32768) % 2 = 0 by omega, show 4129 % 2 = 1 by decide] at this
      rw [this]
      decide
    omega
  · omega
theorem bits_zero (n : Nat) : ∀ s, s < 65536 → bits16 n s = 0 → s = 0 := by
  induction n with
  | zero => intro s _ h; exact h
  | succ n ih => intro s hs h; exact bit_zero s hs (ih _ (bitN_lt s hs) h)
theorem T_inj (n : Nat) {u v : Nat} (hu : u < 65536) (hv : v < 65536) (h : bits16 n u = bits16 n v) : u = v := by
  have h1 := T_xor n u v hu hv
  rw [h, Nat.xor_self] at h1
  exact xor_zero_eq (bits_zero n _ (lt_xor hu hv) h1)
theorem bits_add (a : Nat) : ∀ b s, bits16 (a + b) s = bits16 b (bits16 a s) := by
  induction a with
  | zero => intro b s; rw [Nat.zero_add]; rfl
  | succ a ih => intro b s; rw [Nat.succ_add]; exact ih b (bitN s)
theorem bits_shift (m : Nat) : ∀ y, y * 2 ^ m < 65536 → bits16 m y = y * 2 ^ m := by
  induction m with
  | zero => intro y _; simp [bits16]
  | succ m ih =>
    intro y h
    have e : y * 2 ^ (m + 1) = (2 * y) * 2 ^ m := by rw [Nat.pow_succ, Nat.mul_comm (2 ^ m) 2, ← Nat.mul_assoc, Nat.mul_comm y 2]
    have h1 : 2 * y * 1 ≤ (2 * y) * 2 ^ m := Nat.mul_le_mul_left _ Nat.one_le_two_pow
    rw [e] at h ⊢
    have hb : bitN y = 2 * y := by unfold bitN; rw [if_neg (by omega)]
    show bits16 m (bitN y) = _
    rw [hb]
    exact ih _ h
theorem window (x n : Nat) (hx : x < 65536) (hn : n < 16) : bits16 16 (x / 2 ^ n) = x * 2 ^ (16 - n) % 65536 ↔ x = 0 := by
  constructor
  · intro h
    have hp : 0 < 2 ^ n := Nat.two_pow_pos n
    have hp2 : 0 < 2 ^ (16 - n) := Nat.two_pow_pos _
    have e16 : 2 ^ n * 2 ^ (16 - n) = 65536 := by rw [← Nat.pow_add, show n + (16 - n) = 16 by omega]
    have hdm := Nat.div_add_mod x (2 ^ n)
    have hlo := Nat.mod_lt x hp
    have e1 : x * 2 ^ (16 - n) % 65536 = (x % 2 ^ n) * 2 ^ (16 - n) := by rw [← e16, Nat.mul_mod_mul_right]
    have h2 : bits16 16 (x / 2 ^ n) = bits16 (16 - n) (bits16 n (x / 2 ^ n)) := by
      have := bits_add n (16 - n) (x / 2 ^ n)
      rw [show n + (16 - n) = 16 by omega] at this
      exact this
    have hle : x / 2 ^ n * 2 ^ n ≤ x := Nat.div_mul_le_self x (2 ^ n)
    have h3 : bits16 n (x / 2 ^ n) = x / 2 ^ n * 2 ^ n := bits_shift n _ (Nat.lt_of_le_of_lt hle hx)
    have h4 : (x % 2 ^ n) * 2 ^ (16 - n) < 65536 := by rw [← e16]; exact Nat.mul_lt_mul_of_pos_right hlo hp2
    have h5 : bits16 (16 - n) (x % 2 ^ n) = (x % 2 ^ n) * 2 ^ (16 - n) := bits_shift _ _ h4
    rw [h2, h3, e1, ← h5] at h
    have h6 := T_inj (16 - n) (Nat.lt_of_le_of_lt hle hx) (Nat.lt_of_le_of_lt (Nat.mod_le _ _) hx) h
    have h7 : x / 2 ^ n = 0 := by
      rcases Nat.eq_zero_or_pos (x / 2 ^ n) with h8 | h8
      · exact h8
      · have : 1 * 2 ^ n ≤ x / 2 ^ n * 2 ^ n := Nat.mul_le_mul_right _ h8
        omega
    rw [h7, Nat.zero_mul] at h6
    rw [h7, ← h6] at hdm
    simpa using hdm.symm
  · rintro rfl
    rw [Nat.zero_div, Nat.zero_mul, Nat.zero_mod]
    decide

theorem window_at (sx : Nat) (h : sx = 16) (x n : Nat) (hx : x < 65536) (hn : n < 16) : bits16 sx (x / 2 ^ n) = x * 2 ^ (16 - n) % 65536 ↔ x = 0 := by
  rw [h]
  exact window x n hx hn
def wordN (n s a : Nat) : Nat := bits16 n (s ^^^ a)
def onN (n : Nat) : Nat → List Nat → Nat
  | s, [] => s
  | s, a :: l => onN n (wordN n s a) l
theorem onN_nil (n s : Nat) : onN n s [] = s := rfl
theorem onN_cons (n s a : Nat) (l : List Nat) : onN n s (a :: l) = onN n (bits16 n (s ^^^ a)) l := rfl
theorem onN_lt (n : Nat) (l : List Nat) : ∀ s, s < 65536 → (∀ x ∈ l, x < 65536) → onN n s l < 65536 := by
  induction l with
  | nil => intro s h _; rw [onN_nil]; exact h
  | cons a l ih => intro s h hl; rw [onN_cons]; exact ih _ (bits16_lt n _ (lt_xor h (hl a List.mem_cons_self))) (fun x hx => hl x (List.mem_cons_of_mem _ hx))
theorem onN_inj (n : Nat) (l : List Nat) : ∀ s t, s < 65536 → t < 65536 → (∀ x ∈ l, x < 65536) → onN n s l = onN n t l → s = t := by
  induction l with
  | nil => intro s t _ _ _ h; rw [onN_nil, onN_nil] at h; exact h
  | cons a l ih =>
    intro s t hs ht hl h
    rw [onN_cons, onN_cons] at h
    have ha := hl a List.mem_cons_self
    have h1 := ih _ _ (bits16_lt n _ (lt_xor hs ha)) (bits16_lt n _ (lt_xor ht ha)) (fun x hx => hl x (List.mem_cons_of_mem _ hx)) h
    have h2 := T_inj n (lt_xor hs ha) (lt_xor ht ha) h1
    have h3 : a ^^^ (a ^^^ s) = a ^^^ (a ^^^ t) := by rw [Nat.xor_comm a s, h2, Nat.xor_comm t a]
    rwa [xor_cancel, xor_cancel] at h3
theorem onN_append (n s : Nat) (a b : List Nat) : onN n s (a ++ b) = onN n (onN n s a) b := by
  induction a generalizing s with
  | nil => rfl
  | cons x a ih => rw [List.cons_append, onN_cons, onN_cons]; exact ih _
theorem wordZ_eq (n : Nat) (hn : n = 16) (s : Nat) (hs : s < 65536) (a : Int) (ha : 0 ≤ a ∧ a < 65536) : wordZ (s : Int) a = ((bits16 n (s ^^^ a.toNat) : Nat) : Int) := by
  have hx : s ^^^ a.toNat < 65536 := lt_xor hs (by omega)
  have h := iter_bits _ hx
  rw [← hn] at h
  show iter 4 (((s : Int).toNat ^^^ (a % 65536).toNat : Nat) : Int) = _
  rw [show (a % 65536).toNat = a.toNat by omega, Int.toNat_natCast]
  exact h
theorem onZ_nat (n : Nat) (hn : n = 16) (l : List Int) : ∀ s : Nat, s < 65536 → (∀ x ∈ l, 0 ≤ x ∧ x < 65536) → onZ (s : Int) l = ((onN n s (l.map Int.toNat) : Nat) : Int) := by
  induction l with
  | nil => intro s _ _; rfl
  | cons a l ih =>
    intro s hs hl
    have ha := hl a List.mem_cons_self
    show onZ (wordZ (s : Int) a) l = _
    rw [wordZ_eq n hn s hs a ha, ih _ (bits16_lt n _ (lt_xor hs (by omega))) (fun x hx => hl x (List.mem_cons_of_mem _ hx)), List.map_cons, onN_cons]
theorem low16 (z : Nat) (h1 : z ≤ 4294901760) : (((z : Int) + 9223372036854775808) % 18446744073709551616 - 9223372036854775808) % 65536 = ((z % 65536 : Nat) : Int) := by omega

theorem differ (n : Nat) (P R : List Nat) (a b d e : Nat) (hP : ∀ x ∈ P, x < 65536) (hR : ∀ x ∈ R, x < 65536) (ha : a < 65536) (hb : b < 65536) (hd : d < 65536) (he : e < 65536) :
    onN n 65535 (P ++ a :: b :: R) = onN n 65535 (P ++ (a ^^^ d) :: (b ^^^ e) :: R) ↔ bits16 n d = e := by
  rw [onN_append, onN_append, onN_cons, onN_cons, onN_cons, onN_cons]
  have hS := onN_lt n P 65535 (by decide) hP
  generalize onN n 65535 P = S at *
  have l1 := bits16_lt n _ (lt_xor hS ha)
  have l2 := bits16_lt n _ (lt_xor hS (lt_xor ha hd))
  have e1 : bits16 n (S ^^^ (a ^^^ d)) = bits16 n (S ^^^ a) ^^^ bits16 n d := by rw [← Nat.xor_assoc, T_xor n _ _ (lt_xor hS ha) hd]
  have hT := bits16_lt n d hd
  constructor
  · intro h
    have h1 : bits16 n (bits16 n (S ^^^ a) ^^^ b) = bits16 n (bits16 n (S ^^^ (a ^^^ d)) ^^^ (b ^^^ e)) := onN_inj n R _ _ (bits16_lt n _ (lt_xor l1 hb)) (bits16_lt n _ (lt_xor l2 (lt_xor hb he))) hR h
    have h2 := T_inj n (lt_xor l1 hb) (lt_xor l2 (lt_xor hb he)) h1
    rw [e1] at h2
    generalize bits16 n (S ^^^ a) = u at *
    generalize bits16 n d = t at *
    -- u ^ b = (u ^ t) ^ (b ^ e)
    have h3 : (u ^^^ t) ^^^ (b ^^^ e) = (u ^^^ b) ^^^ (t ^^^ e) := by
      rw [Nat.xor_assoc, Nat.xor_assoc, ← Nat.xor_assoc t b e, Nat.xor_comm t b, Nat.xor_assoc]
    rw [h3] at h2
    have h4 := xor_cancel (u ^^^ b) (t ^^^ e)
    rw [← h2, Nat.xor_self] at h4
    exact xor_zero_eq h4.symm
  · intro h
    show onN n (bits16 n (bits16 n (S ^^^ a) ^^^ b)) R = onN n (bits16 n (bits16 n (S ^^^ (a ^^^ d)) ^^^ (b ^^^ e))) R
    rw [e1, h]
    have h3 : (bits16 n (S ^^^ a) ^^^ e) ^^^ (b ^^^ e) = bits16 n (S ^^^ a) ^^^ b := by
      rw [Nat.xor_assoc, Nat.xor_comm b e, xor_cancel]
    rw [h3]

theorem CrcFinds : Stat.CrcFinds.Pure := by
  intro l a1 a2 a3 hl hl8 hw h1 h2 h3
  unfold maxLen at hl
  have hlen := wordsZ_len l
  have hin := wordsZ_in l
  refine ⟨l.length + 1000, ?_⟩
  unfold rheostatlaw02_CrcFinds.f
  rw [works_f]
  simp only [Option.bind_some, if_true]
  rw [words_f l (by omega) _ (by omega)]
  simp only [Option.bind_some]
  generalize wordsZ l = L at *
  by_cases h2 : (L.length : Int) < 2
  · rw [if_pos h2]
  · rw [if_neg h2, w64 (n := (L.length : Int) - 1) (by omega), among_f a1 _ (by omega) (by omega), among_f a2 16 (by omega) (by omega), among_f a3 65536 (by omega) (by omega), ints_f L (by omega)]
    simp only [Option.bind_some]
    have b1 := amongZ_in a1 ((L.length : Int) - 1) (by omega)
    have b2 := amongZ_in a2 16 (by omega)
    have b3 := amongZ_in a3 65536 (by omega)
    generalize amongZ a1 ((L.length : Int) - 1) = kk at *
    generalize amongZ a2 16 = nn at *
    generalize amongZ a3 65536 = xx at *
    obtain ⟨k, rfl⟩ := Int.eq_ofNat_of_zero_le b1.1
    obtain ⟨n, rfl⟩ := Int.eq_ofNat_of_zero_le b2.1
    obtain ⟨x, rfl⟩ := Int.eq_ofNat_of_zero_le b3.1
    have u1 : IntKind.u64.wrap (n : Int) = (n : Int) := by rw [u64w]; omega
    have u2 : IntKind.u64.wrap (16 - (n : Int)) = ((16 - n : Nat) : Int) := by rw [u64w]; omega
    have w1 : wrap64 ((k : Int) + 1) = ((k + 1 : Nat) : Int) := by rw [w64 (by omega)]; omega
    rw [u1, u2, w1, if_pos (by omega), if_pos (by omega), if_pos (by omega)]
    rw [if_pos (by omega), if_pos (by omega), if_pos (by omega)]
    simp only [Option.bind_some, Int.toNat_natCast, of_f]
    -- the two words
    have hk : k < L.length := by omega
    have hk1 : k + 1 < L.length := by omega
    have hP := Nat.two_pow_pos n
    have d1 : shr .i64 (x : Int) (n : Int) = ((x / 2 ^ n : Nat) : Int) := by
      unfold shr
      rw [Int.toNat_natCast, Nat.min_eq_left (by simp [IntKind.bits]; omega)]
      simp
    have hx16 : x * 2 ^ (16 - n) ≤ 65535 * 65536 := Nat.mul_le_mul (by omega) (by
      have : 2 ^ (16 - n) ≤ 2 ^ 16 := Nat.pow_le_pow_right (by decide) (by omega)
      simpa using this)
    have d2 : Go.bits .and .i64 (shl .i64 (x : Int) ((16 - n : Nat) : Int)) 65535 = ((x * 2 ^ (16 - n) % 65536 : Nat) : Int) := by
      rw [and16]
      unfold shl
      rw [Int.toNat_natCast, Nat.min_eq_left (by simp [IntKind.bits]; omega), IntKind.wrap_i64]
      have e : (x : Int) * 2 ^ (16 - n) = ((x * 2 ^ (16 - n) : Nat) : Int) := by simp
      rw [e]
      generalize x * 2 ^ (16 - n) = z at hx16
      have h16 : z ≤ 4294901760 := Nat.le_trans hx16 (by decide)
      exact low16 z h16
    have hd : x / 2 ^ n < 65536 := Nat.lt_of_le_of_lt (Nat.div_le_self _ _) (by omega)
    have he : x * 2 ^ (16 - n) % 65536 < 65536 := Nat.mod_lt _ (by decide)
    obtain ⟨sx, hsx⟩ : ∃ m : Nat, m = 16 := ⟨16, rfl⟩
    have hwin := window_at sx hsx x n (by omega) (by omega)
    rw [d1, d2]
    have hd0 : x = 0 → x / 2 ^ n = 0 := by intro h; rw [h, Nat.zero_div]
    have he0 : x = 0 → x * 2 ^ (16 - n) % 65536 = 0 := by intro h; rw [h, Nat.zero_mul]
    generalize x / 2 ^ n = d at *
    generalize x * 2 ^ (16 - n) % 65536 = e at *
    have er0 : rd L (k : Int) = L[k] := by simp [rd, List.getElem?_eq_getElem hk]
    have er1 : ∀ v, rd (L.set k v) ((k + 1 : Nat) : Int) = L[k + 1] := by
      intro v
      simp only [rd, Int.toNat_natCast, List.getD_eq_getElem?_getD]
      rw [List.getElem?_set_ne (by omega), List.getElem?_eq_getElem hk1]
      rfl
    have ha := hin L[k] (List.getElem_mem hk)
    have hb := hin L[k + 1] (List.getElem_mem hk1)
    rw [er0, er1, xor16 L[k] (d : Int) ha.1 ha.2 (by omega) (by omega), xor16 L[k + 1] (e : Int) hb.1 hb.2 (by omega) (by omega), Int.toNat_natCast, Int.toNat_natCast]
    have hsplit : L = L.take k ++ L[k] :: L[k + 1] :: L.drop (k + 2) := by
      have h5 := List.drop_eq_getElem_cons hk
      have h6 := List.drop_eq_getElem_cons hk1
      rw [← h6, ← h5, List.take_append_drop]
    have hset : ∀ u v : Int, (L.set k u).set (k + 1) v = L.take k ++ u :: v :: L.drop (k + 2) := by
      intro u v
      apply List.ext_getElem?
      intro i
      rw [List.getElem?_set, List.getElem?_set, List.getElem?_append, List.length_take, Nat.min_eq_left (by omega)]
      by_cases i1 : i < k
      · rw [if_neg (by omega), if_neg (by omega), if_pos i1, List.getElem?_take_of_lt i1]
      · rw [if_neg i1]
        by_cases i2 : k = i
        · subst i2
          rw [if_neg (by omega), if_pos rfl]
          simp [hk]
        · by_cases i3 : k + 1 = i
          · subst i3
            rw [if_pos rfl]
            simp [hk1]
          · rw [if_neg i3, if_neg i2]
            obtain ⟨j, rfl⟩ : ∃ j, i = k + 2 + j := ⟨i - (k + 2), by omega⟩
            rw [show k + 2 + j - k = j + 1 + 1 by omega, List.getElem?_cons_succ, List.getElem?_cons_succ, List.getElem?_drop]
    rw [hset, same_f _ _ (by omega) _ (by omega)]
    simp only [Option.bind_some]
    congr 1
    -- both sides say: x = 0
    have hR : ∀ y ∈ L.drop (k + 2), 0 ≤ y ∧ y < 65536 := fun y hy => hin y (List.mem_of_mem_drop hy)
    have hPre : ∀ y ∈ L.take k, 0 ≤ y ∧ y < 65536 := fun y hy => hin y (List.mem_of_mem_take hy)
    have xa := lt_xor (u := L[k].toNat) (v := d) (by omega) hd
    have xb := lt_xor (u := L[k + 1].toNat) (v := e) (by omega) he
    have z1 := onZ_nat sx hsx L 65535 (by decide) hin
    have z2 := onZ_nat sx hsx (L.take k ++ ((L[k].toNat ^^^ d : Nat) : Int) :: ((L[k + 1].toNat ^^^ e : Nat) : Int) :: L.drop (k + 2)) 65535 (by decide) (by
      intro y hy
      rcases List.mem_append.1 hy with h | h
      · exact hPre y h
      · rcases List.mem_cons.1 h with rfl | h
        · omega
        · rcases List.mem_cons.1 h with rfl | h
          · omega
          · exact hR y h)
    have hm : ∀ (A : List Int), (∀ y ∈ A, 0 ≤ y ∧ y < 65536) → ∀ y ∈ A.map Int.toNat, y < 65536 := by
      intro A hA y hy
      obtain ⟨z, hz, rfl⟩ := List.mem_map.1 hy
      have := hA z hz
      omega
    have hdiff := differ sx ((L.take k).map Int.toNat) ((L.drop (k + 2)).map Int.toNat) L[k].toNat L[k + 1].toNat d e (hm _ hPre) (hm _ hR) (by omega) (by omega) hd he
    have m1 : L.map Int.toNat = (L.take k).map Int.toNat ++ L[k].toNat :: L[k + 1].toNat :: (L.drop (k + 2)).map Int.toNat := by
      have := congrArg (List.map Int.toNat) hsplit
      rw [List.map_append, List.map_cons, List.map_cons] at this
      exact this
    have m2 : (L.take k ++ ((L[k].toNat ^^^ d : Nat) : Int) :: ((L[k + 1].toNat ^^^ e : Nat) : Int) :: L.drop (k + 2)).map Int.toNat = (L.take k).map Int.toNat ++ (L[k].toNat ^^^ d) :: (L[k + 1].toNat ^^^ e) :: (L.drop (k + 2)).map Int.toNat := by
      rw [List.map_append, List.map_cons, List.map_cons, Int.toNat_natCast, Int.toNat_natCast]
    rw [m1] at z1
    rw [m2] at z2
    have right : (onZ 65535 L == onZ 65535 (L.take k ++ ((L[k].toNat ^^^ d : Nat) : Int) :: ((L[k + 1].toNat ^^^ e : Nat) : Int) :: L.drop (k + 2))) = decide (x = 0) := by
      rw [show (65535 : Int) = ((65535 : Nat) : Int) from rfl, z1, z2]
      rw [Bool.eq_iff_iff, beq_iff_eq, decide_eq_true_iff, ← hwin, ← hdiff]
      exact Int.ofNat_inj
    rw [right]
    rw [beq_iff_eq]
    refine decide_eq_decide.2 ?_
    constructor
    · intro hsame
      rw [← hwin, ← hdiff, ← m1, ← m2, ← hsame]
    · intro h0
      rw [hd0 h0, he0 h0, Nat.xor_zero, Nat.xor_zero, Int.toNat_of_nonneg ha.1, Int.toNat_of_nonneg hb.1]
      exact hsplit
end Go.Proofs.YtfebnnjdkkcphaaDoor.Pure
