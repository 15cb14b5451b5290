/- Plain facts on the printed functions of crc and its reference: what each answers. -/
import Derived.Test.YtfebnnjdkkcphaaDoorPAllxF
import Derived.OpenShut
import Derived.Test.YtfebnnjdkkcphaaDoorCrcB
namespace Go.Proofs.YtfebnnjdkkcphaaDoor.CrcL
open Go.RowKit Go.Proofs.YtfebnnjdkkcphaaDoor.Hand Go.Proofs.YtfebnnjdkkcphaaDoor.PAll Go.Proofs.YtfebnnjdkkcphaaDoorW.PrintWords Go.Proofs.YtfebnnjdkkcphaaDoorW.PrintLast Go.Proofs.YtfebnnjdkkcphaaDoorW.PrintMore
set_option linter.unusedVariables false

abbrev I64 (a : Int) : Prop := -9223372036854775808 ≤ a ∧ a ≤ 9223372036854775807
theorem i64 {a : Int} (h : (Lit.int .i64 a).wf = true) : I64 a := Go.bounds_i64 h
theorem w64 {n : Int} (h : I64 n) : wrap64 n = n := by unfold wrap64; omega
theorem u64w (n : Int) : IntKind.u64.wrap n = n % 18446744073709551616 := by simp [IntKind.wrap, IntKind.bits, IntKind.signed]

theorem drop_at {xs : List Int} {i : Nat} (h : i < xs.length) : xs.drop i = rd xs (i : Int) :: xs.drop (i + 1) := by
  rw [List.drop_eq_getElem_cons h]
  simp [rd, List.getElem?_eq_getElem h]

theorem low_f (a : Int) : rheostatref02_low.f a = some (a % 65536) := by
  unfold rheostatref02_low.f
  rw [Int.tmod_eq_emod]
  split
  · rw [if_neg (by omega)]
    congr 1
    omega
  · by_cases h : a % 65536 - (65536 : Int).natAbs < 0
    · rw [if_pos h, w64 (by omega)]
      congr 1
      omega
    · omega

/-- x to the power: 2. -/
theorem xor_step (a b : Nat) (d : Nat) : (a ^^^ b) % 2 ^ (d + 1) = (if a % 2 = b % 2 then 0 else 1) + 2 * ((a / 2 ^^^ b / 2) % 2 ^ d) := by
  have h1 : (a ^^^ b) / 2 = a / 2 ^^^ b / 2 := Nat.xor_div_two
  have h2 : (a ^^^ b) % 2 = (a + b) % 2 := by
    have h := Nat.xor_mod_two_pow (a := a) (b := b) (n := 1)
    rw [Nat.pow_one] at h
    have e : ∀ x y : Fin 2, x.val ^^^ y.val = (x.val + y.val) % 2 := by decide
    have e2 := e ⟨a % 2, by omega⟩ ⟨b % 2, by omega⟩
    simp only at e2
    rw [h, e2]
    omega
  rw [← h1, Nat.pow_succ, Nat.mul_comm, Nat.mod_mul, h2]
  congr 1
  split <;> omega

theorem xor_loop (M : Nat) (hM : M ≤ 65536) (d : Nat) : ∀ (k : Nat) (a b out one : Nat) (i : Int), a < 65536 → b < 65536 → i + d = 16 → 0 ≤ i → out < one → one * 2 ^ d = M → d < k →
    rheostatref02_xor.l0 k (a : Int) (b : Int) (out : Int) (one : Int) i = some ((out + one * ((a ^^^ b) % 2 ^ d) : Nat) : Int) := by
  induction d with
  | zero =>
    intro k a b out one i _ _ hi _ _ _ hk
    obtain ⟨k, rfl⟩ : ∃ m, k = m + 1 := ⟨k - 1, by omega⟩
    simp only [rheostatref02_xor.l0]
    rw [if_neg (by omega), Nat.pow_zero, Nat.mod_one, Nat.mul_zero, Nat.add_zero]
  | succ d ih =>
    intro k a b out one i ha hb hi h0 ho hle hk
    obtain ⟨k, rfl⟩ : ∃ m, k = m + 1 := ⟨k - 1, by omega⟩
    have HLE := Aside0.mk hle
    clear hle
    have f1 : a / 2 < 65536 := Nat.lt_of_le_of_lt (Nat.div_le_self a 2) ha
    have f2 : b / 2 < 65536 := Nat.lt_of_le_of_lt (Nat.div_le_self b 2) hb
    have f3 : i + 1 + (d : Int) = 16 := by omega
    have f4 : 0 ≤ i + 1 := by omega
    have f5 : out < 2 * one := by omega
    have f6 : out + one < 2 * one := by omega
    have f7 : d < k := by omega
    have c0 : i < 16 := by omega
    have ia : I64 (Int.tdiv (a : Int) 2) := by rw [Int.tdiv_eq_ediv_of_nonneg (by omega)]; clear ih; omega
    have ib : I64 (Int.tdiv (b : Int) 2) := by rw [Int.tdiv_eq_ediv_of_nonneg (by omega)]; clear ih; omega
    simp only [rheostatref02_xor.l0]
    have ta : Int.tmod (a : Int) 2 = ((a % 2 : Nat) : Int) := by rw [Int.tmod_eq_emod_of_nonneg (by omega)]; omega
    have tb : Int.tmod (b : Int) 2 = ((b % 2 : Nat) : Int) := by rw [Int.tmod_eq_emod_of_nonneg (by omega)]; omega
    have da : wrap64 (Int.tdiv (a : Int) 2) = ((a / 2 : Nat) : Int) := by rw [w64 ia, Int.tdiv_eq_ediv_of_nonneg (by omega)]; omega
    have db : wrap64 (Int.tdiv (b : Int) 2) = ((b / 2 : Nat) : Int) := by rw [w64 ib, Int.tdiv_eq_ediv_of_nonneg (by omega)]; omega
    clear ia ib
    have hle := HLE.out
    clear HLE
    have hle1 : one ≤ M := by
      have : one * 1 ≤ one * 2 ^ (d + 1) := Nat.mul_le_mul_left _ Nat.one_le_two_pow
      rw [hle, Nat.mul_one] at this
      exact this
    have hq : (2 * one) * 2 ^ d = M := by
      rw [← hle, Nat.pow_succ, Nat.mul_comm (2 ^ d) 2, ← Nat.mul_assoc, Nat.mul_comm one 2]
    clear hle
    have w1 : wrap64 (2 * (one : Int)) = ((2 * one : Nat) : Int) := by rw [w64 (by omega)]; omega
    have w2 : wrap64 (i + 1) = i + 1 := w64 (by omega)
    have w3 : wrap64 ((out : Int) + one) = ((out + one : Nat) : Int) := by rw [w64 (by omega)]; omega
    have go1 := ih k (a / 2) (b / 2) out (2 * one) (i + 1) f1 f2 f3 f4 f5 hq f7
    have go2 := ih k (a / 2) (b / 2) (out + one) (2 * one) (i + 1) f1 f2 f3 f4 f6 hq f7
    clear hq ih
    rw [if_pos c0, ta, tb, da, db, w1, w2, w3, xor_step a b d, go1, go2]
    generalize (a / 2 ^^^ b / 2) % 2 ^ d = z
    by_cases he : a % 2 = b % 2
    · have he' : ((a % 2 : Nat) : Int) = ((b % 2 : Nat) : Int) := by rw [he]
      rw [if_pos he', if_pos he, Nat.zero_add, ← Nat.mul_assoc, Nat.mul_comm one 2]
    · have he' : ¬ ((a % 2 : Nat) : Int) = ((b % 2 : Nat) : Int) := by omega
      rw [if_neg he', if_neg he, Nat.mul_add, Nat.mul_one, ← Nat.mul_assoc, Nat.mul_comm one 2, Nat.add_assoc]
theorem xor_f (a b : Int) (ha : 0 ≤ a) (ha1 : a < 65536) (hb : 0 ≤ b) (hb1 : b < 65536) (k : Nat) (hk : 17 ≤ k) : rheostatref02_xor.f k a b = some ((a.toNat ^^^ b.toNat : Nat) : Int) := by
  unfold rheostatref02_xor.f
  have h := xor_loop (1 * 2 ^ 16) (by decide) 16 k a.toNat b.toNat 0 1 0 (by omega) (by omega) (by omega) (by omega) (by omega) rfl (by omega)
  rw [Int.toNat_of_nonneg ha, Int.toNat_of_nonneg hb] at h
  rw [show ((0 : Nat) : Int) = 0 from rfl, show ((1 : Nat) : Int) = 1 from rfl] at h
  rw [h]
  have hx : a.toNat ^^^ b.toNat < 2 ^ 16 := Nat.xor_lt_two_pow (by omega) (by omega)
  rw [Nat.mod_eq_of_lt hx, Nat.one_mul, Nat.zero_add]

theorem bitN_lt (s : Nat) (h : s < 65536) : bitN s < 65536 := by
  unfold bitN
  split
  · exact Nat.xor_lt_two_pow (n := 16) (by omega) (by omega)
  · omega
theorem rndZ_bits (s : Nat) (h : s < 65536) : rndZ (s : Int) = ((bitN (bitN (bitN (bitN s))) : Nat) : Int) := by
  have h4 := four_bits ⟨s / 256, by omega⟩ ⟨s % 256, by omega⟩
  simp only at h4
  rw [show s / 256 * 256 + s % 256 = s by omega] at h4
  rw [← h4]
  unfold rndZ nibN
  rw [show ((s : Int) * 16 % 65536).toNat = s * 16 % 65536 by omega, show ((s : Int) / 4096) = ((s / 4096 : Nat) : Int) by omega]
def bits16 : Nat → Nat → Nat
  | 0, s => s
  | n + 1, s => bits16 n (bitN s)
theorem bits16_lt (n : Nat) : ∀ s, s < 65536 → bits16 n s < 65536 := by
  induction n with
  | zero => intro s h; exact h
  | succ n ih => intro s h; exact ih _ (bitN_lt s h)
theorem iter_bits (s : Nat) (h : s < 65536) : iter 4 (s : Int) = ((bits16 16 s : Nat) : Int) := by
  have e1 := rndZ_bits s h
  have l1 : bitN (bitN (bitN (bitN s))) < 65536 := bitN_lt _ (bitN_lt _ (bitN_lt _ (bitN_lt _ h)))
  have e2 := rndZ_bits _ l1
  have l2 := bitN_lt _ (bitN_lt _ (bitN_lt _ (bitN_lt _ l1)))
  have e3 := rndZ_bits _ l2
  have l3 := bitN_lt _ (bitN_lt _ (bitN_lt _ (bitN_lt _ l2)))
  have e4 := rndZ_bits _ l3
  show rndZ (rndZ (rndZ (rndZ (s : Int)))) = _
  rw [e1, e2, e3, e4]
  rfl

theorem bit_f (s : Nat) (h : s < 65536) (k : Nat) (hk : 17 ≤ k) (F : Int → Option Int) (G : Int → Option Int) (hG : G = F) :
    (if (s : Int) ≥ 32768 then ((rheostatref02_xor.f k (wrap64 (2 * (wrap64 ((s : Int) - 32768)))) 4129).bind F) else G (wrap64 (2 * (s : Int)))) = F ((bitN s : Nat) : Int) := by
  subst hG
  unfold bitN
  by_cases hs : 32768 ≤ s
  · rw [if_pos (by omega), if_pos hs, w64 (n := (s : Int) - 32768) (by omega), w64 (by omega), xor_f _ _ (by omega) (by omega) (by omega) (by omega) k hk]
    simp only [Option.bind_some]
    rw [show (2 * ((s : Int) - 32768)).toNat = 2 * (s - 32768) by omega]
    rfl
  · rw [if_neg (by omega), if_neg hs, w64 (by omega)]
    congr 1

theorem inner (l : List Int) (x6 : Int) (d : Nat) : ∀ (k s : Nat) (i : Int), i + d = 16 → 0 ≤ i → s < 65536 → d + 20 ≤ k →
    rheostatref02_On.l1 k l (s : Int) x6 i = rheostatref02_On.l0 (k - d - 1) l ((bits16 d s : Nat) : Int) (wrap64 (x6 + 1)) := by
  induction d with
  | zero =>
    intro k s i hi h0 hs hk
    obtain ⟨k, rfl⟩ : ∃ m, k = m + 1 := ⟨k - 1, by omega⟩
    rw [rheostatref02_On.l1.eq_2, if_neg (by omega)]
    rfl
  | succ d ih =>
    intro k s i hi h0 hs hk
    obtain ⟨k, rfl⟩ : ∃ m, k = m + 1 := ⟨k - 1, by omega⟩
    rw [rheostatref02_On.l1.eq_2, if_pos (by omega), w64 (n := i + 1) (by omega)]
    rw [bit_f s hs k (by omega) (fun t116 => rheostatref02_On.l1 k l t116 x6 (i + 1)) (fun t => rheostatref02_On.l1 k l t x6 (i + 1)) rfl]
    rw [ih k (bitN s) (i + 1) (by omega) (by omega) (bitN_lt s hs) (by omega)]
    rw [show k + 1 - (d + 1) - 1 = k - d - 1 by omega]
    rfl

theorem outer (l : List Int) (hl : l.length ≤ 9223372036854775807) (d : Nat) : ∀ (k i : Nat) (s : Int), i + d = l.length → 0 ≤ s → s < 65536 → 18 * d + 40 ≤ k →
    rheostatref02_On.l0 k l s (i : Int) = some (onZ s (l.drop i)) := by
  induction d with
  | zero =>
    intro k i s hi h0 h1 hk
    obtain ⟨k, rfl⟩ : ∃ m, k = m + 1 := ⟨k - 1, by omega⟩
    rw [rheostatref02_On.l0.eq_2, if_neg (by omega), List.drop_eq_nil_of_le (by omega)]
    rfl
  | succ d ih =>
    intro k i s hi h0 h1 hk
    obtain ⟨k, rfl⟩ : ∃ m, k = m + 1 := ⟨k - 1, by omega⟩
    have hlt : i < l.length := by omega
    have w : wrap64 ((i : Int) + 1) = ((i + 1 : Nat) : Int) := by rw [w64 (by omega)]; omega
    rw [rheostatref02_On.l0.eq_2, if_pos (by omega), if_pos (by omega), low_f]
    simp only [Option.bind_some]
    have hm : 0 ≤ rd l (i : Int) % 65536 ∧ rd l (i : Int) % 65536 < 65536 := by omega
    rw [xor_f s (rd l (i : Int) % 65536) h0 h1 hm.1 hm.2 k (by omega)]
    simp only [Option.bind_some]
    have hx : s.toNat ^^^ (rd l (i : Int) % 65536).toNat < 65536 := Nat.xor_lt_two_pow (n := 16) (by omega) (by omega)
    rw [inner l (i : Int) 16 k _ 0 (by omega) (by omega) hx (by omega), w, ← iter_bits _ hx]
    have hw := wordZ_in s (rd l (i : Int)) h0 h1
    rw [show iter 4 ((s.toNat ^^^ (rd l (i : Int) % 65536).toNat : Nat) : Int) = wordZ s (rd l (i : Int)) from rfl]
    rw [ih (k - 16 - 1) (i + 1) _ (by omega) hw.1 hw.2 (by omega), drop_at hlt]
    rfl

theorem refOn_f (a : Int) (l : List Int) (hl : l.length ≤ 9223372036854775807) (k : Nat) (hk : 18 * l.length + 40 ≤ k) : rheostatref02_On.f k a l = some (onZ (a % 65536) l) := by
  unfold rheostatref02_On.f
  rw [low_f]
  simp only [Option.bind_some]
  exact outer l hl l.length k 0 _ (by omega) (by omega) (by omega) hk
theorem refOf_f (l : List Int) (hl : l.length ≤ 9223372036854775807) (k : Nat) (hk : 18 * l.length + 40 ≤ k) : rheostatref02_Of.f k l = some (onZ 65535 l) := by
  unfold rheostatref02_Of.f
  rw [refOn_f 65535 l hl k hk]
  rfl
theorem on_f (a : Int) (l : List Int) : crc_On.f a l = some (onZ (a % 65536) l) := rfl
theorem of_f (l : List Int) : crc_Of.f l = some (onZ 65535 l) := rfl

theorem ints_f (l : List Int) (h : l.length < 17592186044416) : rheostatbase_Ints.f l = some l := by
  unfold rheostatbase_Ints.f
  simp only [Option.bind_some, List.length_nil, List.nil_append]
  rw [if_pos (by omega)]
def amongZ (a n : Int) : Int := a % 18446744073709551616 % n
theorem amongZ_in (a n : Int) (h : 1 ≤ n) : 0 ≤ amongZ a n ∧ amongZ a n < n := ⟨Int.emod_nonneg _ (by omega), Int.emod_lt_of_pos _ (by omega)⟩
theorem among_f (a n : Int) (h : 1 ≤ n) (h2 : n ≤ 9223372036854775807) : rheostatbase_Among.f a n = some (amongZ a n) := by
  unfold rheostatbase_Among.f
  have e : IntKind.u64.wrap n = n := by rw [u64w]; omega
  rw [if_neg (by omega), e, if_neg (by omega), u64w, Int.tmod_eq_emod_of_nonneg (by omega)]
  have := amongZ_in a n h
  unfold amongZ at *
  rw [w64 (by omega)]

theorem same_loop (a b : List Int) (hl : a.length = b.length) (hl2 : a.length ≤ 9223372036854775807) (d : Nat) : ∀ (k i : Nat), i + d = a.length → d < k →
    rheostatbase_SameInts.l0 k a b (i : Int) = some (decide (a.drop i = b.drop i)) := by
  induction d with
  | zero =>
    intro k i hi hk
    obtain ⟨k, rfl⟩ : ∃ m, k = m + 1 := ⟨k - 1, by omega⟩
    rw [rheostatbase_SameInts.l0.eq_2, if_neg (by omega), List.drop_eq_nil_of_le (by omega), List.drop_eq_nil_of_le (by omega), decide_eq_true rfl]
  | succ d ih =>
    intro k i hi hk
    obtain ⟨k, rfl⟩ : ∃ m, k = m + 1 := ⟨k - 1, by omega⟩
    have w : wrap64 ((i : Int) + 1) = ((i + 1 : Nat) : Int) := by rw [w64 (by omega)]; omega
    rw [rheostatbase_SameInts.l0.eq_2, if_pos (by omega), if_pos (by omega), if_pos (by omega), drop_at (xs := a) (i := i) (by omega), drop_at (xs := b) (i := i) (by omega), w, ih k (i + 1) (by omega) (by omega)]
    by_cases h : rd a (i : Int) = rd b (i : Int)
    · rw [if_pos h]
      congr 1
      exact decide_eq_decide.2 ⟨fun e => by rw [h, e], fun e => (List.cons.inj e).2⟩
    · rw [if_neg h, decide_eq_false (fun e => h (List.cons.inj e).1)]
theorem same_f (a b : List Int) (hl2 : a.length ≤ 9223372036854775807) (k : Nat) (hk : a.length < k) : rheostatbase_SameInts.f k a b = some (decide (a = b)) := by
  unfold rheostatbase_SameInts.f
  by_cases h : a.length = b.length
  · rw [if_pos (by omega)]
    exact same_loop a b h hl2 a.length k 0 (by omega) hk
  · rw [if_neg (by omega), decide_eq_false (fun e => h (by rw [e]))]

theorem words_loop (l : List Int) (hl : l.length ≤ 9223372036854775807) (d : Nat) : ∀ (k i : Nat) (acc : List Int), i + d = l.length → acc.length ≤ i → d < k →
    rheostatlaw02_words.l0 k l acc (i : Int) = some (acc ++ ((l.take 300).drop i).map (amongZ · 65536)) := by
  induction d with
  | zero =>
    intro k i acc hi ha hk
    obtain ⟨k, rfl⟩ : ∃ m, k = m + 1 := ⟨k - 1, by omega⟩
    rw [rheostatlaw02_words.l0.eq_2, if_neg (by omega), List.drop_eq_nil_of_le (by rw [List.length_take]; omega)]
    simp
  | succ d ih =>
    intro k i acc hi ha hk
    obtain ⟨k, rfl⟩ : ∃ m, k = m + 1 := ⟨k - 1, by omega⟩
    rw [rheostatlaw02_words.l0.eq_2, if_pos (by omega)]
    by_cases h : (i : Int) < 300
    · have w : wrap64 ((i : Int) + 1) = ((i + 1 : Nat) : Int) := by rw [w64 (by omega)]; omega
      rw [if_pos h, if_pos (by omega), among_f _ _ (by omega) (by omega)]
      simp only [Option.bind_some]
      rw [if_pos (by omega), w, ih k (i + 1) _ (by omega) (by simp; omega) (by omega)]
      have hlt : i < (l.take 300).length := by rw [List.length_take]; omega
      rw [drop_at hlt]
      have er : rd (l.take 300) (i : Int) = rd l (i : Int) := by
        simp only [rd, Int.toNat_natCast, List.getD_eq_getElem?_getD]
        rw [List.getElem?_take_of_lt (by omega)]
      rw [er]
      simp
    · rw [if_neg h, List.drop_eq_nil_of_le (by rw [List.length_take]; omega)]
      simp
def wordsZ (l : List Int) : List Int := (l.take 300).map (amongZ · 65536)
theorem words_f (l : List Int) (hl : l.length ≤ 9223372036854775807) (k : Nat) (hk : l.length < k) : rheostatlaw02_words.f k l = some (wordsZ l) := by
  unfold rheostatlaw02_words.f
  exact words_loop l hl l.length k 0 [] (by omega) (by simp) hk
theorem wordsZ_len (l : List Int) : (wordsZ l).length ≤ 300 := by unfold wordsZ; rw [List.length_map, List.length_take]; omega
theorem wordsZ_in (l : List Int) : ∀ x ∈ wordsZ l, 0 ≤ x ∧ x < 65536 := by
  intro x hx
  obtain ⟨y, _, rfl⟩ := List.mem_map.1 hx
  exact amongZ_in y 65536 (by omega)
def fewZ (l : List Int) : List Int := l.take 300
theorem few_f (l : List Int) : rheostatlaw02_few.f l = some (fewZ l) := by
  unfold rheostatlaw02_few.f fewZ
  have hm : mn (l.length : Int) 300 ≤ (l.length : Int) ∧ 0 ≤ mn (l.length : Int) 300 := by unfold mn; split <;> omega
  rw [if_pos hm.2, if_pos hm.1]
  congr 1
  unfold mn
  split
  · rfl
  · rw [Int.toNat_natCast, List.take_of_length_le (Nat.le_refl _), List.take_of_length_le (by omega)]
theorem works_f : rheostatlaw02_works.f = some true := by decide +kernel
end Go.Proofs.YtfebnnjdkkcphaaDoor.CrcL
