/- Words with their sum behind go on to 0, and that with another word behind they do not. -/
import Derived.Test.YtfebnnjdkkcphaaDoorStatCrcEnds
import Derived.Test.YtfebnnjdkkcphaaDoorCrcL
namespace Go.Proofs.YtfebnnjdkkcphaaDoor.Pure
open Go.RowKit Go.Proofs.YtfebnnjdkkcphaaDoor.Hand Go.Proofs.YtfebnnjdkkcphaaDoor.PAll Go.Proofs.YtfebnnjdkkcphaaDoorW.PrintWords Go.Proofs.YtfebnnjdkkcphaaDoorW.PrintLast Go.Proofs.YtfebnnjdkkcphaaDoorW.PrintMore Go.Proofs.YtfebnnjdkkcphaaDoor.CrcL
set_option linter.unusedVariables false

theorem bit_zero (s : Nat) (h : s < 65536) (hz : bitN s = 0) : s = 0 := by
  unfold bitN at hz
  split at hz
  · exfalso
    have e : ((2 * (s - 32768)) ^^^ 4129) % 2 = 1 := by
      have := Nat.xor_mod_two_pow (a := 2 * (s - 32768)) (b := 4129) (n := 1)
      rw [Nat.pow_one, show 2 * (s - 32768) % 2 = 0 by omega, show 4129 % 2 = 1 by decide] at this
      rw [this]
      decide
    omega
  · omega
theorem bits_zero (n : Nat) : ∀ s, s < 65536 → bits16 n s = 0 → s = 0 := by
  induction n with
  | zero => intro s _ h; exact h
  | succ n ih => intro s hs h; exact bit_zero s hs (ih _ (bitN_lt s hs) h)
theorem word_zero (s x : Int) (h0 : 0 ≤ s) (h1 : s < 65536) (h2 : 0 ≤ x) (h3 : x < 65536) : wordZ s x = 0 ↔ x = s := by
  have hx : s.toNat ^^^ (x % 65536).toNat < 65536 := Nat.xor_lt_two_pow (n := 16) (by omega) (by omega)
  have e : wordZ s x = ((bits16 16 (s.toNat ^^^ (x % 65536).toNat) : Nat) : Int) := iter_bits _ hx
  have ex : (x % 65536).toNat = x.toNat := by omega
  rw [e]
  constructor
  · intro h
    have h4 := bits_zero 16 _ hx (by omega)
    rw [ex] at h4
    have h5 : s.toNat ^^^ (s.toNat ^^^ x.toNat) = x.toNat := by rw [← Nat.xor_assoc, Nat.xor_self, Nat.zero_xor]
    rw [h4, Nat.xor_zero] at h5
    omega
  · rintro rfl
    rw [ex, Nat.xor_self]
    decide
theorem CrcEnds : Stat.CrcEnds.Pure := by
  intro l x hl hl8 hw hx
  unfold maxLen at hl
  have hlen := wordsZ_len l
  have hs := onZ_in (wordsZ l) 65535 (by omega) (by omega)
  have ha := amongZ_in x 65536 (by omega)
  refine ⟨l.length + 1, ?_⟩
  unfold rheostatlaw02_CrcEnds.f
  rw [works_f]
  simp only [Option.bind_some, if_true]
  rw [words_f l (by omega) _ (by omega)]
  simp only [Option.bind_some, of_f]
  rw [among_f x 65536 (by omega) (by omega), ints_f _ (by omega)]
  simp only [Option.bind_some, onZ_snoc]
  rw [if_pos (by omega), if_pos ((word_zero _ _ hs.1 hs.2 hs.1 hs.2).2 rfl), if_pos (by omega)]
  congr 1
  have h := word_zero (onZ 65535 (wordsZ l)) (amongZ x 65536) hs.1 hs.2 ha.1 ha.2
  rw [beq_iff_eq]
  rw [Bool.eq_iff_iff]
  simp only [beq_iff_eq]
  exact h

end Go.Proofs.YtfebnnjdkkcphaaDoor.Pure
