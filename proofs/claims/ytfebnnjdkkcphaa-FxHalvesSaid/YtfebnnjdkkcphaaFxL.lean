/- Plain facts on the printed functions of fx and its reference: what each answers, for whole numbers of 64 bits. -/
import Derived.Test.YtfebnnjdkkcphaaPAllx
import Derived.OpenShut
namespace Go.Proofs.Ytfebnnjdkkcphaa.FxL
open Go.RowKit Go.Proofs.Ytfebnnjdkkcphaa.Hand Go.Proofs.Ytfebnnjdkkcphaa.PAll Go.Proofs.YtfebnnjdkkcphaaW.PrintWords Go.Proofs.YtfebnnjdkkcphaaW.PrintLast Go.Proofs.YtfebnnjdkkcphaaW.PrintMore

def I64 (a : Int) : Prop := -9223372036854775808 ≤ a ∧ a ≤ 9223372036854775807
theorem i64 {a : Int} (h : (Lit.int .i64 a).wf = true) : I64 a := Go.bounds_i64 h
theorem u64w (n : Int) : IntKind.u64.wrap n = n % 18446744073709551616 := by simp [IntKind.wrap, IntKind.bits, IntKind.signed]
theorem w64 {n : Int} (h : I64 n) : wrap64 n = n := by unfold I64 at h; unfold wrap64; omega

theorem works_ev : Ev (fun k => rheostatlaw03_works.f k) true := Ev.of (k := 5) rheostatlaw03_works.mono (by decide +kernel)

def towardZ (a b c : Int) : Int := if c < 1 then a else if a ≤ b then (if b - a ≤ c then b else a + c) else (if a - b ≤ c then b else a - c)
theorem udiff {a b : Int} (ha : I64 a) (hb : I64 b) (h : a ≤ b) : IntKind.u64.wrap (wrap64 (b - a)) = b - a := by
  unfold I64 at *; rw [u64w]; unfold wrap64; omega
theorem udiff2 {a b : Int} (ha : I64 a) (hb : I64 b) (h : a ≤ b) : IntKind.u64.wrap (IntKind.u64.wrap b - IntKind.u64.wrap a) = b - a := by
  unfold I64 at *; rw [u64w, u64w, u64w]; omega
theorem upos {c : Int} (hc : I64 c) (h : 0 ≤ c) : IntKind.u64.wrap c = c := by
  unfold I64 at *; rw [u64w]; omega

theorem toward_f (a b c : Int) (ha : I64 a) (hb : I64 b) (hc : I64 c) (k : Nat) : fx_Toward.f (k + 2) a b c = some (towardZ a b c) := by
  unfold fx_Toward.f towardZ
  by_cases h1 : c < 1
  · rw [if_pos h1, if_pos h1]
  · rw [if_neg h1, if_neg h1]
    by_cases h2 : a ≤ b
    · rw [if_pos h2, if_pos h2, udiff ha hb h2, upos hc (by omega)]
      by_cases h3 : b - a ≤ c
      · rw [if_pos h3, decide_eq_true h3]
        simp only [fx_Toward.j0, fx_Toward.j1, if_true]
      · rw [if_neg h3, decide_eq_false h3]
        simp only [fx_Toward.j0, fx_Toward.j1]
        rw [if_neg (by decide), if_neg (by omega), if_neg (by decide), if_pos (by omega), w64 (by unfold I64 at *; omega)]
    · rw [if_neg h2, if_neg h2]
      simp only [fx_Toward.j0]
      rw [if_neg (by decide), if_pos (by omega), udiff hb ha (by omega), upos hc (by omega)]
      by_cases h3 : a - b ≤ c
      · rw [if_pos h3, decide_eq_true h3]
        simp only [fx_Toward.j1, if_true]
      · rw [if_neg h3, decide_eq_false h3]
        simp only [fx_Toward.j1]
        rw [if_neg (by decide), if_neg (by omega), w64 (by unfold I64 at *; omega)]
theorem toward_ev (a b c : Int) (ha : I64 a) (hb : I64 b) (hc : I64 c) : Ev (fun k => fx_Toward.f k a b c) (towardZ a b c) := Ev.of (fx_Toward.mono a b c) (toward_f a b c ha hb hc 0)

theorem refToward_f (a b c : Int) (ha : I64 a) (hb : I64 b) (hc : I64 c) (k : Nat) : rheostatref03_Toward.f (k + 1) a b c = some (towardZ a b c) := by
  unfold rheostatref03_Toward.f towardZ
  by_cases h1 : c < 1
  · rw [if_pos h1, if_pos h1]
    simp only [rheostatref03_Toward.j0, if_true]
  · rw [if_neg h1, if_neg h1]
    by_cases h0 : a = b
    · subst h0
      simp only [rheostatref03_Toward.j0, beq_self_eq_true, if_true]
      rw [if_pos (by omega), if_pos (by omega)]
    · rw [beq_eq_false_iff_ne.mpr h0]
      simp only [rheostatref03_Toward.j0]
      rw [if_neg (by decide)]
      by_cases h2 : a < b
      · rw [if_pos h2, if_pos (show a ≤ b by omega), udiff2 ha hb (by omega), upos hc (by omega)]
        split
        · rfl
        · rw [w64 (by unfold I64 at *; omega)]
      · rw [if_neg h2, if_neg (show ¬ a ≤ b by omega), udiff2 hb ha (by omega), upos hc (by omega)]
        split
        · rfl
        · rw [w64 (by unfold I64 at *; omega)]
theorem refToward_ev (a b c : Int) (ha : I64 a) (hb : I64 b) (hc : I64 c) : Ev (fun k => rheostatref03_Toward.f k a b c) (towardZ a b c) := Ev.of (rheostatref03_Toward.mono a b c) (refToward_f a b c ha hb hc 0)

def sizeZ (a : Int) : Int := if a = -9223372036854775808 then 9223372036854775807 else if a < 0 then -a else a
theorem size_f (a : Int) (ha : I64 a) : fx_Size.f a = some (sizeZ a) := by
  unfold fx_Size.f sizeZ I64 at *
  by_cases h : a = -9223372036854775808
  · subst h; decide +kernel
  · rw [if_neg h]
    split
    · rw [w64 (by unfold I64; omega), if_neg (by omega)]
    · rfl
theorem refSize_f (a : Int) (ha : I64 a) : rheostatref03_Size.f a = some (sizeZ a) := by
  unfold rheostatref03_Size.f sizeZ I64 at *
  split
  · rfl
  · split
    · rw [w64 (by unfold I64; omega)]
    · rfl

def betweenZ (a b c : Int) : Int := if c < a then a else if c > b then b else c
theorem between_f (a b c : Int) : fx_Between.f a b c = some (betweenZ a b c) := by
  unfold fx_Between.f betweenZ; repeat' (first | rfl | split)
theorem refBetween_f (a b c : Int) : rheostatref03_Between.f a b c = some (betweenZ a b c) := by
  unfold rheostatref03_Between.f betweenZ; repeat' (first | rfl | split)

/-- n and x, within b. -/
def addZ (b n x : Int) : Int := betweenZ (-b) b (n + x)
theorem addZ_in (b n x : Int) (hb : 0 ≤ b) : -b ≤ addZ b n x ∧ addZ b n x ≤ b := by
  unfold addZ betweenZ; repeat' (first | omega | split)
def sumZ (b : Int) (n : Int) (l : List Int) : Int := l.foldl (addZ b) n
theorem sumZ_in (b : Int) (hb : 0 ≤ b) (l : List Int) : ∀ n, -b ≤ n → n ≤ b → -b ≤ sumZ b n l ∧ sumZ b n l ≤ b := by
  induction l with
  | nil => intro n h1 h2; exact ⟨h1, h2⟩
  | cons x l ih => intro n _ _; exact ih _ (addZ_in b n x hb).1 (addZ_in b n x hb).2

theorem drop_at {xs : List Int} {i : Nat} (h : i < xs.length) : xs.drop i = rd xs (i : Int) :: xs.drop (i + 1) := by
  rw [List.drop_eq_getElem_cons h]
  simp [rd, List.getElem?_eq_getElem h]

theorem sum_loop (b : Int) (xs : List Int) (hb : 1 ≤ b) (hb2 : b ≤ 2305843009213693952) (hl : xs.length ≤ 9223372036854775807) (d : Nat) :
    ∀ (k i : Nat) (n : Int), i + d = xs.length → -b ≤ n → n ≤ b → d < k → fx_Sum.l0 k b n xs (xs.length : Int) (i : Int) = some (sumZ b n (xs.drop i), 0) := by
  induction d with
  | zero =>
    intro k i n hi _ _ hk
    obtain ⟨k, rfl⟩ : ∃ m, k = m + 1 := ⟨k - 1, by omega⟩
    simp only [fx_Sum.l0]
    rw [if_neg (by omega), List.drop_eq_nil_of_le (by omega)]
    rfl
  | succ d ih =>
    intro k i n hi h1 h2 hk
    obtain ⟨k, rfl⟩ : ∃ m, k = m + 1 := ⟨k - 1, by omega⟩
    have hlt : i < xs.length := by omega
    simp only [fx_Sum.l0]
    rw [if_pos (by omega), if_pos (by omega), if_pos (by omega), between_f]
    simp only [Option.bind_some]
    have e1 : wrap64 (wrap64 (-b) - n) = -b - n := by rw [w64 (n := -b) (by unfold I64; omega), w64 (by unfold I64; omega)]
    have e2 : wrap64 (b - n) = b - n := w64 (by unfold I64; omega)
    have e3 : wrap64 (n + betweenZ (-b - n) (b - n) (rd xs (i : Int))) = addZ b n (rd xs (i : Int)) := by
      rw [w64]
      · unfold addZ betweenZ
        split
        · rw [if_pos (by omega)]; omega
        · split
          · rw [if_neg (by omega), if_pos (by omega)]; omega
          · rw [if_neg (by omega), if_neg (by omega)]
      · unfold betweenZ I64
        repeat' (first | omega | split)
    have e4 : wrap64 ((i : Int) + 1) = ((i + 1 : Nat) : Int) := by rw [w64 (by unfold I64; omega)]; omega
    rw [e1, e2, e3, e4, drop_at hlt]
    have hz := addZ_in b n (rd xs (i : Int)) (by omega)
    exact ih k (i + 1) _ (by omega) hz.1 hz.2 (by omega)

theorem bound_f (b : Int) : fx_bound.f b = some (if b < 1 ∨ b > 2305843009213693952 then 2 else 0) := by
  unfold fx_bound.f
  by_cases h1 : b < 1
  · rw [if_pos h1, if_pos (.inl h1)]
  · by_cases h2 : b > 2305843009213693952
    · rw [if_neg h1, if_pos h2, if_pos (.inr h2)]
    · rw [if_neg h1, if_neg h2, if_neg (by omega)]

def sumR (b : Int) (l : List Int) : Int × Int := if b < 1 ∨ b > 2305843009213693952 then (0, 2) else (sumZ b 0 l, 0)
theorem sum_ev (b : Int) (xs : List Int) (hl : xs.length ≤ 9223372036854775807) : Ev (fun k => fx_Sum.f k b xs) (sumR b xs) := by
  refine Ev.of (fx_Sum.mono b xs) (k := xs.length + 1) ?_
  unfold fx_Sum.f sumR
  rw [bound_f]
  simp only [Option.bind_some]
  by_cases h : b < 1 ∨ b > 2305843009213693952
  · rw [if_pos h, if_pos h, if_neg (by omega)]
  · rw [if_neg h, if_neg h, if_pos rfl]
    exact sum_loop b xs (by omega) (by omega) hl xs.length _ 0 0 (by omega) (by omega) (by omega) (by omega)

theorem most_f : rheostatref03_Most.f = some 2305843009213693952 := rfl
def clampR (b n : Int) : Int × Int := if b < 1 ∨ b > 2305843009213693952 then (0, 2) else (betweenZ (-b) b n, 0)
theorem clamp_f (b n : Int) : fx_Clamp.f b n = some (clampR b n) := by
  unfold fx_Clamp.f clampR
  rw [bound_f]
  simp only [Option.bind_some]
  by_cases h : b < 1 ∨ b > 2305843009213693952
  · rw [if_pos h, if_pos h, if_neg (by omega)]
  · rw [if_neg h, if_neg h, if_pos rfl, between_f, w64 (by unfold I64; omega)]
    rfl
theorem refClamp_f (b n : Int) : rheostatref03_Clamp.f b n = some (clampR b n) := by
  unfold rheostatref03_Clamp.f clampR
  rw [most_f]
  simp only [Option.bind_some]
  by_cases h1 : b < 1
  · rw [if_pos h1, if_pos (.inl h1)]
  · by_cases h2 : b > 2305843009213693952
    · rw [if_neg h1, if_pos h2, if_pos (.inr h2)]
    · rw [if_neg h1, if_neg h2, if_neg (by omega), refBetween_f, w64 (by unfold I64; omega)]
      rfl

theorem ref_loop (b : Int) (xs : List Int) (hb : 1 ≤ b) (hb2 : b ≤ 2305843009213693952) (hl : xs.length ≤ 9223372036854775807) (d : Nat) :
    ∀ (k i : Nat) (n : Int), i + d = xs.length → -b ≤ n → n ≤ b → 2 * d < k → rheostatref03_Sum.l0 k b xs n (i : Int) = some (sumZ b n (xs.drop i), 0) := by
  induction d with
  | zero =>
    intro k i n hi _ _ hk
    obtain ⟨k, rfl⟩ : ∃ m, k = m + 1 := ⟨k - 1, by omega⟩
    simp only [rheostatref03_Sum.l0]
    rw [if_neg (by omega), List.drop_eq_nil_of_le (by omega)]
    rfl
  | succ d ih =>
    intro k i n hi h1 h2 hk
    obtain ⟨k, rfl⟩ : ∃ m, k = m + 1 + 1 := ⟨k - 2, by omega⟩
    have hlt : i < xs.length := by omega
    have e4 : wrap64 ((i : Int) + 1) = ((i + 1 : Nat) : Int) := by rw [w64 (by unfold I64; omega)]; omega
    have hz := addZ_in b n (rd xs (i : Int)) (by omega)
    have go := ih k (i + 1) (addZ b n (rd xs (i : Int))) (by omega) hz.1 hz.2 (by omega)
    rw [drop_at hlt]
    have e0 : sumZ b n (rd xs (i : Int) :: xs.drop (i + 1)) = sumZ b (addZ b n (rd xs (i : Int))) (xs.drop (i + 1)) := rfl
    rw [e0, ← go]
    have e1 : wrap64 (wrap64 (-b) - n) = -b - n := by rw [w64 (n := -b) (by unfold I64; omega), w64 (by unfold I64; omega)]
    have e2 : wrap64 (b - n) = b - n := w64 (by unfold I64; omega)
    have e3 : wrap64 (-b) = -b := w64 (by unfold I64; omega)
    simp only [rheostatref03_Sum.l0, rheostatref03_Sum.j2]
    rw [if_pos (by omega), if_pos (by omega), e1, e2, e3, e4]
    unfold addZ betweenZ
    clear go hz e0
    generalize rd xs (i : Int) = x
    by_cases hp : x > 0
    · rw [if_pos hp]
      by_cases hq : x > b - n
      · rw [decide_eq_true hq, if_pos rfl, if_neg (by omega), if_pos (by omega)]
      · rw [decide_eq_false hq, if_neg (by decide), if_neg (by omega), w64 (by unfold I64; omega), if_neg (by omega), if_neg (by omega)]
    · rw [if_neg hp, if_neg (by decide)]
      by_cases hn : x < 0
      · rw [if_pos hn]
        by_cases hq : x < -b - n
        · rw [if_pos hq, if_pos (by omega)]
        · rw [if_neg hq, w64 (by unfold I64; omega), if_neg (by omega), if_neg (by omega)]
      · rw [if_neg hn, w64 (by unfold I64; omega), if_neg (by omega), if_neg (by omega)]
theorem refSum_ev (b : Int) (xs : List Int) (hl : xs.length ≤ 9223372036854775807) : Ev (fun k => rheostatref03_Sum.f k b xs) (sumR b xs) := by
  refine Ev.of (rheostatref03_Sum.mono b xs) (k := 2 * xs.length + 2) ?_
  unfold rheostatref03_Sum.f sumR
  rw [most_f]
  simp only [Option.bind_some]
  by_cases h1 : b < 1
  · rw [if_pos h1, if_pos (.inl h1)]
    simp only [rheostatref03_Sum.j0, if_true]
  · by_cases h2 : b > 2305843009213693952
    · rw [if_neg h1, if_pos (.inr h2), decide_eq_true h2]
      simp only [rheostatref03_Sum.j0, if_true]
    · rw [if_neg h1, if_neg (by omega), decide_eq_false h2]
      simp only [rheostatref03_Sum.j0]
      rw [if_neg (by decide)]
      exact ref_loop b xs (by omega) (by omega) hl xs.length _ 0 0 (by omega) (by omega) (by omega) (by omega)

theorem ints_f (l : List Int) (h : l.length < 17592186044416) : rheostatbase_Ints.f l = some l := by
  unfold rheostatbase_Ints.f
  simp only [Option.bind_some, List.length_nil, List.nil_append]
  rw [if_pos (by omega)]

def amongZ (a n : Int) : Int := a % 18446744073709551616 % n
theorem amongZ_in (a n : Int) (h : 1 ≤ n) : 0 ≤ amongZ a n ∧ amongZ a n < n := ⟨Int.emod_nonneg _ (by omega), Int.emod_lt_of_pos _ (by omega)⟩
theorem among_f (a n : Int) (h : 1 ≤ n) (h2 : n ≤ 9223372036854775807) : rheostatbase_Among.f a n = some (amongZ a n) := by
  unfold rheostatbase_Among.f
  rw [if_neg (by omega), upos (c := n) (by unfold I64; omega) (by omega), if_neg (by omega), u64w, Int.tmod_eq_emod_of_nonneg (by omega)]
  have := amongZ_in a n h
  unfold amongZ at *
  rw [w64 (by unfold I64; omega)]

/-- The division, rounded down, of the reference. -/
theorem refDown_f (a b : Int) (ha : I64 a) (hb : I64 b) : rheostatref03_Down.f a b = some (if b < 1 then (0, 2) else (a / b, 0)) := by
  unfold rheostatref03_Down.f
  unfold I64 at *
  by_cases h : b < 1
  · rw [if_pos h, if_pos h]
  · rw [if_neg h, if_neg h, if_neg (by omega)]
    by_cases hm : a.tmod b < 0
    · rw [if_pos hm]
      have hq := tdiv_fix a b (by omega) hb.2 ha.1 ha.2 hm
      have e : wrap64 (wrap64 (a.tdiv b) - 1) = wrap64 (a.tdiv b - 1) := by unfold wrap64; omega
      rw [e, hq.1]
    · rw [if_neg hm]
      have hq := tdiv_ok a b (by omega) (by omega)
      have e1 : -9223372036854775808 ≤ a / b := (Int.le_ediv_iff_mul_le (show 0 < b by omega)).2 (by omega)
      have e2 : a / b < 9223372036854775808 := (Int.ediv_lt_iff_lt_mul (show 0 < b by omega)).2 (by omega)
      rw [hq.1, w64 (by unfold I64; omega)]
theorem refLeft_f (a b : Int) (ha : I64 a) (hb : I64 b) : rheostatref03_Left.f a b = some (if b < 1 then (0, 2) else (a % b, 0)) := by
  unfold rheostatref03_Left.f
  unfold I64 at *
  by_cases h : b < 1
  · rw [if_pos h, if_pos h]
  · rw [if_neg h, if_neg h, if_neg (by omega)]
    by_cases hm : a.tmod b < 0
    · rw [if_pos hm, (tdiv_fix a b (by omega) hb.2 ha.1 ha.2 hm).2]
    · rw [if_neg hm, (tdiv_ok a b (by omega) (by omega)).2]
theorem down_f (a b : Int) (ha : I64 a) (hb : I64 b) : fx_Down.f a b = some (if b < 1 then (0, 2) else (a / b, 0)) := by
  unfold fx_Down.f I64 at *
  rw [if_pos ⟨ha.1, ha.2, hb.2⟩]
  split <;> rfl
theorem near_f (a b : Int) (ha : I64 a) (hb : I64 b) : fx_Near.f a b = some (if b < 1 then (0, 2) else (nearV a b, 0)) := by
  unfold fx_Near.f I64 at *
  rw [if_pos ⟨ha.1, ha.2, hb.2⟩]
  split <;> rfl
theorem even_f (a b : Int) (ha : I64 a) (hb : I64 b) : fx_Even.f a b = some (if b < 1 then (0, 2) else (evenV a b, 0)) := by
  unfold fx_Even.f I64 at *
  rw [if_pos ⟨ha.1, ha.2, hb.2⟩]
  split <;> rfl
theorem left_f (a b : Int) (ha : I64 a) (hb : I64 b) : fx_Left.f a b = some (if b < 1 then (0, 2) else (a % b, 0)) := by
  unfold fx_Left.f
  rw [down_f a b ha hb]
  simp only [Option.bind_some]
  by_cases h : b < 1
  · rw [if_pos h, if_pos h, if_neg (by decide)]
  · rw [if_neg h, if_neg h, if_pos rfl]
    have e1 := Int.mul_ediv_add_emod a b
    have e2 := Int.emod_nonneg a (show b ≠ 0 by omega)
    have e3 := Int.emod_lt_of_pos a (show 0 < b by omega)
    rw [Int.mul_comm] at e1
    generalize a / b * b = p at *
    generalize a % b = r at *
    unfold I64 at *
    have : wrap64 (a - wrap64 p) = r := by unfold wrap64; omega
    rw [this]
theorem refNear_f (a b : Int) (ha : I64 a) (hb : I64 b) : rheostatref03_Near.f a b = some (if b < 1 then (0, 2) else (nearV a b, 0)) := by
  unfold rheostatref03_Near.f
  rw [refDown_f a b ha hb, refLeft_f a b ha hb]
  simp only [Option.bind_some]
  by_cases h : b < 1
  · rw [if_pos h, if_pos h, if_pos h, if_neg (by decide)]
  · have e2 := Int.emod_nonneg a (show b ≠ 0 by omega)
    have e3 := Int.emod_lt_of_pos a (show 0 < b by omega)
    have e4 : wrap64 (b - a % b) = b - a % b := w64 (by unfold I64 at *; omega)
    rw [if_neg h, if_neg h, if_neg h, if_pos rfl]
    simp only [e4]
    by_cases hu : nearUp a b (a % b) = true
    · rw [nearV_up a b (by omega) ha.1 ha.2 hu]
      unfold nearUp at hu
      simp only [decide_eq_true_eq] at hu
      by_cases h1 : a % b > b - a % b
      · rw [if_pos h1]
      · rw [if_neg h1, if_pos (by omega), if_pos (by omega)]
    · have hv : nearV a b = a / b := by unfold nearV; rw [if_neg hu]
      rw [hv]
      unfold nearUp at hu
      simp only [decide_eq_true_eq] at hu
      rw [if_neg (by omega)]
      by_cases h2 : a % b = b - a % b
      · rw [if_pos h2, if_neg (by omega)]
      · rw [if_neg h2]
theorem refEven_f (a b : Int) (ha : I64 a) (hb : I64 b) : rheostatref03_Even.f a b = some (if b < 1 then (0, 2) else (evenV a b, 0)) := by
  unfold rheostatref03_Even.f
  rw [refDown_f a b ha hb, refLeft_f a b ha hb]
  simp only [Option.bind_some]
  by_cases h : b < 1
  · rw [if_pos h, if_pos h, if_pos h, if_neg (by decide)]
  · have e2 := Int.emod_nonneg a (show b ≠ 0 by omega)
    have e3 := Int.emod_lt_of_pos a (show 0 < b by omega)
    have e4 : wrap64 (b - a % b) = b - a % b := w64 (by unfold I64 at *; omega)
    have e5 : Int.tmod (a / b) 2 = 0 ↔ a / b % 2 = 0 := by
      rw [Int.tmod_eq_emod]
      split <;> omega
    rw [if_neg h, if_neg h, if_neg h, if_pos rfl]
    simp only [e4, e5]
    by_cases hu : evenUp (a / b) b (a % b) = true
    · rw [evenV_up a b (by omega) ha.1 ha.2 hu]
      unfold evenUp at hu
      simp only [decide_eq_true_eq] at hu
      by_cases h1 : a % b > b - a % b
      · rw [if_pos h1]
      · rw [if_neg h1, if_pos (by omega), if_neg (by omega)]
    · have hv : evenV a b = a / b := by unfold evenV; rw [if_neg hu]
      rw [hv]
      unfold evenUp at hu
      simp only [decide_eq_true_eq] at hu
      rw [if_neg (by omega)]
      by_cases h2 : a % b = b - a % b
      · rw [if_pos h2, if_pos (by omega)]
      · rw [if_neg h2]
end Go.Proofs.Ytfebnnjdkkcphaa.FxL
