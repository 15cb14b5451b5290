/- Both roundings differ from the division by a half at most, and from one another just at a half, by one at most. -/
import Derived.Test.YtfebnnjdkkcphaaPAllx
import Derived.Test.YtfebnnjdkkcphaaFxL
namespace Go.Proofs.Ytfebnnjdkkcphaa.Halves
open Go.RowKit Go.Proofs.Ytfebnnjdkkcphaa.Hand Go.Proofs.Ytfebnnjdkkcphaa.PAll Go.Proofs.YtfebnnjdkkcphaaW.PrintWords Go.Proofs.YtfebnnjdkkcphaaW.PrintLast Go.Proofs.YtfebnnjdkkcphaaW.PrintMore
open Go.Proofs.Ytfebnnjdkkcphaa.FxL
set_option linter.unusedVariables false

/-- what the walk is told of the numbers: n, v, r of A and B. -/
structure Nums (A B n v r : Int) : Prop where
  a0 : -1152921504606846976 < A
  a1 : A < 1152921504606846976
  b0 : 1 ≤ B
  b1 : B ≤ 1152921504606846976
  n0 : -2305843009213693952 ≤ n ∧ n ≤ 2305843009213693952
  v0 : -2305843009213693952 ≤ v ∧ v ≤ 2305843009213693952
  nb : -4611686018427387904 ≤ n * B ∧ n * B ≤ 4611686018427387904
  vb : -4611686018427387904 ≤ v * B ∧ v * B ≤ 4611686018427387904
  r0 : 0 ≤ r ∧ r < B
  x1 : n * B - A ≤ B - (n * B - A)
  x2 : -(n * B - A) ≤ B + (n * B - A)
  y1 : v * B - A ≤ B - (v * B - A)
  y2 : -(v * B - A) ≤ B + (v * B - A)
  near : n = v ∨ (r = B - r ∧ n - v ≤ 1 ∧ v - n ≤ 1)
  even : r = B - r → v.tmod 2 = 0

theorem nums (A B : Int) (h0 : -1152921504606846976 < A) (h1 : A < 1152921504606846976) (h2 : 1 ≤ B) (h3 : B ≤ 1152921504606846976) : Nums A B (nearV A B) (evenV A B) (A % B) := by
  have e1 := Int.mul_ediv_add_emod A B
  have e2 := Int.emod_nonneg A (show B ≠ 0 by omega)
  have e3 := Int.emod_lt_of_pos A (show 0 < B by omega)
  have q1 : -1152921504606846976 ≤ A / B := (Int.le_ediv_iff_mul_le (show 0 < B by omega)).2 (by omega)
  have q2 : A / B < 1152921504606846976 := (Int.ediv_lt_iff_lt_mul (show 0 < B by omega)).2 (by omega)
  rw [Int.mul_comm] at e1
  have em : Int.tmod (A / B) 2 = 0 ↔ A / B % 2 = 0 := by rw [Int.tmod_eq_emod]; split <;> omega
  have em1 : Int.tmod (A / B + 1) 2 = 0 ↔ (A / B + 1) % 2 = 0 := by rw [Int.tmod_eq_emod]; split <;> omega
  have s1 : (A / B + 1) * B = A / B * B + B := by rw [Int.add_mul, Int.one_mul]
  unfold nearV evenV nearUp evenUp
  simp only [decide_eq_true_eq]
  generalize A % B = r at *
  generalize A / B = q at *
  by_cases c1 : B - r < r
  · rw [if_pos (.inl c1), if_pos (.inl c1)]
    refine ⟨h0, h1, h2, h3, by omega, by omega, by omega, by omega, by omega, by omega, by omega, by omega, by omega, .inl rfl, by omega⟩
  · by_cases c2 : r = B - r
    · by_cases c3 : 0 < A
      · rw [if_pos (.inr ⟨c2, c3⟩)]
        by_cases c4 : q % 2 = 1
        · rw [if_pos (.inr ⟨c2, c4⟩)]
          refine ⟨h0, h1, h2, h3, by omega, by omega, by omega, by omega, by omega, by omega, by omega, by omega, by omega, .inl rfl, fun _ => em1.2 (by omega)⟩
        · rw [if_neg (by omega)]
          refine ⟨h0, h1, h2, h3, by omega, by omega, by omega, by omega, by omega, by omega, by omega, by omega, by omega, .inr (by omega), fun _ => em.2 (by omega)⟩
      · rw [if_neg (by omega)]
        by_cases c4 : q % 2 = 1
        · rw [if_pos (.inr ⟨c2, c4⟩)]
          refine ⟨h0, h1, h2, h3, by omega, by omega, by omega, by omega, by omega, by omega, by omega, by omega, by omega, .inr (by omega), fun _ => em1.2 (by omega)⟩
        · rw [if_neg (by omega)]
          refine ⟨h0, h1, h2, h3, by omega, by omega, by omega, by omega, by omega, by omega, by omega, by omega, by omega, .inl rfl, fun _ => em.2 (by omega)⟩
    · rw [if_neg (by omega), if_neg (by omega)]
      refine ⟨h0, h1, h2, h3, by omega, by omega, by omega, by omega, by omega, by omega, by omega, by omega, by omega, .inl rfl, by omega⟩

set_option maxHeartbeats 4000000 in
theorem walked (a0 a1 t n v r : Int) (K : Nat) (w : World) (ht : 0 ≤ t) (ht2 : t < 1152921504606846976)
    (hA : -1152921504606846976 < a0.tmod 1152921504606846976) (hA2 : a0.tmod 1152921504606846976 < 1152921504606846976)
    (W1 : Aside0 (rheostatlaw03_works.f K = some true)) (W2 : Aside0 (rheostatbase_Among.f a1 1152921504606846976 = some t))
    (W3 : Aside0 (fx_Near.f (a0.tmod 1152921504606846976) (1 + t) = some (n, 0))) (W4 : Aside0 (fx_Even.f (a0.tmod 1152921504606846976) (1 + t) = some (v, 0)))
    (W5 : Aside0 (fx_Left.f (a0.tmod 1152921504606846976) (1 + t) = some (r, 0)))
    (N : Aside0 (Nums (a0.tmod 1152921504606846976) (1 + t) n v r)) :
    Calls Try.prog 9 #[.int .i64 a0, .int .i64 a1] w fun e w' => e = .returned (.bool true) ∧ Below w.heap.size w w' := by
  have n1 := N.out.n0.1
  have n2 := N.out.n0.2
  have v1 := N.out.v0.1
  have v2 := N.out.v0.2
  have nb1 := N.out.nb.1
  have nb2 := N.out.nb.2
  have vb1 := N.out.vb.1
  have vb2 := N.out.vb.2
  have r1 := N.out.r0.1
  have r2 := N.out.r0.2
  have x1 := N.out.x1
  have x2 := N.out.x2
  have y1 := N.out.y1
  have y2 := N.out.y2
  by_cases hr : r = 1 + t - r
  · have b1 : (r == 1 + t - r) = true := beq_iff_eq.2 hr
    have b2 : (v.tmod 2 == 0) = true := beq_iff_eq.2 (N.out.even hr)
    by_cases hn : n = v
    · have b3 : (n == v) = true := beq_iff_eq.2 hn
      clear hn hr N
      go_enter Try.func9, Try.ntmps9
      go_wp2_with (fail)
      refine (rheostatlaw03_works.calls K true _ W1.out).mono ?_
      rintro e w1 ⟨rfl, hb1⟩
      go_wp2_with (fail)
      refine (rheostatbase_Among.calls a1 1152921504606846976 t _ W2.out).mono ?_
      rintro e w2 ⟨rfl, hb2⟩
      go_wp2_with (fail)
      refine (fx_Near.calls _ _ n 0 _ W3.out).mono ?_
      rintro e w3 ⟨rfl, hb3⟩
      go_wp2_with (fail)
      refine (fx_Even.calls _ _ v 0 _ W4.out).mono ?_
      rintro e w4 ⟨rfl, hb4⟩
      go_wp2_with (fail)
      refine (fx_Left.calls _ _ r 0 _ W5.out).mono ?_
      rintro e w5 ⟨rfl, hb5⟩
      go_wp2_with (fail)
      all_goals
        go_ret
        exact ⟨rfl, below_step (below_step (below_step (below_step hb1 hb2.below) hb3) hb4) hb5.below⟩

    · have b3 : (n == v) = false := beq_eq_false_iff_ne.2 hn
      have d1 : n - v ≤ 1 := by have := N.out.near; omega
      have d2 : v - n ≤ 1 := by have := N.out.near; omega
      clear hn hr N
      go_enter Try.func9, Try.ntmps9
      go_wp2_with (fail)
      refine (rheostatlaw03_works.calls K true _ W1.out).mono ?_
      rintro e w1 ⟨rfl, hb1⟩
      go_wp2_with (fail)
      refine (rheostatbase_Among.calls a1 1152921504606846976 t _ W2.out).mono ?_
      rintro e w2 ⟨rfl, hb2⟩
      go_wp2_with (fail)
      refine (fx_Near.calls _ _ n 0 _ W3.out).mono ?_
      rintro e w3 ⟨rfl, hb3⟩
      go_wp2_with (fail)
      refine (fx_Even.calls _ _ v 0 _ W4.out).mono ?_
      rintro e w4 ⟨rfl, hb4⟩
      go_wp2_with (fail)
      refine (fx_Left.calls _ _ r 0 _ W5.out).mono ?_
      rintro e w5 ⟨rfl, hb5⟩
      go_wp2_with (fail)
      all_goals
        go_ret
        exact ⟨rfl, below_step (below_step (below_step (below_step hb1 hb2.below) hb3) hb4) hb5.below⟩

  · have b1 : (r == 1 + t - r) = false := beq_eq_false_iff_ne.2 hr
    have hn : n = v := by have := N.out.near; omega
    have b3 : (n == v) = true := beq_iff_eq.2 hn
    clear hn hr N
    go_enter Try.func9, Try.ntmps9
    go_wp2_with (fail)
    refine (rheostatlaw03_works.calls K true _ W1.out).mono ?_
    rintro e w1 ⟨rfl, hb1⟩
    go_wp2_with (fail)
    refine (rheostatbase_Among.calls a1 1152921504606846976 t _ W2.out).mono ?_
    rintro e w2 ⟨rfl, hb2⟩
    go_wp2_with (fail)
    refine (fx_Near.calls _ _ n 0 _ W3.out).mono ?_
    rintro e w3 ⟨rfl, hb3⟩
    go_wp2_with (fail)
    refine (fx_Even.calls _ _ v 0 _ W4.out).mono ?_
    rintro e w4 ⟨rfl, hb4⟩
    go_wp2_with (fail)
    refine (fx_Left.calls _ _ r 0 _ W5.out).mono ?_
    rintro e w5 ⟨rfl, hb5⟩
    go_wp2_with (fail)
    all_goals
      go_ret
      exact ⟨rfl, below_step (below_step (below_step (below_step hb1 hb2.below) hb3) hb4) hb5.below⟩


theorem halves (a0 a1 : Int) (w : World) (_h0 : (Lit.int .i64 a0).wf = true) (_h1 : (Lit.int .i64 a1).wf = true) :
    Calls Try.prog 9 #[.int .i64 a0, .int .i64 a1] w fun e w' => e = .returned (.bool true) ∧ Below w.heap.size w w' := by
  obtain ⟨K, hK⟩ := works_ev
  have ht := amongZ_in a1 1152921504606846976 (by omega)
  have hA : -1152921504606846976 < a0.tmod 1152921504606846976 := Int.lt_tmod_of_pos a0 (by omega)
  have hA2 : a0.tmod 1152921504606846976 < 1152921504606846976 := Int.tmod_lt_of_pos a0 (by omega)
  have hN := nums (a0.tmod 1152921504606846976) (1 + amongZ a1 1152921504606846976) hA hA2 (by omega) (by omega)
  have iA : I64 (a0.tmod 1152921504606846976) := by unfold I64; omega
  have iB : I64 (1 + amongZ a1 1152921504606846976) := by unfold I64; omega
  have hn := near_f _ _ iA iB
  have hv := even_f _ _ iA iB
  have hr := left_f _ _ iA iB
  rw [if_neg (by omega)] at hn hv hr
  exact walked a0 a1 _ _ _ _ K w ht.1 ht.2 hA hA2 ⟨hK K (by omega)⟩ ⟨among_f a1 1152921504606846976 (by omega) (by omega)⟩ ⟨hn⟩ ⟨hv⟩ ⟨hr⟩ ⟨hN⟩
end Go.Proofs.Ytfebnnjdkkcphaa.Halves
