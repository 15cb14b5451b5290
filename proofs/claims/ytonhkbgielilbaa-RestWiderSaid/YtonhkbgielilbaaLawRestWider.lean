-- The row of rheostat/rheostatlaw16.RestWider, out of its pure statement and the walk. Written by wip/hprint.py.
import Derived.Test.YtonhkbgielilbaaRows
import Derived.Test.YtonhkbgielilbaaStatRestWider
import Derived.Test.YtonhkbgielilbaaPureRestWider
import Derived.Test.YtonhkbgielilbaaOpen
import Derived.WalkKit
import Derived.ProofKit
import Derived.OpenShut
import Derived.ShutString
import Derived.ChangeOld
import Derived.Below
import Derived.SizedLaws
import Derived.Test.YtonhkbgielilbaaWSized
namespace Go.Proofs.Ytonhkbgielilbaa.restWider
open Go.ChangeShapes Go.WideShapes Go.ChangeAt Go.RowKit Go.Proofs.YtonhkbgielilbaaW.PrintWords
open Go.ChangeMaps (open_string shut_string)
set_option linter.unusedVariables false
theorem own : ownKnob Try.prog.godebug = none := by kernel_rfl
theorem laidOut : laidOutB Try.prog = true := by kernel_rfl
theorem flat0 : Open.flat Try.prog 12 23 = some [3, 3, 3, 3, 3, 3, 3, 3] := by kernel_rfl
theorem flat1 : Open.flat Try.prog 12 25 = some [3, 3, 3, 3] := by kernel_rfl
set_option maxRecDepth 100000 in
theorem lifted (os : Os) (started : os.Started) (H : Type) (enc : TypeId × Value → H) :
    ReturnsInHanded {} Try.checked os 7 .any (Rows.restWiderSpec.pre6 enc Try.prog Try.f7 Rows.restWiderRow.domain false) (Rows.restWiderSpec.post enc Try.prog Try.f7 false true false false) := by
  refine returnsInHanded_of_change_sized (C := Try.checked) own started (by kernel_rfl) Try.func7
    (ChangeSpec.witness6 (enc := enc) (C := Try.checked) false ⟨#[], #[.agg #[.int .i64 0, .int .i64 0, .int .i64 0, .int .i64 0, .int .i64 0, .int .i64 0, .int .i64 0, .int .i64 0], .agg #[.int .i64 0, .int .i64 0, .int .i64 0, .int .i64 0], .int .i64 0, .int .i64 0], []⟩ 8 (by kernel_rfl) (by kernel_rfl) (by kernel_rfl) (by kernel_rfl)) ?_
  intro W base args ds gs before hval0 hW hcnd hsz0 _
  have hsz : (DataW.weightsEach Try.prog (Try.f7.params.toList ++ Rows.restWiderSpec.plain.varTypes Try.prog) (ds ++ gs)).all (· ≤ reachBytes) = true := hsz0
  have hval : ∀ (j : Nat) t v, Try.f7.params[j]? = some t → args[j]? = some v → Value.okWide Try.prog W .any base t v := hval0
  have hW' := hW
  obtain ⟨p, q, hA0, hV, rfl, hfz, hnd⟩ := hW
  have hA : DataW.TrodAll enc Try.prog W 0 (fun _ => true) true Try.f7.params.toList args.toList ds p := hA0
  rw [Try.params7] at hA hval hsz
  obtain ⟨v0, vs0, d0, ds0, p0, z0, hargs, rfl, rfl, h0, r0⟩ := trodAll_cons hA
  obtain ⟨v1, vs1, d1, ds1, p1, z1, rfl, rfl, rfl, h1, r1⟩ := trodAll_cons r0
  obtain ⟨v2, vs2, d2, ds2, p2, z2, rfl, rfl, rfl, h2, r2⟩ := trodAll_cons r1
  obtain ⟨v3, vs3, d3, ds3, p3, z3, rfl, rfl, rfl, h3, r3⟩ := trodAll_cons r2
  obtain ⟨rfl, rfl, rfl⟩ := trodAll_nil r3
  obtain rfl : args = #[v0, v1, v2, v3] := by cases args; simp_all
  obtain ⟨rfl, rfl⟩ := trodVars_none hV
  obtain ⟨cs0, rfl, hs0⟩ := okWide_struct Try.underlying23 (hval 0 23 v0 rfl rfl)
  have q0 := Open.struct_cells 12 flat0 h0
  obtain ⟨cl0⟩ := cs0
  obtain ⟨cv0_0, cr0_0, ce0_0, ⟨cm0_0, cy0_0, ct0_0⟩, q0_1⟩ := q0
  obtain ⟨a0_0, ca0_0, _, w0_0⟩ := DataW.trod_int Try.underlying3 ct0_0
  simp only [List.cons.injEq, and_true] at ca0_0; subst ca0_0
  obtain ⟨cv0_1, cr0_1, ce0_1, ⟨cm0_1, cy0_1, ct0_1⟩, q0_2⟩ := q0_1
  obtain ⟨a0_1, ca0_1, _, w0_1⟩ := DataW.trod_int Try.underlying3 ct0_1
  simp only [List.cons.injEq, and_true] at ca0_1; subst ca0_1
  obtain ⟨cv0_2, cr0_2, ce0_2, ⟨cm0_2, cy0_2, ct0_2⟩, q0_3⟩ := q0_2
  obtain ⟨a0_2, ca0_2, _, w0_2⟩ := DataW.trod_int Try.underlying3 ct0_2
  simp only [List.cons.injEq, and_true] at ca0_2; subst ca0_2
  obtain ⟨cv0_3, cr0_3, ce0_3, ⟨cm0_3, cy0_3, ct0_3⟩, q0_4⟩ := q0_3
  obtain ⟨a0_3, ca0_3, _, w0_3⟩ := DataW.trod_int Try.underlying3 ct0_3
  simp only [List.cons.injEq, and_true] at ca0_3; subst ca0_3
  obtain ⟨cv0_4, cr0_4, ce0_4, ⟨cm0_4, cy0_4, ct0_4⟩, q0_5⟩ := q0_4
  obtain ⟨a0_4, ca0_4, _, w0_4⟩ := DataW.trod_int Try.underlying3 ct0_4
  simp only [List.cons.injEq, and_true] at ca0_4; subst ca0_4
  obtain ⟨cv0_5, cr0_5, ce0_5, ⟨cm0_5, cy0_5, ct0_5⟩, q0_6⟩ := q0_5
  obtain ⟨a0_5, ca0_5, _, w0_5⟩ := DataW.trod_int Try.underlying3 ct0_5
  simp only [List.cons.injEq, and_true] at ca0_5; subst ca0_5
  obtain ⟨cv0_6, cr0_6, ce0_6, ⟨cm0_6, cy0_6, ct0_6⟩, q0_7⟩ := q0_6
  obtain ⟨a0_6, ca0_6, _, w0_6⟩ := DataW.trod_int Try.underlying3 ct0_6
  simp only [List.cons.injEq, and_true] at ca0_6; subst ca0_6
  obtain ⟨cv0_7, cr0_7, ce0_7, ⟨cm0_7, cy0_7, ct0_7⟩, q0_8⟩ := q0_7
  obtain ⟨a0_7, ca0_7, _, w0_7⟩ := DataW.trod_int Try.underlying3 ct0_7
  simp only [List.cons.injEq, and_true] at ca0_7; subst ca0_7
  have qe0 : cr0_7 = [] := q0_8
  subst qe0
  subst ce0_7
  subst ce0_6
  subst ce0_5
  subst ce0_4
  subst ce0_3
  subst ce0_2
  subst ce0_1
  simp only at ce0_0
  subst ce0_0
  have k0 := h0
  have lt0 : ∀ x ∈ p0, x.block < W.heap.size := by obtain ⟨m, hm⟩ := k0; exact DataW.trod_lt m _ _ _ hm
  obtain ⟨cs1, rfl, hs1⟩ := okWide_struct Try.underlying25 (hval 1 25 v1 rfl rfl)
  have q1 := Open.struct_cells 12 flat1 h1
  obtain ⟨cl1⟩ := cs1
  obtain ⟨cv1_0, cr1_0, ce1_0, ⟨cm1_0, cy1_0, ct1_0⟩, q1_1⟩ := q1
  obtain ⟨a1_0, ca1_0, _, w1_0⟩ := DataW.trod_int Try.underlying3 ct1_0
  simp only [List.cons.injEq, and_true] at ca1_0; subst ca1_0
  obtain ⟨cv1_1, cr1_1, ce1_1, ⟨cm1_1, cy1_1, ct1_1⟩, q1_2⟩ := q1_1
  obtain ⟨a1_1, ca1_1, _, w1_1⟩ := DataW.trod_int Try.underlying3 ct1_1
  simp only [List.cons.injEq, and_true] at ca1_1; subst ca1_1
  obtain ⟨cv1_2, cr1_2, ce1_2, ⟨cm1_2, cy1_2, ct1_2⟩, q1_3⟩ := q1_2
  obtain ⟨a1_2, ca1_2, _, w1_2⟩ := DataW.trod_int Try.underlying3 ct1_2
  simp only [List.cons.injEq, and_true] at ca1_2; subst ca1_2
  obtain ⟨cv1_3, cr1_3, ce1_3, ⟨cm1_3, cy1_3, ct1_3⟩, q1_4⟩ := q1_3
  obtain ⟨a1_3, ca1_3, _, w1_3⟩ := DataW.trod_int Try.underlying3 ct1_3
  simp only [List.cons.injEq, and_true] at ca1_3; subst ca1_3
  have qe1 : cr1_3 = [] := q1_4
  subst qe1
  subst ce1_3
  subst ce1_2
  subst ce1_1
  simp only at ce1_0
  subst ce1_0
  have k1 := h1
  have lt1 : ∀ x ∈ p1, x.block < W.heap.size := by obtain ⟨m, hm⟩ := k1; exact DataW.trod_lt m _ _ _ hm
  obtain ⟨a2, rfl, rfl, rfl, w2⟩ := open_int Try.underlying3 (hval 2 3 v2 rfl rfl) h2
  obtain ⟨a3, rfl, rfl, rfl, w3⟩ := open_int Try.underlying3 (hval 3 3 v3 rfl rfl) h3
  clear hA0 hval0 hsz0 hsz
  refine (Stat.RestWider.walk Pure.RestWider a0_0 a0_1 a0_2 a0_3 a0_4 a0_5 a0_6 a0_7 a1_0 a1_1 a1_2 a1_3 a2 a3  W w0_0 w0_1 w0_2 w0_3 w0_4 w0_5 w0_6 w0_7 w1_0 w1_1 w1_2 w1_3 w2 w3).mono fun e W' ⟨he, bel⟩ => ?_
  subst he
  exact ⟨_, rfl, _, _, _, [], _, [], hW', trodAll_mk1 (shut_bool Try.underlying4 _), (trodAll_cons_mk (Below.trod laidOut (by kernel_rfl) (of_decide_eq_true (by kernel_rfl)) k0 bel lt0) (trodAll_cons_mk (Below.trod laidOut (by kernel_rfl) (of_decide_eq_true (by kernel_rfl)) k1 bel lt1) (trodAll_cons_mk (shut_int Try.underlying3 w2) (trodAll_cons_mk (shut_int Try.underlying3 w3) trodAll_mk0)))), rfl, bel.frame _, fun h => by cases h⟩
theorem over : Rows.restWiderRow.holds Try.pinned (OpenSpec.ofChange Rows.restWiderSpec) :=
  OpenClaim.holds_of_wide 7 Try.f7 rfl rfl rfl rfl rfl rfl rfl ⟨rfl, rfl, rfl, rfl, rfl⟩ rfl rfl rfl rfl rfl (by kernel_rfl) Try.func7 (by kernel_rfl)
    (of_decide_eq_true (by kernel_rfl)) (by unfold Func.isWrapper; first | (rw [if_pos (by decide +kernel)]; kernel_rfl) | (rw [if_neg (by decide +kernel)]; exact ⟨rfl, rfl⟩))
    (fun os started H enc _ => lifted os started H enc)
theorem proved : Rows.RestWiderSaid := over
#print axioms proved
end Go.Proofs.Ytonhkbgielilbaa.restWider
namespace Go.Proofs.Ytonhkbgielilbaa
/-- The row, under a short name, for the claim. -/
theorem restWider_holds : Rows.RestWiderSaid := restWider.proved
end Go.Proofs.Ytonhkbgielilbaa
