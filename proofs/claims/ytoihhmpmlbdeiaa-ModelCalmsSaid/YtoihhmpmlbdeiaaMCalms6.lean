/- MCalms: what is proved for the claim, part 6: functions' reckonings, and what they give. -/
import Derived.Test.YtoihhmpmlbdeiaaMCalms5
import Derived.Test.YtoihhmpmlbdeiaaRows
import Derived.WalkKit
import Derived.ProofKit
import Derived.OpenShut
import Derived.ShutString
import Derived.ChangeOld
import Derived.Below
import Derived.SizedLaws
import Derived.Test.YtoihhmpmlbdeiaaMCalmsLZ
set_option linter.unusedVariables false
set_option linter.unusedSimpArgs false
/- The row of the law ModelCalms: whatever the input it gives true, and what came in stays. -/
namespace Go.Proofs.Ytoihhmpmlbdeiaa.modelCalms
open Go.ChangeShapes Go.WideShapes Go.ChangeAt Go.RowKit Go.Proofs.Ytoihhmpmlbdeiaa.Rig
open Go.ChangeMaps (open_string shut_string)
set_option linter.unusedVariables false

theorem own : ownKnob Try.prog.godebug = none := by kernel_rfl
theorem laidOut : laidOutB Try.prog = true := by kernel_rfl
theorem walk (a0_0 : Int) (a0_1 : Int) (a0_2 : Int) (a0_3 : Int) (a0_4 : Int) (a0_5 : Int) (a0_6 : Int) (a0_7 : Int) (a1 : Int) (a2 : Int) (A3 : Option Addr) (len3 cap3 : Nat) (zs3 : List Int) (w : World) (w0_0 : (Lit.int .i64 a0_0).wf = true) (w0_1 : (Lit.int .i64 a0_1).wf = true) (w0_2 : (Lit.int .i64 a0_2).wf = true) (w0_3 : (Lit.int .i64 a0_3).wf = true) (w0_4 : (Lit.int .i64 a0_4).wf = true) (w0_5 : (Lit.int .i64 a0_5).wf = true) (w0_6 : (Lit.int .i64 a0_6).wf = true) (w0_7 : (Lit.int .i64 a0_7).wf = true) (w1 : (Lit.int .i64 a1).wf = true) (w2 : (Lit.int .i64 a2).wf = true) (wz3 : (A3 = none ∧ len3 = 0 ∧ cap3 = 0 ∧ zs3 = []) ∨ ∃ x, A3 = some x ∧ len3 ≤ cap3 ∧ cap3 ≤ maxLen ∧ zs3.length = cap3 ∧ (∀ i, i < zs3.length → w.cell? (x.add i) = some (.int .i64 (zs3.getD i 0))) ∧ ∀ n ∈ zs3, (Lit.int .i64 n).wf = true) :
    Calls Try.prog 7 #[.agg #[.int .i64 a0_0, .int .i64 a0_1, .int .i64 a0_2, .int .i64 a0_3, .int .i64 a0_4, .int .i64 a0_5, .int .i64 a0_6, .int .i64 a0_7], .int .i64 a1, .int .i64 a2, .slice A3 len3 cap3] w fun e w' => e = .returned (.bool true) ∧ Below w.heap.size w w' := by
  obtain ⟨z3, l3, b3, hl3, hz3, hm3, hw3, hr3, hb3⟩ := arg_ints 3 wz3
  subst hl3
  have h := sModelCalms all18 a0_0 a0_1 a0_2 a0_3 a0_4 a0_5 a0_6 a0_7 a1 a2 z3 l3 ⟨(wf64 w0_0).1, (wf64 w0_0).2, (wf64 w0_1).1, (wf64 w0_1).2, (wf64 w0_2).1, (wf64 w0_2).2, (wf64 w0_3).1, (wf64 w0_3).2, (wf64 w0_4).1, (wf64 w0_4).2, (wf64 w0_5).1, (wf64 w0_5).2, (wf64 w0_6).1, (wf64 w0_6).2, (wf64 w0_7).1, (wf64 w0_7).2, (wf64 w1).1, (wf64 w1).2, (wf64 w2).1, (wf64 w2).2, hz3, by simpa [maxLen] using hm3, fun n hn => wf64 (hw3 n hn)⟩
  refine h.top (σ := fun i => [b3][i]?) (vals := [.agg #[.int .i64 a0_0, .int .i64 a0_1, .int .i64 a0_2, .int .i64 a0_3, .int .i64 a0_4, .int .i64 a0_5, .int .i64 a0_6, .int .i64 a0_7], .int .i64 a1, .int .i64 a2, .slice A3 l3.length cap3]) (fun i b hb => ?_) ?_ (rel_args _ _ rfl fun i b hb => ?_) (fun g i h => by cases h) (Nat.zero_le _)
  · rcases i with _ | i <;> simp [Mem.at] at hb <;> subst hb <;> rfl
  · exact RepL.cons (by simp [RepL, Rep]) (RepL.cons (by simp [RepL, Rep]) (RepL.cons (by simp [RepL, Rep]) (RepL.cons (hr3 _ 0 rfl) (RepL.nil))))
  · rcases i with _ | i <;> simp [Mem.at] at hb
    · subst hb; exact ⟨_, rfl, rfl, hb3⟩
theorem flat0 : Open.flat Try.prog 40 23 = some [3, 3, 3, 3, 3, 3, 3, 3] := by kernel_rfl
set_option maxRecDepth 100000 in
theorem lifted (os : Os) (started : os.Started) (H : Type) (enc : TypeId × Value → H) :
    ReturnsInHanded {} Try.checked os 7 .any (Rows.modelCalmsSpec.pre6 enc Try.prog Try.f7 Rows.modelCalmsRow.domain false) (Rows.modelCalmsSpec.post enc Try.prog Try.f7 false true false false) := by
  refine returnsInHanded_of_change_sized (C := Try.checked) own started (by kernel_rfl) Try.func7
    (ChangeSpec.witness6 (enc := enc) (C := Try.checked) false ⟨#[], #[.agg #[.int .i64 0, .int .i64 0, .int .i64 0, .int .i64 0, .int .i64 0, .int .i64 0, .int .i64 0, .int .i64 0], .int .i64 0, .int .i64 0, .slice none 0 0], []⟩ 8 (by kernel_rfl) (by kernel_rfl) (by kernel_rfl) (by kernel_rfl)) ?_
  intro W base args ds gs before hval0 hW hcnd hsz0 _
  have hval : ∀ (j : Nat) t v, Try.f7.params[j]? = some t → args[j]? = some v → Value.okWide Try.prog W .any base t v := hval0
  have hW' := hW
  obtain ⟨p, q, hA0, hV, rfl, hfz, hnd⟩ := hW
  have hA : DataW.TrodAll enc Try.prog W 0 (fun _ => true) true Try.f7.params.toList args.toList ds p := hA0
  rw [Try.params7] at hA hval
  obtain ⟨v0, vs0, d0, ds0, p0, z0, hargs, rfl, rfl, h0, r0⟩ := trodAll_cons hA
  obtain ⟨v1, vs1, d1, ds1, p1, z1, rfl, rfl, rfl, h1, r1⟩ := trodAll_cons r0
  obtain ⟨v2, vs2, d2, ds2, p2, z2, rfl, rfl, rfl, h2, r2⟩ := trodAll_cons r1
  obtain ⟨v3, vs3, d3, ds3, p3, z3, rfl, rfl, rfl, h3, r3⟩ := trodAll_cons r2
  obtain ⟨rfl, rfl, rfl⟩ := trodAll_nil r3
  obtain rfl : args = #[v0, v1, v2, v3] := by cases args; simp_all
  obtain ⟨rfl, rfl⟩ := trodVars_none hV
  obtain ⟨cs0, rfl, hs0⟩ := okWide_struct Try.underlying23 (hval 0 23 v0 rfl rfl)
  have q0_0 := Open.struct_cells 40 flat0 h0
  obtain ⟨cl0⟩ := cs0
  obtain ⟨cv0_0, cr0_0, ce0_0, ⟨cm0_0, cy0_0, ct0_0⟩, q0_1⟩ := q0_0
  obtain ⟨a0_0, ca0_0, _, w0_0⟩ := DataW.trod_int Try.underlying3 ct0_0
  simp only [List.cons.injEq, and_true] at ca0_0; subst ca0_0
  obtain ⟨cv0_1, cr0_1, ce0_1, ⟨cm0_1, cy0_1, ct0_1⟩, q0_2⟩ := q0_1
  obtain ⟨a0_1, ca0_1, _, w0_1⟩ := DataW.trod_int Try.underlying3 ct0_1
  simp only [List.cons.injEq, and_true] at ca0_1; subst ca0_1
  obtain ⟨cv0_2, cr0_2, ce0_2, ⟨cm0_2, cy0_2, ct0_2⟩, q0_3⟩ := q0_2
  obtain ⟨a0_2, ca0_2, _, w0_2⟩ := DataW.trod_int Try.underlying3 ct0_2
  simp only [List.cons.injEq, and_true] at ca0_2; subst ca0_2
  obtain ⟨cv0_3, cr0_3, ce0_3, ⟨cm0_3, cy0_3, ct0_3⟩, q0_4⟩ := q0_3
  obtain ⟨a0_3, ca0_3, _, w0_3⟩ := DataW.trod_int Try.underlying3 ct0_3
  simp only [List.cons.injEq, and_true] at ca0_3; subst ca0_3
  obtain ⟨cv0_4, cr0_4, ce0_4, ⟨cm0_4, cy0_4, ct0_4⟩, q0_5⟩ := q0_4
  obtain ⟨a0_4, ca0_4, _, w0_4⟩ := DataW.trod_int Try.underlying3 ct0_4
  simp only [List.cons.injEq, and_true] at ca0_4; subst ca0_4
  obtain ⟨cv0_5, cr0_5, ce0_5, ⟨cm0_5, cy0_5, ct0_5⟩, q0_6⟩ := q0_5
  obtain ⟨a0_5, ca0_5, _, w0_5⟩ := DataW.trod_int Try.underlying3 ct0_5
  simp only [List.cons.injEq, and_true] at ca0_5; subst ca0_5
  obtain ⟨cv0_6, cr0_6, ce0_6, ⟨cm0_6, cy0_6, ct0_6⟩, q0_7⟩ := q0_6
  obtain ⟨a0_6, ca0_6, _, w0_6⟩ := DataW.trod_int Try.underlying3 ct0_6
  simp only [List.cons.injEq, and_true] at ca0_6; subst ca0_6
  obtain ⟨cv0_7, cr0_7, ce0_7, ⟨cm0_7, cy0_7, ct0_7⟩, q0_8⟩ := q0_7
  obtain ⟨a0_7, ca0_7, _, w0_7⟩ := DataW.trod_int Try.underlying3 ct0_7
  simp only [List.cons.injEq, and_true] at ca0_7; subst ca0_7
  have qe0 : cr0_7 = [] := q0_8
  subst qe0
  subst ce0_7
  subst ce0_6
  subst ce0_5
  subst ce0_4
  subst ce0_3
  subst ce0_2
  subst ce0_1
  simp only at ce0_0
  subst ce0_0
  have k0 := h0
  have lt0 : ∀ x ∈ p0, x.block < W.heap.size := by obtain ⟨m, hm⟩ := k0; exact DataW.trod_lt m _ _ _ hm
  obtain ⟨a1, rfl, rfl, rfl, w1⟩ := open_int Try.underlying3 (hval 1 3 v1 rfl rfl) h1
  obtain ⟨a2, rfl, rfl, rfl, w2⟩ := open_int Try.underlying3 (hval 2 3 v2 rfl rfl) h2
  obtain ⟨A3, len3, cap3, rfl⟩ := okWide_slice Try.underlying29 (hval 3 29 v3 rfl rfl)
  have k3 := h3
  have lt3 : ∀ x ∈ p3, x.block < W.heap.size := by obtain ⟨m, hm⟩ := k3; exact DataW.trod_lt m _ _ _ hm
  obtain ⟨zs3, wz3⟩ := Open.ints_open Try.underlying29 Try.underlying3 (by kernel_rfl) h3
  simp only [if_true] at wz3
  clear hA0 hval0 hsz0
  refine (walk a0_0 a0_1 a0_2 a0_3 a0_4 a0_5 a0_6 a0_7 a1 a2 A3 len3 cap3 zs3 W w0_0 w0_1 w0_2 w0_3 w0_4 w0_5 w0_6 w0_7 w1 w2 wz3).mono fun e W' ⟨he, bel⟩ => ?_
  subst he
  exact ⟨_, rfl, _, _, _, [], _, [], hW', trodAll_mk1 (shut_bool Try.underlying4 _), (trodAll_cons_mk (Below.trod laidOut (by kernel_rfl) (of_decide_eq_true (by kernel_rfl)) k0 bel lt0) (trodAll_cons_mk (shut_int Try.underlying3 w1) (trodAll_cons_mk (shut_int Try.underlying3 w2) (trodAll_cons_mk (Below.trod laidOut (by kernel_rfl) (of_decide_eq_true (by kernel_rfl)) k3 bel lt3) trodAll_mk0)))), rfl, bel.frame _, fun h => by cases h⟩
theorem over : Rows.modelCalmsRow.holds Try.pinned (OpenSpec.ofChange Rows.modelCalmsSpec) :=
  OpenClaim.holds_of_wide 7 Try.f7 rfl rfl rfl rfl rfl rfl rfl ⟨rfl, rfl, rfl, rfl, rfl⟩ rfl rfl rfl rfl rfl (by kernel_rfl) Try.func7 (by kernel_rfl)
    (of_decide_eq_true (by kernel_rfl)) (by unfold Func.isWrapper; first | (rw [if_pos (by decide +kernel)]; kernel_rfl) | (rw [if_neg (by decide +kernel)]; exact ⟨rfl, rfl⟩))
    (fun os started H enc _ => lifted os started H enc)
theorem proved : Rows.ModelCalmsSaid := over
#print axioms proved
end Go.Proofs.Ytoihhmpmlbdeiaa.modelCalms
namespace Go.Proofs.Ytoihhmpmlbdeiaa
/-- The row, under a short name, for the claim. -/
theorem modelCalms_holds : Rows.ModelCalmsSaid := modelCalms.proved
end Go.Proofs.Ytoihhmpmlbdeiaa
