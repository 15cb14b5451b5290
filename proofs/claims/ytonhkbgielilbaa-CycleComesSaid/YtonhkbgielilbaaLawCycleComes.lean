/- The row of the law CycleComes: whatever the input it gives true, and what came in stays. -/
import Derived.Test.YtonhkbgielilbaaRows
import Derived.Test.YtonhkbgielilbaaOpen2
import Derived.Test.YtonhkbgielilbaaLCycleComes
import Derived.WalkKit
import Derived.ProofKit
import Derived.OpenShut
import Derived.ShutString
import Derived.ChangeOld
import Derived.Below
import Derived.SizedLaws
namespace Go.Proofs.Ytonhkbgielilbaa.cycleComes
open Go.ChangeShapes Go.WideShapes Go.ChangeAt Go.RowKit Go.Proofs.Ytonhkbgielilbaa.Rig
open Go.ChangeMaps (open_string shut_string)
set_option linter.unusedVariables false

theorem own : ownKnob Try.prog.godebug = none := by kernel_rfl
theorem laidOut : laidOutB Try.prog = true := by kernel_rfl
theorem walk (a0_0 : Int) (a0_1 : Int) (a0_2 : Int) (a0_3 : Int) (a0_4 : Int) (a0_5 : Int) (a0_6 : Int) (a0_7 : Int) (a0_8 : Int) (a0_9 : Int) (a0_10 : Int) (a0_11 : Int) (a0_12 : Int) (a0_13 : Int) (a0_14 : Int) (a0_15 : Int) (a0_16 : Int) (a0_17 : Int) (a0_18 : Int) (a0_19 : Int) (a0_20 : Int) (a0_21 : Int) (a0_22 : Int) (a1 : Int) (w : World) (w0_0 : (Lit.int .i64 a0_0).wf = true) (w0_1 : (Lit.int .i64 a0_1).wf = true) (w0_2 : (Lit.int .i64 a0_2).wf = true) (w0_3 : (Lit.int .i64 a0_3).wf = true) (w0_4 : (Lit.int .i64 a0_4).wf = true) (w0_5 : (Lit.int .i64 a0_5).wf = true) (w0_6 : (Lit.int .i64 a0_6).wf = true) (w0_7 : (Lit.int .i64 a0_7).wf = true) (w0_8 : (Lit.int .i64 a0_8).wf = true) (w0_9 : (Lit.int .i64 a0_9).wf = true) (w0_10 : (Lit.int .i64 a0_10).wf = true) (w0_11 : (Lit.int .i64 a0_11).wf = true) (w0_12 : (Lit.int .i64 a0_12).wf = true) (w0_13 : (Lit.int .i64 a0_13).wf = true) (w0_14 : (Lit.int .i64 a0_14).wf = true) (w0_15 : (Lit.int .i64 a0_15).wf = true) (w0_16 : (Lit.int .i64 a0_16).wf = true) (w0_17 : (Lit.int .i64 a0_17).wf = true) (w0_18 : (Lit.int .i64 a0_18).wf = true) (w0_19 : (Lit.int .i64 a0_19).wf = true) (w0_20 : (Lit.int .i64 a0_20).wf = true) (w0_21 : (Lit.int .i64 a0_21).wf = true) (w0_22 : (Lit.int .i64 a0_22).wf = true) (w1 : (Lit.int .i64 a1).wf = true) :
    Calls Try.prog 12 #[.agg #[.int .i64 a0_0, .int .i64 a0_1, .int .i64 a0_2, .int .i64 a0_3, .int .i64 a0_4, .int .i64 a0_5, .int .i64 a0_6, .int .i64 a0_7, .int .i64 a0_8, .int .i64 a0_9, .int .i64 a0_10, .int .i64 a0_11, .int .i64 a0_12, .int .i64 a0_13, .int .i64 a0_14, .int .i64 a0_15, .int .i64 a0_16, .int .i64 a0_17, .int .i64 a0_18, .int .i64 a0_19, .int .i64 a0_20, .int .i64 a0_21, .int .i64 a0_22], .int .i64 a1] w fun e w' => e = .returned (.bool true) ∧ Below w.heap.size w w' := by
  have h := lawCycleComes a0_0 a0_1 a0_2 a0_3 a0_4 a0_5 a0_6 a0_7 a0_8 a0_9 a0_10 a0_11 a0_12 a0_13 a0_14 a0_15 a0_16 a0_17 a0_18 a0_19 a0_20 a0_21 a0_22 a1
  refine SoundAt.top0 h (fun _ => rfl) rfl (vals := [.agg #[.int .i64 a0_0, .int .i64 a0_1, .int .i64 a0_2, .int .i64 a0_3, .int .i64 a0_4, .int .i64 a0_5, .int .i64 a0_6, .int .i64 a0_7, .int .i64 a0_8, .int .i64 a0_9, .int .i64 a0_10, .int .i64 a0_11, .int .i64 a0_12, .int .i64 a0_13, .int .i64 a0_14, .int .i64 a0_15, .int .i64 a0_16, .int .i64 a0_17, .int .i64 a0_18, .int .i64 a0_19, .int .i64 a0_20, .int .i64 a0_21, .int .i64 a0_22], .int .i64 a1]) ?_
  exact RepL.cons (by simp [RepL, Rep]) (RepL.cons (by simp [RepL, Rep]) (RepL.nil))
theorem flat0 : Open.flat Try.prog 40 40 = some [3, 3, 3, 3, 3, 3, 3, 3, 3, 3, 3, 3, 3, 3, 3, 3, 3, 3, 3, 3, 3, 3, 3] := by kernel_rfl
set_option maxRecDepth 100000 in
theorem lifted (os : Os) (started : os.Started) (H : Type) (enc : TypeId × Value → H) :
    ReturnsInHanded {} Try.checked os 12 .any (Rows.cycleComesSpec.pre6 enc Try.prog Try.f12 Rows.cycleComesRow.domain false) (Rows.cycleComesSpec.post enc Try.prog Try.f12 false true false false) := by
  refine returnsInHanded_of_change_sized (C := Try.checked) own started (by kernel_rfl) Try.func12
    (ChangeSpec.witness6 (enc := enc) (C := Try.checked) false ⟨#[], #[.agg #[.int .i64 0, .int .i64 0, .int .i64 0, .int .i64 0, .int .i64 0, .int .i64 0, .int .i64 0, .int .i64 0, .int .i64 0, .int .i64 0, .int .i64 0, .int .i64 0, .int .i64 0, .int .i64 0, .int .i64 0, .int .i64 0, .int .i64 0, .int .i64 0, .int .i64 0, .int .i64 0, .int .i64 0, .int .i64 0, .int .i64 0], .int .i64 0], []⟩ 8 (by kernel_rfl) (by kernel_rfl) (by kernel_rfl) (by kernel_rfl)) ?_
  intro W base args ds gs before hval0 hW hcnd hsz0 _
  have hval : ∀ (j : Nat) t v, Try.f12.params[j]? = some t → args[j]? = some v → Value.okWide Try.prog W .any base t v := hval0
  have hW' := hW
  obtain ⟨p, q, hA0, hV, rfl, hfz, hnd⟩ := hW
  have hA : DataW.TrodAll enc Try.prog W 0 (fun _ => true) true Try.f12.params.toList args.toList ds p := hA0
  rw [Try.params12] at hA hval
  obtain ⟨v0, vs0, d0, ds0, p0, z0, hargs, rfl, rfl, h0, r0⟩ := trodAll_cons hA
  obtain ⟨v1, vs1, d1, ds1, p1, z1, rfl, rfl, rfl, h1, r1⟩ := trodAll_cons r0
  obtain ⟨rfl, rfl, rfl⟩ := trodAll_nil r1
  obtain rfl : args = #[v0, v1] := by cases args; simp_all
  obtain ⟨rfl, rfl⟩ := trodVars_none hV
  obtain ⟨cs0, rfl, hs0⟩ := okWide_struct Try.underlying40 (hval 0 40 v0 rfl rfl)
  have q0_0 := Open.struct_cells 40 flat0 h0
  obtain ⟨cl0⟩ := cs0
  obtain ⟨cv0_0, cr0_0, ce0_0, ⟨cm0_0, cy0_0, ct0_0⟩, q0_1⟩ := q0_0
  obtain ⟨a0_0, ca0_0, _, w0_0⟩ := DataW.trod_int Try.underlying3 ct0_0
  simp only [List.cons.injEq, and_true] at ca0_0; subst ca0_0
  obtain ⟨cv0_1, cr0_1, ce0_1, ⟨cm0_1, cy0_1, ct0_1⟩, q0_2⟩ := q0_1
  obtain ⟨a0_1, ca0_1, _, w0_1⟩ := DataW.trod_int Try.underlying3 ct0_1
  simp only [List.cons.injEq, and_true] at ca0_1; subst ca0_1
  obtain ⟨cv0_2, cr0_2, ce0_2, ⟨cm0_2, cy0_2, ct0_2⟩, q0_3⟩ := q0_2
  obtain ⟨a0_2, ca0_2, _, w0_2⟩ := DataW.trod_int Try.underlying3 ct0_2
  simp only [List.cons.injEq, and_true] at ca0_2; subst ca0_2
  obtain ⟨cv0_3, cr0_3, ce0_3, ⟨cm0_3, cy0_3, ct0_3⟩, q0_4⟩ := q0_3
  obtain ⟨a0_3, ca0_3, _, w0_3⟩ := DataW.trod_int Try.underlying3 ct0_3
  simp only [List.cons.injEq, and_true] at ca0_3; subst ca0_3
  obtain ⟨cv0_4, cr0_4, ce0_4, ⟨cm0_4, cy0_4, ct0_4⟩, q0_5⟩ := q0_4
  obtain ⟨a0_4, ca0_4, _, w0_4⟩ := DataW.trod_int Try.underlying3 ct0_4
  simp only [List.cons.injEq, and_true] at ca0_4; subst ca0_4
  obtain ⟨cv0_5, cr0_5, ce0_5, ⟨cm0_5, cy0_5, ct0_5⟩, q0_6⟩ := q0_5
  obtain ⟨a0_5, ca0_5, _, w0_5⟩ := DataW.trod_int Try.underlying3 ct0_5
  simp only [List.cons.injEq, and_true] at ca0_5; subst ca0_5
  obtain ⟨cv0_6, cr0_6, ce0_6, ⟨cm0_6, cy0_6, ct0_6⟩, q0_7⟩ := q0_6
  obtain ⟨a0_6, ca0_6, _, w0_6⟩ := DataW.trod_int Try.underlying3 ct0_6
  simp only [List.cons.injEq, and_true] at ca0_6; subst ca0_6
  obtain ⟨cv0_7, cr0_7, ce0_7, ⟨cm0_7, cy0_7, ct0_7⟩, q0_8⟩ := q0_7
  obtain ⟨a0_7, ca0_7, _, w0_7⟩ := DataW.trod_int Try.underlying3 ct0_7
  simp only [List.cons.injEq, and_true] at ca0_7; subst ca0_7
  obtain ⟨cv0_8, cr0_8, ce0_8, ⟨cm0_8, cy0_8, ct0_8⟩, q0_9⟩ := q0_8
  obtain ⟨a0_8, ca0_8, _, w0_8⟩ := DataW.trod_int Try.underlying3 ct0_8
  simp only [List.cons.injEq, and_true] at ca0_8; subst ca0_8
  obtain ⟨cv0_9, cr0_9, ce0_9, ⟨cm0_9, cy0_9, ct0_9⟩, q0_10⟩ := q0_9
  obtain ⟨a0_9, ca0_9, _, w0_9⟩ := DataW.trod_int Try.underlying3 ct0_9
  simp only [List.cons.injEq, and_true] at ca0_9; subst ca0_9
  obtain ⟨cv0_10, cr0_10, ce0_10, ⟨cm0_10, cy0_10, ct0_10⟩, q0_11⟩ := q0_10
  obtain ⟨a0_10, ca0_10, _, w0_10⟩ := DataW.trod_int Try.underlying3 ct0_10
  simp only [List.cons.injEq, and_true] at ca0_10; subst ca0_10
  obtain ⟨cv0_11, cr0_11, ce0_11, ⟨cm0_11, cy0_11, ct0_11⟩, q0_12⟩ := q0_11
  obtain ⟨a0_11, ca0_11, _, w0_11⟩ := DataW.trod_int Try.underlying3 ct0_11
  simp only [List.cons.injEq, and_true] at ca0_11; subst ca0_11
  obtain ⟨cv0_12, cr0_12, ce0_12, ⟨cm0_12, cy0_12, ct0_12⟩, q0_13⟩ := q0_12
  obtain ⟨a0_12, ca0_12, _, w0_12⟩ := DataW.trod_int Try.underlying3 ct0_12
  simp only [List.cons.injEq, and_true] at ca0_12; subst ca0_12
  obtain ⟨cv0_13, cr0_13, ce0_13, ⟨cm0_13, cy0_13, ct0_13⟩, q0_14⟩ := q0_13
  obtain ⟨a0_13, ca0_13, _, w0_13⟩ := DataW.trod_int Try.underlying3 ct0_13
  simp only [List.cons.injEq, and_true] at ca0_13; subst ca0_13
  obtain ⟨cv0_14, cr0_14, ce0_14, ⟨cm0_14, cy0_14, ct0_14⟩, q0_15⟩ := q0_14
  obtain ⟨a0_14, ca0_14, _, w0_14⟩ := DataW.trod_int Try.underlying3 ct0_14
  simp only [List.cons.injEq, and_true] at ca0_14; subst ca0_14
  obtain ⟨cv0_15, cr0_15, ce0_15, ⟨cm0_15, cy0_15, ct0_15⟩, q0_16⟩ := q0_15
  obtain ⟨a0_15, ca0_15, _, w0_15⟩ := DataW.trod_int Try.underlying3 ct0_15
  simp only [List.cons.injEq, and_true] at ca0_15; subst ca0_15
  obtain ⟨cv0_16, cr0_16, ce0_16, ⟨cm0_16, cy0_16, ct0_16⟩, q0_17⟩ := q0_16
  obtain ⟨a0_16, ca0_16, _, w0_16⟩ := DataW.trod_int Try.underlying3 ct0_16
  simp only [List.cons.injEq, and_true] at ca0_16; subst ca0_16
  obtain ⟨cv0_17, cr0_17, ce0_17, ⟨cm0_17, cy0_17, ct0_17⟩, q0_18⟩ := q0_17
  obtain ⟨a0_17, ca0_17, _, w0_17⟩ := DataW.trod_int Try.underlying3 ct0_17
  simp only [List.cons.injEq, and_true] at ca0_17; subst ca0_17
  obtain ⟨cv0_18, cr0_18, ce0_18, ⟨cm0_18, cy0_18, ct0_18⟩, q0_19⟩ := q0_18
  obtain ⟨a0_18, ca0_18, _, w0_18⟩ := DataW.trod_int Try.underlying3 ct0_18
  simp only [List.cons.injEq, and_true] at ca0_18; subst ca0_18
  obtain ⟨cv0_19, cr0_19, ce0_19, ⟨cm0_19, cy0_19, ct0_19⟩, q0_20⟩ := q0_19
  obtain ⟨a0_19, ca0_19, _, w0_19⟩ := DataW.trod_int Try.underlying3 ct0_19
  simp only [List.cons.injEq, and_true] at ca0_19; subst ca0_19
  obtain ⟨cv0_20, cr0_20, ce0_20, ⟨cm0_20, cy0_20, ct0_20⟩, q0_21⟩ := q0_20
  obtain ⟨a0_20, ca0_20, _, w0_20⟩ := DataW.trod_int Try.underlying3 ct0_20
  simp only [List.cons.injEq, and_true] at ca0_20; subst ca0_20
  obtain ⟨cv0_21, cr0_21, ce0_21, ⟨cm0_21, cy0_21, ct0_21⟩, q0_22⟩ := q0_21
  obtain ⟨a0_21, ca0_21, _, w0_21⟩ := DataW.trod_int Try.underlying3 ct0_21
  simp only [List.cons.injEq, and_true] at ca0_21; subst ca0_21
  obtain ⟨cv0_22, cr0_22, ce0_22, ⟨cm0_22, cy0_22, ct0_22⟩, q0_23⟩ := q0_22
  obtain ⟨a0_22, ca0_22, _, w0_22⟩ := DataW.trod_int Try.underlying3 ct0_22
  simp only [List.cons.injEq, and_true] at ca0_22; subst ca0_22
  have qe0 : cr0_22 = [] := q0_23
  subst qe0
  subst ce0_22
  subst ce0_21
  subst ce0_20
  subst ce0_19
  subst ce0_18
  subst ce0_17
  subst ce0_16
  subst ce0_15
  subst ce0_14
  subst ce0_13
  subst ce0_12
  subst ce0_11
  subst ce0_10
  subst ce0_9
  subst ce0_8
  subst ce0_7
  subst ce0_6
  subst ce0_5
  subst ce0_4
  subst ce0_3
  subst ce0_2
  subst ce0_1
  simp only at ce0_0
  subst ce0_0
  have k0 := h0
  have lt0 : ∀ x ∈ p0, x.block < W.heap.size := by obtain ⟨m, hm⟩ := k0; exact DataW.trod_lt m _ _ _ hm
  obtain ⟨a1, rfl, rfl, rfl, w1⟩ := open_int Try.underlying3 (hval 1 3 v1 rfl rfl) h1
  clear hA0 hval0 hsz0
  refine (walk a0_0 a0_1 a0_2 a0_3 a0_4 a0_5 a0_6 a0_7 a0_8 a0_9 a0_10 a0_11 a0_12 a0_13 a0_14 a0_15 a0_16 a0_17 a0_18 a0_19 a0_20 a0_21 a0_22 a1 W w0_0 w0_1 w0_2 w0_3 w0_4 w0_5 w0_6 w0_7 w0_8 w0_9 w0_10 w0_11 w0_12 w0_13 w0_14 w0_15 w0_16 w0_17 w0_18 w0_19 w0_20 w0_21 w0_22 w1).mono fun e W' ⟨he, bel⟩ => ?_
  subst he
  exact ⟨_, rfl, _, _, _, [], _, [], hW', trodAll_mk1 (shut_bool Try.underlying4 _), (trodAll_cons_mk (Below.trod laidOut (by kernel_rfl) (of_decide_eq_true (by kernel_rfl)) k0 bel lt0) (trodAll_cons_mk (shut_int Try.underlying3 w1) trodAll_mk0)), rfl, bel.frame _, fun h => by cases h⟩
theorem over : Rows.cycleComesRow.holds Try.pinned (OpenSpec.ofChange Rows.cycleComesSpec) :=
  OpenClaim.holds_of_wide 12 Try.f12 rfl rfl rfl rfl rfl rfl rfl ⟨rfl, rfl, rfl, rfl, rfl⟩ rfl rfl rfl rfl rfl (by kernel_rfl) Try.func12 (by kernel_rfl)
    (of_decide_eq_true (by kernel_rfl)) (by unfold Func.isWrapper; first | (rw [if_pos (by decide +kernel)]; kernel_rfl) | (rw [if_neg (by decide +kernel)]; exact ⟨rfl, rfl⟩))
    (fun os started H enc _ => lifted os started H enc)
theorem proved : Rows.CycleComesSaid := over
#print axioms proved
end Go.Proofs.Ytonhkbgielilbaa.cycleComes
namespace Go.Proofs.Ytonhkbgielilbaa
/-- The row, under a short name, for the claim. -/
theorem cycleComes_holds : Rows.CycleComesSaid := cycleComes.proved
end Go.Proofs.Ytonhkbgielilbaa
