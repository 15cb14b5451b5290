-- The row of rheostat/rheostatlaw16.RestTells, out of its pure statement and the walk. Written by wip/hprint.py.
import Derived.Test.YtonhkbgielilbaaRows
import Derived.Test.YtonhkbgielilbaaStatRestTells
import Derived.Test.YtonhkbgielilbaaPureRestTells
import Derived.Test.YtonhkbgielilbaaOpen
import Derived.WalkKit
import Derived.ProofKit
import Derived.OpenShut
import Derived.ShutString
import Derived.ChangeOld
import Derived.Below
import Derived.SizedLaws
import Derived.Test.YtonhkbgielilbaaWSized
namespace Go.Proofs.Ytonhkbgielilbaa.restTells
open Go.ChangeShapes Go.WideShapes Go.ChangeAt Go.RowKit Go.Proofs.YtonhkbgielilbaaW.PrintWords
open Go.ChangeMaps (open_string shut_string)
set_option linter.unusedVariables false
theorem own : ownKnob Try.prog.godebug = none := by kernel_rfl
theorem laidOut : laidOutB Try.prog = true := by kernel_rfl
theorem flat0 : Open.flat Try.prog 12 23 = some [3, 3, 3, 3, 3, 3, 3, 3] := by kernel_rfl
set_option maxRecDepth 100000 in
theorem lifted (os : Os) (started : os.Started) (H : Type) (enc : TypeId × Value → H) :
    ReturnsInHanded {} Try.checked os 4 .any (Rows.restTellsSpec.pre6 enc Try.prog Try.f4 Rows.restTellsRow.domain false) (Rows.restTellsSpec.post enc Try.prog Try.f4 false true false false) := by
  refine returnsInHanded_of_change_sized (C := Try.checked) own started (by kernel_rfl) Try.func4
    (ChangeSpec.witness6 (enc := enc) (C := Try.checked) false ⟨#[], #[.agg #[.int .i64 0, .int .i64 0, .int .i64 0, .int .i64 0, .int .i64 0, .int .i64 0, .int .i64 0, .int .i64 0], .int .i64 0], []⟩ 8 (by kernel_rfl) (by kernel_rfl) (by kernel_rfl) (by kernel_rfl)) ?_
  intro W base args ds gs before hval0 hW hcnd hsz0 _
  have hsz : (DataW.weightsEach Try.prog (Try.f4.params.toList ++ Rows.restTellsSpec.plain.varTypes Try.prog) (ds ++ gs)).all (· ≤ reachBytes) = true := hsz0
  have hval : ∀ (j : Nat) t v, Try.f4.params[j]? = some t → args[j]? = some v → Value.okWide Try.prog W .any base t v := hval0
  have hW' := hW
  obtain ⟨p, q, hA0, hV, rfl, hfz, hnd⟩ := hW
  have hA : DataW.TrodAll enc Try.prog W 0 (fun _ => true) true Try.f4.params.toList args.toList ds p := hA0
  rw [Try.params4] at hA hval hsz
  obtain ⟨v0, vs0, d0, ds0, p0, z0, hargs, rfl, rfl, h0, r0⟩ := trodAll_cons hA
  obtain ⟨v1, vs1, d1, ds1, p1, z1, rfl, rfl, rfl, h1, r1⟩ := trodAll_cons r0
  obtain ⟨rfl, rfl, rfl⟩ := trodAll_nil r1
  obtain rfl : args = #[v0, v1] := by cases args; simp_all
  obtain ⟨rfl, rfl⟩ := trodVars_none hV
  obtain ⟨cs0, rfl, hs0⟩ := okWide_struct Try.underlying23 (hval 0 23 v0 rfl rfl)
  have q0 := Open.struct_cells 12 flat0 h0
  obtain ⟨cl0⟩ := cs0
  obtain ⟨cv0_0, cr0_0, ce0_0, ⟨cm0_0, cy0_0, ct0_0⟩, q0_1⟩ := q0
  obtain ⟨a0_0, ca0_0, _, w0_0⟩ := DataW.trod_int Try.underlying3 ct0_0
  simp only [List.cons.injEq, and_true] at ca0_0; subst ca0_0
  obtain ⟨cv0_1, cr0_1, ce0_1, ⟨cm0_1, cy0_1, ct0_1⟩, q0_2⟩ := q0_1
  obtain ⟨a0_1, ca0_1, _, w0_1⟩ := DataW.trod_int Try.underlying3 ct0_1
  simp only [List.cons.injEq, and_true] at ca0_1; subst ca0_1
  obtain ⟨cv0_2, cr0_2, ce0_2, ⟨cm0_2, cy0_2, ct0_2⟩, q0_3⟩ := q0_2
  obtain ⟨a0_2, ca0_2, _, w0_2⟩ := DataW.trod_int Try.underlying3 ct0_2
  simp only [List.cons.injEq, and_true] at ca0_2; subst ca0_2
  obtain ⟨cv0_3, cr0_3, ce0_3, ⟨cm0_3, cy0_3, ct0_3⟩, q0_4⟩ := q0_3
  obtain ⟨a0_3, ca0_3, _, w0_3⟩ := DataW.trod_int Try.underlying3 ct0_3
  simp only [List.cons.injEq, and_true] at ca0_3; subst ca0_3
  obtain ⟨cv0_4, cr0_4, ce0_4, ⟨cm0_4, cy0_4, ct0_4⟩, q0_5⟩ := q0_4
  obtain ⟨a0_4, ca0_4, _, w0_4⟩ := DataW.trod_int Try.underlying3 ct0_4
  simp only [List.cons.injEq, and_true] at ca0_4; subst ca0_4
  obtain ⟨cv0_5, cr0_5, ce0_5, ⟨cm0_5, cy0_5, ct0_5⟩, q0_6⟩ := q0_5
  obtain ⟨a0_5, ca0_5, _, w0_5⟩ := DataW.trod_int Try.underlying3 ct0_5
  simp only [List.cons.injEq, and_true] at ca0_5; subst ca0_5
  obtain ⟨cv0_6, cr0_6, ce0_6, ⟨cm0_6, cy0_6, ct0_6⟩, q0_7⟩ := q0_6
  obtain ⟨a0_6, ca0_6, _, w0_6⟩ := DataW.trod_int Try.underlying3 ct0_6
  simp only [List.cons.injEq, and_true] at ca0_6; subst ca0_6
  obtain ⟨cv0_7, cr0_7, ce0_7, ⟨cm0_7, cy0_7, ct0_7⟩, q0_8⟩ := q0_7
  obtain ⟨a0_7, ca0_7, _, w0_7⟩ := DataW.trod_int Try.underlying3 ct0_7
  simp only [List.cons.injEq, and_true] at ca0_7; subst ca0_7
  have qe0 : cr0_7 = [] := q0_8
  subst qe0
  subst ce0_7
  subst ce0_6
  subst ce0_5
  subst ce0_4
  subst ce0_3
  subst ce0_2
  subst ce0_1
  simp only at ce0_0
  subst ce0_0
  have k0 := h0
  have lt0 : ∀ x ∈ p0, x.block < W.heap.size := by obtain ⟨m, hm⟩ := k0; exact DataW.trod_lt m _ _ _ hm
  obtain ⟨a1, rfl, rfl, rfl, w1⟩ := open_int Try.underlying3 (hval 1 3 v1 rfl rfl) h1
  clear hA0 hval0 hsz0 hsz
  refine (Stat.RestTells.walk Pure.RestTells a0_0 a0_1 a0_2 a0_3 a0_4 a0_5 a0_6 a0_7 a1  W w0_0 w0_1 w0_2 w0_3 w0_4 w0_5 w0_6 w0_7 w1).mono fun e W' ⟨he, bel⟩ => ?_
  subst he
  exact ⟨_, rfl, _, _, _, [], _, [], hW', trodAll_mk1 (shut_bool Try.underlying4 _), (trodAll_cons_mk (Below.trod laidOut (by kernel_rfl) (of_decide_eq_true (by kernel_rfl)) k0 bel lt0) (trodAll_cons_mk (shut_int Try.underlying3 w1) trodAll_mk0)), rfl, bel.frame _, fun h => by cases h⟩
theorem over : Rows.restTellsRow.holds Try.pinned (OpenSpec.ofChange Rows.restTellsSpec) :=
  OpenClaim.holds_of_wide 4 Try.f4 rfl rfl rfl rfl rfl rfl rfl ⟨rfl, rfl, rfl, rfl, rfl⟩ rfl rfl rfl rfl rfl (by kernel_rfl) Try.func4 (by kernel_rfl)
    (of_decide_eq_true (by kernel_rfl)) (by unfold Func.isWrapper; first | (rw [if_pos (by decide +kernel)]; kernel_rfl) | (rw [if_neg (by decide +kernel)]; exact ⟨rfl, rfl⟩))
    (fun os started H enc _ => lifted os started H enc)
theorem proved : Rows.RestTellsSaid := over
#print axioms proved
end Go.Proofs.Ytonhkbgielilbaa.restTells
namespace Go.Proofs.Ytonhkbgielilbaa
/-- The row, under a short name, for the claim. -/
theorem restTells_holds : Rows.RestTellsSaid := restTells.proved
end Go.Proofs.Ytonhkbgielilbaa
