-- Written by wip/hprint.py, which calls the kit's print over functions proved by hand.
import Derived.Test.YtfebnnjdkkcphaaPAllx0
import Derived.Test.YtfebnnjdkkcphaaPAllx1
import Derived.Test.YtfebnnjdkkcphaaPAllx4
import Derived.Test.YtfebnnjdkkcphaaPAllx5
namespace Go.Proofs.Ytfebnnjdkkcphaa.PAll
open Go.RowKit Go.Proofs.Ytfebnnjdkkcphaa.Hand Go.Proofs.YtfebnnjdkkcphaaW.PrintWords Go.Proofs.YtfebnnjdkkcphaaW.PrintLast Go.Proofs.YtfebnnjdkkcphaaW.PrintMore
attribute [local go_sem] max2_int min2_int max_two min_two max_three min_three max_four min_four   -- for this text's walks alone
set_option linter.unusedVariables false
set_option linter.unusedSimpArgs false

/-! ### rheostatlaw03_FxComes: function 4 -/
mutual
def rheostatlaw03_FxComes.l0 : Nat → Int → Int → Int → Int → Int → Option (Bool)
  | 0, _, _, _, _, _ => none
  | k + 1, x1, x2, x7, x8, x9 => if x9 = x1 then (rheostatlaw03_FxComes.j1 k x1 x2 x7 x8 x9 false) else (rheostatlaw03_FxComes.j1 k x1 x2 x7 x8 x9 (decide (x8 < 5000)))
def rheostatlaw03_FxComes.j1 : Nat → Int → Int → Int → Int → Int → Bool → Option (Bool)
  | 0, _, _, _, _, _, _ => none
  | k + 1, x1, x2, x7, x8, x9, x36 => if x36 = true then ((fx_Toward.f k x9 x1 x2).bind fun t128 => (if (mx (wrap64 (t128 - x1)) (wrap64 (x1 - t128))) = (mx 0 (wrap64 ((mx (wrap64 (x9 - x1)) (wrap64 (x1 - x9))) - x2))) then (if t128 > (mx x9 x1) then (some false) else (if t128 < (mn x9 x1) then (some false) else (rheostatlaw03_FxComes.l0 k x1 x2 x7 (wrap64 (x8 + 1)) t128))) else (some false))) else (if x2 = 0 then (none) else (if x8 = (wrap64 (Int.tdiv (wrap64 ((wrap64 (x7 + x2)) - 1)) x2)) then ((fx_Toward.f k x1 x1 x2).bind fun t129 => (some (t129 == x1))) else (some false)))
end
def rheostatlaw03_FxComes.f (k : Nat) (a0 : Int) (a1 : Int) (a2 : Int) : Option (Bool) := (rheostatlaw03_works.f k).bind fun t124 => (if t124 = true then ((rheostatbase_Among.f a0 4000).bind fun t125 => ((rheostatbase_Among.f a1 4000).bind fun t126 => ((rheostatbase_Among.f a2 300).bind fun t127 => (rheostatlaw03_FxComes.l0 k (wrap64 (t126 - 2000)) (wrap64 (1 + t127)) (mx (wrap64 ((wrap64 (t125 - 2000)) - (wrap64 (t126 - 2000)))) (wrap64 ((wrap64 (t126 - 2000)) - (wrap64 (t125 - 2000))))) 0 (wrap64 (t125 - 2000)))))) else (some false))
theorem rheostatlaw03_FxComes.mono_l : ∀ k, (∀ y0 y1 y2 y3 y4, LeO (rheostatlaw03_FxComes.l0 k y0 y1 y2 y3 y4) (rheostatlaw03_FxComes.l0 (k + 1) y0 y1 y2 y3 y4)) ∧ (∀ y0 y1 y2 y3 y4 y5, LeO (rheostatlaw03_FxComes.j1 k y0 y1 y2 y3 y4 y5) (rheostatlaw03_FxComes.j1 (k + 1) y0 y1 y2 y3 y4 y5))
  | 0 => ⟨fun _ _ _ _ _ r h => by simp [rheostatlaw03_FxComes.l0] at h, fun _ _ _ _ _ _ r h => by simp [rheostatlaw03_FxComes.j1] at h⟩
  | k + 1 => by
    obtain ⟨ih0, ih1⟩ := rheostatlaw03_FxComes.mono_l k
    refine ⟨?_, ?_⟩
    · intro y0 y1 y2 y3 y4
      unfold rheostatlaw03_FxComes.l0
      repeat' first
      | (with_reducible exact ih0 _ _ _ _ _)
      | (with_reducible exact ih1 _ _ _ _ _ _)
      | (with_reducible exact fx_Toward.mono _ _ _ _)
      | (with_reducible exact rheostatlaw03_works.mono _)
      | (with_reducible exact LeO.refl _)
      | (with_reducible exact LeO.none _)
      | (with_reducible refine LeO.ite ?_ ?_)
      | (with_reducible refine LeO.bind ?_ (fun _ => ?_))
      | exact ih0 _ _ _ _ _
      | exact ih1 _ _ _ _ _ _
      | exact fx_Toward.mono _ _ _ _
      | exact rheostatlaw03_works.mono _
      | exact LeO.none _
      | refine LeO.ite ?_ ?_
      | refine LeO.bind ?_ (fun _ => ?_)
    · intro y0 y1 y2 y3 y4 y5
      unfold rheostatlaw03_FxComes.j1
      repeat' first
      | (with_reducible exact ih0 _ _ _ _ _)
      | (with_reducible exact ih1 _ _ _ _ _ _)
      | (with_reducible exact fx_Toward.mono _ _ _ _)
      | (with_reducible exact rheostatlaw03_works.mono _)
      | (with_reducible exact LeO.refl _)
      | (with_reducible exact LeO.none _)
      | (with_reducible refine LeO.ite ?_ ?_)
      | (with_reducible refine LeO.bind ?_ (fun _ => ?_))
      | exact ih0 _ _ _ _ _
      | exact ih1 _ _ _ _ _ _
      | exact fx_Toward.mono _ _ _ _
      | exact rheostatlaw03_works.mono _
      | exact LeO.none _
      | refine LeO.ite ?_ ?_
      | refine LeO.bind ?_ (fun _ => ?_)
theorem rheostatlaw03_FxComes.mono : ∀ a0 a1 a2 k, LeO (rheostatlaw03_FxComes.f k a0 a1 a2) (rheostatlaw03_FxComes.f (k + 1) a0 a1 a2) := by
  intro a0 a1 a2 k
  obtain ⟨ih0, ih1⟩ := rheostatlaw03_FxComes.mono_l k
  unfold rheostatlaw03_FxComes.f
  repeat' first
      | (with_reducible exact ih0 _ _ _ _ _)
      | (with_reducible exact ih1 _ _ _ _ _ _)
      | (with_reducible exact fx_Toward.mono _ _ _ _)
      | (with_reducible exact rheostatlaw03_works.mono _)
      | (with_reducible exact LeO.refl _)
      | (with_reducible exact LeO.none _)
      | (with_reducible refine LeO.ite ?_ ?_)
      | (with_reducible refine LeO.bind ?_ (fun _ => ?_))
      | exact ih0 _ _ _ _ _
      | exact ih1 _ _ _ _ _ _
      | exact fx_Toward.mono _ _ _ _
      | exact rheostatlaw03_works.mono _
      | exact LeO.none _
      | refine LeO.ite ?_ ?_
      | refine LeO.bind ?_ (fun _ => ?_)
set_option maxHeartbeats 8000000 in
set_option maxRecDepth 100000 in
theorem rheostatlaw03_FxComes.calls (k : Nat) (a0 : Int) (a1 : Int) (a2 : Int) (r : Bool) (w : World) (h : rheostatlaw03_FxComes.f k a0 a1 a2 = some r) :
    Calls Try.prog 4 #[.int .i64 a0, .int .i64 a1, .int .i64 a2] w fun e w' => e = .returned (.bool r) ∧ Below w.heap.size w w' := by
  have HB := Aside0.mk (Below.refl w.heap.size w)
  have H : ((rheostatlaw03_works.f k).bind fun t124 => (if t124 = true then ((rheostatbase_Among.f a0 4000).bind fun t125 => ((rheostatbase_Among.f a1 4000).bind fun t126 => ((rheostatbase_Among.f a2 300).bind fun t127 => (rheostatlaw03_FxComes.l0 k (wrap64 (t126 - 2000)) (wrap64 (1 + t127)) (mx (wrap64 ((wrap64 (t125 - 2000)) - (wrap64 (t126 - 2000)))) (wrap64 ((wrap64 (t126 - 2000)) - (wrap64 (t125 - 2000))))) 0 (wrap64 (t125 - 2000)))))) else (some false))) = some r := h
  clear h
  replace H := Option.bind_eq_some_iff.mp H
  obtain ⟨t124, A40, H⟩ := H
  replace H : (if t124 = true then ((rheostatbase_Among.f a0 4000).bind fun t125 => ((rheostatbase_Among.f a1 4000).bind fun t126 => ((rheostatbase_Among.f a2 300).bind fun t127 => (rheostatlaw03_FxComes.l0 k (wrap64 (t126 - 2000)) (wrap64 (1 + t127)) (mx (wrap64 ((wrap64 (t125 - 2000)) - (wrap64 (t126 - 2000)))) (wrap64 ((wrap64 (t126 - 2000)) - (wrap64 (t125 - 2000))))) 0 (wrap64 (t125 - 2000)))))) else (some false)) = some r := H
  have A4 := Aside0.mk A40
  clear A40
  by_cases c5 : t124 = true
  · subst c5
    have H1 : ((rheostatbase_Among.f a0 4000).bind fun t125 => ((rheostatbase_Among.f a1 4000).bind fun t126 => ((rheostatbase_Among.f a2 300).bind fun t127 => (rheostatlaw03_FxComes.l0 k (wrap64 (t126 - 2000)) (wrap64 (1 + t127)) (mx (wrap64 ((wrap64 (t125 - 2000)) - (wrap64 (t126 - 2000)))) (wrap64 ((wrap64 (t126 - 2000)) - (wrap64 (t125 - 2000))))) 0 (wrap64 (t125 - 2000)))))) = some r := by rw [if_pos rfl] at H; exact H
    clear H
    have H := H1
    clear H1
    replace H := Option.bind_eq_some_iff.mp H
    obtain ⟨t125, A60, H⟩ := H
    replace H : ((rheostatbase_Among.f a1 4000).bind fun t126 => ((rheostatbase_Among.f a2 300).bind fun t127 => (rheostatlaw03_FxComes.l0 k (wrap64 (t126 - 2000)) (wrap64 (1 + t127)) (mx (wrap64 ((wrap64 (t125 - 2000)) - (wrap64 (t126 - 2000)))) (wrap64 ((wrap64 (t126 - 2000)) - (wrap64 (t125 - 2000))))) 0 (wrap64 (t125 - 2000))))) = some r := H
    have A6 := Aside0.mk A60
    clear A60
    replace H := Option.bind_eq_some_iff.mp H
    obtain ⟨t126, A70, H⟩ := H
    replace H : ((rheostatbase_Among.f a2 300).bind fun t127 => (rheostatlaw03_FxComes.l0 k (wrap64 (t126 - 2000)) (wrap64 (1 + t127)) (mx (wrap64 ((wrap64 (t125 - 2000)) - (wrap64 (t126 - 2000)))) (wrap64 ((wrap64 (t126 - 2000)) - (wrap64 (t125 - 2000))))) 0 (wrap64 (t125 - 2000)))) = some r := H
    have A7 := Aside0.mk A70
    clear A70
    replace H := Option.bind_eq_some_iff.mp H
    obtain ⟨t127, A80, H⟩ := H
    replace H : (rheostatlaw03_FxComes.l0 k (wrap64 (t126 - 2000)) (wrap64 (1 + t127)) (mx (wrap64 ((wrap64 (t125 - 2000)) - (wrap64 (t126 - 2000)))) (wrap64 ((wrap64 (t126 - 2000)) - (wrap64 (t125 - 2000))))) 0 (wrap64 (t125 - 2000))) = some r := H
    have A8 := Aside0.mk A80
    clear A80
    obtain ⟨ji9, hji9⟩ : ∃ j_ : Int, (mx (wrap64 ((wrap64 (t125 - 2000)) - (wrap64 (t126 - 2000)))) (wrap64 ((wrap64 (t126 - 2000)) - (wrap64 (t125 - 2000))))) = j_ := ⟨_, rfl⟩
    replace H : (rheostatlaw03_FxComes.l0 k (wrap64 (t126 - 2000)) (wrap64 (1 + t127)) ji9 0 (wrap64 (t125 - 2000))) = some r := by first | (rw [hji9] at H; exact H) | (simp only [hji9] at H ⊢; exact H)
    (try rw [hji9] at A4)
    (try rw [hji9] at A6)
    (try rw [hji9] at A7)
    (try rw [hji9] at A8)
    have hji9_ : (if (wrap64 ((wrap64 (t125 - 2000)) - (wrap64 (t126 - 2000)))) < (wrap64 ((wrap64 (t126 - 2000)) - (wrap64 (t125 - 2000)))) then (wrap64 ((wrap64 (t126 - 2000)) - (wrap64 (t125 - 2000)))) else (wrap64 ((wrap64 (t125 - 2000)) - (wrap64 (t126 - 2000))))) = ji9 := hji9
    have H' := Aside0.mk H
    clear H
    go_enter Try.func4, Try.ntmps4
    go_wp2_with (first | ((with_reducible refine gate_callee (f := 14) rfl ?_); refine goesL_ (some 11) rfl rfl Try.func14 (by kernel_rfl) rfl #[] rfl (by (try simp only [List.map_toArray, List.map_cons, List.map_nil]); first | done | rfl | (simp only [List.length_drop, List.length_take]; rfl)) ?_; (with_reducible refine (rheostatlaw03_works.calls k  true _ A4.out).mono ?_); rintro e w10 ⟨rfl, hb⟩; refine ⟨_, rfl, ?_⟩; have n0_ := Aside0.mk (below_step (by repeat (first | (with_reducible first | exact HB.out | apply below_alloc | apply pw_below_drewN | apply below_drew1) | exact HB.out)) hb); clear HB; have HB := n0_; clear n0_; (try clear hb); (try clear hb2); (try clear hk); (try clear hi)) | ((with_reducible refine gate_callee (f := 15) rfl ?_); refine goesL_ (some 14) rfl rfl Try.func15 (by kernel_rfl) rfl #[.int .i64 a0, .int .i64 4000] rfl (by (try simp only [List.map_toArray, List.map_cons, List.map_nil]); first | done | rfl | (simp only [List.length_drop, List.length_take]; rfl)) ?_; (with_reducible refine (rheostatbase_Among.calls a0 4000 t125 _ A6.out).mono ?_); rintro e w' ⟨rfl, ⟨nd, rfl⟩⟩; refine ⟨_, rfl, ?_⟩) | ((with_reducible refine gate_callee (f := 15) rfl ?_); refine goesL_ (some 17) rfl rfl Try.func15 (by kernel_rfl) rfl #[.int .i64 a1, .int .i64 4000] rfl (by (try simp only [List.map_toArray, List.map_cons, List.map_nil]); first | done | rfl | (simp only [List.length_drop, List.length_take]; rfl)) ?_; (with_reducible refine (rheostatbase_Among.calls a1 4000 t126 _ A7.out).mono ?_); rintro e w' ⟨rfl, ⟨nd, rfl⟩⟩; refine ⟨_, rfl, ?_⟩) | ((with_reducible refine gate_callee (f := 15) rfl ?_); refine goesL_ (some 20) rfl rfl Try.func15 (by kernel_rfl) rfl #[.int .i64 a2, .int .i64 300] rfl (by (try simp only [List.map_toArray, List.map_cons, List.map_nil]); first | done | rfl | (simp only [List.length_drop, List.length_take]; rfl)) ?_; (with_reducible refine (rheostatbase_Among.calls a2 300 t127 _ A8.out).mono ?_); rintro e w' ⟨rfl, ⟨nd, rfl⟩⟩; refine ⟨_, rfl, ?_⟩))
    go_loopg [8, 9] k (fun kq v8 v9 w' => ∃ (x8_1 : Int) (x9_1 : Int), v8 = .int .i64 x8_1 ∧ v9 = .int .i64 x9_1 ∧ Aside0 (rheostatlaw03_FxComes.l0 kq (wrap64 (t126 - 2000)) (wrap64 (1 + t127)) ji9 x8_1 x9_1 = some r) ∧ Aside0 (kq ≤ k) ∧ Aside0 (Below w.heap.size w w'))
    case atStart => exact ⟨(0), (wrap64 (t125 - 2000)), (by first | rfl | (simp; done) | (simp [*]; done)), (by first | rfl | (simp; done) | (simp [*]; done)), H', ⟨Nat.le_refl _⟩, ⟨by repeat (first | (with_reducible first | exact HB.out | apply below_alloc | apply pw_below_drewN | apply below_drew1) | exact HB.out)⟩⟩
    case round =>
      clear H'
      try clear c1
      try clear p2
      try clear c4
      try clear c5
      try clear p6
      obtain ⟨x8_1, x9_1, rfl, rfl, HA, HK1, HB⟩ := hrel
      cases gk with
      | zero => exact absurd HA.out (by simp [rheostatlaw03_FxComes.l0])
      | succ k1 =>
        have H := HA.out
        clear HA
        simp only [rheostatlaw03_FxComes.l0] at H
        have HC11 := Aside0.mk H
        clear H
        go_upto_region 7 with (fail)
        go_cut [36] (fun v36 wc => ∃ (kq : Nat) (x36_10 : Bool), v36 = .bool x36_10 ∧ Aside0 (rheostatlaw03_FxComes.j1 kq (wrap64 (t126 - 2000)) (wrap64 (1 + t127)) ji9 x8_1 x9_1 x36_10 = some r) ∧ Aside0 (kq ≤ k1) ∧ Aside0 (Below w.heap.size w wc))
        case first =>
          have H := HC11.out
          clear HC11
          by_cases c12 : x9_1 = (wrap64 (t126 - 2000))
          · rw [if_pos c12] at H
            have c12b0 : (x9_1 == (wrap64 (t126 - 2000))) = true := beq_iff_eq.mpr c12
            have c12b1 : (x9_1 != (wrap64 (t126 - 2000))) = false := bne_eq_false_iff_eq.mpr c12
            clear c12
            (first | rw [c12b0] | (simp only [i64_w, i32_w]; rw [c12b0]) | skip)
            have H' := Aside0.mk H
            clear H
            go_wp2
            go_meet
            case rel => exact ⟨_, (false), (by first | rfl | (simp; done) | (simp [*]; done)), H', ⟨by have := HK1.out; first | omega | exact Nat.le_refl _⟩, ⟨by repeat (first | (with_reducible first | exact HB.out | apply below_alloc | apply pw_below_drewN | apply below_drew1) | exact HB.out)⟩⟩
          · rw [if_neg c12] at H
            have c12b0 : (x9_1 == (wrap64 (t126 - 2000))) = false := beq_eq_false_iff_ne.mpr c12
            have c12b1 : (x9_1 != (wrap64 (t126 - 2000))) = true := bne_iff_ne.mpr c12
            (first | rw [c12b0] | (simp only [i64_w, i32_w]; rw [c12b0]) | skip)
            have H' := Aside0.mk H
            clear H
            go_wp2
            go_meet
            case rel => exact ⟨_, (decide (x8_1 < 5000)), (by first | rfl | (simp; done) | (simp [*]; done)), H', ⟨by have := HK1.out; first | omega | exact Nat.le_refl _⟩, ⟨by repeat (first | (with_reducible first | exact HB.out | apply below_alloc | apply pw_below_drewN | apply below_drew1) | exact HB.out)⟩⟩
        case rest =>
          clear HC11
          try clear c1
          try clear p2
          try clear c4
          try clear c5
          try clear p6
          try clear c12
          try clear c12b0
          try clear c12b1
          try clear p2
          try clear p6
          obtain ⟨kq, x36_10, rfl, HA, HJ10, HB⟩ := hcut
          cases kq with
          | zero => exact absurd HA.out (by simp [rheostatlaw03_FxComes.j1])
          | succ kj10 =>
            have H := HA.out
            clear HA
            simp only [rheostatlaw03_FxComes.j1] at H
            by_cases c13 : x36_10 = true
            · subst c13
              have H1 : ((fx_Toward.f kj10 x9_1 (wrap64 (t126 - 2000)) (wrap64 (1 + t127))).bind fun t128 => (if (mx (wrap64 (t128 - (wrap64 (t126 - 2000)))) (wrap64 ((wrap64 (t126 - 2000)) - t128))) = (mx 0 (wrap64 ((mx (wrap64 (x9_1 - (wrap64 (t126 - 2000)))) (wrap64 ((wrap64 (t126 - 2000)) - x9_1))) - (wrap64 (1 + t127))))) then (if t128 > (mx x9_1 (wrap64 (t126 - 2000))) then (some false) else (if t128 < (mn x9_1 (wrap64 (t126 - 2000))) then (some false) else (rheostatlaw03_FxComes.l0 kj10 (wrap64 (t126 - 2000)) (wrap64 (1 + t127)) ji9 (wrap64 (x8_1 + 1)) t128))) else (some false))) = some r := by rw [if_pos rfl] at H; exact H
              clear H
              have H := H1
              clear H1
              replace H := Option.bind_eq_some_iff.mp H
              obtain ⟨t128, A140, H⟩ := H
              replace H : (if (mx (wrap64 (t128 - (wrap64 (t126 - 2000)))) (wrap64 ((wrap64 (t126 - 2000)) - t128))) = (mx 0 (wrap64 ((mx (wrap64 (x9_1 - (wrap64 (t126 - 2000)))) (wrap64 ((wrap64 (t126 - 2000)) - x9_1))) - (wrap64 (1 + t127))))) then (if t128 > (mx x9_1 (wrap64 (t126 - 2000))) then (some false) else (if t128 < (mn x9_1 (wrap64 (t126 - 2000))) then (some false) else (rheostatlaw03_FxComes.l0 kj10 (wrap64 (t126 - 2000)) (wrap64 (1 + t127)) ji9 (wrap64 (x8_1 + 1)) t128))) else (some false)) = some r := H
              have A14 := Aside0.mk A140
              clear A140
              obtain ⟨ji15, hji15⟩ : ∃ j_ : Int, (mx (wrap64 (t128 - (wrap64 (t126 - 2000)))) (wrap64 ((wrap64 (t126 - 2000)) - t128))) = j_ := ⟨_, rfl⟩
              replace H : (if (ji15) = (mx 0 (wrap64 ((mx (wrap64 (x9_1 - (wrap64 (t126 - 2000)))) (wrap64 ((wrap64 (t126 - 2000)) - x9_1))) - (wrap64 (1 + t127))))) then (if t128 > (mx x9_1 (wrap64 (t126 - 2000))) then (some false) else (if t128 < (mn x9_1 (wrap64 (t126 - 2000))) then (some false) else (rheostatlaw03_FxComes.l0 kj10 (wrap64 (t126 - 2000)) (wrap64 (1 + t127)) ji9 (wrap64 (x8_1 + 1)) t128))) else (some false)) = some r := by first | (rw [hji15] at H; exact H) | (simp only [hji15] at H ⊢; exact H)
              (try rw [hji15] at A14)
              have hji15_ : (if (wrap64 (t128 - (wrap64 (t126 - 2000)))) < (wrap64 ((wrap64 (t126 - 2000)) - t128)) then (wrap64 ((wrap64 (t126 - 2000)) - t128)) else (wrap64 (t128 - (wrap64 (t126 - 2000))))) = ji15 := hji15
              obtain ⟨ji16, hji16⟩ : ∃ j_ : Int, (mx (wrap64 (x9_1 - (wrap64 (t126 - 2000)))) (wrap64 ((wrap64 (t126 - 2000)) - x9_1))) = j_ := ⟨_, rfl⟩
              replace H : (if (ji15) = (mx 0 (wrap64 ((ji16) - (wrap64 (1 + t127))))) then (if t128 > (mx x9_1 (wrap64 (t126 - 2000))) then (some false) else (if t128 < (mn x9_1 (wrap64 (t126 - 2000))) then (some false) else (rheostatlaw03_FxComes.l0 kj10 (wrap64 (t126 - 2000)) (wrap64 (1 + t127)) ji9 (wrap64 (x8_1 + 1)) t128))) else (some false)) = some r := by first | (rw [hji16] at H; exact H) | (simp only [hji16] at H ⊢; exact H)
              (try rw [hji16] at A14)
              have hji16_ : (if (wrap64 (x9_1 - (wrap64 (t126 - 2000)))) < (wrap64 ((wrap64 (t126 - 2000)) - x9_1)) then (wrap64 ((wrap64 (t126 - 2000)) - x9_1)) else (wrap64 (x9_1 - (wrap64 (t126 - 2000))))) = ji16 := hji16
              obtain ⟨ji17, hji17⟩ : ∃ j_ : Int, (mx 0 (wrap64 ((ji16) - (wrap64 (1 + t127))))) = j_ := ⟨_, rfl⟩
              replace H : (if (ji15) = (ji17) then (if t128 > (mx x9_1 (wrap64 (t126 - 2000))) then (some false) else (if t128 < (mn x9_1 (wrap64 (t126 - 2000))) then (some false) else (rheostatlaw03_FxComes.l0 kj10 (wrap64 (t126 - 2000)) (wrap64 (1 + t127)) ji9 (wrap64 (x8_1 + 1)) t128))) else (some false)) = some r := by first | (rw [hji17] at H; exact H) | (simp only [hji17] at H ⊢; exact H)
              (try rw [hji17] at A14)
              have hji17_ : (if 0 < (wrap64 ((ji16) - (wrap64 (1 + t127)))) then (wrap64 ((ji16) - (wrap64 (1 + t127)))) else 0) = ji17 := hji17
              by_cases c18 : (ji15) = (ji17)
              · rw [if_pos c18] at H
                have c18b0 : ((ji15) == (ji17)) = true := beq_iff_eq.mpr c18
                have c18b1 : ((ji15) != (ji17)) = false := bne_eq_false_iff_eq.mpr c18
                clear c18
                obtain ⟨ji19, hji19⟩ : ∃ j_ : Int, (mx x9_1 (wrap64 (t126 - 2000))) = j_ := ⟨_, rfl⟩
                replace H : (if t128 > (ji19) then (some false) else (if t128 < (mn x9_1 (wrap64 (t126 - 2000))) then (some false) else (rheostatlaw03_FxComes.l0 kj10 (wrap64 (t126 - 2000)) (wrap64 (1 + t127)) ji9 (wrap64 (x8_1 + 1)) t128))) = some r := by first | (rw [hji19] at H; exact H) | (simp only [hji19] at H ⊢; exact H)
                (try rw [hji19] at A14)
                have hji19_ : (if x9_1 < (wrap64 (t126 - 2000)) then (wrap64 (t126 - 2000)) else x9_1) = ji19 := hji19
                by_cases c20 : t128 > (ji19)
                · rw [if_pos c20] at H
                  have c20b0 : decide ((ji19) < t128) = true := decide_eq_true c20
                  clear c20
                  obtain rfl := Option.some.inj H
                  go_wp2_with (first | ((with_reducible refine gate_callee (f := 10) rfl ?_); refine goesL_ (some 42) rfl rfl Try.func10 (by kernel_rfl) rfl #[.int .i64 x9_1, .int .i64 (wrap64 (t126 - 2000)), .int .i64 (wrap64 (1 + t127))] rfl (by (try simp only [List.map_toArray, List.map_cons, List.map_nil]); first | done | rfl | (simp only [List.length_drop, List.length_take]; rfl)) ?_; (with_reducible refine (fx_Toward.calls kj10 x9_1 (wrap64 (t126 - 2000)) (wrap64 (1 + t127)) t128 _ A14.out).mono ?_); rintro e w' ⟨rfl, ⟨nd, rfl⟩⟩; refine ⟨_, rfl, ?_⟩))
                  go_ret
                  exact ⟨by first | rfl | (simp [errW_none, errW_some] <;> rfl) | (simp only [← hji9, ← hji15, ← hji16, ← hji17, ← hji19]; first | rfl | (simp [errW_none, errW_some] <;> rfl)) | (simp [*, errW_none, errW_some] <;> rfl), by repeat (first | (with_reducible first | exact HB.out | apply below_alloc | apply pw_below_drewN | apply below_drew1) | exact HB.out)⟩
                · rw [if_neg c20] at H
                  have c20b0 : decide ((ji19) < t128) = false := decide_eq_false c20
                  clear c20
                  obtain ⟨ji21, hji21⟩ : ∃ j_ : Int, (mn x9_1 (wrap64 (t126 - 2000))) = j_ := ⟨_, rfl⟩
                  replace H : (if t128 < (ji21) then (some false) else (rheostatlaw03_FxComes.l0 kj10 (wrap64 (t126 - 2000)) (wrap64 (1 + t127)) ji9 (wrap64 (x8_1 + 1)) t128)) = some r := by first | (rw [hji21] at H; exact H) | (simp only [hji21] at H ⊢; exact H)
                  (try rw [hji21] at A14)
                  have hji21_ : (if (wrap64 (t126 - 2000)) < x9_1 then (wrap64 (t126 - 2000)) else x9_1) = ji21 := hji21
                  by_cases c22 : t128 < (ji21)
                  · rw [if_pos c22] at H
                    have c22b0 : decide (t128 < (ji21)) = true := decide_eq_true c22
                    clear c22
                    obtain rfl := Option.some.inj H
                    go_wp2_with (first | ((with_reducible refine gate_callee (f := 10) rfl ?_); refine goesL_ (some 42) rfl rfl Try.func10 (by kernel_rfl) rfl #[.int .i64 x9_1, .int .i64 (wrap64 (t126 - 2000)), .int .i64 (wrap64 (1 + t127))] rfl (by (try simp only [List.map_toArray, List.map_cons, List.map_nil]); first | done | rfl | (simp only [List.length_drop, List.length_take]; rfl)) ?_; (with_reducible refine (fx_Toward.calls kj10 x9_1 (wrap64 (t126 - 2000)) (wrap64 (1 + t127)) t128 _ A14.out).mono ?_); rintro e w' ⟨rfl, ⟨nd, rfl⟩⟩; refine ⟨_, rfl, ?_⟩))
                    go_ret
                    exact ⟨by first | rfl | (simp [errW_none, errW_some] <;> rfl) | (simp only [← hji9, ← hji15, ← hji16, ← hji17, ← hji19, ← hji21]; first | rfl | (simp [errW_none, errW_some] <;> rfl)) | (simp [*, errW_none, errW_some] <;> rfl), by repeat (first | (with_reducible first | exact HB.out | apply below_alloc | apply pw_below_drewN | apply below_drew1) | exact HB.out)⟩
                  · rw [if_neg c22] at H
                    have c22b0 : decide (t128 < (ji21)) = false := decide_eq_false c22
                    clear c22
                    have H' := Aside0.mk H
                    clear H
                    go_wp2_with (first | ((with_reducible refine gate_callee (f := 10) rfl ?_); refine goesL_ (some 42) rfl rfl Try.func10 (by kernel_rfl) rfl #[.int .i64 x9_1, .int .i64 (wrap64 (t126 - 2000)), .int .i64 (wrap64 (1 + t127))] rfl (by (try simp only [List.map_toArray, List.map_cons, List.map_nil]); first | done | rfl | (simp only [List.length_drop, List.length_take]; rfl)) ?_; (with_reducible refine (fx_Toward.calls kj10 x9_1 (wrap64 (t126 - 2000)) (wrap64 (1 + t127)) t128 _ A14.out).mono ?_); rintro e w' ⟨rfl, ⟨nd, rfl⟩⟩; refine ⟨_, rfl, ?_⟩))
                    go_roundg kj10
                    case measure => have := HK1.out; have := HJ10.out; omega
                    case rel => exact ⟨(wrap64 (x8_1 + 1)), (t128), (by first | rfl | (simp; done) | (simp [*]; done)), (by first | rfl | (simp; done) | (simp [*]; done)), H', ⟨by have := HK1.out; have := HJ10.out; omega⟩, ⟨by repeat (first | (with_reducible first | exact HB.out | apply below_alloc | apply pw_below_drewN | apply below_drew1) | exact HB.out)⟩⟩
              · rw [if_neg c18] at H
                have c18b0 : ((ji15) == (ji17)) = false := beq_eq_false_iff_ne.mpr c18
                have c18b1 : ((ji15) != (ji17)) = true := bne_iff_ne.mpr c18
                obtain rfl := Option.some.inj H
                go_wp2_with (first | ((with_reducible refine gate_callee (f := 10) rfl ?_); refine goesL_ (some 42) rfl rfl Try.func10 (by kernel_rfl) rfl #[.int .i64 x9_1, .int .i64 (wrap64 (t126 - 2000)), .int .i64 (wrap64 (1 + t127))] rfl (by (try simp only [List.map_toArray, List.map_cons, List.map_nil]); first | done | rfl | (simp only [List.length_drop, List.length_take]; rfl)) ?_; (with_reducible refine (fx_Toward.calls kj10 x9_1 (wrap64 (t126 - 2000)) (wrap64 (1 + t127)) t128 _ A14.out).mono ?_); rintro e w' ⟨rfl, ⟨nd, rfl⟩⟩; refine ⟨_, rfl, ?_⟩))
                go_ret
                exact ⟨by first | rfl | (simp [errW_none, errW_some] <;> rfl) | (simp only [← hji9, ← hji15, ← hji16, ← hji17]; first | rfl | (simp [errW_none, errW_some] <;> rfl)) | (simp [*, errW_none, errW_some] <;> rfl), by repeat (first | (with_reducible first | exact HB.out | apply below_alloc | apply pw_below_drewN | apply below_drew1) | exact HB.out)⟩
            · replace c13 := Bool.eq_false_iff.mpr c13
              subst c13
              have H1 : (if (wrap64 (1 + t127)) = 0 then (none) else (if x8_1 = (wrap64 (Int.tdiv (wrap64 ((wrap64 (ji9 + (wrap64 (1 + t127)))) - 1)) (wrap64 (1 + t127)))) then ((fx_Toward.f kj10 (wrap64 (t126 - 2000)) (wrap64 (t126 - 2000)) (wrap64 (1 + t127))).bind fun t129 => (some (t129 == (wrap64 (t126 - 2000))))) else (some false))) = some r := by rw [if_neg (show ¬ (false = true) by decide)] at H; exact H
              clear H
              have H := H1
              clear H1
              by_cases c23 : (wrap64 (1 + t127)) = 0
              · rw [if_pos c23] at H
                exact absurd H (by simp)
              · rw [if_neg c23] at H
                have c23b0 : ((wrap64 (1 + t127)) == 0) = false := beq_eq_false_iff_ne.mpr c23
                have c23b1 : ((wrap64 (1 + t127)) != 0) = true := bne_iff_ne.mpr c23
                by_cases c24 : x8_1 = (wrap64 (Int.tdiv (wrap64 ((wrap64 (ji9 + (wrap64 (1 + t127)))) - 1)) (wrap64 (1 + t127))))
                · rw [if_pos c24] at H
                  have c24b0 : (x8_1 == (wrap64 (Int.tdiv (wrap64 ((wrap64 (ji9 + (wrap64 (1 + t127)))) - 1)) (wrap64 (1 + t127))))) = true := beq_iff_eq.mpr c24
                  have c24b1 : (x8_1 != (wrap64 (Int.tdiv (wrap64 ((wrap64 (ji9 + (wrap64 (1 + t127)))) - 1)) (wrap64 (1 + t127))))) = false := bne_eq_false_iff_eq.mpr c24
                  clear c24
                  replace H := Option.bind_eq_some_iff.mp H
                  obtain ⟨t129, A250, H⟩ := H
                  replace H : (some (t129 == (wrap64 (t126 - 2000)))) = some r := H
                  have A25 := Aside0.mk A250
                  clear A250
                  obtain rfl := Option.some.inj H
                  go_wp2_with (first | (go_at_call 10; (with_reducible refine (fx_Toward.calls kj10 (wrap64 (t126 - 2000)) (wrap64 (t126 - 2000)) (wrap64 (1 + t127)) t129 _ A25.out).mono ?_); rintro e w' ⟨rfl, ⟨nd, rfl⟩⟩))
                  go_ret
                  exact ⟨by first | rfl | (simp [errW_none, errW_some] <;> rfl) | (simp only [← hji9]; first | rfl | (simp [errW_none, errW_some] <;> rfl)) | (simp [*, errW_none, errW_some] <;> rfl), by repeat (first | (with_reducible first | exact HB.out | apply below_alloc | apply pw_below_drewN | apply below_drew1) | exact HB.out)⟩
                · rw [if_neg c24] at H
                  have c24b0 : (x8_1 == (wrap64 (Int.tdiv (wrap64 ((wrap64 (ji9 + (wrap64 (1 + t127)))) - 1)) (wrap64 (1 + t127))))) = false := beq_eq_false_iff_ne.mpr c24
                  have c24b1 : (x8_1 != (wrap64 (Int.tdiv (wrap64 ((wrap64 (ji9 + (wrap64 (1 + t127)))) - 1)) (wrap64 (1 + t127))))) = true := bne_iff_ne.mpr c24
                  obtain rfl := Option.some.inj H
                  go_wp2
                  go_ret
                  exact ⟨by first | rfl | (simp [errW_none, errW_some] <;> rfl) | (simp only [← hji9]; first | rfl | (simp [errW_none, errW_some] <;> rfl)) | (simp [*, errW_none, errW_some] <;> rfl), by repeat (first | (with_reducible first | exact HB.out | apply below_alloc | apply pw_below_drewN | apply below_drew1) | exact HB.out)⟩
  · replace c5 := Bool.eq_false_iff.mpr c5
    subst c5
    have H1 : (some false) = some r := by rw [if_neg (show ¬ (false = true) by decide)] at H; exact H
    clear H
    have H := H1
    clear H1
    obtain rfl := Option.some.inj H
    go_enter Try.func4, Try.ntmps4
    go_wp2_with (first | ((with_reducible refine gate_callee (f := 14) rfl ?_); refine goesL_ (some 11) rfl rfl Try.func14 (by kernel_rfl) rfl #[] rfl (by (try simp only [List.map_toArray, List.map_cons, List.map_nil]); first | done | rfl | (simp only [List.length_drop, List.length_take]; rfl)) ?_; (with_reducible refine (rheostatlaw03_works.calls k  false _ A4.out).mono ?_); rintro e w26 ⟨rfl, hb⟩; refine ⟨_, rfl, ?_⟩; have n0_ := Aside0.mk (below_step (by repeat (first | (with_reducible first | exact HB.out | apply below_alloc | apply pw_below_drewN | apply below_drew1) | exact HB.out)) hb); clear HB; have HB := n0_; clear n0_; (try clear hb); (try clear hb2); (try clear hk); (try clear hi)))
    go_ret
    exact ⟨by first | rfl | (simp [errW_none, errW_some] <;> rfl) | (simp [*, errW_none, errW_some] <;> rfl), by repeat (first | (with_reducible first | exact HB.out | apply below_alloc | apply pw_below_drewN | apply below_drew1) | exact HB.out)⟩

/-- THE ONE PURE STATEMENT of rheostatlaw03_FxComes: yours. -/
def rheostatlaw03_FxComes.Pure : Prop := ∀ (a0 : Int) (a1 : Int) (a2 : Int), (Lit.int .i64 a0).wf = true → (Lit.int .i64 a1).wf = true → (Lit.int .i64 a2).wf = true → ∃ k, rheostatlaw03_FxComes.f k a0 a1 a2 = some true
theorem rheostatlaw03_FxComes.walk (P : rheostatlaw03_FxComes.Pure) (a0 : Int) (a1 : Int) (a2 : Int) (w : World) (w0 : (Lit.int .i64 a0).wf = true) (w1 : (Lit.int .i64 a1).wf = true) (w2 : (Lit.int .i64 a2).wf = true) :
    Calls Try.prog 4 #[.int .i64 a0, .int .i64 a1, .int .i64 a2] w fun e w' => e = .returned (.bool true) ∧ Below w.heap.size w w' := by
  obtain ⟨k, h⟩ := P a0 a1 a2 w0 w1 w2
  refine (rheostatlaw03_FxComes.calls k a0 a1 a2 true w h).mono ?_
  rintro e w' ⟨rfl, hd⟩
  exact ⟨rfl, hd⟩

end Go.Proofs.Ytfebnnjdkkcphaa.PAll
