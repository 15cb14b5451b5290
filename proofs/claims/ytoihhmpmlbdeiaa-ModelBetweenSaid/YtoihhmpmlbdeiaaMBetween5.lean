/- MBetween: what is proved for the claim, part 5: functions' reckonings, and what they give. -/
import Derived.Test.YtoihhmpmlbdeiaaMBetween4
import Derived.KernelRfl
import Derived.Test.YtoihhmpmlbdeiaaRows
import Derived.WalkKit
import Derived.ProofKit
import Derived.OpenShut
import Derived.ShutString
import Derived.ChangeOld
import Derived.Below
import Derived.SizedLaws
import Derived.Test.YtoihhmpmlbdeiaaMBetweenLZ
set_option linter.unusedVariables false
set_option linter.unusedSimpArgs false
/- QModelBetween -/
namespace Go.Proofs.Ytoihhmpmlbdeiaa.Rig
open Go
set_option maxRecDepth 100000 in
theorem tLModelBetween_0 (u : Int) (I : Int) (rr : Int) (tau : Int) (zticks : Bool) (ticks : List Int) (i : Nat) : tidied TModelBetween_0 UModelBetween_0 1 (evCode (mkL Try.prog 0 (fun _ => none) tab18 rowsModelBetween) (evCall (mkC Try.prog 0 (fun _ => none) tab18) 50) 4 1 fuelC (bodyAt Try.prog 4 0) (hdModelBetween_0 ⟨u, I, rr, tau, zticks, ticks, i⟩)) =
  Tree.br (decide ((i : Int) < ((List.length ticks) : Int)))
    (Tree.br (decide ((i : Int) < (60 : Int)))
      (Tree.br (!zticks && decide ((0 : Int) ≤ (i : Int) ∧ (i : Int) < ((List.length ticks) : Int)))
        (Tree.br (decide (Int.toNat (i : Int) * 1 + 0 + 1 ≤ List.length ticks))
          (Tree.chk
            ((True ∧ True ∧ True ∧ True ∧ True ∧ True) ∧
              (-9223372036854775808 : Int) ≤ u ∧
                u ≤ (9223372036854775807 : Int) ∧
                  (-9223372036854775808 : Int) ≤ I ∧
                    I ≤ (9223372036854775807 : Int) ∧
                      (-9223372036854775808 : Int) ≤ rr ∧
                        rr ≤ (9223372036854775807 : Int) ∧
                          (-9223372036854775808 : Int) ≤ tau ∧
                            tau ≤ (9223372036854775807 : Int) ∧
                              (-9223372036854775808 : Int) ≤ List.getD ticks (Int.toNat (i : Int) * 1 + 0 + 0) (0 : Int) ∧
                                List.getD ticks (Int.toNat (i : Int) * 1 + 0 + 0) (0 : Int) ≤ (9223372036854775807 : Int))
            (Tree.br (rlE u I rr tau (List.getD ticks (Int.toNat (i : Int) * 1 + 0 + 0) (0 : Int)) != (0 : Int))
              (Tree.ret
                (Ex.ret,
                  St.mk
                    [AV.junk, AV.junk, AV.junk, AV.junk, AV.junk, AV.junk, AV.junk, AV.junk, AV.junk, AV.junk,
                      AV.bool false (rlV u I rr tau (List.getD ticks (Int.toNat (i : Int) * 1 + 0 + 0) (0 : Int)) == (0 : Int)), AV.junk, AV.junk, AV.junk, AV.junk, AV.junk, AV.junk, AV.junk, AV.junk,
                      AV.junk, AV.junk, AV.junk, AV.junk, AV.junk, AV.junk, AV.junk, AV.junk, AV.junk, AV.junk, AV.junk, AV.junk, AV.junk, AV.junk, AV.junk, AV.junk, AV.junk, AV.junk, AV.junk, AV.junk, AV.junk, AV.junk, AV.junk, AV.junk,
                      AV.junk, AV.junk, AV.junk, AV.junk, AV.junk, AV.junk, AV.junk, AV.junk, AV.junk, AV.junk, AV.junk, AV.junk, AV.junk, AV.junk, AV.junk, AV.junk, AV.junk, AV.junk, AV.junk, AV.junk, AV.junk, AV.junk, AV.junk, AV.junk]
                    [some (Blk.mk (3) false false true (Data.ints IntKind.i64 ticks))]))
              (Tree.br (decide (rlV u I rr tau (List.getD ticks (Int.toNat (i : Int) * 1 + 0 + 0) (0 : Int)) < if driveZ I rr < u then driveZ I rr else u))
                (Tree.ret
                  (Ex.ret,
                    St.mk
                      [AV.junk, AV.junk, AV.junk, AV.junk, AV.junk, AV.junk, AV.junk, AV.junk, AV.junk, AV.junk, AV.bool true false, AV.junk, AV.junk, AV.junk, AV.junk, AV.junk, AV.junk, AV.junk, AV.junk, AV.junk, AV.junk, AV.junk, AV.junk,
                        AV.junk, AV.junk, AV.junk, AV.junk, AV.junk, AV.junk, AV.junk, AV.junk, AV.junk, AV.junk, AV.junk, AV.junk, AV.junk, AV.junk, AV.junk, AV.junk, AV.junk, AV.junk, AV.junk, AV.junk, AV.junk, AV.junk, AV.junk, AV.junk,
                        AV.junk, AV.junk, AV.junk, AV.junk, AV.junk, AV.junk, AV.junk, AV.junk, AV.junk, AV.junk, AV.junk, AV.junk, AV.junk, AV.junk, AV.junk, AV.junk, AV.junk, AV.junk, AV.junk, AV.junk]
                      [some (Blk.mk (3) false false true (Data.ints IntKind.i64 ticks))]))
                (Tree.br (decide (rlV u I rr tau (List.getD ticks (Int.toNat (i : Int) * 1 + 0 + 0) (0 : Int)) > if driveZ I rr > u then driveZ I rr else u))
                  (Tree.ret
                    (Ex.ret,
                      St.mk
                        [AV.junk, AV.junk, AV.junk, AV.junk, AV.junk, AV.junk, AV.junk, AV.junk, AV.junk, AV.junk, AV.bool true false, AV.junk, AV.junk, AV.junk, AV.junk, AV.junk, AV.junk, AV.junk, AV.junk, AV.junk, AV.junk, AV.junk, AV.junk,
                          AV.junk, AV.junk, AV.junk, AV.junk, AV.junk, AV.junk, AV.junk, AV.junk, AV.junk, AV.junk, AV.junk, AV.junk, AV.junk, AV.junk, AV.junk, AV.junk, AV.junk, AV.junk, AV.junk, AV.junk, AV.junk, AV.junk, AV.junk, AV.junk,
                          AV.junk, AV.junk, AV.junk, AV.junk, AV.junk, AV.junk, AV.junk, AV.junk, AV.junk, AV.junk, AV.junk, AV.junk, AV.junk, AV.junk, AV.junk, AV.junk, AV.junk, AV.junk, AV.junk, AV.junk]
                        [some (Blk.mk (3) false false true (Data.ints IntKind.i64 ticks))]))
                  (Tree.ret
                    (Ex.norm,
                      St.mk
                        [AV.int IntKind.i64 false (rlV u I rr tau (List.getD ticks (Int.toNat (i : Int) * 1 + 0 + 0) (0 : Int))), AV.int IntKind.i64 false I, AV.int IntKind.i64 false rr,
                          AV.int IntKind.i64 false tau, AV.sl zticks (Ref.mk (0) (0) (0) (0)) false (List.length ticks) Cap.any, AV.junk, AV.junk, AV.junk, AV.junk, AV.junk, AV.junk,
                          AV.int IntKind.i64 false (driveZ I rr), AV.junk, AV.int IntKind.i64 false (IntKind.wrap IntKind.i64 ((i : Int) + (1 : Int))), AV.junk, AV.junk, AV.junk, AV.junk, AV.junk, AV.junk, AV.junk, AV.junk, AV.junk,
                          AV.junk, AV.junk, AV.junk, AV.junk, AV.junk, AV.junk, AV.junk, AV.junk, AV.junk, AV.junk, AV.junk, AV.junk, AV.junk, AV.junk, AV.junk, AV.junk, AV.junk, AV.junk, AV.junk, AV.junk, AV.junk, AV.junk, AV.junk, AV.junk,
                          AV.junk, AV.junk, AV.junk, AV.junk, AV.junk, AV.junk, AV.junk, AV.junk, AV.junk, AV.junk, AV.junk, AV.junk, AV.junk, AV.junk, AV.junk, AV.junk, AV.junk, AV.junk, AV.junk, AV.junk]
                        [some (Blk.mk (3) false false true (Data.ints IntKind.i64 ticks))]))))))
          Tree.fail)
        Tree.fail)
      (Tree.ret
        (Ex.exit (0),
          St.mk
            [AV.junk, AV.junk, AV.junk, AV.junk, AV.junk, AV.junk, AV.junk, AV.junk, AV.junk, AV.junk, AV.junk, AV.junk, AV.junk, AV.junk, AV.junk, AV.junk, AV.junk, AV.junk, AV.junk, AV.junk, AV.junk, AV.junk, AV.junk, AV.junk, AV.junk,
              AV.junk, AV.junk, AV.junk, AV.junk, AV.junk, AV.junk, AV.junk, AV.junk, AV.junk, AV.junk, AV.junk, AV.junk, AV.junk, AV.junk, AV.junk, AV.junk, AV.junk, AV.junk, AV.junk, AV.junk, AV.junk, AV.junk, AV.junk, AV.junk, AV.junk,
              AV.junk, AV.junk, AV.junk, AV.junk, AV.junk, AV.junk, AV.junk, AV.junk, AV.junk, AV.junk, AV.junk, AV.junk, AV.junk, AV.junk, AV.junk, AV.junk, AV.junk]
            [some (Blk.mk (3) false false true (Data.ints IntKind.i64 ticks))])))
    (Tree.ret
      (Ex.exit (0),
        St.mk
          [AV.junk, AV.junk, AV.junk, AV.junk, AV.junk, AV.junk, AV.junk, AV.junk, AV.junk, AV.junk, AV.junk, AV.junk, AV.junk, AV.junk, AV.junk, AV.junk, AV.junk, AV.junk, AV.junk, AV.junk, AV.junk, AV.junk, AV.junk, AV.junk, AV.junk,
            AV.junk, AV.junk, AV.junk, AV.junk, AV.junk, AV.junk, AV.junk, AV.junk, AV.junk, AV.junk, AV.junk, AV.junk, AV.junk, AV.junk, AV.junk, AV.junk, AV.junk, AV.junk, AV.junk, AV.junk, AV.junk, AV.junk, AV.junk, AV.junk, AV.junk,
            AV.junk, AV.junk, AV.junk, AV.junk, AV.junk, AV.junk, AV.junk, AV.junk, AV.junk, AV.junk, AV.junk, AV.junk, AV.junk, AV.junk, AV.junk, AV.junk, AV.junk]
          [some (Blk.mk (3) false false true (Data.ints IntKind.i64 ticks))])) := by kernel_rfl
set_option maxRecDepth 100000 in
theorem stepModelBetween_0 (u : Int) (I : Int) (rr : Int) (tau : Int) (zticks : Bool) (ticks : List Int) (i : Nat) (ex : Ex) (r : St) (hok : okModelBetween_0 ⟨u, I, rr, tau, zticks, ticks, i⟩) (hr : (outModelBetween_0 ⟨u, I, rr, tau, zticks, ticks, i⟩).runs (ex, r)) : (Tree.br (decide ((i : Int) < ((List.length ticks) : Int)))
    (Tree.br (decide ((i : Int) < (60 : Int)))
      (Tree.br (!zticks && decide ((0 : Int) ≤ (i : Int) ∧ (i : Int) < ((List.length ticks) : Int)))
        (Tree.br (decide (Int.toNat (i : Int) * 1 + 0 + 1 ≤ List.length ticks))
          (Tree.chk
            ((True ∧ True ∧ True ∧ True ∧ True ∧ True) ∧
              (-9223372036854775808 : Int) ≤ u ∧
                u ≤ (9223372036854775807 : Int) ∧
                  (-9223372036854775808 : Int) ≤ I ∧
                    I ≤ (9223372036854775807 : Int) ∧
                      (-9223372036854775808 : Int) ≤ rr ∧
                        rr ≤ (9223372036854775807 : Int) ∧
                          (-9223372036854775808 : Int) ≤ tau ∧
                            tau ≤ (9223372036854775807 : Int) ∧
                              (-9223372036854775808 : Int) ≤ List.getD ticks (Int.toNat (i : Int) * 1 + 0 + 0) (0 : Int) ∧
                                List.getD ticks (Int.toNat (i : Int) * 1 + 0 + 0) (0 : Int) ≤ (9223372036854775807 : Int))
            (Tree.br (rlE u I rr tau (List.getD ticks (Int.toNat (i : Int) * 1 + 0 + 0) (0 : Int)) != (0 : Int))
              (Tree.ret
                (Ex.ret,
                  St.mk
                    [AV.junk, AV.junk, AV.junk, AV.junk, AV.junk, AV.junk, AV.junk, AV.junk, AV.junk, AV.junk,
                      AV.bool false (rlV u I rr tau (List.getD ticks (Int.toNat (i : Int) * 1 + 0 + 0) (0 : Int)) == (0 : Int)), AV.junk, AV.junk, AV.junk, AV.junk, AV.junk, AV.junk, AV.junk, AV.junk,
                      AV.junk, AV.junk, AV.junk, AV.junk, AV.junk, AV.junk, AV.junk, AV.junk, AV.junk, AV.junk, AV.junk, AV.junk, AV.junk, AV.junk, AV.junk, AV.junk, AV.junk, AV.junk, AV.junk, AV.junk, AV.junk, AV.junk, AV.junk, AV.junk,
                      AV.junk, AV.junk, AV.junk, AV.junk, AV.junk, AV.junk, AV.junk, AV.junk, AV.junk, AV.junk, AV.junk, AV.junk, AV.junk, AV.junk, AV.junk, AV.junk, AV.junk, AV.junk, AV.junk, AV.junk, AV.junk, AV.junk, AV.junk, AV.junk]
                    [some (Blk.mk (3) false false true (Data.ints IntKind.i64 ticks))]))
              (Tree.br (decide (rlV u I rr tau (List.getD ticks (Int.toNat (i : Int) * 1 + 0 + 0) (0 : Int)) < if driveZ I rr < u then driveZ I rr else u))
                (Tree.ret
                  (Ex.ret,
                    St.mk
                      [AV.junk, AV.junk, AV.junk, AV.junk, AV.junk, AV.junk, AV.junk, AV.junk, AV.junk, AV.junk, AV.bool true false, AV.junk, AV.junk, AV.junk, AV.junk, AV.junk, AV.junk, AV.junk, AV.junk, AV.junk, AV.junk, AV.junk, AV.junk,
                        AV.junk, AV.junk, AV.junk, AV.junk, AV.junk, AV.junk, AV.junk, AV.junk, AV.junk, AV.junk, AV.junk, AV.junk, AV.junk, AV.junk, AV.junk, AV.junk, AV.junk, AV.junk, AV.junk, AV.junk, AV.junk, AV.junk, AV.junk, AV.junk,
                        AV.junk, AV.junk, AV.junk, AV.junk, AV.junk, AV.junk, AV.junk, AV.junk, AV.junk, AV.junk, AV.junk, AV.junk, AV.junk, AV.junk, AV.junk, AV.junk, AV.junk, AV.junk, AV.junk, AV.junk]
                      [some (Blk.mk (3) false false true (Data.ints IntKind.i64 ticks))]))
                (Tree.br (decide (rlV u I rr tau (List.getD ticks (Int.toNat (i : Int) * 1 + 0 + 0) (0 : Int)) > if driveZ I rr > u then driveZ I rr else u))
                  (Tree.ret
                    (Ex.ret,
                      St.mk
                        [AV.junk, AV.junk, AV.junk, AV.junk, AV.junk, AV.junk, AV.junk, AV.junk, AV.junk, AV.junk, AV.bool true false, AV.junk, AV.junk, AV.junk, AV.junk, AV.junk, AV.junk, AV.junk, AV.junk, AV.junk, AV.junk, AV.junk, AV.junk,
                          AV.junk, AV.junk, AV.junk, AV.junk, AV.junk, AV.junk, AV.junk, AV.junk, AV.junk, AV.junk, AV.junk, AV.junk, AV.junk, AV.junk, AV.junk, AV.junk, AV.junk, AV.junk, AV.junk, AV.junk, AV.junk, AV.junk, AV.junk, AV.junk,
                          AV.junk, AV.junk, AV.junk, AV.junk, AV.junk, AV.junk, AV.junk, AV.junk, AV.junk, AV.junk, AV.junk, AV.junk, AV.junk, AV.junk, AV.junk, AV.junk, AV.junk, AV.junk, AV.junk, AV.junk]
                        [some (Blk.mk (3) false false true (Data.ints IntKind.i64 ticks))]))
                  (Tree.ret
                    (Ex.norm,
                      St.mk
                        [AV.int IntKind.i64 false (rlV u I rr tau (List.getD ticks (Int.toNat (i : Int) * 1 + 0 + 0) (0 : Int))), AV.int IntKind.i64 false I, AV.int IntKind.i64 false rr,
                          AV.int IntKind.i64 false tau, AV.sl zticks (Ref.mk (0) (0) (0) (0)) false (List.length ticks) Cap.any, AV.junk, AV.junk, AV.junk, AV.junk, AV.junk, AV.junk,
                          AV.int IntKind.i64 false (driveZ I rr), AV.junk, AV.int IntKind.i64 false (IntKind.wrap IntKind.i64 ((i : Int) + (1 : Int))), AV.junk, AV.junk, AV.junk, AV.junk, AV.junk, AV.junk, AV.junk, AV.junk, AV.junk,
                          AV.junk, AV.junk, AV.junk, AV.junk, AV.junk, AV.junk, AV.junk, AV.junk, AV.junk, AV.junk, AV.junk, AV.junk, AV.junk, AV.junk, AV.junk, AV.junk, AV.junk, AV.junk, AV.junk, AV.junk, AV.junk, AV.junk, AV.junk, AV.junk,
                          AV.junk, AV.junk, AV.junk, AV.junk, AV.junk, AV.junk, AV.junk, AV.junk, AV.junk, AV.junk, AV.junk, AV.junk, AV.junk, AV.junk, AV.junk, AV.junk, AV.junk, AV.junk, AV.junk, AV.junk]
                        [some (Blk.mk (3) false false true (Data.ints IntKind.i64 ticks))]))))))
          Tree.fail)
        Tree.fail)
      (Tree.ret
        (Ex.exit (0),
          St.mk
            [AV.junk, AV.junk, AV.junk, AV.junk, AV.junk, AV.junk, AV.junk, AV.junk, AV.junk, AV.junk, AV.junk, AV.junk, AV.junk, AV.junk, AV.junk, AV.junk, AV.junk, AV.junk, AV.junk, AV.junk, AV.junk, AV.junk, AV.junk, AV.junk, AV.junk,
              AV.junk, AV.junk, AV.junk, AV.junk, AV.junk, AV.junk, AV.junk, AV.junk, AV.junk, AV.junk, AV.junk, AV.junk, AV.junk, AV.junk, AV.junk, AV.junk, AV.junk, AV.junk, AV.junk, AV.junk, AV.junk, AV.junk, AV.junk, AV.junk, AV.junk,
              AV.junk, AV.junk, AV.junk, AV.junk, AV.junk, AV.junk, AV.junk, AV.junk, AV.junk, AV.junk, AV.junk, AV.junk, AV.junk, AV.junk, AV.junk, AV.junk, AV.junk]
            [some (Blk.mk (3) false false true (Data.ints IntKind.i64 ticks))])))
    (Tree.ret
      (Ex.exit (0),
        St.mk
          [AV.junk, AV.junk, AV.junk, AV.junk, AV.junk, AV.junk, AV.junk, AV.junk, AV.junk, AV.junk, AV.junk, AV.junk, AV.junk, AV.junk, AV.junk, AV.junk, AV.junk, AV.junk, AV.junk, AV.junk, AV.junk, AV.junk, AV.junk, AV.junk, AV.junk,
            AV.junk, AV.junk, AV.junk, AV.junk, AV.junk, AV.junk, AV.junk, AV.junk, AV.junk, AV.junk, AV.junk, AV.junk, AV.junk, AV.junk, AV.junk, AV.junk, AV.junk, AV.junk, AV.junk, AV.junk, AV.junk, AV.junk, AV.junk, AV.junk, AV.junk,
            AV.junk, AV.junk, AV.junk, AV.junk, AV.junk, AV.junk, AV.junk, AV.junk, AV.junk, AV.junk, AV.junk, AV.junk, AV.junk, AV.junk, AV.junk, AV.junk, AV.junk]
          [some (Blk.mk (3) false false true (Data.ints IntKind.i64 ticks))])) : Tree (Ex × St)).Sat (Post hdModelBetween_0 resModelBetween_0 muModelBetween_0 ⟨u, I, rr, tau, zticks, ticks, i⟩ ex r) := by
  simp only [okModelBetween_0, outModelBetween_0, Tree.runs] at hok hr
  obtain ⟨i0, i1, r0, r1, u0, u1, t0, t1, hi, h60, hz, hl, hw⟩ := hok
  simp only [Int.toNat_natCast, Nat.mul_one, Nat.add_zero]
  refine Tree.Sat.br (fun h1 => ?_) (fun h1 => ?_)
  · (try simp only [decide_eq_true_eq, decide_eq_false_iff_not, Bool.not_eq_true', Bool.not_eq_false', beq_iff_eq, beq_eq_false_iff_ne, Int.not_lt, Int.not_le, ge_iff_le, gt_iff_lt, ne_eq, Bool.false_eq_true, Bool.true_eq_false, not_true_eq_false, not_false_eq_true, Bool.and_eq_true, Bool.not_eq_eq_eq_not, Bool.not_true, Bool.not_false, bne_iff_ne, bne_eq_false_iff_eq, Int.toNat_natCast, Nat.mul_one, Nat.add_zero, Nat.zero_add, List.take_length, List.drop_zero] at h1)
    all_goals
      refine Tree.Sat.br (fun h2 => ?_) (fun h2 => ?_)
      · (try simp only [decide_eq_true_eq, decide_eq_false_iff_not, Bool.not_eq_true', Bool.not_eq_false', beq_iff_eq, beq_eq_false_iff_ne, Int.not_lt, Int.not_le, ge_iff_le, gt_iff_lt, ne_eq, Bool.false_eq_true, Bool.true_eq_false, not_true_eq_false, not_false_eq_true, Bool.and_eq_true, Bool.not_eq_eq_eq_not, Bool.not_true, Bool.not_false, bne_iff_ne, bne_eq_false_iff_eq, Int.toNat_natCast, Nat.mul_one, Nat.add_zero, Nat.zero_add, List.take_length, List.drop_zero] at h2)
        all_goals
          refine Tree.Sat.br (fun h3 => ?_) (fun h3 => ?_)
          · (try simp only [decide_eq_true_eq, decide_eq_false_iff_not, Bool.not_eq_true', Bool.not_eq_false', beq_iff_eq, beq_eq_false_iff_ne, Int.not_lt, Int.not_le, ge_iff_le, gt_iff_lt, ne_eq, Bool.false_eq_true, Bool.true_eq_false, not_true_eq_false, not_false_eq_true, Bool.and_eq_true, Bool.not_eq_eq_eq_not, Bool.not_true, Bool.not_false, bne_iff_ne, bne_eq_false_iff_eq, Int.toNat_natCast, Nat.mul_one, Nat.add_zero, Nat.zero_add, List.take_length, List.drop_zero] at h3)
            all_goals
              refine Tree.Sat.br (fun h4 => ?_) (fun h4 => ?_)
              · (try simp only [decide_eq_true_eq, decide_eq_false_iff_not, Bool.not_eq_true', Bool.not_eq_false', beq_iff_eq, beq_eq_false_iff_ne, Int.not_lt, Int.not_le, ge_iff_le, gt_iff_lt, ne_eq, Bool.false_eq_true, Bool.true_eq_false, not_true_eq_false, not_false_eq_true, Bool.and_eq_true, Bool.not_eq_eq_eq_not, Bool.not_true, Bool.not_false, bne_iff_ne, bne_eq_false_iff_eq, Int.toNat_natCast, Nat.mul_one, Nat.add_zero, Nat.zero_add, List.take_length, List.drop_zero] at h4)
                all_goals
                  refine Tree.Sat.chk (by first | (simp only [and_self]; done) | (have hg := wfL_get hw (show i < ticks.length by omega); (repeat' with_reducible refine And.intro ?_ ?_) <;> first | trivial | omega | (simp only [ckE] at *; split at * <;> omega))) ?_
                  refine Tree.Sat.br (fun h5 => ?_) (fun h5 => ?_)
                  · (try simp only [decide_eq_true_eq, decide_eq_false_iff_not, Bool.not_eq_true', Bool.not_eq_false', beq_iff_eq, beq_eq_false_iff_ne, Int.not_lt, Int.not_le, ge_iff_le, gt_iff_lt, ne_eq, Bool.false_eq_true, Bool.true_eq_false, not_true_eq_false, not_false_eq_true, Bool.and_eq_true, Bool.not_eq_eq_eq_not, Bool.not_true, Bool.not_false, bne_iff_ne, bne_eq_false_iff_eq, Int.toNat_natCast, Nat.mul_one, Nat.add_zero, Nat.zero_add, List.take_length, List.drop_zero] at h5)
                    all_goals
                      refine Tree.Sat.ret ?_
                      obtain ⟨hk, e2⟩ := rl_no h5
                      have hq := hr.1 (by rw [next60 (by omega) (by omega)]; simp only [runB]; rw [if_neg hk])
                      simp only [Prod.mk.injEq] at hq
                      obtain ⟨rfl, rfl⟩ := hq
                      refine .ret rfl ?_
                      constructor <;> simp only [AV.leL, AV.le, Mem.le, Mem.leP, Blk.le, Blk.pad, Data.le, Data.size, Cap.le, and_true, true_and, and_self, true_implies, implies_true, imp_self, List.length_nil] <;> (repeat' with_reducible refine And.intro ?_ ?_) <;> (try simp only [Int.toNat_natCast, Nat.mul_one, Nat.add_zero, Nat.zero_add]) <;> (rw [e2]; rfl)
                  · (try simp only [decide_eq_true_eq, decide_eq_false_iff_not, Bool.not_eq_true', Bool.not_eq_false', beq_iff_eq, beq_eq_false_iff_ne, Int.not_lt, Int.not_le, ge_iff_le, gt_iff_lt, ne_eq, Bool.false_eq_true, Bool.true_eq_false, not_true_eq_false, not_false_eq_true, Bool.and_eq_true, Bool.not_eq_eq_eq_not, Bool.not_true, Bool.not_false, bne_iff_ne, bne_eq_false_iff_eq, Int.toNat_natCast, Nat.mul_one, Nat.add_zero, Nat.zero_add, List.take_length, List.drop_zero] at h5)
                    all_goals
                      refine Tree.Sat.br (fun h6 => ?_) (fun h6 => ?_)
                      · (try simp only [decide_eq_true_eq, decide_eq_false_iff_not, Bool.not_eq_true', Bool.not_eq_false', beq_iff_eq, beq_eq_false_iff_ne, Int.not_lt, Int.not_le, ge_iff_le, gt_iff_lt, ne_eq, Bool.false_eq_true, Bool.true_eq_false, not_true_eq_false, not_false_eq_true, Bool.and_eq_true, Bool.not_eq_eq_eq_not, Bool.not_true, Bool.not_false, bne_iff_ne, bne_eq_false_iff_eq, Int.toNat_natCast, Nat.mul_one, Nat.add_zero, Nat.zero_add, List.take_length, List.drop_zero] at h6)
                        all_goals
                          refine Tree.Sat.ret ?_
                          exfalso
                          obtain ⟨hk, e2⟩ := rl_ok (u := u) (I := I) (r := rr) (tau := tau) (t := (ticks.getD i 0)) (by omega)
                          obtain ⟨⟨k0, k1, _, _⟩, _, ⟨k2, _⟩, k3, _⟩ := hk
                          have rb := rel_between (u := u) (I := I) (r := rr) (tau := tau) (t := (ticks.getD i 0)) k3 k2
                          omega
                      · (try simp only [decide_eq_true_eq, decide_eq_false_iff_not, Bool.not_eq_true', Bool.not_eq_false', beq_iff_eq, beq_eq_false_iff_ne, Int.not_lt, Int.not_le, ge_iff_le, gt_iff_lt, ne_eq, Bool.false_eq_true, Bool.true_eq_false, not_true_eq_false, not_false_eq_true, Bool.and_eq_true, Bool.not_eq_eq_eq_not, Bool.not_true, Bool.not_false, bne_iff_ne, bne_eq_false_iff_eq, Int.toNat_natCast, Nat.mul_one, Nat.add_zero, Nat.zero_add, List.take_length, List.drop_zero] at h6)
                        all_goals
                          refine Tree.Sat.br (fun h7 => ?_) (fun h7 => ?_)
                          · (try simp only [decide_eq_true_eq, decide_eq_false_iff_not, Bool.not_eq_true', Bool.not_eq_false', beq_iff_eq, beq_eq_false_iff_ne, Int.not_lt, Int.not_le, ge_iff_le, gt_iff_lt, ne_eq, Bool.false_eq_true, Bool.true_eq_false, not_true_eq_false, not_false_eq_true, Bool.and_eq_true, Bool.not_eq_eq_eq_not, Bool.not_true, Bool.not_false, bne_iff_ne, bne_eq_false_iff_eq, Int.toNat_natCast, Nat.mul_one, Nat.add_zero, Nat.zero_add, List.take_length, List.drop_zero] at h7)
                            all_goals
                              refine Tree.Sat.ret ?_
                              exfalso
                              obtain ⟨hk, e2⟩ := rl_ok (u := u) (I := I) (r := rr) (tau := tau) (t := (ticks.getD i 0)) (by omega)
                              obtain ⟨⟨k0, k1, _, _⟩, _, ⟨k2, _⟩, k3, _⟩ := hk
                              have rb := rel_between (u := u) (I := I) (r := rr) (tau := tau) (t := (ticks.getD i 0)) k3 k2
                              omega
                          · (try simp only [decide_eq_true_eq, decide_eq_false_iff_not, Bool.not_eq_true', Bool.not_eq_false', beq_iff_eq, beq_eq_false_iff_ne, Int.not_lt, Int.not_le, ge_iff_le, gt_iff_lt, ne_eq, Bool.false_eq_true, Bool.true_eq_false, not_true_eq_false, not_false_eq_true, Bool.and_eq_true, Bool.not_eq_eq_eq_not, Bool.not_true, Bool.not_false, bne_iff_ne, bne_eq_false_iff_eq, Int.toNat_natCast, Nat.mul_one, Nat.add_zero, Nat.zero_add, List.take_length, List.drop_zero] at h7)
                            all_goals
                              refine Tree.Sat.ret ?_
                              obtain ⟨hk, e2⟩ := rl_ok h5
                              have dk := drive_ok I rr
                              have hk' := hk
                              obtain ⟨⟨k0, k1, _, _⟩, _, ⟨k2, _⟩, k3, _⟩ := hk'
                              have rb := rel_between (u := u) (I := I) (r := rr) (tau := tau) (t := (ticks.getD i 0)) k3 k2
                              refine .norm ⟨relZ u I rr tau (ticks.getD i 0), I, rr, tau, zticks, ticks, i + 1⟩ ?_ ?_ ⟨?_, ?_⟩
                              · constructor <;> simp only [hdModelBetween_0, AV.leL, AV.le, Mem.le, Mem.leP, Blk.le, Blk.pad, Data.le, Data.size, Cap.le, and_true, true_and, and_self, true_implies, implies_true, imp_self, List.length_nil] <;> (repeat' with_reducible refine And.intro ?_ ?_) <;> (try simp only [Int.toNat_natCast, Nat.mul_one, Nat.add_zero, Nat.zero_add]) <;> first | exact wadd1 (by omega) | exact e2
                              · simp only [muModelBetween_0]; omega
                              · exact ⟨i0, i1, r0, r1, by omega, by omega, t0, t1, by omega, by omega, hz, hl, hw⟩
                              · rw [next60 (by omega) (by omega)] at hr; simp only [runB, if_pos hk] at hr; exact hr
              · (try simp only [decide_eq_true_eq, decide_eq_false_iff_not, Bool.not_eq_true', Bool.not_eq_false', beq_iff_eq, beq_eq_false_iff_ne, Int.not_lt, Int.not_le, ge_iff_le, gt_iff_lt, ne_eq, Bool.false_eq_true, Bool.true_eq_false, not_true_eq_false, not_false_eq_true, Bool.and_eq_true, Bool.not_eq_eq_eq_not, Bool.not_true, Bool.not_false, bne_iff_ne, bne_eq_false_iff_eq, Int.toNat_natCast, Nat.mul_one, Nat.add_zero, Nat.zero_add, List.take_length, List.drop_zero] at h4)
                all_goals
                  exfalso
                  first | omega | (cases zticks <;> simp_all; done) | (cases zticks <;> simp_all <;> omega)
          · (try simp only [decide_eq_true_eq, decide_eq_false_iff_not, Bool.not_eq_true', Bool.not_eq_false', beq_iff_eq, beq_eq_false_iff_ne, Int.not_lt, Int.not_le, ge_iff_le, gt_iff_lt, ne_eq, Bool.false_eq_true, Bool.true_eq_false, not_true_eq_false, not_false_eq_true, Bool.and_eq_true, Bool.not_eq_eq_eq_not, Bool.not_true, Bool.not_false, bne_iff_ne, bne_eq_false_iff_eq, Int.toNat_natCast, Nat.mul_one, Nat.add_zero, Nat.zero_add, List.take_length, List.drop_zero] at h3)
            all_goals
              exfalso
              first | omega | (cases zticks <;> simp_all; done) | (cases zticks <;> simp_all <;> omega)
      · (try simp only [decide_eq_true_eq, decide_eq_false_iff_not, Bool.not_eq_true', Bool.not_eq_false', beq_iff_eq, beq_eq_false_iff_ne, Int.not_lt, Int.not_le, ge_iff_le, gt_iff_lt, ne_eq, Bool.false_eq_true, Bool.true_eq_false, not_true_eq_false, not_false_eq_true, Bool.and_eq_true, Bool.not_eq_eq_eq_not, Bool.not_true, Bool.not_false, bne_iff_ne, bne_eq_false_iff_eq, Int.toNat_natCast, Nat.mul_one, Nat.add_zero, Nat.zero_add, List.take_length, List.drop_zero] at h2)
        all_goals
          refine Tree.Sat.ret ?_
          have hq := hr.2 (by rw [end60 (by omega)]; rfl)
          simp only [Prod.mk.injEq] at hq
          obtain ⟨rfl, rfl⟩ := hq
          refine .exit rfl ?_
          constructor <;> simp only [AV.leL, AV.le, Mem.le, Mem.leP, Blk.le, Blk.pad, Data.le, Data.size, Cap.le, and_true, true_and, and_self, true_implies, implies_true, imp_self, List.length_nil] <;> (repeat' with_reducible refine And.intro ?_ ?_) <;> (try simp only [Int.toNat_natCast, Nat.mul_one, Nat.add_zero, Nat.zero_add]) <;> done
  · (try simp only [decide_eq_true_eq, decide_eq_false_iff_not, Bool.not_eq_true', Bool.not_eq_false', beq_iff_eq, beq_eq_false_iff_ne, Int.not_lt, Int.not_le, ge_iff_le, gt_iff_lt, ne_eq, Bool.false_eq_true, Bool.true_eq_false, not_true_eq_false, not_false_eq_true, Bool.and_eq_true, Bool.not_eq_eq_eq_not, Bool.not_true, Bool.not_false, bne_iff_ne, bne_eq_false_iff_eq, Int.toNat_natCast, Nat.mul_one, Nat.add_zero, Nat.zero_add, List.take_length, List.drop_zero] at h1)
    all_goals
      refine Tree.Sat.ret ?_
      have hq := hr.2 (by rw [end60 (by omega)]; rfl)
      simp only [Prod.mk.injEq] at hq
      obtain ⟨rfl, rfl⟩ := hq
      refine .exit rfl ?_
      constructor <;> simp only [AV.leL, AV.le, Mem.le, Mem.leP, Blk.le, Blk.pad, Data.le, Data.size, Cap.le, and_true, true_and, and_self, true_implies, implies_true, imp_self, List.length_nil] <;> (repeat' with_reducible refine And.intro ?_ ?_) <;> (try simp only [Int.toNat_natCast, Nat.mul_one, Nat.add_zero, Nat.zero_add]) <;> done
set_option maxHeartbeats 2000000 in
set_option maxRecDepth 100000 in
theorem loopModelBetween_0 (hall : AllOk Try.prog 0 (fun _ => none) tab18) : LoopOk (mkL Try.prog 0 (fun _ => none) tab18 rowsModelBetween) 4 1 (bodyAt Try.prog 4 0) := by
  have hkey : Code.key (bodyAt Try.prog 4 0) = 7 := by kernel_rfl
  have hin : loopsIn (bodyAt Try.prog 4 0) = [] := by kernel_rfl
  have hrow : lookL rowsModelBetween 4 (Code.key (bodyAt Try.prog 4 0)) = some rowModelBetween_0 := by rw [hkey]; rfl
  refine loop_rowP (X := XModelBetween_0) (row := rowModelBetween_0) hall mix hrow (fun b hb _ => by rw [hin] at hb; cases hb) UModelBetween_0 hdModelBetween_0 resModelBetween_0 muModelBetween_0 (fun st ex r h => ?_) (fun x ex r hr => ?_)
  · have h' : (ansModelBetween_0 st).runs (ex, r) := h
    unfold ansModelBetween_0 at h'
    split at h'
    · obtain ⟨q1, q2⟩ := Tree.chk_runs h'
      exact ⟨_, q1, q2⟩
    · exact h'.elim
  · obtain ⟨u, I, rr, tau, zticks, ticks, i⟩ := x
    have := stepModelBetween_0 u I rr tau zticks ticks i ex r hr.1 hr.2
    rw [← tLModelBetween_0] at this
    (try rw [show rowModelBetween_0.tidy = TModelBetween_0 from rfl])
    exact this
theorem loopsModelBetween (hall : AllOk Try.prog 0 (fun _ => none) tab18) : ∀ i, i < (loopsAt Try.prog 4).length → LoopOk (mkL Try.prog 0 (fun _ => none) tab18 rowsModelBetween) 4 1 (bodyAt Try.prog 4 i) := by
  intro i hi
  have hlen : (loopsAt Try.prog 4).length = 1 := by kernel_rfl
  rw [hlen] at hi
  obtain rfl : i = 0 := by omega
  · exact loopModelBetween_0 hall
set_option maxRecDepth 100000 in
theorem tModelBetween (u : Int) (I : Int) (rr : Int) (tau : Int) (zticks : Bool) (ticks : List Int) : evBody (mkL Try.prog 0 (fun _ => none) tab18 rowsModelBetween) (evCall (mkC Try.prog 0 (fun _ => none) tab18) 50) 4 [.int .i64 false u, .int .i64 false I, .int .i64 false rr, .int .i64 false tau, .sl zticks ⟨0, 0, 0, 0⟩ false ticks.length .any] [some ⟨3, false, false, true, .ints .i64 ticks⟩] =
  Tree.chk (True ∧ True)
    (Tree.br false (Tree.ret (AV.bool true false, [some (Blk.mk (3) false false true (Data.ints IntKind.i64 ticks))]))
      (Tree.chk ((True ∧ True ∧ True) ∧ (-9223372036854775808 : Int) ≤ I ∧ I ≤ (9223372036854775807 : Int) ∧ (-9223372036854775808 : Int) ≤ rr ∧ rr ≤ (9223372036854775807 : Int))
        (Tree.br (drE I rr != (0 : Int)) (Tree.ret (AV.bool false (drV I rr == (0 : Int)), [some (Blk.mk (3) false false true (Data.ints IntKind.i64 ticks))]))
          (Tree.chk
            (St.le
              (St.mk
                [AV.int IntKind.i64 false u, AV.int IntKind.i64 false I, AV.int IntKind.i64 false rr, AV.int IntKind.i64 false tau,
                  AV.sl zticks (Ref.mk (0) (0) (0) (0)) false (List.length ticks) Cap.any, AV.junk, AV.junk, AV.junk, AV.junk, AV.junk, AV.junk, AV.int IntKind.i64 false (drV I rr), AV.junk,
                  AV.int IntKind.i64 true (0 : Int), AV.junk, AV.junk, AV.junk, AV.junk, AV.junk, AV.junk, AV.junk, AV.junk, AV.junk, AV.junk, AV.junk, AV.junk, AV.junk, AV.junk, AV.junk, AV.junk, AV.junk, AV.junk, AV.junk, AV.junk, AV.junk,
                  AV.junk, AV.junk, AV.junk, AV.junk, AV.junk, AV.junk, AV.junk, AV.junk, AV.junk, AV.junk, AV.junk, AV.junk, AV.junk, AV.junk, AV.junk, AV.junk, AV.junk, AV.junk, AV.junk, AV.junk, AV.junk, AV.junk, AV.junk, AV.junk, AV.junk,
                  AV.junk, AV.junk, AV.junk, AV.junk, AV.junk, AV.junk, AV.junk]
                [some (Blk.mk (3) false false true (Data.ints IntKind.i64 ticks))])
              (St.mk
                [AV.int IntKind.i64 false u, AV.int IntKind.i64 false I, AV.int IntKind.i64 false rr, AV.int IntKind.i64 false tau,
                  AV.sl zticks (Ref.mk (0) (0) (0) (0)) false (List.length ticks) Cap.any, AV.junk, AV.junk, AV.junk, AV.junk, AV.junk, AV.junk, AV.int IntKind.i64 false (driveZ I rr), AV.junk,
                  AV.int IntKind.i64 false (0 : Int), AV.junk, AV.junk, AV.junk, AV.junk, AV.junk, AV.junk, AV.junk, AV.junk, AV.junk, AV.junk, AV.junk, AV.junk, AV.junk, AV.junk, AV.junk, AV.junk, AV.junk, AV.junk, AV.junk, AV.junk, AV.junk,
                  AV.junk, AV.junk, AV.junk, AV.junk, AV.junk, AV.junk, AV.junk, AV.junk, AV.junk, AV.junk, AV.junk, AV.junk, AV.junk, AV.junk, AV.junk, AV.junk, AV.junk, AV.junk, AV.junk, AV.junk, AV.junk, AV.junk, AV.junk, AV.junk, AV.junk,
                  AV.junk, AV.junk, AV.junk, AV.junk, AV.junk, AV.junk, AV.junk]
                [some (Blk.mk (3) false false true (Data.ints IntKind.i64 ticks))]))
            (Tree.chk (okModelBetween_0 (XModelBetween_0.mk u I rr tau zticks ticks (Int.toNat (0 : Int))))
              (Tree.br (runB I rr tau u (List.take (60 - Int.toNat (0 : Int)) (List.drop (Int.toNat (0 : Int)) ticks)))
                (Tree.ret (AV.bool false true, [some (Blk.mk (3) false false true (Data.ints IntKind.i64 ticks))])) (Tree.ret (AV.bool true true, [some (Blk.mk (3) false false true (Data.ints IntKind.i64 ticks))])))))))) := by kernel_rfl
set_option maxRecDepth 100000 in
theorem gModelBetween (u : Int) (I : Int) (rr : Int) (tau : Int) (zticks : Bool) (ticks : List Int) (hw : -9223372036854775808 ≤ u ∧ u ≤ 9223372036854775807 ∧ -9223372036854775808 ≤ I ∧ I ≤ 9223372036854775807 ∧ -9223372036854775808 ≤ rr ∧ rr ≤ 9223372036854775807 ∧ -9223372036854775808 ≤ tau ∧ tau ≤ 9223372036854775807 ∧ (zticks = true → ticks = []) ∧ ticks.length ≤ 9223372036854775807 ∧ wf64L ticks) : (Tree.chk (True ∧ True)
    (Tree.br false (Tree.ret (AV.bool true false, [some (Blk.mk (3) false false true (Data.ints IntKind.i64 ticks))]))
      (Tree.chk ((True ∧ True ∧ True) ∧ (-9223372036854775808 : Int) ≤ I ∧ I ≤ (9223372036854775807 : Int) ∧ (-9223372036854775808 : Int) ≤ rr ∧ rr ≤ (9223372036854775807 : Int))
        (Tree.br (drE I rr != (0 : Int)) (Tree.ret (AV.bool false (drV I rr == (0 : Int)), [some (Blk.mk (3) false false true (Data.ints IntKind.i64 ticks))]))
          (Tree.chk
            (St.le
              (St.mk
                [AV.int IntKind.i64 false u, AV.int IntKind.i64 false I, AV.int IntKind.i64 false rr, AV.int IntKind.i64 false tau,
                  AV.sl zticks (Ref.mk (0) (0) (0) (0)) false (List.length ticks) Cap.any, AV.junk, AV.junk, AV.junk, AV.junk, AV.junk, AV.junk, AV.int IntKind.i64 false (drV I rr), AV.junk,
                  AV.int IntKind.i64 true (0 : Int), AV.junk, AV.junk, AV.junk, AV.junk, AV.junk, AV.junk, AV.junk, AV.junk, AV.junk, AV.junk, AV.junk, AV.junk, AV.junk, AV.junk, AV.junk, AV.junk, AV.junk, AV.junk, AV.junk, AV.junk, AV.junk,
                  AV.junk, AV.junk, AV.junk, AV.junk, AV.junk, AV.junk, AV.junk, AV.junk, AV.junk, AV.junk, AV.junk, AV.junk, AV.junk, AV.junk, AV.junk, AV.junk, AV.junk, AV.junk, AV.junk, AV.junk, AV.junk, AV.junk, AV.junk, AV.junk, AV.junk,
                  AV.junk, AV.junk, AV.junk, AV.junk, AV.junk, AV.junk, AV.junk]
                [some (Blk.mk (3) false false true (Data.ints IntKind.i64 ticks))])
              (St.mk
                [AV.int IntKind.i64 false u, AV.int IntKind.i64 false I, AV.int IntKind.i64 false rr, AV.int IntKind.i64 false tau,
                  AV.sl zticks (Ref.mk (0) (0) (0) (0)) false (List.length ticks) Cap.any, AV.junk, AV.junk, AV.junk, AV.junk, AV.junk, AV.junk, AV.int IntKind.i64 false (driveZ I rr), AV.junk,
                  AV.int IntKind.i64 false (0 : Int), AV.junk, AV.junk, AV.junk, AV.junk, AV.junk, AV.junk, AV.junk, AV.junk, AV.junk, AV.junk, AV.junk, AV.junk, AV.junk, AV.junk, AV.junk, AV.junk, AV.junk, AV.junk, AV.junk, AV.junk, AV.junk,
                  AV.junk, AV.junk, AV.junk, AV.junk, AV.junk, AV.junk, AV.junk, AV.junk, AV.junk, AV.junk, AV.junk, AV.junk, AV.junk, AV.junk, AV.junk, AV.junk, AV.junk, AV.junk, AV.junk, AV.junk, AV.junk, AV.junk, AV.junk, AV.junk, AV.junk,
                  AV.junk, AV.junk, AV.junk, AV.junk, AV.junk, AV.junk, AV.junk]
                [some (Blk.mk (3) false false true (Data.ints IntKind.i64 ticks))]))
            (Tree.chk (okModelBetween_0 (XModelBetween_0.mk u I rr tau zticks ticks (Int.toNat (0 : Int))))
              (Tree.br (runB I rr tau u (List.take (60 - Int.toNat (0 : Int)) (List.drop (Int.toNat (0 : Int)) ticks)))
                (Tree.ret (AV.bool false true, [some (Blk.mk (3) false false true (Data.ints IntKind.i64 ticks))])) (Tree.ret (AV.bool true true, [some (Blk.mk (3) false false true (Data.ints IntKind.i64 ticks))])))))))) : Tree (AV × Mem)).GivesP (.bool false true) ([some ⟨3, false, false, true, .ints .i64 ticks⟩]) := by
  obtain ⟨u0, u1, i0, i1, r0, r1, t0, t1, hz, hl, hw⟩ := hw
  have dr := dr_cases I rr
  refine Tree.GivesP.chk (by first | (simp only [and_self]; done) | ((repeat' with_reducible refine And.intro ?_ ?_) <;> first | trivial | omega | (simp only [ckE] at *; split at * <;> omega))) ?_
  refine Tree.GivesP.br (fun h1 => ?_) (fun h1 => ?_)
  · (try simp only [decide_eq_true_eq, decide_eq_false_iff_not, Bool.not_eq_true', Bool.not_eq_false', beq_iff_eq, beq_eq_false_iff_ne, Int.not_lt, Int.not_le, ge_iff_le, gt_iff_lt, ne_eq, Bool.false_eq_true, Bool.true_eq_false, not_true_eq_false, not_false_eq_true, Bool.and_eq_true, Bool.not_eq_eq_eq_not, Bool.not_true, Bool.not_false, bne_iff_ne, bne_eq_false_iff_eq, Int.toNat_natCast, Nat.mul_one, Nat.add_zero, Nat.zero_add, List.take_length, List.drop_zero] at h1)
    all_goals
      refine Tree.GivesP.ret ?_ ?_
      · first | (simp only [AV.le]; done) | (simp only [AV.le, beq_iff_eq]; omega) | (exfalso; omega)
      · simp only [AV.leL, AV.le, Mem.le, Mem.leP, Blk.le, Blk.pad, Data.le, Data.size, Cap.le, and_true, true_and, and_self, true_implies, implies_true, imp_self, List.length_nil]
  · (try simp only [decide_eq_true_eq, decide_eq_false_iff_not, Bool.not_eq_true', Bool.not_eq_false', beq_iff_eq, beq_eq_false_iff_ne, Int.not_lt, Int.not_le, ge_iff_le, gt_iff_lt, ne_eq, Bool.false_eq_true, Bool.true_eq_false, not_true_eq_false, not_false_eq_true, Bool.and_eq_true, Bool.not_eq_eq_eq_not, Bool.not_true, Bool.not_false, bne_iff_ne, bne_eq_false_iff_eq, Int.toNat_natCast, Nat.mul_one, Nat.add_zero, Nat.zero_add, List.take_length, List.drop_zero] at h1)
    all_goals
      refine Tree.GivesP.chk (by first | (simp only [and_self]; done) | (exact ⟨⟨trivial, trivial, trivial⟩, by omega⟩)) ?_
      refine Tree.GivesP.br (fun h2 => ?_) (fun h2 => ?_)
      · (try simp only [decide_eq_true_eq, decide_eq_false_iff_not, Bool.not_eq_true', Bool.not_eq_false', beq_iff_eq, beq_eq_false_iff_ne, Int.not_lt, Int.not_le, ge_iff_le, gt_iff_lt, ne_eq, Bool.false_eq_true, Bool.true_eq_false, not_true_eq_false, not_false_eq_true, Bool.and_eq_true, Bool.not_eq_eq_eq_not, Bool.not_true, Bool.not_false, bne_iff_ne, bne_eq_false_iff_eq, Int.toNat_natCast, Nat.mul_one, Nat.add_zero, Nat.zero_add, List.take_length, List.drop_zero] at h2)
        all_goals
          refine Tree.GivesP.ret ?_ ?_
          · first | (simp only [AV.le]; done) | (simp only [AV.le, beq_iff_eq]; omega) | (exfalso; omega)
          · simp only [AV.leL, AV.le, Mem.le, Mem.leP, Blk.le, Blk.pad, Data.le, Data.size, Cap.le, and_true, true_and, and_self, true_implies, implies_true, imp_self, List.length_nil]
      · (try simp only [decide_eq_true_eq, decide_eq_false_iff_not, Bool.not_eq_true', Bool.not_eq_false', beq_iff_eq, beq_eq_false_iff_ne, Int.not_lt, Int.not_le, ge_iff_le, gt_iff_lt, ne_eq, Bool.false_eq_true, Bool.true_eq_false, not_true_eq_false, not_false_eq_true, Bool.and_eq_true, Bool.not_eq_eq_eq_not, Bool.not_true, Bool.not_false, bne_iff_ne, bne_eq_false_iff_eq, Int.toNat_natCast, Nat.mul_one, Nat.add_zero, Nat.zero_add, List.take_length, List.drop_zero] at h2)
        all_goals
          refine Tree.GivesP.chk (by first | (simp only [and_self]; done) | (constructor <;> simp only [hdModelBetween_0, Int.toNat_zero, Int.cast_ofNat_Int, AV.leL, AV.le, Mem.le, Mem.leP, Blk.le, Blk.pad, Data.le, Data.size, Cap.le, and_true, true_and, and_self, true_implies, implies_true, imp_self, List.length_nil] <;> (repeat' with_reducible refine And.intro ?_ ?_) <;> first | rfl | trivial | omega)) ?_
          refine Tree.GivesP.chk (by first | (simp only [and_self]; done) | (exact ⟨by omega, by omega, by omega, by omega, u0, u1, t0, t1, Nat.zero_le _, Nat.zero_le _, hz, hl, hw⟩)) ?_
          refine Tree.GivesP.br (fun h3 => ?_) (fun h3 => ?_)
          · (try simp only [decide_eq_true_eq, decide_eq_false_iff_not, Bool.not_eq_true', Bool.not_eq_false', beq_iff_eq, beq_eq_false_iff_ne, Int.not_lt, Int.not_le, ge_iff_le, gt_iff_lt, ne_eq, Bool.false_eq_true, Bool.true_eq_false, not_true_eq_false, not_false_eq_true, Bool.and_eq_true, Bool.not_eq_eq_eq_not, Bool.not_true, Bool.not_false, bne_iff_ne, bne_eq_false_iff_eq, Int.toNat_natCast, Nat.mul_one, Nat.add_zero, Nat.zero_add, List.take_length, List.drop_zero] at h3)
            all_goals
              refine Tree.GivesP.ret ?_ ?_
              · first | (simp only [AV.le]; done) | (simp only [AV.le, beq_iff_eq]; omega) | (exfalso; omega)
              · simp only [AV.leL, AV.le, Mem.le, Mem.leP, Blk.le, Blk.pad, Data.le, Data.size, Cap.le, and_true, true_and, and_self, true_implies, implies_true, imp_self, List.length_nil]
          · (try simp only [decide_eq_true_eq, decide_eq_false_iff_not, Bool.not_eq_true', Bool.not_eq_false', beq_iff_eq, beq_eq_false_iff_ne, Int.not_lt, Int.not_le, ge_iff_le, gt_iff_lt, ne_eq, Bool.false_eq_true, Bool.true_eq_false, not_true_eq_false, not_false_eq_true, Bool.and_eq_true, Bool.not_eq_eq_eq_not, Bool.not_true, Bool.not_false, bne_iff_ne, bne_eq_false_iff_eq, Int.toNat_natCast, Nat.mul_one, Nat.add_zero, Nat.zero_add, List.take_length, List.drop_zero] at h3)
            all_goals
              refine Tree.GivesP.ret ?_ ?_
              · first | (simp only [AV.le]; done) | (simp only [AV.le, beq_iff_eq]; omega) | (exfalso; omega)
              · simp only [AV.leL, AV.le, Mem.le, Mem.leP, Blk.le, Blk.pad, Data.le, Data.size, Cap.le, and_true, true_and, and_self, true_implies, implies_true, imp_self, List.length_nil]
theorem sModelBetween (hall : AllOk Try.prog 0 (fun _ => none) tab18) (u : Int) (I : Int) (rr : Int) (tau : Int) (zticks : Bool) (ticks : List Int) (hw : -9223372036854775808 ≤ u ∧ u ≤ 9223372036854775807 ∧ -9223372036854775808 ≤ I ∧ I ≤ 9223372036854775807 ∧ -9223372036854775808 ≤ rr ∧ rr ≤ 9223372036854775807 ∧ -9223372036854775808 ≤ tau ∧ tau ≤ 9223372036854775807 ∧ (zticks = true → ticks = []) ∧ ticks.length ≤ 9223372036854775807 ∧ wf64L ticks) : SoundAt (mkC Try.prog 0 (fun _ => none) []) 4 [.int .i64 false u, .int .i64 false I, .int .i64 false rr, .int .i64 false tau, .sl zticks ⟨0, 0, 0, 0⟩ false ticks.length .any] [some ⟨3, false, false, true, .ints .i64 ticks⟩] (.bool false true, [some ⟨3, false, false, true, .ints .i64 ticks⟩]) := sound_loopsP hall mix (loopsModelBetween hall) (tModelBetween u I rr tau zticks ticks) (gModelBetween u I rr tau zticks ticks hw)
end Go.Proofs.Ytoihhmpmlbdeiaa.Rig

/- The row of the law ModelBetween: whatever the input it gives true, and what came in stays. -/
namespace Go.Proofs.Ytoihhmpmlbdeiaa.modelBetween
open Go.ChangeShapes Go.WideShapes Go.ChangeAt Go.RowKit Go.Proofs.Ytoihhmpmlbdeiaa.Rig
open Go.ChangeMaps (open_string shut_string)
set_option linter.unusedVariables false

theorem own : ownKnob Try.prog.godebug = none := by kernel_rfl
theorem laidOut : laidOutB Try.prog = true := by kernel_rfl
theorem walk (a0 : Int) (a1 : Int) (a2 : Int) (a3 : Int) (A4 : Option Addr) (len4 cap4 : Nat) (zs4 : List Int) (w : World) (w0 : (Lit.int .i64 a0).wf = true) (w1 : (Lit.int .i64 a1).wf = true) (w2 : (Lit.int .i64 a2).wf = true) (w3 : (Lit.int .i64 a3).wf = true) (wz4 : (A4 = none ∧ len4 = 0 ∧ cap4 = 0 ∧ zs4 = []) ∨ ∃ x, A4 = some x ∧ len4 ≤ cap4 ∧ cap4 ≤ maxLen ∧ zs4.length = cap4 ∧ (∀ i, i < zs4.length → w.cell? (x.add i) = some (.int .i64 (zs4.getD i 0))) ∧ ∀ n ∈ zs4, (Lit.int .i64 n).wf = true) :
    Calls Try.prog 4 #[.int .i64 a0, .int .i64 a1, .int .i64 a2, .int .i64 a3, .slice A4 len4 cap4] w fun e w' => e = .returned (.bool true) ∧ Below w.heap.size w w' := by
  obtain ⟨z4, l4, b4, hl4, hz4, hm4, hw4, hr4, hb4⟩ := arg_ints 3 wz4
  subst hl4
  have h := sModelBetween all18 a0 a1 a2 a3 z4 l4 ⟨(wf64 w0).1, (wf64 w0).2, (wf64 w1).1, (wf64 w1).2, (wf64 w2).1, (wf64 w2).2, (wf64 w3).1, (wf64 w3).2, hz4, by simpa [maxLen] using hm4, fun n hn => wf64 (hw4 n hn)⟩
  refine h.top (σ := fun i => [b4][i]?) (vals := [.int .i64 a0, .int .i64 a1, .int .i64 a2, .int .i64 a3, .slice A4 l4.length cap4]) (fun i b hb => ?_) ?_ (rel_args _ _ rfl fun i b hb => ?_) (fun g i h => by cases h) (Nat.zero_le _)
  · rcases i with _ | i <;> simp [Mem.at] at hb <;> subst hb <;> rfl
  · exact RepL.cons (by simp [RepL, Rep]) (RepL.cons (by simp [RepL, Rep]) (RepL.cons (by simp [RepL, Rep]) (RepL.cons (by simp [RepL, Rep]) (RepL.cons (hr4 _ 0 rfl) (RepL.nil)))))
  · rcases i with _ | i <;> simp [Mem.at] at hb
    · subst hb; exact ⟨_, rfl, rfl, hb4⟩
set_option maxRecDepth 100000 in
theorem lifted (os : Os) (started : os.Started) (H : Type) (enc : TypeId × Value → H) :
    ReturnsInHanded {} Try.checked os 4 .any (Rows.modelBetweenSpec.pre6 enc Try.prog Try.f4 Rows.modelBetweenRow.domain false) (Rows.modelBetweenSpec.post enc Try.prog Try.f4 false true false false) := by
  refine returnsInHanded_of_change_sized (C := Try.checked) own started (by kernel_rfl) Try.func4
    (ChangeSpec.witness6 (enc := enc) (C := Try.checked) false ⟨#[], #[.int .i64 0, .int .i64 0, .int .i64 0, .int .i64 0, .slice none 0 0], []⟩ 8 (by kernel_rfl) (by kernel_rfl) (by kernel_rfl) (by kernel_rfl)) ?_
  intro W base args ds gs before hval0 hW hcnd hsz0 _
  have hval : ∀ (j : Nat) t v, Try.f4.params[j]? = some t → args[j]? = some v → Value.okWide Try.prog W .any base t v := hval0
  have hW' := hW
  obtain ⟨p, q, hA0, hV, rfl, hfz, hnd⟩ := hW
  have hA : DataW.TrodAll enc Try.prog W 0 (fun _ => true) true Try.f4.params.toList args.toList ds p := hA0
  rw [Try.params4] at hA hval
  obtain ⟨v0, vs0, d0, ds0, p0, z0, hargs, rfl, rfl, h0, r0⟩ := trodAll_cons hA
  obtain ⟨v1, vs1, d1, ds1, p1, z1, rfl, rfl, rfl, h1, r1⟩ := trodAll_cons r0
  obtain ⟨v2, vs2, d2, ds2, p2, z2, rfl, rfl, rfl, h2, r2⟩ := trodAll_cons r1
  obtain ⟨v3, vs3, d3, ds3, p3, z3, rfl, rfl, rfl, h3, r3⟩ := trodAll_cons r2
  obtain ⟨v4, vs4, d4, ds4, p4, z4, rfl, rfl, rfl, h4, r4⟩ := trodAll_cons r3
  obtain ⟨rfl, rfl, rfl⟩ := trodAll_nil r4
  obtain rfl : args = #[v0, v1, v2, v3, v4] := by cases args; simp_all
  obtain ⟨rfl, rfl⟩ := trodVars_none hV
  obtain ⟨a0, rfl, rfl, rfl, w0⟩ := open_int Try.underlying3 (hval 0 3 v0 rfl rfl) h0
  obtain ⟨a1, rfl, rfl, rfl, w1⟩ := open_int Try.underlying3 (hval 1 3 v1 rfl rfl) h1
  obtain ⟨a2, rfl, rfl, rfl, w2⟩ := open_int Try.underlying3 (hval 2 3 v2 rfl rfl) h2
  obtain ⟨a3, rfl, rfl, rfl, w3⟩ := open_int Try.underlying3 (hval 3 3 v3 rfl rfl) h3
  obtain ⟨A4, len4, cap4, rfl⟩ := okWide_slice Try.underlying29 (hval 4 29 v4 rfl rfl)
  have k4 := h4
  have lt4 : ∀ x ∈ p4, x.block < W.heap.size := by obtain ⟨m, hm⟩ := k4; exact DataW.trod_lt m _ _ _ hm
  obtain ⟨zs4, wz4⟩ := Open.ints_open Try.underlying29 Try.underlying3 (by kernel_rfl) h4
  simp only [if_true] at wz4
  clear hA0 hval0 hsz0
  refine (walk a0 a1 a2 a3 A4 len4 cap4 zs4 W w0 w1 w2 w3 wz4).mono fun e W' ⟨he, bel⟩ => ?_
  subst he
  exact ⟨_, rfl, _, _, _, [], _, [], hW', trodAll_mk1 (shut_bool Try.underlying4 _), (trodAll_cons_mk (shut_int Try.underlying3 w0) (trodAll_cons_mk (shut_int Try.underlying3 w1) (trodAll_cons_mk (shut_int Try.underlying3 w2) (trodAll_cons_mk (shut_int Try.underlying3 w3) (trodAll_cons_mk (Below.trod laidOut (by kernel_rfl) (of_decide_eq_true (by kernel_rfl)) k4 bel lt4) trodAll_mk0))))), rfl, bel.frame _, fun h => by cases h⟩
theorem over : Rows.modelBetweenRow.holds Try.pinned (OpenSpec.ofChange Rows.modelBetweenSpec) :=
  OpenClaim.holds_of_wide 4 Try.f4 rfl rfl rfl rfl rfl rfl rfl ⟨rfl, rfl, rfl, rfl, rfl⟩ rfl rfl rfl rfl rfl (by kernel_rfl) Try.func4 (by kernel_rfl)
    (of_decide_eq_true (by kernel_rfl)) (by unfold Func.isWrapper; first | (rw [if_pos (by decide +kernel)]; kernel_rfl) | (rw [if_neg (by decide +kernel)]; exact ⟨rfl, rfl⟩))
    (fun os started H enc _ => lifted os started H enc)
theorem proved : Rows.ModelBetweenSaid := over
#print axioms proved
end Go.Proofs.Ytoihhmpmlbdeiaa.modelBetween
namespace Go.Proofs.Ytoihhmpmlbdeiaa
/-- The row, under a short name, for the claim. -/
theorem modelBetween_holds : Rows.ModelBetweenSaid := modelBetween.proved
end Go.Proofs.Ytoihhmpmlbdeiaa
