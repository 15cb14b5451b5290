/- MCalms: what is proved for the claim, part 5: functions' reckonings, and what they give. -/
import Derived.Test.YtoihhmpmlbdeiaaMCalms4
import Derived.KernelRfl
import Derived.Test.YtoihhmpmlbdeiaaMCalmsLZ
set_option linter.unusedVariables false
set_option linter.unusedSimpArgs false
/- QModelCalms -/
namespace Go.Proofs.Ytoihhmpmlbdeiaa.Rig
open Go
set_option maxRecDepth 100000 in
theorem tLModelCalms_0 (R0 : Int) (R1 : Int) (R2 : Int) (T1 : Int) (T2 : Int) (Cm : Int) (Sl : Int) (Tk : Int) (u1 : Int) (u2 : Int) (zticks : Bool) (ticks : List Int) (i : Nat) : tidied TModelCalms_0 UModelCalms_0 1 (evCode (mkL Try.prog 0 (fun _ => none) tab18 rowsModelCalms) (evCall (mkC Try.prog 0 (fun _ => none) tab18) 50) 7 1 fuelC (bodyAt Try.prog 7 0) (hdModelCalms_0 ⟨R0, R1, R2, T1, T2, Cm, Sl, Tk, u1, u2, zticks, ticks, i⟩)) =
  Tree.br (decide ((i : Int) < ((List.length ticks) : Int)))
    (Tree.br (decide ((i : Int) < (60 : Int)))
      (Tree.br (!zticks && decide ((0 : Int) ≤ (i : Int) ∧ (i : Int) < ((List.length ticks) : Int)))
        (Tree.br (decide (Int.toNat (i : Int) * 1 + 0 + 1 ≤ List.length ticks))
          (Tree.chk
            ((True ∧ True ∧ True ∧ True ∧ True ∧ True) ∧
              (-9223372036854775808 : Int) ≤ R0 ∧
                R0 ≤ (9223372036854775807 : Int) ∧
                  (-9223372036854775808 : Int) ≤ R1 ∧
                    R1 ≤ (9223372036854775807 : Int) ∧
                      (-9223372036854775808 : Int) ≤ R2 ∧
                        R2 ≤ (9223372036854775807 : Int) ∧
                          (-9223372036854775808 : Int) ≤ T1 ∧
                            T1 ≤ (9223372036854775807 : Int) ∧
                              (-9223372036854775808 : Int) ≤ T2 ∧
                                T2 ≤ (9223372036854775807 : Int) ∧
                                  (-9223372036854775808 : Int) ≤ Cm ∧
                                    Cm ≤ (9223372036854775807 : Int) ∧
                                      (-9223372036854775808 : Int) ≤ Sl ∧
                                        Sl ≤ (9223372036854775807 : Int) ∧
                                          (-9223372036854775808 : Int) ≤ Tk ∧
                                            Tk ≤ (9223372036854775807 : Int) ∧
                                              (-9223372036854775808 : Int) ≤ u1 ∧
                                                u1 ≤ (9223372036854775807 : Int) ∧
                                                  (-9223372036854775808 : Int) ≤ u2 ∧
                                                    u2 ≤ (9223372036854775807 : Int) ∧
                                                      (-9223372036854775808 : Int) ≤ (0 : Int) ∧
                                                        (0 : Int) ≤ (9223372036854775807 : Int) ∧
                                                          (-9223372036854775808 : Int) ≤ List.getD ticks (Int.toNat (i : Int) * 1 + 0 + 0) (0 : Int) ∧
                                                            List.getD ticks (Int.toNat (i : Int) * 1 + 0 + 0) (0 : Int) ≤ (9223372036854775807 : Int))
            (Tree.br (stE R0 R1 R2 T1 T2 Cm Sl Tk u1 u2 (0 : Int) (List.getD ticks (Int.toNat (i : Int) * 1 + 0 + 0) (0 : Int)) != (0 : Int))
              (Tree.br (stA R0 R1 R2 T1 T2 Cm Sl Tk u1 u2 (0 : Int) (List.getD ticks (Int.toNat (i : Int) * 1 + 0 + 0) (0 : Int)) == (0 : Int))
                (Tree.ret
                  (Ex.ret,
                    St.mk
                      [AV.junk, AV.junk, AV.junk, AV.junk, AV.junk, AV.junk, AV.junk, AV.junk,
                        AV.bool false (stB R0 R1 R2 T1 T2 Cm Sl Tk u1 u2 (0 : Int) (List.getD ticks (Int.toNat (i : Int) * 1 + 0 + 0) (0 : Int)) == (0 : Int)), AV.junk, AV.junk, AV.junk,
                        AV.junk, AV.junk, AV.junk, AV.junk, AV.junk, AV.junk, AV.junk, AV.junk, AV.junk, AV.junk, AV.junk, AV.junk, AV.junk, AV.junk, AV.junk, AV.junk, AV.junk, AV.junk, AV.junk, AV.junk, AV.junk, AV.junk, AV.junk, AV.junk,
                        AV.junk, AV.junk, AV.junk, AV.junk, AV.junk, AV.junk, AV.junk, AV.junk, AV.junk, AV.junk, AV.junk, AV.junk, AV.junk, AV.junk, AV.junk, AV.junk, AV.junk, AV.junk, AV.junk, AV.junk, AV.junk, AV.junk, AV.junk, AV.junk,
                        AV.junk, AV.junk, AV.junk, AV.junk, AV.junk, AV.junk, AV.junk, AV.junk, AV.junk, AV.junk, AV.junk, AV.junk, AV.junk, AV.junk, AV.junk, AV.junk, AV.junk, AV.junk, AV.junk, AV.junk, AV.junk, AV.junk, AV.junk, AV.junk,
                        AV.junk, AV.junk, AV.junk, AV.junk, AV.junk, AV.junk, AV.junk, AV.junk, AV.junk, AV.junk, AV.junk, AV.junk, AV.junk, AV.junk, AV.junk]
                      [some (Blk.mk (3) false false true (Data.ints IntKind.i64 ticks))]))
                (Tree.ret
                  (Ex.ret,
                    St.mk
                      [AV.junk, AV.junk, AV.junk, AV.junk, AV.junk, AV.junk, AV.junk, AV.junk, AV.bool true false, AV.junk, AV.junk, AV.junk, AV.junk, AV.junk, AV.junk, AV.junk, AV.junk, AV.junk, AV.junk, AV.junk, AV.junk, AV.junk, AV.junk,
                        AV.junk, AV.junk, AV.junk, AV.junk, AV.junk, AV.junk, AV.junk, AV.junk, AV.junk, AV.junk, AV.junk, AV.junk, AV.junk, AV.junk, AV.junk, AV.junk, AV.junk, AV.junk, AV.junk, AV.junk, AV.junk, AV.junk, AV.junk, AV.junk,
                        AV.junk, AV.junk, AV.junk, AV.junk, AV.junk, AV.junk, AV.junk, AV.junk, AV.junk, AV.junk, AV.junk, AV.junk, AV.junk, AV.junk, AV.junk, AV.junk, AV.junk, AV.junk, AV.junk, AV.junk, AV.junk, AV.junk, AV.junk, AV.junk,
                        AV.junk, AV.junk, AV.junk, AV.junk, AV.junk, AV.junk, AV.junk, AV.junk, AV.junk, AV.junk, AV.junk, AV.junk, AV.junk, AV.junk, AV.junk, AV.junk, AV.junk, AV.junk, AV.junk, AV.junk, AV.junk, AV.junk, AV.junk, AV.junk,
                        AV.junk, AV.junk, AV.junk, AV.junk]
                      [some (Blk.mk (3) false false true (Data.ints IntKind.i64 ticks))])))
              (Tree.br
                (decide
                  ((if
                        IntKind.wrap IntKind.i64 ((0 : Int) - stA R0 R1 R2 T1 T2 Cm Sl Tk u1 u2 (0 : Int) (List.getD ticks (Int.toNat (i : Int) * 1 + 0 + 0) (0 : Int))) >
                          stA R0 R1 R2 T1 T2 Cm Sl Tk u1 u2 (0 : Int) (List.getD ticks (Int.toNat (i : Int) * 1 + 0 + 0) (0 : Int)) then
                      IntKind.wrap IntKind.i64 ((0 : Int) - stA R0 R1 R2 T1 T2 Cm Sl Tk u1 u2 (0 : Int) (List.getD ticks (Int.toNat (i : Int) * 1 + 0 + 0) (0 : Int)))
                    else stA R0 R1 R2 T1 T2 Cm Sl Tk u1 u2 (0 : Int) (List.getD ticks (Int.toNat (i : Int) * 1 + 0 + 0) (0 : Int))) >
                    if IntKind.wrap IntKind.i64 ((0 : Int) - u1) > u1 then IntKind.wrap IntKind.i64 ((0 : Int) - u1) else u1))
                (Tree.ret
                  (Ex.ret,
                    St.mk
                      [AV.junk, AV.junk, AV.junk, AV.junk, AV.junk, AV.junk, AV.junk, AV.junk, AV.bool true false, AV.junk, AV.junk, AV.junk, AV.junk, AV.junk, AV.junk, AV.junk, AV.junk, AV.junk, AV.junk, AV.junk, AV.junk, AV.junk, AV.junk,
                        AV.junk, AV.junk, AV.junk, AV.junk, AV.junk, AV.junk, AV.junk, AV.junk, AV.junk, AV.junk, AV.junk, AV.junk, AV.junk, AV.junk, AV.junk, AV.junk, AV.junk, AV.junk, AV.junk, AV.junk, AV.junk, AV.junk, AV.junk, AV.junk,
                        AV.junk, AV.junk, AV.junk, AV.junk, AV.junk, AV.junk, AV.junk, AV.junk, AV.junk, AV.junk, AV.junk, AV.junk, AV.junk, AV.junk, AV.junk, AV.junk, AV.junk, AV.junk, AV.junk, AV.junk, AV.junk, AV.junk, AV.junk, AV.junk,
                        AV.junk, AV.junk, AV.junk, AV.junk, AV.junk, AV.junk, AV.junk, AV.junk, AV.junk, AV.junk, AV.junk, AV.junk, AV.junk, AV.junk, AV.junk, AV.junk, AV.junk, AV.junk, AV.junk, AV.junk, AV.junk, AV.junk, AV.junk, AV.junk,
                        AV.junk, AV.junk, AV.junk, AV.junk]
                      [some (Blk.mk (3) false false true (Data.ints IntKind.i64 ticks))]))
                (Tree.br
                  (decide
                    ((if
                          IntKind.wrap IntKind.i64 ((0 : Int) - stB R0 R1 R2 T1 T2 Cm Sl Tk u1 u2 (0 : Int) (List.getD ticks (Int.toNat (i : Int) * 1 + 0 + 0) (0 : Int))) >
                            stB R0 R1 R2 T1 T2 Cm Sl Tk u1 u2 (0 : Int) (List.getD ticks (Int.toNat (i : Int) * 1 + 0 + 0) (0 : Int)) then
                        IntKind.wrap IntKind.i64 ((0 : Int) - stB R0 R1 R2 T1 T2 Cm Sl Tk u1 u2 (0 : Int) (List.getD ticks (Int.toNat (i : Int) * 1 + 0 + 0) (0 : Int)))
                      else stB R0 R1 R2 T1 T2 Cm Sl Tk u1 u2 (0 : Int) (List.getD ticks (Int.toNat (i : Int) * 1 + 0 + 0) (0 : Int))) >
                      if IntKind.wrap IntKind.i64 ((0 : Int) - u2) > u2 then IntKind.wrap IntKind.i64 ((0 : Int) - u2) else u2))
                  (Tree.ret
                    (Ex.ret,
                      St.mk
                        [AV.junk, AV.junk, AV.junk, AV.junk, AV.junk, AV.junk, AV.junk, AV.junk, AV.bool true false, AV.junk, AV.junk, AV.junk, AV.junk, AV.junk, AV.junk, AV.junk, AV.junk, AV.junk, AV.junk, AV.junk, AV.junk, AV.junk, AV.junk,
                          AV.junk, AV.junk, AV.junk, AV.junk, AV.junk, AV.junk, AV.junk, AV.junk, AV.junk, AV.junk, AV.junk, AV.junk, AV.junk, AV.junk, AV.junk, AV.junk, AV.junk, AV.junk, AV.junk, AV.junk, AV.junk, AV.junk, AV.junk, AV.junk,
                          AV.junk, AV.junk, AV.junk, AV.junk, AV.junk, AV.junk, AV.junk, AV.junk, AV.junk, AV.junk, AV.junk, AV.junk, AV.junk, AV.junk, AV.junk, AV.junk, AV.junk, AV.junk, AV.junk, AV.junk, AV.junk, AV.junk, AV.junk, AV.junk,
                          AV.junk, AV.junk, AV.junk, AV.junk, AV.junk, AV.junk, AV.junk, AV.junk, AV.junk, AV.junk, AV.junk, AV.junk, AV.junk, AV.junk, AV.junk, AV.junk, AV.junk, AV.junk, AV.junk, AV.junk, AV.junk, AV.junk, AV.junk, AV.junk,
                          AV.junk, AV.junk, AV.junk, AV.junk]
                        [some (Blk.mk (3) false false true (Data.ints IntKind.i64 ticks))]))
                  (Tree.br (decide (stA R0 R1 R2 T1 T2 Cm Sl Tk u1 u2 (0 : Int) (List.getD ticks (Int.toNat (i : Int) * 1 + 0 + 0) (0 : Int)) > (0 : Int)))
                    (Tree.br (decide (u1 < (0 : Int)))
                      (Tree.ret
                        (Ex.ret,
                          St.mk
                            [AV.junk, AV.junk, AV.junk, AV.junk, AV.junk, AV.junk, AV.junk, AV.junk, AV.bool true false, AV.junk, AV.junk, AV.junk, AV.junk, AV.junk, AV.junk, AV.junk, AV.junk, AV.junk, AV.junk, AV.junk, AV.junk, AV.junk,
                              AV.junk, AV.junk, AV.junk, AV.junk, AV.junk, AV.junk, AV.junk, AV.junk, AV.junk, AV.junk, AV.junk, AV.junk, AV.junk, AV.junk, AV.junk, AV.junk, AV.junk, AV.junk, AV.junk, AV.junk, AV.junk, AV.junk, AV.junk,
                              AV.junk, AV.junk, AV.junk, AV.junk, AV.junk, AV.junk, AV.junk, AV.junk, AV.junk, AV.junk, AV.junk, AV.junk, AV.junk, AV.junk, AV.junk, AV.junk, AV.junk, AV.junk, AV.junk, AV.junk, AV.junk, AV.junk, AV.junk,
                              AV.junk, AV.junk, AV.junk, AV.junk, AV.junk, AV.junk, AV.junk, AV.junk, AV.junk, AV.junk, AV.junk, AV.junk, AV.junk, AV.junk, AV.junk, AV.junk, AV.junk, AV.junk, AV.junk, AV.junk, AV.junk, AV.junk, AV.junk,
                              AV.junk, AV.junk, AV.junk, AV.junk, AV.junk, AV.junk, AV.junk, AV.junk]
                            [some (Blk.mk (3) false false true (Data.ints IntKind.i64 ticks))]))
                      (Tree.br (decide (stA R0 R1 R2 T1 T2 Cm Sl Tk u1 u2 (0 : Int) (List.getD ticks (Int.toNat (i : Int) * 1 + 0 + 0) (0 : Int)) < (0 : Int)))
                        (Tree.br (decide (u1 > (0 : Int)))
                          (Tree.ret
                            (Ex.ret,
                              St.mk
                                [AV.junk, AV.junk, AV.junk, AV.junk, AV.junk, AV.junk, AV.junk, AV.junk, AV.bool true false, AV.junk, AV.junk, AV.junk, AV.junk, AV.junk, AV.junk, AV.junk, AV.junk, AV.junk, AV.junk, AV.junk, AV.junk, AV.junk,
                                  AV.junk, AV.junk, AV.junk, AV.junk, AV.junk, AV.junk, AV.junk, AV.junk, AV.junk, AV.junk, AV.junk, AV.junk, AV.junk, AV.junk, AV.junk, AV.junk, AV.junk, AV.junk, AV.junk, AV.junk, AV.junk, AV.junk, AV.junk,
                                  AV.junk, AV.junk, AV.junk, AV.junk, AV.junk, AV.junk, AV.junk, AV.junk, AV.junk, AV.junk, AV.junk, AV.junk, AV.junk, AV.junk, AV.junk, AV.junk, AV.junk, AV.junk, AV.junk, AV.junk, AV.junk, AV.junk, AV.junk,
                                  AV.junk, AV.junk, AV.junk, AV.junk, AV.junk, AV.junk, AV.junk, AV.junk, AV.junk, AV.junk, AV.junk, AV.junk, AV.junk, AV.junk, AV.junk, AV.junk, AV.junk, AV.junk, AV.junk, AV.junk, AV.junk, AV.junk, AV.junk,
                                  AV.junk, AV.junk, AV.junk, AV.junk, AV.junk, AV.junk, AV.junk, AV.junk]
                                [some (Blk.mk (3) false false true (Data.ints IntKind.i64 ticks))]))
                          (Tree.br (decide (stB R0 R1 R2 T1 T2 Cm Sl Tk u1 u2 (0 : Int) (List.getD ticks (Int.toNat (i : Int) * 1 + 0 + 0) (0 : Int)) > (0 : Int)))
                            (Tree.br (decide (u2 < (0 : Int)))
                              (Tree.ret
                                (Ex.ret,
                                  St.mk
                                    [AV.junk, AV.junk, AV.junk, AV.junk, AV.junk, AV.junk, AV.junk, AV.junk, AV.bool true false, AV.junk, AV.junk, AV.junk, AV.junk, AV.junk, AV.junk, AV.junk, AV.junk, AV.junk, AV.junk, AV.junk, AV.junk,
                                      AV.junk, AV.junk, AV.junk, AV.junk, AV.junk, AV.junk, AV.junk, AV.junk, AV.junk, AV.junk, AV.junk, AV.junk, AV.junk, AV.junk, AV.junk, AV.junk, AV.junk, AV.junk, AV.junk, AV.junk, AV.junk, AV.junk,
                                      AV.junk, AV.junk, AV.junk, AV.junk, AV.junk, AV.junk, AV.junk, AV.junk, AV.junk, AV.junk, AV.junk, AV.junk, AV.junk, AV.junk, AV.junk, AV.junk, AV.junk, AV.junk, AV.junk, AV.junk, AV.junk, AV.junk,
                                      AV.junk, AV.junk, AV.junk, AV.junk, AV.junk, AV.junk, AV.junk, AV.junk, AV.junk, AV.junk, AV.junk, AV.junk, AV.junk, AV.junk, AV.junk, AV.junk, AV.junk, AV.junk, AV.junk, AV.junk, AV.junk, AV.junk,
                                      AV.junk, AV.junk, AV.junk, AV.junk, AV.junk, AV.junk, AV.junk, AV.junk, AV.junk, AV.junk, AV.junk, AV.junk]
                                    [some (Blk.mk (3) false false true (Data.ints IntKind.i64 ticks))]))
                              (Tree.br (decide (stB R0 R1 R2 T1 T2 Cm Sl Tk u1 u2 (0 : Int) (List.getD ticks (Int.toNat (i : Int) * 1 + 0 + 0) (0 : Int)) < (0 : Int)))
                                (Tree.br (decide (u2 > (0 : Int)))
                                  (Tree.ret
                                    (Ex.ret,
                                      St.mk
                                        [AV.junk, AV.junk, AV.junk, AV.junk, AV.junk, AV.junk, AV.junk, AV.junk, AV.bool true false, AV.junk, AV.junk, AV.junk, AV.junk, AV.junk, AV.junk, AV.junk, AV.junk, AV.junk, AV.junk, AV.junk, AV.junk,
                                          AV.junk, AV.junk, AV.junk, AV.junk, AV.junk, AV.junk, AV.junk, AV.junk, AV.junk, AV.junk, AV.junk, AV.junk, AV.junk, AV.junk, AV.junk, AV.junk, AV.junk, AV.junk, AV.junk, AV.junk, AV.junk, AV.junk,
                                          AV.junk, AV.junk, AV.junk, AV.junk, AV.junk, AV.junk, AV.junk, AV.junk, AV.junk, AV.junk, AV.junk, AV.junk, AV.junk, AV.junk, AV.junk, AV.junk, AV.junk, AV.junk, AV.junk, AV.junk, AV.junk, AV.junk,
                                          AV.junk, AV.junk, AV.junk, AV.junk, AV.junk, AV.junk, AV.junk, AV.junk, AV.junk, AV.junk, AV.junk, AV.junk, AV.junk, AV.junk, AV.junk, AV.junk, AV.junk, AV.junk, AV.junk, AV.junk, AV.junk, AV.junk,
                                          AV.junk, AV.junk, AV.junk, AV.junk, AV.junk, AV.junk, AV.junk, AV.junk, AV.junk, AV.junk, AV.junk, AV.junk]
                                        [some (Blk.mk (3) false false true (Data.ints IntKind.i64 ticks))]))
                                  (Tree.ret
                                    (Ex.norm,
                                      St.mk
                                        [AV.junk, AV.int IntKind.i64 false (stA R0 R1 R2 T1 T2 Cm Sl Tk u1 u2 (0 : Int) (List.getD ticks (Int.toNat (i : Int) * 1 + 0 + 0) (0 : Int))),
                                          AV.int IntKind.i64 false (stB R0 R1 R2 T1 T2 Cm Sl Tk u1 u2 (0 : Int) (List.getD ticks (Int.toNat (i : Int) * 1 + 0 + 0) (0 : Int))),
                                          AV.sl zticks (Ref.mk (0) (0) (0) (0)) false (List.length ticks) Cap.any, AV.ptr (Ref.mk (1) (0) (0) (0)), AV.junk, AV.junk,
                                          AV.junk, AV.junk, AV.int IntKind.i64 false (IntKind.wrap IntKind.i64 ((i : Int) + (1 : Int))), AV.junk, AV.junk, AV.junk, AV.junk, AV.junk, AV.junk, AV.junk, AV.junk, AV.junk, AV.junk, AV.junk, AV.junk,
                                          AV.junk, AV.junk, AV.junk, AV.junk, AV.junk, AV.junk, AV.junk, AV.junk, AV.junk, AV.junk, AV.junk, AV.junk, AV.junk, AV.junk, AV.junk, AV.junk, AV.junk, AV.junk, AV.junk, AV.junk, AV.junk, AV.junk,
                                          AV.junk, AV.junk, AV.junk, AV.junk, AV.junk, AV.junk, AV.junk, AV.junk, AV.junk, AV.junk, AV.junk, AV.junk, AV.junk, AV.junk, AV.junk, AV.junk, AV.junk, AV.junk, AV.junk, AV.junk, AV.junk, AV.junk,
                                          AV.junk, AV.junk, AV.junk, AV.junk, AV.junk, AV.junk, AV.junk, AV.junk, AV.junk, AV.junk, AV.junk, AV.junk, AV.junk, AV.junk, AV.junk, AV.junk, AV.junk, AV.junk, AV.junk, AV.junk, AV.junk, AV.junk,
                                          AV.junk, AV.junk, AV.junk, AV.junk, AV.junk, AV.junk, AV.junk, AV.junk, AV.junk, AV.junk, AV.junk]
                                        [some (Blk.mk (3) false false true (Data.ints IntKind.i64 ticks)),
                                          some
                                            (Blk.mk (23) true false false
                                              (Data.cells
                                                [AV.int IntKind.i64 false R0, AV.int IntKind.i64 false R1, AV.int IntKind.i64 false R2, AV.int IntKind.i64 false T1, AV.int IntKind.i64 false T2, AV.int IntKind.i64 false Cm,
                                                  AV.int IntKind.i64 false Sl, AV.int IntKind.i64 false Tk]))])))
                                (Tree.ret
                                  (Ex.norm,
                                    St.mk
                                      [AV.junk, AV.int IntKind.i64 false (stA R0 R1 R2 T1 T2 Cm Sl Tk u1 u2 (0 : Int) (List.getD ticks (Int.toNat (i : Int) * 1 + 0 + 0) (0 : Int))),
                                        AV.int IntKind.i64 false (stB R0 R1 R2 T1 T2 Cm Sl Tk u1 u2 (0 : Int) (List.getD ticks (Int.toNat (i : Int) * 1 + 0 + 0) (0 : Int))),
                                        AV.sl zticks (Ref.mk (0) (0) (0) (0)) false (List.length ticks) Cap.any, AV.ptr (Ref.mk (1) (0) (0) (0)), AV.junk, AV.junk, AV.junk,
                                        AV.junk, AV.int IntKind.i64 false (IntKind.wrap IntKind.i64 ((i : Int) + (1 : Int))), AV.junk, AV.junk, AV.junk, AV.junk, AV.junk, AV.junk, AV.junk, AV.junk, AV.junk, AV.junk, AV.junk, AV.junk, AV.junk,
                                        AV.junk, AV.junk, AV.junk, AV.junk, AV.junk, AV.junk, AV.junk, AV.junk, AV.junk, AV.junk, AV.junk, AV.junk, AV.junk, AV.junk, AV.junk, AV.junk, AV.junk, AV.junk, AV.junk, AV.junk, AV.junk, AV.junk,
                                        AV.junk, AV.junk, AV.junk, AV.junk, AV.junk, AV.junk, AV.junk, AV.junk, AV.junk, AV.junk, AV.junk, AV.junk, AV.junk, AV.junk, AV.junk, AV.junk, AV.junk, AV.junk, AV.junk, AV.junk, AV.junk, AV.junk,
                                        AV.junk, AV.junk, AV.junk, AV.junk, AV.junk, AV.junk, AV.junk, AV.junk, AV.junk, AV.junk, AV.junk, AV.junk, AV.junk, AV.junk, AV.junk, AV.junk, AV.junk, AV.junk, AV.junk, AV.junk, AV.junk, AV.junk,
                                        AV.junk, AV.junk, AV.junk, AV.junk, AV.junk, AV.junk, AV.junk, AV.junk, AV.junk, AV.junk]
                                      [some (Blk.mk (3) false false true (Data.ints IntKind.i64 ticks)),
                                        some
                                          (Blk.mk (23) true false false
                                            (Data.cells
                                              [AV.int IntKind.i64 false R0, AV.int IntKind.i64 false R1, AV.int IntKind.i64 false R2, AV.int IntKind.i64 false T1, AV.int IntKind.i64 false T2, AV.int IntKind.i64 false Cm,
                                                AV.int IntKind.i64 false Sl, AV.int IntKind.i64 false Tk]))]))))
                            (Tree.br (decide (stB R0 R1 R2 T1 T2 Cm Sl Tk u1 u2 (0 : Int) (List.getD ticks (Int.toNat (i : Int) * 1 + 0 + 0) (0 : Int)) < (0 : Int)))
                              (Tree.br (decide (u2 > (0 : Int)))
                                (Tree.ret
                                  (Ex.ret,
                                    St.mk
                                      [AV.junk, AV.junk, AV.junk, AV.junk, AV.junk, AV.junk, AV.junk, AV.junk, AV.bool true false, AV.junk, AV.junk, AV.junk, AV.junk, AV.junk, AV.junk, AV.junk, AV.junk, AV.junk, AV.junk, AV.junk, AV.junk,
                                        AV.junk, AV.junk, AV.junk, AV.junk, AV.junk, AV.junk, AV.junk, AV.junk, AV.junk, AV.junk, AV.junk, AV.junk, AV.junk, AV.junk, AV.junk, AV.junk, AV.junk, AV.junk, AV.junk, AV.junk, AV.junk, AV.junk,
                                        AV.junk, AV.junk, AV.junk, AV.junk, AV.junk, AV.junk, AV.junk, AV.junk, AV.junk, AV.junk, AV.junk, AV.junk, AV.junk, AV.junk, AV.junk, AV.junk, AV.junk, AV.junk, AV.junk, AV.junk, AV.junk, AV.junk,
                                        AV.junk, AV.junk, AV.junk, AV.junk, AV.junk, AV.junk, AV.junk, AV.junk, AV.junk, AV.junk, AV.junk, AV.junk, AV.junk, AV.junk, AV.junk, AV.junk, AV.junk, AV.junk, AV.junk, AV.junk, AV.junk, AV.junk,
                                        AV.junk, AV.junk, AV.junk, AV.junk, AV.junk, AV.junk, AV.junk, AV.junk, AV.junk, AV.junk, AV.junk, AV.junk]
                                      [some (Blk.mk (3) false false true (Data.ints IntKind.i64 ticks))]))
                                (Tree.ret
                                  (Ex.norm,
                                    St.mk
                                      [AV.junk, AV.int IntKind.i64 false (stA R0 R1 R2 T1 T2 Cm Sl Tk u1 u2 (0 : Int) (List.getD ticks (Int.toNat (i : Int) * 1 + 0 + 0) (0 : Int))),
                                        AV.int IntKind.i64 false (stB R0 R1 R2 T1 T2 Cm Sl Tk u1 u2 (0 : Int) (List.getD ticks (Int.toNat (i : Int) * 1 + 0 + 0) (0 : Int))),
                                        AV.sl zticks (Ref.mk (0) (0) (0) (0)) false (List.length ticks) Cap.any, AV.ptr (Ref.mk (1) (0) (0) (0)), AV.junk, AV.junk, AV.junk,
                                        AV.junk, AV.int IntKind.i64 false (IntKind.wrap IntKind.i64 ((i : Int) + (1 : Int))), AV.junk, AV.junk, AV.junk, AV.junk, AV.junk, AV.junk, AV.junk, AV.junk, AV.junk, AV.junk, AV.junk, AV.junk, AV.junk,
                                        AV.junk, AV.junk, AV.junk, AV.junk, AV.junk, AV.junk, AV.junk, AV.junk, AV.junk, AV.junk, AV.junk, AV.junk, AV.junk, AV.junk, AV.junk, AV.junk, AV.junk, AV.junk, AV.junk, AV.junk, AV.junk, AV.junk,
                                        AV.junk, AV.junk, AV.junk, AV.junk, AV.junk, AV.junk, AV.junk, AV.junk, AV.junk, AV.junk, AV.junk, AV.junk, AV.junk, AV.junk, AV.junk, AV.junk, AV.junk, AV.junk, AV.junk, AV.junk, AV.junk, AV.junk,
                                        AV.junk, AV.junk, AV.junk, AV.junk, AV.junk, AV.junk, AV.junk, AV.junk, AV.junk, AV.junk, AV.junk, AV.junk, AV.junk, AV.junk, AV.junk, AV.junk, AV.junk, AV.junk, AV.junk, AV.junk, AV.junk, AV.junk,
                                        AV.junk, AV.junk, AV.junk, AV.junk, AV.junk, AV.junk, AV.junk, AV.junk, AV.junk, AV.junk]
                                      [some (Blk.mk (3) false false true (Data.ints IntKind.i64 ticks)),
                                        some
                                          (Blk.mk (23) true false false
                                            (Data.cells
                                              [AV.int IntKind.i64 false R0, AV.int IntKind.i64 false R1, AV.int IntKind.i64 false R2, AV.int IntKind.i64 false T1, AV.int IntKind.i64 false T2, AV.int IntKind.i64 false Cm,
                                                AV.int IntKind.i64 false Sl, AV.int IntKind.i64 false Tk]))])))
                              (Tree.ret
                                (Ex.norm,
                                  St.mk
                                    [AV.junk, AV.int IntKind.i64 false (stA R0 R1 R2 T1 T2 Cm Sl Tk u1 u2 (0 : Int) (List.getD ticks (Int.toNat (i : Int) * 1 + 0 + 0) (0 : Int))),
                                      AV.int IntKind.i64 false (stB R0 R1 R2 T1 T2 Cm Sl Tk u1 u2 (0 : Int) (List.getD ticks (Int.toNat (i : Int) * 1 + 0 + 0) (0 : Int))),
                                      AV.sl zticks (Ref.mk (0) (0) (0) (0)) false (List.length ticks) Cap.any, AV.ptr (Ref.mk (1) (0) (0) (0)), AV.junk, AV.junk, AV.junk,
                                      AV.junk, AV.int IntKind.i64 false (IntKind.wrap IntKind.i64 ((i : Int) + (1 : Int))), AV.junk, AV.junk, AV.junk, AV.junk, AV.junk, AV.junk, AV.junk, AV.junk, AV.junk, AV.junk, AV.junk, AV.junk, AV.junk,
                                      AV.junk, AV.junk, AV.junk, AV.junk, AV.junk, AV.junk, AV.junk, AV.junk, AV.junk, AV.junk, AV.junk, AV.junk, AV.junk, AV.junk, AV.junk, AV.junk, AV.junk, AV.junk, AV.junk, AV.junk, AV.junk, AV.junk,
                                      AV.junk, AV.junk, AV.junk, AV.junk, AV.junk, AV.junk, AV.junk, AV.junk, AV.junk, AV.junk, AV.junk, AV.junk, AV.junk, AV.junk, AV.junk, AV.junk, AV.junk, AV.junk, AV.junk, AV.junk, AV.junk, AV.junk,
                                      AV.junk, AV.junk, AV.junk, AV.junk, AV.junk, AV.junk, AV.junk, AV.junk, AV.junk, AV.junk, AV.junk, AV.junk, AV.junk, AV.junk, AV.junk, AV.junk, AV.junk, AV.junk, AV.junk, AV.junk, AV.junk, AV.junk,
                                      AV.junk, AV.junk, AV.junk, AV.junk, AV.junk, AV.junk, AV.junk, AV.junk, AV.junk, AV.junk]
                                    [some (Blk.mk (3) false false true (Data.ints IntKind.i64 ticks)),
                                      some
                                        (Blk.mk (23) true false false
                                          (Data.cells
                                            [AV.int IntKind.i64 false R0, AV.int IntKind.i64 false R1, AV.int IntKind.i64 false R2, AV.int IntKind.i64 false T1, AV.int IntKind.i64 false T2, AV.int IntKind.i64 false Cm,
                                              AV.int IntKind.i64 false Sl, AV.int IntKind.i64 false Tk]))])))))
                        (Tree.br (decide (stB R0 R1 R2 T1 T2 Cm Sl Tk u1 u2 (0 : Int) (List.getD ticks (Int.toNat (i : Int) * 1 + 0 + 0) (0 : Int)) > (0 : Int)))
                          (Tree.br (decide (u2 < (0 : Int)))
                            (Tree.ret
                              (Ex.ret,
                                St.mk
                                  [AV.junk, AV.junk, AV.junk, AV.junk, AV.junk, AV.junk, AV.junk, AV.junk, AV.bool true false, AV.junk, AV.junk, AV.junk, AV.junk, AV.junk, AV.junk, AV.junk, AV.junk, AV.junk, AV.junk, AV.junk, AV.junk,
                                    AV.junk, AV.junk, AV.junk, AV.junk, AV.junk, AV.junk, AV.junk, AV.junk, AV.junk, AV.junk, AV.junk, AV.junk, AV.junk, AV.junk, AV.junk, AV.junk, AV.junk, AV.junk, AV.junk, AV.junk, AV.junk, AV.junk, AV.junk,
                                    AV.junk, AV.junk, AV.junk, AV.junk, AV.junk, AV.junk, AV.junk, AV.junk, AV.junk, AV.junk, AV.junk, AV.junk, AV.junk, AV.junk, AV.junk, AV.junk, AV.junk, AV.junk, AV.junk, AV.junk, AV.junk, AV.junk, AV.junk,
                                    AV.junk, AV.junk, AV.junk, AV.junk, AV.junk, AV.junk, AV.junk, AV.junk, AV.junk, AV.junk, AV.junk, AV.junk, AV.junk, AV.junk, AV.junk, AV.junk, AV.junk, AV.junk, AV.junk, AV.junk, AV.junk, AV.junk, AV.junk,
                                    AV.junk, AV.junk, AV.junk, AV.junk, AV.junk, AV.junk, AV.junk, AV.junk, AV.junk]
                                  [some (Blk.mk (3) false false true (Data.ints IntKind.i64 ticks))]))
                            (Tree.br (decide (stB R0 R1 R2 T1 T2 Cm Sl Tk u1 u2 (0 : Int) (List.getD ticks (Int.toNat (i : Int) * 1 + 0 + 0) (0 : Int)) < (0 : Int)))
                              (Tree.br (decide (u2 > (0 : Int)))
                                (Tree.ret
                                  (Ex.ret,
                                    St.mk
                                      [AV.junk, AV.junk, AV.junk, AV.junk, AV.junk, AV.junk, AV.junk, AV.junk, AV.bool true false, AV.junk, AV.junk, AV.junk, AV.junk, AV.junk, AV.junk, AV.junk, AV.junk, AV.junk, AV.junk, AV.junk, AV.junk,
                                        AV.junk, AV.junk, AV.junk, AV.junk, AV.junk, AV.junk, AV.junk, AV.junk, AV.junk, AV.junk, AV.junk, AV.junk, AV.junk, AV.junk, AV.junk, AV.junk, AV.junk, AV.junk, AV.junk, AV.junk, AV.junk, AV.junk,
                                        AV.junk, AV.junk, AV.junk, AV.junk, AV.junk, AV.junk, AV.junk, AV.junk, AV.junk, AV.junk, AV.junk, AV.junk, AV.junk, AV.junk, AV.junk, AV.junk, AV.junk, AV.junk, AV.junk, AV.junk, AV.junk, AV.junk,
                                        AV.junk, AV.junk, AV.junk, AV.junk, AV.junk, AV.junk, AV.junk, AV.junk, AV.junk, AV.junk, AV.junk, AV.junk, AV.junk, AV.junk, AV.junk, AV.junk, AV.junk, AV.junk, AV.junk, AV.junk, AV.junk, AV.junk,
                                        AV.junk, AV.junk, AV.junk, AV.junk, AV.junk, AV.junk, AV.junk, AV.junk, AV.junk, AV.junk, AV.junk, AV.junk]
                                      [some (Blk.mk (3) false false true (Data.ints IntKind.i64 ticks))]))
                                (Tree.ret
                                  (Ex.norm,
                                    St.mk
                                      [AV.junk, AV.int IntKind.i64 false (stA R0 R1 R2 T1 T2 Cm Sl Tk u1 u2 (0 : Int) (List.getD ticks (Int.toNat (i : Int) * 1 + 0 + 0) (0 : Int))),
                                        AV.int IntKind.i64 false (stB R0 R1 R2 T1 T2 Cm Sl Tk u1 u2 (0 : Int) (List.getD ticks (Int.toNat (i : Int) * 1 + 0 + 0) (0 : Int))),
                                        AV.sl zticks (Ref.mk (0) (0) (0) (0)) false (List.length ticks) Cap.any, AV.ptr (Ref.mk (1) (0) (0) (0)), AV.junk, AV.junk, AV.junk,
                                        AV.junk, AV.int IntKind.i64 false (IntKind.wrap IntKind.i64 ((i : Int) + (1 : Int))), AV.junk, AV.junk, AV.junk, AV.junk, AV.junk, AV.junk, AV.junk, AV.junk, AV.junk, AV.junk, AV.junk, AV.junk, AV.junk,
                                        AV.junk, AV.junk, AV.junk, AV.junk, AV.junk, AV.junk, AV.junk, AV.junk, AV.junk, AV.junk, AV.junk, AV.junk, AV.junk, AV.junk, AV.junk, AV.junk, AV.junk, AV.junk, AV.junk, AV.junk, AV.junk, AV.junk,
                                        AV.junk, AV.junk, AV.junk, AV.junk, AV.junk, AV.junk, AV.junk, AV.junk, AV.junk, AV.junk, AV.junk, AV.junk, AV.junk, AV.junk, AV.junk, AV.junk, AV.junk, AV.junk, AV.junk, AV.junk, AV.junk, AV.junk,
                                        AV.junk, AV.junk, AV.junk, AV.junk, AV.junk, AV.junk, AV.junk, AV.junk, AV.junk, AV.junk, AV.junk, AV.junk, AV.junk, AV.junk, AV.junk, AV.junk, AV.junk, AV.junk, AV.junk, AV.junk, AV.junk, AV.junk,
                                        AV.junk, AV.junk, AV.junk, AV.junk, AV.junk, AV.junk, AV.junk, AV.junk, AV.junk, AV.junk]
                                      [some (Blk.mk (3) false false true (Data.ints IntKind.i64 ticks)),
                                        some
                                          (Blk.mk (23) true false false
                                            (Data.cells
                                              [AV.int IntKind.i64 false R0, AV.int IntKind.i64 false R1, AV.int IntKind.i64 false R2, AV.int IntKind.i64 false T1, AV.int IntKind.i64 false T2, AV.int IntKind.i64 false Cm,
                                                AV.int IntKind.i64 false Sl, AV.int IntKind.i64 false Tk]))])))
                              (Tree.ret
                                (Ex.norm,
                                  St.mk
                                    [AV.junk, AV.int IntKind.i64 false (stA R0 R1 R2 T1 T2 Cm Sl Tk u1 u2 (0 : Int) (List.getD ticks (Int.toNat (i : Int) * 1 + 0 + 0) (0 : Int))),
                                      AV.int IntKind.i64 false (stB R0 R1 R2 T1 T2 Cm Sl Tk u1 u2 (0 : Int) (List.getD ticks (Int.toNat (i : Int) * 1 + 0 + 0) (0 : Int))),
                                      AV.sl zticks (Ref.mk (0) (0) (0) (0)) false (List.length ticks) Cap.any, AV.ptr (Ref.mk (1) (0) (0) (0)), AV.junk, AV.junk, AV.junk,
                                      AV.junk, AV.int IntKind.i64 false (IntKind.wrap IntKind.i64 ((i : Int) + (1 : Int))), AV.junk, AV.junk, AV.junk, AV.junk, AV.junk, AV.junk, AV.junk, AV.junk, AV.junk, AV.junk, AV.junk, AV.junk, AV.junk,
                                      AV.junk, AV.junk, AV.junk, AV.junk, AV.junk, AV.junk, AV.junk, AV.junk, AV.junk, AV.junk, AV.junk, AV.junk, AV.junk, AV.junk, AV.junk, AV.junk, AV.junk, AV.junk, AV.junk, AV.junk, AV.junk, AV.junk,
                                      AV.junk, AV.junk, AV.junk, AV.junk, AV.junk, AV.junk, AV.junk, AV.junk, AV.junk, AV.junk, AV.junk, AV.junk, AV.junk, AV.junk, AV.junk, AV.junk, AV.junk, AV.junk, AV.junk, AV.junk, AV.junk, AV.junk,
                                      AV.junk, AV.junk, AV.junk, AV.junk, AV.junk, AV.junk, AV.junk, AV.junk, AV.junk, AV.junk, AV.junk, AV.junk, AV.junk, AV.junk, AV.junk, AV.junk, AV.junk, AV.junk, AV.junk, AV.junk, AV.junk, AV.junk,
                                      AV.junk, AV.junk, AV.junk, AV.junk, AV.junk, AV.junk, AV.junk, AV.junk, AV.junk, AV.junk]
                                    [some (Blk.mk (3) false false true (Data.ints IntKind.i64 ticks)),
                                      some
                                        (Blk.mk (23) true false false
                                          (Data.cells
                                            [AV.int IntKind.i64 false R0, AV.int IntKind.i64 false R1, AV.int IntKind.i64 false R2, AV.int IntKind.i64 false T1, AV.int IntKind.i64 false T2, AV.int IntKind.i64 false Cm,
                                              AV.int IntKind.i64 false Sl, AV.int IntKind.i64 false Tk]))]))))
                          (Tree.br (decide (stB R0 R1 R2 T1 T2 Cm Sl Tk u1 u2 (0 : Int) (List.getD ticks (Int.toNat (i : Int) * 1 + 0 + 0) (0 : Int)) < (0 : Int)))
                            (Tree.br (decide (u2 > (0 : Int)))
                              (Tree.ret
                                (Ex.ret,
                                  St.mk
                                    [AV.junk, AV.junk, AV.junk, AV.junk, AV.junk, AV.junk, AV.junk, AV.junk, AV.bool true false, AV.junk, AV.junk, AV.junk, AV.junk, AV.junk, AV.junk, AV.junk, AV.junk, AV.junk, AV.junk, AV.junk, AV.junk,
                                      AV.junk, AV.junk, AV.junk, AV.junk, AV.junk, AV.junk, AV.junk, AV.junk, AV.junk, AV.junk, AV.junk, AV.junk, AV.junk, AV.junk, AV.junk, AV.junk, AV.junk, AV.junk, AV.junk, AV.junk, AV.junk, AV.junk,
                                      AV.junk, AV.junk, AV.junk, AV.junk, AV.junk, AV.junk, AV.junk, AV.junk, AV.junk, AV.junk, AV.junk, AV.junk, AV.junk, AV.junk, AV.junk, AV.junk, AV.junk, AV.junk, AV.junk, AV.junk, AV.junk, AV.junk,
                                      AV.junk, AV.junk, AV.junk, AV.junk, AV.junk, AV.junk, AV.junk, AV.junk, AV.junk, AV.junk, AV.junk, AV.junk, AV.junk, AV.junk, AV.junk, AV.junk, AV.junk, AV.junk, AV.junk, AV.junk, AV.junk, AV.junk,
                                      AV.junk, AV.junk, AV.junk, AV.junk, AV.junk, AV.junk, AV.junk, AV.junk, AV.junk, AV.junk, AV.junk, AV.junk]
                                    [some (Blk.mk (3) false false true (Data.ints IntKind.i64 ticks))]))
                              (Tree.ret
                                (Ex.norm,
                                  St.mk
                                    [AV.junk, AV.int IntKind.i64 false (stA R0 R1 R2 T1 T2 Cm Sl Tk u1 u2 (0 : Int) (List.getD ticks (Int.toNat (i : Int) * 1 + 0 + 0) (0 : Int))),
                                      AV.int IntKind.i64 false (stB R0 R1 R2 T1 T2 Cm Sl Tk u1 u2 (0 : Int) (List.getD ticks (Int.toNat (i : Int) * 1 + 0 + 0) (0 : Int))),
                                      AV.sl zticks (Ref.mk (0) (0) (0) (0)) false (List.length ticks) Cap.any, AV.ptr (Ref.mk (1) (0) (0) (0)), AV.junk, AV.junk, AV.junk,
                                      AV.junk, AV.int IntKind.i64 false (IntKind.wrap IntKind.i64 ((i : Int) + (1 : Int))), AV.junk, AV.junk, AV.junk, AV.junk, AV.junk, AV.junk, AV.junk, AV.junk, AV.junk, AV.junk, AV.junk, AV.junk, AV.junk,
                                      AV.junk, AV.junk, AV.junk, AV.junk, AV.junk, AV.junk, AV.junk, AV.junk, AV.junk, AV.junk, AV.junk, AV.junk, AV.junk, AV.junk, AV.junk, AV.junk, AV.junk, AV.junk, AV.junk, AV.junk, AV.junk, AV.junk,
                                      AV.junk, AV.junk, AV.junk, AV.junk, AV.junk, AV.junk, AV.junk, AV.junk, AV.junk, AV.junk, AV.junk, AV.junk, AV.junk, AV.junk, AV.junk, AV.junk, AV.junk, AV.junk, AV.junk, AV.junk, AV.junk, AV.junk,
                                      AV.junk, AV.junk, AV.junk, AV.junk, AV.junk, AV.junk, AV.junk, AV.junk, AV.junk, AV.junk, AV.junk, AV.junk, AV.junk, AV.junk, AV.junk, AV.junk, AV.junk, AV.junk, AV.junk, AV.junk, AV.junk, AV.junk,
                                      AV.junk, AV.junk, AV.junk, AV.junk, AV.junk, AV.junk, AV.junk, AV.junk, AV.junk, AV.junk]
                                    [some (Blk.mk (3) false false true (Data.ints IntKind.i64 ticks)),
                                      some
                                        (Blk.mk (23) true false false
                                          (Data.cells
                                            [AV.int IntKind.i64 false R0, AV.int IntKind.i64 false R1, AV.int IntKind.i64 false R2, AV.int IntKind.i64 false T1, AV.int IntKind.i64 false T2, AV.int IntKind.i64 false Cm,
                                              AV.int IntKind.i64 false Sl, AV.int IntKind.i64 false Tk]))])))
                            (Tree.ret
                              (Ex.norm,
                                St.mk
                                  [AV.junk, AV.int IntKind.i64 false (stA R0 R1 R2 T1 T2 Cm Sl Tk u1 u2 (0 : Int) (List.getD ticks (Int.toNat (i : Int) * 1 + 0 + 0) (0 : Int))),
                                    AV.int IntKind.i64 false (stB R0 R1 R2 T1 T2 Cm Sl Tk u1 u2 (0 : Int) (List.getD ticks (Int.toNat (i : Int) * 1 + 0 + 0) (0 : Int))),
                                    AV.sl zticks (Ref.mk (0) (0) (0) (0)) false (List.length ticks) Cap.any, AV.ptr (Ref.mk (1) (0) (0) (0)), AV.junk, AV.junk, AV.junk,
                                    AV.junk, AV.int IntKind.i64 false (IntKind.wrap IntKind.i64 ((i : Int) + (1 : Int))), AV.junk, AV.junk, AV.junk, AV.junk, AV.junk, AV.junk, AV.junk, AV.junk, AV.junk, AV.junk, AV.junk, AV.junk, AV.junk,
                                    AV.junk, AV.junk, AV.junk, AV.junk, AV.junk, AV.junk, AV.junk, AV.junk, AV.junk, AV.junk, AV.junk, AV.junk, AV.junk, AV.junk, AV.junk, AV.junk, AV.junk, AV.junk, AV.junk, AV.junk, AV.junk, AV.junk, AV.junk,
                                    AV.junk, AV.junk, AV.junk, AV.junk, AV.junk, AV.junk, AV.junk, AV.junk, AV.junk, AV.junk, AV.junk, AV.junk, AV.junk, AV.junk, AV.junk, AV.junk, AV.junk, AV.junk, AV.junk, AV.junk, AV.junk, AV.junk, AV.junk,
                                    AV.junk, AV.junk, AV.junk, AV.junk, AV.junk, AV.junk, AV.junk, AV.junk, AV.junk, AV.junk, AV.junk, AV.junk, AV.junk, AV.junk, AV.junk, AV.junk, AV.junk, AV.junk, AV.junk, AV.junk, AV.junk, AV.junk, AV.junk,
                                    AV.junk, AV.junk, AV.junk, AV.junk, AV.junk, AV.junk, AV.junk]
                                  [some (Blk.mk (3) false false true (Data.ints IntKind.i64 ticks)),
                                    some
                                      (Blk.mk (23) true false false
                                        (Data.cells
                                          [AV.int IntKind.i64 false R0, AV.int IntKind.i64 false R1, AV.int IntKind.i64 false R2, AV.int IntKind.i64 false T1, AV.int IntKind.i64 false T2, AV.int IntKind.i64 false Cm,
                                            AV.int IntKind.i64 false Sl, AV.int IntKind.i64 false Tk]))]))))))
                    (Tree.br (decide (stA R0 R1 R2 T1 T2 Cm Sl Tk u1 u2 (0 : Int) (List.getD ticks (Int.toNat (i : Int) * 1 + 0 + 0) (0 : Int)) < (0 : Int)))
                      (Tree.br (decide (u1 > (0 : Int)))
                        (Tree.ret
                          (Ex.ret,
                            St.mk
                              [AV.junk, AV.junk, AV.junk, AV.junk, AV.junk, AV.junk, AV.junk, AV.junk, AV.bool true false, AV.junk, AV.junk, AV.junk, AV.junk, AV.junk, AV.junk, AV.junk, AV.junk, AV.junk, AV.junk, AV.junk, AV.junk, AV.junk,
                                AV.junk, AV.junk, AV.junk, AV.junk, AV.junk, AV.junk, AV.junk, AV.junk, AV.junk, AV.junk, AV.junk, AV.junk, AV.junk, AV.junk, AV.junk, AV.junk, AV.junk, AV.junk, AV.junk, AV.junk, AV.junk, AV.junk, AV.junk,
                                AV.junk, AV.junk, AV.junk, AV.junk, AV.junk, AV.junk, AV.junk, AV.junk, AV.junk, AV.junk, AV.junk, AV.junk, AV.junk, AV.junk, AV.junk, AV.junk, AV.junk, AV.junk, AV.junk, AV.junk, AV.junk, AV.junk, AV.junk,
                                AV.junk, AV.junk, AV.junk, AV.junk, AV.junk, AV.junk, AV.junk, AV.junk, AV.junk, AV.junk, AV.junk, AV.junk, AV.junk, AV.junk, AV.junk, AV.junk, AV.junk, AV.junk, AV.junk, AV.junk, AV.junk, AV.junk, AV.junk,
                                AV.junk, AV.junk, AV.junk, AV.junk, AV.junk, AV.junk, AV.junk, AV.junk]
                              [some (Blk.mk (3) false false true (Data.ints IntKind.i64 ticks))]))
                        (Tree.br (decide (stB R0 R1 R2 T1 T2 Cm Sl Tk u1 u2 (0 : Int) (List.getD ticks (Int.toNat (i : Int) * 1 + 0 + 0) (0 : Int)) > (0 : Int)))
                          (Tree.br (decide (u2 < (0 : Int)))
                            (Tree.ret
                              (Ex.ret,
                                St.mk
                                  [AV.junk, AV.junk, AV.junk, AV.junk, AV.junk, AV.junk, AV.junk, AV.junk, AV.bool true false, AV.junk, AV.junk, AV.junk, AV.junk, AV.junk, AV.junk, AV.junk, AV.junk, AV.junk, AV.junk, AV.junk, AV.junk,
                                    AV.junk, AV.junk, AV.junk, AV.junk, AV.junk, AV.junk, AV.junk, AV.junk, AV.junk, AV.junk, AV.junk, AV.junk, AV.junk, AV.junk, AV.junk, AV.junk, AV.junk, AV.junk, AV.junk, AV.junk, AV.junk, AV.junk, AV.junk,
                                    AV.junk, AV.junk, AV.junk, AV.junk, AV.junk, AV.junk, AV.junk, AV.junk, AV.junk, AV.junk, AV.junk, AV.junk, AV.junk, AV.junk, AV.junk, AV.junk, AV.junk, AV.junk, AV.junk, AV.junk, AV.junk, AV.junk, AV.junk,
                                    AV.junk, AV.junk, AV.junk, AV.junk, AV.junk, AV.junk, AV.junk, AV.junk, AV.junk, AV.junk, AV.junk, AV.junk, AV.junk, AV.junk, AV.junk, AV.junk, AV.junk, AV.junk, AV.junk, AV.junk, AV.junk, AV.junk, AV.junk,
                                    AV.junk, AV.junk, AV.junk, AV.junk, AV.junk, AV.junk, AV.junk, AV.junk, AV.junk]
                                  [some (Blk.mk (3) false false true (Data.ints IntKind.i64 ticks))]))
                            (Tree.br (decide (stB R0 R1 R2 T1 T2 Cm Sl Tk u1 u2 (0 : Int) (List.getD ticks (Int.toNat (i : Int) * 1 + 0 + 0) (0 : Int)) < (0 : Int)))
                              (Tree.br (decide (u2 > (0 : Int)))
                                (Tree.ret
                                  (Ex.ret,
                                    St.mk
                                      [AV.junk, AV.junk, AV.junk, AV.junk, AV.junk, AV.junk, AV.junk, AV.junk, AV.bool true false, AV.junk, AV.junk, AV.junk, AV.junk, AV.junk, AV.junk, AV.junk, AV.junk, AV.junk, AV.junk, AV.junk, AV.junk,
                                        AV.junk, AV.junk, AV.junk, AV.junk, AV.junk, AV.junk, AV.junk, AV.junk, AV.junk, AV.junk, AV.junk, AV.junk, AV.junk, AV.junk, AV.junk, AV.junk, AV.junk, AV.junk, AV.junk, AV.junk, AV.junk, AV.junk,
                                        AV.junk, AV.junk, AV.junk, AV.junk, AV.junk, AV.junk, AV.junk, AV.junk, AV.junk, AV.junk, AV.junk, AV.junk, AV.junk, AV.junk, AV.junk, AV.junk, AV.junk, AV.junk, AV.junk, AV.junk, AV.junk, AV.junk,
                                        AV.junk, AV.junk, AV.junk, AV.junk, AV.junk, AV.junk, AV.junk, AV.junk, AV.junk, AV.junk, AV.junk, AV.junk, AV.junk, AV.junk, AV.junk, AV.junk, AV.junk, AV.junk, AV.junk, AV.junk, AV.junk, AV.junk,
                                        AV.junk, AV.junk, AV.junk, AV.junk, AV.junk, AV.junk, AV.junk, AV.junk, AV.junk, AV.junk, AV.junk, AV.junk]
                                      [some (Blk.mk (3) false false true (Data.ints IntKind.i64 ticks))]))
                                (Tree.ret
                                  (Ex.norm,
                                    St.mk
                                      [AV.junk, AV.int IntKind.i64 false (stA R0 R1 R2 T1 T2 Cm Sl Tk u1 u2 (0 : Int) (List.getD ticks (Int.toNat (i : Int) * 1 + 0 + 0) (0 : Int))),
                                        AV.int IntKind.i64 false (stB R0 R1 R2 T1 T2 Cm Sl Tk u1 u2 (0 : Int) (List.getD ticks (Int.toNat (i : Int) * 1 + 0 + 0) (0 : Int))),
                                        AV.sl zticks (Ref.mk (0) (0) (0) (0)) false (List.length ticks) Cap.any, AV.ptr (Ref.mk (1) (0) (0) (0)), AV.junk, AV.junk, AV.junk,
                                        AV.junk, AV.int IntKind.i64 false (IntKind.wrap IntKind.i64 ((i : Int) + (1 : Int))), AV.junk, AV.junk, AV.junk, AV.junk, AV.junk, AV.junk, AV.junk, AV.junk, AV.junk, AV.junk, AV.junk, AV.junk, AV.junk,
                                        AV.junk, AV.junk, AV.junk, AV.junk, AV.junk, AV.junk, AV.junk, AV.junk, AV.junk, AV.junk, AV.junk, AV.junk, AV.junk, AV.junk, AV.junk, AV.junk, AV.junk, AV.junk, AV.junk, AV.junk, AV.junk, AV.junk,
                                        AV.junk, AV.junk, AV.junk, AV.junk, AV.junk, AV.junk, AV.junk, AV.junk, AV.junk, AV.junk, AV.junk, AV.junk, AV.junk, AV.junk, AV.junk, AV.junk, AV.junk, AV.junk, AV.junk, AV.junk, AV.junk, AV.junk,
                                        AV.junk, AV.junk, AV.junk, AV.junk, AV.junk, AV.junk, AV.junk, AV.junk, AV.junk, AV.junk, AV.junk, AV.junk, AV.junk, AV.junk, AV.junk, AV.junk, AV.junk, AV.junk, AV.junk, AV.junk, AV.junk, AV.junk,
                                        AV.junk, AV.junk, AV.junk, AV.junk, AV.junk, AV.junk, AV.junk, AV.junk, AV.junk, AV.junk]
                                      [some (Blk.mk (3) false false true (Data.ints IntKind.i64 ticks)),
                                        some
                                          (Blk.mk (23) true false false
                                            (Data.cells
                                              [AV.int IntKind.i64 false R0, AV.int IntKind.i64 false R1, AV.int IntKind.i64 false R2, AV.int IntKind.i64 false T1, AV.int IntKind.i64 false T2, AV.int IntKind.i64 false Cm,
                                                AV.int IntKind.i64 false Sl, AV.int IntKind.i64 false Tk]))])))
                              (Tree.ret
                                (Ex.norm,
                                  St.mk
                                    [AV.junk, AV.int IntKind.i64 false (stA R0 R1 R2 T1 T2 Cm Sl Tk u1 u2 (0 : Int) (List.getD ticks (Int.toNat (i : Int) * 1 + 0 + 0) (0 : Int))),
                                      AV.int IntKind.i64 false (stB R0 R1 R2 T1 T2 Cm Sl Tk u1 u2 (0 : Int) (List.getD ticks (Int.toNat (i : Int) * 1 + 0 + 0) (0 : Int))),
                                      AV.sl zticks (Ref.mk (0) (0) (0) (0)) false (List.length ticks) Cap.any, AV.ptr (Ref.mk (1) (0) (0) (0)), AV.junk, AV.junk, AV.junk,
                                      AV.junk, AV.int IntKind.i64 false (IntKind.wrap IntKind.i64 ((i : Int) + (1 : Int))), AV.junk, AV.junk, AV.junk, AV.junk, AV.junk, AV.junk, AV.junk, AV.junk, AV.junk, AV.junk, AV.junk, AV.junk, AV.junk,
                                      AV.junk, AV.junk, AV.junk, AV.junk, AV.junk, AV.junk, AV.junk, AV.junk, AV.junk, AV.junk, AV.junk, AV.junk, AV.junk, AV.junk, AV.junk, AV.junk, AV.junk, AV.junk, AV.junk, AV.junk, AV.junk, AV.junk,
                                      AV.junk, AV.junk, AV.junk, AV.junk, AV.junk, AV.junk, AV.junk, AV.junk, AV.junk, AV.junk, AV.junk, AV.junk, AV.junk, AV.junk, AV.junk, AV.junk, AV.junk, AV.junk, AV.junk, AV.junk, AV.junk, AV.junk,
                                      AV.junk, AV.junk, AV.junk, AV.junk, AV.junk, AV.junk, AV.junk, AV.junk, AV.junk, AV.junk, AV.junk, AV.junk, AV.junk, AV.junk, AV.junk, AV.junk, AV.junk, AV.junk, AV.junk, AV.junk, AV.junk, AV.junk,
                                      AV.junk, AV.junk, AV.junk, AV.junk, AV.junk, AV.junk, AV.junk, AV.junk, AV.junk, AV.junk]
                                    [some (Blk.mk (3) false false true (Data.ints IntKind.i64 ticks)),
                                      some
                                        (Blk.mk (23) true false false
                                          (Data.cells
                                            [AV.int IntKind.i64 false R0, AV.int IntKind.i64 false R1, AV.int IntKind.i64 false R2, AV.int IntKind.i64 false T1, AV.int IntKind.i64 false T2, AV.int IntKind.i64 false Cm,
                                              AV.int IntKind.i64 false Sl, AV.int IntKind.i64 false Tk]))]))))
                          (Tree.br (decide (stB R0 R1 R2 T1 T2 Cm Sl Tk u1 u2 (0 : Int) (List.getD ticks (Int.toNat (i : Int) * 1 + 0 + 0) (0 : Int)) < (0 : Int)))
                            (Tree.br (decide (u2 > (0 : Int)))
                              (Tree.ret
                                (Ex.ret,
                                  St.mk
                                    [AV.junk, AV.junk, AV.junk, AV.junk, AV.junk, AV.junk, AV.junk, AV.junk, AV.bool true false, AV.junk, AV.junk, AV.junk, AV.junk, AV.junk, AV.junk, AV.junk, AV.junk, AV.junk, AV.junk, AV.junk, AV.junk,
                                      AV.junk, AV.junk, AV.junk, AV.junk, AV.junk, AV.junk, AV.junk, AV.junk, AV.junk, AV.junk, AV.junk, AV.junk, AV.junk, AV.junk, AV.junk, AV.junk, AV.junk, AV.junk, AV.junk, AV.junk, AV.junk, AV.junk,
                                      AV.junk, AV.junk, AV.junk, AV.junk, AV.junk, AV.junk, AV.junk, AV.junk, AV.junk, AV.junk, AV.junk, AV.junk, AV.junk, AV.junk, AV.junk, AV.junk, AV.junk, AV.junk, AV.junk, AV.junk, AV.junk, AV.junk,
                                      AV.junk, AV.junk, AV.junk, AV.junk, AV.junk, AV.junk, AV.junk, AV.junk, AV.junk, AV.junk, AV.junk, AV.junk, AV.junk, AV.junk, AV.junk, AV.junk, AV.junk, AV.junk, AV.junk, AV.junk, AV.junk, AV.junk,
                                      AV.junk, AV.junk, AV.junk, AV.junk, AV.junk, AV.junk, AV.junk, AV.junk, AV.junk, AV.junk, AV.junk, AV.junk]
                                    [some (Blk.mk (3) false false true (Data.ints IntKind.i64 ticks))]))
                              (Tree.ret
                                (Ex.norm,
                                  St.mk
                                    [AV.junk, AV.int IntKind.i64 false (stA R0 R1 R2 T1 T2 Cm Sl Tk u1 u2 (0 : Int) (List.getD ticks (Int.toNat (i : Int) * 1 + 0 + 0) (0 : Int))),
                                      AV.int IntKind.i64 false (stB R0 R1 R2 T1 T2 Cm Sl Tk u1 u2 (0 : Int) (List.getD ticks (Int.toNat (i : Int) * 1 + 0 + 0) (0 : Int))),
                                      AV.sl zticks (Ref.mk (0) (0) (0) (0)) false (List.length ticks) Cap.any, AV.ptr (Ref.mk (1) (0) (0) (0)), AV.junk, AV.junk, AV.junk,
                                      AV.junk, AV.int IntKind.i64 false (IntKind.wrap IntKind.i64 ((i : Int) + (1 : Int))), AV.junk, AV.junk, AV.junk, AV.junk, AV.junk, AV.junk, AV.junk, AV.junk, AV.junk, AV.junk, AV.junk, AV.junk, AV.junk,
                                      AV.junk, AV.junk, AV.junk, AV.junk, AV.junk, AV.junk, AV.junk, AV.junk, AV.junk, AV.junk, AV.junk, AV.junk, AV.junk, AV.junk, AV.junk, AV.junk, AV.junk, AV.junk, AV.junk, AV.junk, AV.junk, AV.junk,
                                      AV.junk, AV.junk, AV.junk, AV.junk, AV.junk, AV.junk, AV.junk, AV.junk, AV.junk, AV.junk, AV.junk, AV.junk, AV.junk, AV.junk, AV.junk, AV.junk, AV.junk, AV.junk, AV.junk, AV.junk, AV.junk, AV.junk,
                                      AV.junk, AV.junk, AV.junk, AV.junk, AV.junk, AV.junk, AV.junk, AV.junk, AV.junk, AV.junk, AV.junk, AV.junk, AV.junk, AV.junk, AV.junk, AV.junk, AV.junk, AV.junk, AV.junk, AV.junk, AV.junk, AV.junk,
                                      AV.junk, AV.junk, AV.junk, AV.junk, AV.junk, AV.junk, AV.junk, AV.junk, AV.junk, AV.junk]
                                    [some (Blk.mk (3) false false true (Data.ints IntKind.i64 ticks)),
                                      some
                                        (Blk.mk (23) true false false
                                          (Data.cells
                                            [AV.int IntKind.i64 false R0, AV.int IntKind.i64 false R1, AV.int IntKind.i64 false R2, AV.int IntKind.i64 false T1, AV.int IntKind.i64 false T2, AV.int IntKind.i64 false Cm,
                                              AV.int IntKind.i64 false Sl, AV.int IntKind.i64 false Tk]))])))
                            (Tree.ret
                              (Ex.norm,
                                St.mk
                                  [AV.junk, AV.int IntKind.i64 false (stA R0 R1 R2 T1 T2 Cm Sl Tk u1 u2 (0 : Int) (List.getD ticks (Int.toNat (i : Int) * 1 + 0 + 0) (0 : Int))),
                                    AV.int IntKind.i64 false (stB R0 R1 R2 T1 T2 Cm Sl Tk u1 u2 (0 : Int) (List.getD ticks (Int.toNat (i : Int) * 1 + 0 + 0) (0 : Int))),
                                    AV.sl zticks (Ref.mk (0) (0) (0) (0)) false (List.length ticks) Cap.any, AV.ptr (Ref.mk (1) (0) (0) (0)), AV.junk, AV.junk, AV.junk,
                                    AV.junk, AV.int IntKind.i64 false (IntKind.wrap IntKind.i64 ((i : Int) + (1 : Int))), AV.junk, AV.junk, AV.junk, AV.junk, AV.junk, AV.junk, AV.junk, AV.junk, AV.junk, AV.junk, AV.junk, AV.junk, AV.junk,
                                    AV.junk, AV.junk, AV.junk, AV.junk, AV.junk, AV.junk, AV.junk, AV.junk, AV.junk, AV.junk, AV.junk, AV.junk, AV.junk, AV.junk, AV.junk, AV.junk, AV.junk, AV.junk, AV.junk, AV.junk, AV.junk, AV.junk, AV.junk,
                                    AV.junk, AV.junk, AV.junk, AV.junk, AV.junk, AV.junk, AV.junk, AV.junk, AV.junk, AV.junk, AV.junk, AV.junk, AV.junk, AV.junk, AV.junk, AV.junk, AV.junk, AV.junk, AV.junk, AV.junk, AV.junk, AV.junk, AV.junk,
                                    AV.junk, AV.junk, AV.junk, AV.junk, AV.junk, AV.junk, AV.junk, AV.junk, AV.junk, AV.junk, AV.junk, AV.junk, AV.junk, AV.junk, AV.junk, AV.junk, AV.junk, AV.junk, AV.junk, AV.junk, AV.junk, AV.junk, AV.junk,
                                    AV.junk, AV.junk, AV.junk, AV.junk, AV.junk, AV.junk, AV.junk]
                                  [some (Blk.mk (3) false false true (Data.ints IntKind.i64 ticks)),
                                    some
                                      (Blk.mk (23) true false false
                                        (Data.cells
                                          [AV.int IntKind.i64 false R0, AV.int IntKind.i64 false R1, AV.int IntKind.i64 false R2, AV.int IntKind.i64 false T1, AV.int IntKind.i64 false T2, AV.int IntKind.i64 false Cm,
                                            AV.int IntKind.i64 false Sl, AV.int IntKind.i64 false Tk]))])))))
                      (Tree.br (decide (stB R0 R1 R2 T1 T2 Cm Sl Tk u1 u2 (0 : Int) (List.getD ticks (Int.toNat (i : Int) * 1 + 0 + 0) (0 : Int)) > (0 : Int)))
                        (Tree.br (decide (u2 < (0 : Int)))
                          (Tree.ret
                            (Ex.ret,
                              St.mk
                                [AV.junk, AV.junk, AV.junk, AV.junk, AV.junk, AV.junk, AV.junk, AV.junk, AV.bool true false, AV.junk, AV.junk, AV.junk, AV.junk, AV.junk, AV.junk, AV.junk, AV.junk, AV.junk, AV.junk, AV.junk, AV.junk, AV.junk,
                                  AV.junk, AV.junk, AV.junk, AV.junk, AV.junk, AV.junk, AV.junk, AV.junk, AV.junk, AV.junk, AV.junk, AV.junk, AV.junk, AV.junk, AV.junk, AV.junk, AV.junk, AV.junk, AV.junk, AV.junk, AV.junk, AV.junk, AV.junk,
                                  AV.junk, AV.junk, AV.junk, AV.junk, AV.junk, AV.junk, AV.junk, AV.junk, AV.junk, AV.junk, AV.junk, AV.junk, AV.junk, AV.junk, AV.junk, AV.junk, AV.junk, AV.junk, AV.junk, AV.junk, AV.junk, AV.junk, AV.junk,
                                  AV.junk, AV.junk, AV.junk, AV.junk, AV.junk, AV.junk, AV.junk, AV.junk, AV.junk, AV.junk, AV.junk, AV.junk, AV.junk, AV.junk, AV.junk, AV.junk, AV.junk, AV.junk, AV.junk, AV.junk, AV.junk, AV.junk, AV.junk,
                                  AV.junk, AV.junk, AV.junk, AV.junk, AV.junk, AV.junk, AV.junk, AV.junk]
                                [some (Blk.mk (3) false false true (Data.ints IntKind.i64 ticks))]))
                          (Tree.br (decide (stB R0 R1 R2 T1 T2 Cm Sl Tk u1 u2 (0 : Int) (List.getD ticks (Int.toNat (i : Int) * 1 + 0 + 0) (0 : Int)) < (0 : Int)))
                            (Tree.br (decide (u2 > (0 : Int)))
                              (Tree.ret
                                (Ex.ret,
                                  St.mk
                                    [AV.junk, AV.junk, AV.junk, AV.junk, AV.junk, AV.junk, AV.junk, AV.junk, AV.bool true false, AV.junk, AV.junk, AV.junk, AV.junk, AV.junk, AV.junk, AV.junk, AV.junk, AV.junk, AV.junk, AV.junk, AV.junk,
                                      AV.junk, AV.junk, AV.junk, AV.junk, AV.junk, AV.junk, AV.junk, AV.junk, AV.junk, AV.junk, AV.junk, AV.junk, AV.junk, AV.junk, AV.junk, AV.junk, AV.junk, AV.junk, AV.junk, AV.junk, AV.junk, AV.junk,
                                      AV.junk, AV.junk, AV.junk, AV.junk, AV.junk, AV.junk, AV.junk, AV.junk, AV.junk, AV.junk, AV.junk, AV.junk, AV.junk, AV.junk, AV.junk, AV.junk, AV.junk, AV.junk, AV.junk, AV.junk, AV.junk, AV.junk,
                                      AV.junk, AV.junk, AV.junk, AV.junk, AV.junk, AV.junk, AV.junk, AV.junk, AV.junk, AV.junk, AV.junk, AV.junk, AV.junk, AV.junk, AV.junk, AV.junk, AV.junk, AV.junk, AV.junk, AV.junk, AV.junk, AV.junk,
                                      AV.junk, AV.junk, AV.junk, AV.junk, AV.junk, AV.junk, AV.junk, AV.junk, AV.junk, AV.junk, AV.junk, AV.junk]
                                    [some (Blk.mk (3) false false true (Data.ints IntKind.i64 ticks))]))
                              (Tree.ret
                                (Ex.norm,
                                  St.mk
                                    [AV.junk, AV.int IntKind.i64 false (stA R0 R1 R2 T1 T2 Cm Sl Tk u1 u2 (0 : Int) (List.getD ticks (Int.toNat (i : Int) * 1 + 0 + 0) (0 : Int))),
                                      AV.int IntKind.i64 false (stB R0 R1 R2 T1 T2 Cm Sl Tk u1 u2 (0 : Int) (List.getD ticks (Int.toNat (i : Int) * 1 + 0 + 0) (0 : Int))),
                                      AV.sl zticks (Ref.mk (0) (0) (0) (0)) false (List.length ticks) Cap.any, AV.ptr (Ref.mk (1) (0) (0) (0)), AV.junk, AV.junk, AV.junk,
                                      AV.junk, AV.int IntKind.i64 false (IntKind.wrap IntKind.i64 ((i : Int) + (1 : Int))), AV.junk, AV.junk, AV.junk, AV.junk, AV.junk, AV.junk, AV.junk, AV.junk, AV.junk, AV.junk, AV.junk, AV.junk, AV.junk,
                                      AV.junk, AV.junk, AV.junk, AV.junk, AV.junk, AV.junk, AV.junk, AV.junk, AV.junk, AV.junk, AV.junk, AV.junk, AV.junk, AV.junk, AV.junk, AV.junk, AV.junk, AV.junk, AV.junk, AV.junk, AV.junk, AV.junk,
                                      AV.junk, AV.junk, AV.junk, AV.junk, AV.junk, AV.junk, AV.junk, AV.junk, AV.junk, AV.junk, AV.junk, AV.junk, AV.junk, AV.junk, AV.junk, AV.junk, AV.junk, AV.junk, AV.junk, AV.junk, AV.junk, AV.junk,
                                      AV.junk, AV.junk, AV.junk, AV.junk, AV.junk, AV.junk, AV.junk, AV.junk, AV.junk, AV.junk, AV.junk, AV.junk, AV.junk, AV.junk, AV.junk, AV.junk, AV.junk, AV.junk, AV.junk, AV.junk, AV.junk, AV.junk,
                                      AV.junk, AV.junk, AV.junk, AV.junk, AV.junk, AV.junk, AV.junk, AV.junk, AV.junk, AV.junk]
                                    [some (Blk.mk (3) false false true (Data.ints IntKind.i64 ticks)),
                                      some
                                        (Blk.mk (23) true false false
                                          (Data.cells
                                            [AV.int IntKind.i64 false R0, AV.int IntKind.i64 false R1, AV.int IntKind.i64 false R2, AV.int IntKind.i64 false T1, AV.int IntKind.i64 false T2, AV.int IntKind.i64 false Cm,
                                              AV.int IntKind.i64 false Sl, AV.int IntKind.i64 false Tk]))])))
                            (Tree.ret
                              (Ex.norm,
                                St.mk
                                  [AV.junk, AV.int IntKind.i64 false (stA R0 R1 R2 T1 T2 Cm Sl Tk u1 u2 (0 : Int) (List.getD ticks (Int.toNat (i : Int) * 1 + 0 + 0) (0 : Int))),
                                    AV.int IntKind.i64 false (stB R0 R1 R2 T1 T2 Cm Sl Tk u1 u2 (0 : Int) (List.getD ticks (Int.toNat (i : Int) * 1 + 0 + 0) (0 : Int))),
                                    AV.sl zticks (Ref.mk (0) (0) (0) (0)) false (List.length ticks) Cap.any, AV.ptr (Ref.mk (1) (0) (0) (0)), AV.junk, AV.junk, AV.junk,
                                    AV.junk, AV.int IntKind.i64 false (IntKind.wrap IntKind.i64 ((i : Int) + (1 : Int))), AV.junk, AV.junk, AV.junk, AV.junk, AV.junk, AV.junk, AV.junk, AV.junk, AV.junk, AV.junk, AV.junk, AV.junk, AV.junk,
                                    AV.junk, AV.junk, AV.junk, AV.junk, AV.junk, AV.junk, AV.junk, AV.junk, AV.junk, AV.junk, AV.junk, AV.junk, AV.junk, AV.junk, AV.junk, AV.junk, AV.junk, AV.junk, AV.junk, AV.junk, AV.junk, AV.junk, AV.junk,
                                    AV.junk, AV.junk, AV.junk, AV.junk, AV.junk, AV.junk, AV.junk, AV.junk, AV.junk, AV.junk, AV.junk, AV.junk, AV.junk, AV.junk, AV.junk, AV.junk, AV.junk, AV.junk, AV.junk, AV.junk, AV.junk, AV.junk, AV.junk,
                                    AV.junk, AV.junk, AV.junk, AV.junk, AV.junk, AV.junk, AV.junk, AV.junk, AV.junk, AV.junk, AV.junk, AV.junk, AV.junk, AV.junk, AV.junk, AV.junk, AV.junk, AV.junk, AV.junk, AV.junk, AV.junk, AV.junk, AV.junk,
                                    AV.junk, AV.junk, AV.junk, AV.junk, AV.junk, AV.junk, AV.junk]
                                  [some (Blk.mk (3) false false true (Data.ints IntKind.i64 ticks)),
                                    some
                                      (Blk.mk (23) true false false
                                        (Data.cells
                                          [AV.int IntKind.i64 false R0, AV.int IntKind.i64 false R1, AV.int IntKind.i64 false R2, AV.int IntKind.i64 false T1, AV.int IntKind.i64 false T2, AV.int IntKind.i64 false Cm,
                                            AV.int IntKind.i64 false Sl, AV.int IntKind.i64 false Tk]))]))))
                        (Tree.br (decide (stB R0 R1 R2 T1 T2 Cm Sl Tk u1 u2 (0 : Int) (List.getD ticks (Int.toNat (i : Int) * 1 + 0 + 0) (0 : Int)) < (0 : Int)))
                          (Tree.br (decide (u2 > (0 : Int)))
                            (Tree.ret
                              (Ex.ret,
                                St.mk
                                  [AV.junk, AV.junk, AV.junk, AV.junk, AV.junk, AV.junk, AV.junk, AV.junk, AV.bool true false, AV.junk, AV.junk, AV.junk, AV.junk, AV.junk, AV.junk, AV.junk, AV.junk, AV.junk, AV.junk, AV.junk, AV.junk,
                                    AV.junk, AV.junk, AV.junk, AV.junk, AV.junk, AV.junk, AV.junk, AV.junk, AV.junk, AV.junk, AV.junk, AV.junk, AV.junk, AV.junk, AV.junk, AV.junk, AV.junk, AV.junk, AV.junk, AV.junk, AV.junk, AV.junk, AV.junk,
                                    AV.junk, AV.junk, AV.junk, AV.junk, AV.junk, AV.junk, AV.junk, AV.junk, AV.junk, AV.junk, AV.junk, AV.junk, AV.junk, AV.junk, AV.junk, AV.junk, AV.junk, AV.junk, AV.junk, AV.junk, AV.junk, AV.junk, AV.junk,
                                    AV.junk, AV.junk, AV.junk, AV.junk, AV.junk, AV.junk, AV.junk, AV.junk, AV.junk, AV.junk, AV.junk, AV.junk, AV.junk, AV.junk, AV.junk, AV.junk, AV.junk, AV.junk, AV.junk, AV.junk, AV.junk, AV.junk, AV.junk,
                                    AV.junk, AV.junk, AV.junk, AV.junk, AV.junk, AV.junk, AV.junk, AV.junk, AV.junk]
                                  [some (Blk.mk (3) false false true (Data.ints IntKind.i64 ticks))]))
                            (Tree.ret
                              (Ex.norm,
                                St.mk
                                  [AV.junk, AV.int IntKind.i64 false (stA R0 R1 R2 T1 T2 Cm Sl Tk u1 u2 (0 : Int) (List.getD ticks (Int.toNat (i : Int) * 1 + 0 + 0) (0 : Int))),
                                    AV.int IntKind.i64 false (stB R0 R1 R2 T1 T2 Cm Sl Tk u1 u2 (0 : Int) (List.getD ticks (Int.toNat (i : Int) * 1 + 0 + 0) (0 : Int))),
                                    AV.sl zticks (Ref.mk (0) (0) (0) (0)) false (List.length ticks) Cap.any, AV.ptr (Ref.mk (1) (0) (0) (0)), AV.junk, AV.junk, AV.junk,
                                    AV.junk, AV.int IntKind.i64 false (IntKind.wrap IntKind.i64 ((i : Int) + (1 : Int))), AV.junk, AV.junk, AV.junk, AV.junk, AV.junk, AV.junk, AV.junk, AV.junk, AV.junk, AV.junk, AV.junk, AV.junk, AV.junk,
                                    AV.junk, AV.junk, AV.junk, AV.junk, AV.junk, AV.junk, AV.junk, AV.junk, AV.junk, AV.junk, AV.junk, AV.junk, AV.junk, AV.junk, AV.junk, AV.junk, AV.junk, AV.junk, AV.junk, AV.junk, AV.junk, AV.junk, AV.junk,
                                    AV.junk, AV.junk, AV.junk, AV.junk, AV.junk, AV.junk, AV.junk, AV.junk, AV.junk, AV.junk, AV.junk, AV.junk, AV.junk, AV.junk, AV.junk, AV.junk, AV.junk, AV.junk, AV.junk, AV.junk, AV.junk, AV.junk, AV.junk,
                                    AV.junk, AV.junk, AV.junk, AV.junk, AV.junk, AV.junk, AV.junk, AV.junk, AV.junk, AV.junk, AV.junk, AV.junk, AV.junk, AV.junk, AV.junk, AV.junk, AV.junk, AV.junk, AV.junk, AV.junk, AV.junk, AV.junk, AV.junk,
                                    AV.junk, AV.junk, AV.junk, AV.junk, AV.junk, AV.junk, AV.junk]
                                  [some (Blk.mk (3) false false true (Data.ints IntKind.i64 ticks)),
                                    some
                                      (Blk.mk (23) true false false
                                        (Data.cells
                                          [AV.int IntKind.i64 false R0, AV.int IntKind.i64 false R1, AV.int IntKind.i64 false R2, AV.int IntKind.i64 false T1, AV.int IntKind.i64 false T2, AV.int IntKind.i64 false Cm,
                                            AV.int IntKind.i64 false Sl, AV.int IntKind.i64 false Tk]))])))
                          (Tree.ret
                            (Ex.norm,
                              St.mk
                                [AV.junk, AV.int IntKind.i64 false (stA R0 R1 R2 T1 T2 Cm Sl Tk u1 u2 (0 : Int) (List.getD ticks (Int.toNat (i : Int) * 1 + 0 + 0) (0 : Int))),
                                  AV.int IntKind.i64 false (stB R0 R1 R2 T1 T2 Cm Sl Tk u1 u2 (0 : Int) (List.getD ticks (Int.toNat (i : Int) * 1 + 0 + 0) (0 : Int))),
                                  AV.sl zticks (Ref.mk (0) (0) (0) (0)) false (List.length ticks) Cap.any, AV.ptr (Ref.mk (1) (0) (0) (0)), AV.junk, AV.junk, AV.junk,
                                  AV.junk, AV.int IntKind.i64 false (IntKind.wrap IntKind.i64 ((i : Int) + (1 : Int))), AV.junk, AV.junk, AV.junk, AV.junk, AV.junk, AV.junk, AV.junk, AV.junk, AV.junk, AV.junk, AV.junk, AV.junk, AV.junk, AV.junk,
                                  AV.junk, AV.junk, AV.junk, AV.junk, AV.junk, AV.junk, AV.junk, AV.junk, AV.junk, AV.junk, AV.junk, AV.junk, AV.junk, AV.junk, AV.junk, AV.junk, AV.junk, AV.junk, AV.junk, AV.junk, AV.junk, AV.junk, AV.junk,
                                  AV.junk, AV.junk, AV.junk, AV.junk, AV.junk, AV.junk, AV.junk, AV.junk, AV.junk, AV.junk, AV.junk, AV.junk, AV.junk, AV.junk, AV.junk, AV.junk, AV.junk, AV.junk, AV.junk, AV.junk, AV.junk, AV.junk, AV.junk,
                                  AV.junk, AV.junk, AV.junk, AV.junk, AV.junk, AV.junk, AV.junk, AV.junk, AV.junk, AV.junk, AV.junk, AV.junk, AV.junk, AV.junk, AV.junk, AV.junk, AV.junk, AV.junk, AV.junk, AV.junk, AV.junk, AV.junk, AV.junk,
                                  AV.junk, AV.junk, AV.junk, AV.junk, AV.junk, AV.junk]
                                [some (Blk.mk (3) false false true (Data.ints IntKind.i64 ticks)),
                                  some
                                    (Blk.mk (23) true false false
                                      (Data.cells
                                        [AV.int IntKind.i64 false R0, AV.int IntKind.i64 false R1, AV.int IntKind.i64 false R2, AV.int IntKind.i64 false T1, AV.int IntKind.i64 false T2, AV.int IntKind.i64 false Cm,
                                          AV.int IntKind.i64 false Sl, AV.int IntKind.i64 false Tk]))]))))))))))
          Tree.fail)
        Tree.fail)
      (Tree.ret
        (Ex.exit (0),
          St.mk
            [AV.junk, AV.junk, AV.junk, AV.junk, AV.junk, AV.junk, AV.junk, AV.junk, AV.junk, AV.junk, AV.junk, AV.junk, AV.junk, AV.junk, AV.junk, AV.junk, AV.junk, AV.junk, AV.junk, AV.junk, AV.junk, AV.junk, AV.junk, AV.junk, AV.junk,
              AV.junk, AV.junk, AV.junk, AV.junk, AV.junk, AV.junk, AV.junk, AV.junk, AV.junk, AV.junk, AV.junk, AV.junk, AV.junk, AV.junk, AV.junk, AV.junk, AV.junk, AV.junk, AV.junk, AV.junk, AV.junk, AV.junk, AV.junk, AV.junk, AV.junk,
              AV.junk, AV.junk, AV.junk, AV.junk, AV.junk, AV.junk, AV.junk, AV.junk, AV.junk, AV.junk, AV.junk, AV.junk, AV.junk, AV.junk, AV.junk, AV.junk, AV.junk, AV.junk, AV.junk, AV.junk, AV.junk, AV.junk, AV.junk, AV.junk, AV.junk,
              AV.junk, AV.junk, AV.junk, AV.junk, AV.junk, AV.junk, AV.junk, AV.junk, AV.junk, AV.junk, AV.junk, AV.junk, AV.junk, AV.junk, AV.junk, AV.junk, AV.junk, AV.junk, AV.junk, AV.junk, AV.junk, AV.junk, AV.junk, AV.junk]
            [some (Blk.mk (3) false false true (Data.ints IntKind.i64 ticks))])))
    (Tree.ret
      (Ex.exit (0),
        St.mk
          [AV.junk, AV.junk, AV.junk, AV.junk, AV.junk, AV.junk, AV.junk, AV.junk, AV.junk, AV.junk, AV.junk, AV.junk, AV.junk, AV.junk, AV.junk, AV.junk, AV.junk, AV.junk, AV.junk, AV.junk, AV.junk, AV.junk, AV.junk, AV.junk, AV.junk,
            AV.junk, AV.junk, AV.junk, AV.junk, AV.junk, AV.junk, AV.junk, AV.junk, AV.junk, AV.junk, AV.junk, AV.junk, AV.junk, AV.junk, AV.junk, AV.junk, AV.junk, AV.junk, AV.junk, AV.junk, AV.junk, AV.junk, AV.junk, AV.junk, AV.junk,
            AV.junk, AV.junk, AV.junk, AV.junk, AV.junk, AV.junk, AV.junk, AV.junk, AV.junk, AV.junk, AV.junk, AV.junk, AV.junk, AV.junk, AV.junk, AV.junk, AV.junk, AV.junk, AV.junk, AV.junk, AV.junk, AV.junk, AV.junk, AV.junk, AV.junk,
            AV.junk, AV.junk, AV.junk, AV.junk, AV.junk, AV.junk, AV.junk, AV.junk, AV.junk, AV.junk, AV.junk, AV.junk, AV.junk, AV.junk, AV.junk, AV.junk, AV.junk, AV.junk, AV.junk, AV.junk, AV.junk, AV.junk, AV.junk, AV.junk]
          [some (Blk.mk (3) false false true (Data.ints IntKind.i64 ticks))])) := by kernel_rfl
set_option maxRecDepth 100000 in
theorem stepModelCalms_0 (R0 : Int) (R1 : Int) (R2 : Int) (T1 : Int) (T2 : Int) (Cm : Int) (Sl : Int) (Tk : Int) (u1 : Int) (u2 : Int) (zticks : Bool) (ticks : List Int) (i : Nat) (ex : Ex) (r : St) (hok : okModelCalms_0 ⟨R0, R1, R2, T1, T2, Cm, Sl, Tk, u1, u2, zticks, ticks, i⟩) (hr : (outModelCalms_0 ⟨R0, R1, R2, T1, T2, Cm, Sl, Tk, u1, u2, zticks, ticks, i⟩).runs (ex, r)) : (Tree.br (decide ((i : Int) < ((List.length ticks) : Int)))
    (Tree.br (decide ((i : Int) < (60 : Int)))
      (Tree.br (!zticks && decide ((0 : Int) ≤ (i : Int) ∧ (i : Int) < ((List.length ticks) : Int)))
        (Tree.br (decide (Int.toNat (i : Int) * 1 + 0 + 1 ≤ List.length ticks))
          (Tree.chk
            ((True ∧ True ∧ True ∧ True ∧ True ∧ True) ∧
              (-9223372036854775808 : Int) ≤ R0 ∧
                R0 ≤ (9223372036854775807 : Int) ∧
                  (-9223372036854775808 : Int) ≤ R1 ∧
                    R1 ≤ (9223372036854775807 : Int) ∧
                      (-9223372036854775808 : Int) ≤ R2 ∧
                        R2 ≤ (9223372036854775807 : Int) ∧
                          (-9223372036854775808 : Int) ≤ T1 ∧
                            T1 ≤ (9223372036854775807 : Int) ∧
                              (-9223372036854775808 : Int) ≤ T2 ∧
                                T2 ≤ (9223372036854775807 : Int) ∧
                                  (-9223372036854775808 : Int) ≤ Cm ∧
                                    Cm ≤ (9223372036854775807 : Int) ∧
                                      (-9223372036854775808 : Int) ≤ Sl ∧
                                        Sl ≤ (9223372036854775807 : Int) ∧
                                          (-9223372036854775808 : Int) ≤ Tk ∧
                                            Tk ≤ (9223372036854775807 : Int) ∧
                                              (-9223372036854775808 : Int) ≤ u1 ∧
                                                u1 ≤ (9223372036854775807 : Int) ∧
                                                  (-9223372036854775808 : Int) ≤ u2 ∧
                                                    u2 ≤ (9223372036854775807 : Int) ∧
                                                      (-9223372036854775808 : Int) ≤ (0 : Int) ∧
                                                        (0 : Int) ≤ (9223372036854775807 : Int) ∧
                                                          (-9223372036854775808 : Int) ≤ List.getD ticks (Int.toNat (i : Int) * 1 + 0 + 0) (0 : Int) ∧
                                                            List.getD ticks (Int.toNat (i : Int) * 1 + 0 + 0) (0 : Int) ≤ (9223372036854775807 : Int))
            (Tree.br (stE R0 R1 R2 T1 T2 Cm Sl Tk u1 u2 (0 : Int) (List.getD ticks (Int.toNat (i : Int) * 1 + 0 + 0) (0 : Int)) != (0 : Int))
              (Tree.br (stA R0 R1 R2 T1 T2 Cm Sl Tk u1 u2 (0 : Int) (List.getD ticks (Int.toNat (i : Int) * 1 + 0 + 0) (0 : Int)) == (0 : Int))
                (Tree.ret
                  (Ex.ret,
                    St.mk
                      [AV.junk, AV.junk, AV.junk, AV.junk, AV.junk, AV.junk, AV.junk, AV.junk,
                        AV.bool false (stB R0 R1 R2 T1 T2 Cm Sl Tk u1 u2 (0 : Int) (List.getD ticks (Int.toNat (i : Int) * 1 + 0 + 0) (0 : Int)) == (0 : Int)), AV.junk, AV.junk, AV.junk,
                        AV.junk, AV.junk, AV.junk, AV.junk, AV.junk, AV.junk, AV.junk, AV.junk, AV.junk, AV.junk, AV.junk, AV.junk, AV.junk, AV.junk, AV.junk, AV.junk, AV.junk, AV.junk, AV.junk, AV.junk, AV.junk, AV.junk, AV.junk, AV.junk,
                        AV.junk, AV.junk, AV.junk, AV.junk, AV.junk, AV.junk, AV.junk, AV.junk, AV.junk, AV.junk, AV.junk, AV.junk, AV.junk, AV.junk, AV.junk, AV.junk, AV.junk, AV.junk, AV.junk, AV.junk, AV.junk, AV.junk, AV.junk, AV.junk,
                        AV.junk, AV.junk, AV.junk, AV.junk, AV.junk, AV.junk, AV.junk, AV.junk, AV.junk, AV.junk, AV.junk, AV.junk, AV.junk, AV.junk, AV.junk, AV.junk, AV.junk, AV.junk, AV.junk, AV.junk, AV.junk, AV.junk, AV.junk, AV.junk,
                        AV.junk, AV.junk, AV.junk, AV.junk, AV.junk, AV.junk, AV.junk, AV.junk, AV.junk, AV.junk, AV.junk, AV.junk, AV.junk, AV.junk, AV.junk]
                      [some (Blk.mk (3) false false true (Data.ints IntKind.i64 ticks))]))
                (Tree.ret
                  (Ex.ret,
                    St.mk
                      [AV.junk, AV.junk, AV.junk, AV.junk, AV.junk, AV.junk, AV.junk, AV.junk, AV.bool true false, AV.junk, AV.junk, AV.junk, AV.junk, AV.junk, AV.junk, AV.junk, AV.junk, AV.junk, AV.junk, AV.junk, AV.junk, AV.junk, AV.junk,
                        AV.junk, AV.junk, AV.junk, AV.junk, AV.junk, AV.junk, AV.junk, AV.junk, AV.junk, AV.junk, AV.junk, AV.junk, AV.junk, AV.junk, AV.junk, AV.junk, AV.junk, AV.junk, AV.junk, AV.junk, AV.junk, AV.junk, AV.junk, AV.junk,
                        AV.junk, AV.junk, AV.junk, AV.junk, AV.junk, AV.junk, AV.junk, AV.junk, AV.junk, AV.junk, AV.junk, AV.junk, AV.junk, AV.junk, AV.junk, AV.junk, AV.junk, AV.junk, AV.junk, AV.junk, AV.junk, AV.junk, AV.junk, AV.junk,
                        AV.junk, AV.junk, AV.junk, AV.junk, AV.junk, AV.junk, AV.junk, AV.junk, AV.junk, AV.junk, AV.junk, AV.junk, AV.junk, AV.junk, AV.junk, AV.junk, AV.junk, AV.junk, AV.junk, AV.junk, AV.junk, AV.junk, AV.junk, AV.junk,
                        AV.junk, AV.junk, AV.junk, AV.junk]
                      [some (Blk.mk (3) false false true (Data.ints IntKind.i64 ticks))])))
              (Tree.br
                (decide
                  ((if
                        IntKind.wrap IntKind.i64 ((0 : Int) - stA R0 R1 R2 T1 T2 Cm Sl Tk u1 u2 (0 : Int) (List.getD ticks (Int.toNat (i : Int) * 1 + 0 + 0) (0 : Int))) >
                          stA R0 R1 R2 T1 T2 Cm Sl Tk u1 u2 (0 : Int) (List.getD ticks (Int.toNat (i : Int) * 1 + 0 + 0) (0 : Int)) then
                      IntKind.wrap IntKind.i64 ((0 : Int) - stA R0 R1 R2 T1 T2 Cm Sl Tk u1 u2 (0 : Int) (List.getD ticks (Int.toNat (i : Int) * 1 + 0 + 0) (0 : Int)))
                    else stA R0 R1 R2 T1 T2 Cm Sl Tk u1 u2 (0 : Int) (List.getD ticks (Int.toNat (i : Int) * 1 + 0 + 0) (0 : Int))) >
                    if IntKind.wrap IntKind.i64 ((0 : Int) - u1) > u1 then IntKind.wrap IntKind.i64 ((0 : Int) - u1) else u1))
                (Tree.ret
                  (Ex.ret,
                    St.mk
                      [AV.junk, AV.junk, AV.junk, AV.junk, AV.junk, AV.junk, AV.junk, AV.junk, AV.bool true false, AV.junk, AV.junk, AV.junk, AV.junk, AV.junk, AV.junk, AV.junk, AV.junk, AV.junk, AV.junk, AV.junk, AV.junk, AV.junk, AV.junk,
                        AV.junk, AV.junk, AV.junk, AV.junk, AV.junk, AV.junk, AV.junk, AV.junk, AV.junk, AV.junk, AV.junk, AV.junk, AV.junk, AV.junk, AV.junk, AV.junk, AV.junk, AV.junk, AV.junk, AV.junk, AV.junk, AV.junk, AV.junk, AV.junk,
                        AV.junk, AV.junk, AV.junk, AV.junk, AV.junk, AV.junk, AV.junk, AV.junk, AV.junk, AV.junk, AV.junk, AV.junk, AV.junk, AV.junk, AV.junk, AV.junk, AV.junk, AV.junk, AV.junk, AV.junk, AV.junk, AV.junk, AV.junk, AV.junk,
                        AV.junk, AV.junk, AV.junk, AV.junk, AV.junk, AV.junk, AV.junk, AV.junk, AV.junk, AV.junk, AV.junk, AV.junk, AV.junk, AV.junk, AV.junk, AV.junk, AV.junk, AV.junk, AV.junk, AV.junk, AV.junk, AV.junk, AV.junk, AV.junk,
                        AV.junk, AV.junk, AV.junk, AV.junk]
                      [some (Blk.mk (3) false false true (Data.ints IntKind.i64 ticks))]))
                (Tree.br
                  (decide
                    ((if
                          IntKind.wrap IntKind.i64 ((0 : Int) - stB R0 R1 R2 T1 T2 Cm Sl Tk u1 u2 (0 : Int) (List.getD ticks (Int.toNat (i : Int) * 1 + 0 + 0) (0 : Int))) >
                            stB R0 R1 R2 T1 T2 Cm Sl Tk u1 u2 (0 : Int) (List.getD ticks (Int.toNat (i : Int) * 1 + 0 + 0) (0 : Int)) then
                        IntKind.wrap IntKind.i64 ((0 : Int) - stB R0 R1 R2 T1 T2 Cm Sl Tk u1 u2 (0 : Int) (List.getD ticks (Int.toNat (i : Int) * 1 + 0 + 0) (0 : Int)))
                      else stB R0 R1 R2 T1 T2 Cm Sl Tk u1 u2 (0 : Int) (List.getD ticks (Int.toNat (i : Int) * 1 + 0 + 0) (0 : Int))) >
                      if IntKind.wrap IntKind.i64 ((0 : Int) - u2) > u2 then IntKind.wrap IntKind.i64 ((0 : Int) - u2) else u2))
                  (Tree.ret
                    (Ex.ret,
                      St.mk
                        [AV.junk, AV.junk, AV.junk, AV.junk, AV.junk, AV.junk, AV.junk, AV.junk, AV.bool true false, AV.junk, AV.junk, AV.junk, AV.junk, AV.junk, AV.junk, AV.junk, AV.junk, AV.junk, AV.junk, AV.junk, AV.junk, AV.junk, AV.junk,
                          AV.junk, AV.junk, AV.junk, AV.junk, AV.junk, AV.junk, AV.junk, AV.junk, AV.junk, AV.junk, AV.junk, AV.junk, AV.junk, AV.junk, AV.junk, AV.junk, AV.junk, AV.junk, AV.junk, AV.junk, AV.junk, AV.junk, AV.junk, AV.junk,
                          AV.junk, AV.junk, AV.junk, AV.junk, AV.junk, AV.junk, AV.junk, AV.junk, AV.junk, AV.junk, AV.junk, AV.junk, AV.junk, AV.junk, AV.junk, AV.junk, AV.junk, AV.junk, AV.junk, AV.junk, AV.junk, AV.junk, AV.junk, AV.junk,
                          AV.junk, AV.junk, AV.junk, AV.junk, AV.junk, AV.junk, AV.junk, AV.junk, AV.junk, AV.junk, AV.junk, AV.junk, AV.junk, AV.junk, AV.junk, AV.junk, AV.junk, AV.junk, AV.junk, AV.junk, AV.junk, AV.junk, AV.junk, AV.junk,
                          AV.junk, AV.junk, AV.junk, AV.junk]
                        [some (Blk.mk (3) false false true (Data.ints IntKind.i64 ticks))]))
                  (Tree.br (decide (stA R0 R1 R2 T1 T2 Cm Sl Tk u1 u2 (0 : Int) (List.getD ticks (Int.toNat (i : Int) * 1 + 0 + 0) (0 : Int)) > (0 : Int)))
                    (Tree.br (decide (u1 < (0 : Int)))
                      (Tree.ret
                        (Ex.ret,
                          St.mk
                            [AV.junk, AV.junk, AV.junk, AV.junk, AV.junk, AV.junk, AV.junk, AV.junk, AV.bool true false, AV.junk, AV.junk, AV.junk, AV.junk, AV.junk, AV.junk, AV.junk, AV.junk, AV.junk, AV.junk, AV.junk, AV.junk, AV.junk,
                              AV.junk, AV.junk, AV.junk, AV.junk, AV.junk, AV.junk, AV.junk, AV.junk, AV.junk, AV.junk, AV.junk, AV.junk, AV.junk, AV.junk, AV.junk, AV.junk, AV.junk, AV.junk, AV.junk, AV.junk, AV.junk, AV.junk, AV.junk,
                              AV.junk, AV.junk, AV.junk, AV.junk, AV.junk, AV.junk, AV.junk, AV.junk, AV.junk, AV.junk, AV.junk, AV.junk, AV.junk, AV.junk, AV.junk, AV.junk, AV.junk, AV.junk, AV.junk, AV.junk, AV.junk, AV.junk, AV.junk,
                              AV.junk, AV.junk, AV.junk, AV.junk, AV.junk, AV.junk, AV.junk, AV.junk, AV.junk, AV.junk, AV.junk, AV.junk, AV.junk, AV.junk, AV.junk, AV.junk, AV.junk, AV.junk, AV.junk, AV.junk, AV.junk, AV.junk, AV.junk,
                              AV.junk, AV.junk, AV.junk, AV.junk, AV.junk, AV.junk, AV.junk, AV.junk]
                            [some (Blk.mk (3) false false true (Data.ints IntKind.i64 ticks))]))
                      (Tree.br (decide (stA R0 R1 R2 T1 T2 Cm Sl Tk u1 u2 (0 : Int) (List.getD ticks (Int.toNat (i : Int) * 1 + 0 + 0) (0 : Int)) < (0 : Int)))
                        (Tree.br (decide (u1 > (0 : Int)))
                          (Tree.ret
                            (Ex.ret,
                              St.mk
                                [AV.junk, AV.junk, AV.junk, AV.junk, AV.junk, AV.junk, AV.junk, AV.junk, AV.bool true false, AV.junk, AV.junk, AV.junk, AV.junk, AV.junk, AV.junk, AV.junk, AV.junk, AV.junk, AV.junk, AV.junk, AV.junk, AV.junk,
                                  AV.junk, AV.junk, AV.junk, AV.junk, AV.junk, AV.junk, AV.junk, AV.junk, AV.junk, AV.junk, AV.junk, AV.junk, AV.junk, AV.junk, AV.junk, AV.junk, AV.junk, AV.junk, AV.junk, AV.junk, AV.junk, AV.junk, AV.junk,
                                  AV.junk, AV.junk, AV.junk, AV.junk, AV.junk, AV.junk, AV.junk, AV.junk, AV.junk, AV.junk, AV.junk, AV.junk, AV.junk, AV.junk, AV.junk, AV.junk, AV.junk, AV.junk, AV.junk, AV.junk, AV.junk, AV.junk, AV.junk,
                                  AV.junk, AV.junk, AV.junk, AV.junk, AV.junk, AV.junk, AV.junk, AV.junk, AV.junk, AV.junk, AV.junk, AV.junk, AV.junk, AV.junk, AV.junk, AV.junk, AV.junk, AV.junk, AV.junk, AV.junk, AV.junk, AV.junk, AV.junk,
                                  AV.junk, AV.junk, AV.junk, AV.junk, AV.junk, AV.junk, AV.junk, AV.junk]
                                [some (Blk.mk (3) false false true (Data.ints IntKind.i64 ticks))]))
                          (Tree.br (decide (stB R0 R1 R2 T1 T2 Cm Sl Tk u1 u2 (0 : Int) (List.getD ticks (Int.toNat (i : Int) * 1 + 0 + 0) (0 : Int)) > (0 : Int)))
                            (Tree.br (decide (u2 < (0 : Int)))
                              (Tree.ret
                                (Ex.ret,
                                  St.mk
                                    [AV.junk, AV.junk, AV.junk, AV.junk, AV.junk, AV.junk, AV.junk, AV.junk, AV.bool true false, AV.junk, AV.junk, AV.junk, AV.junk, AV.junk, AV.junk, AV.junk, AV.junk, AV.junk, AV.junk, AV.junk, AV.junk,
                                      AV.junk, AV.junk, AV.junk, AV.junk, AV.junk, AV.junk, AV.junk, AV.junk, AV.junk, AV.junk, AV.junk, AV.junk, AV.junk, AV.junk, AV.junk, AV.junk, AV.junk, AV.junk, AV.junk, AV.junk, AV.junk, AV.junk,
                                      AV.junk, AV.junk, AV.junk, AV.junk, AV.junk, AV.junk, AV.junk, AV.junk, AV.junk, AV.junk, AV.junk, AV.junk, AV.junk, AV.junk, AV.junk, AV.junk, AV.junk, AV.junk, AV.junk, AV.junk, AV.junk, AV.junk,
                                      AV.junk, AV.junk, AV.junk, AV.junk, AV.junk, AV.junk, AV.junk, AV.junk, AV.junk, AV.junk, AV.junk, AV.junk, AV.junk, AV.junk, AV.junk, AV.junk, AV.junk, AV.junk, AV.junk, AV.junk, AV.junk, AV.junk,
                                      AV.junk, AV.junk, AV.junk, AV.junk, AV.junk, AV.junk, AV.junk, AV.junk, AV.junk, AV.junk, AV.junk, AV.junk]
                                    [some (Blk.mk (3) false false true (Data.ints IntKind.i64 ticks))]))
                              (Tree.br (decide (stB R0 R1 R2 T1 T2 Cm Sl Tk u1 u2 (0 : Int) (List.getD ticks (Int.toNat (i : Int) * 1 + 0 + 0) (0 : Int)) < (0 : Int)))
                                (Tree.br (decide (u2 > (0 : Int)))
                                  (Tree.ret
                                    (Ex.ret,
                                      St.mk
                                        [AV.junk, AV.junk, AV.junk, AV.junk, AV.junk, AV.junk, AV.junk, AV.junk, AV.bool true false, AV.junk, AV.junk, AV.junk, AV.junk, AV.junk, AV.junk, AV.junk, AV.junk, AV.junk, AV.junk, AV.junk, AV.junk,
                                          AV.junk, AV.junk, AV.junk, AV.junk, AV.junk, AV.junk, AV.junk, AV.junk, AV.junk, AV.junk, AV.junk, AV.junk, AV.junk, AV.junk, AV.junk, AV.junk, AV.junk, AV.junk, AV.junk, AV.junk, AV.junk, AV.junk,
                                          AV.junk, AV.junk, AV.junk, AV.junk, AV.junk, AV.junk, AV.junk, AV.junk, AV.junk, AV.junk, AV.junk, AV.junk, AV.junk, AV.junk, AV.junk, AV.junk, AV.junk, AV.junk, AV.junk, AV.junk, AV.junk, AV.junk,
                                          AV.junk, AV.junk, AV.junk, AV.junk, AV.junk, AV.junk, AV.junk, AV.junk, AV.junk, AV.junk, AV.junk, AV.junk, AV.junk, AV.junk, AV.junk, AV.junk, AV.junk, AV.junk, AV.junk, AV.junk, AV.junk, AV.junk,
                                          AV.junk, AV.junk, AV.junk, AV.junk, AV.junk, AV.junk, AV.junk, AV.junk, AV.junk, AV.junk, AV.junk, AV.junk]
                                        [some (Blk.mk (3) false false true (Data.ints IntKind.i64 ticks))]))
                                  (Tree.ret
                                    (Ex.norm,
                                      St.mk
                                        [AV.junk, AV.int IntKind.i64 false (stA R0 R1 R2 T1 T2 Cm Sl Tk u1 u2 (0 : Int) (List.getD ticks (Int.toNat (i : Int) * 1 + 0 + 0) (0 : Int))),
                                          AV.int IntKind.i64 false (stB R0 R1 R2 T1 T2 Cm Sl Tk u1 u2 (0 : Int) (List.getD ticks (Int.toNat (i : Int) * 1 + 0 + 0) (0 : Int))),
                                          AV.sl zticks (Ref.mk (0) (0) (0) (0)) false (List.length ticks) Cap.any, AV.ptr (Ref.mk (1) (0) (0) (0)), AV.junk, AV.junk,
                                          AV.junk, AV.junk, AV.int IntKind.i64 false (IntKind.wrap IntKind.i64 ((i : Int) + (1 : Int))), AV.junk, AV.junk, AV.junk, AV.junk, AV.junk, AV.junk, AV.junk, AV.junk, AV.junk, AV.junk, AV.junk, AV.junk,
                                          AV.junk, AV.junk, AV.junk, AV.junk, AV.junk, AV.junk, AV.junk, AV.junk, AV.junk, AV.junk, AV.junk, AV.junk, AV.junk, AV.junk, AV.junk, AV.junk, AV.junk, AV.junk, AV.junk, AV.junk, AV.junk, AV.junk,
                                          AV.junk, AV.junk, AV.junk, AV.junk, AV.junk, AV.junk, AV.junk, AV.junk, AV.junk, AV.junk, AV.junk, AV.junk, AV.junk, AV.junk, AV.junk, AV.junk, AV.junk, AV.junk, AV.junk, AV.junk, AV.junk, AV.junk,
                                          AV.junk, AV.junk, AV.junk, AV.junk, AV.junk, AV.junk, AV.junk, AV.junk, AV.junk, AV.junk, AV.junk, AV.junk, AV.junk, AV.junk, AV.junk, AV.junk, AV.junk, AV.junk, AV.junk, AV.junk, AV.junk, AV.junk,
                                          AV.junk, AV.junk, AV.junk, AV.junk, AV.junk, AV.junk, AV.junk, AV.junk, AV.junk, AV.junk, AV.junk]
                                        [some (Blk.mk (3) false false true (Data.ints IntKind.i64 ticks)),
                                          some
                                            (Blk.mk (23) true false false
                                              (Data.cells
                                                [AV.int IntKind.i64 false R0, AV.int IntKind.i64 false R1, AV.int IntKind.i64 false R2, AV.int IntKind.i64 false T1, AV.int IntKind.i64 false T2, AV.int IntKind.i64 false Cm,
                                                  AV.int IntKind.i64 false Sl, AV.int IntKind.i64 false Tk]))])))
                                (Tree.ret
                                  (Ex.norm,
                                    St.mk
                                      [AV.junk, AV.int IntKind.i64 false (stA R0 R1 R2 T1 T2 Cm Sl Tk u1 u2 (0 : Int) (List.getD ticks (Int.toNat (i : Int) * 1 + 0 + 0) (0 : Int))),
                                        AV.int IntKind.i64 false (stB R0 R1 R2 T1 T2 Cm Sl Tk u1 u2 (0 : Int) (List.getD ticks (Int.toNat (i : Int) * 1 + 0 + 0) (0 : Int))),
                                        AV.sl zticks (Ref.mk (0) (0) (0) (0)) false (List.length ticks) Cap.any, AV.ptr (Ref.mk (1) (0) (0) (0)), AV.junk, AV.junk, AV.junk,
                                        AV.junk, AV.int IntKind.i64 false (IntKind.wrap IntKind.i64 ((i : Int) + (1 : Int))), AV.junk, AV.junk, AV.junk, AV.junk, AV.junk, AV.junk, AV.junk, AV.junk, AV.junk, AV.junk, AV.junk, AV.junk, AV.junk,
                                        AV.junk, AV.junk, AV.junk, AV.junk, AV.junk, AV.junk, AV.junk, AV.junk, AV.junk, AV.junk, AV.junk, AV.junk, AV.junk, AV.junk, AV.junk, AV.junk, AV.junk, AV.junk, AV.junk, AV.junk, AV.junk, AV.junk,
                                        AV.junk, AV.junk, AV.junk, AV.junk, AV.junk, AV.junk, AV.junk, AV.junk, AV.junk, AV.junk, AV.junk, AV.junk, AV.junk, AV.junk, AV.junk, AV.junk, AV.junk, AV.junk, AV.junk, AV.junk, AV.junk, AV.junk,
                                        AV.junk, AV.junk, AV.junk, AV.junk, AV.junk, AV.junk, AV.junk, AV.junk, AV.junk, AV.junk, AV.junk, AV.junk, AV.junk, AV.junk, AV.junk, AV.junk, AV.junk, AV.junk, AV.junk, AV.junk, AV.junk, AV.junk,
                                        AV.junk, AV.junk, AV.junk, AV.junk, AV.junk, AV.junk, AV.junk, AV.junk, AV.junk, AV.junk]
                                      [some (Blk.mk (3) false false true (Data.ints IntKind.i64 ticks)),
                                        some
                                          (Blk.mk (23) true false false
                                            (Data.cells
                                              [AV.int IntKind.i64 false R0, AV.int IntKind.i64 false R1, AV.int IntKind.i64 false R2, AV.int IntKind.i64 false T1, AV.int IntKind.i64 false T2, AV.int IntKind.i64 false Cm,
                                                AV.int IntKind.i64 false Sl, AV.int IntKind.i64 false Tk]))]))))
                            (Tree.br (decide (stB R0 R1 R2 T1 T2 Cm Sl Tk u1 u2 (0 : Int) (List.getD ticks (Int.toNat (i : Int) * 1 + 0 + 0) (0 : Int)) < (0 : Int)))
                              (Tree.br (decide (u2 > (0 : Int)))
                                (Tree.ret
                                  (Ex.ret,
                                    St.mk
                                      [AV.junk, AV.junk, AV.junk, AV.junk, AV.junk, AV.junk, AV.junk, AV.junk, AV.bool true false, AV.junk, AV.junk, AV.junk, AV.junk, AV.junk, AV.junk, AV.junk, AV.junk, AV.junk, AV.junk, AV.junk, AV.junk,
                                        AV.junk, AV.junk, AV.junk, AV.junk, AV.junk, AV.junk, AV.junk, AV.junk, AV.junk, AV.junk, AV.junk, AV.junk, AV.junk, AV.junk, AV.junk, AV.junk, AV.junk, AV.junk, AV.junk, AV.junk, AV.junk, AV.junk,
                                        AV.junk, AV.junk, AV.junk, AV.junk, AV.junk, AV.junk, AV.junk, AV.junk, AV.junk, AV.junk, AV.junk, AV.junk, AV.junk, AV.junk, AV.junk, AV.junk, AV.junk, AV.junk, AV.junk, AV.junk, AV.junk, AV.junk,
                                        AV.junk, AV.junk, AV.junk, AV.junk, AV.junk, AV.junk, AV.junk, AV.junk, AV.junk, AV.junk, AV.junk, AV.junk, AV.junk, AV.junk, AV.junk, AV.junk, AV.junk, AV.junk, AV.junk, AV.junk, AV.junk, AV.junk,
                                        AV.junk, AV.junk, AV.junk, AV.junk, AV.junk, AV.junk, AV.junk, AV.junk, AV.junk, AV.junk, AV.junk, AV.junk]
                                      [some (Blk.mk (3) false false true (Data.ints IntKind.i64 ticks))]))
                                (Tree.ret
                                  (Ex.norm,
                                    St.mk
                                      [AV.junk, AV.int IntKind.i64 false (stA R0 R1 R2 T1 T2 Cm Sl Tk u1 u2 (0 : Int) (List.getD ticks (Int.toNat (i : Int) * 1 + 0 + 0) (0 : Int))),
                                        AV.int IntKind.i64 false (stB R0 R1 R2 T1 T2 Cm Sl Tk u1 u2 (0 : Int) (List.getD ticks (Int.toNat (i : Int) * 1 + 0 + 0) (0 : Int))),
                                        AV.sl zticks (Ref.mk (0) (0) (0) (0)) false (List.length ticks) Cap.any, AV.ptr (Ref.mk (1) (0) (0) (0)), AV.junk, AV.junk, AV.junk,
                                        AV.junk, AV.int IntKind.i64 false (IntKind.wrap IntKind.i64 ((i : Int) + (1 : Int))), AV.junk, AV.junk, AV.junk, AV.junk, AV.junk, AV.junk, AV.junk, AV.junk, AV.junk, AV.junk, AV.junk, AV.junk, AV.junk,
                                        AV.junk, AV.junk, AV.junk, AV.junk, AV.junk, AV.junk, AV.junk, AV.junk, AV.junk, AV.junk, AV.junk, AV.junk, AV.junk, AV.junk, AV.junk, AV.junk, AV.junk, AV.junk, AV.junk, AV.junk, AV.junk, AV.junk,
                                        AV.junk, AV.junk, AV.junk, AV.junk, AV.junk, AV.junk, AV.junk, AV.junk, AV.junk, AV.junk, AV.junk, AV.junk, AV.junk, AV.junk, AV.junk, AV.junk, AV.junk, AV.junk, AV.junk, AV.junk, AV.junk, AV.junk,
                                        AV.junk, AV.junk, AV.junk, AV.junk, AV.junk, AV.junk, AV.junk, AV.junk, AV.junk, AV.junk, AV.junk, AV.junk, AV.junk, AV.junk, AV.junk, AV.junk, AV.junk, AV.junk, AV.junk, AV.junk, AV.junk, AV.junk,
                                        AV.junk, AV.junk, AV.junk, AV.junk, AV.junk, AV.junk, AV.junk, AV.junk, AV.junk, AV.junk]
                                      [some (Blk.mk (3) false false true (Data.ints IntKind.i64 ticks)),
                                        some
                                          (Blk.mk (23) true false false
                                            (Data.cells
                                              [AV.int IntKind.i64 false R0, AV.int IntKind.i64 false R1, AV.int IntKind.i64 false R2, AV.int IntKind.i64 false T1, AV.int IntKind.i64 false T2, AV.int IntKind.i64 false Cm,
                                                AV.int IntKind.i64 false Sl, AV.int IntKind.i64 false Tk]))])))
                              (Tree.ret
                                (Ex.norm,
                                  St.mk
                                    [AV.junk, AV.int IntKind.i64 false (stA R0 R1 R2 T1 T2 Cm Sl Tk u1 u2 (0 : Int) (List.getD ticks (Int.toNat (i : Int) * 1 + 0 + 0) (0 : Int))),
                                      AV.int IntKind.i64 false (stB R0 R1 R2 T1 T2 Cm Sl Tk u1 u2 (0 : Int) (List.getD ticks (Int.toNat (i : Int) * 1 + 0 + 0) (0 : Int))),
                                      AV.sl zticks (Ref.mk (0) (0) (0) (0)) false (List.length ticks) Cap.any, AV.ptr (Ref.mk (1) (0) (0) (0)), AV.junk, AV.junk, AV.junk,
                                      AV.junk, AV.int IntKind.i64 false (IntKind.wrap IntKind.i64 ((i : Int) + (1 : Int))), AV.junk, AV.junk, AV.junk, AV.junk, AV.junk, AV.junk, AV.junk, AV.junk, AV.junk, AV.junk, AV.junk, AV.junk, AV.junk,
                                      AV.junk, AV.junk, AV.junk, AV.junk, AV.junk, AV.junk, AV.junk, AV.junk, AV.junk, AV.junk, AV.junk, AV.junk, AV.junk, AV.junk, AV.junk, AV.junk, AV.junk, AV.junk, AV.junk, AV.junk, AV.junk, AV.junk,
                                      AV.junk, AV.junk, AV.junk, AV.junk, AV.junk, AV.junk, AV.junk, AV.junk, AV.junk, AV.junk, AV.junk, AV.junk, AV.junk, AV.junk, AV.junk, AV.junk, AV.junk, AV.junk, AV.junk, AV.junk, AV.junk, AV.junk,
                                      AV.junk, AV.junk, AV.junk, AV.junk, AV.junk, AV.junk, AV.junk, AV.junk, AV.junk, AV.junk, AV.junk, AV.junk, AV.junk, AV.junk, AV.junk, AV.junk, AV.junk, AV.junk, AV.junk, AV.junk, AV.junk, AV.junk,
                                      AV.junk, AV.junk, AV.junk, AV.junk, AV.junk, AV.junk, AV.junk, AV.junk, AV.junk, AV.junk]
                                    [some (Blk.mk (3) false false true (Data.ints IntKind.i64 ticks)),
                                      some
                                        (Blk.mk (23) true false false
                                          (Data.cells
                                            [AV.int IntKind.i64 false R0, AV.int IntKind.i64 false R1, AV.int IntKind.i64 false R2, AV.int IntKind.i64 false T1, AV.int IntKind.i64 false T2, AV.int IntKind.i64 false Cm,
                                              AV.int IntKind.i64 false Sl, AV.int IntKind.i64 false Tk]))])))))
                        (Tree.br (decide (stB R0 R1 R2 T1 T2 Cm Sl Tk u1 u2 (0 : Int) (List.getD ticks (Int.toNat (i : Int) * 1 + 0 + 0) (0 : Int)) > (0 : Int)))
                          (Tree.br (decide (u2 < (0 : Int)))
                            (Tree.ret
                              (Ex.ret,
                                St.mk
                                  [AV.junk, AV.junk, AV.junk, AV.junk, AV.junk, AV.junk, AV.junk, AV.junk, AV.bool true false, AV.junk, AV.junk, AV.junk, AV.junk, AV.junk, AV.junk, AV.junk, AV.junk, AV.junk, AV.junk, AV.junk, AV.junk,
                                    AV.junk, AV.junk, AV.junk, AV.junk, AV.junk, AV.junk, AV.junk, AV.junk, AV.junk, AV.junk, AV.junk, AV.junk, AV.junk, AV.junk, AV.junk, AV.junk, AV.junk, AV.junk, AV.junk, AV.junk, AV.junk, AV.junk, AV.junk,
                                    AV.junk, AV.junk, AV.junk, AV.junk, AV.junk, AV.junk, AV.junk, AV.junk, AV.junk, AV.junk, AV.junk, AV.junk, AV.junk, AV.junk, AV.junk, AV.junk, AV.junk, AV.junk, AV.junk, AV.junk, AV.junk, AV.junk, AV.junk,
                                    AV.junk, AV.junk, AV.junk, AV.junk, AV.junk, AV.junk, AV.junk, AV.junk, AV.junk, AV.junk, AV.junk, AV.junk, AV.junk, AV.junk, AV.junk, AV.junk, AV.junk, AV.junk, AV.junk, AV.junk, AV.junk, AV.junk, AV.junk,
                                    AV.junk, AV.junk, AV.junk, AV.junk, AV.junk, AV.junk, AV.junk, AV.junk, AV.junk]
                                  [some (Blk.mk (3) false false true (Data.ints IntKind.i64 ticks))]))
                            (Tree.br (decide (stB R0 R1 R2 T1 T2 Cm Sl Tk u1 u2 (0 : Int) (List.getD ticks (Int.toNat (i : Int) * 1 + 0 + 0) (0 : Int)) < (0 : Int)))
                              (Tree.br (decide (u2 > (0 : Int)))
                                (Tree.ret
                                  (Ex.ret,
                                    St.mk
                                      [AV.junk, AV.junk, AV.junk, AV.junk, AV.junk, AV.junk, AV.junk, AV.junk, AV.bool true false, AV.junk, AV.junk, AV.junk, AV.junk, AV.junk, AV.junk, AV.junk, AV.junk, AV.junk, AV.junk, AV.junk, AV.junk,
                                        AV.junk, AV.junk, AV.junk, AV.junk, AV.junk, AV.junk, AV.junk, AV.junk, AV.junk, AV.junk, AV.junk, AV.junk, AV.junk, AV.junk, AV.junk, AV.junk, AV.junk, AV.junk, AV.junk, AV.junk, AV.junk, AV.junk,
                                        AV.junk, AV.junk, AV.junk, AV.junk, AV.junk, AV.junk, AV.junk, AV.junk, AV.junk, AV.junk, AV.junk, AV.junk, AV.junk, AV.junk, AV.junk, AV.junk, AV.junk, AV.junk, AV.junk, AV.junk, AV.junk, AV.junk,
                                        AV.junk, AV.junk, AV.junk, AV.junk, AV.junk, AV.junk, AV.junk, AV.junk, AV.junk, AV.junk, AV.junk, AV.junk, AV.junk, AV.junk, AV.junk, AV.junk, AV.junk, AV.junk, AV.junk, AV.junk, AV.junk, AV.junk,
                                        AV.junk, AV.junk, AV.junk, AV.junk, AV.junk, AV.junk, AV.junk, AV.junk, AV.junk, AV.junk, AV.junk, AV.junk]
                                      [some (Blk.mk (3) false false true (Data.ints IntKind.i64 ticks))]))
                                (Tree.ret
                                  (Ex.norm,
                                    St.mk
                                      [AV.junk, AV.int IntKind.i64 false (stA R0 R1 R2 T1 T2 Cm Sl Tk u1 u2 (0 : Int) (List.getD ticks (Int.toNat (i : Int) * 1 + 0 + 0) (0 : Int))),
                                        AV.int IntKind.i64 false (stB R0 R1 R2 T1 T2 Cm Sl Tk u1 u2 (0 : Int) (List.getD ticks (Int.toNat (i : Int) * 1 + 0 + 0) (0 : Int))),
                                        AV.sl zticks (Ref.mk (0) (0) (0) (0)) false (List.length ticks) Cap.any, AV.ptr (Ref.mk (1) (0) (0) (0)), AV.junk, AV.junk, AV.junk,
                                        AV.junk, AV.int IntKind.i64 false (IntKind.wrap IntKind.i64 ((i : Int) + (1 : Int))), AV.junk, AV.junk, AV.junk, AV.junk, AV.junk, AV.junk, AV.junk, AV.junk, AV.junk, AV.junk, AV.junk, AV.junk, AV.junk,
                                        AV.junk, AV.junk, AV.junk, AV.junk, AV.junk, AV.junk, AV.junk, AV.junk, AV.junk, AV.junk, AV.junk, AV.junk, AV.junk, AV.junk, AV.junk, AV.junk, AV.junk, AV.junk, AV.junk, AV.junk, AV.junk, AV.junk,
                                        AV.junk, AV.junk, AV.junk, AV.junk, AV.junk, AV.junk, AV.junk, AV.junk, AV.junk, AV.junk, AV.junk, AV.junk, AV.junk, AV.junk, AV.junk, AV.junk, AV.junk, AV.junk, AV.junk, AV.junk, AV.junk, AV.junk,
                                        AV.junk, AV.junk, AV.junk, AV.junk, AV.junk, AV.junk, AV.junk, AV.junk, AV.junk, AV.junk, AV.junk, AV.junk, AV.junk, AV.junk, AV.junk, AV.junk, AV.junk, AV.junk, AV.junk, AV.junk, AV.junk, AV.junk,
                                        AV.junk, AV.junk, AV.junk, AV.junk, AV.junk, AV.junk, AV.junk, AV.junk, AV.junk, AV.junk]
                                      [some (Blk.mk (3) false false true (Data.ints IntKind.i64 ticks)),
                                        some
                                          (Blk.mk (23) true false false
                                            (Data.cells
                                              [AV.int IntKind.i64 false R0, AV.int IntKind.i64 false R1, AV.int IntKind.i64 false R2, AV.int IntKind.i64 false T1, AV.int IntKind.i64 false T2, AV.int IntKind.i64 false Cm,
                                                AV.int IntKind.i64 false Sl, AV.int IntKind.i64 false Tk]))])))
                              (Tree.ret
                                (Ex.norm,
                                  St.mk
                                    [AV.junk, AV.int IntKind.i64 false (stA R0 R1 R2 T1 T2 Cm Sl Tk u1 u2 (0 : Int) (List.getD ticks (Int.toNat (i : Int) * 1 + 0 + 0) (0 : Int))),
                                      AV.int IntKind.i64 false (stB R0 R1 R2 T1 T2 Cm Sl Tk u1 u2 (0 : Int) (List.getD ticks (Int.toNat (i : Int) * 1 + 0 + 0) (0 : Int))),
                                      AV.sl zticks (Ref.mk (0) (0) (0) (0)) false (List.length ticks) Cap.any, AV.ptr (Ref.mk (1) (0) (0) (0)), AV.junk, AV.junk, AV.junk,
                                      AV.junk, AV.int IntKind.i64 false (IntKind.wrap IntKind.i64 ((i : Int) + (1 : Int))), AV.junk, AV.junk, AV.junk, AV.junk, AV.junk, AV.junk, AV.junk, AV.junk, AV.junk, AV.junk, AV.junk, AV.junk, AV.junk,
                                      AV.junk, AV.junk, AV.junk, AV.junk, AV.junk, AV.junk, AV.junk, AV.junk, AV.junk, AV.junk, AV.junk, AV.junk, AV.junk, AV.junk, AV.junk, AV.junk, AV.junk, AV.junk, AV.junk, AV.junk, AV.junk, AV.junk,
                                      AV.junk, AV.junk, AV.junk, AV.junk, AV.junk, AV.junk, AV.junk, AV.junk, AV.junk, AV.junk, AV.junk, AV.junk, AV.junk, AV.junk, AV.junk, AV.junk, AV.junk, AV.junk, AV.junk, AV.junk, AV.junk, AV.junk,
                                      AV.junk, AV.junk, AV.junk, AV.junk, AV.junk, AV.junk, AV.junk, AV.junk, AV.junk, AV.junk, AV.junk, AV.junk, AV.junk, AV.junk, AV.junk, AV.junk, AV.junk, AV.junk, AV.junk, AV.junk, AV.junk, AV.junk,
                                      AV.junk, AV.junk, AV.junk, AV.junk, AV.junk, AV.junk, AV.junk, AV.junk, AV.junk, AV.junk]
                                    [some (Blk.mk (3) false false true (Data.ints IntKind.i64 ticks)),
                                      some
                                        (Blk.mk (23) true false false
                                          (Data.cells
                                            [AV.int IntKind.i64 false R0, AV.int IntKind.i64 false R1, AV.int IntKind.i64 false R2, AV.int IntKind.i64 false T1, AV.int IntKind.i64 false T2, AV.int IntKind.i64 false Cm,
                                              AV.int IntKind.i64 false Sl, AV.int IntKind.i64 false Tk]))]))))
                          (Tree.br (decide (stB R0 R1 R2 T1 T2 Cm Sl Tk u1 u2 (0 : Int) (List.getD ticks (Int.toNat (i : Int) * 1 + 0 + 0) (0 : Int)) < (0 : Int)))
                            (Tree.br (decide (u2 > (0 : Int)))
                              (Tree.ret
                                (Ex.ret,
                                  St.mk
                                    [AV.junk, AV.junk, AV.junk, AV.junk, AV.junk, AV.junk, AV.junk, AV.junk, AV.bool true false, AV.junk, AV.junk, AV.junk, AV.junk, AV.junk, AV.junk, AV.junk, AV.junk, AV.junk, AV.junk, AV.junk, AV.junk,
                                      AV.junk, AV.junk, AV.junk, AV.junk, AV.junk, AV.junk, AV.junk, AV.junk, AV.junk, AV.junk, AV.junk, AV.junk, AV.junk, AV.junk, AV.junk, AV.junk, AV.junk, AV.junk, AV.junk, AV.junk, AV.junk, AV.junk,
                                      AV.junk, AV.junk, AV.junk, AV.junk, AV.junk, AV.junk, AV.junk, AV.junk, AV.junk, AV.junk, AV.junk, AV.junk, AV.junk, AV.junk, AV.junk, AV.junk, AV.junk, AV.junk, AV.junk, AV.junk, AV.junk, AV.junk,
                                      AV.junk, AV.junk, AV.junk, AV.junk, AV.junk, AV.junk, AV.junk, AV.junk, AV.junk, AV.junk, AV.junk, AV.junk, AV.junk, AV.junk, AV.junk, AV.junk, AV.junk, AV.junk, AV.junk, AV.junk, AV.junk, AV.junk,
                                      AV.junk, AV.junk, AV.junk, AV.junk, AV.junk, AV.junk, AV.junk, AV.junk, AV.junk, AV.junk, AV.junk, AV.junk]
                                    [some (Blk.mk (3) false false true (Data.ints IntKind.i64 ticks))]))
                              (Tree.ret
                                (Ex.norm,
                                  St.mk
                                    [AV.junk, AV.int IntKind.i64 false (stA R0 R1 R2 T1 T2 Cm Sl Tk u1 u2 (0 : Int) (List.getD ticks (Int.toNat (i : Int) * 1 + 0 + 0) (0 : Int))),
                                      AV.int IntKind.i64 false (stB R0 R1 R2 T1 T2 Cm Sl Tk u1 u2 (0 : Int) (List.getD ticks (Int.toNat (i : Int) * 1 + 0 + 0) (0 : Int))),
                                      AV.sl zticks (Ref.mk (0) (0) (0) (0)) false (List.length ticks) Cap.any, AV.ptr (Ref.mk (1) (0) (0) (0)), AV.junk, AV.junk, AV.junk,
                                      AV.junk, AV.int IntKind.i64 false (IntKind.wrap IntKind.i64 ((i : Int) + (1 : Int))), AV.junk, AV.junk, AV.junk, AV.junk, AV.junk, AV.junk, AV.junk, AV.junk, AV.junk, AV.junk, AV.junk, AV.junk, AV.junk,
                                      AV.junk, AV.junk, AV.junk, AV.junk, AV.junk, AV.junk, AV.junk, AV.junk, AV.junk, AV.junk, AV.junk, AV.junk, AV.junk, AV.junk, AV.junk, AV.junk, AV.junk, AV.junk, AV.junk, AV.junk, AV.junk, AV.junk,
                                      AV.junk, AV.junk, AV.junk, AV.junk, AV.junk, AV.junk, AV.junk, AV.junk, AV.junk, AV.junk, AV.junk, AV.junk, AV.junk, AV.junk, AV.junk, AV.junk, AV.junk, AV.junk, AV.junk, AV.junk, AV.junk, AV.junk,
                                      AV.junk, AV.junk, AV.junk, AV.junk, AV.junk, AV.junk, AV.junk, AV.junk, AV.junk, AV.junk, AV.junk, AV.junk, AV.junk, AV.junk, AV.junk, AV.junk, AV.junk, AV.junk, AV.junk, AV.junk, AV.junk, AV.junk,
                                      AV.junk, AV.junk, AV.junk, AV.junk, AV.junk, AV.junk, AV.junk, AV.junk, AV.junk, AV.junk]
                                    [some (Blk.mk (3) false false true (Data.ints IntKind.i64 ticks)),
                                      some
                                        (Blk.mk (23) true false false
                                          (Data.cells
                                            [AV.int IntKind.i64 false R0, AV.int IntKind.i64 false R1, AV.int IntKind.i64 false R2, AV.int IntKind.i64 false T1, AV.int IntKind.i64 false T2, AV.int IntKind.i64 false Cm,
                                              AV.int IntKind.i64 false Sl, AV.int IntKind.i64 false Tk]))])))
                            (Tree.ret
                              (Ex.norm,
                                St.mk
                                  [AV.junk, AV.int IntKind.i64 false (stA R0 R1 R2 T1 T2 Cm Sl Tk u1 u2 (0 : Int) (List.getD ticks (Int.toNat (i : Int) * 1 + 0 + 0) (0 : Int))),
                                    AV.int IntKind.i64 false (stB R0 R1 R2 T1 T2 Cm Sl Tk u1 u2 (0 : Int) (List.getD ticks (Int.toNat (i : Int) * 1 + 0 + 0) (0 : Int))),
                                    AV.sl zticks (Ref.mk (0) (0) (0) (0)) false (List.length ticks) Cap.any, AV.ptr (Ref.mk (1) (0) (0) (0)), AV.junk, AV.junk, AV.junk,
                                    AV.junk, AV.int IntKind.i64 false (IntKind.wrap IntKind.i64 ((i : Int) + (1 : Int))), AV.junk, AV.junk, AV.junk, AV.junk, AV.junk, AV.junk, AV.junk, AV.junk, AV.junk, AV.junk, AV.junk, AV.junk, AV.junk,
                                    AV.junk, AV.junk, AV.junk, AV.junk, AV.junk, AV.junk, AV.junk, AV.junk, AV.junk, AV.junk, AV.junk, AV.junk, AV.junk, AV.junk, AV.junk, AV.junk, AV.junk, AV.junk, AV.junk, AV.junk, AV.junk, AV.junk, AV.junk,
                                    AV.junk, AV.junk, AV.junk, AV.junk, AV.junk, AV.junk, AV.junk, AV.junk, AV.junk, AV.junk, AV.junk, AV.junk, AV.junk, AV.junk, AV.junk, AV.junk, AV.junk, AV.junk, AV.junk, AV.junk, AV.junk, AV.junk, AV.junk,
                                    AV.junk, AV.junk, AV.junk, AV.junk, AV.junk, AV.junk, AV.junk, AV.junk, AV.junk, AV.junk, AV.junk, AV.junk, AV.junk, AV.junk, AV.junk, AV.junk, AV.junk, AV.junk, AV.junk, AV.junk, AV.junk, AV.junk, AV.junk,
                                    AV.junk, AV.junk, AV.junk, AV.junk, AV.junk, AV.junk, AV.junk]
                                  [some (Blk.mk (3) false false true (Data.ints IntKind.i64 ticks)),
                                    some
                                      (Blk.mk (23) true false false
                                        (Data.cells
                                          [AV.int IntKind.i64 false R0, AV.int IntKind.i64 false R1, AV.int IntKind.i64 false R2, AV.int IntKind.i64 false T1, AV.int IntKind.i64 false T2, AV.int IntKind.i64 false Cm,
                                            AV.int IntKind.i64 false Sl, AV.int IntKind.i64 false Tk]))]))))))
                    (Tree.br (decide (stA R0 R1 R2 T1 T2 Cm Sl Tk u1 u2 (0 : Int) (List.getD ticks (Int.toNat (i : Int) * 1 + 0 + 0) (0 : Int)) < (0 : Int)))
                      (Tree.br (decide (u1 > (0 : Int)))
                        (Tree.ret
                          (Ex.ret,
                            St.mk
                              [AV.junk, AV.junk, AV.junk, AV.junk, AV.junk, AV.junk, AV.junk, AV.junk, AV.bool true false, AV.junk, AV.junk, AV.junk, AV.junk, AV.junk, AV.junk, AV.junk, AV.junk, AV.junk, AV.junk, AV.junk, AV.junk, AV.junk,
                                AV.junk, AV.junk, AV.junk, AV.junk, AV.junk, AV.junk, AV.junk, AV.junk, AV.junk, AV.junk, AV.junk, AV.junk, AV.junk, AV.junk, AV.junk, AV.junk, AV.junk, AV.junk, AV.junk, AV.junk, AV.junk, AV.junk, AV.junk,
                                AV.junk, AV.junk, AV.junk, AV.junk, AV.junk, AV.junk, AV.junk, AV.junk, AV.junk, AV.junk, AV.junk, AV.junk, AV.junk, AV.junk, AV.junk, AV.junk, AV.junk, AV.junk, AV.junk, AV.junk, AV.junk, AV.junk, AV.junk,
                                AV.junk, AV.junk, AV.junk, AV.junk, AV.junk, AV.junk, AV.junk, AV.junk, AV.junk, AV.junk, AV.junk, AV.junk, AV.junk, AV.junk, AV.junk, AV.junk, AV.junk, AV.junk, AV.junk, AV.junk, AV.junk, AV.junk, AV.junk,
                                AV.junk, AV.junk, AV.junk, AV.junk, AV.junk, AV.junk, AV.junk, AV.junk]
                              [some (Blk.mk (3) false false true (Data.ints IntKind.i64 ticks))]))
                        (Tree.br (decide (stB R0 R1 R2 T1 T2 Cm Sl Tk u1 u2 (0 : Int) (List.getD ticks (Int.toNat (i : Int) * 1 + 0 + 0) (0 : Int)) > (0 : Int)))
                          (Tree.br (decide (u2 < (0 : Int)))
                            (Tree.ret
                              (Ex.ret,
                                St.mk
                                  [AV.junk, AV.junk, AV.junk, AV.junk, AV.junk, AV.junk, AV.junk, AV.junk, AV.bool true false, AV.junk, AV.junk, AV.junk, AV.junk, AV.junk, AV.junk, AV.junk, AV.junk, AV.junk, AV.junk, AV.junk, AV.junk,
                                    AV.junk, AV.junk, AV.junk, AV.junk, AV.junk, AV.junk, AV.junk, AV.junk, AV.junk, AV.junk, AV.junk, AV.junk, AV.junk, AV.junk, AV.junk, AV.junk, AV.junk, AV.junk, AV.junk, AV.junk, AV.junk, AV.junk, AV.junk,
                                    AV.junk, AV.junk, AV.junk, AV.junk, AV.junk, AV.junk, AV.junk, AV.junk, AV.junk, AV.junk, AV.junk, AV.junk, AV.junk, AV.junk, AV.junk, AV.junk, AV.junk, AV.junk, AV.junk, AV.junk, AV.junk, AV.junk, AV.junk,
                                    AV.junk, AV.junk, AV.junk, AV.junk, AV.junk, AV.junk, AV.junk, AV.junk, AV.junk, AV.junk, AV.junk, AV.junk, AV.junk, AV.junk, AV.junk, AV.junk, AV.junk, AV.junk, AV.junk, AV.junk, AV.junk, AV.junk, AV.junk,
                                    AV.junk, AV.junk, AV.junk, AV.junk, AV.junk, AV.junk, AV.junk, AV.junk, AV.junk]
                                  [some (Blk.mk (3) false false true (Data.ints IntKind.i64 ticks))]))
                            (Tree.br (decide (stB R0 R1 R2 T1 T2 Cm Sl Tk u1 u2 (0 : Int) (List.getD ticks (Int.toNat (i : Int) * 1 + 0 + 0) (0 : Int)) < (0 : Int)))
                              (Tree.br (decide (u2 > (0 : Int)))
                                (Tree.ret
                                  (Ex.ret,
                                    St.mk
                                      [AV.junk, AV.junk, AV.junk, AV.junk, AV.junk, AV.junk, AV.junk, AV.junk, AV.bool true false, AV.junk, AV.junk, AV.junk, AV.junk, AV.junk, AV.junk, AV.junk, AV.junk, AV.junk, AV.junk, AV.junk, AV.junk,
                                        AV.junk, AV.junk, AV.junk, AV.junk, AV.junk, AV.junk, AV.junk, AV.junk, AV.junk, AV.junk, AV.junk, AV.junk, AV.junk, AV.junk, AV.junk, AV.junk, AV.junk, AV.junk, AV.junk, AV.junk, AV.junk, AV.junk,
                                        AV.junk, AV.junk, AV.junk, AV.junk, AV.junk, AV.junk, AV.junk, AV.junk, AV.junk, AV.junk, AV.junk, AV.junk, AV.junk, AV.junk, AV.junk, AV.junk, AV.junk, AV.junk, AV.junk, AV.junk, AV.junk, AV.junk,
                                        AV.junk, AV.junk, AV.junk, AV.junk, AV.junk, AV.junk, AV.junk, AV.junk, AV.junk, AV.junk, AV.junk, AV.junk, AV.junk, AV.junk, AV.junk, AV.junk, AV.junk, AV.junk, AV.junk, AV.junk, AV.junk, AV.junk,
                                        AV.junk, AV.junk, AV.junk, AV.junk, AV.junk, AV.junk, AV.junk, AV.junk, AV.junk, AV.junk, AV.junk, AV.junk]
                                      [some (Blk.mk (3) false false true (Data.ints IntKind.i64 ticks))]))
                                (Tree.ret
                                  (Ex.norm,
                                    St.mk
                                      [AV.junk, AV.int IntKind.i64 false (stA R0 R1 R2 T1 T2 Cm Sl Tk u1 u2 (0 : Int) (List.getD ticks (Int.toNat (i : Int) * 1 + 0 + 0) (0 : Int))),
                                        AV.int IntKind.i64 false (stB R0 R1 R2 T1 T2 Cm Sl Tk u1 u2 (0 : Int) (List.getD ticks (Int.toNat (i : Int) * 1 + 0 + 0) (0 : Int))),
                                        AV.sl zticks (Ref.mk (0) (0) (0) (0)) false (List.length ticks) Cap.any, AV.ptr (Ref.mk (1) (0) (0) (0)), AV.junk, AV.junk, AV.junk,
                                        AV.junk, AV.int IntKind.i64 false (IntKind.wrap IntKind.i64 ((i : Int) + (1 : Int))), AV.junk, AV.junk, AV.junk, AV.junk, AV.junk, AV.junk, AV.junk, AV.junk, AV.junk, AV.junk, AV.junk, AV.junk, AV.junk,
                                        AV.junk, AV.junk, AV.junk, AV.junk, AV.junk, AV.junk, AV.junk, AV.junk, AV.junk, AV.junk, AV.junk, AV.junk, AV.junk, AV.junk, AV.junk, AV.junk, AV.junk, AV.junk, AV.junk, AV.junk, AV.junk, AV.junk,
                                        AV.junk, AV.junk, AV.junk, AV.junk, AV.junk, AV.junk, AV.junk, AV.junk, AV.junk, AV.junk, AV.junk, AV.junk, AV.junk, AV.junk, AV.junk, AV.junk, AV.junk, AV.junk, AV.junk, AV.junk, AV.junk, AV.junk,
                                        AV.junk, AV.junk, AV.junk, AV.junk, AV.junk, AV.junk, AV.junk, AV.junk, AV.junk, AV.junk, AV.junk, AV.junk, AV.junk, AV.junk, AV.junk, AV.junk, AV.junk, AV.junk, AV.junk, AV.junk, AV.junk, AV.junk,
                                        AV.junk, AV.junk, AV.junk, AV.junk, AV.junk, AV.junk, AV.junk, AV.junk, AV.junk, AV.junk]
                                      [some (Blk.mk (3) false false true (Data.ints IntKind.i64 ticks)),
                                        some
                                          (Blk.mk (23) true false false
                                            (Data.cells
                                              [AV.int IntKind.i64 false R0, AV.int IntKind.i64 false R1, AV.int IntKind.i64 false R2, AV.int IntKind.i64 false T1, AV.int IntKind.i64 false T2, AV.int IntKind.i64 false Cm,
                                                AV.int IntKind.i64 false Sl, AV.int IntKind.i64 false Tk]))])))
                              (Tree.ret
                                (Ex.norm,
                                  St.mk
                                    [AV.junk, AV.int IntKind.i64 false (stA R0 R1 R2 T1 T2 Cm Sl Tk u1 u2 (0 : Int) (List.getD ticks (Int.toNat (i : Int) * 1 + 0 + 0) (0 : Int))),
                                      AV.int IntKind.i64 false (stB R0 R1 R2 T1 T2 Cm Sl Tk u1 u2 (0 : Int) (List.getD ticks (Int.toNat (i : Int) * 1 + 0 + 0) (0 : Int))),
                                      AV.sl zticks (Ref.mk (0) (0) (0) (0)) false (List.length ticks) Cap.any, AV.ptr (Ref.mk (1) (0) (0) (0)), AV.junk, AV.junk, AV.junk,
                                      AV.junk, AV.int IntKind.i64 false (IntKind.wrap IntKind.i64 ((i : Int) + (1 : Int))), AV.junk, AV.junk, AV.junk, AV.junk, AV.junk, AV.junk, AV.junk, AV.junk, AV.junk, AV.junk, AV.junk, AV.junk, AV.junk,
                                      AV.junk, AV.junk, AV.junk, AV.junk, AV.junk, AV.junk, AV.junk, AV.junk, AV.junk, AV.junk, AV.junk, AV.junk, AV.junk, AV.junk, AV.junk, AV.junk, AV.junk, AV.junk, AV.junk, AV.junk, AV.junk, AV.junk,
                                      AV.junk, AV.junk, AV.junk, AV.junk, AV.junk, AV.junk, AV.junk, AV.junk, AV.junk, AV.junk, AV.junk, AV.junk, AV.junk, AV.junk, AV.junk, AV.junk, AV.junk, AV.junk, AV.junk, AV.junk, AV.junk, AV.junk,
                                      AV.junk, AV.junk, AV.junk, AV.junk, AV.junk, AV.junk, AV.junk, AV.junk, AV.junk, AV.junk, AV.junk, AV.junk, AV.junk, AV.junk, AV.junk, AV.junk, AV.junk, AV.junk, AV.junk, AV.junk, AV.junk, AV.junk,
                                      AV.junk, AV.junk, AV.junk, AV.junk, AV.junk, AV.junk, AV.junk, AV.junk, AV.junk, AV.junk]
                                    [some (Blk.mk (3) false false true (Data.ints IntKind.i64 ticks)),
                                      some
                                        (Blk.mk (23) true false false
                                          (Data.cells
                                            [AV.int IntKind.i64 false R0, AV.int IntKind.i64 false R1, AV.int IntKind.i64 false R2, AV.int IntKind.i64 false T1, AV.int IntKind.i64 false T2, AV.int IntKind.i64 false Cm,
                                              AV.int IntKind.i64 false Sl, AV.int IntKind.i64 false Tk]))]))))
                          (Tree.br (decide (stB R0 R1 R2 T1 T2 Cm Sl Tk u1 u2 (0 : Int) (List.getD ticks (Int.toNat (i : Int) * 1 + 0 + 0) (0 : Int)) < (0 : Int)))
                            (Tree.br (decide (u2 > (0 : Int)))
                              (Tree.ret
                                (Ex.ret,
                                  St.mk
                                    [AV.junk, AV.junk, AV.junk, AV.junk, AV.junk, AV.junk, AV.junk, AV.junk, AV.bool true false, AV.junk, AV.junk, AV.junk, AV.junk, AV.junk, AV.junk, AV.junk, AV.junk, AV.junk, AV.junk, AV.junk, AV.junk,
                                      AV.junk, AV.junk, AV.junk, AV.junk, AV.junk, AV.junk, AV.junk, AV.junk, AV.junk, AV.junk, AV.junk, AV.junk, AV.junk, AV.junk, AV.junk, AV.junk, AV.junk, AV.junk, AV.junk, AV.junk, AV.junk, AV.junk,
                                      AV.junk, AV.junk, AV.junk, AV.junk, AV.junk, AV.junk, AV.junk, AV.junk, AV.junk, AV.junk, AV.junk, AV.junk, AV.junk, AV.junk, AV.junk, AV.junk, AV.junk, AV.junk, AV.junk, AV.junk, AV.junk, AV.junk,
                                      AV.junk, AV.junk, AV.junk, AV.junk, AV.junk, AV.junk, AV.junk, AV.junk, AV.junk, AV.junk, AV.junk, AV.junk, AV.junk, AV.junk, AV.junk, AV.junk, AV.junk, AV.junk, AV.junk, AV.junk, AV.junk, AV.junk,
                                      AV.junk, AV.junk, AV.junk, AV.junk, AV.junk, AV.junk, AV.junk, AV.junk, AV.junk, AV.junk, AV.junk, AV.junk]
                                    [some (Blk.mk (3) false false true (Data.ints IntKind.i64 ticks))]))
                              (Tree.ret
                                (Ex.norm,
                                  St.mk
                                    [AV.junk, AV.int IntKind.i64 false (stA R0 R1 R2 T1 T2 Cm Sl Tk u1 u2 (0 : Int) (List.getD ticks (Int.toNat (i : Int) * 1 + 0 + 0) (0 : Int))),
                                      AV.int IntKind.i64 false (stB R0 R1 R2 T1 T2 Cm Sl Tk u1 u2 (0 : Int) (List.getD ticks (Int.toNat (i : Int) * 1 + 0 + 0) (0 : Int))),
                                      AV.sl zticks (Ref.mk (0) (0) (0) (0)) false (List.length ticks) Cap.any, AV.ptr (Ref.mk (1) (0) (0) (0)), AV.junk, AV.junk, AV.junk,
                                      AV.junk, AV.int IntKind.i64 false (IntKind.wrap IntKind.i64 ((i : Int) + (1 : Int))), AV.junk, AV.junk, AV.junk, AV.junk, AV.junk, AV.junk, AV.junk, AV.junk, AV.junk, AV.junk, AV.junk, AV.junk, AV.junk,
                                      AV.junk, AV.junk, AV.junk, AV.junk, AV.junk, AV.junk, AV.junk, AV.junk, AV.junk, AV.junk, AV.junk, AV.junk, AV.junk, AV.junk, AV.junk, AV.junk, AV.junk, AV.junk, AV.junk, AV.junk, AV.junk, AV.junk,
                                      AV.junk, AV.junk, AV.junk, AV.junk, AV.junk, AV.junk, AV.junk, AV.junk, AV.junk, AV.junk, AV.junk, AV.junk, AV.junk, AV.junk, AV.junk, AV.junk, AV.junk, AV.junk, AV.junk, AV.junk, AV.junk, AV.junk,
                                      AV.junk, AV.junk, AV.junk, AV.junk, AV.junk, AV.junk, AV.junk, AV.junk, AV.junk, AV.junk, AV.junk, AV.junk, AV.junk, AV.junk, AV.junk, AV.junk, AV.junk, AV.junk, AV.junk, AV.junk, AV.junk, AV.junk,
                                      AV.junk, AV.junk, AV.junk, AV.junk, AV.junk, AV.junk, AV.junk, AV.junk, AV.junk, AV.junk]
                                    [some (Blk.mk (3) false false true (Data.ints IntKind.i64 ticks)),
                                      some
                                        (Blk.mk (23) true false false
                                          (Data.cells
                                            [AV.int IntKind.i64 false R0, AV.int IntKind.i64 false R1, AV.int IntKind.i64 false R2, AV.int IntKind.i64 false T1, AV.int IntKind.i64 false T2, AV.int IntKind.i64 false Cm,
                                              AV.int IntKind.i64 false Sl, AV.int IntKind.i64 false Tk]))])))
                            (Tree.ret
                              (Ex.norm,
                                St.mk
                                  [AV.junk, AV.int IntKind.i64 false (stA R0 R1 R2 T1 T2 Cm Sl Tk u1 u2 (0 : Int) (List.getD ticks (Int.toNat (i : Int) * 1 + 0 + 0) (0 : Int))),
                                    AV.int IntKind.i64 false (stB R0 R1 R2 T1 T2 Cm Sl Tk u1 u2 (0 : Int) (List.getD ticks (Int.toNat (i : Int) * 1 + 0 + 0) (0 : Int))),
                                    AV.sl zticks (Ref.mk (0) (0) (0) (0)) false (List.length ticks) Cap.any, AV.ptr (Ref.mk (1) (0) (0) (0)), AV.junk, AV.junk, AV.junk,
                                    AV.junk, AV.int IntKind.i64 false (IntKind.wrap IntKind.i64 ((i : Int) + (1 : Int))), AV.junk, AV.junk, AV.junk, AV.junk, AV.junk, AV.junk, AV.junk, AV.junk, AV.junk, AV.junk, AV.junk, AV.junk, AV.junk,
                                    AV.junk, AV.junk, AV.junk, AV.junk, AV.junk, AV.junk, AV.junk, AV.junk, AV.junk, AV.junk, AV.junk, AV.junk, AV.junk, AV.junk, AV.junk, AV.junk, AV.junk, AV.junk, AV.junk, AV.junk, AV.junk, AV.junk, AV.junk,
                                    AV.junk, AV.junk, AV.junk, AV.junk, AV.junk, AV.junk, AV.junk, AV.junk, AV.junk, AV.junk, AV.junk, AV.junk, AV.junk, AV.junk, AV.junk, AV.junk, AV.junk, AV.junk, AV.junk, AV.junk, AV.junk, AV.junk, AV.junk,
                                    AV.junk, AV.junk, AV.junk, AV.junk, AV.junk, AV.junk, AV.junk, AV.junk, AV.junk, AV.junk, AV.junk, AV.junk, AV.junk, AV.junk, AV.junk, AV.junk, AV.junk, AV.junk, AV.junk, AV.junk, AV.junk, AV.junk, AV.junk,
                                    AV.junk, AV.junk, AV.junk, AV.junk, AV.junk, AV.junk, AV.junk]
                                  [some (Blk.mk (3) false false true (Data.ints IntKind.i64 ticks)),
                                    some
                                      (Blk.mk (23) true false false
                                        (Data.cells
                                          [AV.int IntKind.i64 false R0, AV.int IntKind.i64 false R1, AV.int IntKind.i64 false R2, AV.int IntKind.i64 false T1, AV.int IntKind.i64 false T2, AV.int IntKind.i64 false Cm,
                                            AV.int IntKind.i64 false Sl, AV.int IntKind.i64 false Tk]))])))))
                      (Tree.br (decide (stB R0 R1 R2 T1 T2 Cm Sl Tk u1 u2 (0 : Int) (List.getD ticks (Int.toNat (i : Int) * 1 + 0 + 0) (0 : Int)) > (0 : Int)))
                        (Tree.br (decide (u2 < (0 : Int)))
                          (Tree.ret
                            (Ex.ret,
                              St.mk
                                [AV.junk, AV.junk, AV.junk, AV.junk, AV.junk, AV.junk, AV.junk, AV.junk, AV.bool true false, AV.junk, AV.junk, AV.junk, AV.junk, AV.junk, AV.junk, AV.junk, AV.junk, AV.junk, AV.junk, AV.junk, AV.junk, AV.junk,
                                  AV.junk, AV.junk, AV.junk, AV.junk, AV.junk, AV.junk, AV.junk, AV.junk, AV.junk, AV.junk, AV.junk, AV.junk, AV.junk, AV.junk, AV.junk, AV.junk, AV.junk, AV.junk, AV.junk, AV.junk, AV.junk, AV.junk, AV.junk,
                                  AV.junk, AV.junk, AV.junk, AV.junk, AV.junk, AV.junk, AV.junk, AV.junk, AV.junk, AV.junk, AV.junk, AV.junk, AV.junk, AV.junk, AV.junk, AV.junk, AV.junk, AV.junk, AV.junk, AV.junk, AV.junk, AV.junk, AV.junk,
                                  AV.junk, AV.junk, AV.junk, AV.junk, AV.junk, AV.junk, AV.junk, AV.junk, AV.junk, AV.junk, AV.junk, AV.junk, AV.junk, AV.junk, AV.junk, AV.junk, AV.junk, AV.junk, AV.junk, AV.junk, AV.junk, AV.junk, AV.junk,
                                  AV.junk, AV.junk, AV.junk, AV.junk, AV.junk, AV.junk, AV.junk, AV.junk]
                                [some (Blk.mk (3) false false true (Data.ints IntKind.i64 ticks))]))
                          (Tree.br (decide (stB R0 R1 R2 T1 T2 Cm Sl Tk u1 u2 (0 : Int) (List.getD ticks (Int.toNat (i : Int) * 1 + 0 + 0) (0 : Int)) < (0 : Int)))
                            (Tree.br (decide (u2 > (0 : Int)))
                              (Tree.ret
                                (Ex.ret,
                                  St.mk
                                    [AV.junk, AV.junk, AV.junk, AV.junk, AV.junk, AV.junk, AV.junk, AV.junk, AV.bool true false, AV.junk, AV.junk, AV.junk, AV.junk, AV.junk, AV.junk, AV.junk, AV.junk, AV.junk, AV.junk, AV.junk, AV.junk,
                                      AV.junk, AV.junk, AV.junk, AV.junk, AV.junk, AV.junk, AV.junk, AV.junk, AV.junk, AV.junk, AV.junk, AV.junk, AV.junk, AV.junk, AV.junk, AV.junk, AV.junk, AV.junk, AV.junk, AV.junk, AV.junk, AV.junk,
                                      AV.junk, AV.junk, AV.junk, AV.junk, AV.junk, AV.junk, AV.junk, AV.junk, AV.junk, AV.junk, AV.junk, AV.junk, AV.junk, AV.junk, AV.junk, AV.junk, AV.junk, AV.junk, AV.junk, AV.junk, AV.junk, AV.junk,
                                      AV.junk, AV.junk, AV.junk, AV.junk, AV.junk, AV.junk, AV.junk, AV.junk, AV.junk, AV.junk, AV.junk, AV.junk, AV.junk, AV.junk, AV.junk, AV.junk, AV.junk, AV.junk, AV.junk, AV.junk, AV.junk, AV.junk,
                                      AV.junk, AV.junk, AV.junk, AV.junk, AV.junk, AV.junk, AV.junk, AV.junk, AV.junk, AV.junk, AV.junk, AV.junk]
                                    [some (Blk.mk (3) false false true (Data.ints IntKind.i64 ticks))]))
                              (Tree.ret
                                (Ex.norm,
                                  St.mk
                                    [AV.junk, AV.int IntKind.i64 false (stA R0 R1 R2 T1 T2 Cm Sl Tk u1 u2 (0 : Int) (List.getD ticks (Int.toNat (i : Int) * 1 + 0 + 0) (0 : Int))),
                                      AV.int IntKind.i64 false (stB R0 R1 R2 T1 T2 Cm Sl Tk u1 u2 (0 : Int) (List.getD ticks (Int.toNat (i : Int) * 1 + 0 + 0) (0 : Int))),
                                      AV.sl zticks (Ref.mk (0) (0) (0) (0)) false (List.length ticks) Cap.any, AV.ptr (Ref.mk (1) (0) (0) (0)), AV.junk, AV.junk, AV.junk,
                                      AV.junk, AV.int IntKind.i64 false (IntKind.wrap IntKind.i64 ((i : Int) + (1 : Int))), AV.junk, AV.junk, AV.junk, AV.junk, AV.junk, AV.junk, AV.junk, AV.junk, AV.junk, AV.junk, AV.junk, AV.junk, AV.junk,
                                      AV.junk, AV.junk, AV.junk, AV.junk, AV.junk, AV.junk, AV.junk, AV.junk, AV.junk, AV.junk, AV.junk, AV.junk, AV.junk, AV.junk, AV.junk, AV.junk, AV.junk, AV.junk, AV.junk, AV.junk, AV.junk, AV.junk,
                                      AV.junk, AV.junk, AV.junk, AV.junk, AV.junk, AV.junk, AV.junk, AV.junk, AV.junk, AV.junk, AV.junk, AV.junk, AV.junk, AV.junk, AV.junk, AV.junk, AV.junk, AV.junk, AV.junk, AV.junk, AV.junk, AV.junk,
                                      AV.junk, AV.junk, AV.junk, AV.junk, AV.junk, AV.junk, AV.junk, AV.junk, AV.junk, AV.junk, AV.junk, AV.junk, AV.junk, AV.junk, AV.junk, AV.junk, AV.junk, AV.junk, AV.junk, AV.junk, AV.junk, AV.junk,
                                      AV.junk, AV.junk, AV.junk, AV.junk, AV.junk, AV.junk, AV.junk, AV.junk, AV.junk, AV.junk]
                                    [some (Blk.mk (3) false false true (Data.ints IntKind.i64 ticks)),
                                      some
                                        (Blk.mk (23) true false false
                                          (Data.cells
                                            [AV.int IntKind.i64 false R0, AV.int IntKind.i64 false R1, AV.int IntKind.i64 false R2, AV.int IntKind.i64 false T1, AV.int IntKind.i64 false T2, AV.int IntKind.i64 false Cm,
                                              AV.int IntKind.i64 false Sl, AV.int IntKind.i64 false Tk]))])))
                            (Tree.ret
                              (Ex.norm,
                                St.mk
                                  [AV.junk, AV.int IntKind.i64 false (stA R0 R1 R2 T1 T2 Cm Sl Tk u1 u2 (0 : Int) (List.getD ticks (Int.toNat (i : Int) * 1 + 0 + 0) (0 : Int))),
                                    AV.int IntKind.i64 false (stB R0 R1 R2 T1 T2 Cm Sl Tk u1 u2 (0 : Int) (List.getD ticks (Int.toNat (i : Int) * 1 + 0 + 0) (0 : Int))),
                                    AV.sl zticks (Ref.mk (0) (0) (0) (0)) false (List.length ticks) Cap.any, AV.ptr (Ref.mk (1) (0) (0) (0)), AV.junk, AV.junk, AV.junk,
                                    AV.junk, AV.int IntKind.i64 false (IntKind.wrap IntKind.i64 ((i : Int) + (1 : Int))), AV.junk, AV.junk, AV.junk, AV.junk, AV.junk, AV.junk, AV.junk, AV.junk, AV.junk, AV.junk, AV.junk, AV.junk, AV.junk,
                                    AV.junk, AV.junk, AV.junk, AV.junk, AV.junk, AV.junk, AV.junk, AV.junk, AV.junk, AV.junk, AV.junk, AV.junk, AV.junk, AV.junk, AV.junk, AV.junk, AV.junk, AV.junk, AV.junk, AV.junk, AV.junk, AV.junk, AV.junk,
                                    AV.junk, AV.junk, AV.junk, AV.junk, AV.junk, AV.junk, AV.junk, AV.junk, AV.junk, AV.junk, AV.junk, AV.junk, AV.junk, AV.junk, AV.junk, AV.junk, AV.junk, AV.junk, AV.junk, AV.junk, AV.junk, AV.junk, AV.junk,
                                    AV.junk, AV.junk, AV.junk, AV.junk, AV.junk, AV.junk, AV.junk, AV.junk, AV.junk, AV.junk, AV.junk, AV.junk, AV.junk, AV.junk, AV.junk, AV.junk, AV.junk, AV.junk, AV.junk, AV.junk, AV.junk, AV.junk, AV.junk,
                                    AV.junk, AV.junk, AV.junk, AV.junk, AV.junk, AV.junk, AV.junk]
                                  [some (Blk.mk (3) false false true (Data.ints IntKind.i64 ticks)),
                                    some
                                      (Blk.mk (23) true false false
                                        (Data.cells
                                          [AV.int IntKind.i64 false R0, AV.int IntKind.i64 false R1, AV.int IntKind.i64 false R2, AV.int IntKind.i64 false T1, AV.int IntKind.i64 false T2, AV.int IntKind.i64 false Cm,
                                            AV.int IntKind.i64 false Sl, AV.int IntKind.i64 false Tk]))]))))
                        (Tree.br (decide (stB R0 R1 R2 T1 T2 Cm Sl Tk u1 u2 (0 : Int) (List.getD ticks (Int.toNat (i : Int) * 1 + 0 + 0) (0 : Int)) < (0 : Int)))
                          (Tree.br (decide (u2 > (0 : Int)))
                            (Tree.ret
                              (Ex.ret,
                                St.mk
                                  [AV.junk, AV.junk, AV.junk, AV.junk, AV.junk, AV.junk, AV.junk, AV.junk, AV.bool true false, AV.junk, AV.junk, AV.junk, AV.junk, AV.junk, AV.junk, AV.junk, AV.junk, AV.junk, AV.junk, AV.junk, AV.junk,
                                    AV.junk, AV.junk, AV.junk, AV.junk, AV.junk, AV.junk, AV.junk, AV.junk, AV.junk, AV.junk, AV.junk, AV.junk, AV.junk, AV.junk, AV.junk, AV.junk, AV.junk, AV.junk, AV.junk, AV.junk, AV.junk, AV.junk, AV.junk,
                                    AV.junk, AV.junk, AV.junk, AV.junk, AV.junk, AV.junk, AV.junk, AV.junk, AV.junk, AV.junk, AV.junk, AV.junk, AV.junk, AV.junk, AV.junk, AV.junk, AV.junk, AV.junk, AV.junk, AV.junk, AV.junk, AV.junk, AV.junk,
                                    AV.junk, AV.junk, AV.junk, AV.junk, AV.junk, AV.junk, AV.junk, AV.junk, AV.junk, AV.junk, AV.junk, AV.junk, AV.junk, AV.junk, AV.junk, AV.junk, AV.junk, AV.junk, AV.junk, AV.junk, AV.junk, AV.junk, AV.junk,
                                    AV.junk, AV.junk, AV.junk, AV.junk, AV.junk, AV.junk, AV.junk, AV.junk, AV.junk]
                                  [some (Blk.mk (3) false false true (Data.ints IntKind.i64 ticks))]))
                            (Tree.ret
                              (Ex.norm,
                                St.mk
                                  [AV.junk, AV.int IntKind.i64 false (stA R0 R1 R2 T1 T2 Cm Sl Tk u1 u2 (0 : Int) (List.getD ticks (Int.toNat (i : Int) * 1 + 0 + 0) (0 : Int))),
                                    AV.int IntKind.i64 false (stB R0 R1 R2 T1 T2 Cm Sl Tk u1 u2 (0 : Int) (List.getD ticks (Int.toNat (i : Int) * 1 + 0 + 0) (0 : Int))),
                                    AV.sl zticks (Ref.mk (0) (0) (0) (0)) false (List.length ticks) Cap.any, AV.ptr (Ref.mk (1) (0) (0) (0)), AV.junk, AV.junk, AV.junk,
                                    AV.junk, AV.int IntKind.i64 false (IntKind.wrap IntKind.i64 ((i : Int) + (1 : Int))), AV.junk, AV.junk, AV.junk, AV.junk, AV.junk, AV.junk, AV.junk, AV.junk, AV.junk, AV.junk, AV.junk, AV.junk, AV.junk,
                                    AV.junk, AV.junk, AV.junk, AV.junk, AV.junk, AV.junk, AV.junk, AV.junk, AV.junk, AV.junk, AV.junk, AV.junk, AV.junk, AV.junk, AV.junk, AV.junk, AV.junk, AV.junk, AV.junk, AV.junk, AV.junk, AV.junk, AV.junk,
                                    AV.junk, AV.junk, AV.junk, AV.junk, AV.junk, AV.junk, AV.junk, AV.junk, AV.junk, AV.junk, AV.junk, AV.junk, AV.junk, AV.junk, AV.junk, AV.junk, AV.junk, AV.junk, AV.junk, AV.junk, AV.junk, AV.junk, AV.junk,
                                    AV.junk, AV.junk, AV.junk, AV.junk, AV.junk, AV.junk, AV.junk, AV.junk, AV.junk, AV.junk, AV.junk, AV.junk, AV.junk, AV.junk, AV.junk, AV.junk, AV.junk, AV.junk, AV.junk, AV.junk, AV.junk, AV.junk, AV.junk,
                                    AV.junk, AV.junk, AV.junk, AV.junk, AV.junk, AV.junk, AV.junk]
                                  [some (Blk.mk (3) false false true (Data.ints IntKind.i64 ticks)),
                                    some
                                      (Blk.mk (23) true false false
                                        (Data.cells
                                          [AV.int IntKind.i64 false R0, AV.int IntKind.i64 false R1, AV.int IntKind.i64 false R2, AV.int IntKind.i64 false T1, AV.int IntKind.i64 false T2, AV.int IntKind.i64 false Cm,
                                            AV.int IntKind.i64 false Sl, AV.int IntKind.i64 false Tk]))])))
                          (Tree.ret
                            (Ex.norm,
                              St.mk
                                [AV.junk, AV.int IntKind.i64 false (stA R0 R1 R2 T1 T2 Cm Sl Tk u1 u2 (0 : Int) (List.getD ticks (Int.toNat (i : Int) * 1 + 0 + 0) (0 : Int))),
                                  AV.int IntKind.i64 false (stB R0 R1 R2 T1 T2 Cm Sl Tk u1 u2 (0 : Int) (List.getD ticks (Int.toNat (i : Int) * 1 + 0 + 0) (0 : Int))),
                                  AV.sl zticks (Ref.mk (0) (0) (0) (0)) false (List.length ticks) Cap.any, AV.ptr (Ref.mk (1) (0) (0) (0)), AV.junk, AV.junk, AV.junk,
                                  AV.junk, AV.int IntKind.i64 false (IntKind.wrap IntKind.i64 ((i : Int) + (1 : Int))), AV.junk, AV.junk, AV.junk, AV.junk, AV.junk, AV.junk, AV.junk, AV.junk, AV.junk, AV.junk, AV.junk, AV.junk, AV.junk, AV.junk,
                                  AV.junk, AV.junk, AV.junk, AV.junk, AV.junk, AV.junk, AV.junk, AV.junk, AV.junk, AV.junk, AV.junk, AV.junk, AV.junk, AV.junk, AV.junk, AV.junk, AV.junk, AV.junk, AV.junk, AV.junk, AV.junk, AV.junk, AV.junk,
                                  AV.junk, AV.junk, AV.junk, AV.junk, AV.junk, AV.junk, AV.junk, AV.junk, AV.junk, AV.junk, AV.junk, AV.junk, AV.junk, AV.junk, AV.junk, AV.junk, AV.junk, AV.junk, AV.junk, AV.junk, AV.junk, AV.junk, AV.junk,
                                  AV.junk, AV.junk, AV.junk, AV.junk, AV.junk, AV.junk, AV.junk, AV.junk, AV.junk, AV.junk, AV.junk, AV.junk, AV.junk, AV.junk, AV.junk, AV.junk, AV.junk, AV.junk, AV.junk, AV.junk, AV.junk, AV.junk, AV.junk,
                                  AV.junk, AV.junk, AV.junk, AV.junk, AV.junk, AV.junk]
                                [some (Blk.mk (3) false false true (Data.ints IntKind.i64 ticks)),
                                  some
                                    (Blk.mk (23) true false false
                                      (Data.cells
                                        [AV.int IntKind.i64 false R0, AV.int IntKind.i64 false R1, AV.int IntKind.i64 false R2, AV.int IntKind.i64 false T1, AV.int IntKind.i64 false T2, AV.int IntKind.i64 false Cm,
                                          AV.int IntKind.i64 false Sl, AV.int IntKind.i64 false Tk]))]))))))))))
          Tree.fail)
        Tree.fail)
      (Tree.ret
        (Ex.exit (0),
          St.mk
            [AV.junk, AV.junk, AV.junk, AV.junk, AV.junk, AV.junk, AV.junk, AV.junk, AV.junk, AV.junk, AV.junk, AV.junk, AV.junk, AV.junk, AV.junk, AV.junk, AV.junk, AV.junk, AV.junk, AV.junk, AV.junk, AV.junk, AV.junk, AV.junk, AV.junk,
              AV.junk, AV.junk, AV.junk, AV.junk, AV.junk, AV.junk, AV.junk, AV.junk, AV.junk, AV.junk, AV.junk, AV.junk, AV.junk, AV.junk, AV.junk, AV.junk, AV.junk, AV.junk, AV.junk, AV.junk, AV.junk, AV.junk, AV.junk, AV.junk, AV.junk,
              AV.junk, AV.junk, AV.junk, AV.junk, AV.junk, AV.junk, AV.junk, AV.junk, AV.junk, AV.junk, AV.junk, AV.junk, AV.junk, AV.junk, AV.junk, AV.junk, AV.junk, AV.junk, AV.junk, AV.junk, AV.junk, AV.junk, AV.junk, AV.junk, AV.junk,
              AV.junk, AV.junk, AV.junk, AV.junk, AV.junk, AV.junk, AV.junk, AV.junk, AV.junk, AV.junk, AV.junk, AV.junk, AV.junk, AV.junk, AV.junk, AV.junk, AV.junk, AV.junk, AV.junk, AV.junk, AV.junk, AV.junk, AV.junk, AV.junk]
            [some (Blk.mk (3) false false true (Data.ints IntKind.i64 ticks))])))
    (Tree.ret
      (Ex.exit (0),
        St.mk
          [AV.junk, AV.junk, AV.junk, AV.junk, AV.junk, AV.junk, AV.junk, AV.junk, AV.junk, AV.junk, AV.junk, AV.junk, AV.junk, AV.junk, AV.junk, AV.junk, AV.junk, AV.junk, AV.junk, AV.junk, AV.junk, AV.junk, AV.junk, AV.junk, AV.junk,
            AV.junk, AV.junk, AV.junk, AV.junk, AV.junk, AV.junk, AV.junk, AV.junk, AV.junk, AV.junk, AV.junk, AV.junk, AV.junk, AV.junk, AV.junk, AV.junk, AV.junk, AV.junk, AV.junk, AV.junk, AV.junk, AV.junk, AV.junk, AV.junk, AV.junk,
            AV.junk, AV.junk, AV.junk, AV.junk, AV.junk, AV.junk, AV.junk, AV.junk, AV.junk, AV.junk, AV.junk, AV.junk, AV.junk, AV.junk, AV.junk, AV.junk, AV.junk, AV.junk, AV.junk, AV.junk, AV.junk, AV.junk, AV.junk, AV.junk, AV.junk,
            AV.junk, AV.junk, AV.junk, AV.junk, AV.junk, AV.junk, AV.junk, AV.junk, AV.junk, AV.junk, AV.junk, AV.junk, AV.junk, AV.junk, AV.junk, AV.junk, AV.junk, AV.junk, AV.junk, AV.junk, AV.junk, AV.junk, AV.junk, AV.junk]
          [some (Blk.mk (3) false false true (Data.ints IntKind.i64 ticks))])) : Tree (Ex × St)).Sat (Post hdModelCalms_0 resModelCalms_0 muModelCalms_0 ⟨R0, R1, R2, T1, T2, Cm, Sl, Tk, u1, u2, zticks, ticks, i⟩ ex r) := by
  simp only [okModelCalms_0, outModelCalms_0, Tree.runs] at hok hr
  obtain ⟨a0, b0, a1, b1, a2, b2, a3, b3, a4, b4, a5, b5, a6, b6, a7, b7, u0, u1_, v0, v1, hi, h60, hz, hl, hw⟩ := hok
  simp only [Int.toNat_natCast, Nat.mul_one, Nat.add_zero]
  refine Tree.Sat.br (fun h1 => ?_) (fun h1 => ?_)
  · (try simp only [decide_eq_true_eq, decide_eq_false_iff_not, Bool.not_eq_true', Bool.not_eq_false', beq_iff_eq, beq_eq_false_iff_ne, Int.not_lt, Int.not_le, ge_iff_le, gt_iff_lt, ne_eq, Bool.false_eq_true, Bool.true_eq_false, not_true_eq_false, not_false_eq_true, Bool.and_eq_true, Bool.not_eq_eq_eq_not, Bool.not_true, Bool.not_false, bne_iff_ne, bne_eq_false_iff_eq, Int.toNat_natCast, Nat.mul_one, Nat.add_zero, Nat.zero_add, List.take_length, List.drop_zero] at h1)
    all_goals
      refine Tree.Sat.br (fun h2 => ?_) (fun h2 => ?_)
      · (try simp only [decide_eq_true_eq, decide_eq_false_iff_not, Bool.not_eq_true', Bool.not_eq_false', beq_iff_eq, beq_eq_false_iff_ne, Int.not_lt, Int.not_le, ge_iff_le, gt_iff_lt, ne_eq, Bool.false_eq_true, Bool.true_eq_false, not_true_eq_false, not_false_eq_true, Bool.and_eq_true, Bool.not_eq_eq_eq_not, Bool.not_true, Bool.not_false, bne_iff_ne, bne_eq_false_iff_eq, Int.toNat_natCast, Nat.mul_one, Nat.add_zero, Nat.zero_add, List.take_length, List.drop_zero] at h2)
        all_goals
          refine Tree.Sat.br (fun h3 => ?_) (fun h3 => ?_)
          · (try simp only [decide_eq_true_eq, decide_eq_false_iff_not, Bool.not_eq_true', Bool.not_eq_false', beq_iff_eq, beq_eq_false_iff_ne, Int.not_lt, Int.not_le, ge_iff_le, gt_iff_lt, ne_eq, Bool.false_eq_true, Bool.true_eq_false, not_true_eq_false, not_false_eq_true, Bool.and_eq_true, Bool.not_eq_eq_eq_not, Bool.not_true, Bool.not_false, bne_iff_ne, bne_eq_false_iff_eq, Int.toNat_natCast, Nat.mul_one, Nat.add_zero, Nat.zero_add, List.take_length, List.drop_zero] at h3)
            all_goals
              refine Tree.Sat.br (fun h4 => ?_) (fun h4 => ?_)
              · (try simp only [decide_eq_true_eq, decide_eq_false_iff_not, Bool.not_eq_true', Bool.not_eq_false', beq_iff_eq, beq_eq_false_iff_ne, Int.not_lt, Int.not_le, ge_iff_le, gt_iff_lt, ne_eq, Bool.false_eq_true, Bool.true_eq_false, not_true_eq_false, not_false_eq_true, Bool.and_eq_true, Bool.not_eq_eq_eq_not, Bool.not_true, Bool.not_false, bne_iff_ne, bne_eq_false_iff_eq, Int.toNat_natCast, Nat.mul_one, Nat.add_zero, Nat.zero_add, List.take_length, List.drop_zero] at h4)
                all_goals
                  refine Tree.Sat.chk (by first | (simp only [and_self]; done) | (have hg := wfL_get hw (show i < ticks.length by omega); (repeat' with_reducible refine And.intro ?_ ?_) <;> first | trivial | omega | (simp only [ckE] at *; split at * <;> omega))) ?_
                  refine Tree.Sat.br (fun h5 => ?_) (fun h5 => ?_)
                  · (try simp only [decide_eq_true_eq, decide_eq_false_iff_not, Bool.not_eq_true', Bool.not_eq_false', beq_iff_eq, beq_eq_false_iff_ne, Int.not_lt, Int.not_le, ge_iff_le, gt_iff_lt, ne_eq, Bool.false_eq_true, Bool.true_eq_false, not_true_eq_false, not_false_eq_true, Bool.and_eq_true, Bool.not_eq_eq_eq_not, Bool.not_true, Bool.not_false, bne_iff_ne, bne_eq_false_iff_eq, Int.toNat_natCast, Nat.mul_one, Nat.add_zero, Nat.zero_add, List.take_length, List.drop_zero] at h5)
                    all_goals
                      refine Tree.Sat.br (fun h6 => ?_) (fun h6 => ?_)
                      · (try simp only [decide_eq_true_eq, decide_eq_false_iff_not, Bool.not_eq_true', Bool.not_eq_false', beq_iff_eq, beq_eq_false_iff_ne, Int.not_lt, Int.not_le, ge_iff_le, gt_iff_lt, ne_eq, Bool.false_eq_true, Bool.true_eq_false, not_true_eq_false, not_false_eq_true, Bool.and_eq_true, Bool.not_eq_eq_eq_not, Bool.not_true, Bool.not_false, bne_iff_ne, bne_eq_false_iff_eq, Int.toNat_natCast, Nat.mul_one, Nat.add_zero, Nat.zero_add, List.take_length, List.drop_zero] at h6)
                        all_goals
                          refine Tree.Sat.ret ?_
                          obtain ⟨hk, e1, e2⟩ := st_no h5
                          have hq := hr.1 (by rw [next60 (by omega) (by omega)]; simp only [runC]; rw [if_neg hk])
                          simp only [Prod.mk.injEq] at hq
                          obtain ⟨rfl, rfl⟩ := hq
                          refine .ret rfl ?_
                          constructor <;> simp only [AV.leL, AV.le, Mem.le, Mem.leP, Blk.le, Blk.pad, Data.le, Data.size, Cap.le, and_true, true_and, and_self, true_implies, implies_true, imp_self, List.length_nil] <;> (repeat' with_reducible refine And.intro ?_ ?_) <;> (try simp only [Int.toNat_natCast, Nat.mul_one, Nat.add_zero, Nat.zero_add]) <;> (rw [e2]; rfl)
                      · (try simp only [decide_eq_true_eq, decide_eq_false_iff_not, Bool.not_eq_true', Bool.not_eq_false', beq_iff_eq, beq_eq_false_iff_ne, Int.not_lt, Int.not_le, ge_iff_le, gt_iff_lt, ne_eq, Bool.false_eq_true, Bool.true_eq_false, not_true_eq_false, not_false_eq_true, Bool.and_eq_true, Bool.not_eq_eq_eq_not, Bool.not_true, Bool.not_false, bne_iff_ne, bne_eq_false_iff_eq, Int.toNat_natCast, Nat.mul_one, Nat.add_zero, Nat.zero_add, List.take_length, List.drop_zero] at h6)
                        all_goals
                          refine Tree.Sat.ret ?_
                          exfalso
                          obtain ⟨hk, e1, e2⟩ := st_no h5
                          omega
                  · (try simp only [decide_eq_true_eq, decide_eq_false_iff_not, Bool.not_eq_true', Bool.not_eq_false', beq_iff_eq, beq_eq_false_iff_ne, Int.not_lt, Int.not_le, ge_iff_le, gt_iff_lt, ne_eq, Bool.false_eq_true, Bool.true_eq_false, not_true_eq_false, not_false_eq_true, Bool.and_eq_true, Bool.not_eq_eq_eq_not, Bool.not_true, Bool.not_false, bne_iff_ne, bne_eq_false_iff_eq, Int.toNat_natCast, Nat.mul_one, Nat.add_zero, Nat.zero_add, List.take_length, List.drop_zero] at h5)
                    all_goals
                      refine Tree.Sat.br (fun h6 => ?_) (fun h6 => ?_)
                      · (try simp only [decide_eq_true_eq, decide_eq_false_iff_not, Bool.not_eq_true', Bool.not_eq_false', beq_iff_eq, beq_eq_false_iff_ne, Int.not_lt, Int.not_le, ge_iff_le, gt_iff_lt, ne_eq, Bool.false_eq_true, Bool.true_eq_false, not_true_eq_false, not_false_eq_true, Bool.and_eq_true, Bool.not_eq_eq_eq_not, Bool.not_true, Bool.not_false, bne_iff_ne, bne_eq_false_iff_eq, Int.toNat_natCast, Nat.mul_one, Nat.add_zero, Nat.zero_add, List.take_length, List.drop_zero] at h6)
                        all_goals
                          refine Tree.Sat.ret ?_
                          exfalso
                          have hs := st_ok (R0 := R0) (R1 := R1) (R2 := R2) (T1 := T1) (T2 := T2) (Cm := Cm) (Sl := Sl) (Tk := Tk) (u1 := u1) (u2 := u2) (I := 0) (t := (ticks.getD i 0)) h5
                          obtain ⟨hk, e1, e2⟩ := hs
                          have hk' := hk
                          obtain ⟨⟨_, _, _, ⟨k1, _⟩, ⟨k2, _⟩, _⟩, ⟨x0, x1, x2, x3, _, _⟩, k3, _⟩ := hk'
                          have rA := rel_between (u := u1) (I := 0) (r := R1) (tau := T1) (t := (ticks.getD i 0)) k3 k1
                          have rB := rel_between (u := u2) (I := 0) (r := R2) (tau := T2) (t := (ticks.getD i 0)) k3 k2
                          rw [drive_zero] at rA rB
                          simp only [w64] at *
                          omega
                      · (try simp only [decide_eq_true_eq, decide_eq_false_iff_not, Bool.not_eq_true', Bool.not_eq_false', beq_iff_eq, beq_eq_false_iff_ne, Int.not_lt, Int.not_le, ge_iff_le, gt_iff_lt, ne_eq, Bool.false_eq_true, Bool.true_eq_false, not_true_eq_false, not_false_eq_true, Bool.and_eq_true, Bool.not_eq_eq_eq_not, Bool.not_true, Bool.not_false, bne_iff_ne, bne_eq_false_iff_eq, Int.toNat_natCast, Nat.mul_one, Nat.add_zero, Nat.zero_add, List.take_length, List.drop_zero] at h6)
                        all_goals
                          refine Tree.Sat.br (fun h7 => ?_) (fun h7 => ?_)
                          · (try simp only [decide_eq_true_eq, decide_eq_false_iff_not, Bool.not_eq_true', Bool.not_eq_false', beq_iff_eq, beq_eq_false_iff_ne, Int.not_lt, Int.not_le, ge_iff_le, gt_iff_lt, ne_eq, Bool.false_eq_true, Bool.true_eq_false, not_true_eq_false, not_false_eq_true, Bool.and_eq_true, Bool.not_eq_eq_eq_not, Bool.not_true, Bool.not_false, bne_iff_ne, bne_eq_false_iff_eq, Int.toNat_natCast, Nat.mul_one, Nat.add_zero, Nat.zero_add, List.take_length, List.drop_zero] at h7)
                            all_goals
                              refine Tree.Sat.ret ?_
                              exfalso
                              have hs := st_ok (R0 := R0) (R1 := R1) (R2 := R2) (T1 := T1) (T2 := T2) (Cm := Cm) (Sl := Sl) (Tk := Tk) (u1 := u1) (u2 := u2) (I := 0) (t := (ticks.getD i 0)) h5
                              obtain ⟨hk, e1, e2⟩ := hs
                              have hk' := hk
                              obtain ⟨⟨_, _, _, ⟨k1, _⟩, ⟨k2, _⟩, _⟩, ⟨x0, x1, x2, x3, _, _⟩, k3, _⟩ := hk'
                              have rA := rel_between (u := u1) (I := 0) (r := R1) (tau := T1) (t := (ticks.getD i 0)) k3 k1
                              have rB := rel_between (u := u2) (I := 0) (r := R2) (tau := T2) (t := (ticks.getD i 0)) k3 k2
                              rw [drive_zero] at rA rB
                              simp only [w64] at *
                              omega
                          · (try simp only [decide_eq_true_eq, decide_eq_false_iff_not, Bool.not_eq_true', Bool.not_eq_false', beq_iff_eq, beq_eq_false_iff_ne, Int.not_lt, Int.not_le, ge_iff_le, gt_iff_lt, ne_eq, Bool.false_eq_true, Bool.true_eq_false, not_true_eq_false, not_false_eq_true, Bool.and_eq_true, Bool.not_eq_eq_eq_not, Bool.not_true, Bool.not_false, bne_iff_ne, bne_eq_false_iff_eq, Int.toNat_natCast, Nat.mul_one, Nat.add_zero, Nat.zero_add, List.take_length, List.drop_zero] at h7)
                            all_goals
                              refine Tree.Sat.br (fun h8 => ?_) (fun h8 => ?_)
                              · (try simp only [decide_eq_true_eq, decide_eq_false_iff_not, Bool.not_eq_true', Bool.not_eq_false', beq_iff_eq, beq_eq_false_iff_ne, Int.not_lt, Int.not_le, ge_iff_le, gt_iff_lt, ne_eq, Bool.false_eq_true, Bool.true_eq_false, not_true_eq_false, not_false_eq_true, Bool.and_eq_true, Bool.not_eq_eq_eq_not, Bool.not_true, Bool.not_false, bne_iff_ne, bne_eq_false_iff_eq, Int.toNat_natCast, Nat.mul_one, Nat.add_zero, Nat.zero_add, List.take_length, List.drop_zero] at h8)
                                all_goals
                                  refine Tree.Sat.br (fun h9 => ?_) (fun h9 => ?_)
                                  · (try simp only [decide_eq_true_eq, decide_eq_false_iff_not, Bool.not_eq_true', Bool.not_eq_false', beq_iff_eq, beq_eq_false_iff_ne, Int.not_lt, Int.not_le, ge_iff_le, gt_iff_lt, ne_eq, Bool.false_eq_true, Bool.true_eq_false, not_true_eq_false, not_false_eq_true, Bool.and_eq_true, Bool.not_eq_eq_eq_not, Bool.not_true, Bool.not_false, bne_iff_ne, bne_eq_false_iff_eq, Int.toNat_natCast, Nat.mul_one, Nat.add_zero, Nat.zero_add, List.take_length, List.drop_zero] at h9)
                                    all_goals
                                      refine Tree.Sat.ret ?_
                                      exfalso
                                      have hs := st_ok (R0 := R0) (R1 := R1) (R2 := R2) (T1 := T1) (T2 := T2) (Cm := Cm) (Sl := Sl) (Tk := Tk) (u1 := u1) (u2 := u2) (I := 0) (t := (ticks.getD i 0)) h5
                                      obtain ⟨hk, e1, e2⟩ := hs
                                      have hk' := hk
                                      obtain ⟨⟨_, _, _, ⟨k1, _⟩, ⟨k2, _⟩, _⟩, ⟨x0, x1, x2, x3, _, _⟩, k3, _⟩ := hk'
                                      have rA := rel_between (u := u1) (I := 0) (r := R1) (tau := T1) (t := (ticks.getD i 0)) k3 k1
                                      have rB := rel_between (u := u2) (I := 0) (r := R2) (tau := T2) (t := (ticks.getD i 0)) k3 k2
                                      rw [drive_zero] at rA rB
                                      simp only [w64] at *
                                      omega
                                  · (try simp only [decide_eq_true_eq, decide_eq_false_iff_not, Bool.not_eq_true', Bool.not_eq_false', beq_iff_eq, beq_eq_false_iff_ne, Int.not_lt, Int.not_le, ge_iff_le, gt_iff_lt, ne_eq, Bool.false_eq_true, Bool.true_eq_false, not_true_eq_false, not_false_eq_true, Bool.and_eq_true, Bool.not_eq_eq_eq_not, Bool.not_true, Bool.not_false, bne_iff_ne, bne_eq_false_iff_eq, Int.toNat_natCast, Nat.mul_one, Nat.add_zero, Nat.zero_add, List.take_length, List.drop_zero] at h9)
                                    all_goals
                                      refine Tree.Sat.br (fun h10 => ?_) (fun h10 => ?_)
                                      · (try simp only [decide_eq_true_eq, decide_eq_false_iff_not, Bool.not_eq_true', Bool.not_eq_false', beq_iff_eq, beq_eq_false_iff_ne, Int.not_lt, Int.not_le, ge_iff_le, gt_iff_lt, ne_eq, Bool.false_eq_true, Bool.true_eq_false, not_true_eq_false, not_false_eq_true, Bool.and_eq_true, Bool.not_eq_eq_eq_not, Bool.not_true, Bool.not_false, bne_iff_ne, bne_eq_false_iff_eq, Int.toNat_natCast, Nat.mul_one, Nat.add_zero, Nat.zero_add, List.take_length, List.drop_zero] at h10)
                                        all_goals
                                          refine Tree.Sat.br (fun h11 => ?_) (fun h11 => ?_)
                                          · (try simp only [decide_eq_true_eq, decide_eq_false_iff_not, Bool.not_eq_true', Bool.not_eq_false', beq_iff_eq, beq_eq_false_iff_ne, Int.not_lt, Int.not_le, ge_iff_le, gt_iff_lt, ne_eq, Bool.false_eq_true, Bool.true_eq_false, not_true_eq_false, not_false_eq_true, Bool.and_eq_true, Bool.not_eq_eq_eq_not, Bool.not_true, Bool.not_false, bne_iff_ne, bne_eq_false_iff_eq, Int.toNat_natCast, Nat.mul_one, Nat.add_zero, Nat.zero_add, List.take_length, List.drop_zero] at h11)
                                            all_goals
                                              refine Tree.Sat.ret ?_
                                              exfalso
                                              have hs := st_ok (R0 := R0) (R1 := R1) (R2 := R2) (T1 := T1) (T2 := T2) (Cm := Cm) (Sl := Sl) (Tk := Tk) (u1 := u1) (u2 := u2) (I := 0) (t := (ticks.getD i 0)) h5
                                              obtain ⟨hk, e1, e2⟩ := hs
                                              have hk' := hk
                                              obtain ⟨⟨_, _, _, ⟨k1, _⟩, ⟨k2, _⟩, _⟩, ⟨x0, x1, x2, x3, _, _⟩, k3, _⟩ := hk'
                                              have rA := rel_between (u := u1) (I := 0) (r := R1) (tau := T1) (t := (ticks.getD i 0)) k3 k1
                                              have rB := rel_between (u := u2) (I := 0) (r := R2) (tau := T2) (t := (ticks.getD i 0)) k3 k2
                                              rw [drive_zero] at rA rB
                                              simp only [w64] at *
                                              omega
                                          · (try simp only [decide_eq_true_eq, decide_eq_false_iff_not, Bool.not_eq_true', Bool.not_eq_false', beq_iff_eq, beq_eq_false_iff_ne, Int.not_lt, Int.not_le, ge_iff_le, gt_iff_lt, ne_eq, Bool.false_eq_true, Bool.true_eq_false, not_true_eq_false, not_false_eq_true, Bool.and_eq_true, Bool.not_eq_eq_eq_not, Bool.not_true, Bool.not_false, bne_iff_ne, bne_eq_false_iff_eq, Int.toNat_natCast, Nat.mul_one, Nat.add_zero, Nat.zero_add, List.take_length, List.drop_zero] at h11)
                                            all_goals
                                              refine Tree.Sat.br (fun h12 => ?_) (fun h12 => ?_)
                                              · (try simp only [decide_eq_true_eq, decide_eq_false_iff_not, Bool.not_eq_true', Bool.not_eq_false', beq_iff_eq, beq_eq_false_iff_ne, Int.not_lt, Int.not_le, ge_iff_le, gt_iff_lt, ne_eq, Bool.false_eq_true, Bool.true_eq_false, not_true_eq_false, not_false_eq_true, Bool.and_eq_true, Bool.not_eq_eq_eq_not, Bool.not_true, Bool.not_false, bne_iff_ne, bne_eq_false_iff_eq, Int.toNat_natCast, Nat.mul_one, Nat.add_zero, Nat.zero_add, List.take_length, List.drop_zero] at h12)
                                                all_goals
                                                  refine Tree.Sat.br (fun h13 => ?_) (fun h13 => ?_)
                                                  · (try simp only [decide_eq_true_eq, decide_eq_false_iff_not, Bool.not_eq_true', Bool.not_eq_false', beq_iff_eq, beq_eq_false_iff_ne, Int.not_lt, Int.not_le, ge_iff_le, gt_iff_lt, ne_eq, Bool.false_eq_true, Bool.true_eq_false, not_true_eq_false, not_false_eq_true, Bool.and_eq_true, Bool.not_eq_eq_eq_not, Bool.not_true, Bool.not_false, bne_iff_ne, bne_eq_false_iff_eq, Int.toNat_natCast, Nat.mul_one, Nat.add_zero, Nat.zero_add, List.take_length, List.drop_zero] at h13)
                                                    all_goals
                                                      refine Tree.Sat.ret ?_
                                                      exfalso
                                                      have hs := st_ok (R0 := R0) (R1 := R1) (R2 := R2) (T1 := T1) (T2 := T2) (Cm := Cm) (Sl := Sl) (Tk := Tk) (u1 := u1) (u2 := u2) (I := 0) (t := (ticks.getD i 0)) h5
                                                      obtain ⟨hk, e1, e2⟩ := hs
                                                      have hk' := hk
                                                      obtain ⟨⟨_, _, _, ⟨k1, _⟩, ⟨k2, _⟩, _⟩, ⟨x0, x1, x2, x3, _, _⟩, k3, _⟩ := hk'
                                                      have rA := rel_between (u := u1) (I := 0) (r := R1) (tau := T1) (t := (ticks.getD i 0)) k3 k1
                                                      have rB := rel_between (u := u2) (I := 0) (r := R2) (tau := T2) (t := (ticks.getD i 0)) k3 k2
                                                      rw [drive_zero] at rA rB
                                                      simp only [w64] at *
                                                      omega
                                                  · (try simp only [decide_eq_true_eq, decide_eq_false_iff_not, Bool.not_eq_true', Bool.not_eq_false', beq_iff_eq, beq_eq_false_iff_ne, Int.not_lt, Int.not_le, ge_iff_le, gt_iff_lt, ne_eq, Bool.false_eq_true, Bool.true_eq_false, not_true_eq_false, not_false_eq_true, Bool.and_eq_true, Bool.not_eq_eq_eq_not, Bool.not_true, Bool.not_false, bne_iff_ne, bne_eq_false_iff_eq, Int.toNat_natCast, Nat.mul_one, Nat.add_zero, Nat.zero_add, List.take_length, List.drop_zero] at h13)
                                                    all_goals
                                                      refine Tree.Sat.br (fun h14 => ?_) (fun h14 => ?_)
                                                      · (try simp only [decide_eq_true_eq, decide_eq_false_iff_not, Bool.not_eq_true', Bool.not_eq_false', beq_iff_eq, beq_eq_false_iff_ne, Int.not_lt, Int.not_le, ge_iff_le, gt_iff_lt, ne_eq, Bool.false_eq_true, Bool.true_eq_false, not_true_eq_false, not_false_eq_true, Bool.and_eq_true, Bool.not_eq_eq_eq_not, Bool.not_true, Bool.not_false, bne_iff_ne, bne_eq_false_iff_eq, Int.toNat_natCast, Nat.mul_one, Nat.add_zero, Nat.zero_add, List.take_length, List.drop_zero] at h14)
                                                        all_goals
                                                          refine Tree.Sat.br (fun h15 => ?_) (fun h15 => ?_)
                                                          · (try simp only [decide_eq_true_eq, decide_eq_false_iff_not, Bool.not_eq_true', Bool.not_eq_false', beq_iff_eq, beq_eq_false_iff_ne, Int.not_lt, Int.not_le, ge_iff_le, gt_iff_lt, ne_eq, Bool.false_eq_true, Bool.true_eq_false, not_true_eq_false, not_false_eq_true, Bool.and_eq_true, Bool.not_eq_eq_eq_not, Bool.not_true, Bool.not_false, bne_iff_ne, bne_eq_false_iff_eq, Int.toNat_natCast, Nat.mul_one, Nat.add_zero, Nat.zero_add, List.take_length, List.drop_zero] at h15)
                                                            all_goals
                                                              refine Tree.Sat.ret ?_
                                                              exfalso
                                                              have hs := st_ok (R0 := R0) (R1 := R1) (R2 := R2) (T1 := T1) (T2 := T2) (Cm := Cm) (Sl := Sl) (Tk := Tk) (u1 := u1) (u2 := u2) (I := 0) (t := (ticks.getD i 0)) h5
                                                              obtain ⟨hk, e1, e2⟩ := hs
                                                              have hk' := hk
                                                              obtain ⟨⟨_, _, _, ⟨k1, _⟩, ⟨k2, _⟩, _⟩, ⟨x0, x1, x2, x3, _, _⟩, k3, _⟩ := hk'
                                                              have rA := rel_between (u := u1) (I := 0) (r := R1) (tau := T1) (t := (ticks.getD i 0)) k3 k1
                                                              have rB := rel_between (u := u2) (I := 0) (r := R2) (tau := T2) (t := (ticks.getD i 0)) k3 k2
                                                              rw [drive_zero] at rA rB
                                                              simp only [w64] at *
                                                              omega
                                                          · (try simp only [decide_eq_true_eq, decide_eq_false_iff_not, Bool.not_eq_true', Bool.not_eq_false', beq_iff_eq, beq_eq_false_iff_ne, Int.not_lt, Int.not_le, ge_iff_le, gt_iff_lt, ne_eq, Bool.false_eq_true, Bool.true_eq_false, not_true_eq_false, not_false_eq_true, Bool.and_eq_true, Bool.not_eq_eq_eq_not, Bool.not_true, Bool.not_false, bne_iff_ne, bne_eq_false_iff_eq, Int.toNat_natCast, Nat.mul_one, Nat.add_zero, Nat.zero_add, List.take_length, List.drop_zero] at h15)
                                                            all_goals
                                                              refine Tree.Sat.ret ?_
                                                              have hs := st_ok (R0 := R0) (R1 := R1) (R2 := R2) (T1 := T1) (T2 := T2) (Cm := Cm) (Sl := Sl) (Tk := Tk) (u1 := u1) (u2 := u2) (I := 0) (t := (ticks.getD i 0)) h5
                                                              obtain ⟨hk, e1, e2⟩ := hs
                                                              have hk' := hk
                                                              obtain ⟨⟨_, _, _, ⟨k1, _⟩, ⟨k2, _⟩, _⟩, ⟨x0, x1, x2, x3, _, _⟩, k3, _⟩ := hk'
                                                              have rA := rel_between (u := u1) (I := 0) (r := R1) (tau := T1) (t := (ticks.getD i 0)) k3 k1
                                                              have rB := rel_between (u := u2) (I := 0) (r := R2) (tau := T2) (t := (ticks.getD i 0)) k3 k2
                                                              rw [drive_zero] at rA rB
                                                              refine .norm ⟨R0, R1, R2, T1, T2, Cm, Sl, Tk, relZ u1 0 R1 T1 (ticks.getD i 0), relZ u2 0 R2 T2 (ticks.getD i 0), zticks, ticks, i + 1⟩ ?_ ?_ ⟨?_, ?_⟩
                                                              · constructor <;> simp only [hdModelCalms_0, AV.leL, AV.le, Mem.le, Mem.leP, Blk.le, Blk.pad, Data.le, Data.size, Cap.le, and_true, true_and, and_self, true_implies, implies_true, imp_self, List.length_nil] <;> (repeat' with_reducible refine And.intro ?_ ?_) <;> (try simp only [Int.toNat_natCast, Nat.mul_one, Nat.add_zero, Nat.zero_add]) <;> first | exact wadd1 (by omega) | exact e1 | exact e2
                                                              · simp only [muModelCalms_0]; omega
                                                              · exact ⟨a0, b0, a1, b1, a2, b2, a3, b3, a4, b4, a5, b5, a6, b6, a7, b7, by omega, by omega, by omega, by omega, by omega, by omega, hz, hl, hw⟩
                                                              · rw [next60 (by omega) (by omega)] at hr; simp only [runC, if_pos hk] at hr; exact hr
                                                      · (try simp only [decide_eq_true_eq, decide_eq_false_iff_not, Bool.not_eq_true', Bool.not_eq_false', beq_iff_eq, beq_eq_false_iff_ne, Int.not_lt, Int.not_le, ge_iff_le, gt_iff_lt, ne_eq, Bool.false_eq_true, Bool.true_eq_false, not_true_eq_false, not_false_eq_true, Bool.and_eq_true, Bool.not_eq_eq_eq_not, Bool.not_true, Bool.not_false, bne_iff_ne, bne_eq_false_iff_eq, Int.toNat_natCast, Nat.mul_one, Nat.add_zero, Nat.zero_add, List.take_length, List.drop_zero] at h14)
                                                        all_goals
                                                          refine Tree.Sat.ret ?_
                                                          have hs := st_ok (R0 := R0) (R1 := R1) (R2 := R2) (T1 := T1) (T2 := T2) (Cm := Cm) (Sl := Sl) (Tk := Tk) (u1 := u1) (u2 := u2) (I := 0) (t := (ticks.getD i 0)) h5
                                                          obtain ⟨hk, e1, e2⟩ := hs
                                                          have hk' := hk
                                                          obtain ⟨⟨_, _, _, ⟨k1, _⟩, ⟨k2, _⟩, _⟩, ⟨x0, x1, x2, x3, _, _⟩, k3, _⟩ := hk'
                                                          have rA := rel_between (u := u1) (I := 0) (r := R1) (tau := T1) (t := (ticks.getD i 0)) k3 k1
                                                          have rB := rel_between (u := u2) (I := 0) (r := R2) (tau := T2) (t := (ticks.getD i 0)) k3 k2
                                                          rw [drive_zero] at rA rB
                                                          refine .norm ⟨R0, R1, R2, T1, T2, Cm, Sl, Tk, relZ u1 0 R1 T1 (ticks.getD i 0), relZ u2 0 R2 T2 (ticks.getD i 0), zticks, ticks, i + 1⟩ ?_ ?_ ⟨?_, ?_⟩
                                                          · constructor <;> simp only [hdModelCalms_0, AV.leL, AV.le, Mem.le, Mem.leP, Blk.le, Blk.pad, Data.le, Data.size, Cap.le, and_true, true_and, and_self, true_implies, implies_true, imp_self, List.length_nil] <;> (repeat' with_reducible refine And.intro ?_ ?_) <;> (try simp only [Int.toNat_natCast, Nat.mul_one, Nat.add_zero, Nat.zero_add]) <;> first | exact wadd1 (by omega) | exact e1 | exact e2
                                                          · simp only [muModelCalms_0]; omega
                                                          · exact ⟨a0, b0, a1, b1, a2, b2, a3, b3, a4, b4, a5, b5, a6, b6, a7, b7, by omega, by omega, by omega, by omega, by omega, by omega, hz, hl, hw⟩
                                                          · rw [next60 (by omega) (by omega)] at hr; simp only [runC, if_pos hk] at hr; exact hr
                                              · (try simp only [decide_eq_true_eq, decide_eq_false_iff_not, Bool.not_eq_true', Bool.not_eq_false', beq_iff_eq, beq_eq_false_iff_ne, Int.not_lt, Int.not_le, ge_iff_le, gt_iff_lt, ne_eq, Bool.false_eq_true, Bool.true_eq_false, not_true_eq_false, not_false_eq_true, Bool.and_eq_true, Bool.not_eq_eq_eq_not, Bool.not_true, Bool.not_false, bne_iff_ne, bne_eq_false_iff_eq, Int.toNat_natCast, Nat.mul_one, Nat.add_zero, Nat.zero_add, List.take_length, List.drop_zero] at h12)
                                                all_goals
                                                  refine Tree.Sat.br (fun h13 => ?_) (fun h13 => ?_)
                                                  · (try simp only [decide_eq_true_eq, decide_eq_false_iff_not, Bool.not_eq_true', Bool.not_eq_false', beq_iff_eq, beq_eq_false_iff_ne, Int.not_lt, Int.not_le, ge_iff_le, gt_iff_lt, ne_eq, Bool.false_eq_true, Bool.true_eq_false, not_true_eq_false, not_false_eq_true, Bool.and_eq_true, Bool.not_eq_eq_eq_not, Bool.not_true, Bool.not_false, bne_iff_ne, bne_eq_false_iff_eq, Int.toNat_natCast, Nat.mul_one, Nat.add_zero, Nat.zero_add, List.take_length, List.drop_zero] at h13)
                                                    all_goals
                                                      refine Tree.Sat.br (fun h14 => ?_) (fun h14 => ?_)
                                                      · (try simp only [decide_eq_true_eq, decide_eq_false_iff_not, Bool.not_eq_true', Bool.not_eq_false', beq_iff_eq, beq_eq_false_iff_ne, Int.not_lt, Int.not_le, ge_iff_le, gt_iff_lt, ne_eq, Bool.false_eq_true, Bool.true_eq_false, not_true_eq_false, not_false_eq_true, Bool.and_eq_true, Bool.not_eq_eq_eq_not, Bool.not_true, Bool.not_false, bne_iff_ne, bne_eq_false_iff_eq, Int.toNat_natCast, Nat.mul_one, Nat.add_zero, Nat.zero_add, List.take_length, List.drop_zero] at h14)
                                                        all_goals
                                                          refine Tree.Sat.ret ?_
                                                          exfalso
                                                          have hs := st_ok (R0 := R0) (R1 := R1) (R2 := R2) (T1 := T1) (T2 := T2) (Cm := Cm) (Sl := Sl) (Tk := Tk) (u1 := u1) (u2 := u2) (I := 0) (t := (ticks.getD i 0)) h5
                                                          obtain ⟨hk, e1, e2⟩ := hs
                                                          have hk' := hk
                                                          obtain ⟨⟨_, _, _, ⟨k1, _⟩, ⟨k2, _⟩, _⟩, ⟨x0, x1, x2, x3, _, _⟩, k3, _⟩ := hk'
                                                          have rA := rel_between (u := u1) (I := 0) (r := R1) (tau := T1) (t := (ticks.getD i 0)) k3 k1
                                                          have rB := rel_between (u := u2) (I := 0) (r := R2) (tau := T2) (t := (ticks.getD i 0)) k3 k2
                                                          rw [drive_zero] at rA rB
                                                          simp only [w64] at *
                                                          omega
                                                      · (try simp only [decide_eq_true_eq, decide_eq_false_iff_not, Bool.not_eq_true', Bool.not_eq_false', beq_iff_eq, beq_eq_false_iff_ne, Int.not_lt, Int.not_le, ge_iff_le, gt_iff_lt, ne_eq, Bool.false_eq_true, Bool.true_eq_false, not_true_eq_false, not_false_eq_true, Bool.and_eq_true, Bool.not_eq_eq_eq_not, Bool.not_true, Bool.not_false, bne_iff_ne, bne_eq_false_iff_eq, Int.toNat_natCast, Nat.mul_one, Nat.add_zero, Nat.zero_add, List.take_length, List.drop_zero] at h14)
                                                        all_goals
                                                          refine Tree.Sat.ret ?_
                                                          have hs := st_ok (R0 := R0) (R1 := R1) (R2 := R2) (T1 := T1) (T2 := T2) (Cm := Cm) (Sl := Sl) (Tk := Tk) (u1 := u1) (u2 := u2) (I := 0) (t := (ticks.getD i 0)) h5
                                                          obtain ⟨hk, e1, e2⟩ := hs
                                                          have hk' := hk
                                                          obtain ⟨⟨_, _, _, ⟨k1, _⟩, ⟨k2, _⟩, _⟩, ⟨x0, x1, x2, x3, _, _⟩, k3, _⟩ := hk'
                                                          have rA := rel_between (u := u1) (I := 0) (r := R1) (tau := T1) (t := (ticks.getD i 0)) k3 k1
                                                          have rB := rel_between (u := u2) (I := 0) (r := R2) (tau := T2) (t := (ticks.getD i 0)) k3 k2
                                                          rw [drive_zero] at rA rB
                                                          refine .norm ⟨R0, R1, R2, T1, T2, Cm, Sl, Tk, relZ u1 0 R1 T1 (ticks.getD i 0), relZ u2 0 R2 T2 (ticks.getD i 0), zticks, ticks, i + 1⟩ ?_ ?_ ⟨?_, ?_⟩
                                                          · constructor <;> simp only [hdModelCalms_0, AV.leL, AV.le, Mem.le, Mem.leP, Blk.le, Blk.pad, Data.le, Data.size, Cap.le, and_true, true_and, and_self, true_implies, implies_true, imp_self, List.length_nil] <;> (repeat' with_reducible refine And.intro ?_ ?_) <;> (try simp only [Int.toNat_natCast, Nat.mul_one, Nat.add_zero, Nat.zero_add]) <;> first | exact wadd1 (by omega) | exact e1 | exact e2
                                                          · simp only [muModelCalms_0]; omega
                                                          · exact ⟨a0, b0, a1, b1, a2, b2, a3, b3, a4, b4, a5, b5, a6, b6, a7, b7, by omega, by omega, by omega, by omega, by omega, by omega, hz, hl, hw⟩
                                                          · rw [next60 (by omega) (by omega)] at hr; simp only [runC, if_pos hk] at hr; exact hr
                                                  · (try simp only [decide_eq_true_eq, decide_eq_false_iff_not, Bool.not_eq_true', Bool.not_eq_false', beq_iff_eq, beq_eq_false_iff_ne, Int.not_lt, Int.not_le, ge_iff_le, gt_iff_lt, ne_eq, Bool.false_eq_true, Bool.true_eq_false, not_true_eq_false, not_false_eq_true, Bool.and_eq_true, Bool.not_eq_eq_eq_not, Bool.not_true, Bool.not_false, bne_iff_ne, bne_eq_false_iff_eq, Int.toNat_natCast, Nat.mul_one, Nat.add_zero, Nat.zero_add, List.take_length, List.drop_zero] at h13)
                                                    all_goals
                                                      refine Tree.Sat.ret ?_
                                                      have hs := st_ok (R0 := R0) (R1 := R1) (R2 := R2) (T1 := T1) (T2 := T2) (Cm := Cm) (Sl := Sl) (Tk := Tk) (u1 := u1) (u2 := u2) (I := 0) (t := (ticks.getD i 0)) h5
                                                      obtain ⟨hk, e1, e2⟩ := hs
                                                      have hk' := hk
                                                      obtain ⟨⟨_, _, _, ⟨k1, _⟩, ⟨k2, _⟩, _⟩, ⟨x0, x1, x2, x3, _, _⟩, k3, _⟩ := hk'
                                                      have rA := rel_between (u := u1) (I := 0) (r := R1) (tau := T1) (t := (ticks.getD i 0)) k3 k1
                                                      have rB := rel_between (u := u2) (I := 0) (r := R2) (tau := T2) (t := (ticks.getD i 0)) k3 k2
                                                      rw [drive_zero] at rA rB
                                                      refine .norm ⟨R0, R1, R2, T1, T2, Cm, Sl, Tk, relZ u1 0 R1 T1 (ticks.getD i 0), relZ u2 0 R2 T2 (ticks.getD i 0), zticks, ticks, i + 1⟩ ?_ ?_ ⟨?_, ?_⟩
                                                      · constructor <;> simp only [hdModelCalms_0, AV.leL, AV.le, Mem.le, Mem.leP, Blk.le, Blk.pad, Data.le, Data.size, Cap.le, and_true, true_and, and_self, true_implies, implies_true, imp_self, List.length_nil] <;> (repeat' with_reducible refine And.intro ?_ ?_) <;> (try simp only [Int.toNat_natCast, Nat.mul_one, Nat.add_zero, Nat.zero_add]) <;> first | exact wadd1 (by omega) | exact e1 | exact e2
                                                      · simp only [muModelCalms_0]; omega
                                                      · exact ⟨a0, b0, a1, b1, a2, b2, a3, b3, a4, b4, a5, b5, a6, b6, a7, b7, by omega, by omega, by omega, by omega, by omega, by omega, hz, hl, hw⟩
                                                      · rw [next60 (by omega) (by omega)] at hr; simp only [runC, if_pos hk] at hr; exact hr
                                      · (try simp only [decide_eq_true_eq, decide_eq_false_iff_not, Bool.not_eq_true', Bool.not_eq_false', beq_iff_eq, beq_eq_false_iff_ne, Int.not_lt, Int.not_le, ge_iff_le, gt_iff_lt, ne_eq, Bool.false_eq_true, Bool.true_eq_false, not_true_eq_false, not_false_eq_true, Bool.and_eq_true, Bool.not_eq_eq_eq_not, Bool.not_true, Bool.not_false, bne_iff_ne, bne_eq_false_iff_eq, Int.toNat_natCast, Nat.mul_one, Nat.add_zero, Nat.zero_add, List.take_length, List.drop_zero] at h10)
                                        all_goals
                                          refine Tree.Sat.br (fun h11 => ?_) (fun h11 => ?_)
                                          · (try simp only [decide_eq_true_eq, decide_eq_false_iff_not, Bool.not_eq_true', Bool.not_eq_false', beq_iff_eq, beq_eq_false_iff_ne, Int.not_lt, Int.not_le, ge_iff_le, gt_iff_lt, ne_eq, Bool.false_eq_true, Bool.true_eq_false, not_true_eq_false, not_false_eq_true, Bool.and_eq_true, Bool.not_eq_eq_eq_not, Bool.not_true, Bool.not_false, bne_iff_ne, bne_eq_false_iff_eq, Int.toNat_natCast, Nat.mul_one, Nat.add_zero, Nat.zero_add, List.take_length, List.drop_zero] at h11)
                                            all_goals
                                              refine Tree.Sat.br (fun h12 => ?_) (fun h12 => ?_)
                                              · (try simp only [decide_eq_true_eq, decide_eq_false_iff_not, Bool.not_eq_true', Bool.not_eq_false', beq_iff_eq, beq_eq_false_iff_ne, Int.not_lt, Int.not_le, ge_iff_le, gt_iff_lt, ne_eq, Bool.false_eq_true, Bool.true_eq_false, not_true_eq_false, not_false_eq_true, Bool.and_eq_true, Bool.not_eq_eq_eq_not, Bool.not_true, Bool.not_false, bne_iff_ne, bne_eq_false_iff_eq, Int.toNat_natCast, Nat.mul_one, Nat.add_zero, Nat.zero_add, List.take_length, List.drop_zero] at h12)
                                                all_goals
                                                  refine Tree.Sat.ret ?_
                                                  exfalso
                                                  have hs := st_ok (R0 := R0) (R1 := R1) (R2 := R2) (T1 := T1) (T2 := T2) (Cm := Cm) (Sl := Sl) (Tk := Tk) (u1 := u1) (u2 := u2) (I := 0) (t := (ticks.getD i 0)) h5
                                                  obtain ⟨hk, e1, e2⟩ := hs
                                                  have hk' := hk
                                                  obtain ⟨⟨_, _, _, ⟨k1, _⟩, ⟨k2, _⟩, _⟩, ⟨x0, x1, x2, x3, _, _⟩, k3, _⟩ := hk'
                                                  have rA := rel_between (u := u1) (I := 0) (r := R1) (tau := T1) (t := (ticks.getD i 0)) k3 k1
                                                  have rB := rel_between (u := u2) (I := 0) (r := R2) (tau := T2) (t := (ticks.getD i 0)) k3 k2
                                                  rw [drive_zero] at rA rB
                                                  simp only [w64] at *
                                                  omega
                                              · (try simp only [decide_eq_true_eq, decide_eq_false_iff_not, Bool.not_eq_true', Bool.not_eq_false', beq_iff_eq, beq_eq_false_iff_ne, Int.not_lt, Int.not_le, ge_iff_le, gt_iff_lt, ne_eq, Bool.false_eq_true, Bool.true_eq_false, not_true_eq_false, not_false_eq_true, Bool.and_eq_true, Bool.not_eq_eq_eq_not, Bool.not_true, Bool.not_false, bne_iff_ne, bne_eq_false_iff_eq, Int.toNat_natCast, Nat.mul_one, Nat.add_zero, Nat.zero_add, List.take_length, List.drop_zero] at h12)
                                                all_goals
                                                  refine Tree.Sat.br (fun h13 => ?_) (fun h13 => ?_)
                                                  · (try simp only [decide_eq_true_eq, decide_eq_false_iff_not, Bool.not_eq_true', Bool.not_eq_false', beq_iff_eq, beq_eq_false_iff_ne, Int.not_lt, Int.not_le, ge_iff_le, gt_iff_lt, ne_eq, Bool.false_eq_true, Bool.true_eq_false, not_true_eq_false, not_false_eq_true, Bool.and_eq_true, Bool.not_eq_eq_eq_not, Bool.not_true, Bool.not_false, bne_iff_ne, bne_eq_false_iff_eq, Int.toNat_natCast, Nat.mul_one, Nat.add_zero, Nat.zero_add, List.take_length, List.drop_zero] at h13)
                                                    all_goals
                                                      refine Tree.Sat.br (fun h14 => ?_) (fun h14 => ?_)
                                                      · (try simp only [decide_eq_true_eq, decide_eq_false_iff_not, Bool.not_eq_true', Bool.not_eq_false', beq_iff_eq, beq_eq_false_iff_ne, Int.not_lt, Int.not_le, ge_iff_le, gt_iff_lt, ne_eq, Bool.false_eq_true, Bool.true_eq_false, not_true_eq_false, not_false_eq_true, Bool.and_eq_true, Bool.not_eq_eq_eq_not, Bool.not_true, Bool.not_false, bne_iff_ne, bne_eq_false_iff_eq, Int.toNat_natCast, Nat.mul_one, Nat.add_zero, Nat.zero_add, List.take_length, List.drop_zero] at h14)
                                                        all_goals
                                                          refine Tree.Sat.ret ?_
                                                          exfalso
                                                          have hs := st_ok (R0 := R0) (R1 := R1) (R2 := R2) (T1 := T1) (T2 := T2) (Cm := Cm) (Sl := Sl) (Tk := Tk) (u1 := u1) (u2 := u2) (I := 0) (t := (ticks.getD i 0)) h5
                                                          obtain ⟨hk, e1, e2⟩ := hs
                                                          have hk' := hk
                                                          obtain ⟨⟨_, _, _, ⟨k1, _⟩, ⟨k2, _⟩, _⟩, ⟨x0, x1, x2, x3, _, _⟩, k3, _⟩ := hk'
                                                          have rA := rel_between (u := u1) (I := 0) (r := R1) (tau := T1) (t := (ticks.getD i 0)) k3 k1
                                                          have rB := rel_between (u := u2) (I := 0) (r := R2) (tau := T2) (t := (ticks.getD i 0)) k3 k2
                                                          rw [drive_zero] at rA rB
                                                          simp only [w64] at *
                                                          omega
                                                      · (try simp only [decide_eq_true_eq, decide_eq_false_iff_not, Bool.not_eq_true', Bool.not_eq_false', beq_iff_eq, beq_eq_false_iff_ne, Int.not_lt, Int.not_le, ge_iff_le, gt_iff_lt, ne_eq, Bool.false_eq_true, Bool.true_eq_false, not_true_eq_false, not_false_eq_true, Bool.and_eq_true, Bool.not_eq_eq_eq_not, Bool.not_true, Bool.not_false, bne_iff_ne, bne_eq_false_iff_eq, Int.toNat_natCast, Nat.mul_one, Nat.add_zero, Nat.zero_add, List.take_length, List.drop_zero] at h14)
                                                        all_goals
                                                          refine Tree.Sat.ret ?_
                                                          have hs := st_ok (R0 := R0) (R1 := R1) (R2 := R2) (T1 := T1) (T2 := T2) (Cm := Cm) (Sl := Sl) (Tk := Tk) (u1 := u1) (u2 := u2) (I := 0) (t := (ticks.getD i 0)) h5
                                                          obtain ⟨hk, e1, e2⟩ := hs
                                                          have hk' := hk
                                                          obtain ⟨⟨_, _, _, ⟨k1, _⟩, ⟨k2, _⟩, _⟩, ⟨x0, x1, x2, x3, _, _⟩, k3, _⟩ := hk'
                                                          have rA := rel_between (u := u1) (I := 0) (r := R1) (tau := T1) (t := (ticks.getD i 0)) k3 k1
                                                          have rB := rel_between (u := u2) (I := 0) (r := R2) (tau := T2) (t := (ticks.getD i 0)) k3 k2
                                                          rw [drive_zero] at rA rB
                                                          refine .norm ⟨R0, R1, R2, T1, T2, Cm, Sl, Tk, relZ u1 0 R1 T1 (ticks.getD i 0), relZ u2 0 R2 T2 (ticks.getD i 0), zticks, ticks, i + 1⟩ ?_ ?_ ⟨?_, ?_⟩
                                                          · constructor <;> simp only [hdModelCalms_0, AV.leL, AV.le, Mem.le, Mem.leP, Blk.le, Blk.pad, Data.le, Data.size, Cap.le, and_true, true_and, and_self, true_implies, implies_true, imp_self, List.length_nil] <;> (repeat' with_reducible refine And.intro ?_ ?_) <;> (try simp only [Int.toNat_natCast, Nat.mul_one, Nat.add_zero, Nat.zero_add]) <;> first | exact wadd1 (by omega) | exact e1 | exact e2
                                                          · simp only [muModelCalms_0]; omega
                                                          · exact ⟨a0, b0, a1, b1, a2, b2, a3, b3, a4, b4, a5, b5, a6, b6, a7, b7, by omega, by omega, by omega, by omega, by omega, by omega, hz, hl, hw⟩
                                                          · rw [next60 (by omega) (by omega)] at hr; simp only [runC, if_pos hk] at hr; exact hr
                                                  · (try simp only [decide_eq_true_eq, decide_eq_false_iff_not, Bool.not_eq_true', Bool.not_eq_false', beq_iff_eq, beq_eq_false_iff_ne, Int.not_lt, Int.not_le, ge_iff_le, gt_iff_lt, ne_eq, Bool.false_eq_true, Bool.true_eq_false, not_true_eq_false, not_false_eq_true, Bool.and_eq_true, Bool.not_eq_eq_eq_not, Bool.not_true, Bool.not_false, bne_iff_ne, bne_eq_false_iff_eq, Int.toNat_natCast, Nat.mul_one, Nat.add_zero, Nat.zero_add, List.take_length, List.drop_zero] at h13)
                                                    all_goals
                                                      refine Tree.Sat.ret ?_
                                                      have hs := st_ok (R0 := R0) (R1 := R1) (R2 := R2) (T1 := T1) (T2 := T2) (Cm := Cm) (Sl := Sl) (Tk := Tk) (u1 := u1) (u2 := u2) (I := 0) (t := (ticks.getD i 0)) h5
                                                      obtain ⟨hk, e1, e2⟩ := hs
                                                      have hk' := hk
                                                      obtain ⟨⟨_, _, _, ⟨k1, _⟩, ⟨k2, _⟩, _⟩, ⟨x0, x1, x2, x3, _, _⟩, k3, _⟩ := hk'
                                                      have rA := rel_between (u := u1) (I := 0) (r := R1) (tau := T1) (t := (ticks.getD i 0)) k3 k1
                                                      have rB := rel_between (u := u2) (I := 0) (r := R2) (tau := T2) (t := (ticks.getD i 0)) k3 k2
                                                      rw [drive_zero] at rA rB
                                                      refine .norm ⟨R0, R1, R2, T1, T2, Cm, Sl, Tk, relZ u1 0 R1 T1 (ticks.getD i 0), relZ u2 0 R2 T2 (ticks.getD i 0), zticks, ticks, i + 1⟩ ?_ ?_ ⟨?_, ?_⟩
                                                      · constructor <;> simp only [hdModelCalms_0, AV.leL, AV.le, Mem.le, Mem.leP, Blk.le, Blk.pad, Data.le, Data.size, Cap.le, and_true, true_and, and_self, true_implies, implies_true, imp_self, List.length_nil] <;> (repeat' with_reducible refine And.intro ?_ ?_) <;> (try simp only [Int.toNat_natCast, Nat.mul_one, Nat.add_zero, Nat.zero_add]) <;> first | exact wadd1 (by omega) | exact e1 | exact e2
                                                      · simp only [muModelCalms_0]; omega
                                                      · exact ⟨a0, b0, a1, b1, a2, b2, a3, b3, a4, b4, a5, b5, a6, b6, a7, b7, by omega, by omega, by omega, by omega, by omega, by omega, hz, hl, hw⟩
                                                      · rw [next60 (by omega) (by omega)] at hr; simp only [runC, if_pos hk] at hr; exact hr
                                          · (try simp only [decide_eq_true_eq, decide_eq_false_iff_not, Bool.not_eq_true', Bool.not_eq_false', beq_iff_eq, beq_eq_false_iff_ne, Int.not_lt, Int.not_le, ge_iff_le, gt_iff_lt, ne_eq, Bool.false_eq_true, Bool.true_eq_false, not_true_eq_false, not_false_eq_true, Bool.and_eq_true, Bool.not_eq_eq_eq_not, Bool.not_true, Bool.not_false, bne_iff_ne, bne_eq_false_iff_eq, Int.toNat_natCast, Nat.mul_one, Nat.add_zero, Nat.zero_add, List.take_length, List.drop_zero] at h11)
                                            all_goals
                                              refine Tree.Sat.br (fun h12 => ?_) (fun h12 => ?_)
                                              · (try simp only [decide_eq_true_eq, decide_eq_false_iff_not, Bool.not_eq_true', Bool.not_eq_false', beq_iff_eq, beq_eq_false_iff_ne, Int.not_lt, Int.not_le, ge_iff_le, gt_iff_lt, ne_eq, Bool.false_eq_true, Bool.true_eq_false, not_true_eq_false, not_false_eq_true, Bool.and_eq_true, Bool.not_eq_eq_eq_not, Bool.not_true, Bool.not_false, bne_iff_ne, bne_eq_false_iff_eq, Int.toNat_natCast, Nat.mul_one, Nat.add_zero, Nat.zero_add, List.take_length, List.drop_zero] at h12)
                                                all_goals
                                                  refine Tree.Sat.br (fun h13 => ?_) (fun h13 => ?_)
                                                  · (try simp only [decide_eq_true_eq, decide_eq_false_iff_not, Bool.not_eq_true', Bool.not_eq_false', beq_iff_eq, beq_eq_false_iff_ne, Int.not_lt, Int.not_le, ge_iff_le, gt_iff_lt, ne_eq, Bool.false_eq_true, Bool.true_eq_false, not_true_eq_false, not_false_eq_true, Bool.and_eq_true, Bool.not_eq_eq_eq_not, Bool.not_true, Bool.not_false, bne_iff_ne, bne_eq_false_iff_eq, Int.toNat_natCast, Nat.mul_one, Nat.add_zero, Nat.zero_add, List.take_length, List.drop_zero] at h13)
                                                    all_goals
                                                      refine Tree.Sat.ret ?_
                                                      exfalso
                                                      have hs := st_ok (R0 := R0) (R1 := R1) (R2 := R2) (T1 := T1) (T2 := T2) (Cm := Cm) (Sl := Sl) (Tk := Tk) (u1 := u1) (u2 := u2) (I := 0) (t := (ticks.getD i 0)) h5
                                                      obtain ⟨hk, e1, e2⟩ := hs
                                                      have hk' := hk
                                                      obtain ⟨⟨_, _, _, ⟨k1, _⟩, ⟨k2, _⟩, _⟩, ⟨x0, x1, x2, x3, _, _⟩, k3, _⟩ := hk'
                                                      have rA := rel_between (u := u1) (I := 0) (r := R1) (tau := T1) (t := (ticks.getD i 0)) k3 k1
                                                      have rB := rel_between (u := u2) (I := 0) (r := R2) (tau := T2) (t := (ticks.getD i 0)) k3 k2
                                                      rw [drive_zero] at rA rB
                                                      simp only [w64] at *
                                                      omega
                                                  · (try simp only [decide_eq_true_eq, decide_eq_false_iff_not, Bool.not_eq_true', Bool.not_eq_false', beq_iff_eq, beq_eq_false_iff_ne, Int.not_lt, Int.not_le, ge_iff_le, gt_iff_lt, ne_eq, Bool.false_eq_true, Bool.true_eq_false, not_true_eq_false, not_false_eq_true, Bool.and_eq_true, Bool.not_eq_eq_eq_not, Bool.not_true, Bool.not_false, bne_iff_ne, bne_eq_false_iff_eq, Int.toNat_natCast, Nat.mul_one, Nat.add_zero, Nat.zero_add, List.take_length, List.drop_zero] at h13)
                                                    all_goals
                                                      refine Tree.Sat.ret ?_
                                                      have hs := st_ok (R0 := R0) (R1 := R1) (R2 := R2) (T1 := T1) (T2 := T2) (Cm := Cm) (Sl := Sl) (Tk := Tk) (u1 := u1) (u2 := u2) (I := 0) (t := (ticks.getD i 0)) h5
                                                      obtain ⟨hk, e1, e2⟩ := hs
                                                      have hk' := hk
                                                      obtain ⟨⟨_, _, _, ⟨k1, _⟩, ⟨k2, _⟩, _⟩, ⟨x0, x1, x2, x3, _, _⟩, k3, _⟩ := hk'
                                                      have rA := rel_between (u := u1) (I := 0) (r := R1) (tau := T1) (t := (ticks.getD i 0)) k3 k1
                                                      have rB := rel_between (u := u2) (I := 0) (r := R2) (tau := T2) (t := (ticks.getD i 0)) k3 k2
                                                      rw [drive_zero] at rA rB
                                                      refine .norm ⟨R0, R1, R2, T1, T2, Cm, Sl, Tk, relZ u1 0 R1 T1 (ticks.getD i 0), relZ u2 0 R2 T2 (ticks.getD i 0), zticks, ticks, i + 1⟩ ?_ ?_ ⟨?_, ?_⟩
                                                      · constructor <;> simp only [hdModelCalms_0, AV.leL, AV.le, Mem.le, Mem.leP, Blk.le, Blk.pad, Data.le, Data.size, Cap.le, and_true, true_and, and_self, true_implies, implies_true, imp_self, List.length_nil] <;> (repeat' with_reducible refine And.intro ?_ ?_) <;> (try simp only [Int.toNat_natCast, Nat.mul_one, Nat.add_zero, Nat.zero_add]) <;> first | exact wadd1 (by omega) | exact e1 | exact e2
                                                      · simp only [muModelCalms_0]; omega
                                                      · exact ⟨a0, b0, a1, b1, a2, b2, a3, b3, a4, b4, a5, b5, a6, b6, a7, b7, by omega, by omega, by omega, by omega, by omega, by omega, hz, hl, hw⟩
                                                      · rw [next60 (by omega) (by omega)] at hr; simp only [runC, if_pos hk] at hr; exact hr
                                              · (try simp only [decide_eq_true_eq, decide_eq_false_iff_not, Bool.not_eq_true', Bool.not_eq_false', beq_iff_eq, beq_eq_false_iff_ne, Int.not_lt, Int.not_le, ge_iff_le, gt_iff_lt, ne_eq, Bool.false_eq_true, Bool.true_eq_false, not_true_eq_false, not_false_eq_true, Bool.and_eq_true, Bool.not_eq_eq_eq_not, Bool.not_true, Bool.not_false, bne_iff_ne, bne_eq_false_iff_eq, Int.toNat_natCast, Nat.mul_one, Nat.add_zero, Nat.zero_add, List.take_length, List.drop_zero] at h12)
                                                all_goals
                                                  refine Tree.Sat.ret ?_
                                                  have hs := st_ok (R0 := R0) (R1 := R1) (R2 := R2) (T1 := T1) (T2 := T2) (Cm := Cm) (Sl := Sl) (Tk := Tk) (u1 := u1) (u2 := u2) (I := 0) (t := (ticks.getD i 0)) h5
                                                  obtain ⟨hk, e1, e2⟩ := hs
                                                  have hk' := hk
                                                  obtain ⟨⟨_, _, _, ⟨k1, _⟩, ⟨k2, _⟩, _⟩, ⟨x0, x1, x2, x3, _, _⟩, k3, _⟩ := hk'
                                                  have rA := rel_between (u := u1) (I := 0) (r := R1) (tau := T1) (t := (ticks.getD i 0)) k3 k1
                                                  have rB := rel_between (u := u2) (I := 0) (r := R2) (tau := T2) (t := (ticks.getD i 0)) k3 k2
                                                  rw [drive_zero] at rA rB
                                                  refine .norm ⟨R0, R1, R2, T1, T2, Cm, Sl, Tk, relZ u1 0 R1 T1 (ticks.getD i 0), relZ u2 0 R2 T2 (ticks.getD i 0), zticks, ticks, i + 1⟩ ?_ ?_ ⟨?_, ?_⟩
                                                  · constructor <;> simp only [hdModelCalms_0, AV.leL, AV.le, Mem.le, Mem.leP, Blk.le, Blk.pad, Data.le, Data.size, Cap.le, and_true, true_and, and_self, true_implies, implies_true, imp_self, List.length_nil] <;> (repeat' with_reducible refine And.intro ?_ ?_) <;> (try simp only [Int.toNat_natCast, Nat.mul_one, Nat.add_zero, Nat.zero_add]) <;> first | exact wadd1 (by omega) | exact e1 | exact e2
                                                  · simp only [muModelCalms_0]; omega
                                                  · exact ⟨a0, b0, a1, b1, a2, b2, a3, b3, a4, b4, a5, b5, a6, b6, a7, b7, by omega, by omega, by omega, by omega, by omega, by omega, hz, hl, hw⟩
                                                  · rw [next60 (by omega) (by omega)] at hr; simp only [runC, if_pos hk] at hr; exact hr
                              · (try simp only [decide_eq_true_eq, decide_eq_false_iff_not, Bool.not_eq_true', Bool.not_eq_false', beq_iff_eq, beq_eq_false_iff_ne, Int.not_lt, Int.not_le, ge_iff_le, gt_iff_lt, ne_eq, Bool.false_eq_true, Bool.true_eq_false, not_true_eq_false, not_false_eq_true, Bool.and_eq_true, Bool.not_eq_eq_eq_not, Bool.not_true, Bool.not_false, bne_iff_ne, bne_eq_false_iff_eq, Int.toNat_natCast, Nat.mul_one, Nat.add_zero, Nat.zero_add, List.take_length, List.drop_zero] at h8)
                                all_goals
                                  refine Tree.Sat.br (fun h9 => ?_) (fun h9 => ?_)
                                  · (try simp only [decide_eq_true_eq, decide_eq_false_iff_not, Bool.not_eq_true', Bool.not_eq_false', beq_iff_eq, beq_eq_false_iff_ne, Int.not_lt, Int.not_le, ge_iff_le, gt_iff_lt, ne_eq, Bool.false_eq_true, Bool.true_eq_false, not_true_eq_false, not_false_eq_true, Bool.and_eq_true, Bool.not_eq_eq_eq_not, Bool.not_true, Bool.not_false, bne_iff_ne, bne_eq_false_iff_eq, Int.toNat_natCast, Nat.mul_one, Nat.add_zero, Nat.zero_add, List.take_length, List.drop_zero] at h9)
                                    all_goals
                                      refine Tree.Sat.br (fun h10 => ?_) (fun h10 => ?_)
                                      · (try simp only [decide_eq_true_eq, decide_eq_false_iff_not, Bool.not_eq_true', Bool.not_eq_false', beq_iff_eq, beq_eq_false_iff_ne, Int.not_lt, Int.not_le, ge_iff_le, gt_iff_lt, ne_eq, Bool.false_eq_true, Bool.true_eq_false, not_true_eq_false, not_false_eq_true, Bool.and_eq_true, Bool.not_eq_eq_eq_not, Bool.not_true, Bool.not_false, bne_iff_ne, bne_eq_false_iff_eq, Int.toNat_natCast, Nat.mul_one, Nat.add_zero, Nat.zero_add, List.take_length, List.drop_zero] at h10)
                                        all_goals
                                          refine Tree.Sat.ret ?_
                                          exfalso
                                          have hs := st_ok (R0 := R0) (R1 := R1) (R2 := R2) (T1 := T1) (T2 := T2) (Cm := Cm) (Sl := Sl) (Tk := Tk) (u1 := u1) (u2 := u2) (I := 0) (t := (ticks.getD i 0)) h5
                                          obtain ⟨hk, e1, e2⟩ := hs
                                          have hk' := hk
                                          obtain ⟨⟨_, _, _, ⟨k1, _⟩, ⟨k2, _⟩, _⟩, ⟨x0, x1, x2, x3, _, _⟩, k3, _⟩ := hk'
                                          have rA := rel_between (u := u1) (I := 0) (r := R1) (tau := T1) (t := (ticks.getD i 0)) k3 k1
                                          have rB := rel_between (u := u2) (I := 0) (r := R2) (tau := T2) (t := (ticks.getD i 0)) k3 k2
                                          rw [drive_zero] at rA rB
                                          simp only [w64] at *
                                          omega
                                      · (try simp only [decide_eq_true_eq, decide_eq_false_iff_not, Bool.not_eq_true', Bool.not_eq_false', beq_iff_eq, beq_eq_false_iff_ne, Int.not_lt, Int.not_le, ge_iff_le, gt_iff_lt, ne_eq, Bool.false_eq_true, Bool.true_eq_false, not_true_eq_false, not_false_eq_true, Bool.and_eq_true, Bool.not_eq_eq_eq_not, Bool.not_true, Bool.not_false, bne_iff_ne, bne_eq_false_iff_eq, Int.toNat_natCast, Nat.mul_one, Nat.add_zero, Nat.zero_add, List.take_length, List.drop_zero] at h10)
                                        all_goals
                                          refine Tree.Sat.br (fun h11 => ?_) (fun h11 => ?_)
                                          · (try simp only [decide_eq_true_eq, decide_eq_false_iff_not, Bool.not_eq_true', Bool.not_eq_false', beq_iff_eq, beq_eq_false_iff_ne, Int.not_lt, Int.not_le, ge_iff_le, gt_iff_lt, ne_eq, Bool.false_eq_true, Bool.true_eq_false, not_true_eq_false, not_false_eq_true, Bool.and_eq_true, Bool.not_eq_eq_eq_not, Bool.not_true, Bool.not_false, bne_iff_ne, bne_eq_false_iff_eq, Int.toNat_natCast, Nat.mul_one, Nat.add_zero, Nat.zero_add, List.take_length, List.drop_zero] at h11)
                                            all_goals
                                              refine Tree.Sat.br (fun h12 => ?_) (fun h12 => ?_)
                                              · (try simp only [decide_eq_true_eq, decide_eq_false_iff_not, Bool.not_eq_true', Bool.not_eq_false', beq_iff_eq, beq_eq_false_iff_ne, Int.not_lt, Int.not_le, ge_iff_le, gt_iff_lt, ne_eq, Bool.false_eq_true, Bool.true_eq_false, not_true_eq_false, not_false_eq_true, Bool.and_eq_true, Bool.not_eq_eq_eq_not, Bool.not_true, Bool.not_false, bne_iff_ne, bne_eq_false_iff_eq, Int.toNat_natCast, Nat.mul_one, Nat.add_zero, Nat.zero_add, List.take_length, List.drop_zero] at h12)
                                                all_goals
                                                  refine Tree.Sat.ret ?_
                                                  exfalso
                                                  have hs := st_ok (R0 := R0) (R1 := R1) (R2 := R2) (T1 := T1) (T2 := T2) (Cm := Cm) (Sl := Sl) (Tk := Tk) (u1 := u1) (u2 := u2) (I := 0) (t := (ticks.getD i 0)) h5
                                                  obtain ⟨hk, e1, e2⟩ := hs
                                                  have hk' := hk
                                                  obtain ⟨⟨_, _, _, ⟨k1, _⟩, ⟨k2, _⟩, _⟩, ⟨x0, x1, x2, x3, _, _⟩, k3, _⟩ := hk'
                                                  have rA := rel_between (u := u1) (I := 0) (r := R1) (tau := T1) (t := (ticks.getD i 0)) k3 k1
                                                  have rB := rel_between (u := u2) (I := 0) (r := R2) (tau := T2) (t := (ticks.getD i 0)) k3 k2
                                                  rw [drive_zero] at rA rB
                                                  simp only [w64] at *
                                                  omega
                                              · (try simp only [decide_eq_true_eq, decide_eq_false_iff_not, Bool.not_eq_true', Bool.not_eq_false', beq_iff_eq, beq_eq_false_iff_ne, Int.not_lt, Int.not_le, ge_iff_le, gt_iff_lt, ne_eq, Bool.false_eq_true, Bool.true_eq_false, not_true_eq_false, not_false_eq_true, Bool.and_eq_true, Bool.not_eq_eq_eq_not, Bool.not_true, Bool.not_false, bne_iff_ne, bne_eq_false_iff_eq, Int.toNat_natCast, Nat.mul_one, Nat.add_zero, Nat.zero_add, List.take_length, List.drop_zero] at h12)
                                                all_goals
                                                  refine Tree.Sat.br (fun h13 => ?_) (fun h13 => ?_)
                                                  · (try simp only [decide_eq_true_eq, decide_eq_false_iff_not, Bool.not_eq_true', Bool.not_eq_false', beq_iff_eq, beq_eq_false_iff_ne, Int.not_lt, Int.not_le, ge_iff_le, gt_iff_lt, ne_eq, Bool.false_eq_true, Bool.true_eq_false, not_true_eq_false, not_false_eq_true, Bool.and_eq_true, Bool.not_eq_eq_eq_not, Bool.not_true, Bool.not_false, bne_iff_ne, bne_eq_false_iff_eq, Int.toNat_natCast, Nat.mul_one, Nat.add_zero, Nat.zero_add, List.take_length, List.drop_zero] at h13)
                                                    all_goals
                                                      refine Tree.Sat.br (fun h14 => ?_) (fun h14 => ?_)
                                                      · (try simp only [decide_eq_true_eq, decide_eq_false_iff_not, Bool.not_eq_true', Bool.not_eq_false', beq_iff_eq, beq_eq_false_iff_ne, Int.not_lt, Int.not_le, ge_iff_le, gt_iff_lt, ne_eq, Bool.false_eq_true, Bool.true_eq_false, not_true_eq_false, not_false_eq_true, Bool.and_eq_true, Bool.not_eq_eq_eq_not, Bool.not_true, Bool.not_false, bne_iff_ne, bne_eq_false_iff_eq, Int.toNat_natCast, Nat.mul_one, Nat.add_zero, Nat.zero_add, List.take_length, List.drop_zero] at h14)
                                                        all_goals
                                                          refine Tree.Sat.ret ?_
                                                          exfalso
                                                          have hs := st_ok (R0 := R0) (R1 := R1) (R2 := R2) (T1 := T1) (T2 := T2) (Cm := Cm) (Sl := Sl) (Tk := Tk) (u1 := u1) (u2 := u2) (I := 0) (t := (ticks.getD i 0)) h5
                                                          obtain ⟨hk, e1, e2⟩ := hs
                                                          have hk' := hk
                                                          obtain ⟨⟨_, _, _, ⟨k1, _⟩, ⟨k2, _⟩, _⟩, ⟨x0, x1, x2, x3, _, _⟩, k3, _⟩ := hk'
                                                          have rA := rel_between (u := u1) (I := 0) (r := R1) (tau := T1) (t := (ticks.getD i 0)) k3 k1
                                                          have rB := rel_between (u := u2) (I := 0) (r := R2) (tau := T2) (t := (ticks.getD i 0)) k3 k2
                                                          rw [drive_zero] at rA rB
                                                          simp only [w64] at *
                                                          omega
                                                      · (try simp only [decide_eq_true_eq, decide_eq_false_iff_not, Bool.not_eq_true', Bool.not_eq_false', beq_iff_eq, beq_eq_false_iff_ne, Int.not_lt, Int.not_le, ge_iff_le, gt_iff_lt, ne_eq, Bool.false_eq_true, Bool.true_eq_false, not_true_eq_false, not_false_eq_true, Bool.and_eq_true, Bool.not_eq_eq_eq_not, Bool.not_true, Bool.not_false, bne_iff_ne, bne_eq_false_iff_eq, Int.toNat_natCast, Nat.mul_one, Nat.add_zero, Nat.zero_add, List.take_length, List.drop_zero] at h14)
                                                        all_goals
                                                          refine Tree.Sat.ret ?_
                                                          have hs := st_ok (R0 := R0) (R1 := R1) (R2 := R2) (T1 := T1) (T2 := T2) (Cm := Cm) (Sl := Sl) (Tk := Tk) (u1 := u1) (u2 := u2) (I := 0) (t := (ticks.getD i 0)) h5
                                                          obtain ⟨hk, e1, e2⟩ := hs
                                                          have hk' := hk
                                                          obtain ⟨⟨_, _, _, ⟨k1, _⟩, ⟨k2, _⟩, _⟩, ⟨x0, x1, x2, x3, _, _⟩, k3, _⟩ := hk'
                                                          have rA := rel_between (u := u1) (I := 0) (r := R1) (tau := T1) (t := (ticks.getD i 0)) k3 k1
                                                          have rB := rel_between (u := u2) (I := 0) (r := R2) (tau := T2) (t := (ticks.getD i 0)) k3 k2
                                                          rw [drive_zero] at rA rB
                                                          refine .norm ⟨R0, R1, R2, T1, T2, Cm, Sl, Tk, relZ u1 0 R1 T1 (ticks.getD i 0), relZ u2 0 R2 T2 (ticks.getD i 0), zticks, ticks, i + 1⟩ ?_ ?_ ⟨?_, ?_⟩
                                                          · constructor <;> simp only [hdModelCalms_0, AV.leL, AV.le, Mem.le, Mem.leP, Blk.le, Blk.pad, Data.le, Data.size, Cap.le, and_true, true_and, and_self, true_implies, implies_true, imp_self, List.length_nil] <;> (repeat' with_reducible refine And.intro ?_ ?_) <;> (try simp only [Int.toNat_natCast, Nat.mul_one, Nat.add_zero, Nat.zero_add]) <;> first | exact wadd1 (by omega) | exact e1 | exact e2
                                                          · simp only [muModelCalms_0]; omega
                                                          · exact ⟨a0, b0, a1, b1, a2, b2, a3, b3, a4, b4, a5, b5, a6, b6, a7, b7, by omega, by omega, by omega, by omega, by omega, by omega, hz, hl, hw⟩
                                                          · rw [next60 (by omega) (by omega)] at hr; simp only [runC, if_pos hk] at hr; exact hr
                                                  · (try simp only [decide_eq_true_eq, decide_eq_false_iff_not, Bool.not_eq_true', Bool.not_eq_false', beq_iff_eq, beq_eq_false_iff_ne, Int.not_lt, Int.not_le, ge_iff_le, gt_iff_lt, ne_eq, Bool.false_eq_true, Bool.true_eq_false, not_true_eq_false, not_false_eq_true, Bool.and_eq_true, Bool.not_eq_eq_eq_not, Bool.not_true, Bool.not_false, bne_iff_ne, bne_eq_false_iff_eq, Int.toNat_natCast, Nat.mul_one, Nat.add_zero, Nat.zero_add, List.take_length, List.drop_zero] at h13)
                                                    all_goals
                                                      refine Tree.Sat.ret ?_
                                                      have hs := st_ok (R0 := R0) (R1 := R1) (R2 := R2) (T1 := T1) (T2 := T2) (Cm := Cm) (Sl := Sl) (Tk := Tk) (u1 := u1) (u2 := u2) (I := 0) (t := (ticks.getD i 0)) h5
                                                      obtain ⟨hk, e1, e2⟩ := hs
                                                      have hk' := hk
                                                      obtain ⟨⟨_, _, _, ⟨k1, _⟩, ⟨k2, _⟩, _⟩, ⟨x0, x1, x2, x3, _, _⟩, k3, _⟩ := hk'
                                                      have rA := rel_between (u := u1) (I := 0) (r := R1) (tau := T1) (t := (ticks.getD i 0)) k3 k1
                                                      have rB := rel_between (u := u2) (I := 0) (r := R2) (tau := T2) (t := (ticks.getD i 0)) k3 k2
                                                      rw [drive_zero] at rA rB
                                                      refine .norm ⟨R0, R1, R2, T1, T2, Cm, Sl, Tk, relZ u1 0 R1 T1 (ticks.getD i 0), relZ u2 0 R2 T2 (ticks.getD i 0), zticks, ticks, i + 1⟩ ?_ ?_ ⟨?_, ?_⟩
                                                      · constructor <;> simp only [hdModelCalms_0, AV.leL, AV.le, Mem.le, Mem.leP, Blk.le, Blk.pad, Data.le, Data.size, Cap.le, and_true, true_and, and_self, true_implies, implies_true, imp_self, List.length_nil] <;> (repeat' with_reducible refine And.intro ?_ ?_) <;> (try simp only [Int.toNat_natCast, Nat.mul_one, Nat.add_zero, Nat.zero_add]) <;> first | exact wadd1 (by omega) | exact e1 | exact e2
                                                      · simp only [muModelCalms_0]; omega
                                                      · exact ⟨a0, b0, a1, b1, a2, b2, a3, b3, a4, b4, a5, b5, a6, b6, a7, b7, by omega, by omega, by omega, by omega, by omega, by omega, hz, hl, hw⟩
                                                      · rw [next60 (by omega) (by omega)] at hr; simp only [runC, if_pos hk] at hr; exact hr
                                          · (try simp only [decide_eq_true_eq, decide_eq_false_iff_not, Bool.not_eq_true', Bool.not_eq_false', beq_iff_eq, beq_eq_false_iff_ne, Int.not_lt, Int.not_le, ge_iff_le, gt_iff_lt, ne_eq, Bool.false_eq_true, Bool.true_eq_false, not_true_eq_false, not_false_eq_true, Bool.and_eq_true, Bool.not_eq_eq_eq_not, Bool.not_true, Bool.not_false, bne_iff_ne, bne_eq_false_iff_eq, Int.toNat_natCast, Nat.mul_one, Nat.add_zero, Nat.zero_add, List.take_length, List.drop_zero] at h11)
                                            all_goals
                                              refine Tree.Sat.br (fun h12 => ?_) (fun h12 => ?_)
                                              · (try simp only [decide_eq_true_eq, decide_eq_false_iff_not, Bool.not_eq_true', Bool.not_eq_false', beq_iff_eq, beq_eq_false_iff_ne, Int.not_lt, Int.not_le, ge_iff_le, gt_iff_lt, ne_eq, Bool.false_eq_true, Bool.true_eq_false, not_true_eq_false, not_false_eq_true, Bool.and_eq_true, Bool.not_eq_eq_eq_not, Bool.not_true, Bool.not_false, bne_iff_ne, bne_eq_false_iff_eq, Int.toNat_natCast, Nat.mul_one, Nat.add_zero, Nat.zero_add, List.take_length, List.drop_zero] at h12)
                                                all_goals
                                                  refine Tree.Sat.br (fun h13 => ?_) (fun h13 => ?_)
                                                  · (try simp only [decide_eq_true_eq, decide_eq_false_iff_not, Bool.not_eq_true', Bool.not_eq_false', beq_iff_eq, beq_eq_false_iff_ne, Int.not_lt, Int.not_le, ge_iff_le, gt_iff_lt, ne_eq, Bool.false_eq_true, Bool.true_eq_false, not_true_eq_false, not_false_eq_true, Bool.and_eq_true, Bool.not_eq_eq_eq_not, Bool.not_true, Bool.not_false, bne_iff_ne, bne_eq_false_iff_eq, Int.toNat_natCast, Nat.mul_one, Nat.add_zero, Nat.zero_add, List.take_length, List.drop_zero] at h13)
                                                    all_goals
                                                      refine Tree.Sat.ret ?_
                                                      exfalso
                                                      have hs := st_ok (R0 := R0) (R1 := R1) (R2 := R2) (T1 := T1) (T2 := T2) (Cm := Cm) (Sl := Sl) (Tk := Tk) (u1 := u1) (u2 := u2) (I := 0) (t := (ticks.getD i 0)) h5
                                                      obtain ⟨hk, e1, e2⟩ := hs
                                                      have hk' := hk
                                                      obtain ⟨⟨_, _, _, ⟨k1, _⟩, ⟨k2, _⟩, _⟩, ⟨x0, x1, x2, x3, _, _⟩, k3, _⟩ := hk'
                                                      have rA := rel_between (u := u1) (I := 0) (r := R1) (tau := T1) (t := (ticks.getD i 0)) k3 k1
                                                      have rB := rel_between (u := u2) (I := 0) (r := R2) (tau := T2) (t := (ticks.getD i 0)) k3 k2
                                                      rw [drive_zero] at rA rB
                                                      simp only [w64] at *
                                                      omega
                                                  · (try simp only [decide_eq_true_eq, decide_eq_false_iff_not, Bool.not_eq_true', Bool.not_eq_false', beq_iff_eq, beq_eq_false_iff_ne, Int.not_lt, Int.not_le, ge_iff_le, gt_iff_lt, ne_eq, Bool.false_eq_true, Bool.true_eq_false, not_true_eq_false, not_false_eq_true, Bool.and_eq_true, Bool.not_eq_eq_eq_not, Bool.not_true, Bool.not_false, bne_iff_ne, bne_eq_false_iff_eq, Int.toNat_natCast, Nat.mul_one, Nat.add_zero, Nat.zero_add, List.take_length, List.drop_zero] at h13)
                                                    all_goals
                                                      refine Tree.Sat.ret ?_
                                                      have hs := st_ok (R0 := R0) (R1 := R1) (R2 := R2) (T1 := T1) (T2 := T2) (Cm := Cm) (Sl := Sl) (Tk := Tk) (u1 := u1) (u2 := u2) (I := 0) (t := (ticks.getD i 0)) h5
                                                      obtain ⟨hk, e1, e2⟩ := hs
                                                      have hk' := hk
                                                      obtain ⟨⟨_, _, _, ⟨k1, _⟩, ⟨k2, _⟩, _⟩, ⟨x0, x1, x2, x3, _, _⟩, k3, _⟩ := hk'
                                                      have rA := rel_between (u := u1) (I := 0) (r := R1) (tau := T1) (t := (ticks.getD i 0)) k3 k1
                                                      have rB := rel_between (u := u2) (I := 0) (r := R2) (tau := T2) (t := (ticks.getD i 0)) k3 k2
                                                      rw [drive_zero] at rA rB
                                                      refine .norm ⟨R0, R1, R2, T1, T2, Cm, Sl, Tk, relZ u1 0 R1 T1 (ticks.getD i 0), relZ u2 0 R2 T2 (ticks.getD i 0), zticks, ticks, i + 1⟩ ?_ ?_ ⟨?_, ?_⟩
                                                      · constructor <;> simp only [hdModelCalms_0, AV.leL, AV.le, Mem.le, Mem.leP, Blk.le, Blk.pad, Data.le, Data.size, Cap.le, and_true, true_and, and_self, true_implies, implies_true, imp_self, List.length_nil] <;> (repeat' with_reducible refine And.intro ?_ ?_) <;> (try simp only [Int.toNat_natCast, Nat.mul_one, Nat.add_zero, Nat.zero_add]) <;> first | exact wadd1 (by omega) | exact e1 | exact e2
                                                      · simp only [muModelCalms_0]; omega
                                                      · exact ⟨a0, b0, a1, b1, a2, b2, a3, b3, a4, b4, a5, b5, a6, b6, a7, b7, by omega, by omega, by omega, by omega, by omega, by omega, hz, hl, hw⟩
                                                      · rw [next60 (by omega) (by omega)] at hr; simp only [runC, if_pos hk] at hr; exact hr
                                              · (try simp only [decide_eq_true_eq, decide_eq_false_iff_not, Bool.not_eq_true', Bool.not_eq_false', beq_iff_eq, beq_eq_false_iff_ne, Int.not_lt, Int.not_le, ge_iff_le, gt_iff_lt, ne_eq, Bool.false_eq_true, Bool.true_eq_false, not_true_eq_false, not_false_eq_true, Bool.and_eq_true, Bool.not_eq_eq_eq_not, Bool.not_true, Bool.not_false, bne_iff_ne, bne_eq_false_iff_eq, Int.toNat_natCast, Nat.mul_one, Nat.add_zero, Nat.zero_add, List.take_length, List.drop_zero] at h12)
                                                all_goals
                                                  refine Tree.Sat.ret ?_
                                                  have hs := st_ok (R0 := R0) (R1 := R1) (R2 := R2) (T1 := T1) (T2 := T2) (Cm := Cm) (Sl := Sl) (Tk := Tk) (u1 := u1) (u2 := u2) (I := 0) (t := (ticks.getD i 0)) h5
                                                  obtain ⟨hk, e1, e2⟩ := hs
                                                  have hk' := hk
                                                  obtain ⟨⟨_, _, _, ⟨k1, _⟩, ⟨k2, _⟩, _⟩, ⟨x0, x1, x2, x3, _, _⟩, k3, _⟩ := hk'
                                                  have rA := rel_between (u := u1) (I := 0) (r := R1) (tau := T1) (t := (ticks.getD i 0)) k3 k1
                                                  have rB := rel_between (u := u2) (I := 0) (r := R2) (tau := T2) (t := (ticks.getD i 0)) k3 k2
                                                  rw [drive_zero] at rA rB
                                                  refine .norm ⟨R0, R1, R2, T1, T2, Cm, Sl, Tk, relZ u1 0 R1 T1 (ticks.getD i 0), relZ u2 0 R2 T2 (ticks.getD i 0), zticks, ticks, i + 1⟩ ?_ ?_ ⟨?_, ?_⟩
                                                  · constructor <;> simp only [hdModelCalms_0, AV.leL, AV.le, Mem.le, Mem.leP, Blk.le, Blk.pad, Data.le, Data.size, Cap.le, and_true, true_and, and_self, true_implies, implies_true, imp_self, List.length_nil] <;> (repeat' with_reducible refine And.intro ?_ ?_) <;> (try simp only [Int.toNat_natCast, Nat.mul_one, Nat.add_zero, Nat.zero_add]) <;> first | exact wadd1 (by omega) | exact e1 | exact e2
                                                  · simp only [muModelCalms_0]; omega
                                                  · exact ⟨a0, b0, a1, b1, a2, b2, a3, b3, a4, b4, a5, b5, a6, b6, a7, b7, by omega, by omega, by omega, by omega, by omega, by omega, hz, hl, hw⟩
                                                  · rw [next60 (by omega) (by omega)] at hr; simp only [runC, if_pos hk] at hr; exact hr
                                  · (try simp only [decide_eq_true_eq, decide_eq_false_iff_not, Bool.not_eq_true', Bool.not_eq_false', beq_iff_eq, beq_eq_false_iff_ne, Int.not_lt, Int.not_le, ge_iff_le, gt_iff_lt, ne_eq, Bool.false_eq_true, Bool.true_eq_false, not_true_eq_false, not_false_eq_true, Bool.and_eq_true, Bool.not_eq_eq_eq_not, Bool.not_true, Bool.not_false, bne_iff_ne, bne_eq_false_iff_eq, Int.toNat_natCast, Nat.mul_one, Nat.add_zero, Nat.zero_add, List.take_length, List.drop_zero] at h9)
                                    all_goals
                                      refine Tree.Sat.br (fun h10 => ?_) (fun h10 => ?_)
                                      · (try simp only [decide_eq_true_eq, decide_eq_false_iff_not, Bool.not_eq_true', Bool.not_eq_false', beq_iff_eq, beq_eq_false_iff_ne, Int.not_lt, Int.not_le, ge_iff_le, gt_iff_lt, ne_eq, Bool.false_eq_true, Bool.true_eq_false, not_true_eq_false, not_false_eq_true, Bool.and_eq_true, Bool.not_eq_eq_eq_not, Bool.not_true, Bool.not_false, bne_iff_ne, bne_eq_false_iff_eq, Int.toNat_natCast, Nat.mul_one, Nat.add_zero, Nat.zero_add, List.take_length, List.drop_zero] at h10)
                                        all_goals
                                          refine Tree.Sat.br (fun h11 => ?_) (fun h11 => ?_)
                                          · (try simp only [decide_eq_true_eq, decide_eq_false_iff_not, Bool.not_eq_true', Bool.not_eq_false', beq_iff_eq, beq_eq_false_iff_ne, Int.not_lt, Int.not_le, ge_iff_le, gt_iff_lt, ne_eq, Bool.false_eq_true, Bool.true_eq_false, not_true_eq_false, not_false_eq_true, Bool.and_eq_true, Bool.not_eq_eq_eq_not, Bool.not_true, Bool.not_false, bne_iff_ne, bne_eq_false_iff_eq, Int.toNat_natCast, Nat.mul_one, Nat.add_zero, Nat.zero_add, List.take_length, List.drop_zero] at h11)
                                            all_goals
                                              refine Tree.Sat.ret ?_
                                              exfalso
                                              have hs := st_ok (R0 := R0) (R1 := R1) (R2 := R2) (T1 := T1) (T2 := T2) (Cm := Cm) (Sl := Sl) (Tk := Tk) (u1 := u1) (u2 := u2) (I := 0) (t := (ticks.getD i 0)) h5
                                              obtain ⟨hk, e1, e2⟩ := hs
                                              have hk' := hk
                                              obtain ⟨⟨_, _, _, ⟨k1, _⟩, ⟨k2, _⟩, _⟩, ⟨x0, x1, x2, x3, _, _⟩, k3, _⟩ := hk'
                                              have rA := rel_between (u := u1) (I := 0) (r := R1) (tau := T1) (t := (ticks.getD i 0)) k3 k1
                                              have rB := rel_between (u := u2) (I := 0) (r := R2) (tau := T2) (t := (ticks.getD i 0)) k3 k2
                                              rw [drive_zero] at rA rB
                                              simp only [w64] at *
                                              omega
                                          · (try simp only [decide_eq_true_eq, decide_eq_false_iff_not, Bool.not_eq_true', Bool.not_eq_false', beq_iff_eq, beq_eq_false_iff_ne, Int.not_lt, Int.not_le, ge_iff_le, gt_iff_lt, ne_eq, Bool.false_eq_true, Bool.true_eq_false, not_true_eq_false, not_false_eq_true, Bool.and_eq_true, Bool.not_eq_eq_eq_not, Bool.not_true, Bool.not_false, bne_iff_ne, bne_eq_false_iff_eq, Int.toNat_natCast, Nat.mul_one, Nat.add_zero, Nat.zero_add, List.take_length, List.drop_zero] at h11)
                                            all_goals
                                              refine Tree.Sat.br (fun h12 => ?_) (fun h12 => ?_)
                                              · (try simp only [decide_eq_true_eq, decide_eq_false_iff_not, Bool.not_eq_true', Bool.not_eq_false', beq_iff_eq, beq_eq_false_iff_ne, Int.not_lt, Int.not_le, ge_iff_le, gt_iff_lt, ne_eq, Bool.false_eq_true, Bool.true_eq_false, not_true_eq_false, not_false_eq_true, Bool.and_eq_true, Bool.not_eq_eq_eq_not, Bool.not_true, Bool.not_false, bne_iff_ne, bne_eq_false_iff_eq, Int.toNat_natCast, Nat.mul_one, Nat.add_zero, Nat.zero_add, List.take_length, List.drop_zero] at h12)
                                                all_goals
                                                  refine Tree.Sat.br (fun h13 => ?_) (fun h13 => ?_)
                                                  · (try simp only [decide_eq_true_eq, decide_eq_false_iff_not, Bool.not_eq_true', Bool.not_eq_false', beq_iff_eq, beq_eq_false_iff_ne, Int.not_lt, Int.not_le, ge_iff_le, gt_iff_lt, ne_eq, Bool.false_eq_true, Bool.true_eq_false, not_true_eq_false, not_false_eq_true, Bool.and_eq_true, Bool.not_eq_eq_eq_not, Bool.not_true, Bool.not_false, bne_iff_ne, bne_eq_false_iff_eq, Int.toNat_natCast, Nat.mul_one, Nat.add_zero, Nat.zero_add, List.take_length, List.drop_zero] at h13)
                                                    all_goals
                                                      refine Tree.Sat.ret ?_
                                                      exfalso
                                                      have hs := st_ok (R0 := R0) (R1 := R1) (R2 := R2) (T1 := T1) (T2 := T2) (Cm := Cm) (Sl := Sl) (Tk := Tk) (u1 := u1) (u2 := u2) (I := 0) (t := (ticks.getD i 0)) h5
                                                      obtain ⟨hk, e1, e2⟩ := hs
                                                      have hk' := hk
                                                      obtain ⟨⟨_, _, _, ⟨k1, _⟩, ⟨k2, _⟩, _⟩, ⟨x0, x1, x2, x3, _, _⟩, k3, _⟩ := hk'
                                                      have rA := rel_between (u := u1) (I := 0) (r := R1) (tau := T1) (t := (ticks.getD i 0)) k3 k1
                                                      have rB := rel_between (u := u2) (I := 0) (r := R2) (tau := T2) (t := (ticks.getD i 0)) k3 k2
                                                      rw [drive_zero] at rA rB
                                                      simp only [w64] at *
                                                      omega
                                                  · (try simp only [decide_eq_true_eq, decide_eq_false_iff_not, Bool.not_eq_true', Bool.not_eq_false', beq_iff_eq, beq_eq_false_iff_ne, Int.not_lt, Int.not_le, ge_iff_le, gt_iff_lt, ne_eq, Bool.false_eq_true, Bool.true_eq_false, not_true_eq_false, not_false_eq_true, Bool.and_eq_true, Bool.not_eq_eq_eq_not, Bool.not_true, Bool.not_false, bne_iff_ne, bne_eq_false_iff_eq, Int.toNat_natCast, Nat.mul_one, Nat.add_zero, Nat.zero_add, List.take_length, List.drop_zero] at h13)
                                                    all_goals
                                                      refine Tree.Sat.ret ?_
                                                      have hs := st_ok (R0 := R0) (R1 := R1) (R2 := R2) (T1 := T1) (T2 := T2) (Cm := Cm) (Sl := Sl) (Tk := Tk) (u1 := u1) (u2 := u2) (I := 0) (t := (ticks.getD i 0)) h5
                                                      obtain ⟨hk, e1, e2⟩ := hs
                                                      have hk' := hk
                                                      obtain ⟨⟨_, _, _, ⟨k1, _⟩, ⟨k2, _⟩, _⟩, ⟨x0, x1, x2, x3, _, _⟩, k3, _⟩ := hk'
                                                      have rA := rel_between (u := u1) (I := 0) (r := R1) (tau := T1) (t := (ticks.getD i 0)) k3 k1
                                                      have rB := rel_between (u := u2) (I := 0) (r := R2) (tau := T2) (t := (ticks.getD i 0)) k3 k2
                                                      rw [drive_zero] at rA rB
                                                      refine .norm ⟨R0, R1, R2, T1, T2, Cm, Sl, Tk, relZ u1 0 R1 T1 (ticks.getD i 0), relZ u2 0 R2 T2 (ticks.getD i 0), zticks, ticks, i + 1⟩ ?_ ?_ ⟨?_, ?_⟩
                                                      · constructor <;> simp only [hdModelCalms_0, AV.leL, AV.le, Mem.le, Mem.leP, Blk.le, Blk.pad, Data.le, Data.size, Cap.le, and_true, true_and, and_self, true_implies, implies_true, imp_self, List.length_nil] <;> (repeat' with_reducible refine And.intro ?_ ?_) <;> (try simp only [Int.toNat_natCast, Nat.mul_one, Nat.add_zero, Nat.zero_add]) <;> first | exact wadd1 (by omega) | exact e1 | exact e2
                                                      · simp only [muModelCalms_0]; omega
                                                      · exact ⟨a0, b0, a1, b1, a2, b2, a3, b3, a4, b4, a5, b5, a6, b6, a7, b7, by omega, by omega, by omega, by omega, by omega, by omega, hz, hl, hw⟩
                                                      · rw [next60 (by omega) (by omega)] at hr; simp only [runC, if_pos hk] at hr; exact hr
                                              · (try simp only [decide_eq_true_eq, decide_eq_false_iff_not, Bool.not_eq_true', Bool.not_eq_false', beq_iff_eq, beq_eq_false_iff_ne, Int.not_lt, Int.not_le, ge_iff_le, gt_iff_lt, ne_eq, Bool.false_eq_true, Bool.true_eq_false, not_true_eq_false, not_false_eq_true, Bool.and_eq_true, Bool.not_eq_eq_eq_not, Bool.not_true, Bool.not_false, bne_iff_ne, bne_eq_false_iff_eq, Int.toNat_natCast, Nat.mul_one, Nat.add_zero, Nat.zero_add, List.take_length, List.drop_zero] at h12)
                                                all_goals
                                                  refine Tree.Sat.ret ?_
                                                  have hs := st_ok (R0 := R0) (R1 := R1) (R2 := R2) (T1 := T1) (T2 := T2) (Cm := Cm) (Sl := Sl) (Tk := Tk) (u1 := u1) (u2 := u2) (I := 0) (t := (ticks.getD i 0)) h5
                                                  obtain ⟨hk, e1, e2⟩ := hs
                                                  have hk' := hk
                                                  obtain ⟨⟨_, _, _, ⟨k1, _⟩, ⟨k2, _⟩, _⟩, ⟨x0, x1, x2, x3, _, _⟩, k3, _⟩ := hk'
                                                  have rA := rel_between (u := u1) (I := 0) (r := R1) (tau := T1) (t := (ticks.getD i 0)) k3 k1
                                                  have rB := rel_between (u := u2) (I := 0) (r := R2) (tau := T2) (t := (ticks.getD i 0)) k3 k2
                                                  rw [drive_zero] at rA rB
                                                  refine .norm ⟨R0, R1, R2, T1, T2, Cm, Sl, Tk, relZ u1 0 R1 T1 (ticks.getD i 0), relZ u2 0 R2 T2 (ticks.getD i 0), zticks, ticks, i + 1⟩ ?_ ?_ ⟨?_, ?_⟩
                                                  · constructor <;> simp only [hdModelCalms_0, AV.leL, AV.le, Mem.le, Mem.leP, Blk.le, Blk.pad, Data.le, Data.size, Cap.le, and_true, true_and, and_self, true_implies, implies_true, imp_self, List.length_nil] <;> (repeat' with_reducible refine And.intro ?_ ?_) <;> (try simp only [Int.toNat_natCast, Nat.mul_one, Nat.add_zero, Nat.zero_add]) <;> first | exact wadd1 (by omega) | exact e1 | exact e2
                                                  · simp only [muModelCalms_0]; omega
                                                  · exact ⟨a0, b0, a1, b1, a2, b2, a3, b3, a4, b4, a5, b5, a6, b6, a7, b7, by omega, by omega, by omega, by omega, by omega, by omega, hz, hl, hw⟩
                                                  · rw [next60 (by omega) (by omega)] at hr; simp only [runC, if_pos hk] at hr; exact hr
                                      · (try simp only [decide_eq_true_eq, decide_eq_false_iff_not, Bool.not_eq_true', Bool.not_eq_false', beq_iff_eq, beq_eq_false_iff_ne, Int.not_lt, Int.not_le, ge_iff_le, gt_iff_lt, ne_eq, Bool.false_eq_true, Bool.true_eq_false, not_true_eq_false, not_false_eq_true, Bool.and_eq_true, Bool.not_eq_eq_eq_not, Bool.not_true, Bool.not_false, bne_iff_ne, bne_eq_false_iff_eq, Int.toNat_natCast, Nat.mul_one, Nat.add_zero, Nat.zero_add, List.take_length, List.drop_zero] at h10)
                                        all_goals
                                          refine Tree.Sat.br (fun h11 => ?_) (fun h11 => ?_)
                                          · (try simp only [decide_eq_true_eq, decide_eq_false_iff_not, Bool.not_eq_true', Bool.not_eq_false', beq_iff_eq, beq_eq_false_iff_ne, Int.not_lt, Int.not_le, ge_iff_le, gt_iff_lt, ne_eq, Bool.false_eq_true, Bool.true_eq_false, not_true_eq_false, not_false_eq_true, Bool.and_eq_true, Bool.not_eq_eq_eq_not, Bool.not_true, Bool.not_false, bne_iff_ne, bne_eq_false_iff_eq, Int.toNat_natCast, Nat.mul_one, Nat.add_zero, Nat.zero_add, List.take_length, List.drop_zero] at h11)
                                            all_goals
                                              refine Tree.Sat.br (fun h12 => ?_) (fun h12 => ?_)
                                              · (try simp only [decide_eq_true_eq, decide_eq_false_iff_not, Bool.not_eq_true', Bool.not_eq_false', beq_iff_eq, beq_eq_false_iff_ne, Int.not_lt, Int.not_le, ge_iff_le, gt_iff_lt, ne_eq, Bool.false_eq_true, Bool.true_eq_false, not_true_eq_false, not_false_eq_true, Bool.and_eq_true, Bool.not_eq_eq_eq_not, Bool.not_true, Bool.not_false, bne_iff_ne, bne_eq_false_iff_eq, Int.toNat_natCast, Nat.mul_one, Nat.add_zero, Nat.zero_add, List.take_length, List.drop_zero] at h12)
                                                all_goals
                                                  refine Tree.Sat.ret ?_
                                                  exfalso
                                                  have hs := st_ok (R0 := R0) (R1 := R1) (R2 := R2) (T1 := T1) (T2 := T2) (Cm := Cm) (Sl := Sl) (Tk := Tk) (u1 := u1) (u2 := u2) (I := 0) (t := (ticks.getD i 0)) h5
                                                  obtain ⟨hk, e1, e2⟩ := hs
                                                  have hk' := hk
                                                  obtain ⟨⟨_, _, _, ⟨k1, _⟩, ⟨k2, _⟩, _⟩, ⟨x0, x1, x2, x3, _, _⟩, k3, _⟩ := hk'
                                                  have rA := rel_between (u := u1) (I := 0) (r := R1) (tau := T1) (t := (ticks.getD i 0)) k3 k1
                                                  have rB := rel_between (u := u2) (I := 0) (r := R2) (tau := T2) (t := (ticks.getD i 0)) k3 k2
                                                  rw [drive_zero] at rA rB
                                                  simp only [w64] at *
                                                  omega
                                              · (try simp only [decide_eq_true_eq, decide_eq_false_iff_not, Bool.not_eq_true', Bool.not_eq_false', beq_iff_eq, beq_eq_false_iff_ne, Int.not_lt, Int.not_le, ge_iff_le, gt_iff_lt, ne_eq, Bool.false_eq_true, Bool.true_eq_false, not_true_eq_false, not_false_eq_true, Bool.and_eq_true, Bool.not_eq_eq_eq_not, Bool.not_true, Bool.not_false, bne_iff_ne, bne_eq_false_iff_eq, Int.toNat_natCast, Nat.mul_one, Nat.add_zero, Nat.zero_add, List.take_length, List.drop_zero] at h12)
                                                all_goals
                                                  refine Tree.Sat.ret ?_
                                                  have hs := st_ok (R0 := R0) (R1 := R1) (R2 := R2) (T1 := T1) (T2 := T2) (Cm := Cm) (Sl := Sl) (Tk := Tk) (u1 := u1) (u2 := u2) (I := 0) (t := (ticks.getD i 0)) h5
                                                  obtain ⟨hk, e1, e2⟩ := hs
                                                  have hk' := hk
                                                  obtain ⟨⟨_, _, _, ⟨k1, _⟩, ⟨k2, _⟩, _⟩, ⟨x0, x1, x2, x3, _, _⟩, k3, _⟩ := hk'
                                                  have rA := rel_between (u := u1) (I := 0) (r := R1) (tau := T1) (t := (ticks.getD i 0)) k3 k1
                                                  have rB := rel_between (u := u2) (I := 0) (r := R2) (tau := T2) (t := (ticks.getD i 0)) k3 k2
                                                  rw [drive_zero] at rA rB
                                                  refine .norm ⟨R0, R1, R2, T1, T2, Cm, Sl, Tk, relZ u1 0 R1 T1 (ticks.getD i 0), relZ u2 0 R2 T2 (ticks.getD i 0), zticks, ticks, i + 1⟩ ?_ ?_ ⟨?_, ?_⟩
                                                  · constructor <;> simp only [hdModelCalms_0, AV.leL, AV.le, Mem.le, Mem.leP, Blk.le, Blk.pad, Data.le, Data.size, Cap.le, and_true, true_and, and_self, true_implies, implies_true, imp_self, List.length_nil] <;> (repeat' with_reducible refine And.intro ?_ ?_) <;> (try simp only [Int.toNat_natCast, Nat.mul_one, Nat.add_zero, Nat.zero_add]) <;> first | exact wadd1 (by omega) | exact e1 | exact e2
                                                  · simp only [muModelCalms_0]; omega
                                                  · exact ⟨a0, b0, a1, b1, a2, b2, a3, b3, a4, b4, a5, b5, a6, b6, a7, b7, by omega, by omega, by omega, by omega, by omega, by omega, hz, hl, hw⟩
                                                  · rw [next60 (by omega) (by omega)] at hr; simp only [runC, if_pos hk] at hr; exact hr
                                          · (try simp only [decide_eq_true_eq, decide_eq_false_iff_not, Bool.not_eq_true', Bool.not_eq_false', beq_iff_eq, beq_eq_false_iff_ne, Int.not_lt, Int.not_le, ge_iff_le, gt_iff_lt, ne_eq, Bool.false_eq_true, Bool.true_eq_false, not_true_eq_false, not_false_eq_true, Bool.and_eq_true, Bool.not_eq_eq_eq_not, Bool.not_true, Bool.not_false, bne_iff_ne, bne_eq_false_iff_eq, Int.toNat_natCast, Nat.mul_one, Nat.add_zero, Nat.zero_add, List.take_length, List.drop_zero] at h11)
                                            all_goals
                                              refine Tree.Sat.ret ?_
                                              have hs := st_ok (R0 := R0) (R1 := R1) (R2 := R2) (T1 := T1) (T2 := T2) (Cm := Cm) (Sl := Sl) (Tk := Tk) (u1 := u1) (u2 := u2) (I := 0) (t := (ticks.getD i 0)) h5
                                              obtain ⟨hk, e1, e2⟩ := hs
                                              have hk' := hk
                                              obtain ⟨⟨_, _, _, ⟨k1, _⟩, ⟨k2, _⟩, _⟩, ⟨x0, x1, x2, x3, _, _⟩, k3, _⟩ := hk'
                                              have rA := rel_between (u := u1) (I := 0) (r := R1) (tau := T1) (t := (ticks.getD i 0)) k3 k1
                                              have rB := rel_between (u := u2) (I := 0) (r := R2) (tau := T2) (t := (ticks.getD i 0)) k3 k2
                                              rw [drive_zero] at rA rB
                                              refine .norm ⟨R0, R1, R2, T1, T2, Cm, Sl, Tk, relZ u1 0 R1 T1 (ticks.getD i 0), relZ u2 0 R2 T2 (ticks.getD i 0), zticks, ticks, i + 1⟩ ?_ ?_ ⟨?_, ?_⟩
                                              · constructor <;> simp only [hdModelCalms_0, AV.leL, AV.le, Mem.le, Mem.leP, Blk.le, Blk.pad, Data.le, Data.size, Cap.le, and_true, true_and, and_self, true_implies, implies_true, imp_self, List.length_nil] <;> (repeat' with_reducible refine And.intro ?_ ?_) <;> (try simp only [Int.toNat_natCast, Nat.mul_one, Nat.add_zero, Nat.zero_add]) <;> first | exact wadd1 (by omega) | exact e1 | exact e2
                                              · simp only [muModelCalms_0]; omega
                                              · exact ⟨a0, b0, a1, b1, a2, b2, a3, b3, a4, b4, a5, b5, a6, b6, a7, b7, by omega, by omega, by omega, by omega, by omega, by omega, hz, hl, hw⟩
                                              · rw [next60 (by omega) (by omega)] at hr; simp only [runC, if_pos hk] at hr; exact hr
              · (try simp only [decide_eq_true_eq, decide_eq_false_iff_not, Bool.not_eq_true', Bool.not_eq_false', beq_iff_eq, beq_eq_false_iff_ne, Int.not_lt, Int.not_le, ge_iff_le, gt_iff_lt, ne_eq, Bool.false_eq_true, Bool.true_eq_false, not_true_eq_false, not_false_eq_true, Bool.and_eq_true, Bool.not_eq_eq_eq_not, Bool.not_true, Bool.not_false, bne_iff_ne, bne_eq_false_iff_eq, Int.toNat_natCast, Nat.mul_one, Nat.add_zero, Nat.zero_add, List.take_length, List.drop_zero] at h4)
                all_goals
                  exfalso
                  first | omega | (cases zticks <;> simp_all; done) | (cases zticks <;> simp_all <;> omega)
          · (try simp only [decide_eq_true_eq, decide_eq_false_iff_not, Bool.not_eq_true', Bool.not_eq_false', beq_iff_eq, beq_eq_false_iff_ne, Int.not_lt, Int.not_le, ge_iff_le, gt_iff_lt, ne_eq, Bool.false_eq_true, Bool.true_eq_false, not_true_eq_false, not_false_eq_true, Bool.and_eq_true, Bool.not_eq_eq_eq_not, Bool.not_true, Bool.not_false, bne_iff_ne, bne_eq_false_iff_eq, Int.toNat_natCast, Nat.mul_one, Nat.add_zero, Nat.zero_add, List.take_length, List.drop_zero] at h3)
            all_goals
              exfalso
              first | omega | (cases zticks <;> simp_all; done) | (cases zticks <;> simp_all <;> omega)
      · (try simp only [decide_eq_true_eq, decide_eq_false_iff_not, Bool.not_eq_true', Bool.not_eq_false', beq_iff_eq, beq_eq_false_iff_ne, Int.not_lt, Int.not_le, ge_iff_le, gt_iff_lt, ne_eq, Bool.false_eq_true, Bool.true_eq_false, not_true_eq_false, not_false_eq_true, Bool.and_eq_true, Bool.not_eq_eq_eq_not, Bool.not_true, Bool.not_false, bne_iff_ne, bne_eq_false_iff_eq, Int.toNat_natCast, Nat.mul_one, Nat.add_zero, Nat.zero_add, List.take_length, List.drop_zero] at h2)
        all_goals
          refine Tree.Sat.ret ?_
          have hq := hr.2 (by rw [end60 (by omega)]; rfl)
          simp only [Prod.mk.injEq] at hq
          obtain ⟨rfl, rfl⟩ := hq
          refine .exit rfl ?_
          constructor <;> simp only [AV.leL, AV.le, Mem.le, Mem.leP, Blk.le, Blk.pad, Data.le, Data.size, Cap.le, and_true, true_and, and_self, true_implies, implies_true, imp_self, List.length_nil] <;> (repeat' with_reducible refine And.intro ?_ ?_) <;> (try simp only [Int.toNat_natCast, Nat.mul_one, Nat.add_zero, Nat.zero_add]) <;> done
  · (try simp only [decide_eq_true_eq, decide_eq_false_iff_not, Bool.not_eq_true', Bool.not_eq_false', beq_iff_eq, beq_eq_false_iff_ne, Int.not_lt, Int.not_le, ge_iff_le, gt_iff_lt, ne_eq, Bool.false_eq_true, Bool.true_eq_false, not_true_eq_false, not_false_eq_true, Bool.and_eq_true, Bool.not_eq_eq_eq_not, Bool.not_true, Bool.not_false, bne_iff_ne, bne_eq_false_iff_eq, Int.toNat_natCast, Nat.mul_one, Nat.add_zero, Nat.zero_add, List.take_length, List.drop_zero] at h1)
    all_goals
      refine Tree.Sat.ret ?_
      have hq := hr.2 (by rw [end60 (by omega)]; rfl)
      simp only [Prod.mk.injEq] at hq
      obtain ⟨rfl, rfl⟩ := hq
      refine .exit rfl ?_
      constructor <;> simp only [AV.leL, AV.le, Mem.le, Mem.leP, Blk.le, Blk.pad, Data.le, Data.size, Cap.le, and_true, true_and, and_self, true_implies, implies_true, imp_self, List.length_nil] <;> (repeat' with_reducible refine And.intro ?_ ?_) <;> (try simp only [Int.toNat_natCast, Nat.mul_one, Nat.add_zero, Nat.zero_add]) <;> done
set_option maxHeartbeats 2000000 in
set_option maxRecDepth 100000 in
theorem loopModelCalms_0 (hall : AllOk Try.prog 0 (fun _ => none) tab18) : LoopOk (mkL Try.prog 0 (fun _ => none) tab18 rowsModelCalms) 7 1 (bodyAt Try.prog 7 0) := by
  have hkey : Code.key (bodyAt Try.prog 7 0) = 4 := by kernel_rfl
  have hin : loopsIn (bodyAt Try.prog 7 0) = [] := by kernel_rfl
  have hrow : lookL rowsModelCalms 7 (Code.key (bodyAt Try.prog 7 0)) = some rowModelCalms_0 := by rw [hkey]; rfl
  refine loop_rowP (X := XModelCalms_0) (row := rowModelCalms_0) hall mix hrow (fun b hb _ => by rw [hin] at hb; cases hb) UModelCalms_0 hdModelCalms_0 resModelCalms_0 muModelCalms_0 (fun st ex r h => ?_) (fun x ex r hr => ?_)
  · have h' : (ansModelCalms_0 st).runs (ex, r) := h
    unfold ansModelCalms_0 at h'
    split at h'
    · obtain ⟨q1, q2⟩ := Tree.chk_runs h'
      exact ⟨_, q1, q2⟩
    · exact h'.elim
  · obtain ⟨R0, R1, R2, T1, T2, Cm, Sl, Tk, u1, u2, zticks, ticks, i⟩ := x
    have := stepModelCalms_0 R0 R1 R2 T1 T2 Cm Sl Tk u1 u2 zticks ticks i ex r hr.1 hr.2
    rw [← tLModelCalms_0] at this
    (try rw [show rowModelCalms_0.tidy = TModelCalms_0 from rfl])
    exact this
theorem loopsModelCalms (hall : AllOk Try.prog 0 (fun _ => none) tab18) : ∀ i, i < (loopsAt Try.prog 7).length → LoopOk (mkL Try.prog 0 (fun _ => none) tab18 rowsModelCalms) 7 1 (bodyAt Try.prog 7 i) := by
  intro i hi
  have hlen : (loopsAt Try.prog 7).length = 1 := by kernel_rfl
  rw [hlen] at hi
  obtain rfl : i = 0 := by omega
  · exact loopModelCalms_0 hall
set_option maxRecDepth 100000 in
theorem tModelCalms (R0 : Int) (R1 : Int) (R2 : Int) (T1 : Int) (T2 : Int) (Cm : Int) (Sl : Int) (Tk : Int) (u1 : Int) (u2 : Int) (zticks : Bool) (ticks : List Int) : evBody (mkL Try.prog 0 (fun _ => none) tab18 rowsModelCalms) (evCall (mkC Try.prog 0 (fun _ => none) tab18) 50) 7 [.agg [.int .i64 false R0, .int .i64 false R1, .int .i64 false R2, .int .i64 false T1, .int .i64 false T2, .int .i64 false Cm, .int .i64 false Sl, .int .i64 false Tk], .int .i64 false u1, .int .i64 false u2, .sl zticks ⟨0, 0, 0, 0⟩ false ticks.length .any] [some ⟨3, false, false, true, .ints .i64 ticks⟩] =
  Tree.chk (True ∧ True)
    (Tree.br false (Tree.ret (AV.bool true false, [some (Blk.mk (3) false false true (Data.ints IntKind.i64 ticks))]))
      (Tree.chk
        (St.le
          (St.mk
            [AV.junk, AV.int IntKind.i64 false u1, AV.int IntKind.i64 false u2, AV.sl zticks (Ref.mk (0) (0) (0) (0)) false (List.length ticks) Cap.any,
              AV.ptr (Ref.mk (1) (0) (0) (0)), AV.junk, AV.junk, AV.junk, AV.junk, AV.int IntKind.i64 true (0 : Int), AV.junk, AV.junk, AV.junk, AV.junk, AV.junk, AV.junk, AV.junk, AV.junk, AV.junk, AV.junk,
              AV.junk, AV.junk, AV.junk, AV.junk, AV.junk, AV.junk, AV.junk, AV.junk, AV.junk, AV.junk, AV.junk, AV.junk, AV.junk, AV.junk, AV.junk, AV.junk, AV.junk, AV.junk, AV.junk, AV.junk, AV.junk, AV.junk, AV.junk, AV.junk, AV.junk,
              AV.junk, AV.junk, AV.junk, AV.junk, AV.junk, AV.junk, AV.junk, AV.junk, AV.junk, AV.junk, AV.junk, AV.junk, AV.junk, AV.junk, AV.junk, AV.junk, AV.junk, AV.junk, AV.junk, AV.junk, AV.junk, AV.junk, AV.junk, AV.junk, AV.junk,
              AV.junk, AV.junk, AV.junk, AV.junk, AV.junk, AV.junk, AV.junk, AV.junk, AV.junk, AV.junk, AV.junk, AV.junk, AV.junk, AV.junk, AV.junk, AV.junk, AV.junk, AV.junk, AV.junk, AV.junk, AV.junk, AV.junk, AV.junk, AV.junk, AV.junk,
              AV.junk, AV.junk, AV.junk, AV.junk]
            [some (Blk.mk (3) false false true (Data.ints IntKind.i64 ticks)),
              some
                (Blk.mk (23) true false false
                  (Data.cells
                    [AV.int IntKind.i64 false R0, AV.int IntKind.i64 false R1, AV.int IntKind.i64 false R2, AV.int IntKind.i64 false T1, AV.int IntKind.i64 false T2, AV.int IntKind.i64 false Cm,
                      AV.int IntKind.i64 false Sl, AV.int IntKind.i64 false Tk]))])
          (St.mk
            [AV.junk, AV.int IntKind.i64 false u1, AV.int IntKind.i64 false u2, AV.sl zticks (Ref.mk (0) (0) (0) (0)) false (List.length ticks) Cap.any,
              AV.ptr (Ref.mk (1) (0) (0) (0)), AV.junk, AV.junk, AV.junk, AV.junk, AV.int IntKind.i64 false (0 : Int), AV.junk, AV.junk, AV.junk, AV.junk, AV.junk, AV.junk, AV.junk, AV.junk, AV.junk, AV.junk,
              AV.junk, AV.junk, AV.junk, AV.junk, AV.junk, AV.junk, AV.junk, AV.junk, AV.junk, AV.junk, AV.junk, AV.junk, AV.junk, AV.junk, AV.junk, AV.junk, AV.junk, AV.junk, AV.junk, AV.junk, AV.junk, AV.junk, AV.junk, AV.junk, AV.junk,
              AV.junk, AV.junk, AV.junk, AV.junk, AV.junk, AV.junk, AV.junk, AV.junk, AV.junk, AV.junk, AV.junk, AV.junk, AV.junk, AV.junk, AV.junk, AV.junk, AV.junk, AV.junk, AV.junk, AV.junk, AV.junk, AV.junk, AV.junk, AV.junk, AV.junk,
              AV.junk, AV.junk, AV.junk, AV.junk, AV.junk, AV.junk, AV.junk, AV.junk, AV.junk, AV.junk, AV.junk, AV.junk, AV.junk, AV.junk, AV.junk, AV.junk, AV.junk, AV.junk, AV.junk, AV.junk, AV.junk, AV.junk, AV.junk, AV.junk, AV.junk,
              AV.junk, AV.junk, AV.junk, AV.junk]
            [some (Blk.mk (3) false false true (Data.ints IntKind.i64 ticks)),
              some
                (Blk.mk (23) true false false
                  (Data.cells
                    [AV.int IntKind.i64 false R0, AV.int IntKind.i64 false R1, AV.int IntKind.i64 false R2, AV.int IntKind.i64 false T1, AV.int IntKind.i64 false T2, AV.int IntKind.i64 false Cm,
                      AV.int IntKind.i64 false Sl, AV.int IntKind.i64 false Tk]))]))
        (Tree.chk (okModelCalms_0 (XModelCalms_0.mk R0 R1 R2 T1 T2 Cm Sl Tk u1 u2 zticks ticks (Int.toNat (0 : Int))))
          (Tree.br (runC R0 R1 R2 T1 T2 Cm Sl Tk u1 u2 (List.take (60 - Int.toNat (0 : Int)) (List.drop (Int.toNat (0 : Int)) ticks)))
            (Tree.ret (AV.bool false true, [some (Blk.mk (3) false false true (Data.ints IntKind.i64 ticks))])) (Tree.ret (AV.bool true true, [some (Blk.mk (3) false false true (Data.ints IntKind.i64 ticks))])))))) := by kernel_rfl
set_option maxRecDepth 100000 in
theorem gModelCalms (R0 : Int) (R1 : Int) (R2 : Int) (T1 : Int) (T2 : Int) (Cm : Int) (Sl : Int) (Tk : Int) (u1 : Int) (u2 : Int) (zticks : Bool) (ticks : List Int) (hw : -9223372036854775808 ≤ R0 ∧ R0 ≤ 9223372036854775807 ∧ -9223372036854775808 ≤ R1 ∧ R1 ≤ 9223372036854775807 ∧ -9223372036854775808 ≤ R2 ∧ R2 ≤ 9223372036854775807 ∧ -9223372036854775808 ≤ T1 ∧ T1 ≤ 9223372036854775807 ∧ -9223372036854775808 ≤ T2 ∧ T2 ≤ 9223372036854775807 ∧ -9223372036854775808 ≤ Cm ∧ Cm ≤ 9223372036854775807 ∧ -9223372036854775808 ≤ Sl ∧ Sl ≤ 9223372036854775807 ∧ -9223372036854775808 ≤ Tk ∧ Tk ≤ 9223372036854775807 ∧ -9223372036854775808 ≤ u1 ∧ u1 ≤ 9223372036854775807 ∧ -9223372036854775808 ≤ u2 ∧ u2 ≤ 9223372036854775807 ∧ (zticks = true → ticks = []) ∧ ticks.length ≤ 9223372036854775807 ∧ wf64L ticks) : (Tree.chk (True ∧ True)
    (Tree.br false (Tree.ret (AV.bool true false, [some (Blk.mk (3) false false true (Data.ints IntKind.i64 ticks))]))
      (Tree.chk
        (St.le
          (St.mk
            [AV.junk, AV.int IntKind.i64 false u1, AV.int IntKind.i64 false u2, AV.sl zticks (Ref.mk (0) (0) (0) (0)) false (List.length ticks) Cap.any,
              AV.ptr (Ref.mk (1) (0) (0) (0)), AV.junk, AV.junk, AV.junk, AV.junk, AV.int IntKind.i64 true (0 : Int), AV.junk, AV.junk, AV.junk, AV.junk, AV.junk, AV.junk, AV.junk, AV.junk, AV.junk, AV.junk,
              AV.junk, AV.junk, AV.junk, AV.junk, AV.junk, AV.junk, AV.junk, AV.junk, AV.junk, AV.junk, AV.junk, AV.junk, AV.junk, AV.junk, AV.junk, AV.junk, AV.junk, AV.junk, AV.junk, AV.junk, AV.junk, AV.junk, AV.junk, AV.junk, AV.junk,
              AV.junk, AV.junk, AV.junk, AV.junk, AV.junk, AV.junk, AV.junk, AV.junk, AV.junk, AV.junk, AV.junk, AV.junk, AV.junk, AV.junk, AV.junk, AV.junk, AV.junk, AV.junk, AV.junk, AV.junk, AV.junk, AV.junk, AV.junk, AV.junk, AV.junk,
              AV.junk, AV.junk, AV.junk, AV.junk, AV.junk, AV.junk, AV.junk, AV.junk, AV.junk, AV.junk, AV.junk, AV.junk, AV.junk, AV.junk, AV.junk, AV.junk, AV.junk, AV.junk, AV.junk, AV.junk, AV.junk, AV.junk, AV.junk, AV.junk, AV.junk,
              AV.junk, AV.junk, AV.junk, AV.junk]
            [some (Blk.mk (3) false false true (Data.ints IntKind.i64 ticks)),
              some
                (Blk.mk (23) true false false
                  (Data.cells
                    [AV.int IntKind.i64 false R0, AV.int IntKind.i64 false R1, AV.int IntKind.i64 false R2, AV.int IntKind.i64 false T1, AV.int IntKind.i64 false T2, AV.int IntKind.i64 false Cm,
                      AV.int IntKind.i64 false Sl, AV.int IntKind.i64 false Tk]))])
          (St.mk
            [AV.junk, AV.int IntKind.i64 false u1, AV.int IntKind.i64 false u2, AV.sl zticks (Ref.mk (0) (0) (0) (0)) false (List.length ticks) Cap.any,
              AV.ptr (Ref.mk (1) (0) (0) (0)), AV.junk, AV.junk, AV.junk, AV.junk, AV.int IntKind.i64 false (0 : Int), AV.junk, AV.junk, AV.junk, AV.junk, AV.junk, AV.junk, AV.junk, AV.junk, AV.junk, AV.junk,
              AV.junk, AV.junk, AV.junk, AV.junk, AV.junk, AV.junk, AV.junk, AV.junk, AV.junk, AV.junk, AV.junk, AV.junk, AV.junk, AV.junk, AV.junk, AV.junk, AV.junk, AV.junk, AV.junk, AV.junk, AV.junk, AV.junk, AV.junk, AV.junk, AV.junk,
              AV.junk, AV.junk, AV.junk, AV.junk, AV.junk, AV.junk, AV.junk, AV.junk, AV.junk, AV.junk, AV.junk, AV.junk, AV.junk, AV.junk, AV.junk, AV.junk, AV.junk, AV.junk, AV.junk, AV.junk, AV.junk, AV.junk, AV.junk, AV.junk, AV.junk,
              AV.junk, AV.junk, AV.junk, AV.junk, AV.junk, AV.junk, AV.junk, AV.junk, AV.junk, AV.junk, AV.junk, AV.junk, AV.junk, AV.junk, AV.junk, AV.junk, AV.junk, AV.junk, AV.junk, AV.junk, AV.junk, AV.junk, AV.junk, AV.junk, AV.junk,
              AV.junk, AV.junk, AV.junk, AV.junk]
            [some (Blk.mk (3) false false true (Data.ints IntKind.i64 ticks)),
              some
                (Blk.mk (23) true false false
                  (Data.cells
                    [AV.int IntKind.i64 false R0, AV.int IntKind.i64 false R1, AV.int IntKind.i64 false R2, AV.int IntKind.i64 false T1, AV.int IntKind.i64 false T2, AV.int IntKind.i64 false Cm,
                      AV.int IntKind.i64 false Sl, AV.int IntKind.i64 false Tk]))]))
        (Tree.chk (okModelCalms_0 (XModelCalms_0.mk R0 R1 R2 T1 T2 Cm Sl Tk u1 u2 zticks ticks (Int.toNat (0 : Int))))
          (Tree.br (runC R0 R1 R2 T1 T2 Cm Sl Tk u1 u2 (List.take (60 - Int.toNat (0 : Int)) (List.drop (Int.toNat (0 : Int)) ticks)))
            (Tree.ret (AV.bool false true, [some (Blk.mk (3) false false true (Data.ints IntKind.i64 ticks))])) (Tree.ret (AV.bool true true, [some (Blk.mk (3) false false true (Data.ints IntKind.i64 ticks))])))))) : Tree (AV × Mem)).GivesP (.bool false true) ([some ⟨3, false, false, true, .ints .i64 ticks⟩]) := by
  obtain ⟨a0, b0, a1, b1, a2, b2, a3, b3, a4, b4, a5, b5, a6, b6, a7, b7, u0, u1_, v0, v1, hz, hl, hw⟩ := hw
  refine Tree.GivesP.chk (by first | (simp only [and_self]; done) | ((repeat' with_reducible refine And.intro ?_ ?_) <;> first | trivial | omega | (simp only [ckE] at *; split at * <;> omega))) ?_
  refine Tree.GivesP.br (fun h1 => ?_) (fun h1 => ?_)
  · (try simp only [decide_eq_true_eq, decide_eq_false_iff_not, Bool.not_eq_true', Bool.not_eq_false', beq_iff_eq, beq_eq_false_iff_ne, Int.not_lt, Int.not_le, ge_iff_le, gt_iff_lt, ne_eq, Bool.false_eq_true, Bool.true_eq_false, not_true_eq_false, not_false_eq_true, Bool.and_eq_true, Bool.not_eq_eq_eq_not, Bool.not_true, Bool.not_false, bne_iff_ne, bne_eq_false_iff_eq, Int.toNat_natCast, Nat.mul_one, Nat.add_zero, Nat.zero_add, List.take_length, List.drop_zero] at h1)
    all_goals
      refine Tree.GivesP.ret ?_ ?_
      · first | (simp only [AV.le]; done) | (simp only [AV.le, beq_iff_eq]; omega) | (exfalso; omega)
      · simp only [AV.leL, AV.le, Mem.le, Mem.leP, Blk.le, Blk.pad, Data.le, Data.size, Cap.le, and_true, true_and, and_self, true_implies, implies_true, imp_self, List.length_nil]
  · (try simp only [decide_eq_true_eq, decide_eq_false_iff_not, Bool.not_eq_true', Bool.not_eq_false', beq_iff_eq, beq_eq_false_iff_ne, Int.not_lt, Int.not_le, ge_iff_le, gt_iff_lt, ne_eq, Bool.false_eq_true, Bool.true_eq_false, not_true_eq_false, not_false_eq_true, Bool.and_eq_true, Bool.not_eq_eq_eq_not, Bool.not_true, Bool.not_false, bne_iff_ne, bne_eq_false_iff_eq, Int.toNat_natCast, Nat.mul_one, Nat.add_zero, Nat.zero_add, List.take_length, List.drop_zero] at h1)
    all_goals
      refine Tree.GivesP.chk (by first | (simp only [and_self]; done) | (constructor <;> simp only [hdModelCalms_0, Int.toNat_zero, Int.cast_ofNat_Int, AV.leL, AV.le, Mem.le, Mem.leP, Blk.le, Blk.pad, Data.le, Data.size, Cap.le, and_true, true_and, and_self, true_implies, implies_true, imp_self, List.length_nil] <;> (repeat' with_reducible refine And.intro ?_ ?_) <;> first | rfl | trivial | omega)) ?_
      refine Tree.GivesP.chk (by first | (simp only [and_self]; done) | (exact ⟨a0, b0, a1, b1, a2, b2, a3, b3, a4, b4, a5, b5, a6, b6, a7, b7, u0, u1_, v0, v1, Nat.zero_le _, Nat.zero_le _, hz, hl, hw⟩)) ?_
      refine Tree.GivesP.br (fun h2 => ?_) (fun h2 => ?_)
      · (try simp only [decide_eq_true_eq, decide_eq_false_iff_not, Bool.not_eq_true', Bool.not_eq_false', beq_iff_eq, beq_eq_false_iff_ne, Int.not_lt, Int.not_le, ge_iff_le, gt_iff_lt, ne_eq, Bool.false_eq_true, Bool.true_eq_false, not_true_eq_false, not_false_eq_true, Bool.and_eq_true, Bool.not_eq_eq_eq_not, Bool.not_true, Bool.not_false, bne_iff_ne, bne_eq_false_iff_eq, Int.toNat_natCast, Nat.mul_one, Nat.add_zero, Nat.zero_add, List.take_length, List.drop_zero] at h2)
        all_goals
          refine Tree.GivesP.ret ?_ ?_
          · first | (simp only [AV.le]; done) | (simp only [AV.le, beq_iff_eq]; omega) | (exfalso; omega)
          · simp only [AV.leL, AV.le, Mem.le, Mem.leP, Blk.le, Blk.pad, Data.le, Data.size, Cap.le, and_true, true_and, and_self, true_implies, implies_true, imp_self, List.length_nil]
      · (try simp only [decide_eq_true_eq, decide_eq_false_iff_not, Bool.not_eq_true', Bool.not_eq_false', beq_iff_eq, beq_eq_false_iff_ne, Int.not_lt, Int.not_le, ge_iff_le, gt_iff_lt, ne_eq, Bool.false_eq_true, Bool.true_eq_false, not_true_eq_false, not_false_eq_true, Bool.and_eq_true, Bool.not_eq_eq_eq_not, Bool.not_true, Bool.not_false, bne_iff_ne, bne_eq_false_iff_eq, Int.toNat_natCast, Nat.mul_one, Nat.add_zero, Nat.zero_add, List.take_length, List.drop_zero] at h2)
        all_goals
          refine Tree.GivesP.ret ?_ ?_
          · first | (simp only [AV.le]; done) | (simp only [AV.le, beq_iff_eq]; omega) | (exfalso; omega)
          · simp only [AV.leL, AV.le, Mem.le, Mem.leP, Blk.le, Blk.pad, Data.le, Data.size, Cap.le, and_true, true_and, and_self, true_implies, implies_true, imp_self, List.length_nil]
theorem sModelCalms (hall : AllOk Try.prog 0 (fun _ => none) tab18) (R0 : Int) (R1 : Int) (R2 : Int) (T1 : Int) (T2 : Int) (Cm : Int) (Sl : Int) (Tk : Int) (u1 : Int) (u2 : Int) (zticks : Bool) (ticks : List Int) (hw : -9223372036854775808 ≤ R0 ∧ R0 ≤ 9223372036854775807 ∧ -9223372036854775808 ≤ R1 ∧ R1 ≤ 9223372036854775807 ∧ -9223372036854775808 ≤ R2 ∧ R2 ≤ 9223372036854775807 ∧ -9223372036854775808 ≤ T1 ∧ T1 ≤ 9223372036854775807 ∧ -9223372036854775808 ≤ T2 ∧ T2 ≤ 9223372036854775807 ∧ -9223372036854775808 ≤ Cm ∧ Cm ≤ 9223372036854775807 ∧ -9223372036854775808 ≤ Sl ∧ Sl ≤ 9223372036854775807 ∧ -9223372036854775808 ≤ Tk ∧ Tk ≤ 9223372036854775807 ∧ -9223372036854775808 ≤ u1 ∧ u1 ≤ 9223372036854775807 ∧ -9223372036854775808 ≤ u2 ∧ u2 ≤ 9223372036854775807 ∧ (zticks = true → ticks = []) ∧ ticks.length ≤ 9223372036854775807 ∧ wf64L ticks) : SoundAt (mkC Try.prog 0 (fun _ => none) []) 7 [.agg [.int .i64 false R0, .int .i64 false R1, .int .i64 false R2, .int .i64 false T1, .int .i64 false T2, .int .i64 false Cm, .int .i64 false Sl, .int .i64 false Tk], .int .i64 false u1, .int .i64 false u2, .sl zticks ⟨0, 0, 0, 0⟩ false ticks.length .any] [some ⟨3, false, false, true, .ints .i64 ticks⟩] (.bool false true, [some ⟨3, false, false, true, .ints .i64 ticks⟩]) := sound_loopsP hall mix (loopsModelCalms hall) (tModelCalms R0 R1 R2 T1 T2 Cm Sl Tk u1 u2 zticks ticks) (gModelCalms R0 R1 R2 T1 T2 Cm Sl Tk u1 u2 zticks ticks hw)
end Go.Proofs.Ytoihhmpmlbdeiaa.Rig
