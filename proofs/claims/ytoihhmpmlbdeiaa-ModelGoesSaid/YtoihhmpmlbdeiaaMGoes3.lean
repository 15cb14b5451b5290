/- MGoes: what is proved for the claim, part 3: functions' reckonings, and what they give. -/
import Derived.Test.YtoihhmpmlbdeiaaMGoes2
import Derived.KernelRfl
import Derived.Test.YtoihhmpmlbdeiaaMGoesLZ
set_option linter.unusedVariables false
set_option linter.unusedSimpArgs false
/- Qdiv64 -/
namespace Go.Proofs.Ytoihhmpmlbdeiaa.Rig
open Go
set_option maxRecDepth 100000 in
theorem tLdiv64_1 (y : Int) (s : Int) (yn1 : Int) (yn0 : Int) (u0 : Int) (q1 : Int) (n2 : Int) (qq : Int) (rh : Int) : tidied Tdiv64_1 Udiv64_1 0 (evCode (mkL Try.prog 0 (fun _ => none) tab2 rowsdiv64) (evCall (mkC Try.prog 0 (fun _ => none) tab2) 50) 69 0 fuelC (bodyAt Try.prog 69 1) (hddiv64_1 ⟨y, s, yn1, yn0, u0, q1, n2, qq, rh⟩)) =
  Tree.br (decide (qq ≥ (4294967296 : Int)))
    (Tree.br (decide (IntKind.wrap IntKind.u64 (rh + yn1) ≥ (4294967296 : Int)))
      (Tree.ret
        (Ex.exit (2),
          St.mk
            [AV.junk, AV.junk, AV.int IntKind.u64 false y, AV.junk, AV.junk, AV.junk, AV.junk, AV.junk, AV.int IntKind.u64 false s, AV.junk, AV.junk, AV.junk, AV.junk, AV.junk, AV.int IntKind.u64 false u0,
              AV.int IntKind.u64 false q1, AV.junk, AV.int IntKind.u64 false n2, AV.int IntKind.u64 false (IntKind.wrap IntKind.u64 (qq - (1 : Int))), AV.junk, AV.junk, AV.junk, AV.junk, AV.junk, AV.junk, AV.junk, AV.junk, AV.junk,
              AV.junk, AV.junk, AV.junk, AV.junk, AV.junk, AV.junk, AV.junk, AV.junk, AV.junk, AV.junk, AV.junk, AV.junk, AV.junk, AV.junk, AV.junk, AV.junk, AV.junk, AV.junk, AV.junk, AV.junk, AV.junk, AV.junk, AV.junk, AV.junk, AV.junk,
              AV.junk, AV.junk, AV.junk, AV.junk, AV.junk, AV.junk, AV.junk, AV.junk, AV.junk, AV.junk, AV.junk, AV.junk, AV.junk, AV.junk, AV.junk, AV.junk, AV.junk, AV.junk, AV.junk, AV.junk, AV.junk, AV.junk, AV.junk, AV.junk, AV.junk,
              AV.junk, AV.junk, AV.junk, AV.junk, AV.junk, AV.junk, AV.junk, AV.junk, AV.junk, AV.junk, AV.junk, AV.junk, AV.junk, AV.junk, AV.junk, AV.junk, AV.junk, AV.junk, AV.junk, AV.junk, AV.junk, AV.junk, AV.junk, AV.junk, AV.junk,
              AV.junk, AV.junk, AV.junk, AV.junk, AV.junk, AV.junk, AV.junk, AV.junk, AV.junk, AV.junk, AV.junk, AV.junk, AV.junk, AV.junk, AV.junk, AV.junk, AV.junk, AV.junk, AV.junk, AV.junk, AV.junk, AV.junk, AV.junk, AV.junk, AV.junk,
              AV.junk, AV.junk, AV.junk, AV.junk, AV.junk, AV.junk, AV.junk]
            []))
      (Tree.ret
        (Ex.norm,
          St.mk
            [AV.junk, AV.junk, AV.int IntKind.u64 false y, AV.junk, AV.junk, AV.junk, AV.junk, AV.junk, AV.int IntKind.u64 false s, AV.int IntKind.u64 false yn1, AV.int IntKind.u64 false yn0, AV.junk, AV.junk, AV.junk,
              AV.int IntKind.u64 false u0, AV.int IntKind.u64 false q1, AV.int IntKind.u64 false (IntKind.wrap IntKind.u64 (rh + yn1)), AV.int IntKind.u64 false n2,
              AV.int IntKind.u64 false (IntKind.wrap IntKind.u64 (qq - (1 : Int))), AV.junk, AV.junk, AV.junk, AV.junk, AV.junk, AV.junk, AV.junk, AV.junk, AV.junk, AV.junk, AV.junk, AV.junk, AV.junk, AV.junk, AV.junk, AV.junk, AV.junk,
              AV.junk, AV.junk, AV.junk, AV.junk, AV.junk, AV.junk, AV.junk, AV.junk, AV.junk, AV.junk, AV.junk, AV.junk, AV.junk, AV.junk, AV.junk, AV.junk, AV.junk, AV.junk, AV.junk, AV.junk, AV.junk, AV.junk, AV.junk, AV.junk, AV.junk,
              AV.junk, AV.junk, AV.junk, AV.junk, AV.junk, AV.junk, AV.junk, AV.junk, AV.junk, AV.junk, AV.junk, AV.junk, AV.junk, AV.junk, AV.junk, AV.junk, AV.junk, AV.junk, AV.junk, AV.junk, AV.junk, AV.junk, AV.junk, AV.junk, AV.junk,
              AV.junk, AV.junk, AV.junk, AV.junk, AV.junk, AV.junk, AV.junk, AV.junk, AV.junk, AV.junk, AV.junk, AV.junk, AV.junk, AV.junk, AV.junk, AV.junk, AV.junk, AV.junk, AV.junk, AV.junk, AV.junk, AV.junk, AV.junk, AV.junk, AV.junk,
              AV.junk, AV.junk, AV.junk, AV.junk, AV.junk, AV.junk, AV.junk, AV.junk, AV.junk, AV.junk, AV.junk, AV.junk, AV.junk, AV.junk, AV.junk, AV.junk, AV.junk, AV.junk, AV.junk, AV.junk, AV.junk, AV.junk, AV.junk, AV.junk]
            [])))
    (Tree.br (decide (IntKind.wrap IntKind.u64 (qq * yn0) > IntKind.wrap IntKind.u64 (IntKind.wrap IntKind.u64 ((4294967296 : Int) * rh) + u0)))
      (Tree.br (decide (IntKind.wrap IntKind.u64 (rh + yn1) ≥ (4294967296 : Int)))
        (Tree.ret
          (Ex.exit (2),
            St.mk
              [AV.junk, AV.junk, AV.int IntKind.u64 false y, AV.junk, AV.junk, AV.junk, AV.junk, AV.junk, AV.int IntKind.u64 false s, AV.junk, AV.junk, AV.junk, AV.junk, AV.junk, AV.int IntKind.u64 false u0,
                AV.int IntKind.u64 false q1, AV.junk, AV.int IntKind.u64 false n2, AV.int IntKind.u64 false (IntKind.wrap IntKind.u64 (qq - (1 : Int))), AV.junk, AV.junk, AV.junk, AV.junk, AV.junk, AV.junk, AV.junk, AV.junk, AV.junk,
                AV.junk, AV.junk, AV.junk, AV.junk, AV.junk, AV.junk, AV.junk, AV.junk, AV.junk, AV.junk, AV.junk, AV.junk, AV.junk, AV.junk, AV.junk, AV.junk, AV.junk, AV.junk, AV.junk, AV.junk, AV.junk, AV.junk, AV.junk, AV.junk, AV.junk,
                AV.junk, AV.junk, AV.junk, AV.junk, AV.junk, AV.junk, AV.junk, AV.junk, AV.junk, AV.junk, AV.junk, AV.junk, AV.junk, AV.junk, AV.junk, AV.junk, AV.junk, AV.junk, AV.junk, AV.junk, AV.junk, AV.junk, AV.junk, AV.junk, AV.junk,
                AV.junk, AV.junk, AV.junk, AV.junk, AV.junk, AV.junk, AV.junk, AV.junk, AV.junk, AV.junk, AV.junk, AV.junk, AV.junk, AV.junk, AV.junk, AV.junk, AV.junk, AV.junk, AV.junk, AV.junk, AV.junk, AV.junk, AV.junk, AV.junk, AV.junk,
                AV.junk, AV.junk, AV.junk, AV.junk, AV.junk, AV.junk, AV.junk, AV.junk, AV.junk, AV.junk, AV.junk, AV.junk, AV.junk, AV.junk, AV.junk, AV.junk, AV.junk, AV.junk, AV.junk, AV.junk, AV.junk, AV.junk, AV.junk, AV.junk, AV.junk,
                AV.junk, AV.junk, AV.junk, AV.junk, AV.junk, AV.junk, AV.junk]
              []))
        (Tree.ret
          (Ex.norm,
            St.mk
              [AV.junk, AV.junk, AV.int IntKind.u64 false y, AV.junk, AV.junk, AV.junk, AV.junk, AV.junk, AV.int IntKind.u64 false s, AV.int IntKind.u64 false yn1, AV.int IntKind.u64 false yn0, AV.junk, AV.junk, AV.junk,
                AV.int IntKind.u64 false u0, AV.int IntKind.u64 false q1, AV.int IntKind.u64 false (IntKind.wrap IntKind.u64 (rh + yn1)), AV.int IntKind.u64 false n2,
                AV.int IntKind.u64 false (IntKind.wrap IntKind.u64 (qq - (1 : Int))), AV.junk, AV.junk, AV.junk, AV.junk, AV.junk, AV.junk, AV.junk, AV.junk, AV.junk, AV.junk, AV.junk, AV.junk, AV.junk, AV.junk, AV.junk, AV.junk, AV.junk,
                AV.junk, AV.junk, AV.junk, AV.junk, AV.junk, AV.junk, AV.junk, AV.junk, AV.junk, AV.junk, AV.junk, AV.junk, AV.junk, AV.junk, AV.junk, AV.junk, AV.junk, AV.junk, AV.junk, AV.junk, AV.junk, AV.junk, AV.junk, AV.junk, AV.junk,
                AV.junk, AV.junk, AV.junk, AV.junk, AV.junk, AV.junk, AV.junk, AV.junk, AV.junk, AV.junk, AV.junk, AV.junk, AV.junk, AV.junk, AV.junk, AV.junk, AV.junk, AV.junk, AV.junk, AV.junk, AV.junk, AV.junk, AV.junk, AV.junk, AV.junk,
                AV.junk, AV.junk, AV.junk, AV.junk, AV.junk, AV.junk, AV.junk, AV.junk, AV.junk, AV.junk, AV.junk, AV.junk, AV.junk, AV.junk, AV.junk, AV.junk, AV.junk, AV.junk, AV.junk, AV.junk, AV.junk, AV.junk, AV.junk, AV.junk, AV.junk,
                AV.junk, AV.junk, AV.junk, AV.junk, AV.junk, AV.junk, AV.junk, AV.junk, AV.junk, AV.junk, AV.junk, AV.junk, AV.junk, AV.junk, AV.junk, AV.junk, AV.junk, AV.junk, AV.junk, AV.junk, AV.junk, AV.junk, AV.junk, AV.junk]
              [])))
      (Tree.ret
        (Ex.exit (2),
          St.mk
            [AV.junk, AV.junk, AV.int IntKind.u64 false y, AV.junk, AV.junk, AV.junk, AV.junk, AV.junk, AV.int IntKind.u64 false s, AV.junk, AV.junk, AV.junk, AV.junk, AV.junk, AV.int IntKind.u64 false u0,
              AV.int IntKind.u64 false q1, AV.junk, AV.int IntKind.u64 false n2, AV.int IntKind.u64 false qq, AV.junk, AV.junk, AV.junk, AV.junk, AV.junk, AV.junk, AV.junk, AV.junk, AV.junk, AV.junk, AV.junk, AV.junk, AV.junk,
              AV.junk, AV.junk, AV.junk, AV.junk, AV.junk, AV.junk, AV.junk, AV.junk, AV.junk, AV.junk, AV.junk, AV.junk, AV.junk, AV.junk, AV.junk, AV.junk, AV.junk, AV.junk, AV.junk, AV.junk, AV.junk, AV.junk, AV.junk, AV.junk, AV.junk,
              AV.junk, AV.junk, AV.junk, AV.junk, AV.junk, AV.junk, AV.junk, AV.junk, AV.junk, AV.junk, AV.junk, AV.junk, AV.junk, AV.junk, AV.junk, AV.junk, AV.junk, AV.junk, AV.junk, AV.junk, AV.junk, AV.junk, AV.junk, AV.junk, AV.junk,
              AV.junk, AV.junk, AV.junk, AV.junk, AV.junk, AV.junk, AV.junk, AV.junk, AV.junk, AV.junk, AV.junk, AV.junk, AV.junk, AV.junk, AV.junk, AV.junk, AV.junk, AV.junk, AV.junk, AV.junk, AV.junk, AV.junk, AV.junk, AV.junk, AV.junk,
              AV.junk, AV.junk, AV.junk, AV.junk, AV.junk, AV.junk, AV.junk, AV.junk, AV.junk, AV.junk, AV.junk, AV.junk, AV.junk, AV.junk, AV.junk, AV.junk, AV.junk, AV.junk, AV.junk, AV.junk, AV.junk, AV.junk, AV.junk, AV.junk, AV.junk,
              AV.junk, AV.junk, AV.junk]
            []))) := by kernel_rfl
set_option maxRecDepth 100000 in
theorem stepdiv64_1 (y : Int) (s : Int) (yn1 : Int) (yn0 : Int) (u0 : Int) (q1 : Int) (n2 : Int) (qq : Int) (rh : Int) (ex : Ex) (r : St) (hok : okdiv64_1 ⟨y, s, yn1, yn0, u0, q1, n2, qq, rh⟩) (hr : (outdiv64_1 ⟨y, s, yn1, yn0, u0, q1, n2, qq, rh⟩).runs (ex, r)) : (Tree.br (decide (qq ≥ (4294967296 : Int)))
    (Tree.br (decide (IntKind.wrap IntKind.u64 (rh + yn1) ≥ (4294967296 : Int)))
      (Tree.ret
        (Ex.exit (2),
          St.mk
            [AV.junk, AV.junk, AV.int IntKind.u64 false y, AV.junk, AV.junk, AV.junk, AV.junk, AV.junk, AV.int IntKind.u64 false s, AV.junk, AV.junk, AV.junk, AV.junk, AV.junk, AV.int IntKind.u64 false u0,
              AV.int IntKind.u64 false q1, AV.junk, AV.int IntKind.u64 false n2, AV.int IntKind.u64 false (IntKind.wrap IntKind.u64 (qq - (1 : Int))), AV.junk, AV.junk, AV.junk, AV.junk, AV.junk, AV.junk, AV.junk, AV.junk, AV.junk,
              AV.junk, AV.junk, AV.junk, AV.junk, AV.junk, AV.junk, AV.junk, AV.junk, AV.junk, AV.junk, AV.junk, AV.junk, AV.junk, AV.junk, AV.junk, AV.junk, AV.junk, AV.junk, AV.junk, AV.junk, AV.junk, AV.junk, AV.junk, AV.junk, AV.junk,
              AV.junk, AV.junk, AV.junk, AV.junk, AV.junk, AV.junk, AV.junk, AV.junk, AV.junk, AV.junk, AV.junk, AV.junk, AV.junk, AV.junk, AV.junk, AV.junk, AV.junk, AV.junk, AV.junk, AV.junk, AV.junk, AV.junk, AV.junk, AV.junk, AV.junk,
              AV.junk, AV.junk, AV.junk, AV.junk, AV.junk, AV.junk, AV.junk, AV.junk, AV.junk, AV.junk, AV.junk, AV.junk, AV.junk, AV.junk, AV.junk, AV.junk, AV.junk, AV.junk, AV.junk, AV.junk, AV.junk, AV.junk, AV.junk, AV.junk, AV.junk,
              AV.junk, AV.junk, AV.junk, AV.junk, AV.junk, AV.junk, AV.junk, AV.junk, AV.junk, AV.junk, AV.junk, AV.junk, AV.junk, AV.junk, AV.junk, AV.junk, AV.junk, AV.junk, AV.junk, AV.junk, AV.junk, AV.junk, AV.junk, AV.junk, AV.junk,
              AV.junk, AV.junk, AV.junk, AV.junk, AV.junk, AV.junk, AV.junk]
            []))
      (Tree.ret
        (Ex.norm,
          St.mk
            [AV.junk, AV.junk, AV.int IntKind.u64 false y, AV.junk, AV.junk, AV.junk, AV.junk, AV.junk, AV.int IntKind.u64 false s, AV.int IntKind.u64 false yn1, AV.int IntKind.u64 false yn0, AV.junk, AV.junk, AV.junk,
              AV.int IntKind.u64 false u0, AV.int IntKind.u64 false q1, AV.int IntKind.u64 false (IntKind.wrap IntKind.u64 (rh + yn1)), AV.int IntKind.u64 false n2,
              AV.int IntKind.u64 false (IntKind.wrap IntKind.u64 (qq - (1 : Int))), AV.junk, AV.junk, AV.junk, AV.junk, AV.junk, AV.junk, AV.junk, AV.junk, AV.junk, AV.junk, AV.junk, AV.junk, AV.junk, AV.junk, AV.junk, AV.junk, AV.junk,
              AV.junk, AV.junk, AV.junk, AV.junk, AV.junk, AV.junk, AV.junk, AV.junk, AV.junk, AV.junk, AV.junk, AV.junk, AV.junk, AV.junk, AV.junk, AV.junk, AV.junk, AV.junk, AV.junk, AV.junk, AV.junk, AV.junk, AV.junk, AV.junk, AV.junk,
              AV.junk, AV.junk, AV.junk, AV.junk, AV.junk, AV.junk, AV.junk, AV.junk, AV.junk, AV.junk, AV.junk, AV.junk, AV.junk, AV.junk, AV.junk, AV.junk, AV.junk, AV.junk, AV.junk, AV.junk, AV.junk, AV.junk, AV.junk, AV.junk, AV.junk,
              AV.junk, AV.junk, AV.junk, AV.junk, AV.junk, AV.junk, AV.junk, AV.junk, AV.junk, AV.junk, AV.junk, AV.junk, AV.junk, AV.junk, AV.junk, AV.junk, AV.junk, AV.junk, AV.junk, AV.junk, AV.junk, AV.junk, AV.junk, AV.junk, AV.junk,
              AV.junk, AV.junk, AV.junk, AV.junk, AV.junk, AV.junk, AV.junk, AV.junk, AV.junk, AV.junk, AV.junk, AV.junk, AV.junk, AV.junk, AV.junk, AV.junk, AV.junk, AV.junk, AV.junk, AV.junk, AV.junk, AV.junk, AV.junk, AV.junk]
            [])))
    (Tree.br (decide (IntKind.wrap IntKind.u64 (qq * yn0) > IntKind.wrap IntKind.u64 (IntKind.wrap IntKind.u64 ((4294967296 : Int) * rh) + u0)))
      (Tree.br (decide (IntKind.wrap IntKind.u64 (rh + yn1) ≥ (4294967296 : Int)))
        (Tree.ret
          (Ex.exit (2),
            St.mk
              [AV.junk, AV.junk, AV.int IntKind.u64 false y, AV.junk, AV.junk, AV.junk, AV.junk, AV.junk, AV.int IntKind.u64 false s, AV.junk, AV.junk, AV.junk, AV.junk, AV.junk, AV.int IntKind.u64 false u0,
                AV.int IntKind.u64 false q1, AV.junk, AV.int IntKind.u64 false n2, AV.int IntKind.u64 false (IntKind.wrap IntKind.u64 (qq - (1 : Int))), AV.junk, AV.junk, AV.junk, AV.junk, AV.junk, AV.junk, AV.junk, AV.junk, AV.junk,
                AV.junk, AV.junk, AV.junk, AV.junk, AV.junk, AV.junk, AV.junk, AV.junk, AV.junk, AV.junk, AV.junk, AV.junk, AV.junk, AV.junk, AV.junk, AV.junk, AV.junk, AV.junk, AV.junk, AV.junk, AV.junk, AV.junk, AV.junk, AV.junk, AV.junk,
                AV.junk, AV.junk, AV.junk, AV.junk, AV.junk, AV.junk, AV.junk, AV.junk, AV.junk, AV.junk, AV.junk, AV.junk, AV.junk, AV.junk, AV.junk, AV.junk, AV.junk, AV.junk, AV.junk, AV.junk, AV.junk, AV.junk, AV.junk, AV.junk, AV.junk,
                AV.junk, AV.junk, AV.junk, AV.junk, AV.junk, AV.junk, AV.junk, AV.junk, AV.junk, AV.junk, AV.junk, AV.junk, AV.junk, AV.junk, AV.junk, AV.junk, AV.junk, AV.junk, AV.junk, AV.junk, AV.junk, AV.junk, AV.junk, AV.junk, AV.junk,
                AV.junk, AV.junk, AV.junk, AV.junk, AV.junk, AV.junk, AV.junk, AV.junk, AV.junk, AV.junk, AV.junk, AV.junk, AV.junk, AV.junk, AV.junk, AV.junk, AV.junk, AV.junk, AV.junk, AV.junk, AV.junk, AV.junk, AV.junk, AV.junk, AV.junk,
                AV.junk, AV.junk, AV.junk, AV.junk, AV.junk, AV.junk, AV.junk]
              []))
        (Tree.ret
          (Ex.norm,
            St.mk
              [AV.junk, AV.junk, AV.int IntKind.u64 false y, AV.junk, AV.junk, AV.junk, AV.junk, AV.junk, AV.int IntKind.u64 false s, AV.int IntKind.u64 false yn1, AV.int IntKind.u64 false yn0, AV.junk, AV.junk, AV.junk,
                AV.int IntKind.u64 false u0, AV.int IntKind.u64 false q1, AV.int IntKind.u64 false (IntKind.wrap IntKind.u64 (rh + yn1)), AV.int IntKind.u64 false n2,
                AV.int IntKind.u64 false (IntKind.wrap IntKind.u64 (qq - (1 : Int))), AV.junk, AV.junk, AV.junk, AV.junk, AV.junk, AV.junk, AV.junk, AV.junk, AV.junk, AV.junk, AV.junk, AV.junk, AV.junk, AV.junk, AV.junk, AV.junk, AV.junk,
                AV.junk, AV.junk, AV.junk, AV.junk, AV.junk, AV.junk, AV.junk, AV.junk, AV.junk, AV.junk, AV.junk, AV.junk, AV.junk, AV.junk, AV.junk, AV.junk, AV.junk, AV.junk, AV.junk, AV.junk, AV.junk, AV.junk, AV.junk, AV.junk, AV.junk,
                AV.junk, AV.junk, AV.junk, AV.junk, AV.junk, AV.junk, AV.junk, AV.junk, AV.junk, AV.junk, AV.junk, AV.junk, AV.junk, AV.junk, AV.junk, AV.junk, AV.junk, AV.junk, AV.junk, AV.junk, AV.junk, AV.junk, AV.junk, AV.junk, AV.junk,
                AV.junk, AV.junk, AV.junk, AV.junk, AV.junk, AV.junk, AV.junk, AV.junk, AV.junk, AV.junk, AV.junk, AV.junk, AV.junk, AV.junk, AV.junk, AV.junk, AV.junk, AV.junk, AV.junk, AV.junk, AV.junk, AV.junk, AV.junk, AV.junk, AV.junk,
                AV.junk, AV.junk, AV.junk, AV.junk, AV.junk, AV.junk, AV.junk, AV.junk, AV.junk, AV.junk, AV.junk, AV.junk, AV.junk, AV.junk, AV.junk, AV.junk, AV.junk, AV.junk, AV.junk, AV.junk, AV.junk, AV.junk, AV.junk, AV.junk]
              [])))
      (Tree.ret
        (Ex.exit (2),
          St.mk
            [AV.junk, AV.junk, AV.int IntKind.u64 false y, AV.junk, AV.junk, AV.junk, AV.junk, AV.junk, AV.int IntKind.u64 false s, AV.junk, AV.junk, AV.junk, AV.junk, AV.junk, AV.int IntKind.u64 false u0,
              AV.int IntKind.u64 false q1, AV.junk, AV.int IntKind.u64 false n2, AV.int IntKind.u64 false qq, AV.junk, AV.junk, AV.junk, AV.junk, AV.junk, AV.junk, AV.junk, AV.junk, AV.junk, AV.junk, AV.junk, AV.junk, AV.junk,
              AV.junk, AV.junk, AV.junk, AV.junk, AV.junk, AV.junk, AV.junk, AV.junk, AV.junk, AV.junk, AV.junk, AV.junk, AV.junk, AV.junk, AV.junk, AV.junk, AV.junk, AV.junk, AV.junk, AV.junk, AV.junk, AV.junk, AV.junk, AV.junk, AV.junk,
              AV.junk, AV.junk, AV.junk, AV.junk, AV.junk, AV.junk, AV.junk, AV.junk, AV.junk, AV.junk, AV.junk, AV.junk, AV.junk, AV.junk, AV.junk, AV.junk, AV.junk, AV.junk, AV.junk, AV.junk, AV.junk, AV.junk, AV.junk, AV.junk, AV.junk,
              AV.junk, AV.junk, AV.junk, AV.junk, AV.junk, AV.junk, AV.junk, AV.junk, AV.junk, AV.junk, AV.junk, AV.junk, AV.junk, AV.junk, AV.junk, AV.junk, AV.junk, AV.junk, AV.junk, AV.junk, AV.junk, AV.junk, AV.junk, AV.junk, AV.junk,
              AV.junk, AV.junk, AV.junk, AV.junk, AV.junk, AV.junk, AV.junk, AV.junk, AV.junk, AV.junk, AV.junk, AV.junk, AV.junk, AV.junk, AV.junk, AV.junk, AV.junk, AV.junk, AV.junk, AV.junk, AV.junk, AV.junk, AV.junk, AV.junk, AV.junk,
              AV.junk, AV.junk, AV.junk]
            []))) : Tree (Ex × St)).Sat (Post hddiv64_1 resdiv64_1 mudiv64_1 ⟨y, s, yn1, yn0, u0, q1, n2, qq, rh⟩ ex r) := by
  simp only [okdiv64_1, outdiv64_1, Tree.runs] at hok hr
  obtain ⟨hy, a1, a2, a3, a4, a5, a6, a7, a8, he, b1, b2, b3, b4, hQ⟩ := hok
  have hb := mul_b b1 b2 a3 a4
  refine Tree.Sat.br (fun h1 => ?_) (fun h1 => ?_)
  · (try simp only [decide_eq_true_eq, decide_eq_false_iff_not, Bool.not_eq_true', Bool.not_eq_false', beq_iff_eq, beq_eq_false_iff_ne, Int.not_lt, Int.not_le, ge_iff_le, gt_iff_lt, ne_eq, Bool.false_eq_true, Bool.true_eq_false, not_true_eq_false, not_false_eq_true, Bool.and_eq_true, Bool.not_eq_eq_eq_not, Bool.not_true, Bool.not_false, bne_iff_ne, bne_eq_false_iff_eq, Int.toNat_natCast, Nat.mul_one, Nat.add_zero, Nat.zero_add, List.take_length, List.drop_zero] at h1)
    all_goals
      refine Tree.Sat.br (fun h2 => ?_) (fun h2 => ?_)
      · (try simp only [decide_eq_true_eq, decide_eq_false_iff_not, Bool.not_eq_true', Bool.not_eq_false', beq_iff_eq, beq_eq_false_iff_ne, Int.not_lt, Int.not_le, ge_iff_le, gt_iff_lt, ne_eq, Bool.false_eq_true, Bool.true_eq_false, not_true_eq_false, not_false_eq_true, Bool.and_eq_true, Bool.not_eq_eq_eq_not, Bool.not_true, Bool.not_false, bne_iff_ne, bne_eq_false_iff_eq, Int.toNat_natCast, Nat.mul_one, Nat.add_zero, Nat.zero_add, List.take_length, List.drop_zero] at h2)
        all_goals
          refine Tree.Sat.ret ?_
          (try simp only [wu64] at h2)
          have hd := dv_break hy a1 a3 a4 a6 a7 a8 he b1 b2 (.inl h1) (by omega)
          have hd2 := dv_next hy a1 a3 a6 a5 a7 a8 he (.inl h1)
          have hq := hr
          simp only [Prod.mk.injEq] at hq
          obtain ⟨rfl, rfl⟩ := hq
          refine .exit rfl ?_
          constructor <;> simp only [AV.leL, AV.le, Mem.le, Mem.leP, Blk.le, Blk.pad, Data.le, Data.size, Cap.le, and_true, true_and, and_self, true_implies, implies_true, imp_self, List.length_nil] <;> (repeat' with_reducible refine And.intro ?_ ?_) <;> (try simp only [Int.toNat_natCast, Nat.mul_one, Nat.add_zero, Nat.zero_add]) <;> (rw [wu64]; omega)
      · (try simp only [decide_eq_true_eq, decide_eq_false_iff_not, Bool.not_eq_true', Bool.not_eq_false', beq_iff_eq, beq_eq_false_iff_ne, Int.not_lt, Int.not_le, ge_iff_le, gt_iff_lt, ne_eq, Bool.false_eq_true, Bool.true_eq_false, not_true_eq_false, not_false_eq_true, Bool.and_eq_true, Bool.not_eq_eq_eq_not, Bool.not_true, Bool.not_false, bne_iff_ne, bne_eq_false_iff_eq, Int.toNat_natCast, Nat.mul_one, Nat.add_zero, Nat.zero_add, List.take_length, List.drop_zero] at h2)
        all_goals
          refine Tree.Sat.ret ?_
          (try simp only [wu64] at h2)
          have hd := dv_next hy a1 a3 a6 a5 a7 a8 he (.inl h1)
          refine .norm ⟨y, s, yn1, yn0, u0, q1, n2, qq - 1, rh + yn1⟩ ?_ ?_ ⟨?_, ?_⟩
          · constructor <;> simp only [hddiv64_1, AV.leL, AV.le, Mem.le, Mem.leP, Blk.le, Blk.pad, Data.le, Data.size, Cap.le, and_true, true_and, and_self, true_implies, implies_true, imp_self, List.length_nil] <;> (repeat' with_reducible refine And.intro ?_ ?_) <;> (try simp only [Int.toNat_natCast, Nat.mul_one, Nat.add_zero, Nat.zero_add]) <;> (rw [wu64]; omega)
          · simp only [mudiv64_1]; omega
          · exact ⟨hy, a1, a2, a3, a4, a5, a6, a7, a8, hd.2.1, hd.2.2, by omega, by omega, by omega, hd.1⟩
          · exact hr
  · (try simp only [decide_eq_true_eq, decide_eq_false_iff_not, Bool.not_eq_true', Bool.not_eq_false', beq_iff_eq, beq_eq_false_iff_ne, Int.not_lt, Int.not_le, ge_iff_le, gt_iff_lt, ne_eq, Bool.false_eq_true, Bool.true_eq_false, not_true_eq_false, not_false_eq_true, Bool.and_eq_true, Bool.not_eq_eq_eq_not, Bool.not_true, Bool.not_false, bne_iff_ne, bne_eq_false_iff_eq, Int.toNat_natCast, Nat.mul_one, Nat.add_zero, Nat.zero_add, List.take_length, List.drop_zero] at h1)
    all_goals
      refine Tree.Sat.br (fun h2 => ?_) (fun h2 => ?_)
      · (try simp only [decide_eq_true_eq, decide_eq_false_iff_not, Bool.not_eq_true', Bool.not_eq_false', beq_iff_eq, beq_eq_false_iff_ne, Int.not_lt, Int.not_le, ge_iff_le, gt_iff_lt, ne_eq, Bool.false_eq_true, Bool.true_eq_false, not_true_eq_false, not_false_eq_true, Bool.and_eq_true, Bool.not_eq_eq_eq_not, Bool.not_true, Bool.not_false, bne_iff_ne, bne_eq_false_iff_eq, Int.toNat_natCast, Nat.mul_one, Nat.add_zero, Nat.zero_add, List.take_length, List.drop_zero] at h2)
        all_goals
          refine Tree.Sat.br (fun h3 => ?_) (fun h3 => ?_)
          · (try simp only [decide_eq_true_eq, decide_eq_false_iff_not, Bool.not_eq_true', Bool.not_eq_false', beq_iff_eq, beq_eq_false_iff_ne, Int.not_lt, Int.not_le, ge_iff_le, gt_iff_lt, ne_eq, Bool.false_eq_true, Bool.true_eq_false, not_true_eq_false, not_false_eq_true, Bool.and_eq_true, Bool.not_eq_eq_eq_not, Bool.not_true, Bool.not_false, bne_iff_ne, bne_eq_false_iff_eq, Int.toNat_natCast, Nat.mul_one, Nat.add_zero, Nat.zero_add, List.take_length, List.drop_zero] at h3)
            all_goals
              refine Tree.Sat.ret ?_
              (try simp only [wu64] at h2 h3)
              have hd := dv_break hy a1 a3 a4 a6 a7 a8 he b1 b2 (.inr (by omega)) (by omega)
              have hd2 := dv_next hy a1 a3 a6 a5 a7 a8 he (.inr (by omega))
              have hq := hr
              simp only [Prod.mk.injEq] at hq
              obtain ⟨rfl, rfl⟩ := hq
              refine .exit rfl ?_
              constructor <;> simp only [AV.leL, AV.le, Mem.le, Mem.leP, Blk.le, Blk.pad, Data.le, Data.size, Cap.le, and_true, true_and, and_self, true_implies, implies_true, imp_self, List.length_nil] <;> (repeat' with_reducible refine And.intro ?_ ?_) <;> (try simp only [Int.toNat_natCast, Nat.mul_one, Nat.add_zero, Nat.zero_add]) <;> (rw [wu64]; omega)
          · (try simp only [decide_eq_true_eq, decide_eq_false_iff_not, Bool.not_eq_true', Bool.not_eq_false', beq_iff_eq, beq_eq_false_iff_ne, Int.not_lt, Int.not_le, ge_iff_le, gt_iff_lt, ne_eq, Bool.false_eq_true, Bool.true_eq_false, not_true_eq_false, not_false_eq_true, Bool.and_eq_true, Bool.not_eq_eq_eq_not, Bool.not_true, Bool.not_false, bne_iff_ne, bne_eq_false_iff_eq, Int.toNat_natCast, Nat.mul_one, Nat.add_zero, Nat.zero_add, List.take_length, List.drop_zero] at h3)
            all_goals
              refine Tree.Sat.ret ?_
              (try simp only [wu64] at h2 h3)
              have hd := dv_next hy a1 a3 a6 a5 a7 a8 he (.inr (by omega))
              refine .norm ⟨y, s, yn1, yn0, u0, q1, n2, qq - 1, rh + yn1⟩ ?_ ?_ ⟨?_, ?_⟩
              · constructor <;> simp only [hddiv64_1, AV.leL, AV.le, Mem.le, Mem.leP, Blk.le, Blk.pad, Data.le, Data.size, Cap.le, and_true, true_and, and_self, true_implies, implies_true, imp_self, List.length_nil] <;> (repeat' with_reducible refine And.intro ?_ ?_) <;> (try simp only [Int.toNat_natCast, Nat.mul_one, Nat.add_zero, Nat.zero_add]) <;> (rw [wu64]; omega)
              · simp only [mudiv64_1]; omega
              · exact ⟨hy, a1, a2, a3, a4, a5, a6, a7, a8, hd.2.1, hd.2.2, by omega, by omega, by omega, hd.1⟩
              · exact hr
      · (try simp only [decide_eq_true_eq, decide_eq_false_iff_not, Bool.not_eq_true', Bool.not_eq_false', beq_iff_eq, beq_eq_false_iff_ne, Int.not_lt, Int.not_le, ge_iff_le, gt_iff_lt, ne_eq, Bool.false_eq_true, Bool.true_eq_false, not_true_eq_false, not_false_eq_true, Bool.and_eq_true, Bool.not_eq_eq_eq_not, Bool.not_true, Bool.not_false, bne_iff_ne, bne_eq_false_iff_eq, Int.toNat_natCast, Nat.mul_one, Nat.add_zero, Nat.zero_add, List.take_length, List.drop_zero] at h2)
        all_goals
          refine Tree.Sat.ret ?_
          (try simp only [wu64] at h2)
          have hd := dv_done hy a1 a3 he hQ (by omega)
          have hq := hr
          simp only [Prod.mk.injEq] at hq
          obtain ⟨rfl, rfl⟩ := hq
          refine .exit rfl ?_
          constructor <;> simp only [AV.leL, AV.le, Mem.le, Mem.leP, Blk.le, Blk.pad, Data.le, Data.size, Cap.le, and_true, true_and, and_self, true_implies, implies_true, imp_self, List.length_nil] <;> (repeat' with_reducible refine And.intro ?_ ?_) <;> (try simp only [Int.toNat_natCast, Nat.mul_one, Nat.add_zero, Nat.zero_add]) <;> omega
set_option maxHeartbeats 2000000 in
set_option maxRecDepth 100000 in
theorem loopdiv64_1 (hall : AllOk Try.prog 0 (fun _ => none) tab2) : LoopOk (mkL Try.prog 0 (fun _ => none) tab2 rowsdiv64) 69 0 (bodyAt Try.prog 69 1) := by
  have hkey : Code.key (bodyAt Try.prog 69 1) = 24 := by kernel_rfl
  have hin : loopsIn (bodyAt Try.prog 69 1) = [] := by kernel_rfl
  have hrow : lookL rowsdiv64 69 (Code.key (bodyAt Try.prog 69 1)) = some rowdiv64_1 := by rw [hkey]; rfl
  refine loop_rowP (X := Xdiv64_1) (row := rowdiv64_1) hall mix hrow (fun b hb _ => by rw [hin] at hb; cases hb) Udiv64_1 hddiv64_1 resdiv64_1 mudiv64_1 (fun st ex r h => ?_) (fun x ex r hr => ?_)
  · have h' : (ansdiv64_1 st).runs (ex, r) := h
    unfold ansdiv64_1 at h'
    split at h'
    · obtain ⟨q1, q2⟩ := Tree.chk_runs h'
      exact ⟨_, q1, q2⟩
    · exact h'.elim
  · obtain ⟨y, s, yn1, yn0, u0, q1, n2, qq, rh⟩ := x
    have := stepdiv64_1 y s yn1 yn0 u0 q1 n2 qq rh ex r hr.1 hr.2
    rw [← tLdiv64_1] at this
    (try rw [show rowdiv64_1.tidy = Tdiv64_1 from rfl])
    exact this
set_option maxRecDepth 100000 in
theorem tLdiv64_0 (y : Int) (s : Int) (yn1 : Int) (yn0 : Int) (n1 : Int) (u1 : Int) (u0 : Int) (qq : Int) (rh : Int) : tidied Tdiv64_0 Udiv64_0 0 (evCode (mkL Try.prog 0 (fun _ => none) tab2 rowsdiv64) (evCall (mkC Try.prog 0 (fun _ => none) tab2) 50) 69 0 fuelC (bodyAt Try.prog 69 0) (hddiv64_0 ⟨y, s, yn1, yn0, n1, u1, u0, qq, rh⟩)) =
  Tree.br (decide (qq ≥ (4294967296 : Int)))
    (Tree.br (decide (IntKind.wrap IntKind.u64 (rh + yn1) ≥ (4294967296 : Int)))
      (Tree.ret
        (Ex.exit (0),
          St.mk
            [AV.junk, AV.junk, AV.int IntKind.u64 false y, AV.junk, AV.junk, AV.junk, AV.junk, AV.junk, AV.int IntKind.u64 false s, AV.int IntKind.u64 false yn1, AV.int IntKind.u64 false yn0, AV.int IntKind.u64 false n1,
              AV.junk, AV.int IntKind.u64 false u1, AV.int IntKind.u64 false u0, AV.int IntKind.u64 false (IntKind.wrap IntKind.u64 (qq - (1 : Int))), AV.junk, AV.junk, AV.junk, AV.junk, AV.junk, AV.junk, AV.junk, AV.junk, AV.junk,
              AV.junk, AV.junk, AV.junk, AV.junk, AV.junk, AV.junk, AV.junk, AV.junk, AV.junk, AV.junk, AV.junk, AV.junk, AV.junk, AV.junk, AV.junk, AV.junk, AV.junk, AV.junk, AV.junk, AV.junk, AV.junk, AV.junk, AV.junk, AV.junk, AV.junk,
              AV.junk, AV.junk, AV.junk, AV.junk, AV.junk, AV.junk, AV.junk, AV.junk, AV.junk, AV.junk, AV.junk, AV.junk, AV.junk, AV.junk, AV.junk, AV.junk, AV.junk, AV.junk, AV.junk, AV.junk, AV.junk, AV.junk, AV.junk, AV.junk, AV.junk,
              AV.junk, AV.junk, AV.junk, AV.junk, AV.junk, AV.junk, AV.junk, AV.junk, AV.junk, AV.junk, AV.junk, AV.junk, AV.junk, AV.junk, AV.junk, AV.junk, AV.junk, AV.junk, AV.junk, AV.junk, AV.junk, AV.junk, AV.junk, AV.junk, AV.junk,
              AV.junk, AV.junk, AV.junk, AV.junk, AV.junk, AV.junk, AV.junk, AV.junk, AV.junk, AV.junk, AV.junk, AV.junk, AV.junk, AV.junk, AV.junk, AV.junk, AV.junk, AV.junk, AV.junk, AV.junk, AV.junk, AV.junk, AV.junk, AV.junk, AV.junk,
              AV.junk, AV.junk, AV.junk, AV.junk, AV.junk, AV.junk, AV.junk, AV.junk, AV.junk, AV.junk]
            []))
      (Tree.ret
        (Ex.norm,
          St.mk
            [AV.junk, AV.junk, AV.int IntKind.u64 false y, AV.junk, AV.junk, AV.junk, AV.junk, AV.junk, AV.int IntKind.u64 false s, AV.int IntKind.u64 false yn1, AV.int IntKind.u64 false yn0, AV.int IntKind.u64 false n1,
              AV.junk, AV.int IntKind.u64 false u1, AV.int IntKind.u64 false u0, AV.int IntKind.u64 false (IntKind.wrap IntKind.u64 (qq - (1 : Int))), AV.int IntKind.u64 false (IntKind.wrap IntKind.u64 (rh + yn1)), AV.junk,
              AV.junk, AV.junk, AV.junk, AV.junk, AV.junk, AV.junk, AV.junk, AV.junk, AV.junk, AV.junk, AV.junk, AV.junk, AV.junk, AV.junk, AV.junk, AV.junk, AV.junk, AV.junk, AV.junk, AV.junk, AV.junk, AV.junk, AV.junk, AV.junk, AV.junk,
              AV.junk, AV.junk, AV.junk, AV.junk, AV.junk, AV.junk, AV.junk, AV.junk, AV.junk, AV.junk, AV.junk, AV.junk, AV.junk, AV.junk, AV.junk, AV.junk, AV.junk, AV.junk, AV.junk, AV.junk, AV.junk, AV.junk, AV.junk, AV.junk, AV.junk,
              AV.junk, AV.junk, AV.junk, AV.junk, AV.junk, AV.junk, AV.junk, AV.junk, AV.junk, AV.junk, AV.junk, AV.junk, AV.junk, AV.junk, AV.junk, AV.junk, AV.junk, AV.junk, AV.junk, AV.junk, AV.junk, AV.junk, AV.junk, AV.junk, AV.junk,
              AV.junk, AV.junk, AV.junk, AV.junk, AV.junk, AV.junk, AV.junk, AV.junk, AV.junk, AV.junk, AV.junk, AV.junk, AV.junk, AV.junk, AV.junk, AV.junk, AV.junk, AV.junk, AV.junk, AV.junk, AV.junk, AV.junk, AV.junk, AV.junk, AV.junk,
              AV.junk, AV.junk, AV.junk, AV.junk, AV.junk, AV.junk, AV.junk, AV.junk, AV.junk, AV.junk, AV.junk, AV.junk, AV.junk, AV.junk, AV.junk, AV.junk, AV.junk]
            [])))
    (Tree.br (decide (IntKind.wrap IntKind.u64 (qq * yn0) > IntKind.wrap IntKind.u64 (IntKind.wrap IntKind.u64 ((4294967296 : Int) * rh) + u1)))
      (Tree.br (decide (IntKind.wrap IntKind.u64 (rh + yn1) ≥ (4294967296 : Int)))
        (Tree.ret
          (Ex.exit (0),
            St.mk
              [AV.junk, AV.junk, AV.int IntKind.u64 false y, AV.junk, AV.junk, AV.junk, AV.junk, AV.junk, AV.int IntKind.u64 false s, AV.int IntKind.u64 false yn1, AV.int IntKind.u64 false yn0, AV.int IntKind.u64 false n1,
                AV.junk, AV.int IntKind.u64 false u1, AV.int IntKind.u64 false u0, AV.int IntKind.u64 false (IntKind.wrap IntKind.u64 (qq - (1 : Int))), AV.junk, AV.junk, AV.junk, AV.junk, AV.junk, AV.junk, AV.junk, AV.junk, AV.junk,
                AV.junk, AV.junk, AV.junk, AV.junk, AV.junk, AV.junk, AV.junk, AV.junk, AV.junk, AV.junk, AV.junk, AV.junk, AV.junk, AV.junk, AV.junk, AV.junk, AV.junk, AV.junk, AV.junk, AV.junk, AV.junk, AV.junk, AV.junk, AV.junk, AV.junk,
                AV.junk, AV.junk, AV.junk, AV.junk, AV.junk, AV.junk, AV.junk, AV.junk, AV.junk, AV.junk, AV.junk, AV.junk, AV.junk, AV.junk, AV.junk, AV.junk, AV.junk, AV.junk, AV.junk, AV.junk, AV.junk, AV.junk, AV.junk, AV.junk, AV.junk,
                AV.junk, AV.junk, AV.junk, AV.junk, AV.junk, AV.junk, AV.junk, AV.junk, AV.junk, AV.junk, AV.junk, AV.junk, AV.junk, AV.junk, AV.junk, AV.junk, AV.junk, AV.junk, AV.junk, AV.junk, AV.junk, AV.junk, AV.junk, AV.junk, AV.junk,
                AV.junk, AV.junk, AV.junk, AV.junk, AV.junk, AV.junk, AV.junk, AV.junk, AV.junk, AV.junk, AV.junk, AV.junk, AV.junk, AV.junk, AV.junk, AV.junk, AV.junk, AV.junk, AV.junk, AV.junk, AV.junk, AV.junk, AV.junk, AV.junk, AV.junk,
                AV.junk, AV.junk, AV.junk, AV.junk, AV.junk, AV.junk, AV.junk, AV.junk, AV.junk, AV.junk]
              []))
        (Tree.ret
          (Ex.norm,
            St.mk
              [AV.junk, AV.junk, AV.int IntKind.u64 false y, AV.junk, AV.junk, AV.junk, AV.junk, AV.junk, AV.int IntKind.u64 false s, AV.int IntKind.u64 false yn1, AV.int IntKind.u64 false yn0, AV.int IntKind.u64 false n1,
                AV.junk, AV.int IntKind.u64 false u1, AV.int IntKind.u64 false u0, AV.int IntKind.u64 false (IntKind.wrap IntKind.u64 (qq - (1 : Int))), AV.int IntKind.u64 false (IntKind.wrap IntKind.u64 (rh + yn1)), AV.junk,
                AV.junk, AV.junk, AV.junk, AV.junk, AV.junk, AV.junk, AV.junk, AV.junk, AV.junk, AV.junk, AV.junk, AV.junk, AV.junk, AV.junk, AV.junk, AV.junk, AV.junk, AV.junk, AV.junk, AV.junk, AV.junk, AV.junk, AV.junk, AV.junk, AV.junk,
                AV.junk, AV.junk, AV.junk, AV.junk, AV.junk, AV.junk, AV.junk, AV.junk, AV.junk, AV.junk, AV.junk, AV.junk, AV.junk, AV.junk, AV.junk, AV.junk, AV.junk, AV.junk, AV.junk, AV.junk, AV.junk, AV.junk, AV.junk, AV.junk, AV.junk,
                AV.junk, AV.junk, AV.junk, AV.junk, AV.junk, AV.junk, AV.junk, AV.junk, AV.junk, AV.junk, AV.junk, AV.junk, AV.junk, AV.junk, AV.junk, AV.junk, AV.junk, AV.junk, AV.junk, AV.junk, AV.junk, AV.junk, AV.junk, AV.junk, AV.junk,
                AV.junk, AV.junk, AV.junk, AV.junk, AV.junk, AV.junk, AV.junk, AV.junk, AV.junk, AV.junk, AV.junk, AV.junk, AV.junk, AV.junk, AV.junk, AV.junk, AV.junk, AV.junk, AV.junk, AV.junk, AV.junk, AV.junk, AV.junk, AV.junk, AV.junk,
                AV.junk, AV.junk, AV.junk, AV.junk, AV.junk, AV.junk, AV.junk, AV.junk, AV.junk, AV.junk, AV.junk, AV.junk, AV.junk, AV.junk, AV.junk, AV.junk, AV.junk]
              [])))
      (Tree.ret
        (Ex.exit (0),
          St.mk
            [AV.junk, AV.junk, AV.int IntKind.u64 false y, AV.junk, AV.junk, AV.junk, AV.junk, AV.junk, AV.int IntKind.u64 false s, AV.int IntKind.u64 false yn1, AV.int IntKind.u64 false yn0, AV.int IntKind.u64 false n1,
              AV.junk, AV.int IntKind.u64 false u1, AV.int IntKind.u64 false u0, AV.int IntKind.u64 false qq, AV.junk, AV.junk, AV.junk, AV.junk, AV.junk, AV.junk, AV.junk, AV.junk, AV.junk, AV.junk, AV.junk, AV.junk, AV.junk,
              AV.junk, AV.junk, AV.junk, AV.junk, AV.junk, AV.junk, AV.junk, AV.junk, AV.junk, AV.junk, AV.junk, AV.junk, AV.junk, AV.junk, AV.junk, AV.junk, AV.junk, AV.junk, AV.junk, AV.junk, AV.junk, AV.junk, AV.junk, AV.junk, AV.junk,
              AV.junk, AV.junk, AV.junk, AV.junk, AV.junk, AV.junk, AV.junk, AV.junk, AV.junk, AV.junk, AV.junk, AV.junk, AV.junk, AV.junk, AV.junk, AV.junk, AV.junk, AV.junk, AV.junk, AV.junk, AV.junk, AV.junk, AV.junk, AV.junk, AV.junk,
              AV.junk, AV.junk, AV.junk, AV.junk, AV.junk, AV.junk, AV.junk, AV.junk, AV.junk, AV.junk, AV.junk, AV.junk, AV.junk, AV.junk, AV.junk, AV.junk, AV.junk, AV.junk, AV.junk, AV.junk, AV.junk, AV.junk, AV.junk, AV.junk, AV.junk,
              AV.junk, AV.junk, AV.junk, AV.junk, AV.junk, AV.junk, AV.junk, AV.junk, AV.junk, AV.junk, AV.junk, AV.junk, AV.junk, AV.junk, AV.junk, AV.junk, AV.junk, AV.junk, AV.junk, AV.junk, AV.junk, AV.junk, AV.junk, AV.junk, AV.junk,
              AV.junk, AV.junk, AV.junk, AV.junk, AV.junk, AV.junk]
            []))) := by kernel_rfl
set_option maxRecDepth 100000 in
theorem stepdiv64_0 (y : Int) (s : Int) (yn1 : Int) (yn0 : Int) (n1 : Int) (u1 : Int) (u0 : Int) (qq : Int) (rh : Int) (ex : Ex) (r : St) (hok : okdiv64_0 ⟨y, s, yn1, yn0, n1, u1, u0, qq, rh⟩) (hr : (outdiv64_0 ⟨y, s, yn1, yn0, n1, u1, u0, qq, rh⟩).runs (ex, r)) : (Tree.br (decide (qq ≥ (4294967296 : Int)))
    (Tree.br (decide (IntKind.wrap IntKind.u64 (rh + yn1) ≥ (4294967296 : Int)))
      (Tree.ret
        (Ex.exit (0),
          St.mk
            [AV.junk, AV.junk, AV.int IntKind.u64 false y, AV.junk, AV.junk, AV.junk, AV.junk, AV.junk, AV.int IntKind.u64 false s, AV.int IntKind.u64 false yn1, AV.int IntKind.u64 false yn0, AV.int IntKind.u64 false n1,
              AV.junk, AV.int IntKind.u64 false u1, AV.int IntKind.u64 false u0, AV.int IntKind.u64 false (IntKind.wrap IntKind.u64 (qq - (1 : Int))), AV.junk, AV.junk, AV.junk, AV.junk, AV.junk, AV.junk, AV.junk, AV.junk, AV.junk,
              AV.junk, AV.junk, AV.junk, AV.junk, AV.junk, AV.junk, AV.junk, AV.junk, AV.junk, AV.junk, AV.junk, AV.junk, AV.junk, AV.junk, AV.junk, AV.junk, AV.junk, AV.junk, AV.junk, AV.junk, AV.junk, AV.junk, AV.junk, AV.junk, AV.junk,
              AV.junk, AV.junk, AV.junk, AV.junk, AV.junk, AV.junk, AV.junk, AV.junk, AV.junk, AV.junk, AV.junk, AV.junk, AV.junk, AV.junk, AV.junk, AV.junk, AV.junk, AV.junk, AV.junk, AV.junk, AV.junk, AV.junk, AV.junk, AV.junk, AV.junk,
              AV.junk, AV.junk, AV.junk, AV.junk, AV.junk, AV.junk, AV.junk, AV.junk, AV.junk, AV.junk, AV.junk, AV.junk, AV.junk, AV.junk, AV.junk, AV.junk, AV.junk, AV.junk, AV.junk, AV.junk, AV.junk, AV.junk, AV.junk, AV.junk, AV.junk,
              AV.junk, AV.junk, AV.junk, AV.junk, AV.junk, AV.junk, AV.junk, AV.junk, AV.junk, AV.junk, AV.junk, AV.junk, AV.junk, AV.junk, AV.junk, AV.junk, AV.junk, AV.junk, AV.junk, AV.junk, AV.junk, AV.junk, AV.junk, AV.junk, AV.junk,
              AV.junk, AV.junk, AV.junk, AV.junk, AV.junk, AV.junk, AV.junk, AV.junk, AV.junk, AV.junk]
            []))
      (Tree.ret
        (Ex.norm,
          St.mk
            [AV.junk, AV.junk, AV.int IntKind.u64 false y, AV.junk, AV.junk, AV.junk, AV.junk, AV.junk, AV.int IntKind.u64 false s, AV.int IntKind.u64 false yn1, AV.int IntKind.u64 false yn0, AV.int IntKind.u64 false n1,
              AV.junk, AV.int IntKind.u64 false u1, AV.int IntKind.u64 false u0, AV.int IntKind.u64 false (IntKind.wrap IntKind.u64 (qq - (1 : Int))), AV.int IntKind.u64 false (IntKind.wrap IntKind.u64 (rh + yn1)), AV.junk,
              AV.junk, AV.junk, AV.junk, AV.junk, AV.junk, AV.junk, AV.junk, AV.junk, AV.junk, AV.junk, AV.junk, AV.junk, AV.junk, AV.junk, AV.junk, AV.junk, AV.junk, AV.junk, AV.junk, AV.junk, AV.junk, AV.junk, AV.junk, AV.junk, AV.junk,
              AV.junk, AV.junk, AV.junk, AV.junk, AV.junk, AV.junk, AV.junk, AV.junk, AV.junk, AV.junk, AV.junk, AV.junk, AV.junk, AV.junk, AV.junk, AV.junk, AV.junk, AV.junk, AV.junk, AV.junk, AV.junk, AV.junk, AV.junk, AV.junk, AV.junk,
              AV.junk, AV.junk, AV.junk, AV.junk, AV.junk, AV.junk, AV.junk, AV.junk, AV.junk, AV.junk, AV.junk, AV.junk, AV.junk, AV.junk, AV.junk, AV.junk, AV.junk, AV.junk, AV.junk, AV.junk, AV.junk, AV.junk, AV.junk, AV.junk, AV.junk,
              AV.junk, AV.junk, AV.junk, AV.junk, AV.junk, AV.junk, AV.junk, AV.junk, AV.junk, AV.junk, AV.junk, AV.junk, AV.junk, AV.junk, AV.junk, AV.junk, AV.junk, AV.junk, AV.junk, AV.junk, AV.junk, AV.junk, AV.junk, AV.junk, AV.junk,
              AV.junk, AV.junk, AV.junk, AV.junk, AV.junk, AV.junk, AV.junk, AV.junk, AV.junk, AV.junk, AV.junk, AV.junk, AV.junk, AV.junk, AV.junk, AV.junk, AV.junk]
            [])))
    (Tree.br (decide (IntKind.wrap IntKind.u64 (qq * yn0) > IntKind.wrap IntKind.u64 (IntKind.wrap IntKind.u64 ((4294967296 : Int) * rh) + u1)))
      (Tree.br (decide (IntKind.wrap IntKind.u64 (rh + yn1) ≥ (4294967296 : Int)))
        (Tree.ret
          (Ex.exit (0),
            St.mk
              [AV.junk, AV.junk, AV.int IntKind.u64 false y, AV.junk, AV.junk, AV.junk, AV.junk, AV.junk, AV.int IntKind.u64 false s, AV.int IntKind.u64 false yn1, AV.int IntKind.u64 false yn0, AV.int IntKind.u64 false n1,
                AV.junk, AV.int IntKind.u64 false u1, AV.int IntKind.u64 false u0, AV.int IntKind.u64 false (IntKind.wrap IntKind.u64 (qq - (1 : Int))), AV.junk, AV.junk, AV.junk, AV.junk, AV.junk, AV.junk, AV.junk, AV.junk, AV.junk,
                AV.junk, AV.junk, AV.junk, AV.junk, AV.junk, AV.junk, AV.junk, AV.junk, AV.junk, AV.junk, AV.junk, AV.junk, AV.junk, AV.junk, AV.junk, AV.junk, AV.junk, AV.junk, AV.junk, AV.junk, AV.junk, AV.junk, AV.junk, AV.junk, AV.junk,
                AV.junk, AV.junk, AV.junk, AV.junk, AV.junk, AV.junk, AV.junk, AV.junk, AV.junk, AV.junk, AV.junk, AV.junk, AV.junk, AV.junk, AV.junk, AV.junk, AV.junk, AV.junk, AV.junk, AV.junk, AV.junk, AV.junk, AV.junk, AV.junk, AV.junk,
                AV.junk, AV.junk, AV.junk, AV.junk, AV.junk, AV.junk, AV.junk, AV.junk, AV.junk, AV.junk, AV.junk, AV.junk, AV.junk, AV.junk, AV.junk, AV.junk, AV.junk, AV.junk, AV.junk, AV.junk, AV.junk, AV.junk, AV.junk, AV.junk, AV.junk,
                AV.junk, AV.junk, AV.junk, AV.junk, AV.junk, AV.junk, AV.junk, AV.junk, AV.junk, AV.junk, AV.junk, AV.junk, AV.junk, AV.junk, AV.junk, AV.junk, AV.junk, AV.junk, AV.junk, AV.junk, AV.junk, AV.junk, AV.junk, AV.junk, AV.junk,
                AV.junk, AV.junk, AV.junk, AV.junk, AV.junk, AV.junk, AV.junk, AV.junk, AV.junk, AV.junk]
              []))
        (Tree.ret
          (Ex.norm,
            St.mk
              [AV.junk, AV.junk, AV.int IntKind.u64 false y, AV.junk, AV.junk, AV.junk, AV.junk, AV.junk, AV.int IntKind.u64 false s, AV.int IntKind.u64 false yn1, AV.int IntKind.u64 false yn0, AV.int IntKind.u64 false n1,
                AV.junk, AV.int IntKind.u64 false u1, AV.int IntKind.u64 false u0, AV.int IntKind.u64 false (IntKind.wrap IntKind.u64 (qq - (1 : Int))), AV.int IntKind.u64 false (IntKind.wrap IntKind.u64 (rh + yn1)), AV.junk,
                AV.junk, AV.junk, AV.junk, AV.junk, AV.junk, AV.junk, AV.junk, AV.junk, AV.junk, AV.junk, AV.junk, AV.junk, AV.junk, AV.junk, AV.junk, AV.junk, AV.junk, AV.junk, AV.junk, AV.junk, AV.junk, AV.junk, AV.junk, AV.junk, AV.junk,
                AV.junk, AV.junk, AV.junk, AV.junk, AV.junk, AV.junk, AV.junk, AV.junk, AV.junk, AV.junk, AV.junk, AV.junk, AV.junk, AV.junk, AV.junk, AV.junk, AV.junk, AV.junk, AV.junk, AV.junk, AV.junk, AV.junk, AV.junk, AV.junk, AV.junk,
                AV.junk, AV.junk, AV.junk, AV.junk, AV.junk, AV.junk, AV.junk, AV.junk, AV.junk, AV.junk, AV.junk, AV.junk, AV.junk, AV.junk, AV.junk, AV.junk, AV.junk, AV.junk, AV.junk, AV.junk, AV.junk, AV.junk, AV.junk, AV.junk, AV.junk,
                AV.junk, AV.junk, AV.junk, AV.junk, AV.junk, AV.junk, AV.junk, AV.junk, AV.junk, AV.junk, AV.junk, AV.junk, AV.junk, AV.junk, AV.junk, AV.junk, AV.junk, AV.junk, AV.junk, AV.junk, AV.junk, AV.junk, AV.junk, AV.junk, AV.junk,
                AV.junk, AV.junk, AV.junk, AV.junk, AV.junk, AV.junk, AV.junk, AV.junk, AV.junk, AV.junk, AV.junk, AV.junk, AV.junk, AV.junk, AV.junk, AV.junk, AV.junk]
              [])))
      (Tree.ret
        (Ex.exit (0),
          St.mk
            [AV.junk, AV.junk, AV.int IntKind.u64 false y, AV.junk, AV.junk, AV.junk, AV.junk, AV.junk, AV.int IntKind.u64 false s, AV.int IntKind.u64 false yn1, AV.int IntKind.u64 false yn0, AV.int IntKind.u64 false n1,
              AV.junk, AV.int IntKind.u64 false u1, AV.int IntKind.u64 false u0, AV.int IntKind.u64 false qq, AV.junk, AV.junk, AV.junk, AV.junk, AV.junk, AV.junk, AV.junk, AV.junk, AV.junk, AV.junk, AV.junk, AV.junk, AV.junk,
              AV.junk, AV.junk, AV.junk, AV.junk, AV.junk, AV.junk, AV.junk, AV.junk, AV.junk, AV.junk, AV.junk, AV.junk, AV.junk, AV.junk, AV.junk, AV.junk, AV.junk, AV.junk, AV.junk, AV.junk, AV.junk, AV.junk, AV.junk, AV.junk, AV.junk,
              AV.junk, AV.junk, AV.junk, AV.junk, AV.junk, AV.junk, AV.junk, AV.junk, AV.junk, AV.junk, AV.junk, AV.junk, AV.junk, AV.junk, AV.junk, AV.junk, AV.junk, AV.junk, AV.junk, AV.junk, AV.junk, AV.junk, AV.junk, AV.junk, AV.junk,
              AV.junk, AV.junk, AV.junk, AV.junk, AV.junk, AV.junk, AV.junk, AV.junk, AV.junk, AV.junk, AV.junk, AV.junk, AV.junk, AV.junk, AV.junk, AV.junk, AV.junk, AV.junk, AV.junk, AV.junk, AV.junk, AV.junk, AV.junk, AV.junk, AV.junk,
              AV.junk, AV.junk, AV.junk, AV.junk, AV.junk, AV.junk, AV.junk, AV.junk, AV.junk, AV.junk, AV.junk, AV.junk, AV.junk, AV.junk, AV.junk, AV.junk, AV.junk, AV.junk, AV.junk, AV.junk, AV.junk, AV.junk, AV.junk, AV.junk, AV.junk,
              AV.junk, AV.junk, AV.junk, AV.junk, AV.junk, AV.junk]
            []))) : Tree (Ex × St)).Sat (Post hddiv64_0 resdiv64_0 mudiv64_0 ⟨y, s, yn1, yn0, n1, u1, u0, qq, rh⟩ ex r) := by
  simp only [okdiv64_0, outdiv64_0, Tree.runs] at hok hr
  obtain ⟨hy, a1, a2, a3, a4, a5, a6, a7, a8, he, b1, b2, b3, b4, hQ⟩ := hok
  have hb := mul_b b1 b2 a3 a4
  refine Tree.Sat.br (fun h1 => ?_) (fun h1 => ?_)
  · (try simp only [decide_eq_true_eq, decide_eq_false_iff_not, Bool.not_eq_true', Bool.not_eq_false', beq_iff_eq, beq_eq_false_iff_ne, Int.not_lt, Int.not_le, ge_iff_le, gt_iff_lt, ne_eq, Bool.false_eq_true, Bool.true_eq_false, not_true_eq_false, not_false_eq_true, Bool.and_eq_true, Bool.not_eq_eq_eq_not, Bool.not_true, Bool.not_false, bne_iff_ne, bne_eq_false_iff_eq, Int.toNat_natCast, Nat.mul_one, Nat.add_zero, Nat.zero_add, List.take_length, List.drop_zero] at h1)
    all_goals
      refine Tree.Sat.br (fun h2 => ?_) (fun h2 => ?_)
      · (try simp only [decide_eq_true_eq, decide_eq_false_iff_not, Bool.not_eq_true', Bool.not_eq_false', beq_iff_eq, beq_eq_false_iff_ne, Int.not_lt, Int.not_le, ge_iff_le, gt_iff_lt, ne_eq, Bool.false_eq_true, Bool.true_eq_false, not_true_eq_false, not_false_eq_true, Bool.and_eq_true, Bool.not_eq_eq_eq_not, Bool.not_true, Bool.not_false, bne_iff_ne, bne_eq_false_iff_eq, Int.toNat_natCast, Nat.mul_one, Nat.add_zero, Nat.zero_add, List.take_length, List.drop_zero] at h2)
        all_goals
          refine Tree.Sat.ret ?_
          (try simp only [wu64] at h2)
          have hd := dv_break hy a1 a3 a4 a6 a7 a8 he b1 b2 (.inl h1) (by omega)
          have hd2 := dv_next hy a1 a3 a6 a5 a7 a8 he (.inl h1)
          have hq := hr
          simp only [Prod.mk.injEq] at hq
          obtain ⟨rfl, rfl⟩ := hq
          refine .exit rfl ?_
          constructor <;> simp only [AV.leL, AV.le, Mem.le, Mem.leP, Blk.le, Blk.pad, Data.le, Data.size, Cap.le, and_true, true_and, and_self, true_implies, implies_true, imp_self, List.length_nil] <;> (repeat' with_reducible refine And.intro ?_ ?_) <;> (try simp only [Int.toNat_natCast, Nat.mul_one, Nat.add_zero, Nat.zero_add]) <;> (rw [wu64]; omega)
      · (try simp only [decide_eq_true_eq, decide_eq_false_iff_not, Bool.not_eq_true', Bool.not_eq_false', beq_iff_eq, beq_eq_false_iff_ne, Int.not_lt, Int.not_le, ge_iff_le, gt_iff_lt, ne_eq, Bool.false_eq_true, Bool.true_eq_false, not_true_eq_false, not_false_eq_true, Bool.and_eq_true, Bool.not_eq_eq_eq_not, Bool.not_true, Bool.not_false, bne_iff_ne, bne_eq_false_iff_eq, Int.toNat_natCast, Nat.mul_one, Nat.add_zero, Nat.zero_add, List.take_length, List.drop_zero] at h2)
        all_goals
          refine Tree.Sat.ret ?_
          (try simp only [wu64] at h2)
          have hd := dv_next hy a1 a3 a6 a5 a7 a8 he (.inl h1)
          refine .norm ⟨y, s, yn1, yn0, n1, u1, u0, qq - 1, rh + yn1⟩ ?_ ?_ ⟨?_, ?_⟩
          · constructor <;> simp only [hddiv64_0, AV.leL, AV.le, Mem.le, Mem.leP, Blk.le, Blk.pad, Data.le, Data.size, Cap.le, and_true, true_and, and_self, true_implies, implies_true, imp_self, List.length_nil] <;> (repeat' with_reducible refine And.intro ?_ ?_) <;> (try simp only [Int.toNat_natCast, Nat.mul_one, Nat.add_zero, Nat.zero_add]) <;> (rw [wu64]; omega)
          · simp only [mudiv64_0]; omega
          · exact ⟨hy, a1, a2, a3, a4, a5, a6, a7, a8, hd.2.1, hd.2.2, by omega, by omega, by omega, hd.1⟩
          · exact hr
  · (try simp only [decide_eq_true_eq, decide_eq_false_iff_not, Bool.not_eq_true', Bool.not_eq_false', beq_iff_eq, beq_eq_false_iff_ne, Int.not_lt, Int.not_le, ge_iff_le, gt_iff_lt, ne_eq, Bool.false_eq_true, Bool.true_eq_false, not_true_eq_false, not_false_eq_true, Bool.and_eq_true, Bool.not_eq_eq_eq_not, Bool.not_true, Bool.not_false, bne_iff_ne, bne_eq_false_iff_eq, Int.toNat_natCast, Nat.mul_one, Nat.add_zero, Nat.zero_add, List.take_length, List.drop_zero] at h1)
    all_goals
      refine Tree.Sat.br (fun h2 => ?_) (fun h2 => ?_)
      · (try simp only [decide_eq_true_eq, decide_eq_false_iff_not, Bool.not_eq_true', Bool.not_eq_false', beq_iff_eq, beq_eq_false_iff_ne, Int.not_lt, Int.not_le, ge_iff_le, gt_iff_lt, ne_eq, Bool.false_eq_true, Bool.true_eq_false, not_true_eq_false, not_false_eq_true, Bool.and_eq_true, Bool.not_eq_eq_eq_not, Bool.not_true, Bool.not_false, bne_iff_ne, bne_eq_false_iff_eq, Int.toNat_natCast, Nat.mul_one, Nat.add_zero, Nat.zero_add, List.take_length, List.drop_zero] at h2)
        all_goals
          refine Tree.Sat.br (fun h3 => ?_) (fun h3 => ?_)
          · (try simp only [decide_eq_true_eq, decide_eq_false_iff_not, Bool.not_eq_true', Bool.not_eq_false', beq_iff_eq, beq_eq_false_iff_ne, Int.not_lt, Int.not_le, ge_iff_le, gt_iff_lt, ne_eq, Bool.false_eq_true, Bool.true_eq_false, not_true_eq_false, not_false_eq_true, Bool.and_eq_true, Bool.not_eq_eq_eq_not, Bool.not_true, Bool.not_false, bne_iff_ne, bne_eq_false_iff_eq, Int.toNat_natCast, Nat.mul_one, Nat.add_zero, Nat.zero_add, List.take_length, List.drop_zero] at h3)
            all_goals
              refine Tree.Sat.ret ?_
              (try simp only [wu64] at h2 h3)
              have hd := dv_break hy a1 a3 a4 a6 a7 a8 he b1 b2 (.inr (by omega)) (by omega)
              have hd2 := dv_next hy a1 a3 a6 a5 a7 a8 he (.inr (by omega))
              have hq := hr
              simp only [Prod.mk.injEq] at hq
              obtain ⟨rfl, rfl⟩ := hq
              refine .exit rfl ?_
              constructor <;> simp only [AV.leL, AV.le, Mem.le, Mem.leP, Blk.le, Blk.pad, Data.le, Data.size, Cap.le, and_true, true_and, and_self, true_implies, implies_true, imp_self, List.length_nil] <;> (repeat' with_reducible refine And.intro ?_ ?_) <;> (try simp only [Int.toNat_natCast, Nat.mul_one, Nat.add_zero, Nat.zero_add]) <;> (rw [wu64]; omega)
          · (try simp only [decide_eq_true_eq, decide_eq_false_iff_not, Bool.not_eq_true', Bool.not_eq_false', beq_iff_eq, beq_eq_false_iff_ne, Int.not_lt, Int.not_le, ge_iff_le, gt_iff_lt, ne_eq, Bool.false_eq_true, Bool.true_eq_false, not_true_eq_false, not_false_eq_true, Bool.and_eq_true, Bool.not_eq_eq_eq_not, Bool.not_true, Bool.not_false, bne_iff_ne, bne_eq_false_iff_eq, Int.toNat_natCast, Nat.mul_one, Nat.add_zero, Nat.zero_add, List.take_length, List.drop_zero] at h3)
            all_goals
              refine Tree.Sat.ret ?_
              (try simp only [wu64] at h2 h3)
              have hd := dv_next hy a1 a3 a6 a5 a7 a8 he (.inr (by omega))
              refine .norm ⟨y, s, yn1, yn0, n1, u1, u0, qq - 1, rh + yn1⟩ ?_ ?_ ⟨?_, ?_⟩
              · constructor <;> simp only [hddiv64_0, AV.leL, AV.le, Mem.le, Mem.leP, Blk.le, Blk.pad, Data.le, Data.size, Cap.le, and_true, true_and, and_self, true_implies, implies_true, imp_self, List.length_nil] <;> (repeat' with_reducible refine And.intro ?_ ?_) <;> (try simp only [Int.toNat_natCast, Nat.mul_one, Nat.add_zero, Nat.zero_add]) <;> (rw [wu64]; omega)
              · simp only [mudiv64_0]; omega
              · exact ⟨hy, a1, a2, a3, a4, a5, a6, a7, a8, hd.2.1, hd.2.2, by omega, by omega, by omega, hd.1⟩
              · exact hr
      · (try simp only [decide_eq_true_eq, decide_eq_false_iff_not, Bool.not_eq_true', Bool.not_eq_false', beq_iff_eq, beq_eq_false_iff_ne, Int.not_lt, Int.not_le, ge_iff_le, gt_iff_lt, ne_eq, Bool.false_eq_true, Bool.true_eq_false, not_true_eq_false, not_false_eq_true, Bool.and_eq_true, Bool.not_eq_eq_eq_not, Bool.not_true, Bool.not_false, bne_iff_ne, bne_eq_false_iff_eq, Int.toNat_natCast, Nat.mul_one, Nat.add_zero, Nat.zero_add, List.take_length, List.drop_zero] at h2)
        all_goals
          refine Tree.Sat.ret ?_
          (try simp only [wu64] at h2)
          have hd := dv_done hy a1 a3 he hQ (by omega)
          have hq := hr
          simp only [Prod.mk.injEq] at hq
          obtain ⟨rfl, rfl⟩ := hq
          refine .exit rfl ?_
          constructor <;> simp only [AV.leL, AV.le, Mem.le, Mem.leP, Blk.le, Blk.pad, Data.le, Data.size, Cap.le, and_true, true_and, and_self, true_implies, implies_true, imp_self, List.length_nil] <;> (repeat' with_reducible refine And.intro ?_ ?_) <;> (try simp only [Int.toNat_natCast, Nat.mul_one, Nat.add_zero, Nat.zero_add]) <;> omega
set_option maxHeartbeats 2000000 in
set_option maxRecDepth 100000 in
theorem loopdiv64_0 (hall : AllOk Try.prog 0 (fun _ => none) tab2) : LoopOk (mkL Try.prog 0 (fun _ => none) tab2 rowsdiv64) 69 0 (bodyAt Try.prog 69 0) := by
  have hkey : Code.key (bodyAt Try.prog 69 0) = 17 := by kernel_rfl
  have hin : loopsIn (bodyAt Try.prog 69 0) = [] := by kernel_rfl
  have hrow : lookL rowsdiv64 69 (Code.key (bodyAt Try.prog 69 0)) = some rowdiv64_0 := by rw [hkey]; rfl
  refine loop_rowP (X := Xdiv64_0) (row := rowdiv64_0) hall mix hrow (fun b hb _ => by rw [hin] at hb; cases hb) Udiv64_0 hddiv64_0 resdiv64_0 mudiv64_0 (fun st ex r h => ?_) (fun x ex r hr => ?_)
  · have h' : (ansdiv64_0 st).runs (ex, r) := h
    unfold ansdiv64_0 at h'
    split at h'
    · obtain ⟨q1, q2⟩ := Tree.chk_runs h'
      exact ⟨_, q1, q2⟩
    · exact h'.elim
  · obtain ⟨y, s, yn1, yn0, n1, u1, u0, qq, rh⟩ := x
    have := stepdiv64_0 y s yn1 yn0 n1 u1 u0 qq rh ex r hr.1 hr.2
    rw [← tLdiv64_0] at this
    (try rw [show rowdiv64_0.tidy = Tdiv64_0 from rfl])
    exact this
theorem loopsdiv64 (hall : AllOk Try.prog 0 (fun _ => none) tab2) : ∀ i, i < (loopsAt Try.prog 69).length → LoopOk (mkL Try.prog 0 (fun _ => none) tab2 rowsdiv64) 69 0 (bodyAt Try.prog 69 i) := by
  intro i hi
  have hlen : (loopsAt Try.prog 69).length = 2 := by kernel_rfl
  rw [hlen] at hi
  obtain rfl | rfl : i = 0 ∨ i = 1 := by omega
  · exact loopdiv64_0 hall
  · exact loopdiv64_1 hall
set_option maxRecDepth 100000 in
theorem tdiv64 (hi : Int) (lo : Int) (y : Int) : evBody (mkL Try.prog 0 (fun _ => none) tab2 rowsdiv64) (evCall (mkC Try.prog 0 (fun _ => none) tab2) 50) 69 [.int .u64 false hi, .int .u64 false lo, .int .u64 false y] [] =
  Tree.br (y == (0 : Int)) Tree.fail
    (Tree.br (decide (y ≤ hi)) Tree.fail
      (Tree.br (hi == (0 : Int))
        (Tree.br (!decide (y = (0 : Int))) (Tree.br (!decide (y = (0 : Int))) (Tree.ret (AV.tup [AV.int IntKind.u64 false (IntKind.wrap IntKind.u64 (Int.tdiv lo y)), AV.int IntKind.u64 false (Int.tmod lo y)], [])) Tree.fail)
          Tree.fail)
        (Tree.chk ((True ∧ True) ∧ (0 : Int) ≤ y ∧ y ≤ (18446744073709551615 : Int))
          (Tree.br (!decide (IntKind.wrap IntKind.u64 ((64 : Int) - ((Lib.bitLen (Int.toNat y)) : Int)) < (0 : Int)))
            (Tree.br (!decide (IntKind.wrap IntKind.u64 ((64 : Int) - ((Lib.bitLen (Int.toNat y)) : Int)) < (0 : Int)))
              (Tree.br (!decide (IntKind.wrap IntKind.u64 ((64 : Int) - IntKind.wrap IntKind.u64 ((64 : Int) - ((Lib.bitLen (Int.toNat y)) : Int))) < (0 : Int)))
                (Tree.br (!decide (IntKind.wrap IntKind.u64 ((64 : Int) - ((Lib.bitLen (Int.toNat y)) : Int)) < (0 : Int)))
                  (Tree.br (!decide (Int.fdiv (IntKind.wrap IntKind.u64 (y * (2 : Int) ^ min (Int.toNat (IntKind.wrap IntKind.u64 ((64 : Int) - ((Lib.bitLen (Int.toNat y)) : Int)))) (64))) (4294967296 : Int) = (0 : Int)))
                    (Tree.chk
                      (St.le
                        (St.mk
                          [AV.junk, AV.junk, AV.int IntKind.u64 false (IntKind.wrap IntKind.u64 (y * (2 : Int) ^ min (Int.toNat (IntKind.wrap IntKind.u64 ((64 : Int) - ((Lib.bitLen (Int.toNat y)) : Int)))) (64))), AV.junk, AV.junk,
                            AV.junk, AV.junk, AV.junk, AV.int IntKind.u64 false (IntKind.wrap IntKind.u64 ((64 : Int) - ((Lib.bitLen (Int.toNat y)) : Int))),
                            AV.int IntKind.u64 false (Int.fdiv (IntKind.wrap IntKind.u64 (y * (2 : Int) ^ min (Int.toNat (IntKind.wrap IntKind.u64 ((64 : Int) - ((Lib.bitLen (Int.toNat y)) : Int)))) (64))) (4294967296 : Int)),
                            AV.int IntKind.u64 false
                              (IntKind.wrap IntKind.u64
                                ((BitVec.toNat
                                    (BitVec.ofInt (64) (IntKind.wrap IntKind.u64 (y * (2 : Int) ^ min (Int.toNat (IntKind.wrap IntKind.u64 ((64 : Int) - ((Lib.bitLen (Int.toNat y)) : Int)))) (64))) &&&
                                      BitVec.ofInt (64) (4294967295 : Int))) : Int)),
                            AV.int IntKind.u64 false
                              (IntKind.wrap IntKind.u64
                                ((BitVec.toNat
                                    (BitVec.ofInt (64) (IntKind.wrap IntKind.u64 (hi * (2 : Int) ^ min (Int.toNat (IntKind.wrap IntKind.u64 ((64 : Int) - ((Lib.bitLen (Int.toNat y)) : Int)))) (64))) |||
                                      BitVec.ofInt (64) (Int.fdiv lo ((2 : Int) ^ min (Int.toNat (IntKind.wrap IntKind.u64 ((64 : Int) - IntKind.wrap IntKind.u64 ((64 : Int) - ((Lib.bitLen (Int.toNat y)) : Int))))) (64))))) : Int)),
                            AV.junk,
                            AV.int IntKind.u64 false (Int.fdiv (IntKind.wrap IntKind.u64 (lo * (2 : Int) ^ min (Int.toNat (IntKind.wrap IntKind.u64 ((64 : Int) - ((Lib.bitLen (Int.toNat y)) : Int)))) (64))) (4294967296 : Int)),
                            AV.int IntKind.u64 false
                              (IntKind.wrap IntKind.u64
                                ((BitVec.toNat
                                    (BitVec.ofInt (64) (IntKind.wrap IntKind.u64 (lo * (2 : Int) ^ min (Int.toNat (IntKind.wrap IntKind.u64 ((64 : Int) - ((Lib.bitLen (Int.toNat y)) : Int)))) (64))) &&&
                                      BitVec.ofInt (64) (4294967295 : Int))) : Int)),
                            AV.int IntKind.u64 false
                              (IntKind.wrap IntKind.u64
                                (Int.tdiv
                                  (IntKind.wrap IntKind.u64
                                    ((BitVec.toNat
                                        (BitVec.ofInt (64) (IntKind.wrap IntKind.u64 (hi * (2 : Int) ^ min (Int.toNat (IntKind.wrap IntKind.u64 ((64 : Int) - ((Lib.bitLen (Int.toNat y)) : Int)))) (64))) |||
                                          BitVec.ofInt (64)
                                            (Int.fdiv lo ((2 : Int) ^ min (Int.toNat (IntKind.wrap IntKind.u64 ((64 : Int) - IntKind.wrap IntKind.u64 ((64 : Int) - ((Lib.bitLen (Int.toNat y)) : Int))))) (64))))) : Int))
                                  (Int.fdiv (IntKind.wrap IntKind.u64 (y * (2 : Int) ^ min (Int.toNat (IntKind.wrap IntKind.u64 ((64 : Int) - ((Lib.bitLen (Int.toNat y)) : Int)))) (64))) (4294967296 : Int)))),
                            AV.int IntKind.u64 false
                              (IntKind.wrap IntKind.u64
                                (IntKind.wrap IntKind.u64
                                    ((BitVec.toNat
                                        (BitVec.ofInt (64) (IntKind.wrap IntKind.u64 (hi * (2 : Int) ^ min (Int.toNat (IntKind.wrap IntKind.u64 ((64 : Int) - ((Lib.bitLen (Int.toNat y)) : Int)))) (64))) |||
                                          BitVec.ofInt (64)
                                            (Int.fdiv lo ((2 : Int) ^ min (Int.toNat (IntKind.wrap IntKind.u64 ((64 : Int) - IntKind.wrap IntKind.u64 ((64 : Int) - ((Lib.bitLen (Int.toNat y)) : Int))))) (64))))) : Int) -
                                  IntKind.wrap IntKind.u64
                                    (IntKind.wrap IntKind.u64
                                        (Int.tdiv
                                          (IntKind.wrap IntKind.u64
                                            ((BitVec.toNat
                                                (BitVec.ofInt (64) (IntKind.wrap IntKind.u64 (hi * (2 : Int) ^ min (Int.toNat (IntKind.wrap IntKind.u64 ((64 : Int) - ((Lib.bitLen (Int.toNat y)) : Int)))) (64))) |||
                                                  BitVec.ofInt (64)
                                                    (Int.fdiv lo ((2 : Int) ^ min (Int.toNat (IntKind.wrap IntKind.u64 ((64 : Int) - IntKind.wrap IntKind.u64 ((64 : Int) - ((Lib.bitLen (Int.toNat y)) : Int))))) (64))))) : Int))
                                          (Int.fdiv (IntKind.wrap IntKind.u64 (y * (2 : Int) ^ min (Int.toNat (IntKind.wrap IntKind.u64 ((64 : Int) - ((Lib.bitLen (Int.toNat y)) : Int)))) (64))) (4294967296 : Int))) *
                                      Int.fdiv (IntKind.wrap IntKind.u64 (y * (2 : Int) ^ min (Int.toNat (IntKind.wrap IntKind.u64 ((64 : Int) - ((Lib.bitLen (Int.toNat y)) : Int)))) (64))) (4294967296 : Int)))),
                            AV.junk, AV.junk, AV.junk, AV.junk, AV.junk, AV.junk, AV.junk, AV.junk, AV.junk, AV.junk, AV.junk, AV.junk, AV.junk, AV.junk, AV.junk, AV.junk, AV.junk, AV.junk, AV.junk, AV.junk, AV.junk, AV.junk, AV.junk,
                            AV.junk, AV.junk, AV.junk, AV.junk, AV.junk, AV.junk, AV.junk, AV.junk, AV.junk, AV.junk, AV.junk, AV.junk, AV.junk, AV.junk, AV.junk, AV.junk, AV.junk, AV.junk, AV.junk, AV.junk, AV.junk, AV.junk, AV.junk,
                            AV.junk, AV.junk, AV.junk, AV.junk, AV.junk, AV.junk, AV.junk, AV.junk, AV.junk, AV.junk, AV.junk, AV.junk, AV.junk, AV.junk, AV.junk, AV.junk, AV.junk, AV.junk, AV.junk, AV.junk, AV.junk, AV.junk, AV.junk,
                            AV.junk, AV.junk, AV.junk, AV.junk, AV.junk, AV.junk, AV.junk, AV.junk, AV.junk, AV.junk, AV.junk, AV.junk, AV.junk, AV.junk, AV.junk, AV.junk, AV.junk, AV.junk, AV.junk, AV.junk, AV.junk, AV.junk, AV.junk,
                            AV.junk, AV.junk, AV.junk, AV.junk, AV.junk, AV.junk, AV.junk, AV.junk, AV.junk, AV.junk, AV.junk, AV.junk, AV.junk, AV.junk, AV.junk, AV.junk, AV.junk, AV.junk, AV.junk, AV.junk, AV.junk, AV.junk, AV.junk,
                            AV.junk, AV.junk, AV.junk]
                          [])
                        (St.mk
                          [AV.junk, AV.junk, AV.int IntKind.u64 false (IntKind.wrap IntKind.u64 (y * (2 : Int) ^ min (Int.toNat (IntKind.wrap IntKind.u64 ((64 : Int) - ((Lib.bitLen (Int.toNat y)) : Int)))) (64))), AV.junk, AV.junk,
                            AV.junk, AV.junk, AV.junk, AV.int IntKind.u64 false (IntKind.wrap IntKind.u64 ((64 : Int) - ((Lib.bitLen (Int.toNat y)) : Int))),
                            AV.int IntKind.u64 false (Int.fdiv (IntKind.wrap IntKind.u64 (y * (2 : Int) ^ min (Int.toNat (IntKind.wrap IntKind.u64 ((64 : Int) - ((Lib.bitLen (Int.toNat y)) : Int)))) (64))) (4294967296 : Int)),
                            AV.int IntKind.u64 false
                              (IntKind.wrap IntKind.u64
                                ((BitVec.toNat
                                    (BitVec.ofInt (64) (IntKind.wrap IntKind.u64 (y * (2 : Int) ^ min (Int.toNat (IntKind.wrap IntKind.u64 ((64 : Int) - ((Lib.bitLen (Int.toNat y)) : Int)))) (64))) &&&
                                      BitVec.ofInt (64) (4294967295 : Int))) : Int)),
                            AV.int IntKind.u64 false
                              (IntKind.wrap IntKind.u64
                                ((BitVec.toNat
                                    (BitVec.ofInt (64) (IntKind.wrap IntKind.u64 (hi * (2 : Int) ^ min (Int.toNat (IntKind.wrap IntKind.u64 ((64 : Int) - ((Lib.bitLen (Int.toNat y)) : Int)))) (64))) |||
                                      BitVec.ofInt (64) (Int.fdiv lo ((2 : Int) ^ min (Int.toNat (IntKind.wrap IntKind.u64 ((64 : Int) - IntKind.wrap IntKind.u64 ((64 : Int) - ((Lib.bitLen (Int.toNat y)) : Int))))) (64))))) : Int)),
                            AV.junk,
                            AV.int IntKind.u64 false (Int.fdiv (IntKind.wrap IntKind.u64 (lo * (2 : Int) ^ min (Int.toNat (IntKind.wrap IntKind.u64 ((64 : Int) - ((Lib.bitLen (Int.toNat y)) : Int)))) (64))) (4294967296 : Int)),
                            AV.int IntKind.u64 false
                              (IntKind.wrap IntKind.u64
                                ((BitVec.toNat
                                    (BitVec.ofInt (64) (IntKind.wrap IntKind.u64 (lo * (2 : Int) ^ min (Int.toNat (IntKind.wrap IntKind.u64 ((64 : Int) - ((Lib.bitLen (Int.toNat y)) : Int)))) (64))) &&&
                                      BitVec.ofInt (64) (4294967295 : Int))) : Int)),
                            AV.int IntKind.u64 false
                              (IntKind.wrap IntKind.u64
                                (Int.tdiv
                                  (IntKind.wrap IntKind.u64
                                    ((BitVec.toNat
                                        (BitVec.ofInt (64) (IntKind.wrap IntKind.u64 (hi * (2 : Int) ^ min (Int.toNat (IntKind.wrap IntKind.u64 ((64 : Int) - ((Lib.bitLen (Int.toNat y)) : Int)))) (64))) |||
                                          BitVec.ofInt (64)
                                            (Int.fdiv lo ((2 : Int) ^ min (Int.toNat (IntKind.wrap IntKind.u64 ((64 : Int) - IntKind.wrap IntKind.u64 ((64 : Int) - ((Lib.bitLen (Int.toNat y)) : Int))))) (64))))) : Int))
                                  (Int.fdiv (IntKind.wrap IntKind.u64 (y * (2 : Int) ^ min (Int.toNat (IntKind.wrap IntKind.u64 ((64 : Int) - ((Lib.bitLen (Int.toNat y)) : Int)))) (64))) (4294967296 : Int)))),
                            AV.int IntKind.u64 false
                              (IntKind.wrap IntKind.u64
                                (IntKind.wrap IntKind.u64
                                    ((BitVec.toNat
                                        (BitVec.ofInt (64) (IntKind.wrap IntKind.u64 (hi * (2 : Int) ^ min (Int.toNat (IntKind.wrap IntKind.u64 ((64 : Int) - ((Lib.bitLen (Int.toNat y)) : Int)))) (64))) |||
                                          BitVec.ofInt (64)
                                            (Int.fdiv lo ((2 : Int) ^ min (Int.toNat (IntKind.wrap IntKind.u64 ((64 : Int) - IntKind.wrap IntKind.u64 ((64 : Int) - ((Lib.bitLen (Int.toNat y)) : Int))))) (64))))) : Int) -
                                  IntKind.wrap IntKind.u64
                                    (IntKind.wrap IntKind.u64
                                        (Int.tdiv
                                          (IntKind.wrap IntKind.u64
                                            ((BitVec.toNat
                                                (BitVec.ofInt (64) (IntKind.wrap IntKind.u64 (hi * (2 : Int) ^ min (Int.toNat (IntKind.wrap IntKind.u64 ((64 : Int) - ((Lib.bitLen (Int.toNat y)) : Int)))) (64))) |||
                                                  BitVec.ofInt (64)
                                                    (Int.fdiv lo ((2 : Int) ^ min (Int.toNat (IntKind.wrap IntKind.u64 ((64 : Int) - IntKind.wrap IntKind.u64 ((64 : Int) - ((Lib.bitLen (Int.toNat y)) : Int))))) (64))))) : Int))
                                          (Int.fdiv (IntKind.wrap IntKind.u64 (y * (2 : Int) ^ min (Int.toNat (IntKind.wrap IntKind.u64 ((64 : Int) - ((Lib.bitLen (Int.toNat y)) : Int)))) (64))) (4294967296 : Int))) *
                                      Int.fdiv (IntKind.wrap IntKind.u64 (y * (2 : Int) ^ min (Int.toNat (IntKind.wrap IntKind.u64 ((64 : Int) - ((Lib.bitLen (Int.toNat y)) : Int)))) (64))) (4294967296 : Int)))),
                            AV.junk, AV.junk, AV.junk, AV.junk, AV.junk, AV.junk, AV.junk, AV.junk, AV.junk, AV.junk, AV.junk, AV.junk, AV.junk, AV.junk, AV.junk, AV.junk, AV.junk, AV.junk, AV.junk, AV.junk, AV.junk, AV.junk, AV.junk,
                            AV.junk, AV.junk, AV.junk, AV.junk, AV.junk, AV.junk, AV.junk, AV.junk, AV.junk, AV.junk, AV.junk, AV.junk, AV.junk, AV.junk, AV.junk, AV.junk, AV.junk, AV.junk, AV.junk, AV.junk, AV.junk, AV.junk, AV.junk,
                            AV.junk, AV.junk, AV.junk, AV.junk, AV.junk, AV.junk, AV.junk, AV.junk, AV.junk, AV.junk, AV.junk, AV.junk, AV.junk, AV.junk, AV.junk, AV.junk, AV.junk, AV.junk, AV.junk, AV.junk, AV.junk, AV.junk, AV.junk,
                            AV.junk, AV.junk, AV.junk, AV.junk, AV.junk, AV.junk, AV.junk, AV.junk, AV.junk, AV.junk, AV.junk, AV.junk, AV.junk, AV.junk, AV.junk, AV.junk, AV.junk, AV.junk, AV.junk, AV.junk, AV.junk, AV.junk, AV.junk,
                            AV.junk, AV.junk, AV.junk, AV.junk, AV.junk, AV.junk, AV.junk, AV.junk, AV.junk, AV.junk, AV.junk, AV.junk, AV.junk, AV.junk, AV.junk, AV.junk, AV.junk, AV.junk, AV.junk, AV.junk, AV.junk, AV.junk, AV.junk,
                            AV.junk, AV.junk, AV.junk]
                          []))
                      (Tree.chk
                        (okdiv64_0
                          (Xdiv64_0.mk (IntKind.wrap IntKind.u64 (y * (2 : Int) ^ min (Int.toNat (IntKind.wrap IntKind.u64 ((64 : Int) - ((Lib.bitLen (Int.toNat y)) : Int)))) (64)))
                            (IntKind.wrap IntKind.u64 ((64 : Int) - ((Lib.bitLen (Int.toNat y)) : Int)))
                            (Int.fdiv (IntKind.wrap IntKind.u64 (y * (2 : Int) ^ min (Int.toNat (IntKind.wrap IntKind.u64 ((64 : Int) - ((Lib.bitLen (Int.toNat y)) : Int)))) (64))) (4294967296 : Int))
                            (IntKind.wrap IntKind.u64
                              ((BitVec.toNat
                                  (BitVec.ofInt (64) (IntKind.wrap IntKind.u64 (y * (2 : Int) ^ min (Int.toNat (IntKind.wrap IntKind.u64 ((64 : Int) - ((Lib.bitLen (Int.toNat y)) : Int)))) (64))) &&&
                                    BitVec.ofInt (64) (4294967295 : Int))) : Int))
                            (IntKind.wrap IntKind.u64
                              ((BitVec.toNat
                                  (BitVec.ofInt (64) (IntKind.wrap IntKind.u64 (hi * (2 : Int) ^ min (Int.toNat (IntKind.wrap IntKind.u64 ((64 : Int) - ((Lib.bitLen (Int.toNat y)) : Int)))) (64))) |||
                                    BitVec.ofInt (64) (Int.fdiv lo ((2 : Int) ^ min (Int.toNat (IntKind.wrap IntKind.u64 ((64 : Int) - IntKind.wrap IntKind.u64 ((64 : Int) - ((Lib.bitLen (Int.toNat y)) : Int))))) (64))))) : Int))
                            (Int.fdiv (IntKind.wrap IntKind.u64 (lo * (2 : Int) ^ min (Int.toNat (IntKind.wrap IntKind.u64 ((64 : Int) - ((Lib.bitLen (Int.toNat y)) : Int)))) (64))) (4294967296 : Int))
                            (IntKind.wrap IntKind.u64
                              ((BitVec.toNat
                                  (BitVec.ofInt (64) (IntKind.wrap IntKind.u64 (lo * (2 : Int) ^ min (Int.toNat (IntKind.wrap IntKind.u64 ((64 : Int) - ((Lib.bitLen (Int.toNat y)) : Int)))) (64))) &&&
                                    BitVec.ofInt (64) (4294967295 : Int))) : Int))
                            (IntKind.wrap IntKind.u64
                              (Int.tdiv
                                (IntKind.wrap IntKind.u64
                                  ((BitVec.toNat
                                      (BitVec.ofInt (64) (IntKind.wrap IntKind.u64 (hi * (2 : Int) ^ min (Int.toNat (IntKind.wrap IntKind.u64 ((64 : Int) - ((Lib.bitLen (Int.toNat y)) : Int)))) (64))) |||
                                        BitVec.ofInt (64) (Int.fdiv lo ((2 : Int) ^ min (Int.toNat (IntKind.wrap IntKind.u64 ((64 : Int) - IntKind.wrap IntKind.u64 ((64 : Int) - ((Lib.bitLen (Int.toNat y)) : Int))))) (64))))) : Int))
                                (Int.fdiv (IntKind.wrap IntKind.u64 (y * (2 : Int) ^ min (Int.toNat (IntKind.wrap IntKind.u64 ((64 : Int) - ((Lib.bitLen (Int.toNat y)) : Int)))) (64))) (4294967296 : Int))))
                            (IntKind.wrap IntKind.u64
                              (IntKind.wrap IntKind.u64
                                  ((BitVec.toNat
                                      (BitVec.ofInt (64) (IntKind.wrap IntKind.u64 (hi * (2 : Int) ^ min (Int.toNat (IntKind.wrap IntKind.u64 ((64 : Int) - ((Lib.bitLen (Int.toNat y)) : Int)))) (64))) |||
                                        BitVec.ofInt (64) (Int.fdiv lo ((2 : Int) ^ min (Int.toNat (IntKind.wrap IntKind.u64 ((64 : Int) - IntKind.wrap IntKind.u64 ((64 : Int) - ((Lib.bitLen (Int.toNat y)) : Int))))) (64))))) : Int) -
                                IntKind.wrap IntKind.u64
                                  (IntKind.wrap IntKind.u64
                                      (Int.tdiv
                                        (IntKind.wrap IntKind.u64
                                          ((BitVec.toNat
                                              (BitVec.ofInt (64) (IntKind.wrap IntKind.u64 (hi * (2 : Int) ^ min (Int.toNat (IntKind.wrap IntKind.u64 ((64 : Int) - ((Lib.bitLen (Int.toNat y)) : Int)))) (64))) |||
                                                BitVec.ofInt (64)
                                                  (Int.fdiv lo ((2 : Int) ^ min (Int.toNat (IntKind.wrap IntKind.u64 ((64 : Int) - IntKind.wrap IntKind.u64 ((64 : Int) - ((Lib.bitLen (Int.toNat y)) : Int))))) (64))))) : Int))
                                        (Int.fdiv (IntKind.wrap IntKind.u64 (y * (2 : Int) ^ min (Int.toNat (IntKind.wrap IntKind.u64 ((64 : Int) - ((Lib.bitLen (Int.toNat y)) : Int)))) (64))) (4294967296 : Int))) *
                                    Int.fdiv (IntKind.wrap IntKind.u64 (y * (2 : Int) ^ min (Int.toNat (IntKind.wrap IntKind.u64 ((64 : Int) - ((Lib.bitLen (Int.toNat y)) : Int)))) (64))) (4294967296 : Int))))))
                        (Tree.br (!decide (Int.fdiv (IntKind.wrap IntKind.u64 (y * (2 : Int) ^ min (Int.toNat (IntKind.wrap IntKind.u64 ((64 : Int) - ((Lib.bitLen (Int.toNat y)) : Int)))) (64))) (4294967296 : Int) = (0 : Int)))
                          (Tree.chk
                            (St.le
                              (St.mk
                                [AV.junk, AV.junk, AV.int IntKind.u64 false (IntKind.wrap IntKind.u64 (y * (2 : Int) ^ min (Int.toNat (IntKind.wrap IntKind.u64 ((64 : Int) - ((Lib.bitLen (Int.toNat y)) : Int)))) (64))), AV.junk,
                                  AV.junk, AV.junk, AV.junk, AV.junk, AV.int IntKind.u64 false (IntKind.wrap IntKind.u64 ((64 : Int) - ((Lib.bitLen (Int.toNat y)) : Int))),
                                  AV.int IntKind.u64 false (Int.fdiv (IntKind.wrap IntKind.u64 (y * (2 : Int) ^ min (Int.toNat (IntKind.wrap IntKind.u64 ((64 : Int) - ((Lib.bitLen (Int.toNat y)) : Int)))) (64))) (4294967296 : Int)),
                                  AV.int IntKind.u64 false
                                    (IntKind.wrap IntKind.u64
                                      ((BitVec.toNat
                                          (BitVec.ofInt (64) (IntKind.wrap IntKind.u64 (y * (2 : Int) ^ min (Int.toNat (IntKind.wrap IntKind.u64 ((64 : Int) - ((Lib.bitLen (Int.toNat y)) : Int)))) (64))) &&&
                                            BitVec.ofInt (64) (4294967295 : Int))) : Int)),
                                  AV.junk, AV.junk, AV.junk,
                                  AV.int IntKind.u64 false
                                    (IntKind.wrap IntKind.u64
                                      ((BitVec.toNat
                                          (BitVec.ofInt (64) (IntKind.wrap IntKind.u64 (lo * (2 : Int) ^ min (Int.toNat (IntKind.wrap IntKind.u64 ((64 : Int) - ((Lib.bitLen (Int.toNat y)) : Int)))) (64))) &&&
                                            BitVec.ofInt (64) (4294967295 : Int))) : Int)),
                                  AV.int IntKind.u64 false
                                    (dvQ
                                      (IntKind.wrap IntKind.u64
                                        ((BitVec.toNat
                                            (BitVec.ofInt (64) (IntKind.wrap IntKind.u64 (hi * (2 : Int) ^ min (Int.toNat (IntKind.wrap IntKind.u64 ((64 : Int) - ((Lib.bitLen (Int.toNat y)) : Int)))) (64))) |||
                                              BitVec.ofInt (64)
                                                (Int.fdiv lo ((2 : Int) ^ min (Int.toNat (IntKind.wrap IntKind.u64 ((64 : Int) - IntKind.wrap IntKind.u64 ((64 : Int) - ((Lib.bitLen (Int.toNat y)) : Int))))) (64))))) : Int))
                                      (Int.fdiv (IntKind.wrap IntKind.u64 (lo * (2 : Int) ^ min (Int.toNat (IntKind.wrap IntKind.u64 ((64 : Int) - ((Lib.bitLen (Int.toNat y)) : Int)))) (64))) (4294967296 : Int))
                                      (IntKind.wrap IntKind.u64 (y * (2 : Int) ^ min (Int.toNat (IntKind.wrap IntKind.u64 ((64 : Int) - ((Lib.bitLen (Int.toNat y)) : Int)))) (64)))),
                                  AV.int IntKind.u64 false
                                    (IntKind.wrap IntKind.u64
                                      (IntKind.wrap IntKind.u64
                                          (IntKind.wrap IntKind.u64
                                              (IntKind.wrap IntKind.u64
                                                  (IntKind.wrap IntKind.u64
                                                      ((BitVec.toNat
                                                          (BitVec.ofInt (64) (IntKind.wrap IntKind.u64 (hi * (2 : Int) ^ min (Int.toNat (IntKind.wrap IntKind.u64 ((64 : Int) - ((Lib.bitLen (Int.toNat y)) : Int)))) (64))) |||
                                                            BitVec.ofInt (64)
                                                              (Int.fdiv lo ((2 : Int) ^ min (Int.toNat (IntKind.wrap IntKind.u64 ((64 : Int) - IntKind.wrap IntKind.u64 ((64 : Int) - ((Lib.bitLen (Int.toNat y)) : Int))))) (64))))) : Int) *
                                                    (4294967296 : Int)) +
                                                Int.fdiv (IntKind.wrap IntKind.u64 (lo * (2 : Int) ^ min (Int.toNat (IntKind.wrap IntKind.u64 ((64 : Int) - ((Lib.bitLen (Int.toNat y)) : Int)))) (64))) (4294967296 : Int)) -
                                            IntKind.wrap IntKind.u64
                                              (dvQ
                                                  (IntKind.wrap IntKind.u64
                                                    ((BitVec.toNat
                                                        (BitVec.ofInt (64) (IntKind.wrap IntKind.u64 (hi * (2 : Int) ^ min (Int.toNat (IntKind.wrap IntKind.u64 ((64 : Int) - ((Lib.bitLen (Int.toNat y)) : Int)))) (64))) |||
                                                          BitVec.ofInt (64)
                                                            (Int.fdiv lo ((2 : Int) ^ min (Int.toNat (IntKind.wrap IntKind.u64 ((64 : Int) - IntKind.wrap IntKind.u64 ((64 : Int) - ((Lib.bitLen (Int.toNat y)) : Int))))) (64))))) : Int))
                                                  (Int.fdiv (IntKind.wrap IntKind.u64 (lo * (2 : Int) ^ min (Int.toNat (IntKind.wrap IntKind.u64 ((64 : Int) - ((Lib.bitLen (Int.toNat y)) : Int)))) (64))) (4294967296 : Int))
                                                  (IntKind.wrap IntKind.u64 (y * (2 : Int) ^ min (Int.toNat (IntKind.wrap IntKind.u64 ((64 : Int) - ((Lib.bitLen (Int.toNat y)) : Int)))) (64))) *
                                                IntKind.wrap IntKind.u64 (y * (2 : Int) ^ min (Int.toNat (IntKind.wrap IntKind.u64 ((64 : Int) - ((Lib.bitLen (Int.toNat y)) : Int)))) (64)))) -
                                        IntKind.wrap IntKind.u64
                                          (IntKind.wrap IntKind.u64
                                              (Int.tdiv
                                                (IntKind.wrap IntKind.u64
                                                  (IntKind.wrap IntKind.u64
                                                      (IntKind.wrap IntKind.u64
                                                          (IntKind.wrap IntKind.u64
                                                              ((BitVec.toNat
                                                                  (BitVec.ofInt (64)
                                                                      (IntKind.wrap IntKind.u64 (hi * (2 : Int) ^ min (Int.toNat (IntKind.wrap IntKind.u64 ((64 : Int) - ((Lib.bitLen (Int.toNat y)) : Int)))) (64))) |||
                                                                    BitVec.ofInt (64)
                                                                      (Int.fdiv lo
                                                                        ((2 : Int) ^ min (Int.toNat (IntKind.wrap IntKind.u64 ((64 : Int) - IntKind.wrap IntKind.u64 ((64 : Int) - ((Lib.bitLen (Int.toNat y)) : Int))))) (64))))) : Int) *
                                                            (4294967296 : Int)) +
                                                        Int.fdiv (IntKind.wrap IntKind.u64 (lo * (2 : Int) ^ min (Int.toNat (IntKind.wrap IntKind.u64 ((64 : Int) - ((Lib.bitLen (Int.toNat y)) : Int)))) (64))) (4294967296 : Int)) -
                                                    IntKind.wrap IntKind.u64
                                                      (dvQ
                                                          (IntKind.wrap IntKind.u64
                                                            ((BitVec.toNat
                                                                (BitVec.ofInt (64)
                                                                    (IntKind.wrap IntKind.u64 (hi * (2 : Int) ^ min (Int.toNat (IntKind.wrap IntKind.u64 ((64 : Int) - ((Lib.bitLen (Int.toNat y)) : Int)))) (64))) |||
                                                                  BitVec.ofInt (64)
                                                                    (Int.fdiv lo
                                                                      ((2 : Int) ^ min (Int.toNat (IntKind.wrap IntKind.u64 ((64 : Int) - IntKind.wrap IntKind.u64 ((64 : Int) - ((Lib.bitLen (Int.toNat y)) : Int))))) (64))))) : Int))
                                                          (Int.fdiv (IntKind.wrap IntKind.u64 (lo * (2 : Int) ^ min (Int.toNat (IntKind.wrap IntKind.u64 ((64 : Int) - ((Lib.bitLen (Int.toNat y)) : Int)))) (64))) (4294967296 : Int))
                                                          (IntKind.wrap IntKind.u64 (y * (2 : Int) ^ min (Int.toNat (IntKind.wrap IntKind.u64 ((64 : Int) - ((Lib.bitLen (Int.toNat y)) : Int)))) (64))) *
                                                        IntKind.wrap IntKind.u64 (y * (2 : Int) ^ min (Int.toNat (IntKind.wrap IntKind.u64 ((64 : Int) - ((Lib.bitLen (Int.toNat y)) : Int)))) (64)))))
                                                (Int.fdiv (IntKind.wrap IntKind.u64 (y * (2 : Int) ^ min (Int.toNat (IntKind.wrap IntKind.u64 ((64 : Int) - ((Lib.bitLen (Int.toNat y)) : Int)))) (64))) (4294967296 : Int))) *
                                            Int.fdiv (IntKind.wrap IntKind.u64 (y * (2 : Int) ^ min (Int.toNat (IntKind.wrap IntKind.u64 ((64 : Int) - ((Lib.bitLen (Int.toNat y)) : Int)))) (64))) (4294967296 : Int)))),
                                  AV.int IntKind.u64 false
                                    (IntKind.wrap IntKind.u64
                                      (IntKind.wrap IntKind.u64
                                          (IntKind.wrap IntKind.u64
                                              (IntKind.wrap IntKind.u64
                                                  ((BitVec.toNat
                                                      (BitVec.ofInt (64) (IntKind.wrap IntKind.u64 (hi * (2 : Int) ^ min (Int.toNat (IntKind.wrap IntKind.u64 ((64 : Int) - ((Lib.bitLen (Int.toNat y)) : Int)))) (64))) |||
                                                        BitVec.ofInt (64)
                                                          (Int.fdiv lo ((2 : Int) ^ min (Int.toNat (IntKind.wrap IntKind.u64 ((64 : Int) - IntKind.wrap IntKind.u64 ((64 : Int) - ((Lib.bitLen (Int.toNat y)) : Int))))) (64))))) : Int) *
                                                (4294967296 : Int)) +
                                            Int.fdiv (IntKind.wrap IntKind.u64 (lo * (2 : Int) ^ min (Int.toNat (IntKind.wrap IntKind.u64 ((64 : Int) - ((Lib.bitLen (Int.toNat y)) : Int)))) (64))) (4294967296 : Int)) -
                                        IntKind.wrap IntKind.u64
                                          (dvQ
                                              (IntKind.wrap IntKind.u64
                                                ((BitVec.toNat
                                                    (BitVec.ofInt (64) (IntKind.wrap IntKind.u64 (hi * (2 : Int) ^ min (Int.toNat (IntKind.wrap IntKind.u64 ((64 : Int) - ((Lib.bitLen (Int.toNat y)) : Int)))) (64))) |||
                                                      BitVec.ofInt (64)
                                                        (Int.fdiv lo ((2 : Int) ^ min (Int.toNat (IntKind.wrap IntKind.u64 ((64 : Int) - IntKind.wrap IntKind.u64 ((64 : Int) - ((Lib.bitLen (Int.toNat y)) : Int))))) (64))))) : Int))
                                              (Int.fdiv (IntKind.wrap IntKind.u64 (lo * (2 : Int) ^ min (Int.toNat (IntKind.wrap IntKind.u64 ((64 : Int) - ((Lib.bitLen (Int.toNat y)) : Int)))) (64))) (4294967296 : Int))
                                              (IntKind.wrap IntKind.u64 (y * (2 : Int) ^ min (Int.toNat (IntKind.wrap IntKind.u64 ((64 : Int) - ((Lib.bitLen (Int.toNat y)) : Int)))) (64))) *
                                            IntKind.wrap IntKind.u64 (y * (2 : Int) ^ min (Int.toNat (IntKind.wrap IntKind.u64 ((64 : Int) - ((Lib.bitLen (Int.toNat y)) : Int)))) (64))))),
                                  AV.int IntKind.u64 false
                                    (IntKind.wrap IntKind.u64
                                      (Int.tdiv
                                        (IntKind.wrap IntKind.u64
                                          (IntKind.wrap IntKind.u64
                                              (IntKind.wrap IntKind.u64
                                                  (IntKind.wrap IntKind.u64
                                                      ((BitVec.toNat
                                                          (BitVec.ofInt (64) (IntKind.wrap IntKind.u64 (hi * (2 : Int) ^ min (Int.toNat (IntKind.wrap IntKind.u64 ((64 : Int) - ((Lib.bitLen (Int.toNat y)) : Int)))) (64))) |||
                                                            BitVec.ofInt (64)
                                                              (Int.fdiv lo ((2 : Int) ^ min (Int.toNat (IntKind.wrap IntKind.u64 ((64 : Int) - IntKind.wrap IntKind.u64 ((64 : Int) - ((Lib.bitLen (Int.toNat y)) : Int))))) (64))))) : Int) *
                                                    (4294967296 : Int)) +
                                                Int.fdiv (IntKind.wrap IntKind.u64 (lo * (2 : Int) ^ min (Int.toNat (IntKind.wrap IntKind.u64 ((64 : Int) - ((Lib.bitLen (Int.toNat y)) : Int)))) (64))) (4294967296 : Int)) -
                                            IntKind.wrap IntKind.u64
                                              (dvQ
                                                  (IntKind.wrap IntKind.u64
                                                    ((BitVec.toNat
                                                        (BitVec.ofInt (64) (IntKind.wrap IntKind.u64 (hi * (2 : Int) ^ min (Int.toNat (IntKind.wrap IntKind.u64 ((64 : Int) - ((Lib.bitLen (Int.toNat y)) : Int)))) (64))) |||
                                                          BitVec.ofInt (64)
                                                            (Int.fdiv lo ((2 : Int) ^ min (Int.toNat (IntKind.wrap IntKind.u64 ((64 : Int) - IntKind.wrap IntKind.u64 ((64 : Int) - ((Lib.bitLen (Int.toNat y)) : Int))))) (64))))) : Int))
                                                  (Int.fdiv (IntKind.wrap IntKind.u64 (lo * (2 : Int) ^ min (Int.toNat (IntKind.wrap IntKind.u64 ((64 : Int) - ((Lib.bitLen (Int.toNat y)) : Int)))) (64))) (4294967296 : Int))
                                                  (IntKind.wrap IntKind.u64 (y * (2 : Int) ^ min (Int.toNat (IntKind.wrap IntKind.u64 ((64 : Int) - ((Lib.bitLen (Int.toNat y)) : Int)))) (64))) *
                                                IntKind.wrap IntKind.u64 (y * (2 : Int) ^ min (Int.toNat (IntKind.wrap IntKind.u64 ((64 : Int) - ((Lib.bitLen (Int.toNat y)) : Int)))) (64)))))
                                        (Int.fdiv (IntKind.wrap IntKind.u64 (y * (2 : Int) ^ min (Int.toNat (IntKind.wrap IntKind.u64 ((64 : Int) - ((Lib.bitLen (Int.toNat y)) : Int)))) (64))) (4294967296 : Int)))),
                                  AV.junk, AV.junk, AV.junk, AV.junk, AV.junk, AV.junk, AV.junk, AV.junk, AV.junk, AV.junk, AV.junk, AV.junk, AV.junk, AV.junk, AV.junk, AV.junk, AV.junk, AV.junk, AV.junk, AV.junk, AV.junk, AV.junk, AV.junk,
                                  AV.junk, AV.junk, AV.junk, AV.junk, AV.junk, AV.junk, AV.junk, AV.junk, AV.junk, AV.junk, AV.junk, AV.junk, AV.junk, AV.junk, AV.junk, AV.junk, AV.junk, AV.junk, AV.junk, AV.junk, AV.junk, AV.junk, AV.junk,
                                  AV.junk, AV.junk, AV.junk, AV.junk, AV.junk, AV.junk, AV.junk, AV.junk, AV.junk, AV.junk, AV.junk, AV.junk, AV.junk, AV.junk, AV.junk, AV.junk, AV.junk, AV.junk, AV.junk, AV.junk, AV.junk, AV.junk, AV.junk,
                                  AV.junk, AV.junk, AV.junk, AV.junk, AV.junk, AV.junk, AV.junk, AV.junk, AV.junk, AV.junk, AV.junk, AV.junk, AV.junk, AV.junk, AV.junk, AV.junk, AV.junk, AV.junk, AV.junk, AV.junk, AV.junk, AV.junk, AV.junk,
                                  AV.junk, AV.junk, AV.junk, AV.junk, AV.junk, AV.junk, AV.junk, AV.junk, AV.junk, AV.junk, AV.junk, AV.junk, AV.junk, AV.junk, AV.junk, AV.junk, AV.junk, AV.junk, AV.junk, AV.junk, AV.junk, AV.junk, AV.junk,
                                  AV.junk]
                                [])
                              (St.mk
                                [AV.junk, AV.junk, AV.int IntKind.u64 false (IntKind.wrap IntKind.u64 (y * (2 : Int) ^ min (Int.toNat (IntKind.wrap IntKind.u64 ((64 : Int) - ((Lib.bitLen (Int.toNat y)) : Int)))) (64))), AV.junk,
                                  AV.junk, AV.junk, AV.junk, AV.junk, AV.int IntKind.u64 false (IntKind.wrap IntKind.u64 ((64 : Int) - ((Lib.bitLen (Int.toNat y)) : Int))),
                                  AV.int IntKind.u64 false (Int.fdiv (IntKind.wrap IntKind.u64 (y * (2 : Int) ^ min (Int.toNat (IntKind.wrap IntKind.u64 ((64 : Int) - ((Lib.bitLen (Int.toNat y)) : Int)))) (64))) (4294967296 : Int)),
                                  AV.int IntKind.u64 false
                                    (IntKind.wrap IntKind.u64
                                      ((BitVec.toNat
                                          (BitVec.ofInt (64) (IntKind.wrap IntKind.u64 (y * (2 : Int) ^ min (Int.toNat (IntKind.wrap IntKind.u64 ((64 : Int) - ((Lib.bitLen (Int.toNat y)) : Int)))) (64))) &&&
                                            BitVec.ofInt (64) (4294967295 : Int))) : Int)),
                                  AV.junk, AV.junk, AV.junk,
                                  AV.int IntKind.u64 false
                                    (IntKind.wrap IntKind.u64
                                      ((BitVec.toNat
                                          (BitVec.ofInt (64) (IntKind.wrap IntKind.u64 (lo * (2 : Int) ^ min (Int.toNat (IntKind.wrap IntKind.u64 ((64 : Int) - ((Lib.bitLen (Int.toNat y)) : Int)))) (64))) &&&
                                            BitVec.ofInt (64) (4294967295 : Int))) : Int)),
                                  AV.int IntKind.u64 false
                                    (dvQ
                                      (IntKind.wrap IntKind.u64
                                        ((BitVec.toNat
                                            (BitVec.ofInt (64) (IntKind.wrap IntKind.u64 (hi * (2 : Int) ^ min (Int.toNat (IntKind.wrap IntKind.u64 ((64 : Int) - ((Lib.bitLen (Int.toNat y)) : Int)))) (64))) |||
                                              BitVec.ofInt (64)
                                                (Int.fdiv lo ((2 : Int) ^ min (Int.toNat (IntKind.wrap IntKind.u64 ((64 : Int) - IntKind.wrap IntKind.u64 ((64 : Int) - ((Lib.bitLen (Int.toNat y)) : Int))))) (64))))) : Int))
                                      (Int.fdiv (IntKind.wrap IntKind.u64 (lo * (2 : Int) ^ min (Int.toNat (IntKind.wrap IntKind.u64 ((64 : Int) - ((Lib.bitLen (Int.toNat y)) : Int)))) (64))) (4294967296 : Int))
                                      (IntKind.wrap IntKind.u64 (y * (2 : Int) ^ min (Int.toNat (IntKind.wrap IntKind.u64 ((64 : Int) - ((Lib.bitLen (Int.toNat y)) : Int)))) (64)))),
                                  AV.int IntKind.u64 false
                                    (IntKind.wrap IntKind.u64
                                      (IntKind.wrap IntKind.u64
                                          (IntKind.wrap IntKind.u64
                                              (IntKind.wrap IntKind.u64
                                                  (IntKind.wrap IntKind.u64
                                                      ((BitVec.toNat
                                                          (BitVec.ofInt (64) (IntKind.wrap IntKind.u64 (hi * (2 : Int) ^ min (Int.toNat (IntKind.wrap IntKind.u64 ((64 : Int) - ((Lib.bitLen (Int.toNat y)) : Int)))) (64))) |||
                                                            BitVec.ofInt (64)
                                                              (Int.fdiv lo ((2 : Int) ^ min (Int.toNat (IntKind.wrap IntKind.u64 ((64 : Int) - IntKind.wrap IntKind.u64 ((64 : Int) - ((Lib.bitLen (Int.toNat y)) : Int))))) (64))))) : Int) *
                                                    (4294967296 : Int)) +
                                                Int.fdiv (IntKind.wrap IntKind.u64 (lo * (2 : Int) ^ min (Int.toNat (IntKind.wrap IntKind.u64 ((64 : Int) - ((Lib.bitLen (Int.toNat y)) : Int)))) (64))) (4294967296 : Int)) -
                                            IntKind.wrap IntKind.u64
                                              (dvQ
                                                  (IntKind.wrap IntKind.u64
                                                    ((BitVec.toNat
                                                        (BitVec.ofInt (64) (IntKind.wrap IntKind.u64 (hi * (2 : Int) ^ min (Int.toNat (IntKind.wrap IntKind.u64 ((64 : Int) - ((Lib.bitLen (Int.toNat y)) : Int)))) (64))) |||
                                                          BitVec.ofInt (64)
                                                            (Int.fdiv lo ((2 : Int) ^ min (Int.toNat (IntKind.wrap IntKind.u64 ((64 : Int) - IntKind.wrap IntKind.u64 ((64 : Int) - ((Lib.bitLen (Int.toNat y)) : Int))))) (64))))) : Int))
                                                  (Int.fdiv (IntKind.wrap IntKind.u64 (lo * (2 : Int) ^ min (Int.toNat (IntKind.wrap IntKind.u64 ((64 : Int) - ((Lib.bitLen (Int.toNat y)) : Int)))) (64))) (4294967296 : Int))
                                                  (IntKind.wrap IntKind.u64 (y * (2 : Int) ^ min (Int.toNat (IntKind.wrap IntKind.u64 ((64 : Int) - ((Lib.bitLen (Int.toNat y)) : Int)))) (64))) *
                                                IntKind.wrap IntKind.u64 (y * (2 : Int) ^ min (Int.toNat (IntKind.wrap IntKind.u64 ((64 : Int) - ((Lib.bitLen (Int.toNat y)) : Int)))) (64)))) -
                                        IntKind.wrap IntKind.u64
                                          (IntKind.wrap IntKind.u64
                                              (Int.tdiv
                                                (IntKind.wrap IntKind.u64
                                                  (IntKind.wrap IntKind.u64
                                                      (IntKind.wrap IntKind.u64
                                                          (IntKind.wrap IntKind.u64
                                                              ((BitVec.toNat
                                                                  (BitVec.ofInt (64)
                                                                      (IntKind.wrap IntKind.u64 (hi * (2 : Int) ^ min (Int.toNat (IntKind.wrap IntKind.u64 ((64 : Int) - ((Lib.bitLen (Int.toNat y)) : Int)))) (64))) |||
                                                                    BitVec.ofInt (64)
                                                                      (Int.fdiv lo
                                                                        ((2 : Int) ^ min (Int.toNat (IntKind.wrap IntKind.u64 ((64 : Int) - IntKind.wrap IntKind.u64 ((64 : Int) - ((Lib.bitLen (Int.toNat y)) : Int))))) (64))))) : Int) *
                                                            (4294967296 : Int)) +
                                                        Int.fdiv (IntKind.wrap IntKind.u64 (lo * (2 : Int) ^ min (Int.toNat (IntKind.wrap IntKind.u64 ((64 : Int) - ((Lib.bitLen (Int.toNat y)) : Int)))) (64))) (4294967296 : Int)) -
                                                    IntKind.wrap IntKind.u64
                                                      (dvQ
                                                          (IntKind.wrap IntKind.u64
                                                            ((BitVec.toNat
                                                                (BitVec.ofInt (64)
                                                                    (IntKind.wrap IntKind.u64 (hi * (2 : Int) ^ min (Int.toNat (IntKind.wrap IntKind.u64 ((64 : Int) - ((Lib.bitLen (Int.toNat y)) : Int)))) (64))) |||
                                                                  BitVec.ofInt (64)
                                                                    (Int.fdiv lo
                                                                      ((2 : Int) ^ min (Int.toNat (IntKind.wrap IntKind.u64 ((64 : Int) - IntKind.wrap IntKind.u64 ((64 : Int) - ((Lib.bitLen (Int.toNat y)) : Int))))) (64))))) : Int))
                                                          (Int.fdiv (IntKind.wrap IntKind.u64 (lo * (2 : Int) ^ min (Int.toNat (IntKind.wrap IntKind.u64 ((64 : Int) - ((Lib.bitLen (Int.toNat y)) : Int)))) (64))) (4294967296 : Int))
                                                          (IntKind.wrap IntKind.u64 (y * (2 : Int) ^ min (Int.toNat (IntKind.wrap IntKind.u64 ((64 : Int) - ((Lib.bitLen (Int.toNat y)) : Int)))) (64))) *
                                                        IntKind.wrap IntKind.u64 (y * (2 : Int) ^ min (Int.toNat (IntKind.wrap IntKind.u64 ((64 : Int) - ((Lib.bitLen (Int.toNat y)) : Int)))) (64)))))
                                                (Int.fdiv (IntKind.wrap IntKind.u64 (y * (2 : Int) ^ min (Int.toNat (IntKind.wrap IntKind.u64 ((64 : Int) - ((Lib.bitLen (Int.toNat y)) : Int)))) (64))) (4294967296 : Int))) *
                                            Int.fdiv (IntKind.wrap IntKind.u64 (y * (2 : Int) ^ min (Int.toNat (IntKind.wrap IntKind.u64 ((64 : Int) - ((Lib.bitLen (Int.toNat y)) : Int)))) (64))) (4294967296 : Int)))),
                                  AV.int IntKind.u64 false
                                    (IntKind.wrap IntKind.u64
                                      (IntKind.wrap IntKind.u64
                                          (IntKind.wrap IntKind.u64
                                              (IntKind.wrap IntKind.u64
                                                  ((BitVec.toNat
                                                      (BitVec.ofInt (64) (IntKind.wrap IntKind.u64 (hi * (2 : Int) ^ min (Int.toNat (IntKind.wrap IntKind.u64 ((64 : Int) - ((Lib.bitLen (Int.toNat y)) : Int)))) (64))) |||
                                                        BitVec.ofInt (64)
                                                          (Int.fdiv lo ((2 : Int) ^ min (Int.toNat (IntKind.wrap IntKind.u64 ((64 : Int) - IntKind.wrap IntKind.u64 ((64 : Int) - ((Lib.bitLen (Int.toNat y)) : Int))))) (64))))) : Int) *
                                                (4294967296 : Int)) +
                                            Int.fdiv (IntKind.wrap IntKind.u64 (lo * (2 : Int) ^ min (Int.toNat (IntKind.wrap IntKind.u64 ((64 : Int) - ((Lib.bitLen (Int.toNat y)) : Int)))) (64))) (4294967296 : Int)) -
                                        IntKind.wrap IntKind.u64
                                          (dvQ
                                              (IntKind.wrap IntKind.u64
                                                ((BitVec.toNat
                                                    (BitVec.ofInt (64) (IntKind.wrap IntKind.u64 (hi * (2 : Int) ^ min (Int.toNat (IntKind.wrap IntKind.u64 ((64 : Int) - ((Lib.bitLen (Int.toNat y)) : Int)))) (64))) |||
                                                      BitVec.ofInt (64)
                                                        (Int.fdiv lo ((2 : Int) ^ min (Int.toNat (IntKind.wrap IntKind.u64 ((64 : Int) - IntKind.wrap IntKind.u64 ((64 : Int) - ((Lib.bitLen (Int.toNat y)) : Int))))) (64))))) : Int))
                                              (Int.fdiv (IntKind.wrap IntKind.u64 (lo * (2 : Int) ^ min (Int.toNat (IntKind.wrap IntKind.u64 ((64 : Int) - ((Lib.bitLen (Int.toNat y)) : Int)))) (64))) (4294967296 : Int))
                                              (IntKind.wrap IntKind.u64 (y * (2 : Int) ^ min (Int.toNat (IntKind.wrap IntKind.u64 ((64 : Int) - ((Lib.bitLen (Int.toNat y)) : Int)))) (64))) *
                                            IntKind.wrap IntKind.u64 (y * (2 : Int) ^ min (Int.toNat (IntKind.wrap IntKind.u64 ((64 : Int) - ((Lib.bitLen (Int.toNat y)) : Int)))) (64))))),
                                  AV.int IntKind.u64 false
                                    (IntKind.wrap IntKind.u64
                                      (Int.tdiv
                                        (IntKind.wrap IntKind.u64
                                          (IntKind.wrap IntKind.u64
                                              (IntKind.wrap IntKind.u64
                                                  (IntKind.wrap IntKind.u64
                                                      ((BitVec.toNat
                                                          (BitVec.ofInt (64) (IntKind.wrap IntKind.u64 (hi * (2 : Int) ^ min (Int.toNat (IntKind.wrap IntKind.u64 ((64 : Int) - ((Lib.bitLen (Int.toNat y)) : Int)))) (64))) |||
                                                            BitVec.ofInt (64)
                                                              (Int.fdiv lo ((2 : Int) ^ min (Int.toNat (IntKind.wrap IntKind.u64 ((64 : Int) - IntKind.wrap IntKind.u64 ((64 : Int) - ((Lib.bitLen (Int.toNat y)) : Int))))) (64))))) : Int) *
                                                    (4294967296 : Int)) +
                                                Int.fdiv (IntKind.wrap IntKind.u64 (lo * (2 : Int) ^ min (Int.toNat (IntKind.wrap IntKind.u64 ((64 : Int) - ((Lib.bitLen (Int.toNat y)) : Int)))) (64))) (4294967296 : Int)) -
                                            IntKind.wrap IntKind.u64
                                              (dvQ
                                                  (IntKind.wrap IntKind.u64
                                                    ((BitVec.toNat
                                                        (BitVec.ofInt (64) (IntKind.wrap IntKind.u64 (hi * (2 : Int) ^ min (Int.toNat (IntKind.wrap IntKind.u64 ((64 : Int) - ((Lib.bitLen (Int.toNat y)) : Int)))) (64))) |||
                                                          BitVec.ofInt (64)
                                                            (Int.fdiv lo ((2 : Int) ^ min (Int.toNat (IntKind.wrap IntKind.u64 ((64 : Int) - IntKind.wrap IntKind.u64 ((64 : Int) - ((Lib.bitLen (Int.toNat y)) : Int))))) (64))))) : Int))
                                                  (Int.fdiv (IntKind.wrap IntKind.u64 (lo * (2 : Int) ^ min (Int.toNat (IntKind.wrap IntKind.u64 ((64 : Int) - ((Lib.bitLen (Int.toNat y)) : Int)))) (64))) (4294967296 : Int))
                                                  (IntKind.wrap IntKind.u64 (y * (2 : Int) ^ min (Int.toNat (IntKind.wrap IntKind.u64 ((64 : Int) - ((Lib.bitLen (Int.toNat y)) : Int)))) (64))) *
                                                IntKind.wrap IntKind.u64 (y * (2 : Int) ^ min (Int.toNat (IntKind.wrap IntKind.u64 ((64 : Int) - ((Lib.bitLen (Int.toNat y)) : Int)))) (64)))))
                                        (Int.fdiv (IntKind.wrap IntKind.u64 (y * (2 : Int) ^ min (Int.toNat (IntKind.wrap IntKind.u64 ((64 : Int) - ((Lib.bitLen (Int.toNat y)) : Int)))) (64))) (4294967296 : Int)))),
                                  AV.junk, AV.junk, AV.junk, AV.junk, AV.junk, AV.junk, AV.junk, AV.junk, AV.junk, AV.junk, AV.junk, AV.junk, AV.junk, AV.junk, AV.junk, AV.junk, AV.junk, AV.junk, AV.junk, AV.junk, AV.junk, AV.junk, AV.junk,
                                  AV.junk, AV.junk, AV.junk, AV.junk, AV.junk, AV.junk, AV.junk, AV.junk, AV.junk, AV.junk, AV.junk, AV.junk, AV.junk, AV.junk, AV.junk, AV.junk, AV.junk, AV.junk, AV.junk, AV.junk, AV.junk, AV.junk, AV.junk,
                                  AV.junk, AV.junk, AV.junk, AV.junk, AV.junk, AV.junk, AV.junk, AV.junk, AV.junk, AV.junk, AV.junk, AV.junk, AV.junk, AV.junk, AV.junk, AV.junk, AV.junk, AV.junk, AV.junk, AV.junk, AV.junk, AV.junk, AV.junk,
                                  AV.junk, AV.junk, AV.junk, AV.junk, AV.junk, AV.junk, AV.junk, AV.junk, AV.junk, AV.junk, AV.junk, AV.junk, AV.junk, AV.junk, AV.junk, AV.junk, AV.junk, AV.junk, AV.junk, AV.junk, AV.junk, AV.junk, AV.junk,
                                  AV.junk, AV.junk, AV.junk, AV.junk, AV.junk, AV.junk, AV.junk, AV.junk, AV.junk, AV.junk, AV.junk, AV.junk, AV.junk, AV.junk, AV.junk, AV.junk, AV.junk, AV.junk, AV.junk, AV.junk, AV.junk, AV.junk, AV.junk,
                                  AV.junk]
                                []))
                            (Tree.chk
                              (okdiv64_1
                                (Xdiv64_1.mk (IntKind.wrap IntKind.u64 (y * (2 : Int) ^ min (Int.toNat (IntKind.wrap IntKind.u64 ((64 : Int) - ((Lib.bitLen (Int.toNat y)) : Int)))) (64)))
                                  (IntKind.wrap IntKind.u64 ((64 : Int) - ((Lib.bitLen (Int.toNat y)) : Int)))
                                  (Int.fdiv (IntKind.wrap IntKind.u64 (y * (2 : Int) ^ min (Int.toNat (IntKind.wrap IntKind.u64 ((64 : Int) - ((Lib.bitLen (Int.toNat y)) : Int)))) (64))) (4294967296 : Int))
                                  (IntKind.wrap IntKind.u64
                                    ((BitVec.toNat
                                        (BitVec.ofInt (64) (IntKind.wrap IntKind.u64 (y * (2 : Int) ^ min (Int.toNat (IntKind.wrap IntKind.u64 ((64 : Int) - ((Lib.bitLen (Int.toNat y)) : Int)))) (64))) &&&
                                          BitVec.ofInt (64) (4294967295 : Int))) : Int))
                                  (IntKind.wrap IntKind.u64
                                    ((BitVec.toNat
                                        (BitVec.ofInt (64) (IntKind.wrap IntKind.u64 (lo * (2 : Int) ^ min (Int.toNat (IntKind.wrap IntKind.u64 ((64 : Int) - ((Lib.bitLen (Int.toNat y)) : Int)))) (64))) &&&
                                          BitVec.ofInt (64) (4294967295 : Int))) : Int))
                                  (dvQ
                                    (IntKind.wrap IntKind.u64
                                      ((BitVec.toNat
                                          (BitVec.ofInt (64) (IntKind.wrap IntKind.u64 (hi * (2 : Int) ^ min (Int.toNat (IntKind.wrap IntKind.u64 ((64 : Int) - ((Lib.bitLen (Int.toNat y)) : Int)))) (64))) |||
                                            BitVec.ofInt (64)
                                              (Int.fdiv lo ((2 : Int) ^ min (Int.toNat (IntKind.wrap IntKind.u64 ((64 : Int) - IntKind.wrap IntKind.u64 ((64 : Int) - ((Lib.bitLen (Int.toNat y)) : Int))))) (64))))) : Int))
                                    (Int.fdiv (IntKind.wrap IntKind.u64 (lo * (2 : Int) ^ min (Int.toNat (IntKind.wrap IntKind.u64 ((64 : Int) - ((Lib.bitLen (Int.toNat y)) : Int)))) (64))) (4294967296 : Int))
                                    (IntKind.wrap IntKind.u64 (y * (2 : Int) ^ min (Int.toNat (IntKind.wrap IntKind.u64 ((64 : Int) - ((Lib.bitLen (Int.toNat y)) : Int)))) (64))))
                                  (IntKind.wrap IntKind.u64
                                    (IntKind.wrap IntKind.u64
                                        (IntKind.wrap IntKind.u64
                                            (IntKind.wrap IntKind.u64
                                                ((BitVec.toNat
                                                    (BitVec.ofInt (64) (IntKind.wrap IntKind.u64 (hi * (2 : Int) ^ min (Int.toNat (IntKind.wrap IntKind.u64 ((64 : Int) - ((Lib.bitLen (Int.toNat y)) : Int)))) (64))) |||
                                                      BitVec.ofInt (64)
                                                        (Int.fdiv lo ((2 : Int) ^ min (Int.toNat (IntKind.wrap IntKind.u64 ((64 : Int) - IntKind.wrap IntKind.u64 ((64 : Int) - ((Lib.bitLen (Int.toNat y)) : Int))))) (64))))) : Int) *
                                              (4294967296 : Int)) +
                                          Int.fdiv (IntKind.wrap IntKind.u64 (lo * (2 : Int) ^ min (Int.toNat (IntKind.wrap IntKind.u64 ((64 : Int) - ((Lib.bitLen (Int.toNat y)) : Int)))) (64))) (4294967296 : Int)) -
                                      IntKind.wrap IntKind.u64
                                        (dvQ
                                            (IntKind.wrap IntKind.u64
                                              ((BitVec.toNat
                                                  (BitVec.ofInt (64) (IntKind.wrap IntKind.u64 (hi * (2 : Int) ^ min (Int.toNat (IntKind.wrap IntKind.u64 ((64 : Int) - ((Lib.bitLen (Int.toNat y)) : Int)))) (64))) |||
                                                    BitVec.ofInt (64)
                                                      (Int.fdiv lo ((2 : Int) ^ min (Int.toNat (IntKind.wrap IntKind.u64 ((64 : Int) - IntKind.wrap IntKind.u64 ((64 : Int) - ((Lib.bitLen (Int.toNat y)) : Int))))) (64))))) : Int))
                                            (Int.fdiv (IntKind.wrap IntKind.u64 (lo * (2 : Int) ^ min (Int.toNat (IntKind.wrap IntKind.u64 ((64 : Int) - ((Lib.bitLen (Int.toNat y)) : Int)))) (64))) (4294967296 : Int))
                                            (IntKind.wrap IntKind.u64 (y * (2 : Int) ^ min (Int.toNat (IntKind.wrap IntKind.u64 ((64 : Int) - ((Lib.bitLen (Int.toNat y)) : Int)))) (64))) *
                                          IntKind.wrap IntKind.u64 (y * (2 : Int) ^ min (Int.toNat (IntKind.wrap IntKind.u64 ((64 : Int) - ((Lib.bitLen (Int.toNat y)) : Int)))) (64)))))
                                  (IntKind.wrap IntKind.u64
                                    (Int.tdiv
                                      (IntKind.wrap IntKind.u64
                                        (IntKind.wrap IntKind.u64
                                            (IntKind.wrap IntKind.u64
                                                (IntKind.wrap IntKind.u64
                                                    ((BitVec.toNat
                                                        (BitVec.ofInt (64) (IntKind.wrap IntKind.u64 (hi * (2 : Int) ^ min (Int.toNat (IntKind.wrap IntKind.u64 ((64 : Int) - ((Lib.bitLen (Int.toNat y)) : Int)))) (64))) |||
                                                          BitVec.ofInt (64)
                                                            (Int.fdiv lo ((2 : Int) ^ min (Int.toNat (IntKind.wrap IntKind.u64 ((64 : Int) - IntKind.wrap IntKind.u64 ((64 : Int) - ((Lib.bitLen (Int.toNat y)) : Int))))) (64))))) : Int) *
                                                  (4294967296 : Int)) +
                                              Int.fdiv (IntKind.wrap IntKind.u64 (lo * (2 : Int) ^ min (Int.toNat (IntKind.wrap IntKind.u64 ((64 : Int) - ((Lib.bitLen (Int.toNat y)) : Int)))) (64))) (4294967296 : Int)) -
                                          IntKind.wrap IntKind.u64
                                            (dvQ
                                                (IntKind.wrap IntKind.u64
                                                  ((BitVec.toNat
                                                      (BitVec.ofInt (64) (IntKind.wrap IntKind.u64 (hi * (2 : Int) ^ min (Int.toNat (IntKind.wrap IntKind.u64 ((64 : Int) - ((Lib.bitLen (Int.toNat y)) : Int)))) (64))) |||
                                                        BitVec.ofInt (64)
                                                          (Int.fdiv lo ((2 : Int) ^ min (Int.toNat (IntKind.wrap IntKind.u64 ((64 : Int) - IntKind.wrap IntKind.u64 ((64 : Int) - ((Lib.bitLen (Int.toNat y)) : Int))))) (64))))) : Int))
                                                (Int.fdiv (IntKind.wrap IntKind.u64 (lo * (2 : Int) ^ min (Int.toNat (IntKind.wrap IntKind.u64 ((64 : Int) - ((Lib.bitLen (Int.toNat y)) : Int)))) (64))) (4294967296 : Int))
                                                (IntKind.wrap IntKind.u64 (y * (2 : Int) ^ min (Int.toNat (IntKind.wrap IntKind.u64 ((64 : Int) - ((Lib.bitLen (Int.toNat y)) : Int)))) (64))) *
                                              IntKind.wrap IntKind.u64 (y * (2 : Int) ^ min (Int.toNat (IntKind.wrap IntKind.u64 ((64 : Int) - ((Lib.bitLen (Int.toNat y)) : Int)))) (64)))))
                                      (Int.fdiv (IntKind.wrap IntKind.u64 (y * (2 : Int) ^ min (Int.toNat (IntKind.wrap IntKind.u64 ((64 : Int) - ((Lib.bitLen (Int.toNat y)) : Int)))) (64))) (4294967296 : Int))))
                                  (IntKind.wrap IntKind.u64
                                    (IntKind.wrap IntKind.u64
                                        (IntKind.wrap IntKind.u64
                                            (IntKind.wrap IntKind.u64
                                                (IntKind.wrap IntKind.u64
                                                    ((BitVec.toNat
                                                        (BitVec.ofInt (64) (IntKind.wrap IntKind.u64 (hi * (2 : Int) ^ min (Int.toNat (IntKind.wrap IntKind.u64 ((64 : Int) - ((Lib.bitLen (Int.toNat y)) : Int)))) (64))) |||
                                                          BitVec.ofInt (64)
                                                            (Int.fdiv lo ((2 : Int) ^ min (Int.toNat (IntKind.wrap IntKind.u64 ((64 : Int) - IntKind.wrap IntKind.u64 ((64 : Int) - ((Lib.bitLen (Int.toNat y)) : Int))))) (64))))) : Int) *
                                                  (4294967296 : Int)) +
                                              Int.fdiv (IntKind.wrap IntKind.u64 (lo * (2 : Int) ^ min (Int.toNat (IntKind.wrap IntKind.u64 ((64 : Int) - ((Lib.bitLen (Int.toNat y)) : Int)))) (64))) (4294967296 : Int)) -
                                          IntKind.wrap IntKind.u64
                                            (dvQ
                                                (IntKind.wrap IntKind.u64
                                                  ((BitVec.toNat
                                                      (BitVec.ofInt (64) (IntKind.wrap IntKind.u64 (hi * (2 : Int) ^ min (Int.toNat (IntKind.wrap IntKind.u64 ((64 : Int) - ((Lib.bitLen (Int.toNat y)) : Int)))) (64))) |||
                                                        BitVec.ofInt (64)
                                                          (Int.fdiv lo ((2 : Int) ^ min (Int.toNat (IntKind.wrap IntKind.u64 ((64 : Int) - IntKind.wrap IntKind.u64 ((64 : Int) - ((Lib.bitLen (Int.toNat y)) : Int))))) (64))))) : Int))
                                                (Int.fdiv (IntKind.wrap IntKind.u64 (lo * (2 : Int) ^ min (Int.toNat (IntKind.wrap IntKind.u64 ((64 : Int) - ((Lib.bitLen (Int.toNat y)) : Int)))) (64))) (4294967296 : Int))
                                                (IntKind.wrap IntKind.u64 (y * (2 : Int) ^ min (Int.toNat (IntKind.wrap IntKind.u64 ((64 : Int) - ((Lib.bitLen (Int.toNat y)) : Int)))) (64))) *
                                              IntKind.wrap IntKind.u64 (y * (2 : Int) ^ min (Int.toNat (IntKind.wrap IntKind.u64 ((64 : Int) - ((Lib.bitLen (Int.toNat y)) : Int)))) (64)))) -
                                      IntKind.wrap IntKind.u64
                                        (IntKind.wrap IntKind.u64
                                            (Int.tdiv
                                              (IntKind.wrap IntKind.u64
                                                (IntKind.wrap IntKind.u64
                                                    (IntKind.wrap IntKind.u64
                                                        (IntKind.wrap IntKind.u64
                                                            ((BitVec.toNat
                                                                (BitVec.ofInt (64)
                                                                    (IntKind.wrap IntKind.u64 (hi * (2 : Int) ^ min (Int.toNat (IntKind.wrap IntKind.u64 ((64 : Int) - ((Lib.bitLen (Int.toNat y)) : Int)))) (64))) |||
                                                                  BitVec.ofInt (64)
                                                                    (Int.fdiv lo
                                                                      ((2 : Int) ^ min (Int.toNat (IntKind.wrap IntKind.u64 ((64 : Int) - IntKind.wrap IntKind.u64 ((64 : Int) - ((Lib.bitLen (Int.toNat y)) : Int))))) (64))))) : Int) *
                                                          (4294967296 : Int)) +
                                                      Int.fdiv (IntKind.wrap IntKind.u64 (lo * (2 : Int) ^ min (Int.toNat (IntKind.wrap IntKind.u64 ((64 : Int) - ((Lib.bitLen (Int.toNat y)) : Int)))) (64))) (4294967296 : Int)) -
                                                  IntKind.wrap IntKind.u64
                                                    (dvQ
                                                        (IntKind.wrap IntKind.u64
                                                          ((BitVec.toNat
                                                              (BitVec.ofInt (64)
                                                                  (IntKind.wrap IntKind.u64 (hi * (2 : Int) ^ min (Int.toNat (IntKind.wrap IntKind.u64 ((64 : Int) - ((Lib.bitLen (Int.toNat y)) : Int)))) (64))) |||
                                                                BitVec.ofInt (64)
                                                                  (Int.fdiv lo ((2 : Int) ^ min (Int.toNat (IntKind.wrap IntKind.u64 ((64 : Int) - IntKind.wrap IntKind.u64 ((64 : Int) - ((Lib.bitLen (Int.toNat y)) : Int))))) (64))))) : Int))
                                                        (Int.fdiv (IntKind.wrap IntKind.u64 (lo * (2 : Int) ^ min (Int.toNat (IntKind.wrap IntKind.u64 ((64 : Int) - ((Lib.bitLen (Int.toNat y)) : Int)))) (64))) (4294967296 : Int))
                                                        (IntKind.wrap IntKind.u64 (y * (2 : Int) ^ min (Int.toNat (IntKind.wrap IntKind.u64 ((64 : Int) - ((Lib.bitLen (Int.toNat y)) : Int)))) (64))) *
                                                      IntKind.wrap IntKind.u64 (y * (2 : Int) ^ min (Int.toNat (IntKind.wrap IntKind.u64 ((64 : Int) - ((Lib.bitLen (Int.toNat y)) : Int)))) (64)))))
                                              (Int.fdiv (IntKind.wrap IntKind.u64 (y * (2 : Int) ^ min (Int.toNat (IntKind.wrap IntKind.u64 ((64 : Int) - ((Lib.bitLen (Int.toNat y)) : Int)))) (64))) (4294967296 : Int))) *
                                          Int.fdiv (IntKind.wrap IntKind.u64 (y * (2 : Int) ^ min (Int.toNat (IntKind.wrap IntKind.u64 ((64 : Int) - ((Lib.bitLen (Int.toNat y)) : Int)))) (64))) (4294967296 : Int))))))
                              (Tree.br (!decide (IntKind.wrap IntKind.u64 ((64 : Int) - ((Lib.bitLen (Int.toNat y)) : Int)) < (0 : Int)))
                                (Tree.ret
                                  (AV.tup
                                      [AV.int IntKind.u64 false
                                          (IntKind.wrap IntKind.u64
                                            (IntKind.wrap IntKind.u64
                                                (dvQ
                                                    (IntKind.wrap IntKind.u64
                                                      ((BitVec.toNat
                                                          (BitVec.ofInt (64) (IntKind.wrap IntKind.u64 (hi * (2 : Int) ^ min (Int.toNat (IntKind.wrap IntKind.u64 ((64 : Int) - ((Lib.bitLen (Int.toNat y)) : Int)))) (64))) |||
                                                            BitVec.ofInt (64)
                                                              (Int.fdiv lo ((2 : Int) ^ min (Int.toNat (IntKind.wrap IntKind.u64 ((64 : Int) - IntKind.wrap IntKind.u64 ((64 : Int) - ((Lib.bitLen (Int.toNat y)) : Int))))) (64))))) : Int))
                                                    (Int.fdiv (IntKind.wrap IntKind.u64 (lo * (2 : Int) ^ min (Int.toNat (IntKind.wrap IntKind.u64 ((64 : Int) - ((Lib.bitLen (Int.toNat y)) : Int)))) (64))) (4294967296 : Int))
                                                    (IntKind.wrap IntKind.u64 (y * (2 : Int) ^ min (Int.toNat (IntKind.wrap IntKind.u64 ((64 : Int) - ((Lib.bitLen (Int.toNat y)) : Int)))) (64))) *
                                                  (4294967296 : Int)) +
                                              dvQ
                                                (IntKind.wrap IntKind.u64
                                                  (IntKind.wrap IntKind.u64
                                                      (IntKind.wrap IntKind.u64
                                                          (IntKind.wrap IntKind.u64
                                                              ((BitVec.toNat
                                                                  (BitVec.ofInt (64)
                                                                      (IntKind.wrap IntKind.u64 (hi * (2 : Int) ^ min (Int.toNat (IntKind.wrap IntKind.u64 ((64 : Int) - ((Lib.bitLen (Int.toNat y)) : Int)))) (64))) |||
                                                                    BitVec.ofInt (64)
                                                                      (Int.fdiv lo
                                                                        ((2 : Int) ^ min (Int.toNat (IntKind.wrap IntKind.u64 ((64 : Int) - IntKind.wrap IntKind.u64 ((64 : Int) - ((Lib.bitLen (Int.toNat y)) : Int))))) (64))))) : Int) *
                                                            (4294967296 : Int)) +
                                                        Int.fdiv (IntKind.wrap IntKind.u64 (lo * (2 : Int) ^ min (Int.toNat (IntKind.wrap IntKind.u64 ((64 : Int) - ((Lib.bitLen (Int.toNat y)) : Int)))) (64))) (4294967296 : Int)) -
                                                    IntKind.wrap IntKind.u64
                                                      (dvQ
                                                          (IntKind.wrap IntKind.u64
                                                            ((BitVec.toNat
                                                                (BitVec.ofInt (64)
                                                                    (IntKind.wrap IntKind.u64 (hi * (2 : Int) ^ min (Int.toNat (IntKind.wrap IntKind.u64 ((64 : Int) - ((Lib.bitLen (Int.toNat y)) : Int)))) (64))) |||
                                                                  BitVec.ofInt (64)
                                                                    (Int.fdiv lo
                                                                      ((2 : Int) ^ min (Int.toNat (IntKind.wrap IntKind.u64 ((64 : Int) - IntKind.wrap IntKind.u64 ((64 : Int) - ((Lib.bitLen (Int.toNat y)) : Int))))) (64))))) : Int))
                                                          (Int.fdiv (IntKind.wrap IntKind.u64 (lo * (2 : Int) ^ min (Int.toNat (IntKind.wrap IntKind.u64 ((64 : Int) - ((Lib.bitLen (Int.toNat y)) : Int)))) (64))) (4294967296 : Int))
                                                          (IntKind.wrap IntKind.u64 (y * (2 : Int) ^ min (Int.toNat (IntKind.wrap IntKind.u64 ((64 : Int) - ((Lib.bitLen (Int.toNat y)) : Int)))) (64))) *
                                                        IntKind.wrap IntKind.u64 (y * (2 : Int) ^ min (Int.toNat (IntKind.wrap IntKind.u64 ((64 : Int) - ((Lib.bitLen (Int.toNat y)) : Int)))) (64)))))
                                                (IntKind.wrap IntKind.u64
                                                  ((BitVec.toNat
                                                      (BitVec.ofInt (64) (IntKind.wrap IntKind.u64 (lo * (2 : Int) ^ min (Int.toNat (IntKind.wrap IntKind.u64 ((64 : Int) - ((Lib.bitLen (Int.toNat y)) : Int)))) (64))) &&&
                                                        BitVec.ofInt (64) (4294967295 : Int))) : Int))
                                                (IntKind.wrap IntKind.u64 (y * (2 : Int) ^ min (Int.toNat (IntKind.wrap IntKind.u64 ((64 : Int) - ((Lib.bitLen (Int.toNat y)) : Int)))) (64))))),
                                        AV.int IntKind.u64 false
                                          (Int.fdiv
                                            (IntKind.wrap IntKind.u64
                                              (IntKind.wrap IntKind.u64
                                                  (IntKind.wrap IntKind.u64
                                                      (IntKind.wrap IntKind.u64
                                                          (IntKind.wrap IntKind.u64
                                                              (IntKind.wrap IntKind.u64
                                                                  (IntKind.wrap IntKind.u64
                                                                      ((BitVec.toNat
                                                                          (BitVec.ofInt (64)
                                                                              (IntKind.wrap IntKind.u64 (hi * (2 : Int) ^ min (Int.toNat (IntKind.wrap IntKind.u64 ((64 : Int) - ((Lib.bitLen (Int.toNat y)) : Int)))) (64))) |||
                                                                            BitVec.ofInt (64)
                                                                              (Int.fdiv lo
                                                                                ((2 : Int) ^ min (Int.toNat (IntKind.wrap IntKind.u64 ((64 : Int) - IntKind.wrap IntKind.u64 ((64 : Int) - ((Lib.bitLen (Int.toNat y)) : Int))))) (64))))) : Int) *
                                                                    (4294967296 : Int)) +
                                                                Int.fdiv (IntKind.wrap IntKind.u64 (lo * (2 : Int) ^ min (Int.toNat (IntKind.wrap IntKind.u64 ((64 : Int) - ((Lib.bitLen (Int.toNat y)) : Int)))) (64)))
                                                                  (4294967296 : Int)) -
                                                            IntKind.wrap IntKind.u64
                                                              (dvQ
                                                                  (IntKind.wrap IntKind.u64
                                                                    ((BitVec.toNat
                                                                        (BitVec.ofInt (64)
                                                                            (IntKind.wrap IntKind.u64 (hi * (2 : Int) ^ min (Int.toNat (IntKind.wrap IntKind.u64 ((64 : Int) - ((Lib.bitLen (Int.toNat y)) : Int)))) (64))) |||
                                                                          BitVec.ofInt (64)
                                                                            (Int.fdiv lo
                                                                              ((2 : Int) ^ min (Int.toNat (IntKind.wrap IntKind.u64 ((64 : Int) - IntKind.wrap IntKind.u64 ((64 : Int) - ((Lib.bitLen (Int.toNat y)) : Int))))) (64))))) : Int))
                                                                  (Int.fdiv (IntKind.wrap IntKind.u64 (lo * (2 : Int) ^ min (Int.toNat (IntKind.wrap IntKind.u64 ((64 : Int) - ((Lib.bitLen (Int.toNat y)) : Int)))) (64)))
                                                                    (4294967296 : Int))
                                                                  (IntKind.wrap IntKind.u64 (y * (2 : Int) ^ min (Int.toNat (IntKind.wrap IntKind.u64 ((64 : Int) - ((Lib.bitLen (Int.toNat y)) : Int)))) (64))) *
                                                                IntKind.wrap IntKind.u64 (y * (2 : Int) ^ min (Int.toNat (IntKind.wrap IntKind.u64 ((64 : Int) - ((Lib.bitLen (Int.toNat y)) : Int)))) (64)))) *
                                                        (4294967296 : Int)) +
                                                    IntKind.wrap IntKind.u64
                                                      ((BitVec.toNat
                                                          (BitVec.ofInt (64) (IntKind.wrap IntKind.u64 (lo * (2 : Int) ^ min (Int.toNat (IntKind.wrap IntKind.u64 ((64 : Int) - ((Lib.bitLen (Int.toNat y)) : Int)))) (64))) &&&
                                                            BitVec.ofInt (64) (4294967295 : Int))) : Int)) -
                                                IntKind.wrap IntKind.u64
                                                  (dvQ
                                                      (IntKind.wrap IntKind.u64
                                                        (IntKind.wrap IntKind.u64
                                                            (IntKind.wrap IntKind.u64
                                                                (IntKind.wrap IntKind.u64
                                                                    ((BitVec.toNat
                                                                        (BitVec.ofInt (64)
                                                                            (IntKind.wrap IntKind.u64 (hi * (2 : Int) ^ min (Int.toNat (IntKind.wrap IntKind.u64 ((64 : Int) - ((Lib.bitLen (Int.toNat y)) : Int)))) (64))) |||
                                                                          BitVec.ofInt (64)
                                                                            (Int.fdiv lo
                                                                              ((2 : Int) ^ min (Int.toNat (IntKind.wrap IntKind.u64 ((64 : Int) - IntKind.wrap IntKind.u64 ((64 : Int) - ((Lib.bitLen (Int.toNat y)) : Int))))) (64))))) : Int) *
                                                                  (4294967296 : Int)) +
                                                              Int.fdiv (IntKind.wrap IntKind.u64 (lo * (2 : Int) ^ min (Int.toNat (IntKind.wrap IntKind.u64 ((64 : Int) - ((Lib.bitLen (Int.toNat y)) : Int)))) (64)))
                                                                (4294967296 : Int)) -
                                                          IntKind.wrap IntKind.u64
                                                            (dvQ
                                                                (IntKind.wrap IntKind.u64
                                                                  ((BitVec.toNat
                                                                      (BitVec.ofInt (64)
                                                                          (IntKind.wrap IntKind.u64 (hi * (2 : Int) ^ min (Int.toNat (IntKind.wrap IntKind.u64 ((64 : Int) - ((Lib.bitLen (Int.toNat y)) : Int)))) (64))) |||
                                                                        BitVec.ofInt (64)
                                                                          (Int.fdiv lo
                                                                            ((2 : Int) ^ min (Int.toNat (IntKind.wrap IntKind.u64 ((64 : Int) - IntKind.wrap IntKind.u64 ((64 : Int) - ((Lib.bitLen (Int.toNat y)) : Int))))) (64))))) : Int))
                                                                (Int.fdiv (IntKind.wrap IntKind.u64 (lo * (2 : Int) ^ min (Int.toNat (IntKind.wrap IntKind.u64 ((64 : Int) - ((Lib.bitLen (Int.toNat y)) : Int)))) (64)))
                                                                  (4294967296 : Int))
                                                                (IntKind.wrap IntKind.u64 (y * (2 : Int) ^ min (Int.toNat (IntKind.wrap IntKind.u64 ((64 : Int) - ((Lib.bitLen (Int.toNat y)) : Int)))) (64))) *
                                                              IntKind.wrap IntKind.u64 (y * (2 : Int) ^ min (Int.toNat (IntKind.wrap IntKind.u64 ((64 : Int) - ((Lib.bitLen (Int.toNat y)) : Int)))) (64)))))
                                                      (IntKind.wrap IntKind.u64
                                                        ((BitVec.toNat
                                                            (BitVec.ofInt (64) (IntKind.wrap IntKind.u64 (lo * (2 : Int) ^ min (Int.toNat (IntKind.wrap IntKind.u64 ((64 : Int) - ((Lib.bitLen (Int.toNat y)) : Int)))) (64))) &&&
                                                              BitVec.ofInt (64) (4294967295 : Int))) : Int))
                                                      (IntKind.wrap IntKind.u64 (y * (2 : Int) ^ min (Int.toNat (IntKind.wrap IntKind.u64 ((64 : Int) - ((Lib.bitLen (Int.toNat y)) : Int)))) (64))) *
                                                    IntKind.wrap IntKind.u64 (y * (2 : Int) ^ min (Int.toNat (IntKind.wrap IntKind.u64 ((64 : Int) - ((Lib.bitLen (Int.toNat y)) : Int)))) (64)))))
                                            ((2 : Int) ^ min (Int.toNat (IntKind.wrap IntKind.u64 ((64 : Int) - ((Lib.bitLen (Int.toNat y)) : Int)))) (64)))],
                                    []))
                                Tree.fail)))
                          Tree.fail)))
                    Tree.fail)
                  Tree.fail)
                Tree.fail)
              Tree.fail)
            Tree.fail)))) := by kernel_rfl
set_option maxRecDepth 100000 in
theorem gdiv64 (hi : Int) (lo : Int) (y : Int) (hw : 0 ≤ hi ∧ hi ≤ 18446744073709551615 ∧ 0 ≤ lo ∧ lo ≤ 18446744073709551615 ∧ 0 ≤ y ∧ y ≤ 18446744073709551615 ∧ hi < y) : (Tree.br (y == (0 : Int)) Tree.fail
    (Tree.br (decide (y ≤ hi)) Tree.fail
      (Tree.br (hi == (0 : Int))
        (Tree.br (!decide (y = (0 : Int))) (Tree.br (!decide (y = (0 : Int))) (Tree.ret (AV.tup [AV.int IntKind.u64 false (IntKind.wrap IntKind.u64 (Int.tdiv lo y)), AV.int IntKind.u64 false (Int.tmod lo y)], [])) Tree.fail)
          Tree.fail)
        (Tree.chk ((True ∧ True) ∧ (0 : Int) ≤ y ∧ y ≤ (18446744073709551615 : Int))
          (Tree.br (!decide (IntKind.wrap IntKind.u64 ((64 : Int) - ((Lib.bitLen (Int.toNat y)) : Int)) < (0 : Int)))
            (Tree.br (!decide (IntKind.wrap IntKind.u64 ((64 : Int) - ((Lib.bitLen (Int.toNat y)) : Int)) < (0 : Int)))
              (Tree.br (!decide (IntKind.wrap IntKind.u64 ((64 : Int) - IntKind.wrap IntKind.u64 ((64 : Int) - ((Lib.bitLen (Int.toNat y)) : Int))) < (0 : Int)))
                (Tree.br (!decide (IntKind.wrap IntKind.u64 ((64 : Int) - ((Lib.bitLen (Int.toNat y)) : Int)) < (0 : Int)))
                  (Tree.br (!decide (Int.fdiv (IntKind.wrap IntKind.u64 (y * (2 : Int) ^ min (Int.toNat (IntKind.wrap IntKind.u64 ((64 : Int) - ((Lib.bitLen (Int.toNat y)) : Int)))) (64))) (4294967296 : Int) = (0 : Int)))
                    (Tree.chk
                      (St.le
                        (St.mk
                          [AV.junk, AV.junk, AV.int IntKind.u64 false (IntKind.wrap IntKind.u64 (y * (2 : Int) ^ min (Int.toNat (IntKind.wrap IntKind.u64 ((64 : Int) - ((Lib.bitLen (Int.toNat y)) : Int)))) (64))), AV.junk, AV.junk,
                            AV.junk, AV.junk, AV.junk, AV.int IntKind.u64 false (IntKind.wrap IntKind.u64 ((64 : Int) - ((Lib.bitLen (Int.toNat y)) : Int))),
                            AV.int IntKind.u64 false (Int.fdiv (IntKind.wrap IntKind.u64 (y * (2 : Int) ^ min (Int.toNat (IntKind.wrap IntKind.u64 ((64 : Int) - ((Lib.bitLen (Int.toNat y)) : Int)))) (64))) (4294967296 : Int)),
                            AV.int IntKind.u64 false
                              (IntKind.wrap IntKind.u64
                                ((BitVec.toNat
                                    (BitVec.ofInt (64) (IntKind.wrap IntKind.u64 (y * (2 : Int) ^ min (Int.toNat (IntKind.wrap IntKind.u64 ((64 : Int) - ((Lib.bitLen (Int.toNat y)) : Int)))) (64))) &&&
                                      BitVec.ofInt (64) (4294967295 : Int))) : Int)),
                            AV.int IntKind.u64 false
                              (IntKind.wrap IntKind.u64
                                ((BitVec.toNat
                                    (BitVec.ofInt (64) (IntKind.wrap IntKind.u64 (hi * (2 : Int) ^ min (Int.toNat (IntKind.wrap IntKind.u64 ((64 : Int) - ((Lib.bitLen (Int.toNat y)) : Int)))) (64))) |||
                                      BitVec.ofInt (64) (Int.fdiv lo ((2 : Int) ^ min (Int.toNat (IntKind.wrap IntKind.u64 ((64 : Int) - IntKind.wrap IntKind.u64 ((64 : Int) - ((Lib.bitLen (Int.toNat y)) : Int))))) (64))))) : Int)),
                            AV.junk,
                            AV.int IntKind.u64 false (Int.fdiv (IntKind.wrap IntKind.u64 (lo * (2 : Int) ^ min (Int.toNat (IntKind.wrap IntKind.u64 ((64 : Int) - ((Lib.bitLen (Int.toNat y)) : Int)))) (64))) (4294967296 : Int)),
                            AV.int IntKind.u64 false
                              (IntKind.wrap IntKind.u64
                                ((BitVec.toNat
                                    (BitVec.ofInt (64) (IntKind.wrap IntKind.u64 (lo * (2 : Int) ^ min (Int.toNat (IntKind.wrap IntKind.u64 ((64 : Int) - ((Lib.bitLen (Int.toNat y)) : Int)))) (64))) &&&
                                      BitVec.ofInt (64) (4294967295 : Int))) : Int)),
                            AV.int IntKind.u64 false
                              (IntKind.wrap IntKind.u64
                                (Int.tdiv
                                  (IntKind.wrap IntKind.u64
                                    ((BitVec.toNat
                                        (BitVec.ofInt (64) (IntKind.wrap IntKind.u64 (hi * (2 : Int) ^ min (Int.toNat (IntKind.wrap IntKind.u64 ((64 : Int) - ((Lib.bitLen (Int.toNat y)) : Int)))) (64))) |||
                                          BitVec.ofInt (64)
                                            (Int.fdiv lo ((2 : Int) ^ min (Int.toNat (IntKind.wrap IntKind.u64 ((64 : Int) - IntKind.wrap IntKind.u64 ((64 : Int) - ((Lib.bitLen (Int.toNat y)) : Int))))) (64))))) : Int))
                                  (Int.fdiv (IntKind.wrap IntKind.u64 (y * (2 : Int) ^ min (Int.toNat (IntKind.wrap IntKind.u64 ((64 : Int) - ((Lib.bitLen (Int.toNat y)) : Int)))) (64))) (4294967296 : Int)))),
                            AV.int IntKind.u64 false
                              (IntKind.wrap IntKind.u64
                                (IntKind.wrap IntKind.u64
                                    ((BitVec.toNat
                                        (BitVec.ofInt (64) (IntKind.wrap IntKind.u64 (hi * (2 : Int) ^ min (Int.toNat (IntKind.wrap IntKind.u64 ((64 : Int) - ((Lib.bitLen (Int.toNat y)) : Int)))) (64))) |||
                                          BitVec.ofInt (64)
                                            (Int.fdiv lo ((2 : Int) ^ min (Int.toNat (IntKind.wrap IntKind.u64 ((64 : Int) - IntKind.wrap IntKind.u64 ((64 : Int) - ((Lib.bitLen (Int.toNat y)) : Int))))) (64))))) : Int) -
                                  IntKind.wrap IntKind.u64
                                    (IntKind.wrap IntKind.u64
                                        (Int.tdiv
                                          (IntKind.wrap IntKind.u64
                                            ((BitVec.toNat
                                                (BitVec.ofInt (64) (IntKind.wrap IntKind.u64 (hi * (2 : Int) ^ min (Int.toNat (IntKind.wrap IntKind.u64 ((64 : Int) - ((Lib.bitLen (Int.toNat y)) : Int)))) (64))) |||
                                                  BitVec.ofInt (64)
                                                    (Int.fdiv lo ((2 : Int) ^ min (Int.toNat (IntKind.wrap IntKind.u64 ((64 : Int) - IntKind.wrap IntKind.u64 ((64 : Int) - ((Lib.bitLen (Int.toNat y)) : Int))))) (64))))) : Int))
                                          (Int.fdiv (IntKind.wrap IntKind.u64 (y * (2 : Int) ^ min (Int.toNat (IntKind.wrap IntKind.u64 ((64 : Int) - ((Lib.bitLen (Int.toNat y)) : Int)))) (64))) (4294967296 : Int))) *
                                      Int.fdiv (IntKind.wrap IntKind.u64 (y * (2 : Int) ^ min (Int.toNat (IntKind.wrap IntKind.u64 ((64 : Int) - ((Lib.bitLen (Int.toNat y)) : Int)))) (64))) (4294967296 : Int)))),
                            AV.junk, AV.junk, AV.junk, AV.junk, AV.junk, AV.junk, AV.junk, AV.junk, AV.junk, AV.junk, AV.junk, AV.junk, AV.junk, AV.junk, AV.junk, AV.junk, AV.junk, AV.junk, AV.junk, AV.junk, AV.junk, AV.junk, AV.junk,
                            AV.junk, AV.junk, AV.junk, AV.junk, AV.junk, AV.junk, AV.junk, AV.junk, AV.junk, AV.junk, AV.junk, AV.junk, AV.junk, AV.junk, AV.junk, AV.junk, AV.junk, AV.junk, AV.junk, AV.junk, AV.junk, AV.junk, AV.junk,
                            AV.junk, AV.junk, AV.junk, AV.junk, AV.junk, AV.junk, AV.junk, AV.junk, AV.junk, AV.junk, AV.junk, AV.junk, AV.junk, AV.junk, AV.junk, AV.junk, AV.junk, AV.junk, AV.junk, AV.junk, AV.junk, AV.junk, AV.junk,
                            AV.junk, AV.junk, AV.junk, AV.junk, AV.junk, AV.junk, AV.junk, AV.junk, AV.junk, AV.junk, AV.junk, AV.junk, AV.junk, AV.junk, AV.junk, AV.junk, AV.junk, AV.junk, AV.junk, AV.junk, AV.junk, AV.junk, AV.junk,
                            AV.junk, AV.junk, AV.junk, AV.junk, AV.junk, AV.junk, AV.junk, AV.junk, AV.junk, AV.junk, AV.junk, AV.junk, AV.junk, AV.junk, AV.junk, AV.junk, AV.junk, AV.junk, AV.junk, AV.junk, AV.junk, AV.junk, AV.junk,
                            AV.junk, AV.junk, AV.junk]
                          [])
                        (St.mk
                          [AV.junk, AV.junk, AV.int IntKind.u64 false (IntKind.wrap IntKind.u64 (y * (2 : Int) ^ min (Int.toNat (IntKind.wrap IntKind.u64 ((64 : Int) - ((Lib.bitLen (Int.toNat y)) : Int)))) (64))), AV.junk, AV.junk,
                            AV.junk, AV.junk, AV.junk, AV.int IntKind.u64 false (IntKind.wrap IntKind.u64 ((64 : Int) - ((Lib.bitLen (Int.toNat y)) : Int))),
                            AV.int IntKind.u64 false (Int.fdiv (IntKind.wrap IntKind.u64 (y * (2 : Int) ^ min (Int.toNat (IntKind.wrap IntKind.u64 ((64 : Int) - ((Lib.bitLen (Int.toNat y)) : Int)))) (64))) (4294967296 : Int)),
                            AV.int IntKind.u64 false
                              (IntKind.wrap IntKind.u64
                                ((BitVec.toNat
                                    (BitVec.ofInt (64) (IntKind.wrap IntKind.u64 (y * (2 : Int) ^ min (Int.toNat (IntKind.wrap IntKind.u64 ((64 : Int) - ((Lib.bitLen (Int.toNat y)) : Int)))) (64))) &&&
                                      BitVec.ofInt (64) (4294967295 : Int))) : Int)),
                            AV.int IntKind.u64 false
                              (IntKind.wrap IntKind.u64
                                ((BitVec.toNat
                                    (BitVec.ofInt (64) (IntKind.wrap IntKind.u64 (hi * (2 : Int) ^ min (Int.toNat (IntKind.wrap IntKind.u64 ((64 : Int) - ((Lib.bitLen (Int.toNat y)) : Int)))) (64))) |||
                                      BitVec.ofInt (64) (Int.fdiv lo ((2 : Int) ^ min (Int.toNat (IntKind.wrap IntKind.u64 ((64 : Int) - IntKind.wrap IntKind.u64 ((64 : Int) - ((Lib.bitLen (Int.toNat y)) : Int))))) (64))))) : Int)),
                            AV.junk,
                            AV.int IntKind.u64 false (Int.fdiv (IntKind.wrap IntKind.u64 (lo * (2 : Int) ^ min (Int.toNat (IntKind.wrap IntKind.u64 ((64 : Int) - ((Lib.bitLen (Int.toNat y)) : Int)))) (64))) (4294967296 : Int)),
                            AV.int IntKind.u64 false
                              (IntKind.wrap IntKind.u64
                                ((BitVec.toNat
                                    (BitVec.ofInt (64) (IntKind.wrap IntKind.u64 (lo * (2 : Int) ^ min (Int.toNat (IntKind.wrap IntKind.u64 ((64 : Int) - ((Lib.bitLen (Int.toNat y)) : Int)))) (64))) &&&
                                      BitVec.ofInt (64) (4294967295 : Int))) : Int)),
                            AV.int IntKind.u64 false
                              (IntKind.wrap IntKind.u64
                                (Int.tdiv
                                  (IntKind.wrap IntKind.u64
                                    ((BitVec.toNat
                                        (BitVec.ofInt (64) (IntKind.wrap IntKind.u64 (hi * (2 : Int) ^ min (Int.toNat (IntKind.wrap IntKind.u64 ((64 : Int) - ((Lib.bitLen (Int.toNat y)) : Int)))) (64))) |||
                                          BitVec.ofInt (64)
                                            (Int.fdiv lo ((2 : Int) ^ min (Int.toNat (IntKind.wrap IntKind.u64 ((64 : Int) - IntKind.wrap IntKind.u64 ((64 : Int) - ((Lib.bitLen (Int.toNat y)) : Int))))) (64))))) : Int))
                                  (Int.fdiv (IntKind.wrap IntKind.u64 (y * (2 : Int) ^ min (Int.toNat (IntKind.wrap IntKind.u64 ((64 : Int) - ((Lib.bitLen (Int.toNat y)) : Int)))) (64))) (4294967296 : Int)))),
                            AV.int IntKind.u64 false
                              (IntKind.wrap IntKind.u64
                                (IntKind.wrap IntKind.u64
                                    ((BitVec.toNat
                                        (BitVec.ofInt (64) (IntKind.wrap IntKind.u64 (hi * (2 : Int) ^ min (Int.toNat (IntKind.wrap IntKind.u64 ((64 : Int) - ((Lib.bitLen (Int.toNat y)) : Int)))) (64))) |||
                                          BitVec.ofInt (64)
                                            (Int.fdiv lo ((2 : Int) ^ min (Int.toNat (IntKind.wrap IntKind.u64 ((64 : Int) - IntKind.wrap IntKind.u64 ((64 : Int) - ((Lib.bitLen (Int.toNat y)) : Int))))) (64))))) : Int) -
                                  IntKind.wrap IntKind.u64
                                    (IntKind.wrap IntKind.u64
                                        (Int.tdiv
                                          (IntKind.wrap IntKind.u64
                                            ((BitVec.toNat
                                                (BitVec.ofInt (64) (IntKind.wrap IntKind.u64 (hi * (2 : Int) ^ min (Int.toNat (IntKind.wrap IntKind.u64 ((64 : Int) - ((Lib.bitLen (Int.toNat y)) : Int)))) (64))) |||
                                                  BitVec.ofInt (64)
                                                    (Int.fdiv lo ((2 : Int) ^ min (Int.toNat (IntKind.wrap IntKind.u64 ((64 : Int) - IntKind.wrap IntKind.u64 ((64 : Int) - ((Lib.bitLen (Int.toNat y)) : Int))))) (64))))) : Int))
                                          (Int.fdiv (IntKind.wrap IntKind.u64 (y * (2 : Int) ^ min (Int.toNat (IntKind.wrap IntKind.u64 ((64 : Int) - ((Lib.bitLen (Int.toNat y)) : Int)))) (64))) (4294967296 : Int))) *
                                      Int.fdiv (IntKind.wrap IntKind.u64 (y * (2 : Int) ^ min (Int.toNat (IntKind.wrap IntKind.u64 ((64 : Int) - ((Lib.bitLen (Int.toNat y)) : Int)))) (64))) (4294967296 : Int)))),
                            AV.junk, AV.junk, AV.junk, AV.junk, AV.junk, AV.junk, AV.junk, AV.junk, AV.junk, AV.junk, AV.junk, AV.junk, AV.junk, AV.junk, AV.junk, AV.junk, AV.junk, AV.junk, AV.junk, AV.junk, AV.junk, AV.junk, AV.junk,
                            AV.junk, AV.junk, AV.junk, AV.junk, AV.junk, AV.junk, AV.junk, AV.junk, AV.junk, AV.junk, AV.junk, AV.junk, AV.junk, AV.junk, AV.junk, AV.junk, AV.junk, AV.junk, AV.junk, AV.junk, AV.junk, AV.junk, AV.junk,
                            AV.junk, AV.junk, AV.junk, AV.junk, AV.junk, AV.junk, AV.junk, AV.junk, AV.junk, AV.junk, AV.junk, AV.junk, AV.junk, AV.junk, AV.junk, AV.junk, AV.junk, AV.junk, AV.junk, AV.junk, AV.junk, AV.junk, AV.junk,
                            AV.junk, AV.junk, AV.junk, AV.junk, AV.junk, AV.junk, AV.junk, AV.junk, AV.junk, AV.junk, AV.junk, AV.junk, AV.junk, AV.junk, AV.junk, AV.junk, AV.junk, AV.junk, AV.junk, AV.junk, AV.junk, AV.junk, AV.junk,
                            AV.junk, AV.junk, AV.junk, AV.junk, AV.junk, AV.junk, AV.junk, AV.junk, AV.junk, AV.junk, AV.junk, AV.junk, AV.junk, AV.junk, AV.junk, AV.junk, AV.junk, AV.junk, AV.junk, AV.junk, AV.junk, AV.junk, AV.junk,
                            AV.junk, AV.junk, AV.junk]
                          []))
                      (Tree.chk
                        (okdiv64_0
                          (Xdiv64_0.mk (IntKind.wrap IntKind.u64 (y * (2 : Int) ^ min (Int.toNat (IntKind.wrap IntKind.u64 ((64 : Int) - ((Lib.bitLen (Int.toNat y)) : Int)))) (64)))
                            (IntKind.wrap IntKind.u64 ((64 : Int) - ((Lib.bitLen (Int.toNat y)) : Int)))
                            (Int.fdiv (IntKind.wrap IntKind.u64 (y * (2 : Int) ^ min (Int.toNat (IntKind.wrap IntKind.u64 ((64 : Int) - ((Lib.bitLen (Int.toNat y)) : Int)))) (64))) (4294967296 : Int))
                            (IntKind.wrap IntKind.u64
                              ((BitVec.toNat
                                  (BitVec.ofInt (64) (IntKind.wrap IntKind.u64 (y * (2 : Int) ^ min (Int.toNat (IntKind.wrap IntKind.u64 ((64 : Int) - ((Lib.bitLen (Int.toNat y)) : Int)))) (64))) &&&
                                    BitVec.ofInt (64) (4294967295 : Int))) : Int))
                            (IntKind.wrap IntKind.u64
                              ((BitVec.toNat
                                  (BitVec.ofInt (64) (IntKind.wrap IntKind.u64 (hi * (2 : Int) ^ min (Int.toNat (IntKind.wrap IntKind.u64 ((64 : Int) - ((Lib.bitLen (Int.toNat y)) : Int)))) (64))) |||
                                    BitVec.ofInt (64) (Int.fdiv lo ((2 : Int) ^ min (Int.toNat (IntKind.wrap IntKind.u64 ((64 : Int) - IntKind.wrap IntKind.u64 ((64 : Int) - ((Lib.bitLen (Int.toNat y)) : Int))))) (64))))) : Int))
                            (Int.fdiv (IntKind.wrap IntKind.u64 (lo * (2 : Int) ^ min (Int.toNat (IntKind.wrap IntKind.u64 ((64 : Int) - ((Lib.bitLen (Int.toNat y)) : Int)))) (64))) (4294967296 : Int))
                            (IntKind.wrap IntKind.u64
                              ((BitVec.toNat
                                  (BitVec.ofInt (64) (IntKind.wrap IntKind.u64 (lo * (2 : Int) ^ min (Int.toNat (IntKind.wrap IntKind.u64 ((64 : Int) - ((Lib.bitLen (Int.toNat y)) : Int)))) (64))) &&&
                                    BitVec.ofInt (64) (4294967295 : Int))) : Int))
                            (IntKind.wrap IntKind.u64
                              (Int.tdiv
                                (IntKind.wrap IntKind.u64
                                  ((BitVec.toNat
                                      (BitVec.ofInt (64) (IntKind.wrap IntKind.u64 (hi * (2 : Int) ^ min (Int.toNat (IntKind.wrap IntKind.u64 ((64 : Int) - ((Lib.bitLen (Int.toNat y)) : Int)))) (64))) |||
                                        BitVec.ofInt (64) (Int.fdiv lo ((2 : Int) ^ min (Int.toNat (IntKind.wrap IntKind.u64 ((64 : Int) - IntKind.wrap IntKind.u64 ((64 : Int) - ((Lib.bitLen (Int.toNat y)) : Int))))) (64))))) : Int))
                                (Int.fdiv (IntKind.wrap IntKind.u64 (y * (2 : Int) ^ min (Int.toNat (IntKind.wrap IntKind.u64 ((64 : Int) - ((Lib.bitLen (Int.toNat y)) : Int)))) (64))) (4294967296 : Int))))
                            (IntKind.wrap IntKind.u64
                              (IntKind.wrap IntKind.u64
                                  ((BitVec.toNat
                                      (BitVec.ofInt (64) (IntKind.wrap IntKind.u64 (hi * (2 : Int) ^ min (Int.toNat (IntKind.wrap IntKind.u64 ((64 : Int) - ((Lib.bitLen (Int.toNat y)) : Int)))) (64))) |||
                                        BitVec.ofInt (64) (Int.fdiv lo ((2 : Int) ^ min (Int.toNat (IntKind.wrap IntKind.u64 ((64 : Int) - IntKind.wrap IntKind.u64 ((64 : Int) - ((Lib.bitLen (Int.toNat y)) : Int))))) (64))))) : Int) -
                                IntKind.wrap IntKind.u64
                                  (IntKind.wrap IntKind.u64
                                      (Int.tdiv
                                        (IntKind.wrap IntKind.u64
                                          ((BitVec.toNat
                                              (BitVec.ofInt (64) (IntKind.wrap IntKind.u64 (hi * (2 : Int) ^ min (Int.toNat (IntKind.wrap IntKind.u64 ((64 : Int) - ((Lib.bitLen (Int.toNat y)) : Int)))) (64))) |||
                                                BitVec.ofInt (64)
                                                  (Int.fdiv lo ((2 : Int) ^ min (Int.toNat (IntKind.wrap IntKind.u64 ((64 : Int) - IntKind.wrap IntKind.u64 ((64 : Int) - ((Lib.bitLen (Int.toNat y)) : Int))))) (64))))) : Int))
                                        (Int.fdiv (IntKind.wrap IntKind.u64 (y * (2 : Int) ^ min (Int.toNat (IntKind.wrap IntKind.u64 ((64 : Int) - ((Lib.bitLen (Int.toNat y)) : Int)))) (64))) (4294967296 : Int))) *
                                    Int.fdiv (IntKind.wrap IntKind.u64 (y * (2 : Int) ^ min (Int.toNat (IntKind.wrap IntKind.u64 ((64 : Int) - ((Lib.bitLen (Int.toNat y)) : Int)))) (64))) (4294967296 : Int))))))
                        (Tree.br (!decide (Int.fdiv (IntKind.wrap IntKind.u64 (y * (2 : Int) ^ min (Int.toNat (IntKind.wrap IntKind.u64 ((64 : Int) - ((Lib.bitLen (Int.toNat y)) : Int)))) (64))) (4294967296 : Int) = (0 : Int)))
                          (Tree.chk
                            (St.le
                              (St.mk
                                [AV.junk, AV.junk, AV.int IntKind.u64 false (IntKind.wrap IntKind.u64 (y * (2 : Int) ^ min (Int.toNat (IntKind.wrap IntKind.u64 ((64 : Int) - ((Lib.bitLen (Int.toNat y)) : Int)))) (64))), AV.junk,
                                  AV.junk, AV.junk, AV.junk, AV.junk, AV.int IntKind.u64 false (IntKind.wrap IntKind.u64 ((64 : Int) - ((Lib.bitLen (Int.toNat y)) : Int))),
                                  AV.int IntKind.u64 false (Int.fdiv (IntKind.wrap IntKind.u64 (y * (2 : Int) ^ min (Int.toNat (IntKind.wrap IntKind.u64 ((64 : Int) - ((Lib.bitLen (Int.toNat y)) : Int)))) (64))) (4294967296 : Int)),
                                  AV.int IntKind.u64 false
                                    (IntKind.wrap IntKind.u64
                                      ((BitVec.toNat
                                          (BitVec.ofInt (64) (IntKind.wrap IntKind.u64 (y * (2 : Int) ^ min (Int.toNat (IntKind.wrap IntKind.u64 ((64 : Int) - ((Lib.bitLen (Int.toNat y)) : Int)))) (64))) &&&
                                            BitVec.ofInt (64) (4294967295 : Int))) : Int)),
                                  AV.junk, AV.junk, AV.junk,
                                  AV.int IntKind.u64 false
                                    (IntKind.wrap IntKind.u64
                                      ((BitVec.toNat
                                          (BitVec.ofInt (64) (IntKind.wrap IntKind.u64 (lo * (2 : Int) ^ min (Int.toNat (IntKind.wrap IntKind.u64 ((64 : Int) - ((Lib.bitLen (Int.toNat y)) : Int)))) (64))) &&&
                                            BitVec.ofInt (64) (4294967295 : Int))) : Int)),
                                  AV.int IntKind.u64 false
                                    (dvQ
                                      (IntKind.wrap IntKind.u64
                                        ((BitVec.toNat
                                            (BitVec.ofInt (64) (IntKind.wrap IntKind.u64 (hi * (2 : Int) ^ min (Int.toNat (IntKind.wrap IntKind.u64 ((64 : Int) - ((Lib.bitLen (Int.toNat y)) : Int)))) (64))) |||
                                              BitVec.ofInt (64)
                                                (Int.fdiv lo ((2 : Int) ^ min (Int.toNat (IntKind.wrap IntKind.u64 ((64 : Int) - IntKind.wrap IntKind.u64 ((64 : Int) - ((Lib.bitLen (Int.toNat y)) : Int))))) (64))))) : Int))
                                      (Int.fdiv (IntKind.wrap IntKind.u64 (lo * (2 : Int) ^ min (Int.toNat (IntKind.wrap IntKind.u64 ((64 : Int) - ((Lib.bitLen (Int.toNat y)) : Int)))) (64))) (4294967296 : Int))
                                      (IntKind.wrap IntKind.u64 (y * (2 : Int) ^ min (Int.toNat (IntKind.wrap IntKind.u64 ((64 : Int) - ((Lib.bitLen (Int.toNat y)) : Int)))) (64)))),
                                  AV.int IntKind.u64 false
                                    (IntKind.wrap IntKind.u64
                                      (IntKind.wrap IntKind.u64
                                          (IntKind.wrap IntKind.u64
                                              (IntKind.wrap IntKind.u64
                                                  (IntKind.wrap IntKind.u64
                                                      ((BitVec.toNat
                                                          (BitVec.ofInt (64) (IntKind.wrap IntKind.u64 (hi * (2 : Int) ^ min (Int.toNat (IntKind.wrap IntKind.u64 ((64 : Int) - ((Lib.bitLen (Int.toNat y)) : Int)))) (64))) |||
                                                            BitVec.ofInt (64)
                                                              (Int.fdiv lo ((2 : Int) ^ min (Int.toNat (IntKind.wrap IntKind.u64 ((64 : Int) - IntKind.wrap IntKind.u64 ((64 : Int) - ((Lib.bitLen (Int.toNat y)) : Int))))) (64))))) : Int) *
                                                    (4294967296 : Int)) +
                                                Int.fdiv (IntKind.wrap IntKind.u64 (lo * (2 : Int) ^ min (Int.toNat (IntKind.wrap IntKind.u64 ((64 : Int) - ((Lib.bitLen (Int.toNat y)) : Int)))) (64))) (4294967296 : Int)) -
                                            IntKind.wrap IntKind.u64
                                              (dvQ
                                                  (IntKind.wrap IntKind.u64
                                                    ((BitVec.toNat
                                                        (BitVec.ofInt (64) (IntKind.wrap IntKind.u64 (hi * (2 : Int) ^ min (Int.toNat (IntKind.wrap IntKind.u64 ((64 : Int) - ((Lib.bitLen (Int.toNat y)) : Int)))) (64))) |||
                                                          BitVec.ofInt (64)
                                                            (Int.fdiv lo ((2 : Int) ^ min (Int.toNat (IntKind.wrap IntKind.u64 ((64 : Int) - IntKind.wrap IntKind.u64 ((64 : Int) - ((Lib.bitLen (Int.toNat y)) : Int))))) (64))))) : Int))
                                                  (Int.fdiv (IntKind.wrap IntKind.u64 (lo * (2 : Int) ^ min (Int.toNat (IntKind.wrap IntKind.u64 ((64 : Int) - ((Lib.bitLen (Int.toNat y)) : Int)))) (64))) (4294967296 : Int))
                                                  (IntKind.wrap IntKind.u64 (y * (2 : Int) ^ min (Int.toNat (IntKind.wrap IntKind.u64 ((64 : Int) - ((Lib.bitLen (Int.toNat y)) : Int)))) (64))) *
                                                IntKind.wrap IntKind.u64 (y * (2 : Int) ^ min (Int.toNat (IntKind.wrap IntKind.u64 ((64 : Int) - ((Lib.bitLen (Int.toNat y)) : Int)))) (64)))) -
                                        IntKind.wrap IntKind.u64
                                          (IntKind.wrap IntKind.u64
                                              (Int.tdiv
                                                (IntKind.wrap IntKind.u64
                                                  (IntKind.wrap IntKind.u64
                                                      (IntKind.wrap IntKind.u64
                                                          (IntKind.wrap IntKind.u64
                                                              ((BitVec.toNat
                                                                  (BitVec.ofInt (64)
                                                                      (IntKind.wrap IntKind.u64 (hi * (2 : Int) ^ min (Int.toNat (IntKind.wrap IntKind.u64 ((64 : Int) - ((Lib.bitLen (Int.toNat y)) : Int)))) (64))) |||
                                                                    BitVec.ofInt (64)
                                                                      (Int.fdiv lo
                                                                        ((2 : Int) ^ min (Int.toNat (IntKind.wrap IntKind.u64 ((64 : Int) - IntKind.wrap IntKind.u64 ((64 : Int) - ((Lib.bitLen (Int.toNat y)) : Int))))) (64))))) : Int) *
                                                            (4294967296 : Int)) +
                                                        Int.fdiv (IntKind.wrap IntKind.u64 (lo * (2 : Int) ^ min (Int.toNat (IntKind.wrap IntKind.u64 ((64 : Int) - ((Lib.bitLen (Int.toNat y)) : Int)))) (64))) (4294967296 : Int)) -
                                                    IntKind.wrap IntKind.u64
                                                      (dvQ
                                                          (IntKind.wrap IntKind.u64
                                                            ((BitVec.toNat
                                                                (BitVec.ofInt (64)
                                                                    (IntKind.wrap IntKind.u64 (hi * (2 : Int) ^ min (Int.toNat (IntKind.wrap IntKind.u64 ((64 : Int) - ((Lib.bitLen (Int.toNat y)) : Int)))) (64))) |||
                                                                  BitVec.ofInt (64)
                                                                    (Int.fdiv lo
                                                                      ((2 : Int) ^ min (Int.toNat (IntKind.wrap IntKind.u64 ((64 : Int) - IntKind.wrap IntKind.u64 ((64 : Int) - ((Lib.bitLen (Int.toNat y)) : Int))))) (64))))) : Int))
                                                          (Int.fdiv (IntKind.wrap IntKind.u64 (lo * (2 : Int) ^ min (Int.toNat (IntKind.wrap IntKind.u64 ((64 : Int) - ((Lib.bitLen (Int.toNat y)) : Int)))) (64))) (4294967296 : Int))
                                                          (IntKind.wrap IntKind.u64 (y * (2 : Int) ^ min (Int.toNat (IntKind.wrap IntKind.u64 ((64 : Int) - ((Lib.bitLen (Int.toNat y)) : Int)))) (64))) *
                                                        IntKind.wrap IntKind.u64 (y * (2 : Int) ^ min (Int.toNat (IntKind.wrap IntKind.u64 ((64 : Int) - ((Lib.bitLen (Int.toNat y)) : Int)))) (64)))))
                                                (Int.fdiv (IntKind.wrap IntKind.u64 (y * (2 : Int) ^ min (Int.toNat (IntKind.wrap IntKind.u64 ((64 : Int) - ((Lib.bitLen (Int.toNat y)) : Int)))) (64))) (4294967296 : Int))) *
                                            Int.fdiv (IntKind.wrap IntKind.u64 (y * (2 : Int) ^ min (Int.toNat (IntKind.wrap IntKind.u64 ((64 : Int) - ((Lib.bitLen (Int.toNat y)) : Int)))) (64))) (4294967296 : Int)))),
                                  AV.int IntKind.u64 false
                                    (IntKind.wrap IntKind.u64
                                      (IntKind.wrap IntKind.u64
                                          (IntKind.wrap IntKind.u64
                                              (IntKind.wrap IntKind.u64
                                                  ((BitVec.toNat
                                                      (BitVec.ofInt (64) (IntKind.wrap IntKind.u64 (hi * (2 : Int) ^ min (Int.toNat (IntKind.wrap IntKind.u64 ((64 : Int) - ((Lib.bitLen (Int.toNat y)) : Int)))) (64))) |||
                                                        BitVec.ofInt (64)
                                                          (Int.fdiv lo ((2 : Int) ^ min (Int.toNat (IntKind.wrap IntKind.u64 ((64 : Int) - IntKind.wrap IntKind.u64 ((64 : Int) - ((Lib.bitLen (Int.toNat y)) : Int))))) (64))))) : Int) *
                                                (4294967296 : Int)) +
                                            Int.fdiv (IntKind.wrap IntKind.u64 (lo * (2 : Int) ^ min (Int.toNat (IntKind.wrap IntKind.u64 ((64 : Int) - ((Lib.bitLen (Int.toNat y)) : Int)))) (64))) (4294967296 : Int)) -
                                        IntKind.wrap IntKind.u64
                                          (dvQ
                                              (IntKind.wrap IntKind.u64
                                                ((BitVec.toNat
                                                    (BitVec.ofInt (64) (IntKind.wrap IntKind.u64 (hi * (2 : Int) ^ min (Int.toNat (IntKind.wrap IntKind.u64 ((64 : Int) - ((Lib.bitLen (Int.toNat y)) : Int)))) (64))) |||
                                                      BitVec.ofInt (64)
                                                        (Int.fdiv lo ((2 : Int) ^ min (Int.toNat (IntKind.wrap IntKind.u64 ((64 : Int) - IntKind.wrap IntKind.u64 ((64 : Int) - ((Lib.bitLen (Int.toNat y)) : Int))))) (64))))) : Int))
                                              (Int.fdiv (IntKind.wrap IntKind.u64 (lo * (2 : Int) ^ min (Int.toNat (IntKind.wrap IntKind.u64 ((64 : Int) - ((Lib.bitLen (Int.toNat y)) : Int)))) (64))) (4294967296 : Int))
                                              (IntKind.wrap IntKind.u64 (y * (2 : Int) ^ min (Int.toNat (IntKind.wrap IntKind.u64 ((64 : Int) - ((Lib.bitLen (Int.toNat y)) : Int)))) (64))) *
                                            IntKind.wrap IntKind.u64 (y * (2 : Int) ^ min (Int.toNat (IntKind.wrap IntKind.u64 ((64 : Int) - ((Lib.bitLen (Int.toNat y)) : Int)))) (64))))),
                                  AV.int IntKind.u64 false
                                    (IntKind.wrap IntKind.u64
                                      (Int.tdiv
                                        (IntKind.wrap IntKind.u64
                                          (IntKind.wrap IntKind.u64
                                              (IntKind.wrap IntKind.u64
                                                  (IntKind.wrap IntKind.u64
                                                      ((BitVec.toNat
                                                          (BitVec.ofInt (64) (IntKind.wrap IntKind.u64 (hi * (2 : Int) ^ min (Int.toNat (IntKind.wrap IntKind.u64 ((64 : Int) - ((Lib.bitLen (Int.toNat y)) : Int)))) (64))) |||
                                                            BitVec.ofInt (64)
                                                              (Int.fdiv lo ((2 : Int) ^ min (Int.toNat (IntKind.wrap IntKind.u64 ((64 : Int) - IntKind.wrap IntKind.u64 ((64 : Int) - ((Lib.bitLen (Int.toNat y)) : Int))))) (64))))) : Int) *
                                                    (4294967296 : Int)) +
                                                Int.fdiv (IntKind.wrap IntKind.u64 (lo * (2 : Int) ^ min (Int.toNat (IntKind.wrap IntKind.u64 ((64 : Int) - ((Lib.bitLen (Int.toNat y)) : Int)))) (64))) (4294967296 : Int)) -
                                            IntKind.wrap IntKind.u64
                                              (dvQ
                                                  (IntKind.wrap IntKind.u64
                                                    ((BitVec.toNat
                                                        (BitVec.ofInt (64) (IntKind.wrap IntKind.u64 (hi * (2 : Int) ^ min (Int.toNat (IntKind.wrap IntKind.u64 ((64 : Int) - ((Lib.bitLen (Int.toNat y)) : Int)))) (64))) |||
                                                          BitVec.ofInt (64)
                                                            (Int.fdiv lo ((2 : Int) ^ min (Int.toNat (IntKind.wrap IntKind.u64 ((64 : Int) - IntKind.wrap IntKind.u64 ((64 : Int) - ((Lib.bitLen (Int.toNat y)) : Int))))) (64))))) : Int))
                                                  (Int.fdiv (IntKind.wrap IntKind.u64 (lo * (2 : Int) ^ min (Int.toNat (IntKind.wrap IntKind.u64 ((64 : Int) - ((Lib.bitLen (Int.toNat y)) : Int)))) (64))) (4294967296 : Int))
                                                  (IntKind.wrap IntKind.u64 (y * (2 : Int) ^ min (Int.toNat (IntKind.wrap IntKind.u64 ((64 : Int) - ((Lib.bitLen (Int.toNat y)) : Int)))) (64))) *
                                                IntKind.wrap IntKind.u64 (y * (2 : Int) ^ min (Int.toNat (IntKind.wrap IntKind.u64 ((64 : Int) - ((Lib.bitLen (Int.toNat y)) : Int)))) (64)))))
                                        (Int.fdiv (IntKind.wrap IntKind.u64 (y * (2 : Int) ^ min (Int.toNat (IntKind.wrap IntKind.u64 ((64 : Int) - ((Lib.bitLen (Int.toNat y)) : Int)))) (64))) (4294967296 : Int)))),
                                  AV.junk, AV.junk, AV.junk, AV.junk, AV.junk, AV.junk, AV.junk, AV.junk, AV.junk, AV.junk, AV.junk, AV.junk, AV.junk, AV.junk, AV.junk, AV.junk, AV.junk, AV.junk, AV.junk, AV.junk, AV.junk, AV.junk, AV.junk,
                                  AV.junk, AV.junk, AV.junk, AV.junk, AV.junk, AV.junk, AV.junk, AV.junk, AV.junk, AV.junk, AV.junk, AV.junk, AV.junk, AV.junk, AV.junk, AV.junk, AV.junk, AV.junk, AV.junk, AV.junk, AV.junk, AV.junk, AV.junk,
                                  AV.junk, AV.junk, AV.junk, AV.junk, AV.junk, AV.junk, AV.junk, AV.junk, AV.junk, AV.junk, AV.junk, AV.junk, AV.junk, AV.junk, AV.junk, AV.junk, AV.junk, AV.junk, AV.junk, AV.junk, AV.junk, AV.junk, AV.junk,
                                  AV.junk, AV.junk, AV.junk, AV.junk, AV.junk, AV.junk, AV.junk, AV.junk, AV.junk, AV.junk, AV.junk, AV.junk, AV.junk, AV.junk, AV.junk, AV.junk, AV.junk, AV.junk, AV.junk, AV.junk, AV.junk, AV.junk, AV.junk,
                                  AV.junk, AV.junk, AV.junk, AV.junk, AV.junk, AV.junk, AV.junk, AV.junk, AV.junk, AV.junk, AV.junk, AV.junk, AV.junk, AV.junk, AV.junk, AV.junk, AV.junk, AV.junk, AV.junk, AV.junk, AV.junk, AV.junk, AV.junk,
                                  AV.junk]
                                [])
                              (St.mk
                                [AV.junk, AV.junk, AV.int IntKind.u64 false (IntKind.wrap IntKind.u64 (y * (2 : Int) ^ min (Int.toNat (IntKind.wrap IntKind.u64 ((64 : Int) - ((Lib.bitLen (Int.toNat y)) : Int)))) (64))), AV.junk,
                                  AV.junk, AV.junk, AV.junk, AV.junk, AV.int IntKind.u64 false (IntKind.wrap IntKind.u64 ((64 : Int) - ((Lib.bitLen (Int.toNat y)) : Int))),
                                  AV.int IntKind.u64 false (Int.fdiv (IntKind.wrap IntKind.u64 (y * (2 : Int) ^ min (Int.toNat (IntKind.wrap IntKind.u64 ((64 : Int) - ((Lib.bitLen (Int.toNat y)) : Int)))) (64))) (4294967296 : Int)),
                                  AV.int IntKind.u64 false
                                    (IntKind.wrap IntKind.u64
                                      ((BitVec.toNat
                                          (BitVec.ofInt (64) (IntKind.wrap IntKind.u64 (y * (2 : Int) ^ min (Int.toNat (IntKind.wrap IntKind.u64 ((64 : Int) - ((Lib.bitLen (Int.toNat y)) : Int)))) (64))) &&&
                                            BitVec.ofInt (64) (4294967295 : Int))) : Int)),
                                  AV.junk, AV.junk, AV.junk,
                                  AV.int IntKind.u64 false
                                    (IntKind.wrap IntKind.u64
                                      ((BitVec.toNat
                                          (BitVec.ofInt (64) (IntKind.wrap IntKind.u64 (lo * (2 : Int) ^ min (Int.toNat (IntKind.wrap IntKind.u64 ((64 : Int) - ((Lib.bitLen (Int.toNat y)) : Int)))) (64))) &&&
                                            BitVec.ofInt (64) (4294967295 : Int))) : Int)),
                                  AV.int IntKind.u64 false
                                    (dvQ
                                      (IntKind.wrap IntKind.u64
                                        ((BitVec.toNat
                                            (BitVec.ofInt (64) (IntKind.wrap IntKind.u64 (hi * (2 : Int) ^ min (Int.toNat (IntKind.wrap IntKind.u64 ((64 : Int) - ((Lib.bitLen (Int.toNat y)) : Int)))) (64))) |||
                                              BitVec.ofInt (64)
                                                (Int.fdiv lo ((2 : Int) ^ min (Int.toNat (IntKind.wrap IntKind.u64 ((64 : Int) - IntKind.wrap IntKind.u64 ((64 : Int) - ((Lib.bitLen (Int.toNat y)) : Int))))) (64))))) : Int))
                                      (Int.fdiv (IntKind.wrap IntKind.u64 (lo * (2 : Int) ^ min (Int.toNat (IntKind.wrap IntKind.u64 ((64 : Int) - ((Lib.bitLen (Int.toNat y)) : Int)))) (64))) (4294967296 : Int))
                                      (IntKind.wrap IntKind.u64 (y * (2 : Int) ^ min (Int.toNat (IntKind.wrap IntKind.u64 ((64 : Int) - ((Lib.bitLen (Int.toNat y)) : Int)))) (64)))),
                                  AV.int IntKind.u64 false
                                    (IntKind.wrap IntKind.u64
                                      (IntKind.wrap IntKind.u64
                                          (IntKind.wrap IntKind.u64
                                              (IntKind.wrap IntKind.u64
                                                  (IntKind.wrap IntKind.u64
                                                      ((BitVec.toNat
                                                          (BitVec.ofInt (64) (IntKind.wrap IntKind.u64 (hi * (2 : Int) ^ min (Int.toNat (IntKind.wrap IntKind.u64 ((64 : Int) - ((Lib.bitLen (Int.toNat y)) : Int)))) (64))) |||
                                                            BitVec.ofInt (64)
                                                              (Int.fdiv lo ((2 : Int) ^ min (Int.toNat (IntKind.wrap IntKind.u64 ((64 : Int) - IntKind.wrap IntKind.u64 ((64 : Int) - ((Lib.bitLen (Int.toNat y)) : Int))))) (64))))) : Int) *
                                                    (4294967296 : Int)) +
                                                Int.fdiv (IntKind.wrap IntKind.u64 (lo * (2 : Int) ^ min (Int.toNat (IntKind.wrap IntKind.u64 ((64 : Int) - ((Lib.bitLen (Int.toNat y)) : Int)))) (64))) (4294967296 : Int)) -
                                            IntKind.wrap IntKind.u64
                                              (dvQ
                                                  (IntKind.wrap IntKind.u64
                                                    ((BitVec.toNat
                                                        (BitVec.ofInt (64) (IntKind.wrap IntKind.u64 (hi * (2 : Int) ^ min (Int.toNat (IntKind.wrap IntKind.u64 ((64 : Int) - ((Lib.bitLen (Int.toNat y)) : Int)))) (64))) |||
                                                          BitVec.ofInt (64)
                                                            (Int.fdiv lo ((2 : Int) ^ min (Int.toNat (IntKind.wrap IntKind.u64 ((64 : Int) - IntKind.wrap IntKind.u64 ((64 : Int) - ((Lib.bitLen (Int.toNat y)) : Int))))) (64))))) : Int))
                                                  (Int.fdiv (IntKind.wrap IntKind.u64 (lo * (2 : Int) ^ min (Int.toNat (IntKind.wrap IntKind.u64 ((64 : Int) - ((Lib.bitLen (Int.toNat y)) : Int)))) (64))) (4294967296 : Int))
                                                  (IntKind.wrap IntKind.u64 (y * (2 : Int) ^ min (Int.toNat (IntKind.wrap IntKind.u64 ((64 : Int) - ((Lib.bitLen (Int.toNat y)) : Int)))) (64))) *
                                                IntKind.wrap IntKind.u64 (y * (2 : Int) ^ min (Int.toNat (IntKind.wrap IntKind.u64 ((64 : Int) - ((Lib.bitLen (Int.toNat y)) : Int)))) (64)))) -
                                        IntKind.wrap IntKind.u64
                                          (IntKind.wrap IntKind.u64
                                              (Int.tdiv
                                                (IntKind.wrap IntKind.u64
                                                  (IntKind.wrap IntKind.u64
                                                      (IntKind.wrap IntKind.u64
                                                          (IntKind.wrap IntKind.u64
                                                              ((BitVec.toNat
                                                                  (BitVec.ofInt (64)
                                                                      (IntKind.wrap IntKind.u64 (hi * (2 : Int) ^ min (Int.toNat (IntKind.wrap IntKind.u64 ((64 : Int) - ((Lib.bitLen (Int.toNat y)) : Int)))) (64))) |||
                                                                    BitVec.ofInt (64)
                                                                      (Int.fdiv lo
                                                                        ((2 : Int) ^ min (Int.toNat (IntKind.wrap IntKind.u64 ((64 : Int) - IntKind.wrap IntKind.u64 ((64 : Int) - ((Lib.bitLen (Int.toNat y)) : Int))))) (64))))) : Int) *
                                                            (4294967296 : Int)) +
                                                        Int.fdiv (IntKind.wrap IntKind.u64 (lo * (2 : Int) ^ min (Int.toNat (IntKind.wrap IntKind.u64 ((64 : Int) - ((Lib.bitLen (Int.toNat y)) : Int)))) (64))) (4294967296 : Int)) -
                                                    IntKind.wrap IntKind.u64
                                                      (dvQ
                                                          (IntKind.wrap IntKind.u64
                                                            ((BitVec.toNat
                                                                (BitVec.ofInt (64)
                                                                    (IntKind.wrap IntKind.u64 (hi * (2 : Int) ^ min (Int.toNat (IntKind.wrap IntKind.u64 ((64 : Int) - ((Lib.bitLen (Int.toNat y)) : Int)))) (64))) |||
                                                                  BitVec.ofInt (64)
                                                                    (Int.fdiv lo
                                                                      ((2 : Int) ^ min (Int.toNat (IntKind.wrap IntKind.u64 ((64 : Int) - IntKind.wrap IntKind.u64 ((64 : Int) - ((Lib.bitLen (Int.toNat y)) : Int))))) (64))))) : Int))
                                                          (Int.fdiv (IntKind.wrap IntKind.u64 (lo * (2 : Int) ^ min (Int.toNat (IntKind.wrap IntKind.u64 ((64 : Int) - ((Lib.bitLen (Int.toNat y)) : Int)))) (64))) (4294967296 : Int))
                                                          (IntKind.wrap IntKind.u64 (y * (2 : Int) ^ min (Int.toNat (IntKind.wrap IntKind.u64 ((64 : Int) - ((Lib.bitLen (Int.toNat y)) : Int)))) (64))) *
                                                        IntKind.wrap IntKind.u64 (y * (2 : Int) ^ min (Int.toNat (IntKind.wrap IntKind.u64 ((64 : Int) - ((Lib.bitLen (Int.toNat y)) : Int)))) (64)))))
                                                (Int.fdiv (IntKind.wrap IntKind.u64 (y * (2 : Int) ^ min (Int.toNat (IntKind.wrap IntKind.u64 ((64 : Int) - ((Lib.bitLen (Int.toNat y)) : Int)))) (64))) (4294967296 : Int))) *
                                            Int.fdiv (IntKind.wrap IntKind.u64 (y * (2 : Int) ^ min (Int.toNat (IntKind.wrap IntKind.u64 ((64 : Int) - ((Lib.bitLen (Int.toNat y)) : Int)))) (64))) (4294967296 : Int)))),
                                  AV.int IntKind.u64 false
                                    (IntKind.wrap IntKind.u64
                                      (IntKind.wrap IntKind.u64
                                          (IntKind.wrap IntKind.u64
                                              (IntKind.wrap IntKind.u64
                                                  ((BitVec.toNat
                                                      (BitVec.ofInt (64) (IntKind.wrap IntKind.u64 (hi * (2 : Int) ^ min (Int.toNat (IntKind.wrap IntKind.u64 ((64 : Int) - ((Lib.bitLen (Int.toNat y)) : Int)))) (64))) |||
                                                        BitVec.ofInt (64)
                                                          (Int.fdiv lo ((2 : Int) ^ min (Int.toNat (IntKind.wrap IntKind.u64 ((64 : Int) - IntKind.wrap IntKind.u64 ((64 : Int) - ((Lib.bitLen (Int.toNat y)) : Int))))) (64))))) : Int) *
                                                (4294967296 : Int)) +
                                            Int.fdiv (IntKind.wrap IntKind.u64 (lo * (2 : Int) ^ min (Int.toNat (IntKind.wrap IntKind.u64 ((64 : Int) - ((Lib.bitLen (Int.toNat y)) : Int)))) (64))) (4294967296 : Int)) -
                                        IntKind.wrap IntKind.u64
                                          (dvQ
                                              (IntKind.wrap IntKind.u64
                                                ((BitVec.toNat
                                                    (BitVec.ofInt (64) (IntKind.wrap IntKind.u64 (hi * (2 : Int) ^ min (Int.toNat (IntKind.wrap IntKind.u64 ((64 : Int) - ((Lib.bitLen (Int.toNat y)) : Int)))) (64))) |||
                                                      BitVec.ofInt (64)
                                                        (Int.fdiv lo ((2 : Int) ^ min (Int.toNat (IntKind.wrap IntKind.u64 ((64 : Int) - IntKind.wrap IntKind.u64 ((64 : Int) - ((Lib.bitLen (Int.toNat y)) : Int))))) (64))))) : Int))
                                              (Int.fdiv (IntKind.wrap IntKind.u64 (lo * (2 : Int) ^ min (Int.toNat (IntKind.wrap IntKind.u64 ((64 : Int) - ((Lib.bitLen (Int.toNat y)) : Int)))) (64))) (4294967296 : Int))
                                              (IntKind.wrap IntKind.u64 (y * (2 : Int) ^ min (Int.toNat (IntKind.wrap IntKind.u64 ((64 : Int) - ((Lib.bitLen (Int.toNat y)) : Int)))) (64))) *
                                            IntKind.wrap IntKind.u64 (y * (2 : Int) ^ min (Int.toNat (IntKind.wrap IntKind.u64 ((64 : Int) - ((Lib.bitLen (Int.toNat y)) : Int)))) (64))))),
                                  AV.int IntKind.u64 false
                                    (IntKind.wrap IntKind.u64
                                      (Int.tdiv
                                        (IntKind.wrap IntKind.u64
                                          (IntKind.wrap IntKind.u64
                                              (IntKind.wrap IntKind.u64
                                                  (IntKind.wrap IntKind.u64
                                                      ((BitVec.toNat
                                                          (BitVec.ofInt (64) (IntKind.wrap IntKind.u64 (hi * (2 : Int) ^ min (Int.toNat (IntKind.wrap IntKind.u64 ((64 : Int) - ((Lib.bitLen (Int.toNat y)) : Int)))) (64))) |||
                                                            BitVec.ofInt (64)
                                                              (Int.fdiv lo ((2 : Int) ^ min (Int.toNat (IntKind.wrap IntKind.u64 ((64 : Int) - IntKind.wrap IntKind.u64 ((64 : Int) - ((Lib.bitLen (Int.toNat y)) : Int))))) (64))))) : Int) *
                                                    (4294967296 : Int)) +
                                                Int.fdiv (IntKind.wrap IntKind.u64 (lo * (2 : Int) ^ min (Int.toNat (IntKind.wrap IntKind.u64 ((64 : Int) - ((Lib.bitLen (Int.toNat y)) : Int)))) (64))) (4294967296 : Int)) -
                                            IntKind.wrap IntKind.u64
                                              (dvQ
                                                  (IntKind.wrap IntKind.u64
                                                    ((BitVec.toNat
                                                        (BitVec.ofInt (64) (IntKind.wrap IntKind.u64 (hi * (2 : Int) ^ min (Int.toNat (IntKind.wrap IntKind.u64 ((64 : Int) - ((Lib.bitLen (Int.toNat y)) : Int)))) (64))) |||
                                                          BitVec.ofInt (64)
                                                            (Int.fdiv lo ((2 : Int) ^ min (Int.toNat (IntKind.wrap IntKind.u64 ((64 : Int) - IntKind.wrap IntKind.u64 ((64 : Int) - ((Lib.bitLen (Int.toNat y)) : Int))))) (64))))) : Int))
                                                  (Int.fdiv (IntKind.wrap IntKind.u64 (lo * (2 : Int) ^ min (Int.toNat (IntKind.wrap IntKind.u64 ((64 : Int) - ((Lib.bitLen (Int.toNat y)) : Int)))) (64))) (4294967296 : Int))
                                                  (IntKind.wrap IntKind.u64 (y * (2 : Int) ^ min (Int.toNat (IntKind.wrap IntKind.u64 ((64 : Int) - ((Lib.bitLen (Int.toNat y)) : Int)))) (64))) *
                                                IntKind.wrap IntKind.u64 (y * (2 : Int) ^ min (Int.toNat (IntKind.wrap IntKind.u64 ((64 : Int) - ((Lib.bitLen (Int.toNat y)) : Int)))) (64)))))
                                        (Int.fdiv (IntKind.wrap IntKind.u64 (y * (2 : Int) ^ min (Int.toNat (IntKind.wrap IntKind.u64 ((64 : Int) - ((Lib.bitLen (Int.toNat y)) : Int)))) (64))) (4294967296 : Int)))),
                                  AV.junk, AV.junk, AV.junk, AV.junk, AV.junk, AV.junk, AV.junk, AV.junk, AV.junk, AV.junk, AV.junk, AV.junk, AV.junk, AV.junk, AV.junk, AV.junk, AV.junk, AV.junk, AV.junk, AV.junk, AV.junk, AV.junk, AV.junk,
                                  AV.junk, AV.junk, AV.junk, AV.junk, AV.junk, AV.junk, AV.junk, AV.junk, AV.junk, AV.junk, AV.junk, AV.junk, AV.junk, AV.junk, AV.junk, AV.junk, AV.junk, AV.junk, AV.junk, AV.junk, AV.junk, AV.junk, AV.junk,
                                  AV.junk, AV.junk, AV.junk, AV.junk, AV.junk, AV.junk, AV.junk, AV.junk, AV.junk, AV.junk, AV.junk, AV.junk, AV.junk, AV.junk, AV.junk, AV.junk, AV.junk, AV.junk, AV.junk, AV.junk, AV.junk, AV.junk, AV.junk,
                                  AV.junk, AV.junk, AV.junk, AV.junk, AV.junk, AV.junk, AV.junk, AV.junk, AV.junk, AV.junk, AV.junk, AV.junk, AV.junk, AV.junk, AV.junk, AV.junk, AV.junk, AV.junk, AV.junk, AV.junk, AV.junk, AV.junk, AV.junk,
                                  AV.junk, AV.junk, AV.junk, AV.junk, AV.junk, AV.junk, AV.junk, AV.junk, AV.junk, AV.junk, AV.junk, AV.junk, AV.junk, AV.junk, AV.junk, AV.junk, AV.junk, AV.junk, AV.junk, AV.junk, AV.junk, AV.junk, AV.junk,
                                  AV.junk]
                                []))
                            (Tree.chk
                              (okdiv64_1
                                (Xdiv64_1.mk (IntKind.wrap IntKind.u64 (y * (2 : Int) ^ min (Int.toNat (IntKind.wrap IntKind.u64 ((64 : Int) - ((Lib.bitLen (Int.toNat y)) : Int)))) (64)))
                                  (IntKind.wrap IntKind.u64 ((64 : Int) - ((Lib.bitLen (Int.toNat y)) : Int)))
                                  (Int.fdiv (IntKind.wrap IntKind.u64 (y * (2 : Int) ^ min (Int.toNat (IntKind.wrap IntKind.u64 ((64 : Int) - ((Lib.bitLen (Int.toNat y)) : Int)))) (64))) (4294967296 : Int))
                                  (IntKind.wrap IntKind.u64
                                    ((BitVec.toNat
                                        (BitVec.ofInt (64) (IntKind.wrap IntKind.u64 (y * (2 : Int) ^ min (Int.toNat (IntKind.wrap IntKind.u64 ((64 : Int) - ((Lib.bitLen (Int.toNat y)) : Int)))) (64))) &&&
                                          BitVec.ofInt (64) (4294967295 : Int))) : Int))
                                  (IntKind.wrap IntKind.u64
                                    ((BitVec.toNat
                                        (BitVec.ofInt (64) (IntKind.wrap IntKind.u64 (lo * (2 : Int) ^ min (Int.toNat (IntKind.wrap IntKind.u64 ((64 : Int) - ((Lib.bitLen (Int.toNat y)) : Int)))) (64))) &&&
                                          BitVec.ofInt (64) (4294967295 : Int))) : Int))
                                  (dvQ
                                    (IntKind.wrap IntKind.u64
                                      ((BitVec.toNat
                                          (BitVec.ofInt (64) (IntKind.wrap IntKind.u64 (hi * (2 : Int) ^ min (Int.toNat (IntKind.wrap IntKind.u64 ((64 : Int) - ((Lib.bitLen (Int.toNat y)) : Int)))) (64))) |||
                                            BitVec.ofInt (64)
                                              (Int.fdiv lo ((2 : Int) ^ min (Int.toNat (IntKind.wrap IntKind.u64 ((64 : Int) - IntKind.wrap IntKind.u64 ((64 : Int) - ((Lib.bitLen (Int.toNat y)) : Int))))) (64))))) : Int))
                                    (Int.fdiv (IntKind.wrap IntKind.u64 (lo * (2 : Int) ^ min (Int.toNat (IntKind.wrap IntKind.u64 ((64 : Int) - ((Lib.bitLen (Int.toNat y)) : Int)))) (64))) (4294967296 : Int))
                                    (IntKind.wrap IntKind.u64 (y * (2 : Int) ^ min (Int.toNat (IntKind.wrap IntKind.u64 ((64 : Int) - ((Lib.bitLen (Int.toNat y)) : Int)))) (64))))
                                  (IntKind.wrap IntKind.u64
                                    (IntKind.wrap IntKind.u64
                                        (IntKind.wrap IntKind.u64
                                            (IntKind.wrap IntKind.u64
                                                ((BitVec.toNat
                                                    (BitVec.ofInt (64) (IntKind.wrap IntKind.u64 (hi * (2 : Int) ^ min (Int.toNat (IntKind.wrap IntKind.u64 ((64 : Int) - ((Lib.bitLen (Int.toNat y)) : Int)))) (64))) |||
                                                      BitVec.ofInt (64)
                                                        (Int.fdiv lo ((2 : Int) ^ min (Int.toNat (IntKind.wrap IntKind.u64 ((64 : Int) - IntKind.wrap IntKind.u64 ((64 : Int) - ((Lib.bitLen (Int.toNat y)) : Int))))) (64))))) : Int) *
                                              (4294967296 : Int)) +
                                          Int.fdiv (IntKind.wrap IntKind.u64 (lo * (2 : Int) ^ min (Int.toNat (IntKind.wrap IntKind.u64 ((64 : Int) - ((Lib.bitLen (Int.toNat y)) : Int)))) (64))) (4294967296 : Int)) -
                                      IntKind.wrap IntKind.u64
                                        (dvQ
                                            (IntKind.wrap IntKind.u64
                                              ((BitVec.toNat
                                                  (BitVec.ofInt (64) (IntKind.wrap IntKind.u64 (hi * (2 : Int) ^ min (Int.toNat (IntKind.wrap IntKind.u64 ((64 : Int) - ((Lib.bitLen (Int.toNat y)) : Int)))) (64))) |||
                                                    BitVec.ofInt (64)
                                                      (Int.fdiv lo ((2 : Int) ^ min (Int.toNat (IntKind.wrap IntKind.u64 ((64 : Int) - IntKind.wrap IntKind.u64 ((64 : Int) - ((Lib.bitLen (Int.toNat y)) : Int))))) (64))))) : Int))
                                            (Int.fdiv (IntKind.wrap IntKind.u64 (lo * (2 : Int) ^ min (Int.toNat (IntKind.wrap IntKind.u64 ((64 : Int) - ((Lib.bitLen (Int.toNat y)) : Int)))) (64))) (4294967296 : Int))
                                            (IntKind.wrap IntKind.u64 (y * (2 : Int) ^ min (Int.toNat (IntKind.wrap IntKind.u64 ((64 : Int) - ((Lib.bitLen (Int.toNat y)) : Int)))) (64))) *
                                          IntKind.wrap IntKind.u64 (y * (2 : Int) ^ min (Int.toNat (IntKind.wrap IntKind.u64 ((64 : Int) - ((Lib.bitLen (Int.toNat y)) : Int)))) (64)))))
                                  (IntKind.wrap IntKind.u64
                                    (Int.tdiv
                                      (IntKind.wrap IntKind.u64
                                        (IntKind.wrap IntKind.u64
                                            (IntKind.wrap IntKind.u64
                                                (IntKind.wrap IntKind.u64
                                                    ((BitVec.toNat
                                                        (BitVec.ofInt (64) (IntKind.wrap IntKind.u64 (hi * (2 : Int) ^ min (Int.toNat (IntKind.wrap IntKind.u64 ((64 : Int) - ((Lib.bitLen (Int.toNat y)) : Int)))) (64))) |||
                                                          BitVec.ofInt (64)
                                                            (Int.fdiv lo ((2 : Int) ^ min (Int.toNat (IntKind.wrap IntKind.u64 ((64 : Int) - IntKind.wrap IntKind.u64 ((64 : Int) - ((Lib.bitLen (Int.toNat y)) : Int))))) (64))))) : Int) *
                                                  (4294967296 : Int)) +
                                              Int.fdiv (IntKind.wrap IntKind.u64 (lo * (2 : Int) ^ min (Int.toNat (IntKind.wrap IntKind.u64 ((64 : Int) - ((Lib.bitLen (Int.toNat y)) : Int)))) (64))) (4294967296 : Int)) -
                                          IntKind.wrap IntKind.u64
                                            (dvQ
                                                (IntKind.wrap IntKind.u64
                                                  ((BitVec.toNat
                                                      (BitVec.ofInt (64) (IntKind.wrap IntKind.u64 (hi * (2 : Int) ^ min (Int.toNat (IntKind.wrap IntKind.u64 ((64 : Int) - ((Lib.bitLen (Int.toNat y)) : Int)))) (64))) |||
                                                        BitVec.ofInt (64)
                                                          (Int.fdiv lo ((2 : Int) ^ min (Int.toNat (IntKind.wrap IntKind.u64 ((64 : Int) - IntKind.wrap IntKind.u64 ((64 : Int) - ((Lib.bitLen (Int.toNat y)) : Int))))) (64))))) : Int))
                                                (Int.fdiv (IntKind.wrap IntKind.u64 (lo * (2 : Int) ^ min (Int.toNat (IntKind.wrap IntKind.u64 ((64 : Int) - ((Lib.bitLen (Int.toNat y)) : Int)))) (64))) (4294967296 : Int))
                                                (IntKind.wrap IntKind.u64 (y * (2 : Int) ^ min (Int.toNat (IntKind.wrap IntKind.u64 ((64 : Int) - ((Lib.bitLen (Int.toNat y)) : Int)))) (64))) *
                                              IntKind.wrap IntKind.u64 (y * (2 : Int) ^ min (Int.toNat (IntKind.wrap IntKind.u64 ((64 : Int) - ((Lib.bitLen (Int.toNat y)) : Int)))) (64)))))
                                      (Int.fdiv (IntKind.wrap IntKind.u64 (y * (2 : Int) ^ min (Int.toNat (IntKind.wrap IntKind.u64 ((64 : Int) - ((Lib.bitLen (Int.toNat y)) : Int)))) (64))) (4294967296 : Int))))
                                  (IntKind.wrap IntKind.u64
                                    (IntKind.wrap IntKind.u64
                                        (IntKind.wrap IntKind.u64
                                            (IntKind.wrap IntKind.u64
                                                (IntKind.wrap IntKind.u64
                                                    ((BitVec.toNat
                                                        (BitVec.ofInt (64) (IntKind.wrap IntKind.u64 (hi * (2 : Int) ^ min (Int.toNat (IntKind.wrap IntKind.u64 ((64 : Int) - ((Lib.bitLen (Int.toNat y)) : Int)))) (64))) |||
                                                          BitVec.ofInt (64)
                                                            (Int.fdiv lo ((2 : Int) ^ min (Int.toNat (IntKind.wrap IntKind.u64 ((64 : Int) - IntKind.wrap IntKind.u64 ((64 : Int) - ((Lib.bitLen (Int.toNat y)) : Int))))) (64))))) : Int) *
                                                  (4294967296 : Int)) +
                                              Int.fdiv (IntKind.wrap IntKind.u64 (lo * (2 : Int) ^ min (Int.toNat (IntKind.wrap IntKind.u64 ((64 : Int) - ((Lib.bitLen (Int.toNat y)) : Int)))) (64))) (4294967296 : Int)) -
                                          IntKind.wrap IntKind.u64
                                            (dvQ
                                                (IntKind.wrap IntKind.u64
                                                  ((BitVec.toNat
                                                      (BitVec.ofInt (64) (IntKind.wrap IntKind.u64 (hi * (2 : Int) ^ min (Int.toNat (IntKind.wrap IntKind.u64 ((64 : Int) - ((Lib.bitLen (Int.toNat y)) : Int)))) (64))) |||
                                                        BitVec.ofInt (64)
                                                          (Int.fdiv lo ((2 : Int) ^ min (Int.toNat (IntKind.wrap IntKind.u64 ((64 : Int) - IntKind.wrap IntKind.u64 ((64 : Int) - ((Lib.bitLen (Int.toNat y)) : Int))))) (64))))) : Int))
                                                (Int.fdiv (IntKind.wrap IntKind.u64 (lo * (2 : Int) ^ min (Int.toNat (IntKind.wrap IntKind.u64 ((64 : Int) - ((Lib.bitLen (Int.toNat y)) : Int)))) (64))) (4294967296 : Int))
                                                (IntKind.wrap IntKind.u64 (y * (2 : Int) ^ min (Int.toNat (IntKind.wrap IntKind.u64 ((64 : Int) - ((Lib.bitLen (Int.toNat y)) : Int)))) (64))) *
                                              IntKind.wrap IntKind.u64 (y * (2 : Int) ^ min (Int.toNat (IntKind.wrap IntKind.u64 ((64 : Int) - ((Lib.bitLen (Int.toNat y)) : Int)))) (64)))) -
                                      IntKind.wrap IntKind.u64
                                        (IntKind.wrap IntKind.u64
                                            (Int.tdiv
                                              (IntKind.wrap IntKind.u64
                                                (IntKind.wrap IntKind.u64
                                                    (IntKind.wrap IntKind.u64
                                                        (IntKind.wrap IntKind.u64
                                                            ((BitVec.toNat
                                                                (BitVec.ofInt (64)
                                                                    (IntKind.wrap IntKind.u64 (hi * (2 : Int) ^ min (Int.toNat (IntKind.wrap IntKind.u64 ((64 : Int) - ((Lib.bitLen (Int.toNat y)) : Int)))) (64))) |||
                                                                  BitVec.ofInt (64)
                                                                    (Int.fdiv lo
                                                                      ((2 : Int) ^ min (Int.toNat (IntKind.wrap IntKind.u64 ((64 : Int) - IntKind.wrap IntKind.u64 ((64 : Int) - ((Lib.bitLen (Int.toNat y)) : Int))))) (64))))) : Int) *
                                                          (4294967296 : Int)) +
                                                      Int.fdiv (IntKind.wrap IntKind.u64 (lo * (2 : Int) ^ min (Int.toNat (IntKind.wrap IntKind.u64 ((64 : Int) - ((Lib.bitLen (Int.toNat y)) : Int)))) (64))) (4294967296 : Int)) -
                                                  IntKind.wrap IntKind.u64
                                                    (dvQ
                                                        (IntKind.wrap IntKind.u64
                                                          ((BitVec.toNat
                                                              (BitVec.ofInt (64)
                                                                  (IntKind.wrap IntKind.u64 (hi * (2 : Int) ^ min (Int.toNat (IntKind.wrap IntKind.u64 ((64 : Int) - ((Lib.bitLen (Int.toNat y)) : Int)))) (64))) |||
                                                                BitVec.ofInt (64)
                                                                  (Int.fdiv lo ((2 : Int) ^ min (Int.toNat (IntKind.wrap IntKind.u64 ((64 : Int) - IntKind.wrap IntKind.u64 ((64 : Int) - ((Lib.bitLen (Int.toNat y)) : Int))))) (64))))) : Int))
                                                        (Int.fdiv (IntKind.wrap IntKind.u64 (lo * (2 : Int) ^ min (Int.toNat (IntKind.wrap IntKind.u64 ((64 : Int) - ((Lib.bitLen (Int.toNat y)) : Int)))) (64))) (4294967296 : Int))
                                                        (IntKind.wrap IntKind.u64 (y * (2 : Int) ^ min (Int.toNat (IntKind.wrap IntKind.u64 ((64 : Int) - ((Lib.bitLen (Int.toNat y)) : Int)))) (64))) *
                                                      IntKind.wrap IntKind.u64 (y * (2 : Int) ^ min (Int.toNat (IntKind.wrap IntKind.u64 ((64 : Int) - ((Lib.bitLen (Int.toNat y)) : Int)))) (64)))))
                                              (Int.fdiv (IntKind.wrap IntKind.u64 (y * (2 : Int) ^ min (Int.toNat (IntKind.wrap IntKind.u64 ((64 : Int) - ((Lib.bitLen (Int.toNat y)) : Int)))) (64))) (4294967296 : Int))) *
                                          Int.fdiv (IntKind.wrap IntKind.u64 (y * (2 : Int) ^ min (Int.toNat (IntKind.wrap IntKind.u64 ((64 : Int) - ((Lib.bitLen (Int.toNat y)) : Int)))) (64))) (4294967296 : Int))))))
                              (Tree.br (!decide (IntKind.wrap IntKind.u64 ((64 : Int) - ((Lib.bitLen (Int.toNat y)) : Int)) < (0 : Int)))
                                (Tree.ret
                                  (AV.tup
                                      [AV.int IntKind.u64 false
                                          (IntKind.wrap IntKind.u64
                                            (IntKind.wrap IntKind.u64
                                                (dvQ
                                                    (IntKind.wrap IntKind.u64
                                                      ((BitVec.toNat
                                                          (BitVec.ofInt (64) (IntKind.wrap IntKind.u64 (hi * (2 : Int) ^ min (Int.toNat (IntKind.wrap IntKind.u64 ((64 : Int) - ((Lib.bitLen (Int.toNat y)) : Int)))) (64))) |||
                                                            BitVec.ofInt (64)
                                                              (Int.fdiv lo ((2 : Int) ^ min (Int.toNat (IntKind.wrap IntKind.u64 ((64 : Int) - IntKind.wrap IntKind.u64 ((64 : Int) - ((Lib.bitLen (Int.toNat y)) : Int))))) (64))))) : Int))
                                                    (Int.fdiv (IntKind.wrap IntKind.u64 (lo * (2 : Int) ^ min (Int.toNat (IntKind.wrap IntKind.u64 ((64 : Int) - ((Lib.bitLen (Int.toNat y)) : Int)))) (64))) (4294967296 : Int))
                                                    (IntKind.wrap IntKind.u64 (y * (2 : Int) ^ min (Int.toNat (IntKind.wrap IntKind.u64 ((64 : Int) - ((Lib.bitLen (Int.toNat y)) : Int)))) (64))) *
                                                  (4294967296 : Int)) +
                                              dvQ
                                                (IntKind.wrap IntKind.u64
                                                  (IntKind.wrap IntKind.u64
                                                      (IntKind.wrap IntKind.u64
                                                          (IntKind.wrap IntKind.u64
                                                              ((BitVec.toNat
                                                                  (BitVec.ofInt (64)
                                                                      (IntKind.wrap IntKind.u64 (hi * (2 : Int) ^ min (Int.toNat (IntKind.wrap IntKind.u64 ((64 : Int) - ((Lib.bitLen (Int.toNat y)) : Int)))) (64))) |||
                                                                    BitVec.ofInt (64)
                                                                      (Int.fdiv lo
                                                                        ((2 : Int) ^ min (Int.toNat (IntKind.wrap IntKind.u64 ((64 : Int) - IntKind.wrap IntKind.u64 ((64 : Int) - ((Lib.bitLen (Int.toNat y)) : Int))))) (64))))) : Int) *
                                                            (4294967296 : Int)) +
                                                        Int.fdiv (IntKind.wrap IntKind.u64 (lo * (2 : Int) ^ min (Int.toNat (IntKind.wrap IntKind.u64 ((64 : Int) - ((Lib.bitLen (Int.toNat y)) : Int)))) (64))) (4294967296 : Int)) -
                                                    IntKind.wrap IntKind.u64
                                                      (dvQ
                                                          (IntKind.wrap IntKind.u64
                                                            ((BitVec.toNat
                                                                (BitVec.ofInt (64)
                                                                    (IntKind.wrap IntKind.u64 (hi * (2 : Int) ^ min (Int.toNat (IntKind.wrap IntKind.u64 ((64 : Int) - ((Lib.bitLen (Int.toNat y)) : Int)))) (64))) |||
                                                                  BitVec.ofInt (64)
                                                                    (Int.fdiv lo
                                                                      ((2 : Int) ^ min (Int.toNat (IntKind.wrap IntKind.u64 ((64 : Int) - IntKind.wrap IntKind.u64 ((64 : Int) - ((Lib.bitLen (Int.toNat y)) : Int))))) (64))))) : Int))
                                                          (Int.fdiv (IntKind.wrap IntKind.u64 (lo * (2 : Int) ^ min (Int.toNat (IntKind.wrap IntKind.u64 ((64 : Int) - ((Lib.bitLen (Int.toNat y)) : Int)))) (64))) (4294967296 : Int))
                                                          (IntKind.wrap IntKind.u64 (y * (2 : Int) ^ min (Int.toNat (IntKind.wrap IntKind.u64 ((64 : Int) - ((Lib.bitLen (Int.toNat y)) : Int)))) (64))) *
                                                        IntKind.wrap IntKind.u64 (y * (2 : Int) ^ min (Int.toNat (IntKind.wrap IntKind.u64 ((64 : Int) - ((Lib.bitLen (Int.toNat y)) : Int)))) (64)))))
                                                (IntKind.wrap IntKind.u64
                                                  ((BitVec.toNat
                                                      (BitVec.ofInt (64) (IntKind.wrap IntKind.u64 (lo * (2 : Int) ^ min (Int.toNat (IntKind.wrap IntKind.u64 ((64 : Int) - ((Lib.bitLen (Int.toNat y)) : Int)))) (64))) &&&
                                                        BitVec.ofInt (64) (4294967295 : Int))) : Int))
                                                (IntKind.wrap IntKind.u64 (y * (2 : Int) ^ min (Int.toNat (IntKind.wrap IntKind.u64 ((64 : Int) - ((Lib.bitLen (Int.toNat y)) : Int)))) (64))))),
                                        AV.int IntKind.u64 false
                                          (Int.fdiv
                                            (IntKind.wrap IntKind.u64
                                              (IntKind.wrap IntKind.u64
                                                  (IntKind.wrap IntKind.u64
                                                      (IntKind.wrap IntKind.u64
                                                          (IntKind.wrap IntKind.u64
                                                              (IntKind.wrap IntKind.u64
                                                                  (IntKind.wrap IntKind.u64
                                                                      ((BitVec.toNat
                                                                          (BitVec.ofInt (64)
                                                                              (IntKind.wrap IntKind.u64 (hi * (2 : Int) ^ min (Int.toNat (IntKind.wrap IntKind.u64 ((64 : Int) - ((Lib.bitLen (Int.toNat y)) : Int)))) (64))) |||
                                                                            BitVec.ofInt (64)
                                                                              (Int.fdiv lo
                                                                                ((2 : Int) ^ min (Int.toNat (IntKind.wrap IntKind.u64 ((64 : Int) - IntKind.wrap IntKind.u64 ((64 : Int) - ((Lib.bitLen (Int.toNat y)) : Int))))) (64))))) : Int) *
                                                                    (4294967296 : Int)) +
                                                                Int.fdiv (IntKind.wrap IntKind.u64 (lo * (2 : Int) ^ min (Int.toNat (IntKind.wrap IntKind.u64 ((64 : Int) - ((Lib.bitLen (Int.toNat y)) : Int)))) (64)))
                                                                  (4294967296 : Int)) -
                                                            IntKind.wrap IntKind.u64
                                                              (dvQ
                                                                  (IntKind.wrap IntKind.u64
                                                                    ((BitVec.toNat
                                                                        (BitVec.ofInt (64)
                                                                            (IntKind.wrap IntKind.u64 (hi * (2 : Int) ^ min (Int.toNat (IntKind.wrap IntKind.u64 ((64 : Int) - ((Lib.bitLen (Int.toNat y)) : Int)))) (64))) |||
                                                                          BitVec.ofInt (64)
                                                                            (Int.fdiv lo
                                                                              ((2 : Int) ^ min (Int.toNat (IntKind.wrap IntKind.u64 ((64 : Int) - IntKind.wrap IntKind.u64 ((64 : Int) - ((Lib.bitLen (Int.toNat y)) : Int))))) (64))))) : Int))
                                                                  (Int.fdiv (IntKind.wrap IntKind.u64 (lo * (2 : Int) ^ min (Int.toNat (IntKind.wrap IntKind.u64 ((64 : Int) - ((Lib.bitLen (Int.toNat y)) : Int)))) (64)))
                                                                    (4294967296 : Int))
                                                                  (IntKind.wrap IntKind.u64 (y * (2 : Int) ^ min (Int.toNat (IntKind.wrap IntKind.u64 ((64 : Int) - ((Lib.bitLen (Int.toNat y)) : Int)))) (64))) *
                                                                IntKind.wrap IntKind.u64 (y * (2 : Int) ^ min (Int.toNat (IntKind.wrap IntKind.u64 ((64 : Int) - ((Lib.bitLen (Int.toNat y)) : Int)))) (64)))) *
                                                        (4294967296 : Int)) +
                                                    IntKind.wrap IntKind.u64
                                                      ((BitVec.toNat
                                                          (BitVec.ofInt (64) (IntKind.wrap IntKind.u64 (lo * (2 : Int) ^ min (Int.toNat (IntKind.wrap IntKind.u64 ((64 : Int) - ((Lib.bitLen (Int.toNat y)) : Int)))) (64))) &&&
                                                            BitVec.ofInt (64) (4294967295 : Int))) : Int)) -
                                                IntKind.wrap IntKind.u64
                                                  (dvQ
                                                      (IntKind.wrap IntKind.u64
                                                        (IntKind.wrap IntKind.u64
                                                            (IntKind.wrap IntKind.u64
                                                                (IntKind.wrap IntKind.u64
                                                                    ((BitVec.toNat
                                                                        (BitVec.ofInt (64)
                                                                            (IntKind.wrap IntKind.u64 (hi * (2 : Int) ^ min (Int.toNat (IntKind.wrap IntKind.u64 ((64 : Int) - ((Lib.bitLen (Int.toNat y)) : Int)))) (64))) |||
                                                                          BitVec.ofInt (64)
                                                                            (Int.fdiv lo
                                                                              ((2 : Int) ^ min (Int.toNat (IntKind.wrap IntKind.u64 ((64 : Int) - IntKind.wrap IntKind.u64 ((64 : Int) - ((Lib.bitLen (Int.toNat y)) : Int))))) (64))))) : Int) *
                                                                  (4294967296 : Int)) +
                                                              Int.fdiv (IntKind.wrap IntKind.u64 (lo * (2 : Int) ^ min (Int.toNat (IntKind.wrap IntKind.u64 ((64 : Int) - ((Lib.bitLen (Int.toNat y)) : Int)))) (64)))
                                                                (4294967296 : Int)) -
                                                          IntKind.wrap IntKind.u64
                                                            (dvQ
                                                                (IntKind.wrap IntKind.u64
                                                                  ((BitVec.toNat
                                                                      (BitVec.ofInt (64)
                                                                          (IntKind.wrap IntKind.u64 (hi * (2 : Int) ^ min (Int.toNat (IntKind.wrap IntKind.u64 ((64 : Int) - ((Lib.bitLen (Int.toNat y)) : Int)))) (64))) |||
                                                                        BitVec.ofInt (64)
                                                                          (Int.fdiv lo
                                                                            ((2 : Int) ^ min (Int.toNat (IntKind.wrap IntKind.u64 ((64 : Int) - IntKind.wrap IntKind.u64 ((64 : Int) - ((Lib.bitLen (Int.toNat y)) : Int))))) (64))))) : Int))
                                                                (Int.fdiv (IntKind.wrap IntKind.u64 (lo * (2 : Int) ^ min (Int.toNat (IntKind.wrap IntKind.u64 ((64 : Int) - ((Lib.bitLen (Int.toNat y)) : Int)))) (64)))
                                                                  (4294967296 : Int))
                                                                (IntKind.wrap IntKind.u64 (y * (2 : Int) ^ min (Int.toNat (IntKind.wrap IntKind.u64 ((64 : Int) - ((Lib.bitLen (Int.toNat y)) : Int)))) (64))) *
                                                              IntKind.wrap IntKind.u64 (y * (2 : Int) ^ min (Int.toNat (IntKind.wrap IntKind.u64 ((64 : Int) - ((Lib.bitLen (Int.toNat y)) : Int)))) (64)))))
                                                      (IntKind.wrap IntKind.u64
                                                        ((BitVec.toNat
                                                            (BitVec.ofInt (64) (IntKind.wrap IntKind.u64 (lo * (2 : Int) ^ min (Int.toNat (IntKind.wrap IntKind.u64 ((64 : Int) - ((Lib.bitLen (Int.toNat y)) : Int)))) (64))) &&&
                                                              BitVec.ofInt (64) (4294967295 : Int))) : Int))
                                                      (IntKind.wrap IntKind.u64 (y * (2 : Int) ^ min (Int.toNat (IntKind.wrap IntKind.u64 ((64 : Int) - ((Lib.bitLen (Int.toNat y)) : Int)))) (64))) *
                                                    IntKind.wrap IntKind.u64 (y * (2 : Int) ^ min (Int.toNat (IntKind.wrap IntKind.u64 ((64 : Int) - ((Lib.bitLen (Int.toNat y)) : Int)))) (64)))))
                                            ((2 : Int) ^ min (Int.toNat (IntKind.wrap IntKind.u64 ((64 : Int) - ((Lib.bitLen (Int.toNat y)) : Int)))) (64)))],
                                    []))
                                Tree.fail)))
                          Tree.fail)))
                    Tree.fail)
                  Tree.fail)
                Tree.fail)
              Tree.fail)
            Tree.fail)))) : Tree (AV × Mem)).GivesP (.tup [.int .u64 false ((hi * 18446744073709551616 + lo) / y), .int .u64 false ((hi * 18446744073709551616 + lo) % y)]) ([]) := by
  obtain ⟨h0, h1, l0, l1, y0, y1, hlt⟩ := hw
  obtain ⟨s, hs, hS, hY0, hY1⟩ := dv_s (y := y) (by omega) y1
  obtain ⟨eY, eU, n0, nlt, eN⟩ := dv_shift hs h0 hlt l0 l1 hY1
  have hm : min s 64 = s := by omega
  have hn : min (Int.toNat (IntKind.u64.wrap (64 - (s : Int)))) 64 = 64 - s := by rw [wu64]; omega
  simp only [hS, Int.toNat_natCast, hm, hn, eY, eU, umask32, wu32, fdiv32]
  have w0 : 0 ≤ IntKind.u64.wrap (lo * 2 ^ s) ∧ IntKind.u64.wrap (lo * 2 ^ s) ≤ 18446744073709551615 := by rw [wu64]; omega
  generalize IntKind.u64.wrap (lo * 2 ^ s) = n10 at *
  generalize hi * 2 ^ s + lo / 2 ^ (64 - s) = n1 at *
  have hdv := dv_end (hi := hi) (lo := lo) (by omega) eN n0 nlt w0.1 w0.2 hY1
  generalize hYe : y * 2 ^ s = Y at *
  obtain ⟨g1, g2⟩ := dv_guess n0 (by omega) hY0
  have g3 := dv_rest (u := n10 / 4294967296) (by omega) hY1 n0 nlt (by omega) (by omega)
  obtain ⟨c0, c1, c2, c3, _⟩ := dv_bound (U := n1) (u1 := n10 / 4294967296) (by omega) n0 (by omega) (by omega) nlt
  simp only [g1, g2, g3]
  generalize dvR n1 (n10 / 4294967296) Y = n2 at *
  obtain ⟨g4, g5⟩ := dv_guess c2 (by omega) hY0
  have g6 := dv_rest (u := n10 % 4294967296) (by omega) hY1 c2 c3 (by omega) (by omega)
  simp only [g4, g5, g6]
  have f1 := dv_first (yn1 := Y / 4294967296) (yn0 := Y % 4294967296) (U := n1) (u1 := n10 / 4294967296) (by omega) (by omega) (by omega) n0 (by omega) (by omega) (by omega)
  have f2 := dv_first (yn1 := Y / 4294967296) (yn0 := Y % 4294967296) (U := n2) (u1 := n10 % 4294967296) (by omega) (by omega) (by omega) c2 (by omega) (by omega) (by omega)
  rw [show Y / 4294967296 * 4294967296 + Y % 4294967296 = Y by omega] at f1 f2
  refine Tree.GivesP.br (fun h1 => ?_) (fun h1 => ?_)
  · (try simp only [decide_eq_true_eq, decide_eq_false_iff_not, Bool.not_eq_true', Bool.not_eq_false', beq_iff_eq, beq_eq_false_iff_ne, Int.not_lt, Int.not_le, ge_iff_le, gt_iff_lt, ne_eq, Bool.false_eq_true, Bool.true_eq_false, not_true_eq_false, not_false_eq_true, Bool.and_eq_true, Bool.not_eq_eq_eq_not, Bool.not_true, Bool.not_false, bne_iff_ne, bne_eq_false_iff_eq, Int.toNat_natCast, Nat.mul_one, Nat.add_zero, Nat.zero_add, List.take_length, List.drop_zero] at h1)
    all_goals
      exfalso
      omega
  · (try simp only [decide_eq_true_eq, decide_eq_false_iff_not, Bool.not_eq_true', Bool.not_eq_false', beq_iff_eq, beq_eq_false_iff_ne, Int.not_lt, Int.not_le, ge_iff_le, gt_iff_lt, ne_eq, Bool.false_eq_true, Bool.true_eq_false, not_true_eq_false, not_false_eq_true, Bool.and_eq_true, Bool.not_eq_eq_eq_not, Bool.not_true, Bool.not_false, bne_iff_ne, bne_eq_false_iff_eq, Int.toNat_natCast, Nat.mul_one, Nat.add_zero, Nat.zero_add, List.take_length, List.drop_zero] at h1)
    all_goals
      refine Tree.GivesP.br (fun h2 => ?_) (fun h2 => ?_)
      · (try simp only [decide_eq_true_eq, decide_eq_false_iff_not, Bool.not_eq_true', Bool.not_eq_false', beq_iff_eq, beq_eq_false_iff_ne, Int.not_lt, Int.not_le, ge_iff_le, gt_iff_lt, ne_eq, Bool.false_eq_true, Bool.true_eq_false, not_true_eq_false, not_false_eq_true, Bool.and_eq_true, Bool.not_eq_eq_eq_not, Bool.not_true, Bool.not_false, bne_iff_ne, bne_eq_false_iff_eq, Int.toNat_natCast, Nat.mul_one, Nat.add_zero, Nat.zero_add, List.take_length, List.drop_zero] at h2)
        all_goals
          exfalso
          omega
      · (try simp only [decide_eq_true_eq, decide_eq_false_iff_not, Bool.not_eq_true', Bool.not_eq_false', beq_iff_eq, beq_eq_false_iff_ne, Int.not_lt, Int.not_le, ge_iff_le, gt_iff_lt, ne_eq, Bool.false_eq_true, Bool.true_eq_false, not_true_eq_false, not_false_eq_true, Bool.and_eq_true, Bool.not_eq_eq_eq_not, Bool.not_true, Bool.not_false, bne_iff_ne, bne_eq_false_iff_eq, Int.toNat_natCast, Nat.mul_one, Nat.add_zero, Nat.zero_add, List.take_length, List.drop_zero] at h2)
        all_goals
          refine Tree.GivesP.br (fun h3 => ?_) (fun h3 => ?_)
          · (try simp only [decide_eq_true_eq, decide_eq_false_iff_not, Bool.not_eq_true', Bool.not_eq_false', beq_iff_eq, beq_eq_false_iff_ne, Int.not_lt, Int.not_le, ge_iff_le, gt_iff_lt, ne_eq, Bool.false_eq_true, Bool.true_eq_false, not_true_eq_false, not_false_eq_true, Bool.and_eq_true, Bool.not_eq_eq_eq_not, Bool.not_true, Bool.not_false, bne_iff_ne, bne_eq_false_iff_eq, Int.toNat_natCast, Nat.mul_one, Nat.add_zero, Nat.zero_add, List.take_length, List.drop_zero] at h3)
            all_goals
              refine Tree.GivesP.br (fun h4 => ?_) (fun h4 => ?_)
              · (try simp only [decide_eq_true_eq, decide_eq_false_iff_not, Bool.not_eq_true', Bool.not_eq_false', beq_iff_eq, beq_eq_false_iff_ne, Int.not_lt, Int.not_le, ge_iff_le, gt_iff_lt, ne_eq, Bool.false_eq_true, Bool.true_eq_false, not_true_eq_false, not_false_eq_true, Bool.and_eq_true, Bool.not_eq_eq_eq_not, Bool.not_true, Bool.not_false, bne_iff_ne, bne_eq_false_iff_eq, Int.toNat_natCast, Nat.mul_one, Nat.add_zero, Nat.zero_add, List.take_length, List.drop_zero] at h4)
                all_goals
                  refine Tree.GivesP.br (fun h5 => ?_) (fun h5 => ?_)
                  · (try simp only [decide_eq_true_eq, decide_eq_false_iff_not, Bool.not_eq_true', Bool.not_eq_false', beq_iff_eq, beq_eq_false_iff_ne, Int.not_lt, Int.not_le, ge_iff_le, gt_iff_lt, ne_eq, Bool.false_eq_true, Bool.true_eq_false, not_true_eq_false, not_false_eq_true, Bool.and_eq_true, Bool.not_eq_eq_eq_not, Bool.not_true, Bool.not_false, bne_iff_ne, bne_eq_false_iff_eq, Int.toNat_natCast, Nat.mul_one, Nat.add_zero, Nat.zero_add, List.take_length, List.drop_zero] at h5)
                    all_goals
                      refine Tree.GivesP.ret ?_ ?_
                      · subst h3; simp only [AV.le, AV.leL, true_and, and_true, Int.zero_mul, Int.zero_add]; rw [Int.tdiv_eq_ediv_of_nonneg l0, Int.tmod_eq_emod_of_nonneg l0, wu64]; exact ⟨Int.emod_eq_of_lt (Int.ediv_nonneg l0 (by omega)) (by have := Int.ediv_le_self y l0; omega), rfl⟩
                      · simp only [AV.leL, AV.le, Mem.le, Mem.leP, Blk.le, Blk.pad, Data.le, Data.size, Cap.le, and_true, true_and, and_self, true_implies, implies_true, imp_self, List.length_nil]
                  · (try simp only [decide_eq_true_eq, decide_eq_false_iff_not, Bool.not_eq_true', Bool.not_eq_false', beq_iff_eq, beq_eq_false_iff_ne, Int.not_lt, Int.not_le, ge_iff_le, gt_iff_lt, ne_eq, Bool.false_eq_true, Bool.true_eq_false, not_true_eq_false, not_false_eq_true, Bool.and_eq_true, Bool.not_eq_eq_eq_not, Bool.not_true, Bool.not_false, bne_iff_ne, bne_eq_false_iff_eq, Int.toNat_natCast, Nat.mul_one, Nat.add_zero, Nat.zero_add, List.take_length, List.drop_zero] at h5)
                    all_goals
                      exfalso
                      omega
              · (try simp only [decide_eq_true_eq, decide_eq_false_iff_not, Bool.not_eq_true', Bool.not_eq_false', beq_iff_eq, beq_eq_false_iff_ne, Int.not_lt, Int.not_le, ge_iff_le, gt_iff_lt, ne_eq, Bool.false_eq_true, Bool.true_eq_false, not_true_eq_false, not_false_eq_true, Bool.and_eq_true, Bool.not_eq_eq_eq_not, Bool.not_true, Bool.not_false, bne_iff_ne, bne_eq_false_iff_eq, Int.toNat_natCast, Nat.mul_one, Nat.add_zero, Nat.zero_add, List.take_length, List.drop_zero] at h4)
                all_goals
                  exfalso
                  omega
          · (try simp only [decide_eq_true_eq, decide_eq_false_iff_not, Bool.not_eq_true', Bool.not_eq_false', beq_iff_eq, beq_eq_false_iff_ne, Int.not_lt, Int.not_le, ge_iff_le, gt_iff_lt, ne_eq, Bool.false_eq_true, Bool.true_eq_false, not_true_eq_false, not_false_eq_true, Bool.and_eq_true, Bool.not_eq_eq_eq_not, Bool.not_true, Bool.not_false, bne_iff_ne, bne_eq_false_iff_eq, Int.toNat_natCast, Nat.mul_one, Nat.add_zero, Nat.zero_add, List.take_length, List.drop_zero] at h3)
            all_goals
              refine Tree.GivesP.chk (by first | (simp only [and_self]; done) | (exact ⟨⟨trivial, trivial⟩, y0, y1⟩)) ?_
              refine Tree.GivesP.br (fun h4 => ?_) (fun h4 => ?_)
              · (try simp only [decide_eq_true_eq, decide_eq_false_iff_not, Bool.not_eq_true', Bool.not_eq_false', beq_iff_eq, beq_eq_false_iff_ne, Int.not_lt, Int.not_le, ge_iff_le, gt_iff_lt, ne_eq, Bool.false_eq_true, Bool.true_eq_false, not_true_eq_false, not_false_eq_true, Bool.and_eq_true, Bool.not_eq_eq_eq_not, Bool.not_true, Bool.not_false, bne_iff_ne, bne_eq_false_iff_eq, Int.toNat_natCast, Nat.mul_one, Nat.add_zero, Nat.zero_add, List.take_length, List.drop_zero] at h4)
                all_goals
                  refine Tree.GivesP.br (fun h5 => ?_) (fun h5 => ?_)
                  · (try simp only [decide_eq_true_eq, decide_eq_false_iff_not, Bool.not_eq_true', Bool.not_eq_false', beq_iff_eq, beq_eq_false_iff_ne, Int.not_lt, Int.not_le, ge_iff_le, gt_iff_lt, ne_eq, Bool.false_eq_true, Bool.true_eq_false, not_true_eq_false, not_false_eq_true, Bool.and_eq_true, Bool.not_eq_eq_eq_not, Bool.not_true, Bool.not_false, bne_iff_ne, bne_eq_false_iff_eq, Int.toNat_natCast, Nat.mul_one, Nat.add_zero, Nat.zero_add, List.take_length, List.drop_zero] at h5)
                    all_goals
                      refine Tree.GivesP.br (fun h6 => ?_) (fun h6 => ?_)
                      · (try simp only [decide_eq_true_eq, decide_eq_false_iff_not, Bool.not_eq_true', Bool.not_eq_false', beq_iff_eq, beq_eq_false_iff_ne, Int.not_lt, Int.not_le, ge_iff_le, gt_iff_lt, ne_eq, Bool.false_eq_true, Bool.true_eq_false, not_true_eq_false, not_false_eq_true, Bool.and_eq_true, Bool.not_eq_eq_eq_not, Bool.not_true, Bool.not_false, bne_iff_ne, bne_eq_false_iff_eq, Int.toNat_natCast, Nat.mul_one, Nat.add_zero, Nat.zero_add, List.take_length, List.drop_zero] at h6)
                        all_goals
                          refine Tree.GivesP.br (fun h7 => ?_) (fun h7 => ?_)
                          · (try simp only [decide_eq_true_eq, decide_eq_false_iff_not, Bool.not_eq_true', Bool.not_eq_false', beq_iff_eq, beq_eq_false_iff_ne, Int.not_lt, Int.not_le, ge_iff_le, gt_iff_lt, ne_eq, Bool.false_eq_true, Bool.true_eq_false, not_true_eq_false, not_false_eq_true, Bool.and_eq_true, Bool.not_eq_eq_eq_not, Bool.not_true, Bool.not_false, bne_iff_ne, bne_eq_false_iff_eq, Int.toNat_natCast, Nat.mul_one, Nat.add_zero, Nat.zero_add, List.take_length, List.drop_zero] at h7)
                            all_goals
                              refine Tree.GivesP.br (fun h8 => ?_) (fun h8 => ?_)
                              · (try simp only [decide_eq_true_eq, decide_eq_false_iff_not, Bool.not_eq_true', Bool.not_eq_false', beq_iff_eq, beq_eq_false_iff_ne, Int.not_lt, Int.not_le, ge_iff_le, gt_iff_lt, ne_eq, Bool.false_eq_true, Bool.true_eq_false, not_true_eq_false, not_false_eq_true, Bool.and_eq_true, Bool.not_eq_eq_eq_not, Bool.not_true, Bool.not_false, bne_iff_ne, bne_eq_false_iff_eq, Int.toNat_natCast, Nat.mul_one, Nat.add_zero, Nat.zero_add, List.take_length, List.drop_zero] at h8)
                                all_goals
                                  refine Tree.GivesP.chk (by first | (simp only [and_self]; done) | (constructor <;> simp only [hddiv64_0, AV.leL, AV.le, Mem.le, Mem.leP, Blk.le, Blk.pad, Data.le, Data.size, Cap.le, and_true, true_and, and_self, true_implies, implies_true, imp_self, List.length_nil] <;> (repeat' with_reducible refine And.intro ?_ ?_) <;> rfl)) ?_
                                  refine Tree.GivesP.chk (by first | (simp only [and_self]; done) | (exact ⟨by omega, by omega, by omega, by omega, by omega, by omega, by omega, by omega, by omega, f1.2.2.2.1, f1.1, f1.2.1, f1.2.2.2.2.1, by have := f1.2.2.2.2.2; omega, f1.2.2.1⟩)) ?_
                                  refine Tree.GivesP.br (fun h9 => ?_) (fun h9 => ?_)
                                  · (try simp only [decide_eq_true_eq, decide_eq_false_iff_not, Bool.not_eq_true', Bool.not_eq_false', beq_iff_eq, beq_eq_false_iff_ne, Int.not_lt, Int.not_le, ge_iff_le, gt_iff_lt, ne_eq, Bool.false_eq_true, Bool.true_eq_false, not_true_eq_false, not_false_eq_true, Bool.and_eq_true, Bool.not_eq_eq_eq_not, Bool.not_true, Bool.not_false, bne_iff_ne, bne_eq_false_iff_eq, Int.toNat_natCast, Nat.mul_one, Nat.add_zero, Nat.zero_add, List.take_length, List.drop_zero] at h9)
                                    all_goals
                                      refine Tree.GivesP.chk (by first | (simp only [and_self]; done) | (constructor <;> simp only [hddiv64_1, AV.leL, AV.le, Mem.le, Mem.leP, Blk.le, Blk.pad, Data.le, Data.size, Cap.le, and_true, true_and, and_self, true_implies, implies_true, imp_self, List.length_nil] <;> (repeat' with_reducible refine And.intro ?_ ?_) <;> rfl)) ?_
                                      refine Tree.GivesP.chk (by first | (simp only [and_self]; done) | (exact ⟨by omega, by omega, by omega, by omega, by omega, by omega, by omega, by omega, by omega, f2.2.2.2.1, f2.1, f2.2.1, f2.2.2.2.2.1, by have := f2.2.2.2.2.2; omega, f2.2.2.1⟩)) ?_
                                      refine Tree.GivesP.br (fun h10 => ?_) (fun h10 => ?_)
                                      · (try simp only [decide_eq_true_eq, decide_eq_false_iff_not, Bool.not_eq_true', Bool.not_eq_false', beq_iff_eq, beq_eq_false_iff_ne, Int.not_lt, Int.not_le, ge_iff_le, gt_iff_lt, ne_eq, Bool.false_eq_true, Bool.true_eq_false, not_true_eq_false, not_false_eq_true, Bool.and_eq_true, Bool.not_eq_eq_eq_not, Bool.not_true, Bool.not_false, bne_iff_ne, bne_eq_false_iff_eq, Int.toNat_natCast, Nat.mul_one, Nat.add_zero, Nat.zero_add, List.take_length, List.drop_zero] at h10)
                                        all_goals
                                          refine Tree.GivesP.ret ?_ ?_
                                          · simp only [AV.le, AV.leL, true_and, and_true]; exact hdv
                                          · simp only [AV.leL, AV.le, Mem.le, Mem.leP, Blk.le, Blk.pad, Data.le, Data.size, Cap.le, and_true, true_and, and_self, true_implies, implies_true, imp_self, List.length_nil]
                                      · (try simp only [decide_eq_true_eq, decide_eq_false_iff_not, Bool.not_eq_true', Bool.not_eq_false', beq_iff_eq, beq_eq_false_iff_ne, Int.not_lt, Int.not_le, ge_iff_le, gt_iff_lt, ne_eq, Bool.false_eq_true, Bool.true_eq_false, not_true_eq_false, not_false_eq_true, Bool.and_eq_true, Bool.not_eq_eq_eq_not, Bool.not_true, Bool.not_false, bne_iff_ne, bne_eq_false_iff_eq, Int.toNat_natCast, Nat.mul_one, Nat.add_zero, Nat.zero_add, List.take_length, List.drop_zero] at h10)
                                        all_goals
                                          exfalso
                                          omega
                                  · (try simp only [decide_eq_true_eq, decide_eq_false_iff_not, Bool.not_eq_true', Bool.not_eq_false', beq_iff_eq, beq_eq_false_iff_ne, Int.not_lt, Int.not_le, ge_iff_le, gt_iff_lt, ne_eq, Bool.false_eq_true, Bool.true_eq_false, not_true_eq_false, not_false_eq_true, Bool.and_eq_true, Bool.not_eq_eq_eq_not, Bool.not_true, Bool.not_false, bne_iff_ne, bne_eq_false_iff_eq, Int.toNat_natCast, Nat.mul_one, Nat.add_zero, Nat.zero_add, List.take_length, List.drop_zero] at h9)
                                    all_goals
                                      exfalso
                                      omega
                              · (try simp only [decide_eq_true_eq, decide_eq_false_iff_not, Bool.not_eq_true', Bool.not_eq_false', beq_iff_eq, beq_eq_false_iff_ne, Int.not_lt, Int.not_le, ge_iff_le, gt_iff_lt, ne_eq, Bool.false_eq_true, Bool.true_eq_false, not_true_eq_false, not_false_eq_true, Bool.and_eq_true, Bool.not_eq_eq_eq_not, Bool.not_true, Bool.not_false, bne_iff_ne, bne_eq_false_iff_eq, Int.toNat_natCast, Nat.mul_one, Nat.add_zero, Nat.zero_add, List.take_length, List.drop_zero] at h8)
                                all_goals
                                  exfalso
                                  omega
                          · (try simp only [decide_eq_true_eq, decide_eq_false_iff_not, Bool.not_eq_true', Bool.not_eq_false', beq_iff_eq, beq_eq_false_iff_ne, Int.not_lt, Int.not_le, ge_iff_le, gt_iff_lt, ne_eq, Bool.false_eq_true, Bool.true_eq_false, not_true_eq_false, not_false_eq_true, Bool.and_eq_true, Bool.not_eq_eq_eq_not, Bool.not_true, Bool.not_false, bne_iff_ne, bne_eq_false_iff_eq, Int.toNat_natCast, Nat.mul_one, Nat.add_zero, Nat.zero_add, List.take_length, List.drop_zero] at h7)
                            all_goals
                              exfalso
                              omega
                      · (try simp only [decide_eq_true_eq, decide_eq_false_iff_not, Bool.not_eq_true', Bool.not_eq_false', beq_iff_eq, beq_eq_false_iff_ne, Int.not_lt, Int.not_le, ge_iff_le, gt_iff_lt, ne_eq, Bool.false_eq_true, Bool.true_eq_false, not_true_eq_false, not_false_eq_true, Bool.and_eq_true, Bool.not_eq_eq_eq_not, Bool.not_true, Bool.not_false, bne_iff_ne, bne_eq_false_iff_eq, Int.toNat_natCast, Nat.mul_one, Nat.add_zero, Nat.zero_add, List.take_length, List.drop_zero] at h6)
                        all_goals
                          exfalso
                          omega
                  · (try simp only [decide_eq_true_eq, decide_eq_false_iff_not, Bool.not_eq_true', Bool.not_eq_false', beq_iff_eq, beq_eq_false_iff_ne, Int.not_lt, Int.not_le, ge_iff_le, gt_iff_lt, ne_eq, Bool.false_eq_true, Bool.true_eq_false, not_true_eq_false, not_false_eq_true, Bool.and_eq_true, Bool.not_eq_eq_eq_not, Bool.not_true, Bool.not_false, bne_iff_ne, bne_eq_false_iff_eq, Int.toNat_natCast, Nat.mul_one, Nat.add_zero, Nat.zero_add, List.take_length, List.drop_zero] at h5)
                    all_goals
                      exfalso
                      omega
              · (try simp only [decide_eq_true_eq, decide_eq_false_iff_not, Bool.not_eq_true', Bool.not_eq_false', beq_iff_eq, beq_eq_false_iff_ne, Int.not_lt, Int.not_le, ge_iff_le, gt_iff_lt, ne_eq, Bool.false_eq_true, Bool.true_eq_false, not_true_eq_false, not_false_eq_true, Bool.and_eq_true, Bool.not_eq_eq_eq_not, Bool.not_true, Bool.not_false, bne_iff_ne, bne_eq_false_iff_eq, Int.toNat_natCast, Nat.mul_one, Nat.add_zero, Nat.zero_add, List.take_length, List.drop_zero] at h4)
                all_goals
                  exfalso
                  omega
theorem sdiv64 (hall : AllOk Try.prog 0 (fun _ => none) tab2) (hi : Int) (lo : Int) (y : Int) (hw : 0 ≤ hi ∧ hi ≤ 18446744073709551615 ∧ 0 ≤ lo ∧ lo ≤ 18446744073709551615 ∧ 0 ≤ y ∧ y ≤ 18446744073709551615 ∧ hi < y) : SoundAt (mkC Try.prog 0 (fun _ => none) []) 69 [.int .u64 false hi, .int .u64 false lo, .int .u64 false y] [] (.tup [.int .u64 false ((hi * 18446744073709551616 + lo) / y), .int .u64 false ((hi * 18446744073709551616 + lo) % y)], []) := sound_loopsP hall mix (loopsdiv64 hall) (tdiv64 hi lo y) (gdiv64 hi lo y hw)
theorem Fdiv64_ok (hall : AllOk Try.prog 0 (fun _ => none) tab2) : PureF Try.prog 3 69 Fdiv64 := by
  intro xs c v news h hc
  unfold Fdiv64 at h
  split at h
  · rename_i _ hi _ lo _ y
    cases h
    refine ⟨(by intro b hb; cases hb), SoundAt.flags (sdiv64 hall hi lo y hc) ?_⟩
    simp [PA.avs, AV.le, AV.leL, Cap.le]
  · cases h
end Go.Proofs.Ytoihhmpmlbdeiaa.Rig

/- Qminus -/
namespace Go.Proofs.Ytoihhmpmlbdeiaa.Rig
open Go
set_option maxRecDepth 100000 in
theorem tminus (h : Int) (l : Int) : evBody (mkC Try.prog 0 (fun _ => none) tab3) (evCall (mkC Try.prog 0 (fun _ => none) tab3) 50) 59 [.agg [.int .i64 false h, .int .u64 false l]] [] =
  Tree.chk ((0 : Int) ≤ (0 : Int) ∧ (0 : Int) ≤ (18446744073709551615 : Int) ∧ (0 : Int) ≤ l ∧ l ≤ (18446744073709551615 : Int) ∧ (0 : Int) ≤ (0 : Int) ∧ (0 : Int) ≤ (1 : Int))
    (Tree.chk
      ((0 : Int) ≤ (0 : Int) ∧
        (0 : Int) ≤ (18446744073709551615 : Int) ∧
          (0 : Int) ≤ IntKind.wrap IntKind.u64 h ∧
            IntKind.wrap IntKind.u64 h ≤ (18446744073709551615 : Int) ∧ ((0 : Int) ≤ if (0 : Int) < l + (0 : Int) then (1 : Int) else (0 : Int)) ∧ (if (0 : Int) < l + (0 : Int) then (1 : Int) else (0 : Int)) ≤ (1 : Int))
      (Tree.ret
        (AV.agg
            [AV.int IntKind.i64 false (IntKind.wrap IntKind.i64 (((0 : Int) - IntKind.wrap IntKind.u64 h - if (0 : Int) < l + (0 : Int) then (1 : Int) else (0 : Int)) % (18446744073709551616 : Int))),
              AV.int IntKind.u64 false (((0 : Int) - l - (0 : Int)) % (18446744073709551616 : Int))],
          []))) := by kernel_rfl
set_option maxRecDepth 100000 in
theorem gminus (h : Int) (l : Int) (hw : -9223372036854775808 ≤ h ∧ h ≤ 9223372036854775807 ∧ 0 ≤ l ∧ l ≤ 18446744073709551615) : (Tree.chk ((0 : Int) ≤ (0 : Int) ∧ (0 : Int) ≤ (18446744073709551615 : Int) ∧ (0 : Int) ≤ l ∧ l ≤ (18446744073709551615 : Int) ∧ (0 : Int) ≤ (0 : Int) ∧ (0 : Int) ≤ (1 : Int))
    (Tree.chk
      ((0 : Int) ≤ (0 : Int) ∧
        (0 : Int) ≤ (18446744073709551615 : Int) ∧
          (0 : Int) ≤ IntKind.wrap IntKind.u64 h ∧
            IntKind.wrap IntKind.u64 h ≤ (18446744073709551615 : Int) ∧ ((0 : Int) ≤ if (0 : Int) < l + (0 : Int) then (1 : Int) else (0 : Int)) ∧ (if (0 : Int) < l + (0 : Int) then (1 : Int) else (0 : Int)) ≤ (1 : Int))
      (Tree.ret
        (AV.agg
            [AV.int IntKind.i64 false (IntKind.wrap IntKind.i64 (((0 : Int) - IntKind.wrap IntKind.u64 h - if (0 : Int) < l + (0 : Int) then (1 : Int) else (0 : Int)) % (18446744073709551616 : Int))),
              AV.int IntKind.u64 false (((0 : Int) - l - (0 : Int)) % (18446744073709551616 : Int))],
          []))) : Tree (AV × Mem)).GivesP (.agg [.int .i64 false (hiZ (-(numW h l))), .int .u64 false (loZ (-(numW h l)))]) ([]) := by
  refine Tree.GivesP.chk (by first | (simp only [and_self]; done) | ((try simp only [wu64]); omega)) ?_
  refine Tree.GivesP.chk (by first | (simp only [and_self]; done) | ((try simp only [wu64]); omega)) ?_
  refine Tree.GivesP.ret ?_ ?_
  · simp only [AV.le, AV.leL, true_and, and_true, hiZ, loZ, numW, w64, wu64]; constructor <;> (try split) <;> omega
  · simp only [AV.leL, AV.le, Mem.le, Mem.leP, Blk.le, Blk.pad, Data.le, Data.size, Cap.le, and_true, true_and, and_self, true_implies, implies_true, imp_self, List.length_nil]
theorem sminus (hall : AllOk Try.prog 0 (fun _ => none) tab3) (h : Int) (l : Int) (hw : -9223372036854775808 ≤ h ∧ h ≤ 9223372036854775807 ∧ 0 ≤ l ∧ l ≤ 18446744073709551615) : SoundAt (mkC Try.prog 0 (fun _ => none) []) 59 [.agg [.int .i64 false h, .int .u64 false l]] [] (.agg [.int .i64 false (hiZ (-(numW h l))), .int .u64 false (loZ (-(numW h l)))], []) := sound_ofP hall mix (tminus h l) (gminus h l hw)
theorem Fminus_ok (hall : AllOk Try.prog 0 (fun _ => none) tab3) : PureF Try.prog 3 59 Fminus := by
  intro xs c v news h hc
  unfold Fminus at h
  split at h
  · rename_i _ h _ l
    cases h
    refine ⟨(by intro b hb; cases hb), SoundAt.flags (sminus hall h l hc) ?_⟩
    simp [PA.avs, AV.le, AV.leL, Cap.le]
  · cases h
end Go.Proofs.Ytoihhmpmlbdeiaa.Rig

/- Qby -/
namespace Go.Proofs.Ytoihhmpmlbdeiaa.Rig
open Go
set_option maxRecDepth 100000 in
theorem tby (h : Int) (l : Int) (c : Int) : evBody (mkC Try.prog 0 (fun _ => none) tab4) (evCall (mkC Try.prog 0 (fun _ => none) tab4) 50) 60 [.agg [.int .i64 false h, .int .u64 false l], .int .u64 false c] [] =
  Tree.br (decide (h < (0 : Int)))
    (Tree.chk ((True ∧ True) ∧ (-9223372036854775808 : Int) ≤ h ∧ h ≤ (9223372036854775807 : Int) ∧ (0 : Int) ≤ l ∧ l ≤ (18446744073709551615 : Int))
      (Tree.br (decide (IntKind.wrap IntKind.u64 (hiZ (-numW h l)) ≥ c)) (Tree.ret (AV.tup [AV.int IntKind.u64 true (0 : Int), AV.int IntKind.u64 true (0 : Int), AV.bool true false], []))
        (Tree.chk
          ((True ∧ True ∧ True ∧ True) ∧
            (0 : Int) ≤ IntKind.wrap IntKind.u64 (hiZ (-numW h l)) ∧
              IntKind.wrap IntKind.u64 (hiZ (-numW h l)) ≤ (18446744073709551615 : Int) ∧
                (0 : Int) ≤ loZ (-numW h l) ∧ loZ (-numW h l) ≤ (18446744073709551615 : Int) ∧ (0 : Int) ≤ c ∧ c ≤ (18446744073709551615 : Int) ∧ IntKind.wrap IntKind.u64 (hiZ (-numW h l)) < c)
          (Tree.ret
            (AV.tup
                [AV.int IntKind.u64 false ((IntKind.wrap IntKind.u64 (hiZ (-numW h l)) * (18446744073709551616 : Int) + loZ (-numW h l)) / c),
                  AV.int IntKind.u64 false ((IntKind.wrap IntKind.u64 (hiZ (-numW h l)) * (18446744073709551616 : Int) + loZ (-numW h l)) % c), AV.bool true true],
              [])))))
    (Tree.br (decide (IntKind.wrap IntKind.u64 h ≥ c)) (Tree.ret (AV.tup [AV.int IntKind.u64 true (0 : Int), AV.int IntKind.u64 true (0 : Int), AV.bool true false], []))
      (Tree.chk
        ((True ∧ True ∧ True ∧ True) ∧
          (0 : Int) ≤ IntKind.wrap IntKind.u64 h ∧
            IntKind.wrap IntKind.u64 h ≤ (18446744073709551615 : Int) ∧ (0 : Int) ≤ l ∧ l ≤ (18446744073709551615 : Int) ∧ (0 : Int) ≤ c ∧ c ≤ (18446744073709551615 : Int) ∧ IntKind.wrap IntKind.u64 h < c)
        (Tree.ret
          (AV.tup
              [AV.int IntKind.u64 false ((IntKind.wrap IntKind.u64 h * (18446744073709551616 : Int) + l) / c), AV.int IntKind.u64 false ((IntKind.wrap IntKind.u64 h * (18446744073709551616 : Int) + l) % c),
                AV.bool true true],
            [])))) := by kernel_rfl
set_option maxRecDepth 100000 in
theorem gby (h : Int) (l : Int) (c : Int) (hw : -9223372036854775808 ≤ h ∧ h ≤ 9223372036854775807 ∧ 0 ≤ l ∧ l ≤ 18446744073709551615 ∧ 0 ≤ c ∧ c ≤ 18446744073709551615) : (Tree.br (decide (h < (0 : Int)))
    (Tree.chk ((True ∧ True) ∧ (-9223372036854775808 : Int) ≤ h ∧ h ≤ (9223372036854775807 : Int) ∧ (0 : Int) ≤ l ∧ l ≤ (18446744073709551615 : Int))
      (Tree.br (decide (IntKind.wrap IntKind.u64 (hiZ (-numW h l)) ≥ c)) (Tree.ret (AV.tup [AV.int IntKind.u64 true (0 : Int), AV.int IntKind.u64 true (0 : Int), AV.bool true false], []))
        (Tree.chk
          ((True ∧ True ∧ True ∧ True) ∧
            (0 : Int) ≤ IntKind.wrap IntKind.u64 (hiZ (-numW h l)) ∧
              IntKind.wrap IntKind.u64 (hiZ (-numW h l)) ≤ (18446744073709551615 : Int) ∧
                (0 : Int) ≤ loZ (-numW h l) ∧ loZ (-numW h l) ≤ (18446744073709551615 : Int) ∧ (0 : Int) ≤ c ∧ c ≤ (18446744073709551615 : Int) ∧ IntKind.wrap IntKind.u64 (hiZ (-numW h l)) < c)
          (Tree.ret
            (AV.tup
                [AV.int IntKind.u64 false ((IntKind.wrap IntKind.u64 (hiZ (-numW h l)) * (18446744073709551616 : Int) + loZ (-numW h l)) / c),
                  AV.int IntKind.u64 false ((IntKind.wrap IntKind.u64 (hiZ (-numW h l)) * (18446744073709551616 : Int) + loZ (-numW h l)) % c), AV.bool true true],
              [])))))
    (Tree.br (decide (IntKind.wrap IntKind.u64 h ≥ c)) (Tree.ret (AV.tup [AV.int IntKind.u64 true (0 : Int), AV.int IntKind.u64 true (0 : Int), AV.bool true false], []))
      (Tree.chk
        ((True ∧ True ∧ True ∧ True) ∧
          (0 : Int) ≤ IntKind.wrap IntKind.u64 h ∧
            IntKind.wrap IntKind.u64 h ≤ (18446744073709551615 : Int) ∧ (0 : Int) ≤ l ∧ l ≤ (18446744073709551615 : Int) ∧ (0 : Int) ≤ c ∧ c ≤ (18446744073709551615 : Int) ∧ IntKind.wrap IntKind.u64 h < c)
        (Tree.ret
          (AV.tup
              [AV.int IntKind.u64 false ((IntKind.wrap IntKind.u64 h * (18446744073709551616 : Int) + l) / c), AV.int IntKind.u64 false ((IntKind.wrap IntKind.u64 h * (18446744073709551616 : Int) + l) % c),
                AV.bool true true],
            [])))) : Tree (AV × Mem)).GivesP (.tup [.int .u64 false (byQ c (numW h l)), .int .u64 false (byR c (numW h l)), .bool false (byOk c (numW h l))]) ([]) := by
  obtain ⟨h0, h1, l0, l1, c0, c1⟩ := hw
  have en := by_neg h0 h1 l0 l1
  have ep := by_pos h0 h1 l0 l1
  have lo := lo_ok (-numW h l)
  refine Tree.GivesP.br (fun h1 => ?_) (fun h1 => ?_)
  · (try simp only [decide_eq_true_eq, decide_eq_false_iff_not, Bool.not_eq_true', Bool.not_eq_false', beq_iff_eq, beq_eq_false_iff_ne, Int.not_lt, Int.not_le, ge_iff_le, gt_iff_lt, ne_eq, Bool.false_eq_true, Bool.true_eq_false, not_true_eq_false, not_false_eq_true, Bool.and_eq_true, Bool.not_eq_eq_eq_not, Bool.not_true, Bool.not_false, bne_iff_ne, bne_eq_false_iff_eq, Int.toNat_natCast, Nat.mul_one, Nat.add_zero, Nat.zero_add, List.take_length, List.drop_zero] at h1)
    all_goals
      refine Tree.GivesP.chk (by first | (simp only [and_self]; done) | ((repeat' with_reducible refine And.intro ?_ ?_) <;> first | trivial | omega | (simp only [w64, wu64]; omega))) ?_
      refine Tree.GivesP.br (fun h2 => ?_) (fun h2 => ?_)
      · (try simp only [decide_eq_true_eq, decide_eq_false_iff_not, Bool.not_eq_true', Bool.not_eq_false', beq_iff_eq, beq_eq_false_iff_ne, Int.not_lt, Int.not_le, ge_iff_le, gt_iff_lt, ne_eq, Bool.false_eq_true, Bool.true_eq_false, not_true_eq_false, not_false_eq_true, Bool.and_eq_true, Bool.not_eq_eq_eq_not, Bool.not_true, Bool.not_false, bne_iff_ne, bne_eq_false_iff_eq, Int.toNat_natCast, Nat.mul_one, Nat.add_zero, Nat.zero_add, List.take_length, List.drop_zero] at h2)
        all_goals
          refine Tree.GivesP.ret ?_ ?_
          · have e := en h1
            have ok : byOk c (numW h l) = false := by unfold byOk; rw [e.1, ← e.2.1, decide_eq_false_iff_not]; omega
            simp only [AV.le, AV.leL, byQ, byR, ok, if_true, Bool.false_eq_true, if_false, e.2.2, e.1, and_self, true_and, and_true]
          · simp only [AV.leL, AV.le, Mem.le, Mem.leP, Blk.le, Blk.pad, Data.le, Data.size, Cap.le, and_true, true_and, and_self, true_implies, implies_true, imp_self, List.length_nil]
      · (try simp only [decide_eq_true_eq, decide_eq_false_iff_not, Bool.not_eq_true', Bool.not_eq_false', beq_iff_eq, beq_eq_false_iff_ne, Int.not_lt, Int.not_le, ge_iff_le, gt_iff_lt, ne_eq, Bool.false_eq_true, Bool.true_eq_false, not_true_eq_false, not_false_eq_true, Bool.and_eq_true, Bool.not_eq_eq_eq_not, Bool.not_true, Bool.not_false, bne_iff_ne, bne_eq_false_iff_eq, Int.toNat_natCast, Nat.mul_one, Nat.add_zero, Nat.zero_add, List.take_length, List.drop_zero] at h2)
        all_goals
          refine Tree.GivesP.chk (by first | (simp only [and_self]; done) | ((repeat' with_reducible refine And.intro ?_ ?_) <;> first | trivial | omega | (simp only [w64, wu64]; omega))) ?_
          refine Tree.GivesP.ret ?_ ?_
          · have e := en h1
            have ok : byOk c (numW h l) = true := by unfold byOk; rw [e.1, ← e.2.1, decide_eq_true_eq]; omega
            simp only [AV.le, AV.leL, byQ, byR, ok, if_true, Bool.false_eq_true, if_false, e.2.2, e.1, and_self, true_and, and_true]
          · simp only [AV.leL, AV.le, Mem.le, Mem.leP, Blk.le, Blk.pad, Data.le, Data.size, Cap.le, and_true, true_and, and_self, true_implies, implies_true, imp_self, List.length_nil]
  · (try simp only [decide_eq_true_eq, decide_eq_false_iff_not, Bool.not_eq_true', Bool.not_eq_false', beq_iff_eq, beq_eq_false_iff_ne, Int.not_lt, Int.not_le, ge_iff_le, gt_iff_lt, ne_eq, Bool.false_eq_true, Bool.true_eq_false, not_true_eq_false, not_false_eq_true, Bool.and_eq_true, Bool.not_eq_eq_eq_not, Bool.not_true, Bool.not_false, bne_iff_ne, bne_eq_false_iff_eq, Int.toNat_natCast, Nat.mul_one, Nat.add_zero, Nat.zero_add, List.take_length, List.drop_zero] at h1)
    all_goals
      refine Tree.GivesP.br (fun h2 => ?_) (fun h2 => ?_)
      · (try simp only [decide_eq_true_eq, decide_eq_false_iff_not, Bool.not_eq_true', Bool.not_eq_false', beq_iff_eq, beq_eq_false_iff_ne, Int.not_lt, Int.not_le, ge_iff_le, gt_iff_lt, ne_eq, Bool.false_eq_true, Bool.true_eq_false, not_true_eq_false, not_false_eq_true, Bool.and_eq_true, Bool.not_eq_eq_eq_not, Bool.not_true, Bool.not_false, bne_iff_ne, bne_eq_false_iff_eq, Int.toNat_natCast, Nat.mul_one, Nat.add_zero, Nat.zero_add, List.take_length, List.drop_zero] at h2)
        all_goals
          refine Tree.GivesP.ret ?_ ?_
          · have e := ep (by omega)
            have ok : byOk c (numW h l) = false := by unfold byOk; rw [e.1, ← e.2.1, decide_eq_false_iff_not]; omega
            simp only [AV.le, AV.leL, byQ, byR, ok, if_true, Bool.false_eq_true, if_false, e.2.2, e.1, and_self, true_and, and_true]
          · simp only [AV.leL, AV.le, Mem.le, Mem.leP, Blk.le, Blk.pad, Data.le, Data.size, Cap.le, and_true, true_and, and_self, true_implies, implies_true, imp_self, List.length_nil]
      · (try simp only [decide_eq_true_eq, decide_eq_false_iff_not, Bool.not_eq_true', Bool.not_eq_false', beq_iff_eq, beq_eq_false_iff_ne, Int.not_lt, Int.not_le, ge_iff_le, gt_iff_lt, ne_eq, Bool.false_eq_true, Bool.true_eq_false, not_true_eq_false, not_false_eq_true, Bool.and_eq_true, Bool.not_eq_eq_eq_not, Bool.not_true, Bool.not_false, bne_iff_ne, bne_eq_false_iff_eq, Int.toNat_natCast, Nat.mul_one, Nat.add_zero, Nat.zero_add, List.take_length, List.drop_zero] at h2)
        all_goals
          refine Tree.GivesP.chk (by first | (simp only [and_self]; done) | ((repeat' with_reducible refine And.intro ?_ ?_) <;> first | trivial | omega | (simp only [w64, wu64]; omega))) ?_
          refine Tree.GivesP.ret ?_ ?_
          · have e := ep (by omega)
            have ok : byOk c (numW h l) = true := by unfold byOk; rw [e.1, ← e.2.1, decide_eq_true_eq]; omega
            simp only [AV.le, AV.leL, byQ, byR, ok, if_true, Bool.false_eq_true, if_false, e.2.2, e.1, and_self, true_and, and_true]
          · simp only [AV.leL, AV.le, Mem.le, Mem.leP, Blk.le, Blk.pad, Data.le, Data.size, Cap.le, and_true, true_and, and_self, true_implies, implies_true, imp_self, List.length_nil]
theorem sby (hall : AllOk Try.prog 0 (fun _ => none) tab4) (h : Int) (l : Int) (c : Int) (hw : -9223372036854775808 ≤ h ∧ h ≤ 9223372036854775807 ∧ 0 ≤ l ∧ l ≤ 18446744073709551615 ∧ 0 ≤ c ∧ c ≤ 18446744073709551615) : SoundAt (mkC Try.prog 0 (fun _ => none) []) 60 [.agg [.int .i64 false h, .int .u64 false l], .int .u64 false c] [] (.tup [.int .u64 false (byQ c (numW h l)), .int .u64 false (byR c (numW h l)), .bool false (byOk c (numW h l))], []) := sound_ofP hall mix (tby h l c) (gby h l c hw)
theorem Fby_ok (hall : AllOk Try.prog 0 (fun _ => none) tab4) : PureF Try.prog 3 60 Fby := by
  intro xs c v news h hc
  unfold Fby at h
  split at h
  · rename_i _ h _ l _ c
    cases h
    refine ⟨(by intro b hb; cases hb), SoundAt.flags (sby hall h l c hc) ?_⟩
    simp [PA.avs, AV.le, AV.leL, Cap.le]
  · cases h
end Go.Proofs.Ytoihhmpmlbdeiaa.Rig
