/- The loop of a throughput's growth in parts: what a round does. -/
import Derived.Test.YtonhkbgielilbaaQD32
namespace Go.Proofs.Ytonhkbgielilbaa.Rig
open Go
set_option maxRecDepth 100000 in
theorem tL32 (x0 x1 x2 x3 x4 x5 x6 x7 x8 x9 x10 x11 x12 x13 x14 x15 x16 x17 x18 x19 x20 x21 x22 n : Int) : tidied ⟨[], [1, 2, 4]⟩ (fun _ => ⟨[], [1, 2, 4]⟩) 0 (evCode (mkL Try.prog 0 (fun _ => none) [(31, ernext), (30, enext), (24, erstep), (23, estep), (36, esum), (26, ertotal), (25, etotal), (42, ersize), (41, esize), (28, erchk), (27, echk), (43, eright), (29, eworks)] [⟨32, 1, ⟨[], [1, 2, 4]⟩, ans32⟩]) (evCall (mkC Try.prog 0 (fun _ => none) [(31, ernext), (30, enext), (24, erstep), (23, estep), (36, esum), (26, ertotal), (25, etotal), (42, ersize), (41, esize), (28, erchk), (27, echk), (43, eright), (29, eworks)]) 50) 32 0 fuelC (bodyAt Try.prog 32 0) (hd32 ⟨x0, x1, x2, x3, x4, x5, x6, x7, x8, x9, x10, x11, x12, x13, x14, x15, x16, x17, x18, x19, x20, x21, x22, n⟩)) =
  Tree.br (decide (n > 0))
    (Tree.chk ((-9223372036854775808 ≤ if 1000000 < n then 1000000 else n) ∧ (if 1000000 < n then 1000000 else n) ≤ 9223372036854775807)
      (Tree.br (errZ (sok4 x11 x12 x13 x8 (if 1000000 < n then 1000000 else n) 1000) != 0)
        (Tree.ret
          (Ex.ret,
            St.mk
              [AV.junk, AV.int IntKind.i64 false n, AV.ptr (Ref.mk 0 0 0 0), AV.junk, AV.ptr (Ref.mk 1 0 0 0), AV.junk, AV.junk, AV.junk, AV.junk, AV.junk, AV.junk, AV.junk, AV.junk, AV.junk, AV.junk, AV.junk, AV.junk, AV.junk, AV.junk,
                AV.junk, AV.junk, AV.junk, AV.junk, AV.junk, AV.junk, AV.junk]
              [some
                  (Blk.mk 40 true false false
                    (Data.cells
                      [AV.int IntKind.i64 false x0, AV.int IntKind.i64 false x1, AV.int IntKind.i64 false x2, AV.int IntKind.i64 false x3, AV.int IntKind.i64 false x4, AV.int IntKind.i64 false x5,
                        AV.int IntKind.i64 false x6, AV.int IntKind.i64 false x7, AV.int IntKind.i64 false x8, AV.int IntKind.i64 false x9, AV.int IntKind.i64 false x10, AV.int IntKind.i64 false x11,
                        AV.int IntKind.i64 false x12, AV.int IntKind.i64 false x13, AV.int IntKind.i64 false x14, AV.int IntKind.i64 false x15, AV.int IntKind.i64 false x16, AV.int IntKind.i64 false x17,
                        AV.int IntKind.i64 false x18, AV.int IntKind.i64 false x19, AV.int IntKind.i64 false x20, AV.int IntKind.i64 false x21, AV.int IntKind.i64 false x22])),
                some
                  (Blk.mk 40 true false false
                    (Data.cells
                      [AV.int IntKind.i64 true 0, AV.int IntKind.i64 true 0, AV.int IntKind.i64 true 0, AV.int IntKind.i64 true 0, AV.int IntKind.i64 true 0, AV.int IntKind.i64 true 0, AV.int IntKind.i64 true 0, AV.int IntKind.i64 true 0,
                        AV.int IntKind.i64 true 0, AV.int IntKind.i64 true 0, AV.int IntKind.i64 true 0, AV.int IntKind.i64 true 0, AV.int IntKind.i64 true 0, AV.int IntKind.i64 true 0, AV.int IntKind.i64 true 0, AV.int IntKind.i64 true 0,
                        AV.int IntKind.i64 true 0, AV.int IntKind.i64 true 0, AV.int IntKind.i64 true 0, AV.int IntKind.i64 true 0, AV.int IntKind.i64 true 0, AV.int IntKind.i64 true 0, AV.int IntKind.i64 true 0]))]))
        (Tree.ret
          (Ex.norm,
            St.mk
              [AV.junk, AV.int IntKind.i64 false (IntKind.wrap IntKind.i64 (n - if 1000000 < n then 1000000 else n)), AV.ptr (Ref.mk 0 0 0 0), AV.junk, AV.ptr (Ref.mk 1 0 0 0), AV.junk, AV.junk, AV.junk, AV.junk, AV.junk, AV.junk,
                AV.junk, AV.junk, AV.junk, AV.junk, AV.junk, AV.junk, AV.junk, AV.junk, AV.junk, AV.junk, AV.junk, AV.junk, AV.junk, AV.junk, AV.junk]
              [some
                  (Blk.mk 40 true false false
                    (Data.cells
                      [AV.int IntKind.i64 false (selZ (sok4 x11 x12 x13 x8 (if 1000000 < n then 1000000 else n) 1000) x0),
                        AV.int IntKind.i64 false (selZ (sok4 x11 x12 x13 x8 (if 1000000 < n then 1000000 else n) 1000) x1),
                        AV.int IntKind.i64 false (selZ (sok4 x11 x12 x13 x8 (if 1000000 < n then 1000000 else n) 1000) x2),
                        AV.int IntKind.i64 false (selZ (sok4 x11 x12 x13 x8 (if 1000000 < n then 1000000 else n) 1000) x3),
                        AV.int IntKind.i64 false (selZ (sok4 x11 x12 x13 x8 (if 1000000 < n then 1000000 else n) 1000) x4),
                        AV.int IntKind.i64 false (selZ (sok4 x11 x12 x13 x8 (if 1000000 < n then 1000000 else n) 1000) x5),
                        AV.int IntKind.i64 false (selZ (sok4 x11 x12 x13 x8 (if 1000000 < n then 1000000 else n) 1000) x6),
                        AV.int IntKind.i64 false (selZ (sok4 x11 x12 x13 x8 (if 1000000 < n then 1000000 else n) 1000) x7),
                        AV.int IntKind.i64 false (selZ (sok4 x11 x12 x13 x8 (if 1000000 < n then 1000000 else n) 1000) x8),
                        AV.int IntKind.i64 false (selZ (sok4 x11 x12 x13 x8 (if 1000000 < n then 1000000 else n) 1000) x9),
                        AV.int IntKind.i64 false (selZ (sok4 x11 x12 x13 x8 (if 1000000 < n then 1000000 else n) 1000) x10),
                        AV.int IntKind.i64 false
                          (selZ (sok4 x11 x12 x13 x8 (if 1000000 < n then 1000000 else n) 1000) (min 1125899906842624000 (x11 * 1000 + x12 + sizeZ (if 1000000 < n then 1000000 else n) * 1000) / 1000)),
                        AV.int IntKind.i64 false
                          (selZ (sok4 x11 x12 x13 x8 (if 1000000 < n then 1000000 else n) 1000) (min 1125899906842624000 (x11 * 1000 + x12 + sizeZ (if 1000000 < n then 1000000 else n) * 1000) % 1000)),
                        AV.int IntKind.i64 false
                          (selZ (sok4 x11 x12 x13 x8 (if 1000000 < n then 1000000 else n) 1000)
                            (max x13 (min (min 1125899906842624000 (x11 * 1000 + x12 + sizeZ (if 1000000 < n then 1000000 else n) * 1000) / 1000 / 2 / x8) 2147483647))),
                        AV.int IntKind.i64 false (selZ (sok4 x11 x12 x13 x8 (if 1000000 < n then 1000000 else n) 1000) x14),
                        AV.int IntKind.i64 false (selZ (sok4 x11 x12 x13 x8 (if 1000000 < n then 1000000 else n) 1000) x15),
                        AV.int IntKind.i64 false (selZ (sok4 x11 x12 x13 x8 (if 1000000 < n then 1000000 else n) 1000) x16),
                        AV.int IntKind.i64 false (selZ (sok4 x11 x12 x13 x8 (if 1000000 < n then 1000000 else n) 1000) x17),
                        AV.int IntKind.i64 false (selZ (sok4 x11 x12 x13 x8 (if 1000000 < n then 1000000 else n) 1000) x18),
                        AV.int IntKind.i64 false (selZ (sok4 x11 x12 x13 x8 (if 1000000 < n then 1000000 else n) 1000) x19),
                        AV.int IntKind.i64 false (selZ (sok4 x11 x12 x13 x8 (if 1000000 < n then 1000000 else n) 1000) x20),
                        AV.int IntKind.i64 false (selZ (sok4 x11 x12 x13 x8 (if 1000000 < n then 1000000 else n) 1000) x21),
                        AV.int IntKind.i64 false (selZ (sok4 x11 x12 x13 x8 (if 1000000 < n then 1000000 else n) 1000) x22)])),
                some
                  (Blk.mk 40 true false false
                    (Data.cells
                      [AV.junk, AV.junk, AV.junk, AV.junk, AV.junk, AV.junk, AV.junk, AV.junk, AV.junk, AV.junk, AV.junk, AV.junk, AV.junk, AV.junk, AV.junk, AV.junk, AV.junk, AV.junk, AV.junk, AV.junk, AV.junk, AV.junk, AV.junk]))]))))
    (Tree.ret
      (Ex.exit 0,
        St.mk
          [AV.junk, AV.int IntKind.i64 false n, AV.ptr (Ref.mk 0 0 0 0), AV.junk, AV.ptr (Ref.mk 1 0 0 0), AV.junk, AV.junk, AV.junk, AV.junk, AV.junk, AV.junk, AV.junk, AV.junk, AV.junk, AV.junk, AV.junk, AV.junk, AV.junk, AV.junk,
            AV.junk, AV.junk, AV.junk, AV.junk, AV.junk, AV.junk, AV.junk]
          [some
              (Blk.mk 40 true false false
                (Data.cells
                  [AV.int IntKind.i64 false x0, AV.int IntKind.i64 false x1, AV.int IntKind.i64 false x2, AV.int IntKind.i64 false x3, AV.int IntKind.i64 false x4, AV.int IntKind.i64 false x5, AV.int IntKind.i64 false x6,
                    AV.int IntKind.i64 false x7, AV.int IntKind.i64 false x8, AV.int IntKind.i64 false x9, AV.int IntKind.i64 false x10, AV.int IntKind.i64 false x11, AV.int IntKind.i64 false x12,
                    AV.int IntKind.i64 false x13, AV.int IntKind.i64 false x14, AV.int IntKind.i64 false x15, AV.int IntKind.i64 false x16, AV.int IntKind.i64 false x17, AV.int IntKind.i64 false x18,
                    AV.int IntKind.i64 false x19, AV.int IntKind.i64 false x20, AV.int IntKind.i64 false x21, AV.int IntKind.i64 false x22])),
            some
              (Blk.mk 40 true false false
                (Data.cells [AV.junk, AV.junk, AV.junk, AV.junk, AV.junk, AV.junk, AV.junk, AV.junk, AV.junk, AV.junk, AV.junk, AV.junk, AV.junk, AV.junk, AV.junk, AV.junk, AV.junk, AV.junk, AV.junk, AV.junk, AV.junk, AV.junk, AV.junk]))])) := by kernel_rfl
theorem stepsC_step {ca th cy n k : Int} (hc : 1 ≤ ca) (hk : 0 < k) (hn : k ≤ n) : stepsC ca (th + k) (max cy (min ((th + k) / 2 / ca) 2147483647)) (n - k) = stepsC ca th cy n := by
  have h1 : (th + k) / 2 / ca ≤ (th + n) / 2 / ca := Int.ediv_le_ediv (by omega) (by omega)
  have e : th + k + (n - k) = th + n := by omega
  unfold stepsC
  rw [e, if_pos (show 0 < n by omega)]
  split
  · omega
  · have : n = k := by omega
    subst this
    omega
theorem cells_le (l : List AV) : AV.leL l l := AV.leL_refl l
set_option maxRecDepth 100000 in
theorem step32 (x0 x1 x2 x3 x4 x5 x6 x7 x8 x9 x10 x11 x12 x13 x14 x15 x16 x17 x18 x19 x20 x21 x22 n : Int) (ex : Ex) (r : St) (hr : (res32 ⟨x0, x1, x2, x3, x4, x5, x6, x7, x8, x9, x10, x11, x12, x13, x14, x15, x16, x17, x18, x19, x20, x21, x22, n⟩).runs (ex, r)) : (Tree.br (decide (n > 0))
    (Tree.chk ((-9223372036854775808 ≤ if 1000000 < n then 1000000 else n) ∧ (if 1000000 < n then 1000000 else n) ≤ 9223372036854775807)
      (Tree.br (errZ (sok4 x11 x12 x13 x8 (if 1000000 < n then 1000000 else n) 1000) != 0)
        (Tree.ret
          (Ex.ret,
            St.mk
              [AV.junk, AV.int IntKind.i64 false n, AV.ptr (Ref.mk 0 0 0 0), AV.junk, AV.ptr (Ref.mk 1 0 0 0), AV.junk, AV.junk, AV.junk, AV.junk, AV.junk, AV.junk, AV.junk, AV.junk, AV.junk, AV.junk, AV.junk, AV.junk, AV.junk, AV.junk,
                AV.junk, AV.junk, AV.junk, AV.junk, AV.junk, AV.junk, AV.junk]
              [some
                  (Blk.mk 40 true false false
                    (Data.cells
                      [AV.int IntKind.i64 false x0, AV.int IntKind.i64 false x1, AV.int IntKind.i64 false x2, AV.int IntKind.i64 false x3, AV.int IntKind.i64 false x4, AV.int IntKind.i64 false x5,
                        AV.int IntKind.i64 false x6, AV.int IntKind.i64 false x7, AV.int IntKind.i64 false x8, AV.int IntKind.i64 false x9, AV.int IntKind.i64 false x10, AV.int IntKind.i64 false x11,
                        AV.int IntKind.i64 false x12, AV.int IntKind.i64 false x13, AV.int IntKind.i64 false x14, AV.int IntKind.i64 false x15, AV.int IntKind.i64 false x16, AV.int IntKind.i64 false x17,
                        AV.int IntKind.i64 false x18, AV.int IntKind.i64 false x19, AV.int IntKind.i64 false x20, AV.int IntKind.i64 false x21, AV.int IntKind.i64 false x22])),
                some
                  (Blk.mk 40 true false false
                    (Data.cells
                      [AV.int IntKind.i64 true 0, AV.int IntKind.i64 true 0, AV.int IntKind.i64 true 0, AV.int IntKind.i64 true 0, AV.int IntKind.i64 true 0, AV.int IntKind.i64 true 0, AV.int IntKind.i64 true 0, AV.int IntKind.i64 true 0,
                        AV.int IntKind.i64 true 0, AV.int IntKind.i64 true 0, AV.int IntKind.i64 true 0, AV.int IntKind.i64 true 0, AV.int IntKind.i64 true 0, AV.int IntKind.i64 true 0, AV.int IntKind.i64 true 0, AV.int IntKind.i64 true 0,
                        AV.int IntKind.i64 true 0, AV.int IntKind.i64 true 0, AV.int IntKind.i64 true 0, AV.int IntKind.i64 true 0, AV.int IntKind.i64 true 0, AV.int IntKind.i64 true 0, AV.int IntKind.i64 true 0]))]))
        (Tree.ret
          (Ex.norm,
            St.mk
              [AV.junk, AV.int IntKind.i64 false (IntKind.wrap IntKind.i64 (n - if 1000000 < n then 1000000 else n)), AV.ptr (Ref.mk 0 0 0 0), AV.junk, AV.ptr (Ref.mk 1 0 0 0), AV.junk, AV.junk, AV.junk, AV.junk, AV.junk, AV.junk,
                AV.junk, AV.junk, AV.junk, AV.junk, AV.junk, AV.junk, AV.junk, AV.junk, AV.junk, AV.junk, AV.junk, AV.junk, AV.junk, AV.junk, AV.junk]
              [some
                  (Blk.mk 40 true false false
                    (Data.cells
                      [AV.int IntKind.i64 false (selZ (sok4 x11 x12 x13 x8 (if 1000000 < n then 1000000 else n) 1000) x0),
                        AV.int IntKind.i64 false (selZ (sok4 x11 x12 x13 x8 (if 1000000 < n then 1000000 else n) 1000) x1),
                        AV.int IntKind.i64 false (selZ (sok4 x11 x12 x13 x8 (if 1000000 < n then 1000000 else n) 1000) x2),
                        AV.int IntKind.i64 false (selZ (sok4 x11 x12 x13 x8 (if 1000000 < n then 1000000 else n) 1000) x3),
                        AV.int IntKind.i64 false (selZ (sok4 x11 x12 x13 x8 (if 1000000 < n then 1000000 else n) 1000) x4),
                        AV.int IntKind.i64 false (selZ (sok4 x11 x12 x13 x8 (if 1000000 < n then 1000000 else n) 1000) x5),
                        AV.int IntKind.i64 false (selZ (sok4 x11 x12 x13 x8 (if 1000000 < n then 1000000 else n) 1000) x6),
                        AV.int IntKind.i64 false (selZ (sok4 x11 x12 x13 x8 (if 1000000 < n then 1000000 else n) 1000) x7),
                        AV.int IntKind.i64 false (selZ (sok4 x11 x12 x13 x8 (if 1000000 < n then 1000000 else n) 1000) x8),
                        AV.int IntKind.i64 false (selZ (sok4 x11 x12 x13 x8 (if 1000000 < n then 1000000 else n) 1000) x9),
                        AV.int IntKind.i64 false (selZ (sok4 x11 x12 x13 x8 (if 1000000 < n then 1000000 else n) 1000) x10),
                        AV.int IntKind.i64 false
                          (selZ (sok4 x11 x12 x13 x8 (if 1000000 < n then 1000000 else n) 1000) (min 1125899906842624000 (x11 * 1000 + x12 + sizeZ (if 1000000 < n then 1000000 else n) * 1000) / 1000)),
                        AV.int IntKind.i64 false
                          (selZ (sok4 x11 x12 x13 x8 (if 1000000 < n then 1000000 else n) 1000) (min 1125899906842624000 (x11 * 1000 + x12 + sizeZ (if 1000000 < n then 1000000 else n) * 1000) % 1000)),
                        AV.int IntKind.i64 false
                          (selZ (sok4 x11 x12 x13 x8 (if 1000000 < n then 1000000 else n) 1000)
                            (max x13 (min (min 1125899906842624000 (x11 * 1000 + x12 + sizeZ (if 1000000 < n then 1000000 else n) * 1000) / 1000 / 2 / x8) 2147483647))),
                        AV.int IntKind.i64 false (selZ (sok4 x11 x12 x13 x8 (if 1000000 < n then 1000000 else n) 1000) x14),
                        AV.int IntKind.i64 false (selZ (sok4 x11 x12 x13 x8 (if 1000000 < n then 1000000 else n) 1000) x15),
                        AV.int IntKind.i64 false (selZ (sok4 x11 x12 x13 x8 (if 1000000 < n then 1000000 else n) 1000) x16),
                        AV.int IntKind.i64 false (selZ (sok4 x11 x12 x13 x8 (if 1000000 < n then 1000000 else n) 1000) x17),
                        AV.int IntKind.i64 false (selZ (sok4 x11 x12 x13 x8 (if 1000000 < n then 1000000 else n) 1000) x18),
                        AV.int IntKind.i64 false (selZ (sok4 x11 x12 x13 x8 (if 1000000 < n then 1000000 else n) 1000) x19),
                        AV.int IntKind.i64 false (selZ (sok4 x11 x12 x13 x8 (if 1000000 < n then 1000000 else n) 1000) x20),
                        AV.int IntKind.i64 false (selZ (sok4 x11 x12 x13 x8 (if 1000000 < n then 1000000 else n) 1000) x21),
                        AV.int IntKind.i64 false (selZ (sok4 x11 x12 x13 x8 (if 1000000 < n then 1000000 else n) 1000) x22)])),
                some
                  (Blk.mk 40 true false false
                    (Data.cells
                      [AV.junk, AV.junk, AV.junk, AV.junk, AV.junk, AV.junk, AV.junk, AV.junk, AV.junk, AV.junk, AV.junk, AV.junk, AV.junk, AV.junk, AV.junk, AV.junk, AV.junk, AV.junk, AV.junk, AV.junk, AV.junk, AV.junk, AV.junk]))]))))
    (Tree.ret
      (Ex.exit 0,
        St.mk
          [AV.junk, AV.int IntKind.i64 false n, AV.ptr (Ref.mk 0 0 0 0), AV.junk, AV.ptr (Ref.mk 1 0 0 0), AV.junk, AV.junk, AV.junk, AV.junk, AV.junk, AV.junk, AV.junk, AV.junk, AV.junk, AV.junk, AV.junk, AV.junk, AV.junk, AV.junk,
            AV.junk, AV.junk, AV.junk, AV.junk, AV.junk, AV.junk, AV.junk]
          [some
              (Blk.mk 40 true false false
                (Data.cells
                  [AV.int IntKind.i64 false x0, AV.int IntKind.i64 false x1, AV.int IntKind.i64 false x2, AV.int IntKind.i64 false x3, AV.int IntKind.i64 false x4, AV.int IntKind.i64 false x5, AV.int IntKind.i64 false x6,
                    AV.int IntKind.i64 false x7, AV.int IntKind.i64 false x8, AV.int IntKind.i64 false x9, AV.int IntKind.i64 false x10, AV.int IntKind.i64 false x11, AV.int IntKind.i64 false x12,
                    AV.int IntKind.i64 false x13, AV.int IntKind.i64 false x14, AV.int IntKind.i64 false x15, AV.int IntKind.i64 false x16, AV.int IntKind.i64 false x17, AV.int IntKind.i64 false x18,
                    AV.int IntKind.i64 false x19, AV.int IntKind.i64 false x20, AV.int IntKind.i64 false x21, AV.int IntKind.i64 false x22])),
            some
              (Blk.mk 40 true false false
                (Data.cells [AV.junk, AV.junk, AV.junk, AV.junk, AV.junk, AV.junk, AV.junk, AV.junk, AV.junk, AV.junk, AV.junk, AV.junk, AV.junk, AV.junk, AV.junk, AV.junk, AV.junk, AV.junk, AV.junk, AV.junk, AV.junk, AV.junk, AV.junk]))]))).Sat fun p => match p.1 with
      | .norm => ∃ x', p.2.le (hd32 x') ∧ x'.n.toNat < n.toNat ∧ (res32 x').runs (ex, r)
      | e => ex = e ∧ p.2.le r := by
  have hr' : ok32 ⟨x0, x1, x2, x3, x4, x5, x6, x7, x8, x9, x10, x11, x12, x13, x14, x15, x16, x17, x18, x19, x20, x21, x22, n⟩ ∧ (Ex.exit 0, hd32 (end32 ⟨x0, x1, x2, x3, x4, x5, x6, x7, x8, x9, x10, x11, x12, x13, x14, x15, x16, x17, x18, x19, x20, x21, x22, n⟩)) = (ex, r) := hr
  obtain ⟨⟨h12, hok, hn0, hn1, hth⟩, heq⟩ := hr'
  simp only [Prod.mk.injEq] at heq
  obtain ⟨rfl, rfl⟩ := heq
  subst h12
  have hok' := hok
  simp only [ok4, decide_eq_true_eq] at hok'
  generalize hk : (if 1000000 < n then 1000000 else n) = k
  refine Tree.Sat.br (fun h => ?_) (fun h => ?_)
  · simp only [decide_eq_true_eq] at h
    have k1 : 0 < k ∧ k ≤ 1000000 ∧ k ≤ n := by subst hk; split <;> omega
    have k2 : sizeZ k = k := by unfold sizeZ; split <;> omega
    have hs : sok4 x11 0 x13 x8 k 1000 = true := sok4_iff.2 ⟨hok, by omega, by omega, by omega⟩
    have k3 : min 1125899906842624000 (x11 * 1000 + 0 + k * 1000) = (x11 + k) * 1000 := by omega
    refine Tree.Sat.chk ⟨by omega, by omega⟩ (Tree.Sat.br (fun h2 => ?_) (fun h2 => ?_))
    · rw [errZ_bne, hs] at h2
      cases h2
    · have k4 : (x11 + k) * 1000 / 1000 = x11 + k := by omega
      have k5 : (x11 + k) * 1000 % 1000 = 0 := by omega
      have k6 : IntKind.i64.wrap (n - k) = n - k := by rw [w64]; omega
      have k7 : 0 ≤ (x11 + k) / 2 / x8 := Int.ediv_nonneg (by omega) (by omega)
      refine Tree.Sat.ret ⟨⟨x0, x1, x2, x3, x4, x5, x6, x7, x8, x9, x10, (x11 + k), 0, (max x13 (min ((x11 + k) / 2 / x8) 2147483647)), x14, x15, x16, x17, x18, x19, x20, x21, x22, n - k⟩, ?_, ?_, ?_⟩
      · simp only [hs, selZ_t, k2, k3, k4, k5, k6]
        exact ⟨by simp only [hd32, AV.leL, AV.le, and_self], by simp only [hd32, Mem.le, Blk.le, Data.le, AV.leL, AV.le, and_self, and_true, true_and, imp_self]⟩
      · show (n - k).toNat < n.toNat
        omega
      · refine ⟨⟨rfl, ?_, by omega, by omega, by omega⟩, ?_⟩
        · simp only [ok4, decide_eq_true_eq]
          omega
        · show (Ex.exit 0, hd32 (end32 _)) = _
          simp only [end32]
          rw [stepsC_step (by omega) k1.1 k1.2.2, show x11 + k + (n - k) = x11 + n by omega]
  · simp only [decide_eq_false_iff_not] at h
    have hn : n = 0 := by omega
    subst hn
    refine Tree.Sat.ret ⟨rfl, ?_⟩
    simp only [end32, stepsC, Int.add_zero, Int.lt_irrefl, if_false]
    exact ⟨by simp only [hd32, AV.leL, AV.le, and_self], by simp only [hd32, Mem.le, Blk.le, Data.le, AV.leL, AV.le, and_self, and_true, true_and, imp_self]⟩
theorem loop32 : ∀ i, i < (loopsAt Try.prog 32).length → LoopOk (mkL Try.prog 0 (fun _ => none) [(31, ernext), (30, enext), (24, erstep), (23, estep), (36, esum), (26, ertotal), (25, etotal), (42, ersize), (41, esize), (28, erchk), (27, echk), (43, eright), (29, eworks)] [⟨32, 1, ⟨[], [1, 2, 4]⟩, ans32⟩]) 32 0 (bodyAt Try.prog 32 i) := by
  intro i hi
  have hlen : (loopsAt Try.prog 32).length = 1 := by kernel_rfl
  obtain rfl : i = 0 := by omega
  have hkey : Code.key (bodyAt Try.prog 32 0) = 1 := by kernel_rfl
  have hin : loopsIn (bodyAt Try.prog 32 0) = [] := by kernel_rfl
  have hall := all13
  have hrow : lookL [⟨32, 1, ⟨[], [1, 2, 4]⟩, ans32⟩] 32 (Code.key (bodyAt Try.prog 32 0)) = some (⟨32, 1, ⟨[], [1, 2, 4]⟩, ans32⟩ : LoopRow) := by rw [hkey]; rfl
  refine loop_row (X := X32) (row := ⟨32, 1, ⟨[], [1, 2, 4]⟩, ans32⟩) hall mix hrow (fun b hb => by rw [hin] at hb; cases hb) (fun _ => ⟨[], [1, 2, 4]⟩) hd32 res32 (fun x => x.n.toNat) (fun st ex r h => ?_) (fun x ex r hr => ?_)
  · have h' : (ans32 st).runs (ex, r) := h
    unfold ans32 at h'
    split at h'
    · exact ⟨_, h'.1, h'.2⟩
    · exact h'.elim
  · obtain ⟨x0, x1, x2, x3, x4, x5, x6, x7, x8, x9, x10, x11, x12, x13, x14, x15, x16, x17, x18, x19, x20, x21, x22, n⟩ := x
    have := step32 x0 x1 x2 x3 x4 x5 x6 x7 x8 x9 x10 x11 x12 x13 x14 x15 x16 x17 x18 x19 x20 x21 x22 n ex r hr
    rw [← tL32] at this
    exact this
end Go.Proofs.Ytonhkbgielilbaa.Rig
