/- The loop of a throughput's growth in parts. -/
import Derived.Test.YtonhkbgielilbaaQrnext
import Derived.Test.YtonhkbgielilbaaR24
namespace Go.Proofs.Ytonhkbgielilbaa.Rig
open Go
structure X32 where
  x0 : Int
  x1 : Int
  x2 : Int
  x3 : Int
  x4 : Int
  x5 : Int
  x6 : Int
  x7 : Int
  x8 : Int
  x9 : Int
  x10 : Int
  x11 : Int
  x12 : Int
  x13 : Int
  x14 : Int
  x15 : Int
  x16 : Int
  x17 : Int
  x18 : Int
  x19 : Int
  x20 : Int
  x21 : Int
  x22 : Int
  n : Int
def hd32 : X32 → St
  | ⟨x0, x1, x2, x3, x4, x5, x6, x7, x8, x9, x10, x11, x12, x13, x14, x15, x16, x17, x18, x19, x20, x21, x22, n⟩ => ⟨[.junk, .int .i64 false n, .ptr ⟨0, 0, 0, 0⟩, .junk, .ptr ⟨1, 0, 0, 0⟩, .junk, .junk, .junk, .junk, .junk, .junk, .junk, .junk, .junk, .junk, .junk, .junk, .junk, .junk, .junk, .junk, .junk, .junk, .junk, .junk, .junk], [some ⟨40, true, false, false, .cells [.int .i64 false x0, .int .i64 false x1, .int .i64 false x2, .int .i64 false x3, .int .i64 false x4, .int .i64 false x5, .int .i64 false x6, .int .i64 false x7, .int .i64 false x8, .int .i64 false x9, .int .i64 false x10, .int .i64 false x11, .int .i64 false x12, .int .i64 false x13, .int .i64 false x14, .int .i64 false x15, .int .i64 false x16, .int .i64 false x17, .int .i64 false x18, .int .i64 false x19, .int .i64 false x20, .int .i64 false x21, .int .i64 false x22]⟩, some ⟨40, true, false, false, .cells [.junk, .junk, .junk, .junk, .junk, .junk, .junk, .junk, .junk, .junk, .junk, .junk, .junk, .junk, .junk, .junk, .junk, .junk, .junk, .junk, .junk, .junk, .junk]⟩]⟩
def stepsC (ca th cy n : Int) : Int := if 0 < n then max cy (min ((th + n) / 2 / ca) 2147483647) else cy
def ok32 : X32 → Prop
  | ⟨x0, x1, x2, x3, x4, x5, x6, x7, x8, x9, x10, x11, x12, x13, x14, x15, x16, x17, x18, x19, x20, x21, x22, n⟩ => x12 = 0 ∧ ok4 x11 0 x13 x8 = true ∧ 0 ≤ n ∧ n ≤ 1073741824 ∧ x11 + n ≤ 1125899906842624
def end32 : X32 → X32
  | ⟨x0, x1, x2, x3, x4, x5, x6, x7, x8, x9, x10, x11, x12, x13, x14, x15, x16, x17, x18, x19, x20, x21, x22, n⟩ => ⟨x0, x1, x2, x3, x4, x5, x6, x7, x8, x9, x10, (x11 + n), x12, (stepsC x8 x11 x13 n), x14, x15, x16, x17, x18, x19, x20, x21, x22, 0⟩
def res32 (x : X32) : Tree (Ex × St) := .chk (ok32 x) (.ret (.exit 0, hd32 (end32 x)))
set_option linter.unusedVariables false in
def ans32 (st : St) : Tree (Ex × St) := match st.env.getD 1 .junk, st.mem with
  | .int .i64 _ n, [some ⟨_, _, _, _, .cells [.int .i64 _ x0, .int .i64 _ x1, .int .i64 _ x2, .int .i64 _ x3, .int .i64 _ x4, .int .i64 _ x5, .int .i64 _ x6, .int .i64 _ x7, .int .i64 _ x8, .int .i64 _ x9, .int .i64 _ x10, .int .i64 _ x11, .int .i64 _ x12, .int .i64 _ x13, .int .i64 _ x14, .int .i64 _ x15, .int .i64 _ x16, .int .i64 _ x17, .int .i64 _ x18, .int .i64 _ x19, .int .i64 _ x20, .int .i64 _ x21, .int .i64 _ x22]⟩, _] => .chk (st.le (hd32 ⟨x0, x1, x2, x3, x4, x5, x6, x7, x8, x9, x10, x11, x12, x13, x14, x15, x16, x17, x18, x19, x20, x21, x22, n⟩)) (res32 ⟨x0, x1, x2, x3, x4, x5, x6, x7, x8, x9, x10, x11, x12, x13, x14, x15, x16, x17, x18, x19, x20, x21, x22, n⟩)
  | _, _ => .fail
end Go.Proofs.Ytonhkbgielilbaa.Rig
