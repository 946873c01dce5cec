/- The engine, part Tw: more shapes of arguments. -/
import Derived.Test.YtjepofcbkojibaaGreatDoorBasW6
set_option maxRecDepth 100000
set_option maxHeartbeats 4000000
set_option linter.unusedVariables false
set_option linter.unusedSimpArgs false
namespace Go.Bas
structure Walk where
 (f : Frm) (size n0 n1 n2 many : Int)
def Walk.av (r : Walk) : AV := .iptr (r.f.cells ++ [.int .i64 r.size, .int .u32 r.n0, .int .u32 r.n1, .int .u32 r.n2, .int .i64 r.many]) 0
def walkOf : AV -> Option Walk
 | .iptr [.int .u8 kind, .int .u32 a, .int .u32 b, .int .u8 pc, .int .u8 i, .int .u8 j, .int .u8 n, .int .u8 p, .int .u8 h, .int .u32 x, .int .u32 y,
  .int .i64 size, .int .u32 n0, .int .u32 n1, .int .u32 n2, .int .i64 many] 0 => some ⟨⟨kind, a, b, pc, i, j, n, p, h, x, y⟩, size, n0, n1, n2, many⟩
 | _ => none
theorem walkOf_some {a : AV} {c : Walk} (h : walkOf a = some c) : a = c.av := by
 unfold walkOf at h
 split at h
 ·simp only [Option.some.injEq] at h
  subst h; rfl
 ·cases h
def rWalk : Rd Walk := ⟨walkOf, Walk.av, fun _ _ => walkOf_some⟩
end Go.Bas
