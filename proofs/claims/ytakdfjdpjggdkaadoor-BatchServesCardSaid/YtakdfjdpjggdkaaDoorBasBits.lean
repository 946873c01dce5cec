/- A word's shift to the right. Plain Lean. -/
import Derived.Test.YtakdfjdpjggdkaaDoorBasChs
namespace Go.Bas
set_option linter.unusedVariables false
theorem shr_zero' {x n : Int} (h0 : 0 ≤ x) (hn : 0 ≤ n) (h64 : n ≤ 64) : ishr .u64 x n = 0 ↔ x < 2 ^ n.toNat := by
  unfold ishr
  have h1 : min n.toNat IntKind.u64.bits = n.toNat := Nat.min_eq_left (by simp [IntKind.bits]; omega)
  have hp : (0 : Int) < 2 ^ n.toNat := Int.pow_pos (by decide)
  rw [h1, Int.fdiv_eq_ediv_of_nonneg _ (Int.le_of_lt hp)]
  constructor
  · intro h
    by_cases hx : x < 2 ^ n.toNat
    · exact hx
    · have : 1 ≤ x / 2 ^ n.toNat := by
        rw [Int.le_ediv_iff_mul_le hp]
        omega
      omega
  · intro h
    exact Int.ediv_eq_zero_of_lt h0 h
end Go.Bas
