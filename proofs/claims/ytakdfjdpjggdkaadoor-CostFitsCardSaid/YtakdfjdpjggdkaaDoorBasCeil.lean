/- Divided and rounded up, over and over. Plain Lean. -/
import Derived.Test.YtakdfjdpjggdkaaDoorBasDefs
namespace Go.Bas
def cdiv (m w : Nat) : Nat := (m + w - 1) / w
def itm (m w : Nat) : Nat → Nat
  | 0 => m
  | k + 1 => cdiv (itm m w k) w
theorem cdiv_lt {m w j : Nat} (hw : 0 < w) : j < cdiv m w ↔ j * w < m := by
  unfold cdiv
  rw [show j < (m + w - 1) / w ↔ j + 1 ≤ (m + w - 1) / w from Iff.rfl, Nat.le_div_iff_mul_le hw, Nat.succ_mul]
  omega
theorem cdiv_le {m w : Nat} (hw : 0 < w) : cdiv m w ≤ m := by
  rcases Nat.lt_or_ge m (cdiv m w) with h | h
  · have := (cdiv_lt hw).1 h
    have h2 : m * 1 ≤ m * w := Nat.mul_le_mul_left _ hw
    omega
  · exact h
theorem itm_le {m w : Nat} (hw : 0 < w) : ∀ k, itm m w k ≤ m
  | 0 => Nat.le_refl _
  | k + 1 => Nat.le_trans (cdiv_le hw) (itm_le hw k)
end Go.Bas
namespace Go.Bas
/-- How many levels there are, and how many items above the lowest one. -/
def nlv (m w : Nat) : Nat → Nat → Nat
  | 0, h => h + 1
  | f + 1, h => cond (Nat.ble (itm m w h) w) (h + 1) (nlv m w f (h + 1))
def nl (m w : Nat) : Nat := nlv m w 4 0
def usF (m w : Nat) : Nat → Nat
  | 0 => 0
  | k + 1 => usF m w k + itm m w (k + 1)
def us (m w : Nat) : Nat := usF m w (nl m w - 1)
def cn (n w : Int) (c : Conf) : Conf := ⟨c.ob, c.ins, c.thr, c.kind, c.str, c.bits, n, w, c.batch, c.chunk, c.limit, c.most⟩
def dI (c : Conf) : Int := 1 + c.node * (nl c.cap.toNat c.node.toNat : Nat)
def uI (c : Conf) : Int := (us c.cap.toNat c.node.toNat : Nat)
end Go.Bas
namespace Go.Bas
def tal (r w g : Int) : AV := .agg [.int .i64 r, .int .i64 w, .int .i64 g]
/-- What an operation of an index costs, as a way of going on. -/
def idxT (c : Conf) (kd : Int) (k : AV → Bool) : Bool := bif decide (kd = 6) then k (tal (dI c) 0 0) else bif decide (kd = 7) then k (tal (dI c + 1) 0 0) else bif decide (kd = 8) then bif decide (c.chunk = 0) then false else k (tal (dI c + c.cap) 0 (IntKind.wrap .i64 (Int.tdiv c.cap c.chunk)))
  else k (tal (dI c + c.cap + uI c) (c.cap + 1 + uI c) 0)
end Go.Bas
