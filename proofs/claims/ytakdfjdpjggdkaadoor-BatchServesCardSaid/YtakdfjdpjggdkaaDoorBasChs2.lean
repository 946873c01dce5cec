/- How a batch is chosen: counts, and which places are taken. Plain Lean. -/
import Derived.Test.YtakdfjdpjggdkaaDoorBasChs
namespace Go.Bas
set_option linter.unusedVariables false
section
variable {p : Nat → Bool} {thr f b : Nat}
/-- How many there are from a place on. -/
def cntF (p : Nat → Bool) (a : Nat) : Nat → Nat
  | 0 => 0
  | n + 1 => cond (p (a + n)) (cntF p a n + 1) (cntF p a n)
theorem cntF_split (a m : Nat) : ∀ n, cntF p a (m + n) = cntF p a m + cntF p (a + m) n
  | 0 => rfl
  | n + 1 => by
    show cond (p (a + (m + n))) (cntF p a (m + n) + 1) (cntF p a (m + n)) = cntF p a m + cond (p (a + m + n)) (cntF p (a + m) n + 1) (cntF p (a + m) n)
    rw [cntF_split a m n, show a + (m + n) = a + m + n by omega]
    cases p (a + m + n)
    · rfl
    · show _ + _ + 1 = _ + (_ + 1); omega
/-- .. round. -/
def cntR (p : Nat → Bool) (thr f : Nat) : Nat → Nat
  | 0 => 0
  | n + 1 => cond (p (chp thr f n)) (cntR p thr f n + 1) (cntR p thr f n)
theorem cntR_first (hf : f < thr) : ∀ n, n ≤ thr - f → cntR p thr f n = cntF p f n
  | 0, _ => rfl
  | n + 1, h => by
    have : chp thr f n = f + n := Nat.mod_eq_of_lt (by omega)
    show cond (p (chp thr f n)) (cntR p thr f n + 1) (cntR p thr f n) = cond (p (f + n)) (cntF p f n + 1) (cntF p f n)
    rw [this, cntR_first hf n (by omega)]
theorem cntR_last (hf : f < thr) : ∀ n, n ≤ f → cntR p thr f (thr - f + n) = cntF p f (thr - f) + cntF p 0 n
  | 0, _ => cntR_first hf _ (Nat.le_refl _)
  | n + 1, h => by
    have : chp thr f (thr - f + n) = 0 + n := by
      unfold chp
      rw [show f + (thr - f + n) = n + thr by omega, Nat.add_mod_right, Nat.mod_eq_of_lt (by omega), Nat.zero_add]
    show cond (p (chp thr f (thr - f + n))) (cntR p thr f (thr - f + n) + 1) (cntR p thr f (thr - f + n)) = cntF p f (thr - f) + cond (p (0 + n)) (cntF p 0 n + 1) (cntF p 0 n)
    rw [this, cntR_last hf n (by omega)]
    cases p (0 + n) <;> rfl
theorem cntR_all (hf : f < thr) : cntR p thr f thr = cntF p 0 thr := by
  have h1 := cntR_last (p := p) hf f (Nat.le_refl _)
  rw [show thr - f + f = thr by omega] at h1
  have h2 := cntF_split (p := p) 0 f (thr - f)
  rw [show f + (thr - f) = thr by omega, Nat.zero_add] at h2
  omega
/-- As many are taken as there are, or as may be. -/
theorem chs_min (i : Nat) : (chs p thr f b i).many = min (cntR p thr f i) b := by
  induction i with
  | zero => simp [chs, cntR]
  | succ i ih =>
    have hc : cntR p thr f (i + 1) = cond (p (chp thr f i)) (cntR p thr f i + 1) (cntR p thr f i) := rfl
    rcases chs_or (p := p) (thr := thr) (f := f) (b := b) i with ⟨h1, h2, e⟩ | ⟨h, e⟩
    · rw [e, hc, h1]
      show (chs p thr f b i).many + 1 = min (cntR p thr f i + 1) b
      omega
    · rw [e, hc]
      rcases h with h | h
      · rw [h]; exact ih
      · cases p (chp thr f i)
        · exact ih
        · show (chs p thr f b i).many = min (cntR p thr f i + 1) b
          omega
theorem chs_off (hthr : 0 < thr) {t : Nat} (h : p t = false) : (chs p thr f b thr).mask.testBit t = false := by
  obtain ⟨_, _, h3, _⟩ := chs_bits (p := p) (f := f) (b := b) hthr thr (Nat.le_refl _)
  cases hb : (chs p thr f b thr).mask.testBit t with
  | false => rfl
  | true =>
    obtain ⟨j, _, _, j3⟩ := (h3 t).1 hb
    rw [h] at j3; cases j3
theorem chs_on (hthr : 0 < thr) {j : Nat} (hj : j < (chs p thr f b thr).last) (h : p (chp thr f j) = true) : (chs p thr f b thr).mask.testBit (chp thr f j) = true :=
  ((chs_bits (p := p) (f := f) (b := b) hthr thr (Nat.le_refl _)).2.2.1 _).2 ⟨j, hj, rfl, h⟩
theorem chs_last_pos (hthr : 0 < thr) (h : ¬ (chs p thr f b thr).mask = 0) : 0 < (chs p thr f b thr).last := by
  obtain ⟨t, ht⟩ := Nat.exists_testBit_of_ne_zero h
  obtain ⟨j, j1, _⟩ := ((chs_bits (p := p) (f := f) (b := b) hthr thr (Nat.le_refl _)).2.2.1 t).1 ht
  omega
theorem chp_ne (hthr : 0 < thr) {i l : Nat} (h : i + 1 < l) (hl : l ≤ thr) : chp thr f (i + 1) ≠ chp thr f l := fun e => by
  rcases Nat.lt_or_ge l thr with hlt | hge
  · have := chp_inj (f := f) (show i + 1 < thr by omega) hlt e
    omega
  · have : chp thr f l = chp thr f 0 := by
      unfold chp
      rw [show l = thr by omega, Nat.add_mod_right, Nat.add_zero]
    rw [this] at e
    have := chp_inj (f := f) (show i + 1 < thr by omega) hthr e
    omega
theorem chp_succ (i : Nat) : (chp thr f i + 1) % thr = chp thr f (i + 1) := by
  unfold chp
  rw [Nat.mod_add_mod, Nat.add_assoc]
end
theorem bit_int {m i : Nat} (hi : i ≤ 64) : Int.tmod (ishr .u64 (m : Int) (i : Int)) 2 = ((m.testBit i).toNat : Int) := by
  rw [ishrN hi, Int.tmod_eq_emod_of_nonneg (Int.natCast_nonneg _), Nat.testBit_eq_decide_div_mod_eq]
  generalize m / 2 ^ i = q
  by_cases h : q % 2 = 1
  · rw [h]
    show (q : Int) % 2 = 1
    omega
  · have : q % 2 = 0 := by omega
    rw [this]
    show (q : Int) % 2 = 0
    omega
end Go.Bas
