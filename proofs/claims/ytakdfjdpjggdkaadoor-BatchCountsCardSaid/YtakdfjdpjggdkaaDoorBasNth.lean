/- A word's bits by their number: the lowest one, the lowest one struck out, and the one of a number. Plain Lean. -/
import Derived.Test.YtakdfjdpjggdkaaDoorBasChs2
namespace Go.Bas
set_option linter.unusedVariables false

theorem odd_form : ∀ (x : Nat), x ≠ 0 → ∃ t q, x = 2 ^ t * (2 * q + 1)
  | 0, h => absurd rfl h
  | x + 1, _ => by
    by_cases h : (x + 1) % 2 = 1
    · exact ⟨0, (x + 1) / 2, by rw [Nat.pow_zero]; omega⟩
    · obtain ⟨t, q, e⟩ := odd_form ((x + 1) / 2) (by omega)
      refine ⟨t + 1, q, ?_⟩
      rw [Nat.pow_succ, Nat.mul_right_comm, ← e]
      omega
/-- The lowest bit. -/
structure Low (x t : Nat) : Prop where
  on : x.testBit t = true
  off : ∀ i, i < t → x.testBit i = false
  pred : ∀ i, (x - 1).testBit i = if i < t then true else if i = t then false else x.testBit i
theorem low_of {x : Nat} (h : x ≠ 0) : ∃ t, Low x t := by
  obtain ⟨t, q, e⟩ := odd_form x h
  have hp := Nat.two_pow_pos t
  have e0 : x = 2 ^ t * (2 * q + 1) + 0 := e
  have e1 : x - 1 = 2 ^ t * (2 * q) + (2 ^ t - 1) := by rw [e, Nat.mul_add]; omega
  have hx : ∀ i, x.testBit i = if i < t then false else (2 * q + 1).testBit (i - t) := fun i => by
    rw [e0, Nat.testBit_two_pow_mul_add _ hp]
    split <;> simp
  refine ⟨t, ?_, fun i hi => ?_, fun i => ?_⟩
  · rw [hx, if_neg (Nat.lt_irrefl t), Nat.sub_self, Nat.testBit_zero]
    simp
  · rw [hx, if_pos hi]
  · rw [e1, Nat.testBit_two_pow_mul_add _ (by omega)]
    by_cases h1 : i < t
    · rw [if_pos h1, if_pos h1, Nat.testBit_two_pow_sub_one]
      simpa using h1
    · rw [if_neg h1, if_neg h1]
      by_cases h2 : i = t
      · rw [if_pos h2, h2, Nat.sub_self, Nat.testBit_zero]
        simp
      · rw [if_neg h2, hx, if_neg h1]
        obtain ⟨d, hd⟩ : ∃ d, i - t = d + 1 := ⟨i - t - 1, by omega⟩
        rw [hd, Nat.testBit_succ, Nat.testBit_succ]
        congr 1
        omega
theorem Low.lt {x t : Nat} (h : Low x t) {n : Nat} (hx : x < 2 ^ n) : t < n := by
  rcases Nat.lt_or_ge t n with h1 | h1
  · exact h1
  · have := Nat.testBit_lt_two_pow (Nat.lt_of_lt_of_le hx (Nat.pow_le_pow_right (by decide) h1))
    rw [h.on] at this; cases this
/-- The lowest bit struck out. -/
theorem Low.strike {x t : Nat} (h : Low x t) (j : Nat) : (x &&& (x - 1)).testBit j = (x.testBit j && !decide (j = t)) := by
  rw [Nat.testBit_and, h.pred]
  by_cases h1 : j < t
  · rw [if_pos h1, h.off j h1]; rfl
  · rw [if_neg h1]
    by_cases h2 : j = t
    · simp [h2]
    · simp [h2]
/-- The lowest bit alone. -/
theorem Low.alone {x t : Nat} (h : Low x t) (hx : x < 2 ^ 64) (h0 : 0 < x) : x &&& (2 ^ 64 - x) = 2 ^ t := by
  apply Nat.eq_of_testBit_eq
  intro j
  have e : 2 ^ 64 - x = 2 ^ 64 - ((x - 1) + 1) := by omega
  rw [Nat.testBit_and, e, Nat.testBit_two_pow_sub_succ (by omega), h.pred, Nat.testBit_two_pow]
  by_cases h1 : j < t
  · rw [if_pos h1, h.off j h1]; simp; omega
  · rw [if_neg h1]
    by_cases h2 : j = t
    · subst h2
      have := h.lt hx
      simp [h.on, this]
    · simp [h2, Ne.symm h2]
      exact fun h _ => h
theorem Low.alone' {x t : Nat} (h : Low x t) (hx : x < 18446744073709551616) (h0 : 0 < x) : x &&& (18446744073709551616 - x) = 2 ^ t := by
  have e : (2 : Nat) ^ 64 = 18446744073709551616 := by decide
  rw [← e] at hx ⊢
  exact h.alone hx h0
/-- So many struck out. -/
def clr : Nat → Nat → Nat
  | 0, x => x
  | i + 1, x => clr i x &&& (clr i x - 1)
theorem cnt_mono {x i j : Nat} (h : i ≤ j) : cnt i x ≤ cnt j x := by
  induction j with
  | zero => rw [Nat.le_zero.1 h]; exact Nat.le_refl _
  | succ j ih =>
    rcases Nat.lt_or_ge i (j + 1) with h1 | h1
    · have := ih (by omega)
      rw [cnt_bit]
      omega
    · rw [show i = j + 1 by omega]; exact Nat.le_refl _
theorem cnt_hit {x i : Nat} : ∀ n, i < cnt n x → ∃ j, j < n ∧ x.testBit j = true ∧ cnt j x = i
  | 0, h => absurd h (Nat.not_lt_zero _)
  | n + 1, h => by
    rw [cnt_bit] at h
    by_cases h1 : i < cnt n x
    · obtain ⟨j, a, b⟩ := cnt_hit n h1
      exact ⟨j, by omega, b⟩
    · cases hb : x.testBit n with
      | false => rw [hb] at h; simp at h; omega
      | true => rw [hb] at h; simp at h; exact ⟨n, Nat.lt_succ_self n, hb, by omega⟩
/-- What is left, and which one is the lowest. -/
theorem clr_bits {x : Nat} : ∀ i, i ≤ cnt 64 x → ∀ j, (clr i x).testBit j = (x.testBit j && decide (i ≤ cnt j x))
  | 0, _, j => by simp [clr]
  | i + 1, h, j => by
    have ih := clr_bits (x := x) i (by omega)
    obtain ⟨m, m1, m2, m3⟩ := cnt_hit 64 (show i < cnt 64 x by omega)
    have hne : clr i x ≠ 0 := fun e => by
      have := ih m
      rw [e, m2, m3] at this
      simp at this
    obtain ⟨t, ht⟩ := low_of hne
    have hon := ih t
    rw [ht.on] at hon
    have hon := hon.symm
    simp only [Bool.and_eq_true, decide_eq_true_eq] at hon
    have htm : t ≤ m := by
      rcases Nat.lt_or_ge m t with h1 | h1
      · have := ht.off m h1
        rw [ih m, m2, m3] at this
        simp at this
      · exact h1
    have hct : cnt t x = i := by have := cnt_mono (x := x) htm; omega
    show (clr i x &&& (clr i x - 1)).testBit j = _
    rw [ht.strike, ih j]
    cases hx : x.testBit j with
    | false => rfl
    | true =>
      rw [Bool.true_and, Bool.true_and, Bool.eq_iff_iff]
      simp only [Bool.and_eq_true, decide_eq_true_eq, Bool.not_eq_true', decide_eq_false_iff_not]
      constructor
      · rintro ⟨h1, h2⟩
        rcases Nat.lt_trichotomy j t with h3 | h3 | h3
        · have := ht.off j h3
          rw [ih j, hx] at this
          simp at this
          omega
        · exact absurd h3 h2
        · have := cnt_mono (x := x) (show t + 1 ≤ j from h3)
          rw [cnt_bit, hon.1] at this
          simp at this
          omega
      · intro h1
        refine ⟨by omega, fun e => ?_⟩
        subst e; omega
/-- The bit of a number. -/
def nthB (x k : Nat) : Nat := ((List.range 64).find? fun t => x.testBit t && Nat.beq (cnt t x) k).getD 0
theorem nth_uniq {x s t : Nat} (h1 : x.testBit s = true) (h2 : x.testBit t = true) (h : cnt s x = cnt t x) : s = t := by
  rcases Nat.lt_trichotomy s t with h3 | h3 | h3
  · have := cnt_mono (x := x) (show s + 1 ≤ t from h3)
    rw [cnt_bit, h1] at this
    simp at this
    omega
  · exact h3
  · have := cnt_mono (x := x) (show t + 1 ≤ s from h3)
    rw [cnt_bit, h2] at this
    simp at this
    omega
theorem nth_eq {x k t : Nat} (h1 : x.testBit t = true) (h2 : cnt t x = k) (ht : t < 64) : nthB x k = t := by
  unfold nthB
  cases hf : (List.range 64).find? fun t => x.testBit t && Nat.beq (cnt t x) k with
  | none =>
    have := List.find?_eq_none.1 hf t (List.mem_range.2 ht)
    simp [h1, h2] at this
  | some s =>
    have := List.find?_some hf
    simp only [Bool.and_eq_true, Nat.beq_eq] at this
    exact nth_uniq this.1 h1 (this.2.trans h2.symm)
theorem nth_is {x k : Nat} (h : k < cnt 64 x) : x.testBit (nthB x k) = true ∧ cnt (nthB x k) x = k ∧ nthB x k < 64 := by
  obtain ⟨j, a, b, c⟩ := cnt_hit 64 h
  rw [nth_eq b c a]
  exact ⟨b, c, a⟩
/-- What is left has the bit of the number as its lowest. -/
theorem clr_low {x k : Nat} (h : k < cnt 64 x) : Low (clr k x) (nthB x k) := by
  obtain ⟨h1, h2, h3⟩ := nth_is h
  have hb := clr_bits (x := x) k (by omega)
  have hne : clr k x ≠ 0 := fun e => by
    have := hb (nthB x k)
    rw [e, h1, h2] at this
    simp at this
  obtain ⟨t, ht⟩ := low_of hne
  have hon := hb t
  rw [ht.on] at hon
  have hon := hon.symm
  simp only [Bool.and_eq_true, decide_eq_true_eq] at hon
  have hle : t ≤ nthB x k := by
    rcases Nat.lt_or_ge (nthB x k) t with h4 | h4
    · have := ht.off _ h4
      rw [hb, h1, h2] at this
      simp at this
    · exact h4
  have hct : cnt t x = k := by have := cnt_mono (x := x) hle; omega
  rw [nth_eq hon.1 hct (by omega)]
  exact ht
theorem clr_add {x k : Nat} (h : k < cnt 64 x) : clr (k + 1) x + 2 ^ nthB x k = clr k x := by
  have hl := clr_low h
  have hoff : (clr (k + 1) x).testBit (nthB x k) = false := by
    show (clr k x &&& (clr k x - 1)).testBit _ = false
    rw [hl.strike]; simp
  apply Nat.eq_of_testBit_eq
  intro j
  rw [add_bit hoff]
  show (decide (j = nthB x k) || (clr k x &&& (clr k x - 1)).testBit j) = _
  rw [hl.strike]
  by_cases hj : j = nthB x k
  · subst hj; simp [hl.on]
  · simp [hj]
theorem clr_none {x : Nat} (hx : x < 2 ^ 64) : clr (cnt 64 x) x = 0 := by
  apply Nat.eq_of_testBit_eq
  intro j
  rw [clr_bits _ (Nat.le_refl _), Nat.zero_testBit]
  cases hb : x.testBit j with
  | false => rfl
  | true =>
    have hj : j < 64 := by
      rcases Nat.lt_or_ge j 64 with h1 | h1
      · exact h1
      · have := Nat.testBit_lt_two_pow (Nat.lt_of_lt_of_le hx (Nat.pow_le_pow_right (by decide) h1))
        rw [hb] at this; cases this
    have := cnt_mono (x := x) (show j + 1 ≤ 64 from hj)
    rw [cnt_bit, hb] at this
    simp at this ⊢
    omega
theorem clr_none' {x : Nat} (hx : x < 18446744073709551616) : clr (cnt 64 x) x = 0 := by
  have e : (2 : Nat) ^ 64 = 18446744073709551616 := by decide
  rw [← e] at hx
  exact clr_none hx
theorem nth_rise {x k : Nat} (h : k + 1 < cnt 64 x) : nthB x k < nthB x (k + 1) := by
  obtain ⟨a1, a2, a3⟩ := nth_is (show k < cnt 64 x by omega)
  obtain ⟨b1, b2, b3⟩ := nth_is h
  rcases Nat.lt_or_ge (nthB x k) (nthB x (k + 1)) with h1 | h1
  · exact h1
  · have := cnt_mono (x := x) h1
    omega
end Go.Bas
