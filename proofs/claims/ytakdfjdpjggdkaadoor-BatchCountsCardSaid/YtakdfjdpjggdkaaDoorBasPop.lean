/- How many bits a word has: the sums of pairs, of fours, of bytes, and of bytes at once. Plain Lean. -/
import Derived.Test.YtakdfjdpjggdkaaDoorBasDefs
namespace Go.Bas

/-- The bits of the first 'f' places, counted. -/
def cnt : Nat → Nat → Nat
  | 0, _ => 0
  | f + 1, x => x % 2 + cnt f (x / 2)

theorem and_digit {k a b m c : Nat} (ha : a < 2 ^ k) (hm : m < 2 ^ k) : (2 ^ k * b + a) &&& (2 ^ k * c + m) = 2 ^ k * (b &&& c) + (a &&& m) := by
  apply Nat.eq_of_testBit_eq
  intro j
  rw [Nat.testBit_and, Nat.testBit_two_pow_mul_add b ha j, Nat.testBit_two_pow_mul_add c hm j, Nat.testBit_two_pow_mul_add (b &&& c) (Nat.lt_of_le_of_lt Nat.and_le_left ha) j]
  split <;> simp [Nat.testBit_and]

/-- A mask, byte for byte. -/
def rep : Nat → Nat → Nat
  | 0, _ => 0
  | n + 1, d => 256 * rep n d + d
theorem rep_succ (n d : Nat) : rep (n + 1) d = 256 * rep n d + d := rfl
def s1b (a : Nat) : Nat := (a / 2 &&& 85) + (a &&& 85)
def s2b (a : Nat) : Nat := (a / 4 &&& 51) + (a &&& 51)
def s3b (a : Nat) : Nat := (a / 16 + a) &&& 15
def s1 (n x : Nat) : Nat := (x / 2 &&& rep n 85) + (x &&& rep n 85)
def s2 (n x : Nat) : Nat := (x / 4 &&& rep n 51) + (x &&& rep n 51)
def s3 (n x : Nat) : Nat := (x / 16 + x) &&& rep n 15

theorem and256 {a b m c : Nat} (ha : a < 256) (hm : m < 256) : (256 * b + a) &&& (256 * c + m) = 256 * (b &&& c) + (a &&& m) := and_digit (k := 8) ha hm
theorem d1 : ∀ p, p < 2 → ∀ q, q < 128 → (128 * p + q) &&& 85 = q &&& 85 := by decide +kernel
theorem d2 : ∀ p, p < 4 → ∀ q, q < 64 → (64 * p + q) &&& 51 = q &&& 51 := by decide +kernel
theorem d3 : ∀ p, p < 5 → ∀ a, a < 69 → (16 * p + a / 16 + a) &&& 15 = (a / 16 + a) &&& 15 := by decide +kernel
theorem d4 : ∀ a, a < 256 → s2b (s1b a) < 69 ∧ s2b (s1b a) % 16 < 5 ∧ s1b a < 256 ∧ s3b (s2b (s1b a)) = cnt 8 a ∧ cnt 8 a ≤ 8 := by decide +kernel

theorem s1_step {n a b : Nat} (ha : a < 256) : s1 (n + 1) (256 * b + a) = 256 * s1 n b + s1b a := by
  unfold s1 s1b
  simp only [rep_succ]
  rw [show (256 * b + a) / 2 = 256 * (b / 2) + (128 * (b % 2) + a / 2) by omega, and256 (by omega) (by omega), and256 ha (by omega), d1 _ (by omega) _ (by omega)]
  omega
theorem s2_step {n a b : Nat} (ha : a < 256) : s2 (n + 1) (256 * b + a) = 256 * s2 n b + s2b a := by
  unfold s2 s2b
  simp only [rep_succ]
  rw [show (256 * b + a) / 4 = 256 * (b / 4) + (64 * (b % 4) + a / 4) by omega, and256 (by omega) (by omega), and256 ha (by omega), d2 _ (by omega) _ (by omega)]
  omega
theorem s3_step {n a b : Nat} (ha : a < 69) (hb : b % 16 < 5) : s3 (n + 1) (256 * b + a) = 256 * s3 n b + s3b a := by
  unfold s3 s3b
  simp only [rep_succ]
  rw [show (256 * b + a) / 16 + (256 * b + a) = 256 * (b / 16 + b) + (16 * (b % 16) + a / 16 + a) by omega, and256 (by omega) (by omega), d3 _ hb _ ha]

/-- The counts of the bytes, byte for byte. -/
def cb : Nat → Nat → Nat
  | 0, _ => 0
  | n + 1, x => 256 * cb n (x / 256) + cnt 8 (x % 256)
theorem swar : ∀ (n x : Nat), x < 256 ^ n → s2 n (s1 n x) % 16 < 5 ∧ s3 n (s2 n (s1 n x)) = cb n x
  | 0, x, h => by
    have : x = 0 := by simpa using h
    subst this
    decide
  | n + 1, x, h => by
    have hx : x = 256 * (x / 256) + x % 256 := by omega
    have hlt : x / 256 < 256 ^ n := by rw [Nat.pow_succ] at h; omega
    have ha : x % 256 < 256 := Nat.mod_lt _ (by decide)
    obtain ⟨i1, i2⟩ := swar n (x / 256) hlt
    obtain ⟨e1, e2, e3, e4, e5⟩ := d4 _ ha
    have h1 : s1 (n + 1) x = 256 * s1 n (x / 256) + s1b (x % 256) := by
      conv => lhs; rw [hx]
      exact s1_step ha
    rw [h1, s2_step e3, s3_step e1 i1, i2, e4]
    exact ⟨by omega, rfl⟩

theorem cnt_add : ∀ (m n x : Nat), cnt (m + n) x = cnt m x + cnt n (x / 2 ^ m)
  | 0, n, x => by simp [cnt]
  | m + 1, n, x => by
    rw [show m + 1 + n = (m + n) + 1 by omega]
    simp only [cnt, cnt_add m n (x / 2), Nat.pow_succ, Nat.div_div_eq_div_mul]
    rw [Nat.mul_comm 2 (2 ^ m)]
    omega
theorem cnt_mod : ∀ (m x : Nat), cnt m (x % 2 ^ m) = cnt m x
  | 0, x => rfl
  | m + 1, x => by
    simp only [cnt]
    have h1 : x % 2 ^ (m + 1) % 2 = x % 2 := by
      rw [Nat.pow_succ, Nat.mod_mul_left_mod]
    have h2 : x % 2 ^ (m + 1) / 2 = x / 2 % 2 ^ m := by
      rw [Nat.pow_succ, Nat.mul_comm, Nat.mod_mul_right_div_self]
    rw [h1, h2, cnt_mod m (x / 2)]
theorem cnt_le : ∀ (m x : Nat), cnt m x ≤ m
  | 0, x => Nat.le_refl _
  | m + 1, x => by
    have := cnt_le m (x / 2)
    simp only [cnt]
    omega

/-- The bytes at once. -/
theorem fold64 {x : Nat} : let y := cb 8 x
    let y1 := y + y / 256
    let y2 := y1 + y1 / 65536
    (y2 + y2 / 4294967296) % 128 = cnt 64 x := by
  have e : ∀ k y, cnt 8 (y % 256) = cnt 8 y ∧ cnt (8 + k) y = cnt 8 y + cnt k (y / 256) := fun k y => ⟨cnt_mod 8 y, cnt_add 8 k y⟩
  have l := cnt_le 8
  simp only [cb]
  rw [(e 0 x).1, (e 0 _).1, (e 0 _).1, (e 0 _).1, (e 0 _).1, (e 0 _).1, (e 0 _).1, (e 0 _).1]
  have t : cnt 64 x = cnt 8 x + (cnt 8 (x / 256) + (cnt 8 (x / 256 / 256) + (cnt 8 (x / 256 / 256 / 256) + (cnt 8 (x / 256 / 256 / 256 / 256) + (cnt 8 (x / 256 / 256 / 256 / 256 / 256) + (cnt 8 (x / 256 / 256 / 256 / 256 / 256 / 256) + cnt 8 (x / 256 / 256 / 256 / 256 / 256 / 256 / 256))))))) := by
    rw [(e 56 x).2, (e 48 _).2, (e 40 _).2, (e 32 _).2, (e 24 _).2, (e 16 _).2, (e 8 _).2]
  rw [t]
  have l0 := l x
  have l1 := l (x / 256)
  have l2 := l (x / 256 / 256)
  have l3 := l (x / 256 / 256 / 256)
  have l4 := l (x / 256 / 256 / 256 / 256)
  have l5 := l (x / 256 / 256 / 256 / 256 / 256)
  have l6 := l (x / 256 / 256 / 256 / 256 / 256 / 256)
  have l7 := l (x / 256 / 256 / 256 / 256 / 256 / 256 / 256)
  generalize cnt 8 x = c0 at *
  generalize cnt 8 (x / 256) = c1 at *
  generalize cnt 8 (x / 256 / 256) = c2 at *
  generalize cnt 8 (x / 256 / 256 / 256) = c3 at *
  generalize cnt 8 (x / 256 / 256 / 256 / 256) = c4 at *
  generalize cnt 8 (x / 256 / 256 / 256 / 256 / 256) = c5 at *
  generalize cnt 8 (x / 256 / 256 / 256 / 256 / 256 / 256) = c6 at *
  generalize cnt 8 (x / 256 / 256 / 256 / 256 / 256 / 256 / 256) = c7 at *
  clear t e l
  have q1 : (256 * (256 * (256 * (256 * (256 * (256 * (256 * (256 * 0 + c7) + c6) + c5) + c4) + c3) + c2) + c1) + c0) / 256 = 256 * (256 * (256 * (256 * (256 * (256 * c7 + c6) + c5) + c4) + c3) + c2) + c1 := by omega
  rw [q1]
  clear q1
  have q2 : (256 * (256 * (256 * (256 * (256 * (256 * (256 * (256 * 0 + c7) + c6) + c5) + c4) + c3) + c2) + c1) + c0 + (256 * (256 * (256 * (256 * (256 * (256 * c7 + c6) + c5) + c4) + c3) + c2) + c1)) / 65536 = 256 * (256 * (256 * (256 * (256 * c7 + (c6 + c7)) + (c5 + c6)) + (c4 + c5)) + (c3 + c4)) + (c2 + c3) := by omega
  rw [q2]
  clear q2
  have q3 : (256 * (256 * (256 * (256 * (256 * (256 * (256 * (256 * 0 + c7) + c6) + c5) + c4) + c3) + c2) + c1) + c0 + (256 * (256 * (256 * (256 * (256 * (256 * c7 + c6) + c5) + c4) + c3) + c2) + c1) + (256 * (256 * (256 * (256 * (256 * c7 + (c6 + c7)) + (c5 + c6)) + (c4 + c5)) + (c3 + c4)) + (c2 + c3))) / 4294967296 = 256 * (256 * (256 * c7 + (c6 + c7)) + (c5 + c6 + c7)) + (c4 + c5 + c6 + c7) := by omega
  rw [q3]
  clear q3
  omega
end Go.Bas
namespace Go.Bas
def bitS (x n : Int) : Int := (ishr .u64 x n).tmod 2
def Fbit : List AV → Option (Bool × AV)
  | [.int .u64 x, .int .i64 n] => some (decide (0 ≤ n), .int .u64 (bitS x n))
  | _ => none
end Go.Bas
namespace Go.Bas
theorem wrapN {a : Nat} (h : a < 18446744073709551616) : IntKind.wrap .u64 (a : Int) = (a : Int) := by
  unfold IntKind.wrap
  simp [IntKind.bits, IntKind.signed]
  omega
theorem wrapS {a : Nat} (h : a < 9223372036854775808) : IntKind.wrap .i64 (a : Int) = (a : Int) := by
  unfold IntKind.wrap
  simp [IntKind.bits, IntKind.signed]
  omega
theorem iandN {a b : Nat} (ha : a < 18446744073709551616) (hb : b < 18446744073709551616) : iand .u64 (a : Int) (b : Int) = ((a &&& b : Nat) : Int) := by
  unfold iand
  rw [held_eq]
  have e : (BitVec.ofInt IntKind.u64.bits (a : Int) &&& BitVec.ofInt IntKind.u64.bits (b : Int)).toNat = a &&& b := by
    show (BitVec.ofInt 64 (a : Int) &&& BitVec.ofInt 64 (b : Int)).toNat = a &&& b
    rw [BitVec.toNat_and, BitVec.ofInt_natCast, BitVec.ofInt_natCast, BitVec.toNat_ofNat, BitVec.toNat_ofNat, Nat.mod_eq_of_lt ha, Nat.mod_eq_of_lt hb]
  rw [e]
  exact wrapN (Nat.lt_of_le_of_lt Nat.and_le_left ha)
theorem iandS {a b : Nat} (ha : a < 9223372036854775808) (hb : b < 9223372036854775808) : iand .i64 (a : Int) (b : Int) = ((a &&& b : Nat) : Int) := by
  unfold iand
  rw [held_eq]
  have e : (BitVec.ofInt IntKind.i64.bits (a : Int) &&& BitVec.ofInt IntKind.i64.bits (b : Int)).toNat = a &&& b := by
    show (BitVec.ofInt 64 (a : Int) &&& BitVec.ofInt 64 (b : Int)).toNat = a &&& b
    rw [BitVec.toNat_and, BitVec.ofInt_natCast, BitVec.ofInt_natCast, BitVec.toNat_ofNat, BitVec.toNat_ofNat, Nat.mod_eq_of_lt (by omega), Nat.mod_eq_of_lt (by omega)]
  rw [e]
  exact wrapS (Nat.lt_of_le_of_lt Nat.and_le_left ha)
theorem ishrN {a k : Nat} (hk : k ≤ 64) : ishr .u64 (a : Int) (k : Int) = ((a / 2 ^ k : Nat) : Int) := by
  unfold ishr
  have h1 : min (k : Int).toNat IntKind.u64.bits = k := by simp [IntKind.bits]; omega
  rw [h1, Int.fdiv_eq_ediv_of_nonneg _ (Int.le_of_lt (Int.pow_pos (by decide)))]
  rw [Int.natCast_ediv, Int.natCast_pow]
  rfl

def popS (x : Int) : Int := (cnt 64 x.toNat : Nat)
theorem and_le {a b : Nat} : a &&& b ≤ b := Nat.and_le_right
theorem ones_eq {x : Int} (h0 : 0 ≤ x) (h1 : x < 18446744073709551616) :
    let A := IntKind.wrap .u64 (iand .u64 (ishr .u64 x 1) 6148914691236517205 + iand .u64 x 6148914691236517205)
    let B := IntKind.wrap .u64 (iand .u64 (ishr .u64 A 2) 3689348814741910323 + iand .u64 A 3689348814741910323)
    let D := iand .u64 (IntKind.wrap .u64 (ishr .u64 B 4 + B)) 1085102592571150095
    let E := IntKind.wrap .u64 (D + ishr .u64 D 8)
    let F := IntKind.wrap .u64 (E + ishr .u64 E 16)
    let H := IntKind.wrap .u64 (F + ishr .u64 F 32)
    iand .i64 (IntKind.wrap .i64 H) 127 = popS x := by
  obtain ⟨n, rfl⟩ := Int.eq_ofNat_of_zero_le h0
  have hn : n < 18446744073709551616 := by omega
  intro A B D E F H
  have r1 : rep 8 85 = 6148914691236517205 := by decide
  have r2 : rep 8 51 = 3689348814741910323 := by decide
  have r3 : rep 8 15 = 1085102592571150095 := by decide
  obtain ⟨_, hs⟩ := swar 8 n (by simpa using hn)
  have eA : A = (s1 8 n : Nat) := by
    show IntKind.wrap .u64 (iand .u64 (ishr .u64 (n : Int) ((1 : Nat) : Int)) ((6148914691236517205 : Nat) : Int) + iand .u64 (n : Int) ((6148914691236517205 : Nat) : Int)) = _
    have b1 : (n / 2 ^ 1 &&& 6148914691236517205) ≤ 6148914691236517205 := and_le
    have b2 : (n &&& 6148914691236517205) ≤ 6148914691236517205 := and_le
    rw [ishrN (by decide), iandN (by omega) (by decide), iandN hn (by decide), ← Int.natCast_add, wrapN (by omega)]
    unfold s1
    rw [r1]
  have bA : s1 8 n < 18446744073709551616 := by
    unfold s1
    rw [r1]
    have b1 : (n / 2 &&& 6148914691236517205) ≤ 6148914691236517205 := and_le
    have b2 : (n &&& 6148914691236517205) ≤ 6148914691236517205 := and_le
    omega
  have eB : B = (s2 8 (s1 8 n) : Nat) := by
    show IntKind.wrap .u64 (iand .u64 (ishr .u64 A ((2 : Nat) : Int)) ((3689348814741910323 : Nat) : Int) + iand .u64 A ((3689348814741910323 : Nat) : Int)) = _
    rw [eA]
    generalize s1 8 n = m at *
    have b1 : (m / 2 ^ 2 &&& 3689348814741910323) ≤ 3689348814741910323 := and_le
    have b2 : (m &&& 3689348814741910323) ≤ 3689348814741910323 := and_le
    rw [ishrN (by decide), iandN (by omega) (by decide), iandN bA (by decide), ← Int.natCast_add, wrapN (by omega)]
    unfold s2
    rw [r2]
  have bB : s2 8 (s1 8 n) ≤ 7378697629483820646 := by
    unfold s2
    rw [r2]
    have b1 : (s1 8 n / 4 &&& 3689348814741910323) ≤ 3689348814741910323 := and_le
    have b2 : (s1 8 n &&& 3689348814741910323) ≤ 3689348814741910323 := and_le
    omega
  have eD : D = (s3 8 (s2 8 (s1 8 n)) : Nat) := by
    show iand .u64 (IntKind.wrap .u64 (ishr .u64 B ((4 : Nat) : Int) + B)) ((1085102592571150095 : Nat) : Int) = _
    rw [eB]
    generalize s2 8 (s1 8 n) = m at *
    rw [ishrN (by decide), ← Int.natCast_add, wrapN (by omega), iandN (by omega) (by decide)]
    unfold s3
    rw [r3]
  have bD : s3 8 (s2 8 (s1 8 n)) ≤ 1085102592571150095 := by
    unfold s3
    rw [r3]
    exact and_le
  rw [hs] at eD bD
  have hf := @fold64 n
  simp only at hf
  generalize cb 8 n = y at *
  have eE : E = (y + y / 256 : Nat) := by
    show IntKind.wrap .u64 (D + ishr .u64 D ((8 : Nat) : Int)) = _
    rw [eD, ishrN (by decide), ← Int.natCast_add, wrapN (by omega)]
  have eF : F = (y + y / 256 + (y + y / 256) / 65536 : Nat) := by
    show IntKind.wrap .u64 (E + ishr .u64 E ((16 : Nat) : Int)) = _
    rw [eE, ishrN (by decide), ← Int.natCast_add, wrapN (by omega)]
  have eH : H = (y + y / 256 + (y + y / 256) / 65536 + (y + y / 256 + (y + y / 256) / 65536) / 4294967296 : Nat) := by
    show IntKind.wrap .u64 (F + ishr .u64 F ((32 : Nat) : Int)) = _
    rw [eF, ishrN (by decide), ← Int.natCast_add, wrapN (by omega)]
  show iand .i64 (IntKind.wrap .i64 H) ((127 : Nat) : Int) = _
  rw [eH, wrapS (by omega), iandS (by omega) (by decide)]
  have : ∀ q : Nat, q &&& 127 = q % 128 := fun q => Nat.and_two_pow_sub_one_eq_mod q 7
  rw [this, hf]
  simp [popS]
end Go.Bas
namespace Go.Bas
def Fpop : List AV → Option (Bool × AV)
  | [.int .u64 x] => some (decide (0 ≤ x) && decide (x < 18446744073709551616), .int .i64 (popS x))
  | _ => none
theorem cnt_succ (t x : Nat) : cnt (t + 1) x = cnt t x + x / 2 ^ t % 2 := by
  rw [cnt_add t 1]
  simp [cnt]
theorem bit_eq {x : Int} {t : Nat} (hx : 0 ≤ x) (ht : t ≤ 64) : bitS x (t : Int) = ((x.toNat / 2 ^ t % 2 : Nat) : Int) := by
  obtain ⟨n, rfl⟩ := Int.eq_ofNat_of_zero_le hx
  unfold bitS
  rw [ishrN ht]
  rw [Int.tmod_eq_emod_of_nonneg (Int.natCast_nonneg _)]
  show ((n / 2 ^ t : Nat) : Int) % 2 = ((n / 2 ^ t % 2 : Nat) : Int)
  omega
end Go.Bas
