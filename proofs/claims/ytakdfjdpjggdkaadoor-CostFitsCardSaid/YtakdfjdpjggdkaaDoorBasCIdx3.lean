/- What an operation of an index costs, for each size, where a node has room for 3. -/
import Derived.Test.YtakdfjdpjggdkaaDoorBasCItems2
namespace Go.Bas.BasCIdx3
open Go.RowKit Go.Proofs Go.Bas.BasCBase Go.Bas.BasCItems Go.Bas.BasCItems2
set_option maxRecDepth 100000
set_option linter.unusedVariables false
theorem p1 (c : Conf) (kd : Int) (k : AV → Bool) : runF (cfg []) 300 52 [(cn ((1 : Nat) : Int) 3 c).av, .int .u8 kd] k false = idxT (cn ((1 : Nat) : Int) 3 c) kd k := by kernel_rfl
theorem p2 (c : Conf) (kd : Int) (k : AV → Bool) : runF (cfg []) 300 52 [(cn ((2 : Nat) : Int) 3 c).av, .int .u8 kd] k false = idxT (cn ((2 : Nat) : Int) 3 c) kd k := by kernel_rfl
theorem p3 (c : Conf) (kd : Int) (k : AV → Bool) : runF (cfg []) 300 52 [(cn ((3 : Nat) : Int) 3 c).av, .int .u8 kd] k false = idxT (cn ((3 : Nat) : Int) 3 c) kd k := by kernel_rfl
theorem p4 (c : Conf) (kd : Int) (k : AV → Bool) : runF (cfg []) 300 52 [(cn ((4 : Nat) : Int) 3 c).av, .int .u8 kd] k false = idxT (cn ((4 : Nat) : Int) 3 c) kd k := by kernel_rfl
theorem p5 (c : Conf) (kd : Int) (k : AV → Bool) : runF (cfg []) 300 52 [(cn ((5 : Nat) : Int) 3 c).av, .int .u8 kd] k false = idxT (cn ((5 : Nat) : Int) 3 c) kd k := by kernel_rfl
theorem p6 (c : Conf) (kd : Int) (k : AV → Bool) : runF (cfg []) 300 52 [(cn ((6 : Nat) : Int) 3 c).av, .int .u8 kd] k false = idxT (cn ((6 : Nat) : Int) 3 c) kd k := by kernel_rfl
theorem p7 (c : Conf) (kd : Int) (k : AV → Bool) : runF (cfg []) 300 52 [(cn ((7 : Nat) : Int) 3 c).av, .int .u8 kd] k false = idxT (cn ((7 : Nat) : Int) 3 c) kd k := by kernel_rfl
theorem p8 (c : Conf) (kd : Int) (k : AV → Bool) : runF (cfg []) 300 52 [(cn ((8 : Nat) : Int) 3 c).av, .int .u8 kd] k false = idxT (cn ((8 : Nat) : Int) 3 c) kd k := by kernel_rfl
theorem p9 (c : Conf) (kd : Int) (k : AV → Bool) : runF (cfg []) 300 52 [(cn ((9 : Nat) : Int) 3 c).av, .int .u8 kd] k false = idxT (cn ((9 : Nat) : Int) 3 c) kd k := by kernel_rfl
theorem p10 (c : Conf) (kd : Int) (k : AV → Bool) : runF (cfg []) 300 52 [(cn ((10 : Nat) : Int) 3 c).av, .int .u8 kd] k false = idxT (cn ((10 : Nat) : Int) 3 c) kd k := by kernel_rfl
theorem p11 (c : Conf) (kd : Int) (k : AV → Bool) : runF (cfg []) 300 52 [(cn ((11 : Nat) : Int) 3 c).av, .int .u8 kd] k false = idxT (cn ((11 : Nat) : Int) 3 c) kd k := by kernel_rfl
theorem p12 (c : Conf) (kd : Int) (k : AV → Bool) : runF (cfg []) 300 52 [(cn ((12 : Nat) : Int) 3 c).av, .int .u8 kd] k false = idxT (cn ((12 : Nat) : Int) 3 c) kd k := by kernel_rfl
theorem p13 (c : Conf) (kd : Int) (k : AV → Bool) : runF (cfg []) 300 52 [(cn ((13 : Nat) : Int) 3 c).av, .int .u8 kd] k false = idxT (cn ((13 : Nat) : Int) 3 c) kd k := by kernel_rfl
theorem p14 (c : Conf) (kd : Int) (k : AV → Bool) : runF (cfg []) 300 52 [(cn ((14 : Nat) : Int) 3 c).av, .int .u8 kd] k false = idxT (cn ((14 : Nat) : Int) 3 c) kd k := by kernel_rfl
theorem p15 (c : Conf) (kd : Int) (k : AV → Bool) : runF (cfg []) 300 52 [(cn ((15 : Nat) : Int) 3 c).av, .int .u8 kd] k false = idxT (cn ((15 : Nat) : Int) 3 c) kd k := by kernel_rfl
theorem p16 (c : Conf) (kd : Int) (k : AV → Bool) : runF (cfg []) 300 52 [(cn ((16 : Nat) : Int) 3 c).av, .int .u8 kd] k false = idxT (cn ((16 : Nat) : Int) 3 c) kd k := by kernel_rfl
theorem p17 (c : Conf) (kd : Int) (k : AV → Bool) : runF (cfg []) 300 52 [(cn ((17 : Nat) : Int) 3 c).av, .int .u8 kd] k false = idxT (cn ((17 : Nat) : Int) 3 c) kd k := by kernel_rfl
theorem p18 (c : Conf) (kd : Int) (k : AV → Bool) : runF (cfg []) 300 52 [(cn ((18 : Nat) : Int) 3 c).av, .int .u8 kd] k false = idxT (cn ((18 : Nat) : Int) 3 c) kd k := by kernel_rfl
theorem p19 (c : Conf) (kd : Int) (k : AV → Bool) : runF (cfg []) 300 52 [(cn ((19 : Nat) : Int) 3 c).av, .int .u8 kd] k false = idxT (cn ((19 : Nat) : Int) 3 c) kd k := by kernel_rfl
theorem p20 (c : Conf) (kd : Int) (k : AV → Bool) : runF (cfg []) 300 52 [(cn ((20 : Nat) : Int) 3 c).av, .int .u8 kd] k false = idxT (cn ((20 : Nat) : Int) 3 c) kd k := by kernel_rfl
theorem p21 (c : Conf) (kd : Int) (k : AV → Bool) : runF (cfg []) 300 52 [(cn ((21 : Nat) : Int) 3 c).av, .int .u8 kd] k false = idxT (cn ((21 : Nat) : Int) 3 c) kd k := by kernel_rfl
theorem p22 (c : Conf) (kd : Int) (k : AV → Bool) : runF (cfg []) 300 52 [(cn ((22 : Nat) : Int) 3 c).av, .int .u8 kd] k false = idxT (cn ((22 : Nat) : Int) 3 c) kd k := by kernel_rfl
theorem p23 (c : Conf) (kd : Int) (k : AV → Bool) : runF (cfg []) 300 52 [(cn ((23 : Nat) : Int) 3 c).av, .int .u8 kd] k false = idxT (cn ((23 : Nat) : Int) 3 c) kd k := by kernel_rfl
theorem p24 (c : Conf) (kd : Int) (k : AV → Bool) : runF (cfg []) 300 52 [(cn ((24 : Nat) : Int) 3 c).av, .int .u8 kd] k false = idxT (cn ((24 : Nat) : Int) 3 c) kd k := by kernel_rfl
theorem p25 (c : Conf) (kd : Int) (k : AV → Bool) : runF (cfg []) 300 52 [(cn ((25 : Nat) : Int) 3 c).av, .int .u8 kd] k false = idxT (cn ((25 : Nat) : Int) 3 c) kd k := by kernel_rfl
theorem p26 (c : Conf) (kd : Int) (k : AV → Bool) : runF (cfg []) 300 52 [(cn ((26 : Nat) : Int) 3 c).av, .int .u8 kd] k false = idxT (cn ((26 : Nat) : Int) 3 c) kd k := by kernel_rfl
theorem p27 (c : Conf) (kd : Int) (k : AV → Bool) : runF (cfg []) 300 52 [(cn ((27 : Nat) : Int) 3 c).av, .int .u8 kd] k false = idxT (cn ((27 : Nat) : Int) 3 c) kd k := by kernel_rfl
theorem p28 (c : Conf) (kd : Int) (k : AV → Bool) : runF (cfg []) 300 52 [(cn ((28 : Nat) : Int) 3 c).av, .int .u8 kd] k false = idxT (cn ((28 : Nat) : Int) 3 c) kd k := by kernel_rfl
theorem p29 (c : Conf) (kd : Int) (k : AV → Bool) : runF (cfg []) 300 52 [(cn ((29 : Nat) : Int) 3 c).av, .int .u8 kd] k false = idxT (cn ((29 : Nat) : Int) 3 c) kd k := by kernel_rfl
theorem p30 (c : Conf) (kd : Int) (k : AV → Bool) : runF (cfg []) 300 52 [(cn ((30 : Nat) : Int) 3 c).av, .int .u8 kd] k false = idxT (cn ((30 : Nat) : Int) 3 c) kd k := by kernel_rfl
theorem p31 (c : Conf) (kd : Int) (k : AV → Bool) : runF (cfg []) 300 52 [(cn ((31 : Nat) : Int) 3 c).av, .int .u8 kd] k false = idxT (cn ((31 : Nat) : Int) 3 c) kd k := by kernel_rfl
theorem p32 (c : Conf) (kd : Int) (k : AV → Bool) : runF (cfg []) 300 52 [(cn ((32 : Nat) : Int) 3 c).av, .int .u8 kd] k false = idxT (cn ((32 : Nat) : Int) 3 c) kd k := by kernel_rfl
theorem p_all (c : Conf) (kd : Int) (k : AV → Bool) : ∀ (n : Nat), 1 ≤ n → n ≤ 32 → runF (cfg []) 300 52 [(cn (n : Int) 3 c).av, .int .u8 kd] k false = idxT (cn (n : Int) 3 c) kd k
  | 0, h, _ => absurd h (by decide)
  | 1, _, _ => p1 c kd k
  | 2, _, _ => p2 c kd k
  | 3, _, _ => p3 c kd k
  | 4, _, _ => p4 c kd k
  | 5, _, _ => p5 c kd k
  | 6, _, _ => p6 c kd k
  | 7, _, _ => p7 c kd k
  | 8, _, _ => p8 c kd k
  | 9, _, _ => p9 c kd k
  | 10, _, _ => p10 c kd k
  | 11, _, _ => p11 c kd k
  | 12, _, _ => p12 c kd k
  | 13, _, _ => p13 c kd k
  | 14, _, _ => p14 c kd k
  | 15, _, _ => p15 c kd k
  | 16, _, _ => p16 c kd k
  | 17, _, _ => p17 c kd k
  | 18, _, _ => p18 c kd k
  | 19, _, _ => p19 c kd k
  | 20, _, _ => p20 c kd k
  | 21, _, _ => p21 c kd k
  | 22, _, _ => p22 c kd k
  | 23, _, _ => p23 c kd k
  | 24, _, _ => p24 c kd k
  | 25, _, _ => p25 c kd k
  | 26, _, _ => p26 c kd k
  | 27, _, _ => p27 c kd k
  | 28, _, _ => p28 c kd k
  | 29, _, _ => p29 c kd k
  | 30, _, _ => p30 c kd k
  | 31, _, _ => p31 c kd k
  | 32, _, _ => p32 c kd k
  | n + 33, _, h => absurd h (by omega)
theorem r1 (c : Conf) (kd : Int) (k : AV → Bool) : runF (cfg [S_items]) 300 54 [(cn ((1 : Nat) : Int) 3 c).av, .int .u8 kd] k false = idxT (cn ((1 : Nat) : Int) 3 c) kd k := by kernel_rfl
theorem r2 (c : Conf) (kd : Int) (k : AV → Bool) : runF (cfg [S_items]) 300 54 [(cn ((2 : Nat) : Int) 3 c).av, .int .u8 kd] k false = idxT (cn ((2 : Nat) : Int) 3 c) kd k := by kernel_rfl
theorem r3 (c : Conf) (kd : Int) (k : AV → Bool) : runF (cfg [S_items]) 300 54 [(cn ((3 : Nat) : Int) 3 c).av, .int .u8 kd] k false = idxT (cn ((3 : Nat) : Int) 3 c) kd k := by kernel_rfl
theorem r4 (c : Conf) (kd : Int) (k : AV → Bool) : runF (cfg [S_items]) 300 54 [(cn ((4 : Nat) : Int) 3 c).av, .int .u8 kd] k false = idxT (cn ((4 : Nat) : Int) 3 c) kd k := by kernel_rfl
theorem r5 (c : Conf) (kd : Int) (k : AV → Bool) : runF (cfg [S_items]) 300 54 [(cn ((5 : Nat) : Int) 3 c).av, .int .u8 kd] k false = idxT (cn ((5 : Nat) : Int) 3 c) kd k := by kernel_rfl
theorem r6 (c : Conf) (kd : Int) (k : AV → Bool) : runF (cfg [S_items]) 300 54 [(cn ((6 : Nat) : Int) 3 c).av, .int .u8 kd] k false = idxT (cn ((6 : Nat) : Int) 3 c) kd k := by kernel_rfl
theorem r7 (c : Conf) (kd : Int) (k : AV → Bool) : runF (cfg [S_items]) 300 54 [(cn ((7 : Nat) : Int) 3 c).av, .int .u8 kd] k false = idxT (cn ((7 : Nat) : Int) 3 c) kd k := by kernel_rfl
theorem r8 (c : Conf) (kd : Int) (k : AV → Bool) : runF (cfg [S_items]) 300 54 [(cn ((8 : Nat) : Int) 3 c).av, .int .u8 kd] k false = idxT (cn ((8 : Nat) : Int) 3 c) kd k := by kernel_rfl
theorem r9 (c : Conf) (kd : Int) (k : AV → Bool) : runF (cfg [S_items]) 300 54 [(cn ((9 : Nat) : Int) 3 c).av, .int .u8 kd] k false = idxT (cn ((9 : Nat) : Int) 3 c) kd k := by kernel_rfl
theorem r10 (c : Conf) (kd : Int) (k : AV → Bool) : runF (cfg [S_items]) 300 54 [(cn ((10 : Nat) : Int) 3 c).av, .int .u8 kd] k false = idxT (cn ((10 : Nat) : Int) 3 c) kd k := by kernel_rfl
theorem r11 (c : Conf) (kd : Int) (k : AV → Bool) : runF (cfg [S_items]) 300 54 [(cn ((11 : Nat) : Int) 3 c).av, .int .u8 kd] k false = idxT (cn ((11 : Nat) : Int) 3 c) kd k := by kernel_rfl
theorem r12 (c : Conf) (kd : Int) (k : AV → Bool) : runF (cfg [S_items]) 300 54 [(cn ((12 : Nat) : Int) 3 c).av, .int .u8 kd] k false = idxT (cn ((12 : Nat) : Int) 3 c) kd k := by kernel_rfl
theorem r13 (c : Conf) (kd : Int) (k : AV → Bool) : runF (cfg [S_items]) 300 54 [(cn ((13 : Nat) : Int) 3 c).av, .int .u8 kd] k false = idxT (cn ((13 : Nat) : Int) 3 c) kd k := by kernel_rfl
theorem r14 (c : Conf) (kd : Int) (k : AV → Bool) : runF (cfg [S_items]) 300 54 [(cn ((14 : Nat) : Int) 3 c).av, .int .u8 kd] k false = idxT (cn ((14 : Nat) : Int) 3 c) kd k := by kernel_rfl
theorem r15 (c : Conf) (kd : Int) (k : AV → Bool) : runF (cfg [S_items]) 300 54 [(cn ((15 : Nat) : Int) 3 c).av, .int .u8 kd] k false = idxT (cn ((15 : Nat) : Int) 3 c) kd k := by kernel_rfl
theorem r16 (c : Conf) (kd : Int) (k : AV → Bool) : runF (cfg [S_items]) 300 54 [(cn ((16 : Nat) : Int) 3 c).av, .int .u8 kd] k false = idxT (cn ((16 : Nat) : Int) 3 c) kd k := by kernel_rfl
theorem r17 (c : Conf) (kd : Int) (k : AV → Bool) : runF (cfg [S_items]) 300 54 [(cn ((17 : Nat) : Int) 3 c).av, .int .u8 kd] k false = idxT (cn ((17 : Nat) : Int) 3 c) kd k := by kernel_rfl
theorem r18 (c : Conf) (kd : Int) (k : AV → Bool) : runF (cfg [S_items]) 300 54 [(cn ((18 : Nat) : Int) 3 c).av, .int .u8 kd] k false = idxT (cn ((18 : Nat) : Int) 3 c) kd k := by kernel_rfl
theorem r19 (c : Conf) (kd : Int) (k : AV → Bool) : runF (cfg [S_items]) 300 54 [(cn ((19 : Nat) : Int) 3 c).av, .int .u8 kd] k false = idxT (cn ((19 : Nat) : Int) 3 c) kd k := by kernel_rfl
theorem r20 (c : Conf) (kd : Int) (k : AV → Bool) : runF (cfg [S_items]) 300 54 [(cn ((20 : Nat) : Int) 3 c).av, .int .u8 kd] k false = idxT (cn ((20 : Nat) : Int) 3 c) kd k := by kernel_rfl
theorem r21 (c : Conf) (kd : Int) (k : AV → Bool) : runF (cfg [S_items]) 300 54 [(cn ((21 : Nat) : Int) 3 c).av, .int .u8 kd] k false = idxT (cn ((21 : Nat) : Int) 3 c) kd k := by kernel_rfl
theorem r22 (c : Conf) (kd : Int) (k : AV → Bool) : runF (cfg [S_items]) 300 54 [(cn ((22 : Nat) : Int) 3 c).av, .int .u8 kd] k false = idxT (cn ((22 : Nat) : Int) 3 c) kd k := by kernel_rfl
theorem r23 (c : Conf) (kd : Int) (k : AV → Bool) : runF (cfg [S_items]) 300 54 [(cn ((23 : Nat) : Int) 3 c).av, .int .u8 kd] k false = idxT (cn ((23 : Nat) : Int) 3 c) kd k := by kernel_rfl
theorem r24 (c : Conf) (kd : Int) (k : AV → Bool) : runF (cfg [S_items]) 300 54 [(cn ((24 : Nat) : Int) 3 c).av, .int .u8 kd] k false = idxT (cn ((24 : Nat) : Int) 3 c) kd k := by kernel_rfl
theorem r25 (c : Conf) (kd : Int) (k : AV → Bool) : runF (cfg [S_items]) 300 54 [(cn ((25 : Nat) : Int) 3 c).av, .int .u8 kd] k false = idxT (cn ((25 : Nat) : Int) 3 c) kd k := by kernel_rfl
theorem r26 (c : Conf) (kd : Int) (k : AV → Bool) : runF (cfg [S_items]) 300 54 [(cn ((26 : Nat) : Int) 3 c).av, .int .u8 kd] k false = idxT (cn ((26 : Nat) : Int) 3 c) kd k := by kernel_rfl
theorem r27 (c : Conf) (kd : Int) (k : AV → Bool) : runF (cfg [S_items]) 300 54 [(cn ((27 : Nat) : Int) 3 c).av, .int .u8 kd] k false = idxT (cn ((27 : Nat) : Int) 3 c) kd k := by kernel_rfl
theorem r28 (c : Conf) (kd : Int) (k : AV → Bool) : runF (cfg [S_items]) 300 54 [(cn ((28 : Nat) : Int) 3 c).av, .int .u8 kd] k false = idxT (cn ((28 : Nat) : Int) 3 c) kd k := by kernel_rfl
theorem r29 (c : Conf) (kd : Int) (k : AV → Bool) : runF (cfg [S_items]) 300 54 [(cn ((29 : Nat) : Int) 3 c).av, .int .u8 kd] k false = idxT (cn ((29 : Nat) : Int) 3 c) kd k := by kernel_rfl
theorem r30 (c : Conf) (kd : Int) (k : AV → Bool) : runF (cfg [S_items]) 300 54 [(cn ((30 : Nat) : Int) 3 c).av, .int .u8 kd] k false = idxT (cn ((30 : Nat) : Int) 3 c) kd k := by kernel_rfl
theorem r31 (c : Conf) (kd : Int) (k : AV → Bool) : runF (cfg [S_items]) 300 54 [(cn ((31 : Nat) : Int) 3 c).av, .int .u8 kd] k false = idxT (cn ((31 : Nat) : Int) 3 c) kd k := by kernel_rfl
theorem r32 (c : Conf) (kd : Int) (k : AV → Bool) : runF (cfg [S_items]) 300 54 [(cn ((32 : Nat) : Int) 3 c).av, .int .u8 kd] k false = idxT (cn ((32 : Nat) : Int) 3 c) kd k := by kernel_rfl
theorem r_all (c : Conf) (kd : Int) (k : AV → Bool) : ∀ (n : Nat), 1 ≤ n → n ≤ 32 → runF (cfg [S_items]) 300 54 [(cn (n : Int) 3 c).av, .int .u8 kd] k false = idxT (cn (n : Int) 3 c) kd k
  | 0, h, _ => absurd h (by decide)
  | 1, _, _ => r1 c kd k
  | 2, _, _ => r2 c kd k
  | 3, _, _ => r3 c kd k
  | 4, _, _ => r4 c kd k
  | 5, _, _ => r5 c kd k
  | 6, _, _ => r6 c kd k
  | 7, _, _ => r7 c kd k
  | 8, _, _ => r8 c kd k
  | 9, _, _ => r9 c kd k
  | 10, _, _ => r10 c kd k
  | 11, _, _ => r11 c kd k
  | 12, _, _ => r12 c kd k
  | 13, _, _ => r13 c kd k
  | 14, _, _ => r14 c kd k
  | 15, _, _ => r15 c kd k
  | 16, _, _ => r16 c kd k
  | 17, _, _ => r17 c kd k
  | 18, _, _ => r18 c kd k
  | 19, _, _ => r19 c kd k
  | 20, _, _ => r20 c kd k
  | 21, _, _ => r21 c kd k
  | 22, _, _ => r22 c kd k
  | 23, _, _ => r23 c kd k
  | 24, _, _ => r24 c kd k
  | 25, _, _ => r25 c kd k
  | 26, _, _ => r26 c kd k
  | 27, _, _ => r27 c kd k
  | 28, _, _ => r28 c kd k
  | 29, _, _ => r29 c kd k
  | 30, _, _ => r30 c kd k
  | 31, _, _ => r31 c kd k
  | 32, _, _ => r32 c kd k
  | n + 33, _, h => absurd h (by omega)
end Go.Bas.BasCIdx3
