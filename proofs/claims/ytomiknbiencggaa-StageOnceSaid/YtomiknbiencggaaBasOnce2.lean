/- The law StageOnce, walked: its loops, and the whole. -/
import Derived.Test.YtomiknbiencggaaBasOnce
namespace Go.Bas.BasOnce2
open Go.RowKit Go.Proofs Go.Bas.BasStage Go.Bas.BasStage2 Go.Bas.BasStage3 Go.Bas.BasStage5 Go.Bas.BasOnce Go.Bas.BasBack
set_option maxRecDepth 100000
set_option maxHeartbeats 4000000
set_option linter.unusedVariables false
set_option linter.unusedSimpArgs false
theorem condT {b x y : Bool} (h : b = true) (h2 : x = true) : cond b x y = true := by rw [h]; exact h2
theorem condF {b x y : Bool} (h : b = false) (h2 : y = true) : cond b x y = true := by rw [h]; exact h2
theorem s_alive1 : SumOk Try.prog (fun _ => none) S_alive := s_alive
theorem hC4 : (cfg [S_alive, S_laid, S_what, S_next]).Ok := cfg_ok base (sums_cons s_alive (sums_cons s_laid (sums_cons s_what (sums_cons s_next sums_nil))))
theorem zif0 (x : Int) : zif 0 x = x := rfl
/-- The readers' instance, the version, the drains, and what is applied, at a place of the way. -/
def leftL (ins x n : Nat) : Int := if n < ins then (x : Int) else (((x + 1) % ins : Nat) : Int)
def verL (ins p n : Nat) : Int := if n < ins + 2 then (p : Int) else (((p + 1) % 2 : Nat) : Int)
def dL (ins p j n : Nat) : Int := (if ins + 1 ≤ n ∧ j = (p + 1) % 2 then 1 else 0) + (if ins + 3 ≤ n ∧ j = p then 1 else 0)
def cellsL (ins x n : Nat) : List AV := (List.range ins).map fun j => .bool ((List.range (min n (ins - 1))).any (fun t => Nat.beq ((x + 1 + t) % ins) j) || (Nat.ble (ins + 4) n && Nat.beq j x))
theorem once_code : loopN (fcode Try.prog 3) 0 = .loop (loopAt (fcode Try.prog 3) [0]) := by kernel_rfl
theorem all_code : loopN (fcode Try.prog 3) 1 = .loop (loopAt (fcode Try.prog 3) [1]) := by kernel_rfl
theorem once_loops : loopsOf (fcode Try.prog 3) = [loopN (fcode Try.prog 3) 0, loopN (fcode Try.prog 3) 1] := by kernel_rfl
theorem run_ok {c : Conf} {b q f : Int} (h : chk mayP c ⟨b, 1, q, f⟩ = 0) (hb : 1 ≤ b) {n : Int} (h1 : 1 ≤ n) (h2 : n ≤ c.ins + 5) : chk mayP c ⟨b, n, q, f⟩ = 0 := by
  have S := sok h
  obtain ⟨g1, g2⟩ := chk0.1 h
  refine chk0.2 ⟨g1, ?_⟩
  rw [mayP_true, restS_eq S.ok] at g2 ⊢
  obtain ⟨a1, a2, a3, a4, a5, a6, a7⟩ := g2
  refine ⟨h1, h2, a3, a4, a5, a6, ?_⟩
  rcases a7 with ⟨b1, b2⟩ | b'
  · have : b = 0 := b1; omega
  · exact .inr b'
section
variable {c : Conf} {b q f : Int}
theorem pS_ok (hb : 1 ≤ b) (hq : 0 ≤ q) (n : Int) : pS ⟨b, n, q, f⟩ = true := pS_true.2 ⟨by show 0 ≤ b; omega, hq⟩

theorem on_2_0_0 (hi : c.ins = 2) (hx : (b - 1) % 2 = 0) (hp : (b - 1) % 2 = 0) (h0 : chk mayP c ⟨b, 1, q, f⟩ = 0) (hb : 1 ≤ b) (hb' : b ≤ 9223372036854775807) (hq : 0 ≤ q) (ok ap : Bool) (cs : List AV) (e0 e1 e2 e3 e4 : TypeId) (k : Ex → St → Bool)
    (hk : k (.exit 0) (I_on b b ok (leftL 2 0 6) (verL 2 0 6) 2 ap 6 (dL 2 0 0 6) (dL 2 0 1 6) (cellsL 2 0 6) cs 7 q f c.cells e0 e1 e2 e3 e4) = true) :
    AWq (cfg [S_alive, S_laid, S_what, S_next]) (.loop (loopAt (fcode Try.prog 3) [0])) (I_on b b ok 0 0 2 ap 0 0 0 (cellsL 2 0 0) cs 1 q f c.cells e0 e1 e2 e3 e4) (fun e s => k e s = true) := by
  refine AWq.loop (K := fun e s => k e s = true) (fun i : { i : Nat // i ≤ 6 } => I_on b b ok (leftL 2 0 i.1) (verL 2 0 i.1) 2 ap ((i.1 : Nat) : Int) (dL 2 0 0 i.1) (dL 2 0 1 i.1) (cellsL 2 0 i.1) cs (((i.1 + 1 : Nat)) : Int) q f c.cells e0 e1 e2 e3 e4) (fun i => 6 - i.1) ?_ ⟨0, Nat.zero_le _⟩
  have hA : IntKind.wrap .i64 (Int.tmod (IntKind.wrap .u64 (b - 1)) (IntKind.wrap .u64 c.2)) = 0 := by
    have e1 : c.2 = 2 := hi
    rw [e1, w64 (n := b - 1) (by omega) (by omega), w64 (n := 2) (by omega) (by omega), Int.tmod_eq_emod_of_nonneg (by omega), hx]; rfl
  rintro ⟨i, hle⟩
  have hz := run_ok h0 hb (n := ((i + 1 : Nat) : Int)) (by omega) (by omega)
  have hs := pS_ok (q := q) (f := f) hb hq ((i + 1 : Nat) : Int)
  refine AWq.runK hC4 [1, 4, 9, 10, 13, 14, 15, 16, 17] (n := 100) fun k' hk' => ?_
  refine (t_onb c b b ok (leftL 2 0 i) (verL 2 0 i) 2 ap ((i : Nat) : Int) (dL 2 0 0 i) (dL 2 0 1 i) (cellsL 2 0 i) cs ((i + 1 : Nat) : Int) q f e0 e1 e2 e3 e4 k').trans ?_
  have hi2 : c.2 = 2 := hi
  rw [hz, hs, hA, hi2]
  rcases (show i = 0 ∨ i = 1 ∨ i = 2 ∨ i = 3 ∨ i = 4 ∨ i = 5 ∨ i = 6 by omega) with rfl | rfl | rfl | rfl | rfl | rfl | rfl
  · have hK : jobK c ⟨b, ((0 + 1 : Nat) : Int), q, f⟩ = 1 := by unfold jobK; rw [hi]; rfl
    have hN : jobN c ⟨b, ((0 + 1 : Nat) : Int), q, f⟩ = 1 := by
      unfold jobN
      rw [hi]
      show (b + ((0 + 1 : Nat) : Int) - 1) % 2 = 1
      omega
    have hE : nxErr 0 c ⟨b, ((0 + 1 : Nat) : Int), q, f⟩ = 0 := by unfold nxErr; rw [hi]; rfl
    simp only [zif0, hK, hN, hE]
    repeat' (first | refine condT (by decide +kernel) ?_ | refine condF (by decide +kernel) ?_ | refine andI (by decide +kernel) ?_)
    exact hk' .normal _ ⟨⟨0 + 1, by omega⟩, by show 6 - (0 + 1) < 6 - 0; omega, (Less.drop 5 (by show 5 ≤ 7; omega) rfl rfl (by kernel_rfl)).trans (Less.of_eq (by unfold I_on Conf.cells; rw [hi]; kernel_rfl))⟩
  · have hK : jobK c ⟨b, ((1 + 1 : Nat) : Int), q, f⟩ = 2 := by unfold jobK; rw [hi]; rfl
    have hN : jobN c ⟨b, ((1 + 1 : Nat) : Int), q, f⟩ = 1 := by
      unfold jobN
      rw [hi]
      show b % 2 = 1
      omega
    have hE : nxErr 0 c ⟨b, ((1 + 1 : Nat) : Int), q, f⟩ = 0 := by unfold nxErr; rw [hi]; rfl
    simp only [zif0, hK, hN, hE]
    repeat' (first | refine condT (by decide +kernel) ?_ | refine condF (by decide +kernel) ?_ | refine andI (by decide +kernel) ?_)
    exact hk' .normal _ ⟨⟨1 + 1, by omega⟩, by show 6 - (1 + 1) < 6 - 1; omega, (Less.drop 5 (by show 5 ≤ 7; omega) rfl rfl (by kernel_rfl)).trans (Less.of_eq (by unfold I_on Conf.cells; rw [hi]; kernel_rfl))⟩
  · have hK : jobK c ⟨b, ((2 + 1 : Nat) : Int), q, f⟩ = 3 := by unfold jobK; rw [hi]; rfl
    have hN : jobN c ⟨b, ((2 + 1 : Nat) : Int), q, f⟩ = 1 := by
      unfold jobN
      rw [hi]
      show b % 2 = 1
      omega
    have hE : nxErr 0 c ⟨b, ((2 + 1 : Nat) : Int), q, f⟩ = 0 := by unfold nxErr; rw [hi]; rfl
    simp only [zif0, hK, hN, hE]
    repeat' (first | refine condT (by decide +kernel) ?_ | refine condF (by decide +kernel) ?_ | refine andI (by decide +kernel) ?_)
    exact hk' .normal _ ⟨⟨2 + 1, by omega⟩, by show 6 - (2 + 1) < 6 - 2; omega, (Less.drop 5 (by show 5 ≤ 7; omega) rfl rfl (by kernel_rfl)).trans (Less.of_eq (by unfold I_on Conf.cells; rw [hi]; kernel_rfl))⟩
  · have hK : jobK c ⟨b, ((3 + 1 : Nat) : Int), q, f⟩ = 4 := by unfold jobK; rw [hi]; rfl
    have hN : jobN c ⟨b, ((3 + 1 : Nat) : Int), q, f⟩ = 1 := by
      unfold jobN
      rw [hi]
      show b % 2 = 1
      omega
    have hE : nxErr 0 c ⟨b, ((3 + 1 : Nat) : Int), q, f⟩ = 0 := by unfold nxErr; rw [hi]; rfl
    simp only [zif0, hK, hN, hE]
    repeat' (first | refine condT (by decide +kernel) ?_ | refine condF (by decide +kernel) ?_ | refine andI (by decide +kernel) ?_)
    exact hk' .normal _ ⟨⟨3 + 1, by omega⟩, by show 6 - (3 + 1) < 6 - 3; omega, (Less.drop 5 (by show 5 ≤ 7; omega) rfl rfl (by kernel_rfl)).trans (Less.of_eq (by unfold I_on Conf.cells; rw [hi]; kernel_rfl))⟩
  · have hK : jobK c ⟨b, ((4 + 1 : Nat) : Int), q, f⟩ = 3 := by unfold jobK; rw [hi]; rfl
    have hN : jobN c ⟨b, ((4 + 1 : Nat) : Int), q, f⟩ = 0 := by
      unfold jobN
      rw [hi]
      show (b + 1) % 2 = 0
      omega
    have hE : nxErr 0 c ⟨b, ((4 + 1 : Nat) : Int), q, f⟩ = 0 := by unfold nxErr; rw [hi]; rfl
    simp only [zif0, hK, hN, hE]
    repeat' (first | refine condT (by decide +kernel) ?_ | refine condF (by decide +kernel) ?_ | refine andI (by decide +kernel) ?_)
    exact hk' .normal _ ⟨⟨4 + 1, by omega⟩, by show 6 - (4 + 1) < 6 - 4; omega, (Less.drop 5 (by show 5 ≤ 7; omega) rfl rfl (by kernel_rfl)).trans (Less.of_eq (by unfold I_on Conf.cells; rw [hi]; kernel_rfl))⟩
  · have hK : jobK c ⟨b, ((5 + 1 : Nat) : Int), q, f⟩ = 1 := by unfold jobK; rw [hi]; rfl
    have hN : jobN c ⟨b, ((5 + 1 : Nat) : Int), q, f⟩ = 0 := by
      unfold jobN
      rw [hi]
      show (b - 1) % 2 = 0
      omega
    have hE : nxErr 0 c ⟨b, ((5 + 1 : Nat) : Int), q, f⟩ = 0 := by unfold nxErr; rw [hi]; rfl
    simp only [zif0, hK, hN, hE]
    repeat' (first | refine condT (by decide +kernel) ?_ | refine condF (by decide +kernel) ?_ | refine andI (by decide +kernel) ?_)
    exact hk' .normal _ ⟨⟨5 + 1, by omega⟩, by show 6 - (5 + 1) < 6 - 5; omega, (Less.drop 5 (by show 5 ≤ 7; omega) rfl rfl (by kernel_rfl)).trans (Less.of_eq (by unfold I_on Conf.cells; rw [hi]; kernel_rfl))⟩
  · refine condF (by decide +kernel) ?_
    refine hk' (.exit 0) _ ⟨_, LessS.refl _, ?_⟩
    unfold I_on Conf.cells at hk
    rw [hi] at hk
    exact hk
theorem on_2_1_1 (hi : c.ins = 2) (hx : (b - 1) % 2 = 1) (hp : (b - 1) % 2 = 1) (h0 : chk mayP c ⟨b, 1, q, f⟩ = 0) (hb : 1 ≤ b) (hb' : b ≤ 9223372036854775807) (hq : 0 ≤ q) (ok ap : Bool) (cs : List AV) (e0 e1 e2 e3 e4 : TypeId) (k : Ex → St → Bool)
    (hk : k (.exit 0) (I_on b b ok (leftL 2 1 6) (verL 2 1 6) 2 ap 6 (dL 2 1 0 6) (dL 2 1 1 6) (cellsL 2 1 6) cs 7 q f c.cells e0 e1 e2 e3 e4) = true) :
    AWq (cfg [S_alive, S_laid, S_what, S_next]) (.loop (loopAt (fcode Try.prog 3) [0])) (I_on b b ok 1 1 2 ap 0 0 0 (cellsL 2 1 0) cs 1 q f c.cells e0 e1 e2 e3 e4) (fun e s => k e s = true) := by
  refine AWq.loop (K := fun e s => k e s = true) (fun i : { i : Nat // i ≤ 6 } => I_on b b ok (leftL 2 1 i.1) (verL 2 1 i.1) 2 ap ((i.1 : Nat) : Int) (dL 2 1 0 i.1) (dL 2 1 1 i.1) (cellsL 2 1 i.1) cs (((i.1 + 1 : Nat)) : Int) q f c.cells e0 e1 e2 e3 e4) (fun i => 6 - i.1) ?_ ⟨0, Nat.zero_le _⟩
  have hA : IntKind.wrap .i64 (Int.tmod (IntKind.wrap .u64 (b - 1)) (IntKind.wrap .u64 c.2)) = 1 := by
    have e1 : c.2 = 2 := hi
    rw [e1, w64 (n := b - 1) (by omega) (by omega), w64 (n := 2) (by omega) (by omega), Int.tmod_eq_emod_of_nonneg (by omega), hx]; rfl
  rintro ⟨i, hle⟩
  have hz := run_ok h0 hb (n := ((i + 1 : Nat) : Int)) (by omega) (by omega)
  have hs := pS_ok (q := q) (f := f) hb hq ((i + 1 : Nat) : Int)
  refine AWq.runK hC4 [1, 4, 9, 10, 13, 14, 15, 16, 17] (n := 100) fun k' hk' => ?_
  refine (t_onb c b b ok (leftL 2 1 i) (verL 2 1 i) 2 ap ((i : Nat) : Int) (dL 2 1 0 i) (dL 2 1 1 i) (cellsL 2 1 i) cs ((i + 1 : Nat) : Int) q f e0 e1 e2 e3 e4 k').trans ?_
  have hi2 : c.2 = 2 := hi
  rw [hz, hs, hA, hi2]
  rcases (show i = 0 ∨ i = 1 ∨ i = 2 ∨ i = 3 ∨ i = 4 ∨ i = 5 ∨ i = 6 by omega) with rfl | rfl | rfl | rfl | rfl | rfl | rfl
  · have hK : jobK c ⟨b, ((0 + 1 : Nat) : Int), q, f⟩ = 1 := by unfold jobK; rw [hi]; rfl
    have hN : jobN c ⟨b, ((0 + 1 : Nat) : Int), q, f⟩ = 0 := by
      unfold jobN
      rw [hi]
      show (b + ((0 + 1 : Nat) : Int) - 1) % 2 = 0
      omega
    have hE : nxErr 0 c ⟨b, ((0 + 1 : Nat) : Int), q, f⟩ = 0 := by unfold nxErr; rw [hi]; rfl
    simp only [zif0, hK, hN, hE]
    repeat' (first | refine condT (by decide +kernel) ?_ | refine condF (by decide +kernel) ?_ | refine andI (by decide +kernel) ?_)
    exact hk' .normal _ ⟨⟨0 + 1, by omega⟩, by show 6 - (0 + 1) < 6 - 0; omega, (Less.drop 5 (by show 5 ≤ 7; omega) rfl rfl (by kernel_rfl)).trans (Less.of_eq (by unfold I_on Conf.cells; rw [hi]; kernel_rfl))⟩
  · have hK : jobK c ⟨b, ((1 + 1 : Nat) : Int), q, f⟩ = 2 := by unfold jobK; rw [hi]; rfl
    have hN : jobN c ⟨b, ((1 + 1 : Nat) : Int), q, f⟩ = 0 := by
      unfold jobN
      rw [hi]
      show b % 2 = 0
      omega
    have hE : nxErr 0 c ⟨b, ((1 + 1 : Nat) : Int), q, f⟩ = 0 := by unfold nxErr; rw [hi]; rfl
    simp only [zif0, hK, hN, hE]
    repeat' (first | refine condT (by decide +kernel) ?_ | refine condF (by decide +kernel) ?_ | refine andI (by decide +kernel) ?_)
    exact hk' .normal _ ⟨⟨1 + 1, by omega⟩, by show 6 - (1 + 1) < 6 - 1; omega, (Less.drop 5 (by show 5 ≤ 7; omega) rfl rfl (by kernel_rfl)).trans (Less.of_eq (by unfold I_on Conf.cells; rw [hi]; kernel_rfl))⟩
  · have hK : jobK c ⟨b, ((2 + 1 : Nat) : Int), q, f⟩ = 3 := by unfold jobK; rw [hi]; rfl
    have hN : jobN c ⟨b, ((2 + 1 : Nat) : Int), q, f⟩ = 0 := by
      unfold jobN
      rw [hi]
      show b % 2 = 0
      omega
    have hE : nxErr 0 c ⟨b, ((2 + 1 : Nat) : Int), q, f⟩ = 0 := by unfold nxErr; rw [hi]; rfl
    simp only [zif0, hK, hN, hE]
    repeat' (first | refine condT (by decide +kernel) ?_ | refine condF (by decide +kernel) ?_ | refine andI (by decide +kernel) ?_)
    exact hk' .normal _ ⟨⟨2 + 1, by omega⟩, by show 6 - (2 + 1) < 6 - 2; omega, (Less.drop 5 (by show 5 ≤ 7; omega) rfl rfl (by kernel_rfl)).trans (Less.of_eq (by unfold I_on Conf.cells; rw [hi]; kernel_rfl))⟩
  · have hK : jobK c ⟨b, ((3 + 1 : Nat) : Int), q, f⟩ = 4 := by unfold jobK; rw [hi]; rfl
    have hN : jobN c ⟨b, ((3 + 1 : Nat) : Int), q, f⟩ = 0 := by
      unfold jobN
      rw [hi]
      show b % 2 = 0
      omega
    have hE : nxErr 0 c ⟨b, ((3 + 1 : Nat) : Int), q, f⟩ = 0 := by unfold nxErr; rw [hi]; rfl
    simp only [zif0, hK, hN, hE]
    repeat' (first | refine condT (by decide +kernel) ?_ | refine condF (by decide +kernel) ?_ | refine andI (by decide +kernel) ?_)
    exact hk' .normal _ ⟨⟨3 + 1, by omega⟩, by show 6 - (3 + 1) < 6 - 3; omega, (Less.drop 5 (by show 5 ≤ 7; omega) rfl rfl (by kernel_rfl)).trans (Less.of_eq (by unfold I_on Conf.cells; rw [hi]; kernel_rfl))⟩
  · have hK : jobK c ⟨b, ((4 + 1 : Nat) : Int), q, f⟩ = 3 := by unfold jobK; rw [hi]; rfl
    have hN : jobN c ⟨b, ((4 + 1 : Nat) : Int), q, f⟩ = 1 := by
      unfold jobN
      rw [hi]
      show (b + 1) % 2 = 1
      omega
    have hE : nxErr 0 c ⟨b, ((4 + 1 : Nat) : Int), q, f⟩ = 0 := by unfold nxErr; rw [hi]; rfl
    simp only [zif0, hK, hN, hE]
    repeat' (first | refine condT (by decide +kernel) ?_ | refine condF (by decide +kernel) ?_ | refine andI (by decide +kernel) ?_)
    exact hk' .normal _ ⟨⟨4 + 1, by omega⟩, by show 6 - (4 + 1) < 6 - 4; omega, (Less.drop 5 (by show 5 ≤ 7; omega) rfl rfl (by kernel_rfl)).trans (Less.of_eq (by unfold I_on Conf.cells; rw [hi]; kernel_rfl))⟩
  · have hK : jobK c ⟨b, ((5 + 1 : Nat) : Int), q, f⟩ = 1 := by unfold jobK; rw [hi]; rfl
    have hN : jobN c ⟨b, ((5 + 1 : Nat) : Int), q, f⟩ = 1 := by
      unfold jobN
      rw [hi]
      show (b - 1) % 2 = 1
      omega
    have hE : nxErr 0 c ⟨b, ((5 + 1 : Nat) : Int), q, f⟩ = 0 := by unfold nxErr; rw [hi]; rfl
    simp only [zif0, hK, hN, hE]
    repeat' (first | refine condT (by decide +kernel) ?_ | refine condF (by decide +kernel) ?_ | refine andI (by decide +kernel) ?_)
    exact hk' .normal _ ⟨⟨5 + 1, by omega⟩, by show 6 - (5 + 1) < 6 - 5; omega, (Less.drop 5 (by show 5 ≤ 7; omega) rfl rfl (by kernel_rfl)).trans (Less.of_eq (by unfold I_on Conf.cells; rw [hi]; kernel_rfl))⟩
  · refine condF (by decide +kernel) ?_
    refine hk' (.exit 0) _ ⟨_, LessS.refl _, ?_⟩
    unfold I_on Conf.cells at hk
    rw [hi] at hk
    exact hk
theorem on_3_0_0 (hi : c.ins = 3) (hx : (b - 1) % 3 = 0) (hp : (b - 1) % 2 = 0) (h0 : chk mayP c ⟨b, 1, q, f⟩ = 0) (hb : 1 ≤ b) (hb' : b ≤ 9223372036854775807) (hq : 0 ≤ q) (ok ap : Bool) (cs : List AV) (e0 e1 e2 e3 e4 : TypeId) (k : Ex → St → Bool)
    (hk : k (.exit 0) (I_on b b ok (leftL 3 0 7) (verL 3 0 7) 3 ap 7 (dL 3 0 0 7) (dL 3 0 1 7) (cellsL 3 0 7) cs 8 q f c.cells e0 e1 e2 e3 e4) = true) :
    AWq (cfg [S_alive, S_laid, S_what, S_next]) (.loop (loopAt (fcode Try.prog 3) [0])) (I_on b b ok 0 0 3 ap 0 0 0 (cellsL 3 0 0) cs 1 q f c.cells e0 e1 e2 e3 e4) (fun e s => k e s = true) := by
  refine AWq.loop (K := fun e s => k e s = true) (fun i : { i : Nat // i ≤ 7 } => I_on b b ok (leftL 3 0 i.1) (verL 3 0 i.1) 3 ap ((i.1 : Nat) : Int) (dL 3 0 0 i.1) (dL 3 0 1 i.1) (cellsL 3 0 i.1) cs (((i.1 + 1 : Nat)) : Int) q f c.cells e0 e1 e2 e3 e4) (fun i => 7 - i.1) ?_ ⟨0, Nat.zero_le _⟩
  have hA : IntKind.wrap .i64 (Int.tmod (IntKind.wrap .u64 (b - 1)) (IntKind.wrap .u64 c.2)) = 0 := by
    have e1 : c.2 = 3 := hi
    rw [e1, w64 (n := b - 1) (by omega) (by omega), w64 (n := 3) (by omega) (by omega), Int.tmod_eq_emod_of_nonneg (by omega), hx]; rfl
  rintro ⟨i, hle⟩
  have hz := run_ok h0 hb (n := ((i + 1 : Nat) : Int)) (by omega) (by omega)
  have hs := pS_ok (q := q) (f := f) hb hq ((i + 1 : Nat) : Int)
  refine AWq.runK hC4 [1, 4, 9, 10, 13, 14, 15, 16, 17] (n := 100) fun k' hk' => ?_
  refine (t_onb c b b ok (leftL 3 0 i) (verL 3 0 i) 3 ap ((i : Nat) : Int) (dL 3 0 0 i) (dL 3 0 1 i) (cellsL 3 0 i) cs ((i + 1 : Nat) : Int) q f e0 e1 e2 e3 e4 k').trans ?_
  have hi2 : c.2 = 3 := hi
  rw [hz, hs, hA, hi2]
  rcases (show i = 0 ∨ i = 1 ∨ i = 2 ∨ i = 3 ∨ i = 4 ∨ i = 5 ∨ i = 6 ∨ i = 7 by omega) with rfl | rfl | rfl | rfl | rfl | rfl | rfl | rfl
  · have hK : jobK c ⟨b, ((0 + 1 : Nat) : Int), q, f⟩ = 1 := by unfold jobK; rw [hi]; rfl
    have hN : jobN c ⟨b, ((0 + 1 : Nat) : Int), q, f⟩ = 1 := by
      unfold jobN
      rw [hi]
      show (b + ((0 + 1 : Nat) : Int) - 1) % 3 = 1
      omega
    have hE : nxErr 0 c ⟨b, ((0 + 1 : Nat) : Int), q, f⟩ = 0 := by unfold nxErr; rw [hi]; rfl
    simp only [zif0, hK, hN, hE]
    repeat' (first | refine condT (by decide +kernel) ?_ | refine condF (by decide +kernel) ?_ | refine andI (by decide +kernel) ?_)
    exact hk' .normal _ ⟨⟨0 + 1, by omega⟩, by show 7 - (0 + 1) < 7 - 0; omega, (Less.drop 5 (by show 5 ≤ 7; omega) rfl rfl (by kernel_rfl)).trans (Less.of_eq (by unfold I_on Conf.cells; rw [hi]; kernel_rfl))⟩
  · have hK : jobK c ⟨b, ((1 + 1 : Nat) : Int), q, f⟩ = 1 := by unfold jobK; rw [hi]; rfl
    have hN : jobN c ⟨b, ((1 + 1 : Nat) : Int), q, f⟩ = 2 := by
      unfold jobN
      rw [hi]
      show (b + ((1 + 1 : Nat) : Int) - 1) % 3 = 2
      omega
    have hE : nxErr 0 c ⟨b, ((1 + 1 : Nat) : Int), q, f⟩ = 0 := by unfold nxErr; rw [hi]; rfl
    simp only [zif0, hK, hN, hE]
    repeat' (first | refine condT (by decide +kernel) ?_ | refine condF (by decide +kernel) ?_ | refine andI (by decide +kernel) ?_)
    exact hk' .normal _ ⟨⟨1 + 1, by omega⟩, by show 7 - (1 + 1) < 7 - 1; omega, (Less.drop 5 (by show 5 ≤ 7; omega) rfl rfl (by kernel_rfl)).trans (Less.of_eq (by unfold I_on Conf.cells; rw [hi]; kernel_rfl))⟩
  · have hK : jobK c ⟨b, ((2 + 1 : Nat) : Int), q, f⟩ = 2 := by unfold jobK; rw [hi]; rfl
    have hN : jobN c ⟨b, ((2 + 1 : Nat) : Int), q, f⟩ = 1 := by
      unfold jobN
      rw [hi]
      show b % 3 = 1
      omega
    have hE : nxErr 0 c ⟨b, ((2 + 1 : Nat) : Int), q, f⟩ = 0 := by unfold nxErr; rw [hi]; rfl
    simp only [zif0, hK, hN, hE]
    repeat' (first | refine condT (by decide +kernel) ?_ | refine condF (by decide +kernel) ?_ | refine andI (by decide +kernel) ?_)
    exact hk' .normal _ ⟨⟨2 + 1, by omega⟩, by show 7 - (2 + 1) < 7 - 2; omega, (Less.drop 5 (by show 5 ≤ 7; omega) rfl rfl (by kernel_rfl)).trans (Less.of_eq (by unfold I_on Conf.cells; rw [hi]; kernel_rfl))⟩
  · have hK : jobK c ⟨b, ((3 + 1 : Nat) : Int), q, f⟩ = 3 := by unfold jobK; rw [hi]; rfl
    have hN : jobN c ⟨b, ((3 + 1 : Nat) : Int), q, f⟩ = 1 := by
      unfold jobN
      rw [hi]
      show b % 2 = 1
      omega
    have hE : nxErr 0 c ⟨b, ((3 + 1 : Nat) : Int), q, f⟩ = 0 := by unfold nxErr; rw [hi]; rfl
    simp only [zif0, hK, hN, hE]
    repeat' (first | refine condT (by decide +kernel) ?_ | refine condF (by decide +kernel) ?_ | refine andI (by decide +kernel) ?_)
    exact hk' .normal _ ⟨⟨3 + 1, by omega⟩, by show 7 - (3 + 1) < 7 - 3; omega, (Less.drop 5 (by show 5 ≤ 7; omega) rfl rfl (by kernel_rfl)).trans (Less.of_eq (by unfold I_on Conf.cells; rw [hi]; kernel_rfl))⟩
  · have hK : jobK c ⟨b, ((4 + 1 : Nat) : Int), q, f⟩ = 4 := by unfold jobK; rw [hi]; rfl
    have hN : jobN c ⟨b, ((4 + 1 : Nat) : Int), q, f⟩ = 1 := by
      unfold jobN
      rw [hi]
      show b % 2 = 1
      omega
    have hE : nxErr 0 c ⟨b, ((4 + 1 : Nat) : Int), q, f⟩ = 0 := by unfold nxErr; rw [hi]; rfl
    simp only [zif0, hK, hN, hE]
    repeat' (first | refine condT (by decide +kernel) ?_ | refine condF (by decide +kernel) ?_ | refine andI (by decide +kernel) ?_)
    exact hk' .normal _ ⟨⟨4 + 1, by omega⟩, by show 7 - (4 + 1) < 7 - 4; omega, (Less.drop 5 (by show 5 ≤ 7; omega) rfl rfl (by kernel_rfl)).trans (Less.of_eq (by unfold I_on Conf.cells; rw [hi]; kernel_rfl))⟩
  · have hK : jobK c ⟨b, ((5 + 1 : Nat) : Int), q, f⟩ = 3 := by unfold jobK; rw [hi]; rfl
    have hN : jobN c ⟨b, ((5 + 1 : Nat) : Int), q, f⟩ = 0 := by
      unfold jobN
      rw [hi]
      show (b + 1) % 2 = 0
      omega
    have hE : nxErr 0 c ⟨b, ((5 + 1 : Nat) : Int), q, f⟩ = 0 := by unfold nxErr; rw [hi]; rfl
    simp only [zif0, hK, hN, hE]
    repeat' (first | refine condT (by decide +kernel) ?_ | refine condF (by decide +kernel) ?_ | refine andI (by decide +kernel) ?_)
    exact hk' .normal _ ⟨⟨5 + 1, by omega⟩, by show 7 - (5 + 1) < 7 - 5; omega, (Less.drop 5 (by show 5 ≤ 7; omega) rfl rfl (by kernel_rfl)).trans (Less.of_eq (by unfold I_on Conf.cells; rw [hi]; kernel_rfl))⟩
  · have hK : jobK c ⟨b, ((6 + 1 : Nat) : Int), q, f⟩ = 1 := by unfold jobK; rw [hi]; rfl
    have hN : jobN c ⟨b, ((6 + 1 : Nat) : Int), q, f⟩ = 0 := by
      unfold jobN
      rw [hi]
      show (b - 1) % 3 = 0
      omega
    have hE : nxErr 0 c ⟨b, ((6 + 1 : Nat) : Int), q, f⟩ = 0 := by unfold nxErr; rw [hi]; rfl
    simp only [zif0, hK, hN, hE]
    repeat' (first | refine condT (by decide +kernel) ?_ | refine condF (by decide +kernel) ?_ | refine andI (by decide +kernel) ?_)
    exact hk' .normal _ ⟨⟨6 + 1, by omega⟩, by show 7 - (6 + 1) < 7 - 6; omega, (Less.drop 5 (by show 5 ≤ 7; omega) rfl rfl (by kernel_rfl)).trans (Less.of_eq (by unfold I_on Conf.cells; rw [hi]; kernel_rfl))⟩
  · refine condF (by decide +kernel) ?_
    refine hk' (.exit 0) _ ⟨_, LessS.refl _, ?_⟩
    unfold I_on Conf.cells at hk
    rw [hi] at hk
    exact hk
theorem on_3_0_1 (hi : c.ins = 3) (hx : (b - 1) % 3 = 0) (hp : (b - 1) % 2 = 1) (h0 : chk mayP c ⟨b, 1, q, f⟩ = 0) (hb : 1 ≤ b) (hb' : b ≤ 9223372036854775807) (hq : 0 ≤ q) (ok ap : Bool) (cs : List AV) (e0 e1 e2 e3 e4 : TypeId) (k : Ex → St → Bool)
    (hk : k (.exit 0) (I_on b b ok (leftL 3 0 7) (verL 3 1 7) 3 ap 7 (dL 3 1 0 7) (dL 3 1 1 7) (cellsL 3 0 7) cs 8 q f c.cells e0 e1 e2 e3 e4) = true) :
    AWq (cfg [S_alive, S_laid, S_what, S_next]) (.loop (loopAt (fcode Try.prog 3) [0])) (I_on b b ok 0 1 3 ap 0 0 0 (cellsL 3 0 0) cs 1 q f c.cells e0 e1 e2 e3 e4) (fun e s => k e s = true) := by
  refine AWq.loop (K := fun e s => k e s = true) (fun i : { i : Nat // i ≤ 7 } => I_on b b ok (leftL 3 0 i.1) (verL 3 1 i.1) 3 ap ((i.1 : Nat) : Int) (dL 3 1 0 i.1) (dL 3 1 1 i.1) (cellsL 3 0 i.1) cs (((i.1 + 1 : Nat)) : Int) q f c.cells e0 e1 e2 e3 e4) (fun i => 7 - i.1) ?_ ⟨0, Nat.zero_le _⟩
  have hA : IntKind.wrap .i64 (Int.tmod (IntKind.wrap .u64 (b - 1)) (IntKind.wrap .u64 c.2)) = 0 := by
    have e1 : c.2 = 3 := hi
    rw [e1, w64 (n := b - 1) (by omega) (by omega), w64 (n := 3) (by omega) (by omega), Int.tmod_eq_emod_of_nonneg (by omega), hx]; rfl
  rintro ⟨i, hle⟩
  have hz := run_ok h0 hb (n := ((i + 1 : Nat) : Int)) (by omega) (by omega)
  have hs := pS_ok (q := q) (f := f) hb hq ((i + 1 : Nat) : Int)
  refine AWq.runK hC4 [1, 4, 9, 10, 13, 14, 15, 16, 17] (n := 100) fun k' hk' => ?_
  refine (t_onb c b b ok (leftL 3 0 i) (verL 3 1 i) 3 ap ((i : Nat) : Int) (dL 3 1 0 i) (dL 3 1 1 i) (cellsL 3 0 i) cs ((i + 1 : Nat) : Int) q f e0 e1 e2 e3 e4 k').trans ?_
  have hi2 : c.2 = 3 := hi
  rw [hz, hs, hA, hi2]
  rcases (show i = 0 ∨ i = 1 ∨ i = 2 ∨ i = 3 ∨ i = 4 ∨ i = 5 ∨ i = 6 ∨ i = 7 by omega) with rfl | rfl | rfl | rfl | rfl | rfl | rfl | rfl
  · have hK : jobK c ⟨b, ((0 + 1 : Nat) : Int), q, f⟩ = 1 := by unfold jobK; rw [hi]; rfl
    have hN : jobN c ⟨b, ((0 + 1 : Nat) : Int), q, f⟩ = 1 := by
      unfold jobN
      rw [hi]
      show (b + ((0 + 1 : Nat) : Int) - 1) % 3 = 1
      omega
    have hE : nxErr 0 c ⟨b, ((0 + 1 : Nat) : Int), q, f⟩ = 0 := by unfold nxErr; rw [hi]; rfl
    simp only [zif0, hK, hN, hE]
    repeat' (first | refine condT (by decide +kernel) ?_ | refine condF (by decide +kernel) ?_ | refine andI (by decide +kernel) ?_)
    exact hk' .normal _ ⟨⟨0 + 1, by omega⟩, by show 7 - (0 + 1) < 7 - 0; omega, (Less.drop 5 (by show 5 ≤ 7; omega) rfl rfl (by kernel_rfl)).trans (Less.of_eq (by unfold I_on Conf.cells; rw [hi]; kernel_rfl))⟩
  · have hK : jobK c ⟨b, ((1 + 1 : Nat) : Int), q, f⟩ = 1 := by unfold jobK; rw [hi]; rfl
    have hN : jobN c ⟨b, ((1 + 1 : Nat) : Int), q, f⟩ = 2 := by
      unfold jobN
      rw [hi]
      show (b + ((1 + 1 : Nat) : Int) - 1) % 3 = 2
      omega
    have hE : nxErr 0 c ⟨b, ((1 + 1 : Nat) : Int), q, f⟩ = 0 := by unfold nxErr; rw [hi]; rfl
    simp only [zif0, hK, hN, hE]
    repeat' (first | refine condT (by decide +kernel) ?_ | refine condF (by decide +kernel) ?_ | refine andI (by decide +kernel) ?_)
    exact hk' .normal _ ⟨⟨1 + 1, by omega⟩, by show 7 - (1 + 1) < 7 - 1; omega, (Less.drop 5 (by show 5 ≤ 7; omega) rfl rfl (by kernel_rfl)).trans (Less.of_eq (by unfold I_on Conf.cells; rw [hi]; kernel_rfl))⟩
  · have hK : jobK c ⟨b, ((2 + 1 : Nat) : Int), q, f⟩ = 2 := by unfold jobK; rw [hi]; rfl
    have hN : jobN c ⟨b, ((2 + 1 : Nat) : Int), q, f⟩ = 1 := by
      unfold jobN
      rw [hi]
      show b % 3 = 1
      omega
    have hE : nxErr 0 c ⟨b, ((2 + 1 : Nat) : Int), q, f⟩ = 0 := by unfold nxErr; rw [hi]; rfl
    simp only [zif0, hK, hN, hE]
    repeat' (first | refine condT (by decide +kernel) ?_ | refine condF (by decide +kernel) ?_ | refine andI (by decide +kernel) ?_)
    exact hk' .normal _ ⟨⟨2 + 1, by omega⟩, by show 7 - (2 + 1) < 7 - 2; omega, (Less.drop 5 (by show 5 ≤ 7; omega) rfl rfl (by kernel_rfl)).trans (Less.of_eq (by unfold I_on Conf.cells; rw [hi]; kernel_rfl))⟩
  · have hK : jobK c ⟨b, ((3 + 1 : Nat) : Int), q, f⟩ = 3 := by unfold jobK; rw [hi]; rfl
    have hN : jobN c ⟨b, ((3 + 1 : Nat) : Int), q, f⟩ = 0 := by
      unfold jobN
      rw [hi]
      show b % 2 = 0
      omega
    have hE : nxErr 0 c ⟨b, ((3 + 1 : Nat) : Int), q, f⟩ = 0 := by unfold nxErr; rw [hi]; rfl
    simp only [zif0, hK, hN, hE]
    repeat' (first | refine condT (by decide +kernel) ?_ | refine condF (by decide +kernel) ?_ | refine andI (by decide +kernel) ?_)
    exact hk' .normal _ ⟨⟨3 + 1, by omega⟩, by show 7 - (3 + 1) < 7 - 3; omega, (Less.drop 5 (by show 5 ≤ 7; omega) rfl rfl (by kernel_rfl)).trans (Less.of_eq (by unfold I_on Conf.cells; rw [hi]; kernel_rfl))⟩
  · have hK : jobK c ⟨b, ((4 + 1 : Nat) : Int), q, f⟩ = 4 := by unfold jobK; rw [hi]; rfl
    have hN : jobN c ⟨b, ((4 + 1 : Nat) : Int), q, f⟩ = 0 := by
      unfold jobN
      rw [hi]
      show b % 2 = 0
      omega
    have hE : nxErr 0 c ⟨b, ((4 + 1 : Nat) : Int), q, f⟩ = 0 := by unfold nxErr; rw [hi]; rfl
    simp only [zif0, hK, hN, hE]
    repeat' (first | refine condT (by decide +kernel) ?_ | refine condF (by decide +kernel) ?_ | refine andI (by decide +kernel) ?_)
    exact hk' .normal _ ⟨⟨4 + 1, by omega⟩, by show 7 - (4 + 1) < 7 - 4; omega, (Less.drop 5 (by show 5 ≤ 7; omega) rfl rfl (by kernel_rfl)).trans (Less.of_eq (by unfold I_on Conf.cells; rw [hi]; kernel_rfl))⟩
  · have hK : jobK c ⟨b, ((5 + 1 : Nat) : Int), q, f⟩ = 3 := by unfold jobK; rw [hi]; rfl
    have hN : jobN c ⟨b, ((5 + 1 : Nat) : Int), q, f⟩ = 1 := by
      unfold jobN
      rw [hi]
      show (b + 1) % 2 = 1
      omega
    have hE : nxErr 0 c ⟨b, ((5 + 1 : Nat) : Int), q, f⟩ = 0 := by unfold nxErr; rw [hi]; rfl
    simp only [zif0, hK, hN, hE]
    repeat' (first | refine condT (by decide +kernel) ?_ | refine condF (by decide +kernel) ?_ | refine andI (by decide +kernel) ?_)
    exact hk' .normal _ ⟨⟨5 + 1, by omega⟩, by show 7 - (5 + 1) < 7 - 5; omega, (Less.drop 5 (by show 5 ≤ 7; omega) rfl rfl (by kernel_rfl)).trans (Less.of_eq (by unfold I_on Conf.cells; rw [hi]; kernel_rfl))⟩
  · have hK : jobK c ⟨b, ((6 + 1 : Nat) : Int), q, f⟩ = 1 := by unfold jobK; rw [hi]; rfl
    have hN : jobN c ⟨b, ((6 + 1 : Nat) : Int), q, f⟩ = 0 := by
      unfold jobN
      rw [hi]
      show (b - 1) % 3 = 0
      omega
    have hE : nxErr 0 c ⟨b, ((6 + 1 : Nat) : Int), q, f⟩ = 0 := by unfold nxErr; rw [hi]; rfl
    simp only [zif0, hK, hN, hE]
    repeat' (first | refine condT (by decide +kernel) ?_ | refine condF (by decide +kernel) ?_ | refine andI (by decide +kernel) ?_)
    exact hk' .normal _ ⟨⟨6 + 1, by omega⟩, by show 7 - (6 + 1) < 7 - 6; omega, (Less.drop 5 (by show 5 ≤ 7; omega) rfl rfl (by kernel_rfl)).trans (Less.of_eq (by unfold I_on Conf.cells; rw [hi]; kernel_rfl))⟩
  · refine condF (by decide +kernel) ?_
    refine hk' (.exit 0) _ ⟨_, LessS.refl _, ?_⟩
    unfold I_on Conf.cells at hk
    rw [hi] at hk
    exact hk
theorem on_3_1_0 (hi : c.ins = 3) (hx : (b - 1) % 3 = 1) (hp : (b - 1) % 2 = 0) (h0 : chk mayP c ⟨b, 1, q, f⟩ = 0) (hb : 1 ≤ b) (hb' : b ≤ 9223372036854775807) (hq : 0 ≤ q) (ok ap : Bool) (cs : List AV) (e0 e1 e2 e3 e4 : TypeId) (k : Ex → St → Bool)
    (hk : k (.exit 0) (I_on b b ok (leftL 3 1 7) (verL 3 0 7) 3 ap 7 (dL 3 0 0 7) (dL 3 0 1 7) (cellsL 3 1 7) cs 8 q f c.cells e0 e1 e2 e3 e4) = true) :
    AWq (cfg [S_alive, S_laid, S_what, S_next]) (.loop (loopAt (fcode Try.prog 3) [0])) (I_on b b ok 1 0 3 ap 0 0 0 (cellsL 3 1 0) cs 1 q f c.cells e0 e1 e2 e3 e4) (fun e s => k e s = true) := by
  refine AWq.loop (K := fun e s => k e s = true) (fun i : { i : Nat // i ≤ 7 } => I_on b b ok (leftL 3 1 i.1) (verL 3 0 i.1) 3 ap ((i.1 : Nat) : Int) (dL 3 0 0 i.1) (dL 3 0 1 i.1) (cellsL 3 1 i.1) cs (((i.1 + 1 : Nat)) : Int) q f c.cells e0 e1 e2 e3 e4) (fun i => 7 - i.1) ?_ ⟨0, Nat.zero_le _⟩
  have hA : IntKind.wrap .i64 (Int.tmod (IntKind.wrap .u64 (b - 1)) (IntKind.wrap .u64 c.2)) = 1 := by
    have e1 : c.2 = 3 := hi
    rw [e1, w64 (n := b - 1) (by omega) (by omega), w64 (n := 3) (by omega) (by omega), Int.tmod_eq_emod_of_nonneg (by omega), hx]; rfl
  rintro ⟨i, hle⟩
  have hz := run_ok h0 hb (n := ((i + 1 : Nat) : Int)) (by omega) (by omega)
  have hs := pS_ok (q := q) (f := f) hb hq ((i + 1 : Nat) : Int)
  refine AWq.runK hC4 [1, 4, 9, 10, 13, 14, 15, 16, 17] (n := 100) fun k' hk' => ?_
  refine (t_onb c b b ok (leftL 3 1 i) (verL 3 0 i) 3 ap ((i : Nat) : Int) (dL 3 0 0 i) (dL 3 0 1 i) (cellsL 3 1 i) cs ((i + 1 : Nat) : Int) q f e0 e1 e2 e3 e4 k').trans ?_
  have hi2 : c.2 = 3 := hi
  rw [hz, hs, hA, hi2]
  rcases (show i = 0 ∨ i = 1 ∨ i = 2 ∨ i = 3 ∨ i = 4 ∨ i = 5 ∨ i = 6 ∨ i = 7 by omega) with rfl | rfl | rfl | rfl | rfl | rfl | rfl | rfl
  · have hK : jobK c ⟨b, ((0 + 1 : Nat) : Int), q, f⟩ = 1 := by unfold jobK; rw [hi]; rfl
    have hN : jobN c ⟨b, ((0 + 1 : Nat) : Int), q, f⟩ = 2 := by
      unfold jobN
      rw [hi]
      show (b + ((0 + 1 : Nat) : Int) - 1) % 3 = 2
      omega
    have hE : nxErr 0 c ⟨b, ((0 + 1 : Nat) : Int), q, f⟩ = 0 := by unfold nxErr; rw [hi]; rfl
    simp only [zif0, hK, hN, hE]
    repeat' (first | refine condT (by decide +kernel) ?_ | refine condF (by decide +kernel) ?_ | refine andI (by decide +kernel) ?_)
    exact hk' .normal _ ⟨⟨0 + 1, by omega⟩, by show 7 - (0 + 1) < 7 - 0; omega, (Less.drop 5 (by show 5 ≤ 7; omega) rfl rfl (by kernel_rfl)).trans (Less.of_eq (by unfold I_on Conf.cells; rw [hi]; kernel_rfl))⟩
  · have hK : jobK c ⟨b, ((1 + 1 : Nat) : Int), q, f⟩ = 1 := by unfold jobK; rw [hi]; rfl
    have hN : jobN c ⟨b, ((1 + 1 : Nat) : Int), q, f⟩ = 0 := by
      unfold jobN
      rw [hi]
      show (b + ((1 + 1 : Nat) : Int) - 1) % 3 = 0
      omega
    have hE : nxErr 0 c ⟨b, ((1 + 1 : Nat) : Int), q, f⟩ = 0 := by unfold nxErr; rw [hi]; rfl
    simp only [zif0, hK, hN, hE]
    repeat' (first | refine condT (by decide +kernel) ?_ | refine condF (by decide +kernel) ?_ | refine andI (by decide +kernel) ?_)
    exact hk' .normal _ ⟨⟨1 + 1, by omega⟩, by show 7 - (1 + 1) < 7 - 1; omega, (Less.drop 5 (by show 5 ≤ 7; omega) rfl rfl (by kernel_rfl)).trans (Less.of_eq (by unfold I_on Conf.cells; rw [hi]; kernel_rfl))⟩
  · have hK : jobK c ⟨b, ((2 + 1 : Nat) : Int), q, f⟩ = 2 := by unfold jobK; rw [hi]; rfl
    have hN : jobN c ⟨b, ((2 + 1 : Nat) : Int), q, f⟩ = 2 := by
      unfold jobN
      rw [hi]
      show b % 3 = 2
      omega
    have hE : nxErr 0 c ⟨b, ((2 + 1 : Nat) : Int), q, f⟩ = 0 := by unfold nxErr; rw [hi]; rfl
    simp only [zif0, hK, hN, hE]
    repeat' (first | refine condT (by decide +kernel) ?_ | refine condF (by decide +kernel) ?_ | refine andI (by decide +kernel) ?_)
    exact hk' .normal _ ⟨⟨2 + 1, by omega⟩, by show 7 - (2 + 1) < 7 - 2; omega, (Less.drop 5 (by show 5 ≤ 7; omega) rfl rfl (by kernel_rfl)).trans (Less.of_eq (by unfold I_on Conf.cells; rw [hi]; kernel_rfl))⟩
  · have hK : jobK c ⟨b, ((3 + 1 : Nat) : Int), q, f⟩ = 3 := by unfold jobK; rw [hi]; rfl
    have hN : jobN c ⟨b, ((3 + 1 : Nat) : Int), q, f⟩ = 1 := by
      unfold jobN
      rw [hi]
      show b % 2 = 1
      omega
    have hE : nxErr 0 c ⟨b, ((3 + 1 : Nat) : Int), q, f⟩ = 0 := by unfold nxErr; rw [hi]; rfl
    simp only [zif0, hK, hN, hE]
    repeat' (first | refine condT (by decide +kernel) ?_ | refine condF (by decide +kernel) ?_ | refine andI (by decide +kernel) ?_)
    exact hk' .normal _ ⟨⟨3 + 1, by omega⟩, by show 7 - (3 + 1) < 7 - 3; omega, (Less.drop 5 (by show 5 ≤ 7; omega) rfl rfl (by kernel_rfl)).trans (Less.of_eq (by unfold I_on Conf.cells; rw [hi]; kernel_rfl))⟩
  · have hK : jobK c ⟨b, ((4 + 1 : Nat) : Int), q, f⟩ = 4 := by unfold jobK; rw [hi]; rfl
    have hN : jobN c ⟨b, ((4 + 1 : Nat) : Int), q, f⟩ = 1 := by
      unfold jobN
      rw [hi]
      show b % 2 = 1
      omega
    have hE : nxErr 0 c ⟨b, ((4 + 1 : Nat) : Int), q, f⟩ = 0 := by unfold nxErr; rw [hi]; rfl
    simp only [zif0, hK, hN, hE]
    repeat' (first | refine condT (by decide +kernel) ?_ | refine condF (by decide +kernel) ?_ | refine andI (by decide +kernel) ?_)
    exact hk' .normal _ ⟨⟨4 + 1, by omega⟩, by show 7 - (4 + 1) < 7 - 4; omega, (Less.drop 5 (by show 5 ≤ 7; omega) rfl rfl (by kernel_rfl)).trans (Less.of_eq (by unfold I_on Conf.cells; rw [hi]; kernel_rfl))⟩
  · have hK : jobK c ⟨b, ((5 + 1 : Nat) : Int), q, f⟩ = 3 := by unfold jobK; rw [hi]; rfl
    have hN : jobN c ⟨b, ((5 + 1 : Nat) : Int), q, f⟩ = 0 := by
      unfold jobN
      rw [hi]
      show (b + 1) % 2 = 0
      omega
    have hE : nxErr 0 c ⟨b, ((5 + 1 : Nat) : Int), q, f⟩ = 0 := by unfold nxErr; rw [hi]; rfl
    simp only [zif0, hK, hN, hE]
    repeat' (first | refine condT (by decide +kernel) ?_ | refine condF (by decide +kernel) ?_ | refine andI (by decide +kernel) ?_)
    exact hk' .normal _ ⟨⟨5 + 1, by omega⟩, by show 7 - (5 + 1) < 7 - 5; omega, (Less.drop 5 (by show 5 ≤ 7; omega) rfl rfl (by kernel_rfl)).trans (Less.of_eq (by unfold I_on Conf.cells; rw [hi]; kernel_rfl))⟩
  · have hK : jobK c ⟨b, ((6 + 1 : Nat) : Int), q, f⟩ = 1 := by unfold jobK; rw [hi]; rfl
    have hN : jobN c ⟨b, ((6 + 1 : Nat) : Int), q, f⟩ = 1 := by
      unfold jobN
      rw [hi]
      show (b - 1) % 3 = 1
      omega
    have hE : nxErr 0 c ⟨b, ((6 + 1 : Nat) : Int), q, f⟩ = 0 := by unfold nxErr; rw [hi]; rfl
    simp only [zif0, hK, hN, hE]
    repeat' (first | refine condT (by decide +kernel) ?_ | refine condF (by decide +kernel) ?_ | refine andI (by decide +kernel) ?_)
    exact hk' .normal _ ⟨⟨6 + 1, by omega⟩, by show 7 - (6 + 1) < 7 - 6; omega, (Less.drop 5 (by show 5 ≤ 7; omega) rfl rfl (by kernel_rfl)).trans (Less.of_eq (by unfold I_on Conf.cells; rw [hi]; kernel_rfl))⟩
  · refine condF (by decide +kernel) ?_
    refine hk' (.exit 0) _ ⟨_, LessS.refl _, ?_⟩
    unfold I_on Conf.cells at hk
    rw [hi] at hk
    exact hk
theorem on_3_1_1 (hi : c.ins = 3) (hx : (b - 1) % 3 = 1) (hp : (b - 1) % 2 = 1) (h0 : chk mayP c ⟨b, 1, q, f⟩ = 0) (hb : 1 ≤ b) (hb' : b ≤ 9223372036854775807) (hq : 0 ≤ q) (ok ap : Bool) (cs : List AV) (e0 e1 e2 e3 e4 : TypeId) (k : Ex → St → Bool)
    (hk : k (.exit 0) (I_on b b ok (leftL 3 1 7) (verL 3 1 7) 3 ap 7 (dL 3 1 0 7) (dL 3 1 1 7) (cellsL 3 1 7) cs 8 q f c.cells e0 e1 e2 e3 e4) = true) :
    AWq (cfg [S_alive, S_laid, S_what, S_next]) (.loop (loopAt (fcode Try.prog 3) [0])) (I_on b b ok 1 1 3 ap 0 0 0 (cellsL 3 1 0) cs 1 q f c.cells e0 e1 e2 e3 e4) (fun e s => k e s = true) := by
  refine AWq.loop (K := fun e s => k e s = true) (fun i : { i : Nat // i ≤ 7 } => I_on b b ok (leftL 3 1 i.1) (verL 3 1 i.1) 3 ap ((i.1 : Nat) : Int) (dL 3 1 0 i.1) (dL 3 1 1 i.1) (cellsL 3 1 i.1) cs (((i.1 + 1 : Nat)) : Int) q f c.cells e0 e1 e2 e3 e4) (fun i => 7 - i.1) ?_ ⟨0, Nat.zero_le _⟩
  have hA : IntKind.wrap .i64 (Int.tmod (IntKind.wrap .u64 (b - 1)) (IntKind.wrap .u64 c.2)) = 1 := by
    have e1 : c.2 = 3 := hi
    rw [e1, w64 (n := b - 1) (by omega) (by omega), w64 (n := 3) (by omega) (by omega), Int.tmod_eq_emod_of_nonneg (by omega), hx]; rfl
  rintro ⟨i, hle⟩
  have hz := run_ok h0 hb (n := ((i + 1 : Nat) : Int)) (by omega) (by omega)
  have hs := pS_ok (q := q) (f := f) hb hq ((i + 1 : Nat) : Int)
  refine AWq.runK hC4 [1, 4, 9, 10, 13, 14, 15, 16, 17] (n := 100) fun k' hk' => ?_
  refine (t_onb c b b ok (leftL 3 1 i) (verL 3 1 i) 3 ap ((i : Nat) : Int) (dL 3 1 0 i) (dL 3 1 1 i) (cellsL 3 1 i) cs ((i + 1 : Nat) : Int) q f e0 e1 e2 e3 e4 k').trans ?_
  have hi2 : c.2 = 3 := hi
  rw [hz, hs, hA, hi2]
  rcases (show i = 0 ∨ i = 1 ∨ i = 2 ∨ i = 3 ∨ i = 4 ∨ i = 5 ∨ i = 6 ∨ i = 7 by omega) with rfl | rfl | rfl | rfl | rfl | rfl | rfl | rfl
  · have hK : jobK c ⟨b, ((0 + 1 : Nat) : Int), q, f⟩ = 1 := by unfold jobK; rw [hi]; rfl
    have hN : jobN c ⟨b, ((0 + 1 : Nat) : Int), q, f⟩ = 2 := by
      unfold jobN
      rw [hi]
      show (b + ((0 + 1 : Nat) : Int) - 1) % 3 = 2
      omega
    have hE : nxErr 0 c ⟨b, ((0 + 1 : Nat) : Int), q, f⟩ = 0 := by unfold nxErr; rw [hi]; rfl
    simp only [zif0, hK, hN, hE]
    repeat' (first | refine condT (by decide +kernel) ?_ | refine condF (by decide +kernel) ?_ | refine andI (by decide +kernel) ?_)
    exact hk' .normal _ ⟨⟨0 + 1, by omega⟩, by show 7 - (0 + 1) < 7 - 0; omega, (Less.drop 5 (by show 5 ≤ 7; omega) rfl rfl (by kernel_rfl)).trans (Less.of_eq (by unfold I_on Conf.cells; rw [hi]; kernel_rfl))⟩
  · have hK : jobK c ⟨b, ((1 + 1 : Nat) : Int), q, f⟩ = 1 := by unfold jobK; rw [hi]; rfl
    have hN : jobN c ⟨b, ((1 + 1 : Nat) : Int), q, f⟩ = 0 := by
      unfold jobN
      rw [hi]
      show (b + ((1 + 1 : Nat) : Int) - 1) % 3 = 0
      omega
    have hE : nxErr 0 c ⟨b, ((1 + 1 : Nat) : Int), q, f⟩ = 0 := by unfold nxErr; rw [hi]; rfl
    simp only [zif0, hK, hN, hE]
    repeat' (first | refine condT (by decide +kernel) ?_ | refine condF (by decide +kernel) ?_ | refine andI (by decide +kernel) ?_)
    exact hk' .normal _ ⟨⟨1 + 1, by omega⟩, by show 7 - (1 + 1) < 7 - 1; omega, (Less.drop 5 (by show 5 ≤ 7; omega) rfl rfl (by kernel_rfl)).trans (Less.of_eq (by unfold I_on Conf.cells; rw [hi]; kernel_rfl))⟩
  · have hK : jobK c ⟨b, ((2 + 1 : Nat) : Int), q, f⟩ = 2 := by unfold jobK; rw [hi]; rfl
    have hN : jobN c ⟨b, ((2 + 1 : Nat) : Int), q, f⟩ = 2 := by
      unfold jobN
      rw [hi]
      show b % 3 = 2
      omega
    have hE : nxErr 0 c ⟨b, ((2 + 1 : Nat) : Int), q, f⟩ = 0 := by unfold nxErr; rw [hi]; rfl
    simp only [zif0, hK, hN, hE]
    repeat' (first | refine condT (by decide +kernel) ?_ | refine condF (by decide +kernel) ?_ | refine andI (by decide +kernel) ?_)
    exact hk' .normal _ ⟨⟨2 + 1, by omega⟩, by show 7 - (2 + 1) < 7 - 2; omega, (Less.drop 5 (by show 5 ≤ 7; omega) rfl rfl (by kernel_rfl)).trans (Less.of_eq (by unfold I_on Conf.cells; rw [hi]; kernel_rfl))⟩
  · have hK : jobK c ⟨b, ((3 + 1 : Nat) : Int), q, f⟩ = 3 := by unfold jobK; rw [hi]; rfl
    have hN : jobN c ⟨b, ((3 + 1 : Nat) : Int), q, f⟩ = 0 := by
      unfold jobN
      rw [hi]
      show b % 2 = 0
      omega
    have hE : nxErr 0 c ⟨b, ((3 + 1 : Nat) : Int), q, f⟩ = 0 := by unfold nxErr; rw [hi]; rfl
    simp only [zif0, hK, hN, hE]
    repeat' (first | refine condT (by decide +kernel) ?_ | refine condF (by decide +kernel) ?_ | refine andI (by decide +kernel) ?_)
    exact hk' .normal _ ⟨⟨3 + 1, by omega⟩, by show 7 - (3 + 1) < 7 - 3; omega, (Less.drop 5 (by show 5 ≤ 7; omega) rfl rfl (by kernel_rfl)).trans (Less.of_eq (by unfold I_on Conf.cells; rw [hi]; kernel_rfl))⟩
  · have hK : jobK c ⟨b, ((4 + 1 : Nat) : Int), q, f⟩ = 4 := by unfold jobK; rw [hi]; rfl
    have hN : jobN c ⟨b, ((4 + 1 : Nat) : Int), q, f⟩ = 0 := by
      unfold jobN
      rw [hi]
      show b % 2 = 0
      omega
    have hE : nxErr 0 c ⟨b, ((4 + 1 : Nat) : Int), q, f⟩ = 0 := by unfold nxErr; rw [hi]; rfl
    simp only [zif0, hK, hN, hE]
    repeat' (first | refine condT (by decide +kernel) ?_ | refine condF (by decide +kernel) ?_ | refine andI (by decide +kernel) ?_)
    exact hk' .normal _ ⟨⟨4 + 1, by omega⟩, by show 7 - (4 + 1) < 7 - 4; omega, (Less.drop 5 (by show 5 ≤ 7; omega) rfl rfl (by kernel_rfl)).trans (Less.of_eq (by unfold I_on Conf.cells; rw [hi]; kernel_rfl))⟩
  · have hK : jobK c ⟨b, ((5 + 1 : Nat) : Int), q, f⟩ = 3 := by unfold jobK; rw [hi]; rfl
    have hN : jobN c ⟨b, ((5 + 1 : Nat) : Int), q, f⟩ = 1 := by
      unfold jobN
      rw [hi]
      show (b + 1) % 2 = 1
      omega
    have hE : nxErr 0 c ⟨b, ((5 + 1 : Nat) : Int), q, f⟩ = 0 := by unfold nxErr; rw [hi]; rfl
    simp only [zif0, hK, hN, hE]
    repeat' (first | refine condT (by decide +kernel) ?_ | refine condF (by decide +kernel) ?_ | refine andI (by decide +kernel) ?_)
    exact hk' .normal _ ⟨⟨5 + 1, by omega⟩, by show 7 - (5 + 1) < 7 - 5; omega, (Less.drop 5 (by show 5 ≤ 7; omega) rfl rfl (by kernel_rfl)).trans (Less.of_eq (by unfold I_on Conf.cells; rw [hi]; kernel_rfl))⟩
  · have hK : jobK c ⟨b, ((6 + 1 : Nat) : Int), q, f⟩ = 1 := by unfold jobK; rw [hi]; rfl
    have hN : jobN c ⟨b, ((6 + 1 : Nat) : Int), q, f⟩ = 1 := by
      unfold jobN
      rw [hi]
      show (b - 1) % 3 = 1
      omega
    have hE : nxErr 0 c ⟨b, ((6 + 1 : Nat) : Int), q, f⟩ = 0 := by unfold nxErr; rw [hi]; rfl
    simp only [zif0, hK, hN, hE]
    repeat' (first | refine condT (by decide +kernel) ?_ | refine condF (by decide +kernel) ?_ | refine andI (by decide +kernel) ?_)
    exact hk' .normal _ ⟨⟨6 + 1, by omega⟩, by show 7 - (6 + 1) < 7 - 6; omega, (Less.drop 5 (by show 5 ≤ 7; omega) rfl rfl (by kernel_rfl)).trans (Less.of_eq (by unfold I_on Conf.cells; rw [hi]; kernel_rfl))⟩
  · refine condF (by decide +kernel) ?_
    refine hk' (.exit 0) _ ⟨_, LessS.refl _, ?_⟩
    unfold I_on Conf.cells at hk
    rw [hi] at hk
    exact hk
theorem on_3_2_0 (hi : c.ins = 3) (hx : (b - 1) % 3 = 2) (hp : (b - 1) % 2 = 0) (h0 : chk mayP c ⟨b, 1, q, f⟩ = 0) (hb : 1 ≤ b) (hb' : b ≤ 9223372036854775807) (hq : 0 ≤ q) (ok ap : Bool) (cs : List AV) (e0 e1 e2 e3 e4 : TypeId) (k : Ex → St → Bool)
    (hk : k (.exit 0) (I_on b b ok (leftL 3 2 7) (verL 3 0 7) 3 ap 7 (dL 3 0 0 7) (dL 3 0 1 7) (cellsL 3 2 7) cs 8 q f c.cells e0 e1 e2 e3 e4) = true) :
    AWq (cfg [S_alive, S_laid, S_what, S_next]) (.loop (loopAt (fcode Try.prog 3) [0])) (I_on b b ok 2 0 3 ap 0 0 0 (cellsL 3 2 0) cs 1 q f c.cells e0 e1 e2 e3 e4) (fun e s => k e s = true) := by
  refine AWq.loop (K := fun e s => k e s = true) (fun i : { i : Nat // i ≤ 7 } => I_on b b ok (leftL 3 2 i.1) (verL 3 0 i.1) 3 ap ((i.1 : Nat) : Int) (dL 3 0 0 i.1) (dL 3 0 1 i.1) (cellsL 3 2 i.1) cs (((i.1 + 1 : Nat)) : Int) q f c.cells e0 e1 e2 e3 e4) (fun i => 7 - i.1) ?_ ⟨0, Nat.zero_le _⟩
  have hA : IntKind.wrap .i64 (Int.tmod (IntKind.wrap .u64 (b - 1)) (IntKind.wrap .u64 c.2)) = 2 := by
    have e1 : c.2 = 3 := hi
    rw [e1, w64 (n := b - 1) (by omega) (by omega), w64 (n := 3) (by omega) (by omega), Int.tmod_eq_emod_of_nonneg (by omega), hx]; rfl
  rintro ⟨i, hle⟩
  have hz := run_ok h0 hb (n := ((i + 1 : Nat) : Int)) (by omega) (by omega)
  have hs := pS_ok (q := q) (f := f) hb hq ((i + 1 : Nat) : Int)
  refine AWq.runK hC4 [1, 4, 9, 10, 13, 14, 15, 16, 17] (n := 100) fun k' hk' => ?_
  refine (t_onb c b b ok (leftL 3 2 i) (verL 3 0 i) 3 ap ((i : Nat) : Int) (dL 3 0 0 i) (dL 3 0 1 i) (cellsL 3 2 i) cs ((i + 1 : Nat) : Int) q f e0 e1 e2 e3 e4 k').trans ?_
  have hi2 : c.2 = 3 := hi
  rw [hz, hs, hA, hi2]
  rcases (show i = 0 ∨ i = 1 ∨ i = 2 ∨ i = 3 ∨ i = 4 ∨ i = 5 ∨ i = 6 ∨ i = 7 by omega) with rfl | rfl | rfl | rfl | rfl | rfl | rfl | rfl
  · have hK : jobK c ⟨b, ((0 + 1 : Nat) : Int), q, f⟩ = 1 := by unfold jobK; rw [hi]; rfl
    have hN : jobN c ⟨b, ((0 + 1 : Nat) : Int), q, f⟩ = 0 := by
      unfold jobN
      rw [hi]
      show (b + ((0 + 1 : Nat) : Int) - 1) % 3 = 0
      omega
    have hE : nxErr 0 c ⟨b, ((0 + 1 : Nat) : Int), q, f⟩ = 0 := by unfold nxErr; rw [hi]; rfl
    simp only [zif0, hK, hN, hE]
    repeat' (first | refine condT (by decide +kernel) ?_ | refine condF (by decide +kernel) ?_ | refine andI (by decide +kernel) ?_)
    exact hk' .normal _ ⟨⟨0 + 1, by omega⟩, by show 7 - (0 + 1) < 7 - 0; omega, (Less.drop 5 (by show 5 ≤ 7; omega) rfl rfl (by kernel_rfl)).trans (Less.of_eq (by unfold I_on Conf.cells; rw [hi]; kernel_rfl))⟩
  · have hK : jobK c ⟨b, ((1 + 1 : Nat) : Int), q, f⟩ = 1 := by unfold jobK; rw [hi]; rfl
    have hN : jobN c ⟨b, ((1 + 1 : Nat) : Int), q, f⟩ = 1 := by
      unfold jobN
      rw [hi]
      show (b + ((1 + 1 : Nat) : Int) - 1) % 3 = 1
      omega
    have hE : nxErr 0 c ⟨b, ((1 + 1 : Nat) : Int), q, f⟩ = 0 := by unfold nxErr; rw [hi]; rfl
    simp only [zif0, hK, hN, hE]
    repeat' (first | refine condT (by decide +kernel) ?_ | refine condF (by decide +kernel) ?_ | refine andI (by decide +kernel) ?_)
    exact hk' .normal _ ⟨⟨1 + 1, by omega⟩, by show 7 - (1 + 1) < 7 - 1; omega, (Less.drop 5 (by show 5 ≤ 7; omega) rfl rfl (by kernel_rfl)).trans (Less.of_eq (by unfold I_on Conf.cells; rw [hi]; kernel_rfl))⟩
  · have hK : jobK c ⟨b, ((2 + 1 : Nat) : Int), q, f⟩ = 2 := by unfold jobK; rw [hi]; rfl
    have hN : jobN c ⟨b, ((2 + 1 : Nat) : Int), q, f⟩ = 0 := by
      unfold jobN
      rw [hi]
      show b % 3 = 0
      omega
    have hE : nxErr 0 c ⟨b, ((2 + 1 : Nat) : Int), q, f⟩ = 0 := by unfold nxErr; rw [hi]; rfl
    simp only [zif0, hK, hN, hE]
    repeat' (first | refine condT (by decide +kernel) ?_ | refine condF (by decide +kernel) ?_ | refine andI (by decide +kernel) ?_)
    exact hk' .normal _ ⟨⟨2 + 1, by omega⟩, by show 7 - (2 + 1) < 7 - 2; omega, (Less.drop 5 (by show 5 ≤ 7; omega) rfl rfl (by kernel_rfl)).trans (Less.of_eq (by unfold I_on Conf.cells; rw [hi]; kernel_rfl))⟩
  · have hK : jobK c ⟨b, ((3 + 1 : Nat) : Int), q, f⟩ = 3 := by unfold jobK; rw [hi]; rfl
    have hN : jobN c ⟨b, ((3 + 1 : Nat) : Int), q, f⟩ = 1 := by
      unfold jobN
      rw [hi]
      show b % 2 = 1
      omega
    have hE : nxErr 0 c ⟨b, ((3 + 1 : Nat) : Int), q, f⟩ = 0 := by unfold nxErr; rw [hi]; rfl
    simp only [zif0, hK, hN, hE]
    repeat' (first | refine condT (by decide +kernel) ?_ | refine condF (by decide +kernel) ?_ | refine andI (by decide +kernel) ?_)
    exact hk' .normal _ ⟨⟨3 + 1, by omega⟩, by show 7 - (3 + 1) < 7 - 3; omega, (Less.drop 5 (by show 5 ≤ 7; omega) rfl rfl (by kernel_rfl)).trans (Less.of_eq (by unfold I_on Conf.cells; rw [hi]; kernel_rfl))⟩
  · have hK : jobK c ⟨b, ((4 + 1 : Nat) : Int), q, f⟩ = 4 := by unfold jobK; rw [hi]; rfl
    have hN : jobN c ⟨b, ((4 + 1 : Nat) : Int), q, f⟩ = 1 := by
      unfold jobN
      rw [hi]
      show b % 2 = 1
      omega
    have hE : nxErr 0 c ⟨b, ((4 + 1 : Nat) : Int), q, f⟩ = 0 := by unfold nxErr; rw [hi]; rfl
    simp only [zif0, hK, hN, hE]
    repeat' (first | refine condT (by decide +kernel) ?_ | refine condF (by decide +kernel) ?_ | refine andI (by decide +kernel) ?_)
    exact hk' .normal _ ⟨⟨4 + 1, by omega⟩, by show 7 - (4 + 1) < 7 - 4; omega, (Less.drop 5 (by show 5 ≤ 7; omega) rfl rfl (by kernel_rfl)).trans (Less.of_eq (by unfold I_on Conf.cells; rw [hi]; kernel_rfl))⟩
  · have hK : jobK c ⟨b, ((5 + 1 : Nat) : Int), q, f⟩ = 3 := by unfold jobK; rw [hi]; rfl
    have hN : jobN c ⟨b, ((5 + 1 : Nat) : Int), q, f⟩ = 0 := by
      unfold jobN
      rw [hi]
      show (b + 1) % 2 = 0
      omega
    have hE : nxErr 0 c ⟨b, ((5 + 1 : Nat) : Int), q, f⟩ = 0 := by unfold nxErr; rw [hi]; rfl
    simp only [zif0, hK, hN, hE]
    repeat' (first | refine condT (by decide +kernel) ?_ | refine condF (by decide +kernel) ?_ | refine andI (by decide +kernel) ?_)
    exact hk' .normal _ ⟨⟨5 + 1, by omega⟩, by show 7 - (5 + 1) < 7 - 5; omega, (Less.drop 5 (by show 5 ≤ 7; omega) rfl rfl (by kernel_rfl)).trans (Less.of_eq (by unfold I_on Conf.cells; rw [hi]; kernel_rfl))⟩
  · have hK : jobK c ⟨b, ((6 + 1 : Nat) : Int), q, f⟩ = 1 := by unfold jobK; rw [hi]; rfl
    have hN : jobN c ⟨b, ((6 + 1 : Nat) : Int), q, f⟩ = 2 := by
      unfold jobN
      rw [hi]
      show (b - 1) % 3 = 2
      omega
    have hE : nxErr 0 c ⟨b, ((6 + 1 : Nat) : Int), q, f⟩ = 0 := by unfold nxErr; rw [hi]; rfl
    simp only [zif0, hK, hN, hE]
    repeat' (first | refine condT (by decide +kernel) ?_ | refine condF (by decide +kernel) ?_ | refine andI (by decide +kernel) ?_)
    exact hk' .normal _ ⟨⟨6 + 1, by omega⟩, by show 7 - (6 + 1) < 7 - 6; omega, (Less.drop 5 (by show 5 ≤ 7; omega) rfl rfl (by kernel_rfl)).trans (Less.of_eq (by unfold I_on Conf.cells; rw [hi]; kernel_rfl))⟩
  · refine condF (by decide +kernel) ?_
    refine hk' (.exit 0) _ ⟨_, LessS.refl _, ?_⟩
    unfold I_on Conf.cells at hk
    rw [hi] at hk
    exact hk
theorem on_3_2_1 (hi : c.ins = 3) (hx : (b - 1) % 3 = 2) (hp : (b - 1) % 2 = 1) (h0 : chk mayP c ⟨b, 1, q, f⟩ = 0) (hb : 1 ≤ b) (hb' : b ≤ 9223372036854775807) (hq : 0 ≤ q) (ok ap : Bool) (cs : List AV) (e0 e1 e2 e3 e4 : TypeId) (k : Ex → St → Bool)
    (hk : k (.exit 0) (I_on b b ok (leftL 3 2 7) (verL 3 1 7) 3 ap 7 (dL 3 1 0 7) (dL 3 1 1 7) (cellsL 3 2 7) cs 8 q f c.cells e0 e1 e2 e3 e4) = true) :
    AWq (cfg [S_alive, S_laid, S_what, S_next]) (.loop (loopAt (fcode Try.prog 3) [0])) (I_on b b ok 2 1 3 ap 0 0 0 (cellsL 3 2 0) cs 1 q f c.cells e0 e1 e2 e3 e4) (fun e s => k e s = true) := by
  refine AWq.loop (K := fun e s => k e s = true) (fun i : { i : Nat // i ≤ 7 } => I_on b b ok (leftL 3 2 i.1) (verL 3 1 i.1) 3 ap ((i.1 : Nat) : Int) (dL 3 1 0 i.1) (dL 3 1 1 i.1) (cellsL 3 2 i.1) cs (((i.1 + 1 : Nat)) : Int) q f c.cells e0 e1 e2 e3 e4) (fun i => 7 - i.1) ?_ ⟨0, Nat.zero_le _⟩
  have hA : IntKind.wrap .i64 (Int.tmod (IntKind.wrap .u64 (b - 1)) (IntKind.wrap .u64 c.2)) = 2 := by
    have e1 : c.2 = 3 := hi
    rw [e1, w64 (n := b - 1) (by omega) (by omega), w64 (n := 3) (by omega) (by omega), Int.tmod_eq_emod_of_nonneg (by omega), hx]; rfl
  rintro ⟨i, hle⟩
  have hz := run_ok h0 hb (n := ((i + 1 : Nat) : Int)) (by omega) (by omega)
  have hs := pS_ok (q := q) (f := f) hb hq ((i + 1 : Nat) : Int)
  refine AWq.runK hC4 [1, 4, 9, 10, 13, 14, 15, 16, 17] (n := 100) fun k' hk' => ?_
  refine (t_onb c b b ok (leftL 3 2 i) (verL 3 1 i) 3 ap ((i : Nat) : Int) (dL 3 1 0 i) (dL 3 1 1 i) (cellsL 3 2 i) cs ((i + 1 : Nat) : Int) q f e0 e1 e2 e3 e4 k').trans ?_
  have hi2 : c.2 = 3 := hi
  rw [hz, hs, hA, hi2]
  rcases (show i = 0 ∨ i = 1 ∨ i = 2 ∨ i = 3 ∨ i = 4 ∨ i = 5 ∨ i = 6 ∨ i = 7 by omega) with rfl | rfl | rfl | rfl | rfl | rfl | rfl | rfl
  · have hK : jobK c ⟨b, ((0 + 1 : Nat) : Int), q, f⟩ = 1 := by unfold jobK; rw [hi]; rfl
    have hN : jobN c ⟨b, ((0 + 1 : Nat) : Int), q, f⟩ = 0 := by
      unfold jobN
      rw [hi]
      show (b + ((0 + 1 : Nat) : Int) - 1) % 3 = 0
      omega
    have hE : nxErr 0 c ⟨b, ((0 + 1 : Nat) : Int), q, f⟩ = 0 := by unfold nxErr; rw [hi]; rfl
    simp only [zif0, hK, hN, hE]
    repeat' (first | refine condT (by decide +kernel) ?_ | refine condF (by decide +kernel) ?_ | refine andI (by decide +kernel) ?_)
    exact hk' .normal _ ⟨⟨0 + 1, by omega⟩, by show 7 - (0 + 1) < 7 - 0; omega, (Less.drop 5 (by show 5 ≤ 7; omega) rfl rfl (by kernel_rfl)).trans (Less.of_eq (by unfold I_on Conf.cells; rw [hi]; kernel_rfl))⟩
  · have hK : jobK c ⟨b, ((1 + 1 : Nat) : Int), q, f⟩ = 1 := by unfold jobK; rw [hi]; rfl
    have hN : jobN c ⟨b, ((1 + 1 : Nat) : Int), q, f⟩ = 1 := by
      unfold jobN
      rw [hi]
      show (b + ((1 + 1 : Nat) : Int) - 1) % 3 = 1
      omega
    have hE : nxErr 0 c ⟨b, ((1 + 1 : Nat) : Int), q, f⟩ = 0 := by unfold nxErr; rw [hi]; rfl
    simp only [zif0, hK, hN, hE]
    repeat' (first | refine condT (by decide +kernel) ?_ | refine condF (by decide +kernel) ?_ | refine andI (by decide +kernel) ?_)
    exact hk' .normal _ ⟨⟨1 + 1, by omega⟩, by show 7 - (1 + 1) < 7 - 1; omega, (Less.drop 5 (by show 5 ≤ 7; omega) rfl rfl (by kernel_rfl)).trans (Less.of_eq (by unfold I_on Conf.cells; rw [hi]; kernel_rfl))⟩
  · have hK : jobK c ⟨b, ((2 + 1 : Nat) : Int), q, f⟩ = 2 := by unfold jobK; rw [hi]; rfl
    have hN : jobN c ⟨b, ((2 + 1 : Nat) : Int), q, f⟩ = 0 := by
      unfold jobN
      rw [hi]
      show b % 3 = 0
      omega
    have hE : nxErr 0 c ⟨b, ((2 + 1 : Nat) : Int), q, f⟩ = 0 := by unfold nxErr; rw [hi]; rfl
    simp only [zif0, hK, hN, hE]
    repeat' (first | refine condT (by decide +kernel) ?_ | refine condF (by decide +kernel) ?_ | refine andI (by decide +kernel) ?_)
    exact hk' .normal _ ⟨⟨2 + 1, by omega⟩, by show 7 - (2 + 1) < 7 - 2; omega, (Less.drop 5 (by show 5 ≤ 7; omega) rfl rfl (by kernel_rfl)).trans (Less.of_eq (by unfold I_on Conf.cells; rw [hi]; kernel_rfl))⟩
  · have hK : jobK c ⟨b, ((3 + 1 : Nat) : Int), q, f⟩ = 3 := by unfold jobK; rw [hi]; rfl
    have hN : jobN c ⟨b, ((3 + 1 : Nat) : Int), q, f⟩ = 0 := by
      unfold jobN
      rw [hi]
      show b % 2 = 0
      omega
    have hE : nxErr 0 c ⟨b, ((3 + 1 : Nat) : Int), q, f⟩ = 0 := by unfold nxErr; rw [hi]; rfl
    simp only [zif0, hK, hN, hE]
    repeat' (first | refine condT (by decide +kernel) ?_ | refine condF (by decide +kernel) ?_ | refine andI (by decide +kernel) ?_)
    exact hk' .normal _ ⟨⟨3 + 1, by omega⟩, by show 7 - (3 + 1) < 7 - 3; omega, (Less.drop 5 (by show 5 ≤ 7; omega) rfl rfl (by kernel_rfl)).trans (Less.of_eq (by unfold I_on Conf.cells; rw [hi]; kernel_rfl))⟩
  · have hK : jobK c ⟨b, ((4 + 1 : Nat) : Int), q, f⟩ = 4 := by unfold jobK; rw [hi]; rfl
    have hN : jobN c ⟨b, ((4 + 1 : Nat) : Int), q, f⟩ = 0 := by
      unfold jobN
      rw [hi]
      show b % 2 = 0
      omega
    have hE : nxErr 0 c ⟨b, ((4 + 1 : Nat) : Int), q, f⟩ = 0 := by unfold nxErr; rw [hi]; rfl
    simp only [zif0, hK, hN, hE]
    repeat' (first | refine condT (by decide +kernel) ?_ | refine condF (by decide +kernel) ?_ | refine andI (by decide +kernel) ?_)
    exact hk' .normal _ ⟨⟨4 + 1, by omega⟩, by show 7 - (4 + 1) < 7 - 4; omega, (Less.drop 5 (by show 5 ≤ 7; omega) rfl rfl (by kernel_rfl)).trans (Less.of_eq (by unfold I_on Conf.cells; rw [hi]; kernel_rfl))⟩
  · have hK : jobK c ⟨b, ((5 + 1 : Nat) : Int), q, f⟩ = 3 := by unfold jobK; rw [hi]; rfl
    have hN : jobN c ⟨b, ((5 + 1 : Nat) : Int), q, f⟩ = 1 := by
      unfold jobN
      rw [hi]
      show (b + 1) % 2 = 1
      omega
    have hE : nxErr 0 c ⟨b, ((5 + 1 : Nat) : Int), q, f⟩ = 0 := by unfold nxErr; rw [hi]; rfl
    simp only [zif0, hK, hN, hE]
    repeat' (first | refine condT (by decide +kernel) ?_ | refine condF (by decide +kernel) ?_ | refine andI (by decide +kernel) ?_)
    exact hk' .normal _ ⟨⟨5 + 1, by omega⟩, by show 7 - (5 + 1) < 7 - 5; omega, (Less.drop 5 (by show 5 ≤ 7; omega) rfl rfl (by kernel_rfl)).trans (Less.of_eq (by unfold I_on Conf.cells; rw [hi]; kernel_rfl))⟩
  · have hK : jobK c ⟨b, ((6 + 1 : Nat) : Int), q, f⟩ = 1 := by unfold jobK; rw [hi]; rfl
    have hN : jobN c ⟨b, ((6 + 1 : Nat) : Int), q, f⟩ = 2 := by
      unfold jobN
      rw [hi]
      show (b - 1) % 3 = 2
      omega
    have hE : nxErr 0 c ⟨b, ((6 + 1 : Nat) : Int), q, f⟩ = 0 := by unfold nxErr; rw [hi]; rfl
    simp only [zif0, hK, hN, hE]
    repeat' (first | refine condT (by decide +kernel) ?_ | refine condF (by decide +kernel) ?_ | refine andI (by decide +kernel) ?_)
    exact hk' .normal _ ⟨⟨6 + 1, by omega⟩, by show 7 - (6 + 1) < 7 - 6; omega, (Less.drop 5 (by show 5 ≤ 7; omega) rfl rfl (by kernel_rfl)).trans (Less.of_eq (by unfold I_on Conf.cells; rw [hi]; kernel_rfl))⟩
  · refine condF (by decide +kernel) ?_
    refine hk' (.exit 0) _ ⟨_, LessS.refl _, ?_⟩
    unfold I_on Conf.cells at hk
    rw [hi] at hk
    exact hk
theorem on_4_0_0 (hi : c.ins = 4) (hx : (b - 1) % 4 = 0) (hp : (b - 1) % 2 = 0) (h0 : chk mayP c ⟨b, 1, q, f⟩ = 0) (hb : 1 ≤ b) (hb' : b ≤ 9223372036854775807) (hq : 0 ≤ q) (ok ap : Bool) (cs : List AV) (e0 e1 e2 e3 e4 : TypeId) (k : Ex → St → Bool)
    (hk : k (.exit 0) (I_on b b ok (leftL 4 0 8) (verL 4 0 8) 4 ap 8 (dL 4 0 0 8) (dL 4 0 1 8) (cellsL 4 0 8) cs 9 q f c.cells e0 e1 e2 e3 e4) = true) :
    AWq (cfg [S_alive, S_laid, S_what, S_next]) (.loop (loopAt (fcode Try.prog 3) [0])) (I_on b b ok 0 0 4 ap 0 0 0 (cellsL 4 0 0) cs 1 q f c.cells e0 e1 e2 e3 e4) (fun e s => k e s = true) := by
  refine AWq.loop (K := fun e s => k e s = true) (fun i : { i : Nat // i ≤ 8 } => I_on b b ok (leftL 4 0 i.1) (verL 4 0 i.1) 4 ap ((i.1 : Nat) : Int) (dL 4 0 0 i.1) (dL 4 0 1 i.1) (cellsL 4 0 i.1) cs (((i.1 + 1 : Nat)) : Int) q f c.cells e0 e1 e2 e3 e4) (fun i => 8 - i.1) ?_ ⟨0, Nat.zero_le _⟩
  have hA : IntKind.wrap .i64 (Int.tmod (IntKind.wrap .u64 (b - 1)) (IntKind.wrap .u64 c.2)) = 0 := by
    have e1 : c.2 = 4 := hi
    rw [e1, w64 (n := b - 1) (by omega) (by omega), w64 (n := 4) (by omega) (by omega), Int.tmod_eq_emod_of_nonneg (by omega), hx]; rfl
  rintro ⟨i, hle⟩
  have hz := run_ok h0 hb (n := ((i + 1 : Nat) : Int)) (by omega) (by omega)
  have hs := pS_ok (q := q) (f := f) hb hq ((i + 1 : Nat) : Int)
  refine AWq.runK hC4 [1, 4, 9, 10, 13, 14, 15, 16, 17] (n := 100) fun k' hk' => ?_
  refine (t_onb c b b ok (leftL 4 0 i) (verL 4 0 i) 4 ap ((i : Nat) : Int) (dL 4 0 0 i) (dL 4 0 1 i) (cellsL 4 0 i) cs ((i + 1 : Nat) : Int) q f e0 e1 e2 e3 e4 k').trans ?_
  have hi2 : c.2 = 4 := hi
  rw [hz, hs, hA, hi2]
  rcases (show i = 0 ∨ i = 1 ∨ i = 2 ∨ i = 3 ∨ i = 4 ∨ i = 5 ∨ i = 6 ∨ i = 7 ∨ i = 8 by omega) with rfl | rfl | rfl | rfl | rfl | rfl | rfl | rfl | rfl
  · have hK : jobK c ⟨b, ((0 + 1 : Nat) : Int), q, f⟩ = 1 := by unfold jobK; rw [hi]; rfl
    have hN : jobN c ⟨b, ((0 + 1 : Nat) : Int), q, f⟩ = 1 := by
      unfold jobN
      rw [hi]
      show (b + ((0 + 1 : Nat) : Int) - 1) % 4 = 1
      omega
    have hE : nxErr 0 c ⟨b, ((0 + 1 : Nat) : Int), q, f⟩ = 0 := by unfold nxErr; rw [hi]; rfl
    simp only [zif0, hK, hN, hE]
    repeat' (first | refine condT (by decide +kernel) ?_ | refine condF (by decide +kernel) ?_ | refine andI (by decide +kernel) ?_)
    exact hk' .normal _ ⟨⟨0 + 1, by omega⟩, by show 8 - (0 + 1) < 8 - 0; omega, (Less.drop 5 (by show 5 ≤ 7; omega) rfl rfl (by kernel_rfl)).trans (Less.of_eq (by unfold I_on Conf.cells; rw [hi]; kernel_rfl))⟩
  · have hK : jobK c ⟨b, ((1 + 1 : Nat) : Int), q, f⟩ = 1 := by unfold jobK; rw [hi]; rfl
    have hN : jobN c ⟨b, ((1 + 1 : Nat) : Int), q, f⟩ = 2 := by
      unfold jobN
      rw [hi]
      show (b + ((1 + 1 : Nat) : Int) - 1) % 4 = 2
      omega
    have hE : nxErr 0 c ⟨b, ((1 + 1 : Nat) : Int), q, f⟩ = 0 := by unfold nxErr; rw [hi]; rfl
    simp only [zif0, hK, hN, hE]
    repeat' (first | refine condT (by decide +kernel) ?_ | refine condF (by decide +kernel) ?_ | refine andI (by decide +kernel) ?_)
    exact hk' .normal _ ⟨⟨1 + 1, by omega⟩, by show 8 - (1 + 1) < 8 - 1; omega, (Less.drop 5 (by show 5 ≤ 7; omega) rfl rfl (by kernel_rfl)).trans (Less.of_eq (by unfold I_on Conf.cells; rw [hi]; kernel_rfl))⟩
  · have hK : jobK c ⟨b, ((2 + 1 : Nat) : Int), q, f⟩ = 1 := by unfold jobK; rw [hi]; rfl
    have hN : jobN c ⟨b, ((2 + 1 : Nat) : Int), q, f⟩ = 3 := by
      unfold jobN
      rw [hi]
      show (b + ((2 + 1 : Nat) : Int) - 1) % 4 = 3
      omega
    have hE : nxErr 0 c ⟨b, ((2 + 1 : Nat) : Int), q, f⟩ = 0 := by unfold nxErr; rw [hi]; rfl
    simp only [zif0, hK, hN, hE]
    repeat' (first | refine condT (by decide +kernel) ?_ | refine condF (by decide +kernel) ?_ | refine andI (by decide +kernel) ?_)
    exact hk' .normal _ ⟨⟨2 + 1, by omega⟩, by show 8 - (2 + 1) < 8 - 2; omega, (Less.drop 5 (by show 5 ≤ 7; omega) rfl rfl (by kernel_rfl)).trans (Less.of_eq (by unfold I_on Conf.cells; rw [hi]; kernel_rfl))⟩
  · have hK : jobK c ⟨b, ((3 + 1 : Nat) : Int), q, f⟩ = 2 := by unfold jobK; rw [hi]; rfl
    have hN : jobN c ⟨b, ((3 + 1 : Nat) : Int), q, f⟩ = 1 := by
      unfold jobN
      rw [hi]
      show b % 4 = 1
      omega
    have hE : nxErr 0 c ⟨b, ((3 + 1 : Nat) : Int), q, f⟩ = 0 := by unfold nxErr; rw [hi]; rfl
    simp only [zif0, hK, hN, hE]
    repeat' (first | refine condT (by decide +kernel) ?_ | refine condF (by decide +kernel) ?_ | refine andI (by decide +kernel) ?_)
    exact hk' .normal _ ⟨⟨3 + 1, by omega⟩, by show 8 - (3 + 1) < 8 - 3; omega, (Less.drop 5 (by show 5 ≤ 7; omega) rfl rfl (by kernel_rfl)).trans (Less.of_eq (by unfold I_on Conf.cells; rw [hi]; kernel_rfl))⟩
  · have hK : jobK c ⟨b, ((4 + 1 : Nat) : Int), q, f⟩ = 3 := by unfold jobK; rw [hi]; rfl
    have hN : jobN c ⟨b, ((4 + 1 : Nat) : Int), q, f⟩ = 1 := by
      unfold jobN
      rw [hi]
      show b % 2 = 1
      omega
    have hE : nxErr 0 c ⟨b, ((4 + 1 : Nat) : Int), q, f⟩ = 0 := by unfold nxErr; rw [hi]; rfl
    simp only [zif0, hK, hN, hE]
    repeat' (first | refine condT (by decide +kernel) ?_ | refine condF (by decide +kernel) ?_ | refine andI (by decide +kernel) ?_)
    exact hk' .normal _ ⟨⟨4 + 1, by omega⟩, by show 8 - (4 + 1) < 8 - 4; omega, (Less.drop 5 (by show 5 ≤ 7; omega) rfl rfl (by kernel_rfl)).trans (Less.of_eq (by unfold I_on Conf.cells; rw [hi]; kernel_rfl))⟩
  · have hK : jobK c ⟨b, ((5 + 1 : Nat) : Int), q, f⟩ = 4 := by unfold jobK; rw [hi]; rfl
    have hN : jobN c ⟨b, ((5 + 1 : Nat) : Int), q, f⟩ = 1 := by
      unfold jobN
      rw [hi]
      show b % 2 = 1
      omega
    have hE : nxErr 0 c ⟨b, ((5 + 1 : Nat) : Int), q, f⟩ = 0 := by unfold nxErr; rw [hi]; rfl
    simp only [zif0, hK, hN, hE]
    repeat' (first | refine condT (by decide +kernel) ?_ | refine condF (by decide +kernel) ?_ | refine andI (by decide +kernel) ?_)
    exact hk' .normal _ ⟨⟨5 + 1, by omega⟩, by show 8 - (5 + 1) < 8 - 5; omega, (Less.drop 5 (by show 5 ≤ 7; omega) rfl rfl (by kernel_rfl)).trans (Less.of_eq (by unfold I_on Conf.cells; rw [hi]; kernel_rfl))⟩
  · have hK : jobK c ⟨b, ((6 + 1 : Nat) : Int), q, f⟩ = 3 := by unfold jobK; rw [hi]; rfl
    have hN : jobN c ⟨b, ((6 + 1 : Nat) : Int), q, f⟩ = 0 := by
      unfold jobN
      rw [hi]
      show (b + 1) % 2 = 0
      omega
    have hE : nxErr 0 c ⟨b, ((6 + 1 : Nat) : Int), q, f⟩ = 0 := by unfold nxErr; rw [hi]; rfl
    simp only [zif0, hK, hN, hE]
    repeat' (first | refine condT (by decide +kernel) ?_ | refine condF (by decide +kernel) ?_ | refine andI (by decide +kernel) ?_)
    exact hk' .normal _ ⟨⟨6 + 1, by omega⟩, by show 8 - (6 + 1) < 8 - 6; omega, (Less.drop 5 (by show 5 ≤ 7; omega) rfl rfl (by kernel_rfl)).trans (Less.of_eq (by unfold I_on Conf.cells; rw [hi]; kernel_rfl))⟩
  · have hK : jobK c ⟨b, ((7 + 1 : Nat) : Int), q, f⟩ = 1 := by unfold jobK; rw [hi]; rfl
    have hN : jobN c ⟨b, ((7 + 1 : Nat) : Int), q, f⟩ = 0 := by
      unfold jobN
      rw [hi]
      show (b - 1) % 4 = 0
      omega
    have hE : nxErr 0 c ⟨b, ((7 + 1 : Nat) : Int), q, f⟩ = 0 := by unfold nxErr; rw [hi]; rfl
    simp only [zif0, hK, hN, hE]
    repeat' (first | refine condT (by decide +kernel) ?_ | refine condF (by decide +kernel) ?_ | refine andI (by decide +kernel) ?_)
    exact hk' .normal _ ⟨⟨7 + 1, by omega⟩, by show 8 - (7 + 1) < 8 - 7; omega, (Less.drop 5 (by show 5 ≤ 7; omega) rfl rfl (by kernel_rfl)).trans (Less.of_eq (by unfold I_on Conf.cells; rw [hi]; kernel_rfl))⟩
  · refine condF (by decide +kernel) ?_
    refine hk' (.exit 0) _ ⟨_, LessS.refl _, ?_⟩
    unfold I_on Conf.cells at hk
    rw [hi] at hk
    exact hk
theorem on_4_1_1 (hi : c.ins = 4) (hx : (b - 1) % 4 = 1) (hp : (b - 1) % 2 = 1) (h0 : chk mayP c ⟨b, 1, q, f⟩ = 0) (hb : 1 ≤ b) (hb' : b ≤ 9223372036854775807) (hq : 0 ≤ q) (ok ap : Bool) (cs : List AV) (e0 e1 e2 e3 e4 : TypeId) (k : Ex → St → Bool)
    (hk : k (.exit 0) (I_on b b ok (leftL 4 1 8) (verL 4 1 8) 4 ap 8 (dL 4 1 0 8) (dL 4 1 1 8) (cellsL 4 1 8) cs 9 q f c.cells e0 e1 e2 e3 e4) = true) :
    AWq (cfg [S_alive, S_laid, S_what, S_next]) (.loop (loopAt (fcode Try.prog 3) [0])) (I_on b b ok 1 1 4 ap 0 0 0 (cellsL 4 1 0) cs 1 q f c.cells e0 e1 e2 e3 e4) (fun e s => k e s = true) := by
  refine AWq.loop (K := fun e s => k e s = true) (fun i : { i : Nat // i ≤ 8 } => I_on b b ok (leftL 4 1 i.1) (verL 4 1 i.1) 4 ap ((i.1 : Nat) : Int) (dL 4 1 0 i.1) (dL 4 1 1 i.1) (cellsL 4 1 i.1) cs (((i.1 + 1 : Nat)) : Int) q f c.cells e0 e1 e2 e3 e4) (fun i => 8 - i.1) ?_ ⟨0, Nat.zero_le _⟩
  have hA : IntKind.wrap .i64 (Int.tmod (IntKind.wrap .u64 (b - 1)) (IntKind.wrap .u64 c.2)) = 1 := by
    have e1 : c.2 = 4 := hi
    rw [e1, w64 (n := b - 1) (by omega) (by omega), w64 (n := 4) (by omega) (by omega), Int.tmod_eq_emod_of_nonneg (by omega), hx]; rfl
  rintro ⟨i, hle⟩
  have hz := run_ok h0 hb (n := ((i + 1 : Nat) : Int)) (by omega) (by omega)
  have hs := pS_ok (q := q) (f := f) hb hq ((i + 1 : Nat) : Int)
  refine AWq.runK hC4 [1, 4, 9, 10, 13, 14, 15, 16, 17] (n := 100) fun k' hk' => ?_
  refine (t_onb c b b ok (leftL 4 1 i) (verL 4 1 i) 4 ap ((i : Nat) : Int) (dL 4 1 0 i) (dL 4 1 1 i) (cellsL 4 1 i) cs ((i + 1 : Nat) : Int) q f e0 e1 e2 e3 e4 k').trans ?_
  have hi2 : c.2 = 4 := hi
  rw [hz, hs, hA, hi2]
  rcases (show i = 0 ∨ i = 1 ∨ i = 2 ∨ i = 3 ∨ i = 4 ∨ i = 5 ∨ i = 6 ∨ i = 7 ∨ i = 8 by omega) with rfl | rfl | rfl | rfl | rfl | rfl | rfl | rfl | rfl
  · have hK : jobK c ⟨b, ((0 + 1 : Nat) : Int), q, f⟩ = 1 := by unfold jobK; rw [hi]; rfl
    have hN : jobN c ⟨b, ((0 + 1 : Nat) : Int), q, f⟩ = 2 := by
      unfold jobN
      rw [hi]
      show (b + ((0 + 1 : Nat) : Int) - 1) % 4 = 2
      omega
    have hE : nxErr 0 c ⟨b, ((0 + 1 : Nat) : Int), q, f⟩ = 0 := by unfold nxErr; rw [hi]; rfl
    simp only [zif0, hK, hN, hE]
    repeat' (first | refine condT (by decide +kernel) ?_ | refine condF (by decide +kernel) ?_ | refine andI (by decide +kernel) ?_)
    exact hk' .normal _ ⟨⟨0 + 1, by omega⟩, by show 8 - (0 + 1) < 8 - 0; omega, (Less.drop 5 (by show 5 ≤ 7; omega) rfl rfl (by kernel_rfl)).trans (Less.of_eq (by unfold I_on Conf.cells; rw [hi]; kernel_rfl))⟩
  · have hK : jobK c ⟨b, ((1 + 1 : Nat) : Int), q, f⟩ = 1 := by unfold jobK; rw [hi]; rfl
    have hN : jobN c ⟨b, ((1 + 1 : Nat) : Int), q, f⟩ = 3 := by
      unfold jobN
      rw [hi]
      show (b + ((1 + 1 : Nat) : Int) - 1) % 4 = 3
      omega
    have hE : nxErr 0 c ⟨b, ((1 + 1 : Nat) : Int), q, f⟩ = 0 := by unfold nxErr; rw [hi]; rfl
    simp only [zif0, hK, hN, hE]
    repeat' (first | refine condT (by decide +kernel) ?_ | refine condF (by decide +kernel) ?_ | refine andI (by decide +kernel) ?_)
    exact hk' .normal _ ⟨⟨1 + 1, by omega⟩, by show 8 - (1 + 1) < 8 - 1; omega, (Less.drop 5 (by show 5 ≤ 7; omega) rfl rfl (by kernel_rfl)).trans (Less.of_eq (by unfold I_on Conf.cells; rw [hi]; kernel_rfl))⟩
  · have hK : jobK c ⟨b, ((2 + 1 : Nat) : Int), q, f⟩ = 1 := by unfold jobK; rw [hi]; rfl
    have hN : jobN c ⟨b, ((2 + 1 : Nat) : Int), q, f⟩ = 0 := by
      unfold jobN
      rw [hi]
      show (b + ((2 + 1 : Nat) : Int) - 1) % 4 = 0
      omega
    have hE : nxErr 0 c ⟨b, ((2 + 1 : Nat) : Int), q, f⟩ = 0 := by unfold nxErr; rw [hi]; rfl
    simp only [zif0, hK, hN, hE]
    repeat' (first | refine condT (by decide +kernel) ?_ | refine condF (by decide +kernel) ?_ | refine andI (by decide +kernel) ?_)
    exact hk' .normal _ ⟨⟨2 + 1, by omega⟩, by show 8 - (2 + 1) < 8 - 2; omega, (Less.drop 5 (by show 5 ≤ 7; omega) rfl rfl (by kernel_rfl)).trans (Less.of_eq (by unfold I_on Conf.cells; rw [hi]; kernel_rfl))⟩
  · have hK : jobK c ⟨b, ((3 + 1 : Nat) : Int), q, f⟩ = 2 := by unfold jobK; rw [hi]; rfl
    have hN : jobN c ⟨b, ((3 + 1 : Nat) : Int), q, f⟩ = 2 := by
      unfold jobN
      rw [hi]
      show b % 4 = 2
      omega
    have hE : nxErr 0 c ⟨b, ((3 + 1 : Nat) : Int), q, f⟩ = 0 := by unfold nxErr; rw [hi]; rfl
    simp only [zif0, hK, hN, hE]
    repeat' (first | refine condT (by decide +kernel) ?_ | refine condF (by decide +kernel) ?_ | refine andI (by decide +kernel) ?_)
    exact hk' .normal _ ⟨⟨3 + 1, by omega⟩, by show 8 - (3 + 1) < 8 - 3; omega, (Less.drop 5 (by show 5 ≤ 7; omega) rfl rfl (by kernel_rfl)).trans (Less.of_eq (by unfold I_on Conf.cells; rw [hi]; kernel_rfl))⟩
  · have hK : jobK c ⟨b, ((4 + 1 : Nat) : Int), q, f⟩ = 3 := by unfold jobK; rw [hi]; rfl
    have hN : jobN c ⟨b, ((4 + 1 : Nat) : Int), q, f⟩ = 0 := by
      unfold jobN
      rw [hi]
      show b % 2 = 0
      omega
    have hE : nxErr 0 c ⟨b, ((4 + 1 : Nat) : Int), q, f⟩ = 0 := by unfold nxErr; rw [hi]; rfl
    simp only [zif0, hK, hN, hE]
    repeat' (first | refine condT (by decide +kernel) ?_ | refine condF (by decide +kernel) ?_ | refine andI (by decide +kernel) ?_)
    exact hk' .normal _ ⟨⟨4 + 1, by omega⟩, by show 8 - (4 + 1) < 8 - 4; omega, (Less.drop 5 (by show 5 ≤ 7; omega) rfl rfl (by kernel_rfl)).trans (Less.of_eq (by unfold I_on Conf.cells; rw [hi]; kernel_rfl))⟩
  · have hK : jobK c ⟨b, ((5 + 1 : Nat) : Int), q, f⟩ = 4 := by unfold jobK; rw [hi]; rfl
    have hN : jobN c ⟨b, ((5 + 1 : Nat) : Int), q, f⟩ = 0 := by
      unfold jobN
      rw [hi]
      show b % 2 = 0
      omega
    have hE : nxErr 0 c ⟨b, ((5 + 1 : Nat) : Int), q, f⟩ = 0 := by unfold nxErr; rw [hi]; rfl
    simp only [zif0, hK, hN, hE]
    repeat' (first | refine condT (by decide +kernel) ?_ | refine condF (by decide +kernel) ?_ | refine andI (by decide +kernel) ?_)
    exact hk' .normal _ ⟨⟨5 + 1, by omega⟩, by show 8 - (5 + 1) < 8 - 5; omega, (Less.drop 5 (by show 5 ≤ 7; omega) rfl rfl (by kernel_rfl)).trans (Less.of_eq (by unfold I_on Conf.cells; rw [hi]; kernel_rfl))⟩
  · have hK : jobK c ⟨b, ((6 + 1 : Nat) : Int), q, f⟩ = 3 := by unfold jobK; rw [hi]; rfl
    have hN : jobN c ⟨b, ((6 + 1 : Nat) : Int), q, f⟩ = 1 := by
      unfold jobN
      rw [hi]
      show (b + 1) % 2 = 1
      omega
    have hE : nxErr 0 c ⟨b, ((6 + 1 : Nat) : Int), q, f⟩ = 0 := by unfold nxErr; rw [hi]; rfl
    simp only [zif0, hK, hN, hE]
    repeat' (first | refine condT (by decide +kernel) ?_ | refine condF (by decide +kernel) ?_ | refine andI (by decide +kernel) ?_)
    exact hk' .normal _ ⟨⟨6 + 1, by omega⟩, by show 8 - (6 + 1) < 8 - 6; omega, (Less.drop 5 (by show 5 ≤ 7; omega) rfl rfl (by kernel_rfl)).trans (Less.of_eq (by unfold I_on Conf.cells; rw [hi]; kernel_rfl))⟩
  · have hK : jobK c ⟨b, ((7 + 1 : Nat) : Int), q, f⟩ = 1 := by unfold jobK; rw [hi]; rfl
    have hN : jobN c ⟨b, ((7 + 1 : Nat) : Int), q, f⟩ = 1 := by
      unfold jobN
      rw [hi]
      show (b - 1) % 4 = 1
      omega
    have hE : nxErr 0 c ⟨b, ((7 + 1 : Nat) : Int), q, f⟩ = 0 := by unfold nxErr; rw [hi]; rfl
    simp only [zif0, hK, hN, hE]
    repeat' (first | refine condT (by decide +kernel) ?_ | refine condF (by decide +kernel) ?_ | refine andI (by decide +kernel) ?_)
    exact hk' .normal _ ⟨⟨7 + 1, by omega⟩, by show 8 - (7 + 1) < 8 - 7; omega, (Less.drop 5 (by show 5 ≤ 7; omega) rfl rfl (by kernel_rfl)).trans (Less.of_eq (by unfold I_on Conf.cells; rw [hi]; kernel_rfl))⟩
  · refine condF (by decide +kernel) ?_
    refine hk' (.exit 0) _ ⟨_, LessS.refl _, ?_⟩
    unfold I_on Conf.cells at hk
    rw [hi] at hk
    exact hk
theorem on_4_2_0 (hi : c.ins = 4) (hx : (b - 1) % 4 = 2) (hp : (b - 1) % 2 = 0) (h0 : chk mayP c ⟨b, 1, q, f⟩ = 0) (hb : 1 ≤ b) (hb' : b ≤ 9223372036854775807) (hq : 0 ≤ q) (ok ap : Bool) (cs : List AV) (e0 e1 e2 e3 e4 : TypeId) (k : Ex → St → Bool)
    (hk : k (.exit 0) (I_on b b ok (leftL 4 2 8) (verL 4 0 8) 4 ap 8 (dL 4 0 0 8) (dL 4 0 1 8) (cellsL 4 2 8) cs 9 q f c.cells e0 e1 e2 e3 e4) = true) :
    AWq (cfg [S_alive, S_laid, S_what, S_next]) (.loop (loopAt (fcode Try.prog 3) [0])) (I_on b b ok 2 0 4 ap 0 0 0 (cellsL 4 2 0) cs 1 q f c.cells e0 e1 e2 e3 e4) (fun e s => k e s = true) := by
  refine AWq.loop (K := fun e s => k e s = true) (fun i : { i : Nat // i ≤ 8 } => I_on b b ok (leftL 4 2 i.1) (verL 4 0 i.1) 4 ap ((i.1 : Nat) : Int) (dL 4 0 0 i.1) (dL 4 0 1 i.1) (cellsL 4 2 i.1) cs (((i.1 + 1 : Nat)) : Int) q f c.cells e0 e1 e2 e3 e4) (fun i => 8 - i.1) ?_ ⟨0, Nat.zero_le _⟩
  have hA : IntKind.wrap .i64 (Int.tmod (IntKind.wrap .u64 (b - 1)) (IntKind.wrap .u64 c.2)) = 2 := by
    have e1 : c.2 = 4 := hi
    rw [e1, w64 (n := b - 1) (by omega) (by omega), w64 (n := 4) (by omega) (by omega), Int.tmod_eq_emod_of_nonneg (by omega), hx]; rfl
  rintro ⟨i, hle⟩
  have hz := run_ok h0 hb (n := ((i + 1 : Nat) : Int)) (by omega) (by omega)
  have hs := pS_ok (q := q) (f := f) hb hq ((i + 1 : Nat) : Int)
  refine AWq.runK hC4 [1, 4, 9, 10, 13, 14, 15, 16, 17] (n := 100) fun k' hk' => ?_
  refine (t_onb c b b ok (leftL 4 2 i) (verL 4 0 i) 4 ap ((i : Nat) : Int) (dL 4 0 0 i) (dL 4 0 1 i) (cellsL 4 2 i) cs ((i + 1 : Nat) : Int) q f e0 e1 e2 e3 e4 k').trans ?_
  have hi2 : c.2 = 4 := hi
  rw [hz, hs, hA, hi2]
  rcases (show i = 0 ∨ i = 1 ∨ i = 2 ∨ i = 3 ∨ i = 4 ∨ i = 5 ∨ i = 6 ∨ i = 7 ∨ i = 8 by omega) with rfl | rfl | rfl | rfl | rfl | rfl | rfl | rfl | rfl
  · have hK : jobK c ⟨b, ((0 + 1 : Nat) : Int), q, f⟩ = 1 := by unfold jobK; rw [hi]; rfl
    have hN : jobN c ⟨b, ((0 + 1 : Nat) : Int), q, f⟩ = 3 := by
      unfold jobN
      rw [hi]
      show (b + ((0 + 1 : Nat) : Int) - 1) % 4 = 3
      omega
    have hE : nxErr 0 c ⟨b, ((0 + 1 : Nat) : Int), q, f⟩ = 0 := by unfold nxErr; rw [hi]; rfl
    simp only [zif0, hK, hN, hE]
    repeat' (first | refine condT (by decide +kernel) ?_ | refine condF (by decide +kernel) ?_ | refine andI (by decide +kernel) ?_)
    exact hk' .normal _ ⟨⟨0 + 1, by omega⟩, by show 8 - (0 + 1) < 8 - 0; omega, (Less.drop 5 (by show 5 ≤ 7; omega) rfl rfl (by kernel_rfl)).trans (Less.of_eq (by unfold I_on Conf.cells; rw [hi]; kernel_rfl))⟩
  · have hK : jobK c ⟨b, ((1 + 1 : Nat) : Int), q, f⟩ = 1 := by unfold jobK; rw [hi]; rfl
    have hN : jobN c ⟨b, ((1 + 1 : Nat) : Int), q, f⟩ = 0 := by
      unfold jobN
      rw [hi]
      show (b + ((1 + 1 : Nat) : Int) - 1) % 4 = 0
      omega
    have hE : nxErr 0 c ⟨b, ((1 + 1 : Nat) : Int), q, f⟩ = 0 := by unfold nxErr; rw [hi]; rfl
    simp only [zif0, hK, hN, hE]
    repeat' (first | refine condT (by decide +kernel) ?_ | refine condF (by decide +kernel) ?_ | refine andI (by decide +kernel) ?_)
    exact hk' .normal _ ⟨⟨1 + 1, by omega⟩, by show 8 - (1 + 1) < 8 - 1; omega, (Less.drop 5 (by show 5 ≤ 7; omega) rfl rfl (by kernel_rfl)).trans (Less.of_eq (by unfold I_on Conf.cells; rw [hi]; kernel_rfl))⟩
  · have hK : jobK c ⟨b, ((2 + 1 : Nat) : Int), q, f⟩ = 1 := by unfold jobK; rw [hi]; rfl
    have hN : jobN c ⟨b, ((2 + 1 : Nat) : Int), q, f⟩ = 1 := by
      unfold jobN
      rw [hi]
      show (b + ((2 + 1 : Nat) : Int) - 1) % 4 = 1
      omega
    have hE : nxErr 0 c ⟨b, ((2 + 1 : Nat) : Int), q, f⟩ = 0 := by unfold nxErr; rw [hi]; rfl
    simp only [zif0, hK, hN, hE]
    repeat' (first | refine condT (by decide +kernel) ?_ | refine condF (by decide +kernel) ?_ | refine andI (by decide +kernel) ?_)
    exact hk' .normal _ ⟨⟨2 + 1, by omega⟩, by show 8 - (2 + 1) < 8 - 2; omega, (Less.drop 5 (by show 5 ≤ 7; omega) rfl rfl (by kernel_rfl)).trans (Less.of_eq (by unfold I_on Conf.cells; rw [hi]; kernel_rfl))⟩
  · have hK : jobK c ⟨b, ((3 + 1 : Nat) : Int), q, f⟩ = 2 := by unfold jobK; rw [hi]; rfl
    have hN : jobN c ⟨b, ((3 + 1 : Nat) : Int), q, f⟩ = 3 := by
      unfold jobN
      rw [hi]
      show b % 4 = 3
      omega
    have hE : nxErr 0 c ⟨b, ((3 + 1 : Nat) : Int), q, f⟩ = 0 := by unfold nxErr; rw [hi]; rfl
    simp only [zif0, hK, hN, hE]
    repeat' (first | refine condT (by decide +kernel) ?_ | refine condF (by decide +kernel) ?_ | refine andI (by decide +kernel) ?_)
    exact hk' .normal _ ⟨⟨3 + 1, by omega⟩, by show 8 - (3 + 1) < 8 - 3; omega, (Less.drop 5 (by show 5 ≤ 7; omega) rfl rfl (by kernel_rfl)).trans (Less.of_eq (by unfold I_on Conf.cells; rw [hi]; kernel_rfl))⟩
  · have hK : jobK c ⟨b, ((4 + 1 : Nat) : Int), q, f⟩ = 3 := by unfold jobK; rw [hi]; rfl
    have hN : jobN c ⟨b, ((4 + 1 : Nat) : Int), q, f⟩ = 1 := by
      unfold jobN
      rw [hi]
      show b % 2 = 1
      omega
    have hE : nxErr 0 c ⟨b, ((4 + 1 : Nat) : Int), q, f⟩ = 0 := by unfold nxErr; rw [hi]; rfl
    simp only [zif0, hK, hN, hE]
    repeat' (first | refine condT (by decide +kernel) ?_ | refine condF (by decide +kernel) ?_ | refine andI (by decide +kernel) ?_)
    exact hk' .normal _ ⟨⟨4 + 1, by omega⟩, by show 8 - (4 + 1) < 8 - 4; omega, (Less.drop 5 (by show 5 ≤ 7; omega) rfl rfl (by kernel_rfl)).trans (Less.of_eq (by unfold I_on Conf.cells; rw [hi]; kernel_rfl))⟩
  · have hK : jobK c ⟨b, ((5 + 1 : Nat) : Int), q, f⟩ = 4 := by unfold jobK; rw [hi]; rfl
    have hN : jobN c ⟨b, ((5 + 1 : Nat) : Int), q, f⟩ = 1 := by
      unfold jobN
      rw [hi]
      show b % 2 = 1
      omega
    have hE : nxErr 0 c ⟨b, ((5 + 1 : Nat) : Int), q, f⟩ = 0 := by unfold nxErr; rw [hi]; rfl
    simp only [zif0, hK, hN, hE]
    repeat' (first | refine condT (by decide +kernel) ?_ | refine condF (by decide +kernel) ?_ | refine andI (by decide +kernel) ?_)
    exact hk' .normal _ ⟨⟨5 + 1, by omega⟩, by show 8 - (5 + 1) < 8 - 5; omega, (Less.drop 5 (by show 5 ≤ 7; omega) rfl rfl (by kernel_rfl)).trans (Less.of_eq (by unfold I_on Conf.cells; rw [hi]; kernel_rfl))⟩
  · have hK : jobK c ⟨b, ((6 + 1 : Nat) : Int), q, f⟩ = 3 := by unfold jobK; rw [hi]; rfl
    have hN : jobN c ⟨b, ((6 + 1 : Nat) : Int), q, f⟩ = 0 := by
      unfold jobN
      rw [hi]
      show (b + 1) % 2 = 0
      omega
    have hE : nxErr 0 c ⟨b, ((6 + 1 : Nat) : Int), q, f⟩ = 0 := by unfold nxErr; rw [hi]; rfl
    simp only [zif0, hK, hN, hE]
    repeat' (first | refine condT (by decide +kernel) ?_ | refine condF (by decide +kernel) ?_ | refine andI (by decide +kernel) ?_)
    exact hk' .normal _ ⟨⟨6 + 1, by omega⟩, by show 8 - (6 + 1) < 8 - 6; omega, (Less.drop 5 (by show 5 ≤ 7; omega) rfl rfl (by kernel_rfl)).trans (Less.of_eq (by unfold I_on Conf.cells; rw [hi]; kernel_rfl))⟩
  · have hK : jobK c ⟨b, ((7 + 1 : Nat) : Int), q, f⟩ = 1 := by unfold jobK; rw [hi]; rfl
    have hN : jobN c ⟨b, ((7 + 1 : Nat) : Int), q, f⟩ = 2 := by
      unfold jobN
      rw [hi]
      show (b - 1) % 4 = 2
      omega
    have hE : nxErr 0 c ⟨b, ((7 + 1 : Nat) : Int), q, f⟩ = 0 := by unfold nxErr; rw [hi]; rfl
    simp only [zif0, hK, hN, hE]
    repeat' (first | refine condT (by decide +kernel) ?_ | refine condF (by decide +kernel) ?_ | refine andI (by decide +kernel) ?_)
    exact hk' .normal _ ⟨⟨7 + 1, by omega⟩, by show 8 - (7 + 1) < 8 - 7; omega, (Less.drop 5 (by show 5 ≤ 7; omega) rfl rfl (by kernel_rfl)).trans (Less.of_eq (by unfold I_on Conf.cells; rw [hi]; kernel_rfl))⟩
  · refine condF (by decide +kernel) ?_
    refine hk' (.exit 0) _ ⟨_, LessS.refl _, ?_⟩
    unfold I_on Conf.cells at hk
    rw [hi] at hk
    exact hk
theorem on_4_3_1 (hi : c.ins = 4) (hx : (b - 1) % 4 = 3) (hp : (b - 1) % 2 = 1) (h0 : chk mayP c ⟨b, 1, q, f⟩ = 0) (hb : 1 ≤ b) (hb' : b ≤ 9223372036854775807) (hq : 0 ≤ q) (ok ap : Bool) (cs : List AV) (e0 e1 e2 e3 e4 : TypeId) (k : Ex → St → Bool)
    (hk : k (.exit 0) (I_on b b ok (leftL 4 3 8) (verL 4 1 8) 4 ap 8 (dL 4 1 0 8) (dL 4 1 1 8) (cellsL 4 3 8) cs 9 q f c.cells e0 e1 e2 e3 e4) = true) :
    AWq (cfg [S_alive, S_laid, S_what, S_next]) (.loop (loopAt (fcode Try.prog 3) [0])) (I_on b b ok 3 1 4 ap 0 0 0 (cellsL 4 3 0) cs 1 q f c.cells e0 e1 e2 e3 e4) (fun e s => k e s = true) := by
  refine AWq.loop (K := fun e s => k e s = true) (fun i : { i : Nat // i ≤ 8 } => I_on b b ok (leftL 4 3 i.1) (verL 4 1 i.1) 4 ap ((i.1 : Nat) : Int) (dL 4 1 0 i.1) (dL 4 1 1 i.1) (cellsL 4 3 i.1) cs (((i.1 + 1 : Nat)) : Int) q f c.cells e0 e1 e2 e3 e4) (fun i => 8 - i.1) ?_ ⟨0, Nat.zero_le _⟩
  have hA : IntKind.wrap .i64 (Int.tmod (IntKind.wrap .u64 (b - 1)) (IntKind.wrap .u64 c.2)) = 3 := by
    have e1 : c.2 = 4 := hi
    rw [e1, w64 (n := b - 1) (by omega) (by omega), w64 (n := 4) (by omega) (by omega), Int.tmod_eq_emod_of_nonneg (by omega), hx]; rfl
  rintro ⟨i, hle⟩
  have hz := run_ok h0 hb (n := ((i + 1 : Nat) : Int)) (by omega) (by omega)
  have hs := pS_ok (q := q) (f := f) hb hq ((i + 1 : Nat) : Int)
  refine AWq.runK hC4 [1, 4, 9, 10, 13, 14, 15, 16, 17] (n := 100) fun k' hk' => ?_
  refine (t_onb c b b ok (leftL 4 3 i) (verL 4 1 i) 4 ap ((i : Nat) : Int) (dL 4 1 0 i) (dL 4 1 1 i) (cellsL 4 3 i) cs ((i + 1 : Nat) : Int) q f e0 e1 e2 e3 e4 k').trans ?_
  have hi2 : c.2 = 4 := hi
  rw [hz, hs, hA, hi2]
  rcases (show i = 0 ∨ i = 1 ∨ i = 2 ∨ i = 3 ∨ i = 4 ∨ i = 5 ∨ i = 6 ∨ i = 7 ∨ i = 8 by omega) with rfl | rfl | rfl | rfl | rfl | rfl | rfl | rfl | rfl
  · have hK : jobK c ⟨b, ((0 + 1 : Nat) : Int), q, f⟩ = 1 := by unfold jobK; rw [hi]; rfl
    have hN : jobN c ⟨b, ((0 + 1 : Nat) : Int), q, f⟩ = 0 := by
      unfold jobN
      rw [hi]
      show (b + ((0 + 1 : Nat) : Int) - 1) % 4 = 0
      omega
    have hE : nxErr 0 c ⟨b, ((0 + 1 : Nat) : Int), q, f⟩ = 0 := by unfold nxErr; rw [hi]; rfl
    simp only [zif0, hK, hN, hE]
    repeat' (first | refine condT (by decide +kernel) ?_ | refine condF (by decide +kernel) ?_ | refine andI (by decide +kernel) ?_)
    exact hk' .normal _ ⟨⟨0 + 1, by omega⟩, by show 8 - (0 + 1) < 8 - 0; omega, (Less.drop 5 (by show 5 ≤ 7; omega) rfl rfl (by kernel_rfl)).trans (Less.of_eq (by unfold I_on Conf.cells; rw [hi]; kernel_rfl))⟩
  · have hK : jobK c ⟨b, ((1 + 1 : Nat) : Int), q, f⟩ = 1 := by unfold jobK; rw [hi]; rfl
    have hN : jobN c ⟨b, ((1 + 1 : Nat) : Int), q, f⟩ = 1 := by
      unfold jobN
      rw [hi]
      show (b + ((1 + 1 : Nat) : Int) - 1) % 4 = 1
      omega
    have hE : nxErr 0 c ⟨b, ((1 + 1 : Nat) : Int), q, f⟩ = 0 := by unfold nxErr; rw [hi]; rfl
    simp only [zif0, hK, hN, hE]
    repeat' (first | refine condT (by decide +kernel) ?_ | refine condF (by decide +kernel) ?_ | refine andI (by decide +kernel) ?_)
    exact hk' .normal _ ⟨⟨1 + 1, by omega⟩, by show 8 - (1 + 1) < 8 - 1; omega, (Less.drop 5 (by show 5 ≤ 7; omega) rfl rfl (by kernel_rfl)).trans (Less.of_eq (by unfold I_on Conf.cells; rw [hi]; kernel_rfl))⟩
  · have hK : jobK c ⟨b, ((2 + 1 : Nat) : Int), q, f⟩ = 1 := by unfold jobK; rw [hi]; rfl
    have hN : jobN c ⟨b, ((2 + 1 : Nat) : Int), q, f⟩ = 2 := by
      unfold jobN
      rw [hi]
      show (b + ((2 + 1 : Nat) : Int) - 1) % 4 = 2
      omega
    have hE : nxErr 0 c ⟨b, ((2 + 1 : Nat) : Int), q, f⟩ = 0 := by unfold nxErr; rw [hi]; rfl
    simp only [zif0, hK, hN, hE]
    repeat' (first | refine condT (by decide +kernel) ?_ | refine condF (by decide +kernel) ?_ | refine andI (by decide +kernel) ?_)
    exact hk' .normal _ ⟨⟨2 + 1, by omega⟩, by show 8 - (2 + 1) < 8 - 2; omega, (Less.drop 5 (by show 5 ≤ 7; omega) rfl rfl (by kernel_rfl)).trans (Less.of_eq (by unfold I_on Conf.cells; rw [hi]; kernel_rfl))⟩
  · have hK : jobK c ⟨b, ((3 + 1 : Nat) : Int), q, f⟩ = 2 := by unfold jobK; rw [hi]; rfl
    have hN : jobN c ⟨b, ((3 + 1 : Nat) : Int), q, f⟩ = 0 := by
      unfold jobN
      rw [hi]
      show b % 4 = 0
      omega
    have hE : nxErr 0 c ⟨b, ((3 + 1 : Nat) : Int), q, f⟩ = 0 := by unfold nxErr; rw [hi]; rfl
    simp only [zif0, hK, hN, hE]
    repeat' (first | refine condT (by decide +kernel) ?_ | refine condF (by decide +kernel) ?_ | refine andI (by decide +kernel) ?_)
    exact hk' .normal _ ⟨⟨3 + 1, by omega⟩, by show 8 - (3 + 1) < 8 - 3; omega, (Less.drop 5 (by show 5 ≤ 7; omega) rfl rfl (by kernel_rfl)).trans (Less.of_eq (by unfold I_on Conf.cells; rw [hi]; kernel_rfl))⟩
  · have hK : jobK c ⟨b, ((4 + 1 : Nat) : Int), q, f⟩ = 3 := by unfold jobK; rw [hi]; rfl
    have hN : jobN c ⟨b, ((4 + 1 : Nat) : Int), q, f⟩ = 0 := by
      unfold jobN
      rw [hi]
      show b % 2 = 0
      omega
    have hE : nxErr 0 c ⟨b, ((4 + 1 : Nat) : Int), q, f⟩ = 0 := by unfold nxErr; rw [hi]; rfl
    simp only [zif0, hK, hN, hE]
    repeat' (first | refine condT (by decide +kernel) ?_ | refine condF (by decide +kernel) ?_ | refine andI (by decide +kernel) ?_)
    exact hk' .normal _ ⟨⟨4 + 1, by omega⟩, by show 8 - (4 + 1) < 8 - 4; omega, (Less.drop 5 (by show 5 ≤ 7; omega) rfl rfl (by kernel_rfl)).trans (Less.of_eq (by unfold I_on Conf.cells; rw [hi]; kernel_rfl))⟩
  · have hK : jobK c ⟨b, ((5 + 1 : Nat) : Int), q, f⟩ = 4 := by unfold jobK; rw [hi]; rfl
    have hN : jobN c ⟨b, ((5 + 1 : Nat) : Int), q, f⟩ = 0 := by
      unfold jobN
      rw [hi]
      show b % 2 = 0
      omega
    have hE : nxErr 0 c ⟨b, ((5 + 1 : Nat) : Int), q, f⟩ = 0 := by unfold nxErr; rw [hi]; rfl
    simp only [zif0, hK, hN, hE]
    repeat' (first | refine condT (by decide +kernel) ?_ | refine condF (by decide +kernel) ?_ | refine andI (by decide +kernel) ?_)
    exact hk' .normal _ ⟨⟨5 + 1, by omega⟩, by show 8 - (5 + 1) < 8 - 5; omega, (Less.drop 5 (by show 5 ≤ 7; omega) rfl rfl (by kernel_rfl)).trans (Less.of_eq (by unfold I_on Conf.cells; rw [hi]; kernel_rfl))⟩
  · have hK : jobK c ⟨b, ((6 + 1 : Nat) : Int), q, f⟩ = 3 := by unfold jobK; rw [hi]; rfl
    have hN : jobN c ⟨b, ((6 + 1 : Nat) : Int), q, f⟩ = 1 := by
      unfold jobN
      rw [hi]
      show (b + 1) % 2 = 1
      omega
    have hE : nxErr 0 c ⟨b, ((6 + 1 : Nat) : Int), q, f⟩ = 0 := by unfold nxErr; rw [hi]; rfl
    simp only [zif0, hK, hN, hE]
    repeat' (first | refine condT (by decide +kernel) ?_ | refine condF (by decide +kernel) ?_ | refine andI (by decide +kernel) ?_)
    exact hk' .normal _ ⟨⟨6 + 1, by omega⟩, by show 8 - (6 + 1) < 8 - 6; omega, (Less.drop 5 (by show 5 ≤ 7; omega) rfl rfl (by kernel_rfl)).trans (Less.of_eq (by unfold I_on Conf.cells; rw [hi]; kernel_rfl))⟩
  · have hK : jobK c ⟨b, ((7 + 1 : Nat) : Int), q, f⟩ = 1 := by unfold jobK; rw [hi]; rfl
    have hN : jobN c ⟨b, ((7 + 1 : Nat) : Int), q, f⟩ = 3 := by
      unfold jobN
      rw [hi]
      show (b - 1) % 4 = 3
      omega
    have hE : nxErr 0 c ⟨b, ((7 + 1 : Nat) : Int), q, f⟩ = 0 := by unfold nxErr; rw [hi]; rfl
    simp only [zif0, hK, hN, hE]
    repeat' (first | refine condT (by decide +kernel) ?_ | refine condF (by decide +kernel) ?_ | refine andI (by decide +kernel) ?_)
    exact hk' .normal _ ⟨⟨7 + 1, by omega⟩, by show 8 - (7 + 1) < 8 - 7; omega, (Less.drop 5 (by show 5 ≤ 7; omega) rfl rfl (by kernel_rfl)).trans (Less.of_eq (by unfold I_on Conf.cells; rw [hi]; kernel_rfl))⟩
  · refine condF (by decide +kernel) ?_
    refine hk' (.exit 0) _ ⟨_, LessS.refl _, ?_⟩
    unfold I_on Conf.cells at hk
    rw [hi] at hk
    exact hk
end
theorem G_on_ok : ∀ (b b2 : Int) (ok : Bool) (left ver : Int) (m : Nat) (ap : Bool) (n d0 d1 : Int) (cells cs : List AV) (num q f : Int) (cc : List AV) (e0 e1 e2 e3 e4 : TypeId) (k : Ex → St → Bool), G_on b b2 ok left ver m ap n d0 d1 cells cs num q f cc e0 e1 e2 e3 e4 k = true →
    AWq (cfg [S_alive, S_laid, S_what, S_next]) (loopN (fcode Try.prog 3) 0) (I_on b b2 ok left ver m ap n d0 d1 cells cs num q f cc e0 e1 e2 e3 e4) (fun e s => k e s = true) := by
  intro b b2 ok left ver m ap n d0 d1 cells cs num q f cc e0 e1 e2 e3 e4 k hG
  unfold G_on at hG
  split at hG
  case h_2 => cases hG
  rename_i c hc
  have hcc : cc = c.cells := AV.agg.inj (confOf_some hc)
  subst hcc
  rcases of_cond2 hG with ⟨hok, hG2⟩ | ⟨_, hG2⟩
  case inr => cases hG2
  clear hG
  obtain ⟨h0, hb, hq, rfl, rfl, rfl, hm, rfl, rfl, rfl, rfl, rfl⟩ := onB_true.1 hok
  have S := sok h0
  have hO := S.ok
  have hB := S.b
  simp only [Conf.OkP] at hO
  have hbb : b2 ≤ 9223372036854775807 := by have : b2 < c.limit / 65536 := hB; omega
  rw [once_code]
  have hp := Int.emod_two_eq (b2 - 1)
  rcases (show c.ins = 2 ∨ c.ins = 3 ∨ c.ins = 4 by omega) with hi | hi | hi
  · obtain rfl : m = 2 := by omega
    rw [hi] at hG2 ⊢
    rcases (show (b2 - 1) % 2 = 0 ∨ (b2 - 1) % 2 = 1 by omega) with hx | hx
    · have hp : (b2 - 1) % 2 = 0 := by omega
      rw [show b2 % 2 = 1 by omega] at hG2
      rw [hx]
      have w := on_2_0_0 hi hx hp h0 hb hbb hq ok ap cs e0 e1 e2 e3 e4 k (Eq.trans (congrArg (k (.exit 0)) (by kernel_rfl)) hG2)
      exact Eq.mp (congrArg (fun s => AWq (cfg [S_alive, S_laid, S_what, S_next]) (.loop (loopAt (fcode Try.prog 3) [0])) s (fun e s => k e s = true)) (by kernel_rfl)) w
    · have hp : (b2 - 1) % 2 = 1 := by omega
      rw [show b2 % 2 = 0 by omega] at hG2
      rw [hx]
      have w := on_2_1_1 hi hx hp h0 hb hbb hq ok ap cs e0 e1 e2 e3 e4 k (Eq.trans (congrArg (k (.exit 0)) (by kernel_rfl)) hG2)
      exact Eq.mp (congrArg (fun s => AWq (cfg [S_alive, S_laid, S_what, S_next]) (.loop (loopAt (fcode Try.prog 3) [0])) s (fun e s => k e s = true)) (by kernel_rfl)) w
  · obtain rfl : m = 3 := by omega
    rw [hi] at hG2 ⊢
    rcases (show (b2 - 1) % 3 = 0 ∨ (b2 - 1) % 3 = 1 ∨ (b2 - 1) % 3 = 2 by omega) with hx | hx | hx
    · rcases hp with hp | hp
      · rw [show b2 % 3 = 1 by omega, show b2 % 2 = 1 by omega] at hG2
        rw [hx, hp]
        have w := on_3_0_0 hi hx hp h0 hb hbb hq ok ap cs e0 e1 e2 e3 e4 k (Eq.trans (congrArg (k (.exit 0)) (by kernel_rfl)) hG2)
        exact Eq.mp (congrArg (fun s => AWq (cfg [S_alive, S_laid, S_what, S_next]) (.loop (loopAt (fcode Try.prog 3) [0])) s (fun e s => k e s = true)) (by kernel_rfl)) w
      · rw [show b2 % 3 = 1 by omega, show b2 % 2 = 0 by omega] at hG2
        rw [hx, hp]
        have w := on_3_0_1 hi hx hp h0 hb hbb hq ok ap cs e0 e1 e2 e3 e4 k (Eq.trans (congrArg (k (.exit 0)) (by kernel_rfl)) hG2)
        exact Eq.mp (congrArg (fun s => AWq (cfg [S_alive, S_laid, S_what, S_next]) (.loop (loopAt (fcode Try.prog 3) [0])) s (fun e s => k e s = true)) (by kernel_rfl)) w
    · rcases hp with hp | hp
      · rw [show b2 % 3 = 2 by omega, show b2 % 2 = 1 by omega] at hG2
        rw [hx, hp]
        have w := on_3_1_0 hi hx hp h0 hb hbb hq ok ap cs e0 e1 e2 e3 e4 k (Eq.trans (congrArg (k (.exit 0)) (by kernel_rfl)) hG2)
        exact Eq.mp (congrArg (fun s => AWq (cfg [S_alive, S_laid, S_what, S_next]) (.loop (loopAt (fcode Try.prog 3) [0])) s (fun e s => k e s = true)) (by kernel_rfl)) w
      · rw [show b2 % 3 = 2 by omega, show b2 % 2 = 0 by omega] at hG2
        rw [hx, hp]
        have w := on_3_1_1 hi hx hp h0 hb hbb hq ok ap cs e0 e1 e2 e3 e4 k (Eq.trans (congrArg (k (.exit 0)) (by kernel_rfl)) hG2)
        exact Eq.mp (congrArg (fun s => AWq (cfg [S_alive, S_laid, S_what, S_next]) (.loop (loopAt (fcode Try.prog 3) [0])) s (fun e s => k e s = true)) (by kernel_rfl)) w
    · rcases hp with hp | hp
      · rw [show b2 % 3 = 0 by omega, show b2 % 2 = 1 by omega] at hG2
        rw [hx, hp]
        have w := on_3_2_0 hi hx hp h0 hb hbb hq ok ap cs e0 e1 e2 e3 e4 k (Eq.trans (congrArg (k (.exit 0)) (by kernel_rfl)) hG2)
        exact Eq.mp (congrArg (fun s => AWq (cfg [S_alive, S_laid, S_what, S_next]) (.loop (loopAt (fcode Try.prog 3) [0])) s (fun e s => k e s = true)) (by kernel_rfl)) w
      · rw [show b2 % 3 = 0 by omega, show b2 % 2 = 0 by omega] at hG2
        rw [hx, hp]
        have w := on_3_2_1 hi hx hp h0 hb hbb hq ok ap cs e0 e1 e2 e3 e4 k (Eq.trans (congrArg (k (.exit 0)) (by kernel_rfl)) hG2)
        exact Eq.mp (congrArg (fun s => AWq (cfg [S_alive, S_laid, S_what, S_next]) (.loop (loopAt (fcode Try.prog 3) [0])) s (fun e s => k e s = true)) (by kernel_rfl)) w
  · obtain rfl : m = 4 := by omega
    rw [hi] at hG2 ⊢
    rcases (show (b2 - 1) % 4 = 0 ∨ (b2 - 1) % 4 = 1 ∨ (b2 - 1) % 4 = 2 ∨ (b2 - 1) % 4 = 3 by omega) with hx | hx | hx | hx
    · have hp : (b2 - 1) % 2 = 0 := by omega
      rw [show b2 % 4 = 1 by omega, show b2 % 2 = 1 by omega] at hG2
      rw [hx, hp]
      have w := on_4_0_0 hi hx hp h0 hb hbb hq ok ap cs e0 e1 e2 e3 e4 k (Eq.trans (congrArg (k (.exit 0)) (by kernel_rfl)) hG2)
      exact Eq.mp (congrArg (fun s => AWq (cfg [S_alive, S_laid, S_what, S_next]) (.loop (loopAt (fcode Try.prog 3) [0])) s (fun e s => k e s = true)) (by kernel_rfl)) w
    · have hp : (b2 - 1) % 2 = 1 := by omega
      rw [show b2 % 4 = 2 by omega, show b2 % 2 = 0 by omega] at hG2
      rw [hx, hp]
      have w := on_4_1_1 hi hx hp h0 hb hbb hq ok ap cs e0 e1 e2 e3 e4 k (Eq.trans (congrArg (k (.exit 0)) (by kernel_rfl)) hG2)
      exact Eq.mp (congrArg (fun s => AWq (cfg [S_alive, S_laid, S_what, S_next]) (.loop (loopAt (fcode Try.prog 3) [0])) s (fun e s => k e s = true)) (by kernel_rfl)) w
    · have hp : (b2 - 1) % 2 = 0 := by omega
      rw [show b2 % 4 = 3 by omega, show b2 % 2 = 1 by omega] at hG2
      rw [hx, hp]
      have w := on_4_2_0 hi hx hp h0 hb hbb hq ok ap cs e0 e1 e2 e3 e4 k (Eq.trans (congrArg (k (.exit 0)) (by kernel_rfl)) hG2)
      exact Eq.mp (congrArg (fun s => AWq (cfg [S_alive, S_laid, S_what, S_next]) (.loop (loopAt (fcode Try.prog 3) [0])) s (fun e s => k e s = true)) (by kernel_rfl)) w
    · have hp : (b2 - 1) % 2 = 1 := by omega
      rw [show b2 % 4 = 0 by omega, show b2 % 2 = 0 by omega] at hG2
      rw [hx, hp]
      have w := on_4_3_1 hi hx hp h0 hb hbb hq ok ap cs e0 e1 e2 e3 e4 k (Eq.trans (congrArg (k (.exit 0)) (by kernel_rfl)) hG2)
      exact Eq.mp (congrArg (fun s => AWq (cfg [S_alive, S_laid, S_what, S_next]) (.loop (loopAt (fcode Try.prog 3) [0])) s (fun e s => k e s = true)) (by kernel_rfl)) w
theorem G_al_ok : ∀ (b b2 : Int) (ok : Bool) (left ver : Int) (m : Nat) (ap : Bool) (d0 d1 : Int) (cells cs : List AV) (num q f : Int) (cc : List AV) (e0 e1 e2 e3 e4 : TypeId) (i : Int) (k : Ex → St → Bool), G_al b b2 ok left ver m ap d0 d1 cells cs num q f cc e0 e1 e2 e3 e4 i k = true →
    AWq (cfg [S_alive, S_laid, S_what, S_next]) (loopN (fcode Try.prog 3) 1) (I_al b b2 ok left ver m ap d0 d1 cells cs num q f cc e0 e1 e2 e3 e4 i) (fun e s => k e s = true) := by
  intro b b2 ok left ver m ap d0 d1 cells cs num q f cc e0 e1 e2 e3 e4 i k hG
  unfold G_al at hG
  split at hG
  case h_2 => cases hG
  rename_i c hc
  have hcc : cc = c.cells := AV.agg.inj (confOf_some hc)
  subst hcc
  rcases of_cond2 hG with ⟨hok, hG2⟩ | ⟨_, hG2⟩
  case inr => cases hG2
  clear hG
  obtain ⟨hm, h4, rfl, rfl⟩ := onB_true.1 hok
  rw [all_code]
  refine AWq.loop (K := fun e s => k e s = true) (fun i : { i : Nat // i ≤ m } => I_al b b2 ok left ver m ap d0 d1 (List.replicate m (.bool true)) cs num q f c.cells e0 e1 e2 e3 e4 ((i.1 : Nat) : Int)) (fun i => m - i.1) ?_ ⟨0, Nat.zero_le _⟩
  rintro ⟨i, hi⟩
  refine AWq.runK hC4 [1, 4, 9, 10, 13, 14, 15, 16, 22] (n := 100) fun k' hk => ?_
  refine (t_alb c b b2 ok left ver m ap d0 d1 (List.replicate m (.bool true)) cs num q f e0 e1 e2 e3 e4 ((i : Nat) : Int) k').trans ?_
  refine condI (fun h => ?_) (fun h => ?_)
  · have h : ((i : Nat) : Int) < c.ins := of_decide_eq_true h
    have e0' : 0 + (((i : Nat) : Int)).toNat * 1 = i := by rw [Int.toNat_natCast]; omega
    have hl : lget (List.replicate m (AV.bool true)) i = .bool true := by
      rw [lget_eq, List.getD_eq_getElem?_getD, List.getElem?_replicate, if_pos (by omega)]
      rfl
    have hw : IntKind.wrap .i64 (((i : Nat) : Int) + 1) = ((i + 1 : Nat) : Int) := by rw [wi64 (by omega) (by omega)]; omega
    rw [e0', hl, hw]
    refine andI (by simp only [inside, Bool.and_eq_true, decide_eq_true_eq]; omega) (andI (Nat.ble_eq_true_of_le (by rw [List.length_replicate]; omega)) (andI rfl ?_))
    refine condF rfl ?_
    exact hk .normal _ ⟨⟨i + 1, by omega⟩, by show m - (i + 1) < m - i; omega, Less.of_eq rfl⟩
  · have h : ¬ ((i : Nat) : Int) < c.ins := of_decide_eq_false h
    obtain rfl : i = m := by omega
    rw [← hm] at hG2
    exact hk (.exit 3) _ ⟨_, LessS.refl _, hG2⟩

theorem loops_ok : LoopsOk (cfg [S_alive, S_laid, S_what, S_next]) (loopsOf (fcode Try.prog 3)) [F_on, F_al] := by
  rw [once_loops]
  exact ⟨fun st k h => P_on_ok G_on_ok st k h, fun st k h => P_al_ok G_al_ok st k h, trivial⟩
theorem walk (c : Conf) (b q f : Int) (hb0 : 0 ≤ b) (hq : 0 ≤ q) : ACalls Try.prog (fun _ => none) 3 [c.av, .int .u64 b, .int .u64 q, .int .i64 f] (fun v => v = .bool true) := by
  refine acalls_eqM base (sums_cons s_alive (sums_cons s_laid (sums_cons s_what (sums_cons s_next sums_nil)))) (n := 300) (fs := [F_on, F_al]) (by kernel_rfl) loops_ok fun k hk => ?_
  refine (t_once c b q f k).trans ?_
  refine condI (fun _ => hk) (fun h1 => condI (fun _ => hk) (fun h2 => ?_))
  have h0 : chk mayP c ⟨b, 1, q, f⟩ = 0 := by simpa using h1
  have hb : 1 ≤ b := by have h2 := of_decide_eq_false h2; omega
  have S := sok h0
  have hO := S.ok
  have hB := S.b
  simp only [Conf.OkP] at hO
  have hbb : b ≤ 9223372036854775807 := by have : b < c.limit / 65536 := hB; omega
  have hA : IntKind.wrap .i64 (Int.tmod (IntKind.wrap .u64 (b - 1)) (IntKind.wrap .u64 c.2)) = (b - 1) % c.ins := by
    show IntKind.wrap .i64 (Int.tmod (IntKind.wrap .u64 (b - 1)) (IntKind.wrap .u64 c.ins)) = _
    rw [w64 (n := b - 1) (by omega) (by omega), w64 (n := c.ins) (by omega) (by omega), Int.tmod_eq_emod_of_nonneg (by omega), mod_small (by omega) (by omega)]
  have hA2 : IntKind.wrap .i64 (Int.tmod (IntKind.wrap .u64 (b - 1)) 2) = (b - 1) % 2 := by
    rw [w64 (n := b - 1) (by omega) (by omega), Int.tmod_eq_emod_of_nonneg (by omega), mod_small (by omega) (by omega)]
  have hA3 : IntKind.wrap .i64 (Int.tmod b (IntKind.wrap .u64 c.2)) = Int.emod b c.2 := by
    show IntKind.wrap .i64 (Int.tmod b (IntKind.wrap .u64 c.ins)) = b % c.ins
    rw [w64 (n := c.ins) (by omega) (by omega), Int.tmod_eq_emod_of_nonneg (by omega), mod_small (by omega) (by omega)]
  have hA4 : IntKind.wrap .i64 (Int.tmod b 2) = Int.emod b 2 := by
    show _ = b % 2
    rw [Int.tmod_eq_emod_of_nonneg (by omega), mod_small (by omega) (by omega)]
  have hw : IntKind.wrap .u64 c.2 = c.ins := w64 (n := c.ins) (by omega) (by omega)
  have hf : List.flatten (List.replicate (Int.toNat c.2) [AV.bool false]) = List.replicate (Int.toNat c.2) (AV.bool false) := by
    generalize Int.toNat c.2 = m
    induction m with
    | zero => rfl
    | succ m ih => rw [List.replicate_succ, List.replicate_succ, List.flatten_cons, ih]; rfl
  have hm : ((Int.toNat c.2 : Nat) : Int) = c.ins := by show ((c.ins.toNat : Nat) : Int) = c.ins; omega
  have hz := run_ok h0 hb (n := c.ins + 5) (by omega) (by omega)
  have hz' : chk mayP c (Stg.mk b (c.2 + 5) q f) = 0 := hz
  have hp' : pS (Stg.mk b (c.2 + 5) q f) = true := pS_ok hb hq _
  have hK : jobK c (Stg.mk b (c.2 + 5) q f) = 5 := by
    unfold jobK
    have : (Stg.mk b (c.2 + 5) q f).number - c.ins = 5 := by show c.ins + 5 - c.ins = 5; omega
    rw [this]; rfl
  have hN : jobN c (Stg.mk b (c.2 + 5) q f) = 0 := by
    unfold jobN
    have : (Stg.mk b (c.2 + 5) q f).number - c.ins = 5 := by show c.ins + 5 - c.ins = 5; omega
    rw [this]; rfl
  have gA : onB (OnA c b b ((b - 1) % c.ins) ((b - 1) % 2) (Int.toNat c.2) 0 0 0 (List.replicate (Int.toNat c.2) (AV.bool false)) 1 q f) = true := onB_true.2 ⟨h0, hb, hq, rfl, rfl, rfl, hm, rfl, rfl, rfl, rfl, rfl⟩
  have gB : onB (OnB c (Int.toNat c.2) (List.replicate (Int.toNat c.2) (AV.bool true)) 0) = true := onB_true.2 ⟨hm, by omega, rfl, rfl⟩
  rw [hA, hA2, hA3, hA4, hf, gA, gB, hp', hz', zif0, zif0, hK, hN, hw]
  refine condI (fun h => by have := of_decide_eq_true h; omega) (fun _ => andI ?_ ?_)
  · refine andI (decide_eq_true (by show 0 ≤ c.ins; omega)) (andI (decide_eq_true (Int.le_refl _)) (andI (Nat.ble_eq_true_of_le (by show c.ins.toNat ≤ _; omega)) (Nat.ble_eq_true_of_le (by show c.ins.toNat * 1 ≤ _; omega))))
  · simp only [decide_true, Bool.and_self, Bool.and_true, Bool.true_and, cond_true]
    refine condI (fun h => by have := of_decide_eq_true h; omega) (fun _ => ?_)
    exact hk
theorem law (c : Conf) (b q f : Int) (c0 : (Lit.int .u8 c.ob).wf = true) (c1 : (Lit.int .i64 c.ins).wf = true) (c2 : (Lit.int .i64 c.thr).wf = true) (c3 : (Lit.int .u8 c.kind).wf = true) (c4 : (Lit.int .i64 c.str).wf = true) (c5 : (Lit.int .i64 c.bits).wf = true) (c6 : (Lit.int .i64 c.cap).wf = true) (c7 : (Lit.int .i64 c.node).wf = true) (c8 : (Lit.int .i64 c.batch).wf = true) (c9 : (Lit.int .i64 c.chunk).wf = true) (c10 : (Lit.int .u64 c.limit).wf = true) (c11 : (Lit.int .u64 c.most).wf = true) (wb : (Lit.int .u64 b).wf = true) (wq : (Lit.int .u64 q).wf = true) (wf : (Lit.int .i64 f).wf = true) : ACalls Try.prog (fun _ => none) 3 [c.av, .int .u64 b, .int .u64 q, .int .i64 f] (fun v => v = .bool true) := walk c b q f (wf_iff.1 wb).1 (wf_iff.1 wq).1
end Go.Bas.BasOnce2
