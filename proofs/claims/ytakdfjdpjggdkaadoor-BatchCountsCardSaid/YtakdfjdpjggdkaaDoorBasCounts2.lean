/- Contracts: how many threads a mask has, and which one is that of a number: the loops, and the functions. -/
import Derived.Test.YtakdfjdpjggdkaaDoorBasCounts
namespace Go.Bas.BasCounts2
open Go.RowKit Go.Proofs Go.Bas.BasDBase Go.Bas.BasDChoose Go.Bas.BasDChoose2 Go.Bas.BasCounts
set_option maxRecDepth 100000
set_option linter.unusedVariables false
set_option linter.unusedSimpArgs false

theorem lt64_true {x : Int} : lt64 x = true ↔ 0 ≤ x ∧ x < 18446744073709551616 := by simp [lt64]
theorem ltk_true {k x : Int} : ltk k x = true ↔ 0 ≤ k ∧ k < popS x := by simp [ltk]
theorem prS_lt {x : Int} : prS x = lt64 x := by
  rw [Bool.eq_iff_iff, lt64_true]
  simp [prS]
/-! ### The lowest bit -/
def idx (t : Nat) : Nat := 2 ^ t * 285870213051353865 % 18446744073709551616 / 288230376151711744
theorem tab : ((List.range 64).all fun t => Nat.blt (idx t) 64 && ((lget cells0 (idx t)).isI .u8 && decide ((lget cells0 (idx t)).toI = (t : Int)))) = true := by kernel_rfl
theorem tab' {t : Nat} (h : t < 64) : idx t < 64 ∧ (lget cells0 (idx t)).isI .u8 = true ∧ (lget cells0 (idx t)).toI = (t : Int) := by
  have := List.all_eq_true.1 tab t (List.mem_range.2 h)
  simp only [Bool.and_eq_true, decide_eq_true_eq] at this
  exact ⟨blt_iff.1 this.1, this.2.1, this.2.2⟩
theorem wrap_mod (a : Nat) : IntKind.wrap .u64 (a : Int) = ((a % 18446744073709551616 : Nat) : Int) := by
  unfold IntKind.wrap
  simp [IntKind.bits, IntKind.signed]
theorem wrap_neg {x : Int} (h0 : 0 < x) (h1 : x < 18446744073709551616) : IntKind.wrap .u64 (0 - x) = 18446744073709551616 - x := by
  unfold IntKind.wrap
  simp [IntKind.bits, IntKind.signed]
  omega
def prT (x : Int) : Bool := lt64 x && !eqj x 0
theorem cnt_pos {n : Nat} (h : 0 < n) (hn : n < 18446744073709551616) : 0 < cnt 64 n := by
  rcases Nat.eq_zero_or_pos (cnt 64 n) with e | e
  · have := clr_none' hn
    rw [e] at this
    have : n = 0 := this
    omega
  · exact e
theorem alone_eq {n : Nat} (h : 0 < n) (hn : n < 18446744073709551616) : iand .u64 (n : Int) (IntKind.wrap .u64 (0 - (n : Int))) = ((2 ^ nthB n 0 : Nat) : Int) := by
  have hl : Low n (nthB n 0) := clr_low (x := n) (k := 0) (cnt_pos h hn)
  rw [wrap_neg (by omega) (by omega), show (18446744073709551616 : Int) - (n : Int) = ((18446744073709551616 - n : Nat) : Int) by omega, iandN hn (by omega), hl.alone' hn h]
theorem idx_eq {n : Nat} (h : 0 < n) (hn : n < 18446744073709551616) : ishr .u64 (IntKind.wrap .u64 (iand .u64 (n : Int) (IntKind.wrap .u64 (0 - (n : Int))) * 285870213051353865)) 58 = ((idx (nthB n 0) : Nat) : Int) := by
  have e58 : (2 : Nat) ^ 58 = 288230376151711744 := by decide
  have e1 : ((2 ^ nthB n 0 : Nat) : Int) * 285870213051353865 = ((2 ^ nthB n 0 * 285870213051353865 : Nat) : Int) := (Int.natCast_mul _ 285870213051353865).symm
  have e2 := ishrN (a := 2 ^ nthB n 0 * 285870213051353865 % 18446744073709551616) (k := 58) (by decide)
  rw [e58] at e2
  rw [alone_eq h hn, e1, wrap_mod]
  exact e2
theorem tz_of (x : Int) (k : AV → Bool) (h0 : 0 < x) (h1 : x < 18446744073709551616) (hk : k (.int .i64 (tzI x)) = true) : runF (cfg []) 300 34 [.int .u64 x] k false = true := by
  obtain ⟨n, rfl⟩ := Int.eq_ofNat_of_zero_le (Int.le_of_lt h0)
  have hn : n < 18446744073709551616 := by omega
  have hpos : 0 < n := by omega
  have hne : ¬ (n : Int) = 0 := by omega
  obtain ⟨p1, p2, p3⟩ := nth_is (cnt_pos hpos hn)
  obtain ⟨q1, q2, q3⟩ := tab' p3
  have q3' : IntKind.wrap .i64 ((lget cells0 (idx (nthB n 0))).toI) = tzI (n : Int) := by
    rw [q3]
    exact wrapS (a := nthB n 0) (by omega)
  have hcells : cells0 = [.int .u8 0, .int .u8 1, .int .u8 56, .int .u8 2, .int .u8 57, .int .u8 49, .int .u8 28, .int .u8 3, .int .u8 61, .int .u8 58, .int .u8 42, .int .u8 50, .int .u8 38, .int .u8 29, .int .u8 17, .int .u8 4, .int .u8 62, .int .u8 47, .int .u8 59, .int .u8 36, .int .u8 45, .int .u8 43, .int .u8 51, .int .u8 22, .int .u8 53, .int .u8 39, .int .u8 33, .int .u8 30, .int .u8 24, .int .u8 18, .int .u8 12, .int .u8 5, .int .u8 63, .int .u8 55, .int .u8 48, .int .u8 27, .int .u8 60, .int .u8 41, .int .u8 37, .int .u8 16, .int .u8 46, .int .u8 35, .int .u8 44, .int .u8 21, .int .u8 52, .int .u8 32, .int .u8 23, .int .u8 11, .int .u8 54, .int .u8 26, .int .u8 40, .int .u8 15, .int .u8 34, .int .u8 20, .int .u8 31, .int .u8 10, .int .u8 25, .int .u8 14, .int .u8 19, .int .u8 9, .int .u8 13, .int .u8 8, .int .u8 7, .int .u8 6] := rfl
  rw [hcells] at q2 q3'
  have q4 : inside ((idx (nthB n 0) : Nat) : Int) 64 = true := by simp only [inside, Bool.and_eq_true, decide_eq_true_eq]; omega
  have q5 : Nat.ble (idx (nthB n 0) + 1) 64 = true := Nat.ble_eq_true_of_le q1
  have e0 : 0 + Int.toNat ((idx (nthB n 0) : Nat) : Int) * 1 = idx (nthB n 0) := by rw [Int.toNat_natCast, Nat.mul_one, Nat.zero_add]
  rw [t_tz, idx_eq hpos hn, e0, q4, q5, q2, q3']
  exact condI (fun h => absurd (of_decide_eq_true h) hne) (fun _ => hk)
theorem s_tz : SumOk Tryd.prog (gmap gs) (SA_tz tzI prT) := fun args r hr => by
  simp only [SA_tz] at hr
  unfold FA at hr
  split at hr
  · rename_i x
    simp only [Option.some.injEq, Prod.mk.injEq, prT, Bool.and_eq_true, lt64_true, eqj, Bool.not_eq_true', decide_eq_false_iff_not] at hr
    obtain ⟨⟨⟨h0, h1⟩, hne⟩, rfl⟩ := hr
    exact acalls_eq base sums_nil (n := 300) fun k hk => tz_of x k (by omega) h1 hk
  · cases hr
/-! ### The loops -/
theorem hT : (cfg [SA_size popS prS, SA_tz tzI prT]).Ok := cfg_ok base (sums_cons s_sizeA (sums_cons s_tz sums_nil))
def pB (t : Int) : Bool := decide (0 ≤ t)
theorem s_bitA : SumOk Tryd.prog (gmap gs) (SA_bit bitS pB) := fun args r h => s_bit args r (by
  simp only [SA_bit, FB] at h
  split at h
  · exact h
  · cases h)
theorem hB : (cfg [SA_bit bitS pB]).Ok := cfg_ok base (sums_cons s_bitA sums_nil)
theorem th_code : loopN (fcode Tryd.prog 13) 0 = .loop (loopAt (fcode Tryd.prog 13) [0]) := by kernel_rfl
theorem rs_code : loopN (fcode Tryd.prog 16) 0 = .loop (loopAt (fcode Tryd.prog 16) [0]) := by kernel_rfl
theorem rt_code : loopN (fcode Tryd.prog 14) 0 = .loop (loopAt (fcode Tryd.prog 14) [0]) := by kernel_rfl
theorem th_loops : loopsOf (fcode Tryd.prog 13) = [loopN (fcode Tryd.prog 13) 0] := by kernel_rfl
theorem rs_loops : loopsOf (fcode Tryd.prog 16) = [loopN (fcode Tryd.prog 16) 0] := by kernel_rfl
theorem rt_loops : loopsOf (fcode Tryd.prog 14) = [loopN (fcode Tryd.prog 14) 0] := by kernel_rfl
theorem clr_le (x : Nat) : ∀ i, clr i x ≤ x
  | 0 => Nat.le_refl _
  | i + 1 => Nat.le_trans Nat.and_le_left (clr_le x i)
theorem clr_pos {x i : Nat} (h : i < cnt 64 x) : 0 < clr i x := by
  have := (clr_low h).on
  rcases Nat.eq_zero_or_pos (clr i x) with e | e
  · rw [e, Nat.zero_testBit] at this; cases this
  · exact e
theorem G_th_ok : ∀ (m k0 i : Int) (k : Ex → St → Bool), G_th m k0 i k = true → AWq (cfg [SA_size popS prS, SA_tz tzI prT]) (loopN (fcode Tryd.prog 13) 0) (I_th m k0 i) (fun e s => k e s = true) := by
  intro m k0 i k hG
  unfold G_th at hG
  rcases of_cond2 hG with ⟨hok, hG2⟩ | ⟨_, hG2⟩
  case inr => cases hG2
  clear hG
  simp only [Bool.and_eq_true, lt64_true, ltk_true, eqj, decide_eq_true_eq] at hok
  obtain ⟨⟨h0, h1⟩, ⟨h2, h3⟩, rfl⟩ := hok
  obtain ⟨x, rfl⟩ := Int.eq_ofNat_of_zero_le h0
  obtain ⟨q, rfl⟩ := Int.eq_ofNat_of_zero_le h2
  have hx : x < 18446744073709551616 := by omega
  have hq : q < cnt 64 x := by unfold popS at h3; rw [Int.toNat_natCast] at h3; omega
  have hc64 := cnt_le 64 x
  have hcl : clrI (x : Int) (q : Int) = ((clr q x : Nat) : Int) := by simp [clrI]
  rw [hcl] at hG2
  rw [th_code]
  show AWq _ _ (I_th ((clr 0 x : Nat) : Int) (q : Int) ((0 : Nat) : Int)) _
  refine AWq.loop (K := fun e s => k e s = true) (fun i : { i : Nat // i ≤ q } => I_th ((clr i.1 x : Nat) : Int) (q : Int) ((i.1 : Nat) : Int)) (fun i => q - i.1) ?_ ⟨0, Nat.zero_le _⟩
  rintro ⟨i, hi⟩
  refine AWq.runK hT [0, 14, 15] (n := 100) fun k' hk => ?_
  refine (t_thb popS prS tzI prT ((clr i x : Nat) : Int) (q : Int) ((i : Nat) : Int) k').trans ?_
  refine condI (fun h => ?_) (fun h => ?_)
  · have hlt : i < q := by have := of_decide_eq_true h; omega
    have hp := clr_pos (show i < cnt 64 x by omega)
    have hle := clr_le x i
    have e1 : IntKind.wrap .u64 (((clr i x : Nat) : Int) - 1) = ((clr i x - 1 : Nat) : Int) := by
      rw [show ((clr i x : Nat) : Int) - 1 = ((clr i x - 1 : Nat) : Int) by omega]
      exact wrapN (by omega)
    have e2 : iand .u64 ((clr i x : Nat) : Int) ((clr i x - 1 : Nat) : Int) = ((clr (i + 1) x : Nat) : Int) := iandN (by omega) (by omega)
    have e3 : IntKind.wrap .i64 (((i : Nat) : Int) + 1) = ((i + 1 : Nat) : Int) := wrapS (a := i + 1) (by omega)
    rw [e1, e2, e3]
    exact hk .normal _ ⟨⟨i + 1, hlt⟩, by show q - (i + 1) < q - i; omega, Less.refl _⟩
  · have hge : i = q := by have := of_decide_eq_false h; omega
    subst hge
    refine hk (.exit 0) _ ⟨_, LessS.refl _, ?_⟩
    exact hG2
theorem G_rs_ok : ∀ (x n t : Int) (k : Ex → St → Bool), G_rs x n t k = true → AWq (cfg [SA_bit bitS pB]) (loopN (fcode Tryd.prog 16) 0) (I_rs x n t) (fun e s => k e s = true) := by
  intro x n t k hG
  unfold G_rs at hG
  rcases of_cond2 hG with ⟨hok, hG2⟩ | ⟨_, hG2⟩
  case inr => cases hG2
  clear hG
  simp only [Bool.and_eq_true, lt64_true, eqj, decide_eq_true_eq] at hok
  obtain ⟨⟨h0, h1⟩, rfl, rfl⟩ := hok
  rw [rs_code]
  show AWq _ _ (I_rs x ((cnt 0 x.toNat : Nat) : Int) ((0 : Nat) : Int)) _
  refine AWq.loop (K := fun e s => k e s = true) (fun t : { t : Nat // t ≤ 64 } => I_rs x ((cnt t.1 x.toNat : Nat) : Int) ((t.1 : Nat) : Int)) (fun t => 64 - t.1) ?_ ⟨0, Nat.zero_le _⟩
  rintro ⟨t, ht⟩
  refine AWq.runK hB [0, 3, 4] (n := 100) fun k' hk => ?_
  refine (t_rsb bitS pB x ((cnt t x.toNat : Nat) : Int) ((t : Nat) : Int) k').trans ?_
  refine condI (fun h => ?_) (fun h => ?_)
  · have hlt : t < 64 := by have := of_decide_eq_true h; omega
    have hle := cnt_le t x.toNat
    have e3 : IntKind.wrap .i64 (((t : Nat) : Int) + 1) = ((t + 1 : Nat) : Int) := wrapS (a := t + 1) (by omega)
    have hs := cnt_succ t x.toNat
    rw [e3, bit_eq h0 ht]
    refine andI (decide_eq_true (by omega)) (condI (fun hb => ?_) (fun hb => ?_))
    · have hb := of_decide_eq_true hb
      have e4 : IntKind.wrap .i64 (((cnt t x.toNat : Nat) : Int) + 1) = ((cnt (t + 1) x.toNat : Nat) : Int) := by
        rw [hs, show x.toNat / 2 ^ t % 2 = 1 by omega]
        exact wrapS (a := cnt t x.toNat + 1) (by omega)
      rw [e4]
      exact hk .normal _ ⟨⟨t + 1, hlt⟩, by show 64 - (t + 1) < 64 - t; omega, Less.refl _⟩
    · have hb := of_decide_eq_false hb
      have e4 : cnt (t + 1) x.toNat = cnt t x.toNat := by
        rw [hs, show x.toNat / 2 ^ t % 2 = 0 by omega, Nat.add_zero]
      rw [← e4]
      exact hk .normal _ ⟨⟨t + 1, hlt⟩, by show 64 - (t + 1) < 64 - t; omega, Less.refl _⟩
  · have hge : t = 64 := by have := of_decide_eq_false h; omega
    subst hge
    exact hk (.exit 0) _ ⟨_, LessS.refl _, hG2⟩
theorem rs_ok : LoopsOk (cfg [SA_bit bitS pB]) (loopsOf (fcode Tryd.prog 16)) [F_rs] := by
  rw [rs_loops]
  exact ⟨fun st k h => P_rs_ok G_rs_ok st k h, trivial⟩
theorem th_ok : LoopsOk (cfg [SA_size popS prS, SA_tz tzI prT]) (loopsOf (fcode Tryd.prog 13)) [F_th] := by
  rw [th_loops]
  exact ⟨fun st k h => P_th_ok G_th_ok st k h, trivial⟩
theorem s_rsize : SumOk Tryd.prog (gmap gs) (SA_rsize popS lt64) := fun args r hr => by
  simp only [SA_rsize] at hr
  unfold FA at hr
  split at hr
  · rename_i x
    simp only [Option.some.injEq, Prod.mk.injEq] at hr
    obtain ⟨hp, rfl⟩ := hr
    refine acalls_eqM base (sums_cons s_bitA sums_nil) (n := 300) (fs := [F_rs]) (by kernel_rfl) rs_ok fun k hk => ?_
    refine (t_rs bitS pB x k).trans ?_
    rw [hp]
    exact hk
  · cases hr
theorem hBR : (cfg [SA_bit bitS pB, SA_rsize popS lt64]).Ok := cfg_ok base (sums_cons s_bitA (sums_cons s_rsize sums_nil))
theorem G_rt_ok : ∀ (x k0 t : Int) (k : Ex → St → Bool), G_rt x k0 t k = true → AWq (cfg [SA_bit bitS pB, SA_rsize popS lt64]) (loopN (fcode Tryd.prog 14) 0) (I_rt x k0 t) (fun e s => k e s = true) := by
  intro x k0 t k hG
  unfold G_rt at hG
  rcases of_cond2 hG with ⟨hok, hG2⟩ | ⟨_, hG2⟩
  case inr => cases hG2
  clear hG
  simp only [Bool.and_eq_true, lt64_true, ltk_true, eqj, decide_eq_true_eq] at hok
  obtain ⟨⟨h0, h1⟩, ⟨h2, h3⟩, rfl⟩ := hok
  obtain ⟨q, rfl⟩ := Int.eq_ofNat_of_zero_le h2
  have hq : q < cnt 64 x.toNat := by unfold popS at h3; omega
  have hc64 := cnt_le 64 x.toNat
  rw [rt_code]
  show AWq _ _ (I_rt x ((q - cnt 0 x.toNat : Nat) : Int) ((0 : Nat) : Int)) _
  refine AWq.loop (K := fun e s => k e s = true) (fun t : { t : Nat // t ≤ 64 ∧ cnt t x.toNat ≤ q } => I_rt x ((q - cnt t.1 x.toNat : Nat) : Int) ((t.1 : Nat) : Int)) (fun t => 64 - t.1) ?_ ⟨0, Nat.zero_le _, Nat.zero_le _⟩
  rintro ⟨t, ht, hct⟩
  refine AWq.runK hBR [0, 1, 4, 5, 6] (n := 100) fun k' hk => ?_
  refine (t_rtb bitS pB popS lt64 x ((q - cnt t x.toNat : Nat) : Int) ((t : Nat) : Int) k').trans ?_
  refine condI (fun h => ?_) (fun h => ?_)
  · have hlt : t < 64 := by have := of_decide_eq_true h; omega
    have e3 : IntKind.wrap .i64 (((t : Nat) : Int) + 1) = ((t + 1 : Nat) : Int) := wrapS (a := t + 1) (by omega)
    have hs := cnt_succ t x.toNat
    rw [e3, bit_eq h0 ht]
    refine andI (decide_eq_true (by omega)) (condI (fun hb => ?_) (fun hb => ?_))
    · have hb := of_decide_eq_true hb
      have hb1 : x.toNat / 2 ^ t % 2 = 1 := by omega
      refine condI (fun hz => ?_) (fun hz => ?_)
      · have hz := of_decide_eq_true hz
        have hn : nthB x.toNat q = t := nth_eq (by rw [Nat.testBit_eq_decide_div_mod_eq, hb1]; rfl) (by omega) hlt
        have hnI : nthI x (q : Int) = (t : Int) := by unfold nthI; rw [Int.toNat_natCast, hn]
        rw [hnI] at hG2
        refine hk .ret _ ⟨_, LessS.fill rfl (AllL_cons rfl (AllL_cons rfl AllL_nil)) rfl rfl, hG2⟩
      · have hz := of_decide_eq_false hz
        have e4 : IntKind.wrap .i64 (((q - cnt t x.toNat : Nat) : Int) - 1) = ((q - cnt (t + 1) x.toNat : Nat) : Int) := by
          rw [hs, hb1, show ((q - cnt t x.toNat : Nat) : Int) - 1 = ((q - (cnt t x.toNat + 1) : Nat) : Int) by omega]
          exact wrapS (by omega)
        rw [e4]
        exact hk .normal _ ⟨⟨t + 1, hlt, by rw [hs, hb1]; omega⟩, by show 64 - (t + 1) < 64 - t; omega, Less.refl _⟩
    · have hb := of_decide_eq_false hb
      have e4 : cnt (t + 1) x.toNat = cnt t x.toNat := by
        rw [hs, show x.toNat / 2 ^ t % 2 = 0 by omega, Nat.add_zero]
      rw [← e4]
      exact hk .normal _ ⟨⟨t + 1, hlt, by rw [e4]; exact hct⟩, by show 64 - (t + 1) < 64 - t; omega, Less.refl _⟩
  · have hge : t = 64 := by have := of_decide_eq_false h; omega
    subst hge
    omega
theorem rt_ok : LoopsOk (cfg [SA_bit bitS pB, SA_rsize popS lt64]) (loopsOf (fcode Tryd.prog 14)) [F_rt] := by
  rw [rt_loops]
  exact ⟨fun st k h => P_rt_ok G_rt_ok st k h, trivial⟩
/-! ### The threads of a mask -/
def S_th : Sum := (13, Fth)
def S_rth : Sum := (14, Fth)
theorem s_th : SumOk Tryd.prog (gmap gs) S_th := fun args r hr => by
  simp only [S_th] at hr
  unfold Fth at hr
  split at hr
  · rename_i x n
    simp only [Option.some.injEq, Prod.mk.injEq] at hr
    obtain ⟨hp, rfl⟩ := hr
    refine acalls_eqM base (sums_cons s_sizeA (sums_cons s_tz sums_nil)) (n := 300) (fs := [F_th]) (by kernel_rfl) th_ok fun k hk => ?_
    refine (t_th popS prS tzI prT x n k).trans ?_
    rw [prS_lt, hp]
    cases hk0 : ltk n x with
    | false =>
      rw [thErr, hk0] at hk
      refine condI (fun _ => hk) (fun a => andI rfl (condI (fun _ => hk) (fun b => ?_)))
      have a := of_decide_eq_false a
      have b := of_decide_eq_false b
      have : ltk n x = true := ltk_true.2 ⟨by omega, by omega⟩
      rw [hk0] at this; cases this
    | true =>
      rw [thErr, hk0] at hk
      obtain ⟨a, b⟩ := ltk_true.1 hk0
      obtain ⟨h0, h1⟩ := lt64_true.1 hp
      obtain ⟨y, rfl⟩ := Int.eq_ofNat_of_zero_le h0
      obtain ⟨q, rfl⟩ := Int.eq_ofNat_of_zero_le a
      have hy : y < 18446744073709551616 := by omega
      have hq : q < cnt 64 y := by unfold popS at b; rw [Int.toNat_natCast] at b; omega
      have hp1 := clr_pos hq
      have hle := clr_le y q
      have hpr : prT (clrI (y : Int) (q : Int)) = true := by
        have e : clrI (y : Int) (q : Int) = ((clr q y : Nat) : Int) := by simp [clrI]
        have e1 : lt64 ((clr q y : Nat) : Int) = true := lt64_true.2 ⟨by omega, by omega⟩
        have e2 : eqj ((clr q y : Nat) : Int) 0 = false := decide_eq_false (by omega)
        rw [e, prT, e1, e2]
        rfl
      have htz : tzI (clrI (y : Int) (q : Int)) = nthI (y : Int) (q : Int) := by
        have hl := clr_low hq
        have hc : 0 < cnt 64 (clr q y) := by
          rcases Nat.eq_zero_or_pos (cnt 64 (clr q y)) with e | e
          · have := clr_none' (x := clr q y) (by omega)
            rw [e] at this
            have : clr q y = 0 := this
            omega
          · exact e
        have hl2 := clr_low hc
        have hl2 : Low (clr q y) (nthB (clr q y) 0) := hl2
        have : nthB (clr q y) 0 = nthB y q := by
          rcases Nat.lt_trichotomy (nthB (clr q y) 0) (nthB y q) with h | h | h
          · have := hl.off _ h
            rw [hl2.on] at this; cases this
          · exact h
          · have := hl2.off _ h
            rw [hl.on] at this; cases this
        simp only [tzI, clrI, nthI, Int.toNat_natCast, this]
      have a1 : ¬ (q : Int) < 0 := by omega
      have a2 : ¬ (q : Int) ≥ popS (y : Int) := by omega
      simp only [a1, a2, decide_false, cond_false, hpr, htz, Bool.true_and]
      exact hk
  · cases hr
theorem s_rth : SumOk Tryd.prog (gmap gs) S_rth := fun args r hr => by
  simp only [S_rth] at hr
  unfold Fth at hr
  split at hr
  · rename_i x n
    simp only [Option.some.injEq, Prod.mk.injEq] at hr
    obtain ⟨hp, rfl⟩ := hr
    refine acalls_eqM base (sums_cons s_bitA (sums_cons s_rsize sums_nil)) (n := 300) (fs := [F_rt]) (by kernel_rfl) rt_ok fun k hk => ?_
    refine (t_rt bitS pB popS lt64 x n k).trans ?_
    rw [hp]
    cases hk0 : ltk n x with
    | false =>
      rw [thErr, hk0] at hk
      refine condI (fun _ => hk) (fun a => andI rfl (condI (fun _ => hk) (fun b => ?_)))
      have a := of_decide_eq_false a
      have b := of_decide_eq_false b
      have : ltk n x = true := ltk_true.2 ⟨by omega, by omega⟩
      rw [hk0] at this; cases this
    | true =>
      rw [thErr, hk0] at hk
      obtain ⟨a, b⟩ := ltk_true.1 hk0
      have a1 : ¬ n < 0 := by omega
      have a2 : ¬ n ≥ popS x := by omega
      simp only [a1, a2, decide_false, cond_false, Bool.true_and]
      exact hk
  · cases hr
end Go.Bas.BasCounts2
