/- The laws BatchCounts and BatchOrder, walked. -/
import Derived.Test.YtakdfjdpjggdkaaDoorBasOrder
namespace Go.Bas.BasOrder2
open Go.RowKit Go.Proofs Go.Bas.BasDBase Go.Bas.BasDChoose Go.Bas.BasDChoose2 Go.Bas.BasCounts Go.Bas.BasCounts2 Go.Bas.BasOrder Go.Bas.BasDAlive
set_option maxRecDepth 100000
set_option linter.unusedVariables false
set_option linter.unusedSimpArgs false
theorem s_aliveS : SumOk Tryd.prog (gmap gs) S_alive := fun args r hr => by
  cases args with
  | nil =>
    obtain rfl : AV.bool true = r := by simpa [S_alive] using hr
    exact s_alive
  | cons a b => simp [S_alive] at hr
theorem hO : (cfg [S_alive, SA_size popS prS, S_th]).Ok := cfg_ok base (sums_cons s_aliveS (sums_cons s_sizeA (sums_cons s_th sums_nil)))
theorem bo_code : loopN (fcode Tryd.prog 6) 0 = .loop (loopAt (fcode Tryd.prog 6) [0]) := by kernel_rfl
theorem bo_loops : loopsOf (fcode Tryd.prog 6) = [loopN (fcode Tryd.prog 6) 0] := by kernel_rfl
/-- What was summed up, and the last one. -/
def sumK (x k : Nat) : Nat := x - clr k x
def lastK (x : Nat) : Nat → Int
  | 0 => -1
  | k + 1 => (nthB x k : Nat)
theorem shlN {t : Nat} (h : t < 64) : ishl .u64 1 (t : Int) = ((2 ^ t : Nat) : Int) := by
  have hp : 2 ^ t < 2 ^ 64 := Nat.pow_lt_pow_right (by decide) h
  unfold ishl
  have h1 : min (t : Int).toNat IntKind.u64.bits = t := by simp [IntKind.bits]; omega
  rw [h1, Int.one_mul, ← wrapN (a := 2 ^ t) (by omega)]
  congr 1
theorem G_bo_ok : ∀ (x : Int) (ok : Bool) (n s l k0 : Int) (k : Ex → St → Bool), G_bo x ok n s l k0 k = true → AWq (cfg [S_alive, SA_size popS prS, S_th]) (loopN (fcode Tryd.prog 6) 0) (I_bo x ok n s l k0) (fun e s => k e s = true) := by
  intro x ok n s l k0 k hG
  unfold G_bo at hG
  rcases of_cond2 hG with ⟨hok, hG2⟩ | ⟨_, hG2⟩
  case inr => cases hG2
  clear hG
  simp only [Bool.and_eq_true, lt64_true, eqj, decide_eq_true_eq] at hok
  obtain ⟨⟨h0, h1⟩, rfl, rfl, rfl, rfl⟩ := hok
  obtain ⟨x, rfl⟩ := Int.eq_ofNat_of_zero_le h0
  have hx : x < 18446744073709551616 := by omega
  have hpop : popS (x : Int) = ((cnt 64 x : Nat) : Int) := by unfold popS; rw [Int.toNat_natCast]
  have hlt : lt64 (x : Int) = true := lt64_true.2 ⟨h0, h1⟩
  have hc64 := cnt_le 64 x
  have hs0 : sumK x 0 = 0 := Nat.sub_self x
  rw [bo_code, show I_bo (x : Int) ok (popS (x : Int)) 0 (-1) 0 = I_bo (x : Int) ok (popS (x : Int)) ((sumK x 0 : Nat) : Int) (lastK x 0) ((0 : Nat) : Int) by rw [hs0]; rfl]
  refine AWq.loop (K := fun e s => k e s = true) (fun i : { i : Nat // i ≤ cnt 64 x } => I_bo (x : Int) ok (popS (x : Int)) ((sumK x i.1 : Nat) : Int) (lastK x i.1) ((i.1 : Nat) : Int)) (fun i => cnt 64 x - i.1) ?_ ⟨0, Nat.zero_le _⟩
  rintro ⟨i, hi⟩
  refine AWq.runK hO [0, 3, 4, 5, 6, 7] (n := 100) fun k' hk => ?_
  refine (t_bob popS prS (x : Int) ok (popS (x : Int)) ((sumK x i : Nat) : Int) (lastK x i) ((i : Nat) : Int) k').trans ?_
  refine condI (fun h => ?_) (fun h => ?_)
  · have hlti : i < cnt 64 x := by have := of_decide_eq_true h; omega
    obtain ⟨p1, p2, p3⟩ := nth_is hlti
    have hltk : ltk (i : Int) (x : Int) = true := ltk_true.2 ⟨by omega, by omega⟩
    have hn : nthI (x : Int) (i : Int) = ((nthB x i : Nat) : Int) := by unfold nthI; rw [Int.toNat_natCast, Int.toNat_natCast]
    have he : thErr (x : Int) (i : Int) = 0 := by unfold thErr; rw [hltk]; rfl
    have hw : IntKind.wrap .i64 (((i : Nat) : Int) + 1) = ((i + 1 : Nat) : Int) := wrapS (a := i + 1) (by omega)
    have ha := clr_add hlti
    have hle := clr_le x i
    have hsum : IntKind.wrap .u64 (((sumK x i : Nat) : Int) + ishl .u64 1 ((nthB x i : Nat) : Int)) = ((sumK x (i + 1) : Nat) : Int) := by
      have hP := Nat.two_pow_pos (nthB x i)
      rw [shlN p3]
      unfold sumK
      generalize 2 ^ nthB x i = P at ha hP ⊢
      rw [show ((x - clr i x : Nat) : Int) + (P : Int) = ((x - clr (i + 1) x : Nat) : Int) by omega]
      exact wrapN (by omega)
    have hlast : ¬ ((nthB x i : Nat) : Int) ≤ lastK x i := by
      cases i with
      | zero => show ¬ _ ≤ (-1 : Int); omega
      | succ j =>
        have := nth_rise hlti
        show ¬ _ ≤ ((nthB x j : Nat) : Int)
        omega
    have hn63 : ¬ ((nthB x i : Nat) : Int) > 63 := by omega
    have hn0 : ¬ ((nthB x i : Nat) : Int) < 0 := by omega
    simp only [hlt, hltk, hn, he, hw, hsum, hlast, hn63, hn0, cond_true, cond_false, decide_true, decide_false, Bool.not_true, Bool.not_false, Bool.true_and]
    exact hk .normal _ ⟨⟨i + 1, hlti⟩, by show cnt 64 x - (i + 1) < cnt 64 x - i; omega, Less.refl _⟩
  · have hge : i = cnt 64 x := by have := of_decide_eq_false h; omega
    have hs : sumK x i = x := by unfold sumK; rw [hge, clr_none' hx]; rfl
    refine hk (.exit 0) _ ⟨_, LessS.fill (live := [(0, .int .u64 (x : Int)), (3, .bool ok), (5, .int .u64 (x : Int))]) rfl ⟨rfl, rfl, ?_, trivial⟩ rfl rfl, hG2⟩
    show AV.int IntKind.u64 ((sumK x i : Nat) : Int) = _
    rw [hs]
theorem bo_ok : LoopsOk (cfg [S_alive, SA_size popS prS, S_th]) (loopsOf (fcode Tryd.prog 6)) [F_bo] := by
  rw [bo_loops]
  exact ⟨fun st k h => P_bo_ok G_bo_ok st k h, trivial⟩
theorem lawOrder (x : Int) (w : (Lit.int .u64 x).wf = true) : ACalls Tryd.prog (gmap gs) 6 [.int .u64 x] (fun v => v = .bool true) := by
  obtain ⟨h0, h1⟩ := wf_iff.1 w
  have hlt : lt64 x = true := lt64_true.2 ⟨h0, by have : x ≤ 18446744073709551615 := h1; omega⟩
  refine acalls_eqM base (sums_cons s_aliveS (sums_cons s_sizeA (sums_cons s_th sums_nil))) (n := 300) (fs := [F_bo]) (by kernel_rfl) bo_ok fun k hk => ?_
  refine (t_bo popS prS x k).trans ?_
  have hc := cnt_le 64 x.toNat
  have a1 : ¬ popS x < 0 := by unfold popS; omega
  have a2 : ¬ popS x > 64 := by unfold popS; omega
  have a3 : eqj (popS x) (popS x) = true := decide_eq_true rfl
  simp only [prS_lt, hlt, a1, a2, a3, decide_true, decide_false, cond_true, cond_false, Bool.not_true, Bool.true_and, Bool.and_true]
  exact hk
theorem lawCounts (x n : Int) (w : (Lit.int .u64 x).wf = true) (w' : (Lit.int .i64 n).wf = true) : ACalls Tryd.prog (gmap gs) 3 [.int .u64 x, .int .i64 n] (fun v => v = .bool true) := by
  obtain ⟨h0, h1⟩ := wf_iff.1 w
  have hlt : lt64 x = true := lt64_true.2 ⟨h0, by have : x ≤ 18446744073709551615 := h1; omega⟩
  refine acalls_eq base (sums_cons s_th (sums_cons s_rth (sums_cons s_sizeA (sums_cons s_rsize sums_nil)))) (n := 300) fun k hk => ?_
  refine (t_bc popS prS lt64 x n k).trans ?_
  simp only [prS_lt, hlt, decide_true, cond_true, Bool.true_and]
  exact hk
end Go.Bas.BasOrder2
