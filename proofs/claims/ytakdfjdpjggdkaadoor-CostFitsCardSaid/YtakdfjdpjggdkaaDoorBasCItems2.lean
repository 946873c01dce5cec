/- How many items there are so many levels up: the document's function. -/
import Derived.Test.YtakdfjdpjggdkaaDoorBasCItems
namespace Go.Bas.BasCItems2
open Go.RowKit Go.Proofs Go.Bas.BasCBase Go.Bas.BasCItems
set_option maxRecDepth 100000
set_option linter.unusedVariables false
set_option linter.unusedSimpArgs false
theorem hN : (cfg []).Ok := cfg_ok base sums_nil
theorem io_code : loopN (fcode Tryd.prog 57) 0 = .loop (loopAt (fcode Tryd.prog 57) [0]) := by kernel_rfl
theorem io_loops : loopsOf (fcode Tryd.prog 57) = [loopN (fcode Tryd.prog 57) 0] := by kernel_rfl
theorem ii_loops : loopsOf (loopAt (fcode Tryd.prog 57) [0]) = [.loop (loopAt (fcode Tryd.prog 57) [0, 0])] := by kernel_rfl
theorem wS {a : Nat} (h : a < 9223372036854775808) : IntKind.wrap .i64 (a : Int) = (a : Int) := by
  unfold IntKind.wrap
  simp [IntKind.bits, IntKind.signed]
  omega
theorem G_ii_ok : ∀ (m w h k0 n i : Int) (k : Ex → St → Bool), G_ii m w h k0 n i k = true → AWq (cfg []) (.loop (loopAt (fcode Tryd.prog 57) [0, 0])) (I_ii m w h k0 n i) (fun e s => k e s = true) := by
  intro m w h k0 n i k hG
  unfold G_ii at hG
  rcases of_cond2 hG with ⟨hok, hG2⟩ | ⟨_, hG2⟩
  case inr => cases hG2
  clear hG
  simp only [inOk, Bool.and_eq_true, decide_eq_true_eq] at hok
  obtain ⟨h0, h1, h2, h3, rfl, rfl⟩ := hok
  obtain ⟨M, rfl⟩ := Int.eq_ofNat_of_zero_le h0
  obtain ⟨W, rfl⟩ := Int.eq_ofNat_of_zero_le (show 0 ≤ w by omega)
  have hW : 0 < W := by omega
  have hc : cdI (M : Int) (W : Int) = ((cdiv M W : Nat) : Int) := by unfold cdI; rw [Int.toNat_natCast, Int.toNat_natCast]
  rw [hc] at hG2
  have hcl := cdiv_le (m := M) hW
  rw [show I_ii (M : Int) (W : Int) h k0 0 0 = I_ii (M : Int) (W : Int) h k0 ((0 : Nat) : Int) ((0 * W : Nat) : Int) by rw [Nat.zero_mul]; rfl]
  refine AWq.loop (K := fun e s => k e s = true) (fun j : { j : Nat // j ≤ cdiv M W } => I_ii (M : Int) (W : Int) h k0 ((j.1 : Nat) : Int) ((j.1 * W : Nat) : Int)) (fun j => cdiv M W - j.1) ?_ ⟨0, Nat.zero_le _⟩
  rintro ⟨j, hj⟩
  refine AWq.runK hN [0, 1, 2, 7, 8, 9] (n := 100) fun k' hk => ?_
  refine (t_iib (M : Int) (W : Int) h k0 ((j : Nat) : Int) ((j * W : Nat) : Int) k').trans ?_
  refine condI (fun hh => ?_) (fun hh => ?_)
  · have hlt : j * W < M := by have := of_decide_eq_true hh; omega
    have hlt' := (cdiv_lt hW).2 hlt
    have e1 : IntKind.wrap .i64 (((j : Nat) : Int) + 1) = ((j + 1 : Nat) : Int) := wS (a := j + 1) (by omega)
    have e2 : IntKind.wrap .i64 (((j * W : Nat) : Int) + (W : Int)) = (((j + 1) * W : Nat) : Int) := by
      rw [Nat.succ_mul, show ((j * W : Nat) : Int) + (W : Int) = ((j * W + W : Nat) : Int) by omega]
      exact wS (by omega)
    rw [e1, e2]
    exact hk .normal _ ⟨⟨j + 1, hlt'⟩, by show cdiv M W - (j + 1) < cdiv M W - j; omega, Less.refl _⟩
  · have hge : ¬ j < cdiv M W := fun hl => by have := (cdiv_lt hW).1 hl; have := of_decide_eq_false hh; omega
    have hje : j = cdiv M W := by omega
    rw [← hje] at hG2
    exact hk (.exit 2) _ ⟨_, LessS.fill rfl (AllL_cons rfl (AllL_cons rfl (AllL_cons rfl (AllL_cons rfl AllL_nil)))) rfl rfl, hG2⟩
theorem ii_ok : LoopsOk (cfg []) (loopsOf (loopAt (fcode Tryd.prog 57) [0])) [F_ii] := by
  rw [ii_loops]
  exact ⟨fun st k h => P_ii_ok G_ii_ok st k h, trivial⟩
theorem G_io_ok : ∀ (m w h k0 : Int) (k : Ex → St → Bool), G_io m w h k0 k = true → AWq (cfg []) (loopN (fcode Tryd.prog 57) 0) (I_io m w h k0) (fun e s => k e s = true) := by
  intro m w h k0 k hG
  unfold G_io at hG
  rcases of_cond2 hG with ⟨hok, hG2⟩ | ⟨_, hG2⟩
  case inr => cases hG2
  clear hG
  simp only [outOk, Bool.and_eq_true, decide_eq_true_eq] at hok
  obtain ⟨h0, h1, h2, h3, h4, h5, rfl⟩ := hok
  obtain ⟨M, rfl⟩ := Int.eq_ofNat_of_zero_le h0
  obtain ⟨W, rfl⟩ := Int.eq_ofNat_of_zero_le (show 0 ≤ w by omega)
  obtain ⟨H, rfl⟩ := Int.eq_ofNat_of_zero_le h4
  have hW : 0 < W := by omega
  have hc : itI (M : Int) (W : Int) (H : Int) = ((itm M W H : Nat) : Int) := by unfold itI; rw [Int.toNat_natCast, Int.toNat_natCast, Int.toNat_natCast]
  rw [hc] at hG2
  rw [io_code]
  show AWq _ _ (I_io ((itm M W 0 : Nat) : Int) (W : Int) (H : Int) ((0 : Nat) : Int)) _
  refine AWq.loop (K := fun e s => k e s = true) (fun j : { j : Nat // j ≤ H } => I_io ((itm M W j.1 : Nat) : Int) (W : Int) (H : Int) ((j.1 : Nat) : Int)) (fun j => H - j.1) ?_ ⟨0, Nat.zero_le _⟩
  rintro ⟨j, hj⟩
  refine AWq.runMK hN [0, 1, 2, 7] (n := 100) ii_ok fun k' hk => ?_
  refine (t_iob ((itm M W j : Nat) : Int) (W : Int) (H : Int) ((j : Nat) : Int) k').trans ?_
  refine condI (fun hh => ?_) (fun hh => ?_)
  · have hlt : j < H := by have := of_decide_eq_true hh; omega
    have hle := itm_le (m := M) hW j
    have e0 : inOk ((itm M W j : Nat) : Int) (W : Int) 0 0 = true := by simp [inOk]; omega
    have e1 : IntKind.wrap .i64 (((j : Nat) : Int) + 1) = ((j + 1 : Nat) : Int) := wS (a := j + 1) (by omega)
    have e2 : cdI ((itm M W j : Nat) : Int) (W : Int) = ((itm M W (j + 1) : Nat) : Int) := by unfold cdI; rw [Int.toNat_natCast, Int.toNat_natCast]; rfl
    rw [e0, e1, e2]
    exact hk .normal _ ⟨⟨j + 1, hlt⟩, by show H - (j + 1) < H - j; omega, Less.refl _⟩
  · have hje : j = H := by have := of_decide_eq_false hh; omega
    rw [← hje] at hG2
    exact hk (.exit 0) _ ⟨_, LessS.fill rfl (AllL_cons rfl AllL_nil) rfl rfl, hG2⟩
theorem io_ok : LoopsOk (cfg []) (loopsOf (fcode Tryd.prog 57)) [F_io] := by
  rw [io_loops]
  exact ⟨fun st k h => P_io_ok G_io_ok st k h, trivial⟩
theorem s_items : SumOk Tryd.prog (gmap gs) S_items := fun args r hr => by
  simp only [S_items] at hr
  unfold Fit at hr
  split at hr
  · rename_i m w h
    simp only [Option.some.injEq, Prod.mk.injEq] at hr
    obtain ⟨hp, rfl⟩ := hr
    refine acalls_eqM base sums_nil (n := 300) (fs := [F_io]) (by kernel_rfl) io_ok fun k hk => ?_
    refine (t_items m w h k).trans ?_
    rw [hp]
    exact hk
  · cases hr
end Go.Bas.BasCItems2
