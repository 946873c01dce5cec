/- The law BatchChooses, walked: the loop that compares, and the whole. -/
import Derived.Test.YtakdfjdpjggdkaaBasBC
import Derived.Test.YtakdfjdpjggdkaaBasBools
namespace Go.Bas.BasBC2
open Go.RowKit Go.Proofs Go.Bas.BasStage Go.Bas.BasChoose Go.Bas.BasChoose2 Go.Bas.BasBC
set_option maxRecDepth 100000
set_option linter.unusedVariables false
set_option linter.unusedSimpArgs false
theorem hC : (cfg [S_ch, S_cr]).Ok := cfg_ok base (sums_cons s_ch (sums_cons s_cr sums_nil))
theorem bc_code : loopN (fcode Try.prog 4) 0 = .loop (loopAt (fcode Try.prog 4) [0]) := by kernel_rfl
theorem bc_loops : loopsOf (fcode Try.prog 4) = [loopN (fcode Try.prog 4) 0] := by kernel_rfl
theorem G_bc_ok : ∀ (cells : List AV) (n n2 : Nat) (ap : Bool) (a8 a9 a10 a11 a12 a13 i : Int) (cc own : List AV) (e0 e1 : TypeId) (pu pv : Bool) (k : Ex → St → Bool), G_bc cells n n2 ap a8 a9 a10 a11 a12 a13 i cc own e0 e1 pu pv k = true →
    AWq (cfg [S_ch, S_cr]) (loopN (fcode Try.prog 4) 0) (I_bc cells n n2 ap a8 a9 a10 a11 a12 a13 i cc own e0 e1 pu pv) (fun e s => k e s = true) := by
  intro cells n n2 ap a8 a9 a10 a11 a12 a13 i cc own e0 e1 pu pv k hG
  unfold G_bc at hG
  rcases of_cond2 hG with ⟨hok, hG2⟩ | ⟨_, hG2⟩
  case inr => cases hG2
  clear hG
  simp only [Bool.and_eq_true, decide_eq_true_eq, sameL, beq_iff] at hok
  obtain ⟨rfl, rfl, hl, hb, rfl, hle, rfl⟩ := hok
  have hle := Nat.le_of_ble_eq_true hle
  rw [bc_code]
  refine AWq.loop (K := fun e s => k e s = true) (fun i : { i : Nat // i ≤ n2 } => I_bc own n2 n2 ap a8 a9 a10 a11 a12 a13 ((i.1 : Nat) : Int) cc own e0 e1 pu true) (fun i => n2 - i.1) ?_ ⟨0, Nat.zero_le _⟩
  rintro ⟨i, hi⟩
  refine AWq.runK hC [1, 7, 8, 9, 10, 11, 12, 13, 14] (n := 100) fun k' hk => ?_
  refine (t_bcb own n2 ap a8 a9 a10 a11 a12 a13 ((i : Nat) : Int) cc e0 e1 pu k').trans ?_
  refine condI (fun h => ?_) (fun h => ?_)
  · have hlt : i < n2 := by have := of_decide_eq_true h; exact Int.ofNat_lt.1 this
    have hin : inside ((i : Nat) : Int) n2 = true := by simp only [inside, Bool.and_eq_true, decide_eq_true_eq]; omega
    have hisb : (lget own i).isB = true := lget_isB hb (by omega)
    have hw : IntKind.wrap .i64 (((i : Nat) : Int) + 1) = ((i + 1 : Nat) : Int) := wrapS (a := i + 1) (by omega)
    simp only [Int.toNat_natCast, Nat.mul_one, Nat.zero_add, hw, hin, hisb, Bool.true_and, decide_true, Bool.not_true, cond_false]
    refine andI (Nat.ble_eq_true_of_le (by omega)) (andI ((beq_iff _ _).2 (by omega)) (andI (Nat.ble_eq_true_of_le (by omega)) ?_))
    exact hk .normal _ ⟨⟨i + 1, hlt⟩, by show n2 - (i + 1) < n2 - i; omega, Less.refl _⟩
  · have hge : i = n2 := by have := of_decide_eq_false h; have : ¬ i < n2 := fun hh => this (Int.ofNat_lt.2 hh); omega
    subst hge
    exact hk (.exit 0) _ ⟨_, LessS.refl _, hG2⟩
theorem bc_ok : LoopsOk (cfg [S_ch, S_cr]) (loopsOf (fcode Try.prog 4)) [F_bc] := by
  rw [bc_loops]
  exact ⟨fun st k h => P_bc_ok G_bc_ok st k h, trivial⟩
theorem walk (c : Conf) (cells : List AV) (n : Nat) (f : Int) (hl : cells.length = n) (hb : cells.all AV.isB = true) : ACalls Try.prog (fun _ => none) 4 [c.av, .lst cells n, .int .i64 f] (fun v => v = .bool true) := by
  refine acalls_eqM base (sums_cons s_ch (sums_cons s_cr sums_nil)) (n := 300) (fs := [F_bc]) (by kernel_rfl) bc_ok fun k hk => ?_
  refine (t_bc c cells n f k).trans ?_
  refine condI (fun _ => hk) (fun h => ?_)
  have hn : n ≤ 100 := by have := of_decide_eq_false h; have : ¬ ((n : Nat) : Int) > 100 := this; omega
  have ht : cells.take n = cells := List.take_of_length_le (by omega)
  have hs : sameL cells cells = true := by simp [sameL]
  simp only [Nat.mul_one, Nat.zero_add, ht, hb, isB_one hb, hs, decide_true, cond_true, Bool.true_and, Bool.and_true]
  have b1 : Nat.beq cells.length n = true := (beq_iff _ _).2 hl
  have b2 : Nat.beq n n = true := (beq_iff _ _).2 rfl
  have b3 : Nat.ble n cells.length = true := Nat.ble_eq_true_of_le (by omega)
  have b4 : Nat.ble n 9223372036854775807 = true := Nat.ble_eq_true_of_le (by omega)
  have b5 : Nat.ble n 140737488355328 = true := Nat.ble_eq_true_of_le (by omega)
  have b6 : Nat.ble n 100 = true := Nat.ble_eq_true_of_le hn
  simp only [b1, b2, b3, b4, b5, b6, Bool.true_and]
  exact hk
theorem law (c : Conf) (rows : List (List Value)) (f : Int) (c0 : (Lit.int .u8 c.ob).wf = true) (c1 : (Lit.int .i64 c.ins).wf = true) (c2 : (Lit.int .i64 c.thr).wf = true) (c3 : (Lit.int .u8 c.kind).wf = true) (c4 : (Lit.int .i64 c.str).wf = true) (c5 : (Lit.int .i64 c.bits).wf = true) (c6 : (Lit.int .i64 c.cap).wf = true) (c7 : (Lit.int .i64 c.node).wf = true) (c8 : (Lit.int .i64 c.batch).wf = true) (c9 : (Lit.int .i64 c.chunk).wf = true) (c10 : (Lit.int .u64 c.limit).wf = true) (c11 : (Lit.int .u64 c.most).wf = true)
    (w : ∀ x ∈ rows, CellsOk [.b] x) (m : rows.length ≤ maxLen) (wf : (Lit.int .i64 f).wf = true) : ACalls Try.prog (fun _ => none) 4 [c.av, .lst (rows.flatten.map ofS) rows.length, .int .i64 f] (fun v => v = .bool true) :=
  walk c _ _ f (bools_cells w).1 (bools_cells w).2
end Go.Bas.BasBC2
