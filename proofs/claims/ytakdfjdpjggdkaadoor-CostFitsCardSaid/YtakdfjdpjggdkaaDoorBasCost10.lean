/- Contracts: drains, and bounds; the law CostBounds, walked. -/
import Derived.Test.YtakdfjdpjggdkaaDoorBasCost8
namespace Go.Bas.BasCost10
open Go.RowKit Go.Proofs Go.Bas.BasCBase Go.Bas.BasCItems Go.Bas.BasCItems2 Go.Bas.BasCost0 Go.Bas.BasCost Go.Bas.BasCost2 Go.Bas.BasCost4 Go.Bas.BasCost5 Go.Bas.BasCost6 Go.Bas.BasCost8
set_option maxRecDepth 100000
set_option linter.unusedVariables false
set_option linter.unusedSimpArgs false
theorem wBig {n : Int} (h0 : 0 ≤ n) (h1 : n ≤ 9000000000000000000) : IntKind.wrap .i64 n = n := by
  unfold IntKind.wrap
  simp [IntKind.bits, IntKind.signed]
  omega
/-! ### How great costs are -/
theorem nlusT : ((List.range 33).all fun m => [2, 3, 4].all fun w => Nat.ble (nl m w) 5 && Nat.ble (us m w) 40) = true := by decide +kernel
theorem nl_us {m w : Nat} (hm : m ≤ 32) (hw : w = 2 ∨ w = 3 ∨ w = 4) : nl m w ≤ 5 ∧ us m w ≤ 40 := by
  have h1 := List.all_eq_true.1 nlusT m (List.mem_range.2 (by omega))
  have h2 := List.all_eq_true.1 h1 w (by rcases hw with h | h | h <;> subst h <;> decide)
  simp only [Bool.and_eq_true] at h2
  exact ⟨Nat.le_of_ble_eq_true h2.1, Nat.le_of_ble_eq_true h2.2⟩
/-- An index's numbers. -/
theorem idx_bounds {c : Conf} (h : c.OkP) (h2 : c.ob = 2) : 0 ≤ dI c ∧ dI c ≤ 21 ∧ 0 ≤ uI c ∧ uI c ≤ 40 ∧ 0 ≤ IntKind.wrap .i64 (Int.tdiv c.cap c.chunk) ∧ IntKind.wrap .i64 (Int.tdiv c.cap c.chunk) ≤ 32 := by
  simp only [Conf.OkP] at h
  have hn : c.node.toNat = 2 ∨ c.node.toNat = 3 ∨ c.node.toNat = 4 := by omega
  obtain ⟨a, b⟩ := nl_us (m := c.cap.toNat) (w := c.node.toNat) (by omega) hn
  have hd : Int.tdiv c.cap c.chunk = c.cap / c.chunk := Int.tdiv_eq_ediv_of_nonneg (by omega)
  have hd0 : 0 ≤ c.cap / c.chunk := Int.ediv_nonneg (by omega) (by omega)
  have hd1 : c.cap / c.chunk ≤ c.cap := Int.ediv_le_self _ (by omega)
  have hdI : 0 ≤ dI c ∧ dI c ≤ 21 := by
    unfold dI
    generalize nl c.cap.toNat c.node.toNat = N at a
    have hq : c.node = 2 ∨ c.node = 3 ∨ c.node = 4 := by omega
    rcases hq with e | e | e <;> rw [e] at * <;> omega
  refine ⟨hdI.1, hdI.2, by unfold uI; omega, by unfold uI; omega, ?_, ?_⟩
  · rw [hd, wBig hd0 (by omega)]; exact hd0
  · rw [hd, wBig hd0 (by omega)]; omega
theorem imax_b {x y B : Int} (hx : 0 ≤ x ∧ x ≤ B) (hy : 0 ≤ y ∧ y ≤ B) : 0 ≤ imax x y ∧ imax x y ≤ B := by
  unfold imax
  split <;> omega
theorem cond_b {b : Bool} {x y A B : Int} (hx : A ≤ x ∧ x ≤ B) (hy : A ≤ y ∧ y ≤ B) : A ≤ cond b x y ∧ cond b x y ≤ B := by cases b <;> assumption
theorem mul_b {a b A B : Int} (ha : 0 ≤ a ∧ a ≤ A) (hb : 0 ≤ b ∧ b ≤ B) : 0 ≤ a * b ∧ a * b ≤ A * B :=
  ⟨Int.mul_nonneg ha.1 hb.1, Int.mul_le_mul ha.2 hb.2 hb.1 (Int.le_trans ha.1 ha.2)⟩
theorem c_bounds {c : Conf} (h : c.OkP) (kd : Int) : (0 ≤ cR c kd ∧ cR c kd ≤ 128) ∧ (0 ≤ cW c kd ∧ cW c kd ≤ 73) ∧ (0 ≤ cG c kd ∧ cG c kd ≤ 32) := by
  have hO := h
  simp only [Conf.OkP] at hO
  by_cases h2 : c.ob = 2
  · obtain ⟨a1, a2, a3, a4, a5, a6⟩ := idx_bounds h h2
    have e : decide (c.ob = 2) = true := decide_eq_true h2
    unfold cR cW cG
    rw [e]
    refine ⟨?_, ?_, ?_⟩
    · show 0 ≤ iR c kd ∧ iR c kd ≤ 128
      unfold iR
      exact cond_b (by omega) (cond_b (by omega) (cond_b (by omega) (by omega)))
    · show 0 ≤ iW c kd ∧ iW c kd ≤ 73
      unfold iW
      exact cond_b (by omega) (cond_b (by omega) (cond_b (by omega) (by omega)))
    · show 0 ≤ iG c kd ∧ iG c kd ≤ 32
      unfold iG
      exact cond_b (by omega) (cond_b (by omega) (cond_b ⟨a5, a6⟩ (by omega)))
  · have e : decide (c.ob = 2) = false := decide_eq_false h2
    unfold cR cW cG
    rw [e]
    simp only [cond_false]
    refine ⟨?_, ?_, by show (0 : Int) ≤ 0 ∧ (0 : Int) ≤ 32; omega⟩
    · exact cond_b (by omega) (cond_b (by omega) (cond_b (by omega) (cond_b (by omega) (cond_b (by omega) (by omega)))))
    · exact cond_b (by omega) (cond_b (by omega) (cond_b (by omega) (cond_b (by omega) (cond_b (by omega) (cond_b (by omega) (by omega))))))
theorem sk_b {c : Conf} (h : c.OkP) (kd : Int) : 0 ≤ sk c kd ∧ sk c kd ≤ 203 := by
  obtain ⟨a, b, _⟩ := c_bounds h kd
  unfold sk
  rw [wBig (n := cR c kd + cW c kd) (by omega) (by omega), wBig (by omega) (by omega)]
  omega
theorem pk_b {c : Conf} (h : c.OkP) (kd : Int) : 0 ≤ pkk c kd ∧ pkk c kd ≤ 164 := by
  obtain ⟨a, _, b⟩ := c_bounds h kd
  unfold pkk
  rw [wBig (n := 4 + cR c kd) (by omega) (by omega), wBig (by omega) (by omega)]
  omega
theorem gS_b {c : Conf} (h : c.OkP) : 0 ≤ gS c ∧ gS c ≤ 203 := by
  have z : (0 : Int) ≤ 0 ∧ (0 : Int) ≤ 203 := by omega
  unfold gS
  exact cond_b (imax_b (imax_b z (sk_b h _)) (sk_b h _)) (cond_b (imax_b (imax_b z (sk_b h _)) (sk_b h _)) (cond_b (imax_b (imax_b z (sk_b h _)) (sk_b h _)) (imax_b (imax_b z (sk_b h _)) (sk_b h _))))
theorem gP_b {c : Conf} (h : c.OkP) : 0 ≤ gP c ∧ gP c ≤ 164 := by
  have z : (0 : Int) ≤ 0 ∧ (0 : Int) ≤ 164 := by omega
  unfold gP
  exact cond_b (imax_b z (pk_b h _)) (cond_b (imax_b (imax_b (imax_b z (pk_b h _)) (pk_b h _)) (pk_b h _)) (cond_b (imax_b z (pk_b h _)) (imax_b z (pk_b h _))))
/-! ### Drains -/
theorem oncf_sum {f : FuncId} {g : Conf → Int → AV} (h : ∀ (c : Conf) (x : Int), ACalls Tryd.prog (gmap gs) f [c.av, .int .i64 x] (fun v => v = g c x)) : SumOk Tryd.prog (gmap gs) (f, onCF g) := fun args r hr => by
  simp only at hr
  unfold onCF at hr
  split at hr
  case h_2 => cases hr
  split at hr
  case h_2 => cases hr
  rename_i c hc
  cases confOf_some hc
  simp only [Option.some.injEq, Prod.mk.injEq, true_and] at hr
  subst hr
  exact h c _
theorem l40 {c : Conf} {f : Int} (h : c.ok = false) : lErr c f = 40 := by simp [lErr, h]
theorem l2 {c : Conf} {f : Int} (h : c.ok = true) (hf : f < 0 ∨ f > 65536) : lErr c f = 2 := by
  rcases hf with hf | hf
  · simp [lErr, h, hf]
  · have : ¬ f < 0 := by omega
    simp [lErr, h, hf, this]
theorem l0 {c : Conf} {f : Int} (h : c.ok = true) (h0 : 0 ≤ f) (h1 : f ≤ 65536) : lErr c f = 0 := by
  have a : ¬ f < 0 := by omega
  have b : ¬ f > 65536 := by omega
  simp [lErr, h, a, b]
/-- The products, without wrapping. -/
structure LN (c : Conf) (f : Int) : Prop where
  p1 : IntKind.wrap .i64 (f * gP c) = f * gP c
  p2 : IntKind.wrap .i64 (c.thr * (f * gP c)) = c.thr * (f * gP c)
  p3 : IntKind.wrap .i64 (c.thr + c.thr * (f * gP c)) = c.thr + c.thr * (f * gP c)
  p4 : IntKind.wrap .i64 (c.thr * f) = c.thr * f
  p5 : IntKind.wrap .i64 (f * gP c + 2) = f * gP c + 2
  p6 : IntKind.wrap .i64 (c.thr * (f * gP c + 2)) = c.thr * (f * gP c + 2)
  p7 : IntKind.wrap .i64 (c.thr * (f * gP c + 2) + 1) = c.thr * (f * gP c + 2) + 1
  p8 : IntKind.wrap .i64 (2 * c.str) = 2 * c.str
  p9 : IntKind.wrap .i64 (2 * c.str * (c.thr * (f * gP c + 2) + 1)) = 2 * c.str * (c.thr * (f * gP c + 2) + 1)
  lb : 0 ≤ lk c f ∧ lk c f ≤ 2000000000
theorem ln {c : Conf} (h : c.OkP) {f : Int} (h0 : 0 ≤ f) (h1 : f ≤ 65536) : LN c f := by
  have hg := gP_b h
  simp only [Conf.OkP] at h
  have q1 := mul_b (a := f) (b := gP c) (A := 65536) (B := 164) ⟨h0, h1⟩ hg
  have q2 := mul_b (a := c.thr) (b := f * gP c) (A := 16) (B := 65536 * 164) (by omega) q1
  have q3 := mul_b (a := c.thr) (b := f) (A := 16) (B := 65536) (by omega) ⟨h0, h1⟩
  have q4 := mul_b (a := c.thr) (b := f * gP c + 2) (A := 16) (B := 65536 * 164 + 2) (by omega) (by omega)
  have q5 := mul_b (a := 2 * c.str) (b := c.thr * (f * gP c + 2) + 1) (A := 8) (B := 16 * (65536 * 164 + 2) + 1) (by omega) (by omega)
  refine ⟨wBig (by omega) (by omega), wBig (by omega) (by omega), wBig (by omega) (by omega), wBig (by omega) (by omega), wBig (by omega) (by omega), wBig (by omega) (by omega), wBig (by omega) (by omega), wBig (by omega) (by omega), wBig (by omega) (by omega), ?_⟩
  unfold lk
  exact cond_b (by omega) (by omega)
theorem s_Looks : SumOk Tryd.prog (gmap gs) S_Looks := oncf_sum fun c f => by
  refine acalls_eq base (sums_cons s_check (sums_cons s_gr sums_nil)) (n := 300) fun k hk => ?_
  refine (t_Looks c f k).trans ?_
  cases ho : c.ok with
  | false => rw [l40 ho] at hk; rw [errC_no ho]; exact hk
  | true =>
    rw [errC_ok ho]
    by_cases hf0 : f < 0
    · rw [l2 ho (.inl hf0)] at hk; rw [decide_eq_true hf0]; exact hk
    by_cases hf1 : f > 65536
    · rw [l2 ho (.inr hf1)] at hk; rw [decide_eq_false hf0, decide_eq_true hf1]; exact hk
    rw [l0 ho (by omega) (by omega)] at hk
    have L := ln (ok_true.1 ho) (f := f) (by omega) (by omega)
    rw [decide_eq_false hf0, decide_eq_false hf1, L.p1, L.p5]
    have p2 : IntKind.wrap .i64 (c.3 * (f * gP c)) = c.thr * (f * gP c) := L.p2
    have p6 : IntKind.wrap .i64 (c.3 * (f * gP c + 2)) = c.thr * (f * gP c + 2) := L.p6
    have p8 : IntKind.wrap .i64 (2 * c.5) = 2 * c.str := L.p8
    rw [p2, p6, p8, L.p7, L.p9]
    have p3 : IntKind.wrap .i64 (c.3 + c.thr * (f * gP c)) = c.thr + c.thr * (f * gP c) := L.p3
    rw [p3]
    unfold lk at hk
    refine condI (fun h => by cases h) (fun _ => condI (fun h => by cases h) (fun _ => condI (fun h => by cases h) (fun _ => andI rfl ?_)))
    by_cases hk1 : c.kind = 1
    · have hk1' : c.4 = 1 := hk1
      rw [decide_eq_true hk1] at hk
      rw [decide_eq_true hk1']; exact hk
    · have hk1' : ¬ c.4 = 1 := hk1
      rw [decide_eq_false hk1] at hk
      rw [decide_eq_false hk1']; exact hk
theorem s_LooksR : SumOk Tryd.prog (gmap gs) S_LooksR := oncf_sum fun c f => by
  refine acalls_eq base (sums_cons s_mayBe (sums_cons s_most sums_nil)) (n := 300) fun k hk => ?_
  refine (t_LooksR c f k).trans ?_
  cases ho : c.ok with
  | false => rw [l40 ho] at hk; exact hk
  | true =>
    by_cases hf0 : f < 0
    · rw [l2 ho (.inl hf0)] at hk; rw [decide_eq_true hf0]; exact hk
    by_cases hf1 : f > 65536
    · rw [l2 ho (.inr hf1)] at hk; rw [decide_eq_false hf0, decide_eq_true hf1]; exact hk
    rw [l0 ho (by omega) (by omega)] at hk
    have L := ln (ok_true.1 ho) (f := f) (by omega) (by omega)
    rw [decide_eq_false hf0, decide_eq_false hf1, L.p1, L.p5]
    have p4 : IntKind.wrap .i64 (c.3 * f) = c.thr * f := L.p4
    have p6 : IntKind.wrap .i64 (c.3 * (f * gP c + 2)) = c.thr * (f * gP c + 2) := L.p6
    have p8 : IntKind.wrap .i64 (2 * c.5) = 2 * c.str := L.p8
    rw [p4, p6, p8, L.p7, L.p9, Int.mul_assoc, L.p2]
    have p3 : IntKind.wrap .i64 (c.3 + c.thr * (f * gP c)) = c.thr + c.thr * (f * gP c) := L.p3
    rw [p3]
    unfold lk at hk
    refine condI (fun h => by cases h) (fun _ => condI (fun h => by cases h) (fun _ => condI (fun h => by cases h) (fun _ => andI rfl ?_)))
    by_cases hk1 : c.kind = 1
    · have hk1' : c.4 = 1 := hk1
      rw [decide_eq_true hk1] at hk
      rw [decide_eq_true hk1']; exact hk
    · have hk1' : ¬ c.4 = 1 := hk1
      rw [decide_eq_false hk1] at hk
      rw [decide_eq_false hk1', ← Int.mul_assoc]; exact hk
end Go.Bas.BasCost10
