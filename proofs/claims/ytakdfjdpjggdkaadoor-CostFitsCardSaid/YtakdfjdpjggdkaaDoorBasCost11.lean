/- Contracts: the bound of an update; the law CostBounds, walked. -/
import Derived.Test.YtakdfjdpjggdkaaDoorBasCost10
namespace Go.Bas.BasCost11
open Go.RowKit Go.Proofs Go.Bas.BasCBase Go.Bas.BasCItems Go.Bas.BasCItems2 Go.Bas.BasCost0 Go.Bas.BasCost Go.Bas.BasCost2 Go.Bas.BasCost4 Go.Bas.BasCost5 Go.Bas.BasCost6 Go.Bas.BasCost8 Go.Bas.BasCost10
set_option maxRecDepth 100000
set_option linter.unusedVariables false
set_option linter.unusedSimpArgs false
theorem mv_b {c : Conf} (h : c.OkP) : mv c = c.ins + 5 + c.ins * (1 + c.batch * gS c) ∧ 0 ≤ mv c ∧ mv c ≤ 14000 := by
  have hg := gS_b h
  simp only [Conf.OkP] at h
  have q1 := mul_b (a := c.batch) (b := gS c) (A := 16) (B := 203) (by omega) hg
  have q2 := mul_b (a := c.ins) (b := 1 + c.batch * gS c) (A := 4) (B := 1 + 16 * 203) (by omega) (by omega)
  have e : mv c = c.ins + 5 + c.ins * (1 + c.batch * gS c) := by
    unfold mv
    rw [wBig (n := c.batch * gS c) (by omega) (by omega), wBig (n := 1 + c.batch * gS c) (by omega) (by omega), wBig (n := c.ins * (1 + c.batch * gS c)) (by omega) (by omega), wBig (n := c.ins + 5) (by omega) (by omega), wBig (by omega) (by omega)]
  exact ⟨e, by omega, by omega⟩
theorem lErr0 {c : Conf} {f : Int} (h : lErr c f = 0) : c.ok = true ∧ 0 ≤ f ∧ f ≤ 65536 := by
  cases ho : c.ok with
  | false => rw [l40 ho] at h; cases h
  | true =>
    by_cases hf0 : f < 0
    · rw [l2 ho (.inl hf0)] at h; cases h
    by_cases hf1 : f > 65536
    · rw [l2 ho (.inr hf1)] at h; cases h
    exact ⟨rfl, by omega, by omega⟩
/-- The bound's numbers, without wrapping. -/
structure BN (c : Conf) (f : Int) : Prop where
  b0 : ¬ c.batch = 0
  a1 : IntKind.wrap .i64 (c.thr - 1) = c.thr - 1
  a2 : IntKind.wrap .i64 (Int.tdiv (c.thr - 1) c.batch) = (c.thr - 1) / c.batch
  a3 : IntKind.wrap .i64 (2 + (c.thr - 1) / c.batch) = 2 + (c.thr - 1) / c.batch
  a4 : IntKind.wrap .i64 (2 * lk c f) = 2 * lk c f
  a5 : IntKind.wrap .i64 (mv c + 2 * lk c f) = mv c + 2 * lk c f
  a6 : IntKind.wrap .i64 ((2 + (c.thr - 1) / c.batch) * (mv c + 2 * lk c f)) = (2 + (c.thr - 1) / c.batch) * (mv c + 2 * lk c f)
  a7 : IntKind.wrap .i64 ((2 + (c.thr - 1) / c.batch) * (mv c + 2 * lk c f) + 2) = (2 + (c.thr - 1) / c.batch) * (mv c + 2 * lk c f) + 2
  a8 : IntKind.wrap .i64 (2 * c.thr) = 2 * c.thr
  a9 : IntKind.wrap .i64 (2 * c.thr + 3) = 2 * c.thr + 3
  t1 : 6 ≤ turn c ∧ turn c ≤ 35
  a10 : IntKind.wrap .i64 (turn c * ((2 + (c.thr - 1) / c.batch) * (mv c + 2 * lk c f) + 2)) = turn c * ((2 + (c.thr - 1) / c.batch) * (mv c + 2 * lk c f) + 2)
  a11 : IntKind.wrap .i64 (1 + turn c * ((2 + (c.thr - 1) / c.batch) * (mv c + 2 * lk c f) + 2)) = bd c f
  q0 : 0 ≤ (c.thr - 1) / c.batch ∧ (c.thr - 1) / c.batch ≤ 15
theorem bn {c : Conf} (h : c.OkP) {f : Int} (h0 : 0 ≤ f) (h1 : f ≤ 65536) : BN c f := by
  have hl := (ln h h0 h1).lb
  obtain ⟨_, m1, m2⟩ := mv_b h
  simp only [Conf.OkP] at h
  have d0 : 0 ≤ (c.thr - 1) / c.batch := Int.ediv_nonneg (by omega) (by omega)
  have d1 : (c.thr - 1) / c.batch ≤ c.thr - 1 := Int.ediv_le_self _ (by omega)
  have e : Int.tdiv (c.thr - 1) c.batch = (c.thr - 1) / c.batch := Int.tdiv_eq_ediv_of_nonneg (by omega)
  have q1 := mul_b (a := 2 + (c.thr - 1) / c.batch) (b := mv c + 2 * lk c f) (A := 17) (B := 14000 + 2 * 2000000000) (by omega) (by omega)
  have t1 : 6 ≤ turn c ∧ turn c ≤ 35 := by
    unfold turn
    cases hd : decide (2 * c.thr + 3 < 6) with
    | true => show 6 ≤ (6 : Int) ∧ (6 : Int) ≤ 35; omega
    | false => have := of_decide_eq_false hd; show 6 ≤ 2 * c.thr + 3 ∧ 2 * c.thr + 3 ≤ 35; omega
  have q2 := mul_b (a := turn c) (b := (2 + (c.thr - 1) / c.batch) * (mv c + 2 * lk c f) + 2) (A := 35) (B := 17 * (14000 + 2 * 2000000000) + 2) (by omega) (by omega)
  refine ⟨by omega, wBig (by omega) (by omega), by rw [e]; exact wBig d0 (by omega), wBig (by omega) (by omega), wBig (by omega) (by omega), wBig (by omega) (by omega), wBig (by omega) (by omega), wBig (by omega) (by omega), wBig (by omega) (by omega), wBig (by omega) (by omega), t1, wBig (by omega) (by omega), wBig (by omega) (by omega), by omega⟩
theorem imax6 (c : Conf) : imax (2 * c.thr + 3) 6 = turn c := by
  unfold imax turn
  by_cases h : 2 * c.thr + 3 < 6
  · rw [decide_eq_true h, if_pos (by omega)]; rfl
  · rw [decide_eq_false h, if_neg (by omega)]; rfl
theorem s_Bound : SumOk Tryd.prog (gmap gs) S_Bound := oncf_sum fun c f => by
  refine acalls_eq base (sums_cons s_Looks (sums_cons s_Moves sums_nil)) (n := 300) fun k hk => ?_
  refine (t_Bound c f k).trans ?_
  by_cases he : lErr c f = 0
  · obtain ⟨ho, h0, h1⟩ := lErr0 he
    have N := bn (ok_true.1 ho) h0 h1
    have a1 : IntKind.wrap .i64 (c.3 - 1) = c.thr - 1 := N.a1
    have a2 : IntKind.wrap .i64 (Int.tdiv (c.thr - 1) c.9) = (c.thr - 1) / c.batch := N.a2
    have a8 : IntKind.wrap .i64 (2 * c.3) = 2 * c.thr := N.a8
    have b0 : decide (c.9 = 0) = false := decide_eq_false N.b0
    rw [he] at hk
    rw [he, errC_ok ho, show zif 0 (mv c) = mv c from rfl, show zif 0 (lk c f) = lk c f from rfl, a1, a2, N.a3, N.a4, N.a5, N.a6, N.a7, a8, N.a9, imax6, N.a10, N.a11, b0]
    exact hk
  · rw [show zif (lErr c f) (bd c f) = 0 from by simp [zif, he]] at hk
    rw [decide_eq_false he]
    exact hk
theorem s_BoundR : SumOk Tryd.prog (gmap gs) S_BoundR := oncf_sum fun c f => by
  refine acalls_eq base (sums_cons s_LooksR (sums_cons s_MovesR sums_nil)) (n := 300) fun k hk => ?_
  refine (t_BoundR c f k).trans ?_
  by_cases he : lErr c f = 0
  · obtain ⟨ho, h0, h1⟩ := lErr0 he
    have N := bn (ok_true.1 ho) h0 h1
    have a1 : IntKind.wrap .i64 (c.3 - 1) = c.thr - 1 := N.a1
    have a2 : IntKind.wrap .i64 (Int.tdiv (c.thr - 1) c.9) = (c.thr - 1) / c.batch := N.a2
    have a8 : IntKind.wrap .i64 (2 * c.3) = 2 * c.thr := N.a8
    have b0 : decide (c.9 = 0) = false := decide_eq_false N.b0
    have a10 := N.a10
    have a11 := N.a11
    rw [he] at hk
    rw [he, errC_ok ho, show zif 0 (mv c) = mv c from rfl, show zif 0 (lk c f) = lk c f from rfl, a1, a2, N.a3, N.a4, N.a5, N.a6, N.a7, a8, N.a9, b0]
    by_cases ht : 2 * c.thr + 3 < 6
    · have e : turn c = 6 := by simp [turn, ht]
      rw [e] at a10 a11
      rw [a10, a11, decide_eq_true ht]
      exact hk
    · have e : turn c = 2 * c.thr + 3 := by simp [turn, ht]
      rw [e] at a10 a11
      rw [a10, a11, decide_eq_false ht]
      exact hk
  · rw [show zif (lErr c f) (bd c f) = 0 from by simp [zif, he]] at hk
    rw [decide_eq_false he]
    exact hk
theorem lawBounds (c : Conf) (f : Int) (c0 : (Lit.int .u8 c.ob).wf = true) (c1 : (Lit.int .i64 c.ins).wf = true) (c2 : (Lit.int .i64 c.thr).wf = true) (c3 : (Lit.int .u8 c.kind).wf = true) (c4 : (Lit.int .i64 c.str).wf = true) (c5 : (Lit.int .i64 c.bits).wf = true) (c6 : (Lit.int .i64 c.cap).wf = true) (c7 : (Lit.int .i64 c.node).wf = true) (c8 : (Lit.int .i64 c.batch).wf = true) (c9 : (Lit.int .i64 c.chunk).wf = true) (c10 : (Lit.int .u64 c.limit).wf = true) (c11 : (Lit.int .u64 c.most).wf = true) (wf : (Lit.int .i64 f).wf = true) : ACalls Tryd.prog (gmap gs) 9 [c.av, .int .i64 f] (fun v => v = .bool true) := by
  refine acalls_eq base (sums_cons s_Moves (sums_cons s_MovesR (sums_cons s_Looks (sums_cons s_LooksR (sums_cons s_Bound (sums_cons s_BoundR sums_nil)))))) (n := 300) fun k hk => ?_
  refine (t_bounds c f k).trans ?_
  simp only [decide_true, cond_true]
  exact hk
end Go.Bas.BasCost11
