/- The law CostSays, walked. -/
import Derived.Test.YtakdfjdpjggdkaaDoorBasCost6
namespace Go.Bas.BasCost7
open Go.RowKit Go.Proofs Go.Bas.BasCBase Go.Bas.BasCItems Go.Bas.BasCItems2 Go.Bas.BasCost0 Go.Bas.BasCost Go.Bas.BasCost2 Go.Bas.BasCost5 Go.Bas.BasCost6
set_option maxRecDepth 100000
set_option linter.unusedVariables false
set_option linter.unusedSimpArgs false
theorem pk_sum {f : FuncId} (h : ∀ (c : Conf) (kd : Int), pK kd = true → ACalls Tryd.prog (gmap gs) f [c.av, .int .u8 kd] (fun v => v = .tup [.int .i64 (zif (pErr c kd) (pV c kd)), .int .i64 (pErr c kd)])) : SumOk Tryd.prog (gmap gs) (f, FPk) := fun args r hr => by
  simp only at hr
  unfold FPk at hr
  split at hr
  case h_2 => cases hr
  split at hr
  case h_2 => cases hr
  rename_i c hc
  cases confOf_some hc
  simp only [Option.some.injEq, Prod.mk.injEq] at hr
  obtain ⟨hp, rfl⟩ := hr
  exact h c _ hp
theorem pk_leaf {c : Conf} {kd : Int} {k : AV → Bool} (hk : k (.tup [.int .i64 (zif (pErr c kd) (pV c kd)), .int .i64 (pErr c kd)]) = true) :
    (¬ cErr c kd = 0 ∧ k (.tup [.int .i64 0, .int .i64 (cErr c kd)]) = true) ∨ (cErr c kd = 0 ∧ wrF kd = true ∧ k (.tup [.int .i64 0, .int .i64 50]) = true) ∨ (cErr c kd = 0 ∧ wrF kd = false ∧ k (.tup [.int .i64 (pV c kd), .int .i64 0]) = true) := by
  by_cases h : cErr c kd = 0
  · cases hw : wrF kd with
    | true =>
      have e : pErr c kd = 50 := by simp [pErr, h, hw]
      rw [e] at hk
      exact .inr (.inl ⟨h, rfl, hk⟩)
    | false =>
      have e : pErr c kd = 0 := by simp [pErr, h, hw]
      rw [e] at hk
      exact .inr (.inr ⟨h, rfl, hk⟩)
  · have e : pErr c kd = cErr c kd := by simp [pErr, h]
    rw [e] at hk
    refine .inl ⟨h, ?_⟩
    simpa [zif, h] using hk
theorem s_Picks : SumOk Tryd.prog (gmap gs) S_Picks := pk_sum fun c kd hp => by
  refine acalls_eq base (sums_cons s_Of (sums_cons s_wr (sums_cons s_pk sums_nil))) (n := 300) fun k hk => ?_
  refine (t_Picks c kd k).trans ?_
  rw [hp]
  rcases pk_leaf hk with ⟨h, hk⟩ | ⟨h, hw, hk⟩ | ⟨h, hw, hk⟩
  · rw [decide_eq_false h]; exact hk
  · rw [h, hw]; exact hk
  · rw [h, hw]; exact hk
theorem s_PicksR : SumOk Tryd.prog (gmap gs) S_PicksR := pk_sum fun c kd hp => by
  refine acalls_eq base (sums_cons s_OfR (sums_cons s_wrR sums_nil)) (n := 300) fun k hk => ?_
  refine (t_PicksR c kd k).trans ?_
  rw [hp]
  rcases pk_leaf hk with ⟨h, hk⟩ | ⟨h, hw, hk⟩ | ⟨h, hw, hk⟩
  · rw [decide_eq_false h]; exact hk
  · rw [h, hw]; exact hk
  · rw [h, hw]; exact hk
theorem lawSays (c : Conf) (kd : Int) (c0 : (Lit.int .u8 c.ob).wf = true) (c1 : (Lit.int .i64 c.ins).wf = true) (c2 : (Lit.int .i64 c.thr).wf = true) (c3 : (Lit.int .u8 c.kind).wf = true) (c4 : (Lit.int .i64 c.str).wf = true) (c5 : (Lit.int .i64 c.bits).wf = true) (c6 : (Lit.int .i64 c.cap).wf = true) (c7 : (Lit.int .i64 c.node).wf = true) (c8 : (Lit.int .i64 c.batch).wf = true) (c9 : (Lit.int .i64 c.chunk).wf = true) (c10 : (Lit.int .u64 c.limit).wf = true) (c11 : (Lit.int .u64 c.most).wf = true) (wk : (Lit.int .u8 kd).wf = true) : ACalls Tryd.prog (gmap gs) 8 [c.av, .int .u8 kd] (fun v => v = .bool true) := by
  have hp : pK kd = true := pK_true.2 (wf_iff.1 wk)
  refine acalls_eq base (sums_cons s_Of (sums_cons s_OfR (sums_cons s_Steps (sums_cons s_StepsR (sums_cons s_Picks (sums_cons s_PicksR sums_nil)))))) (n := 300) fun k hk => ?_
  refine (t_says c kd k).trans ?_
  rw [hp]
  simp only [decide_true, Bool.true_and, Bool.and_true, cond_true]
  exact hk
end Go.Bas.BasCost7
