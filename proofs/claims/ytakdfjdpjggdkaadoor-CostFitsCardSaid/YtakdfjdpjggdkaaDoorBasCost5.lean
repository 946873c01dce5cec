/- Contracts: the functions of chapter 18. -/
import Derived.Test.YtakdfjdpjggdkaaDoorBasCost4
namespace Go.Bas.BasCost5
open Go.RowKit Go.Proofs Go.Bas.BasCBase Go.Bas.BasCItems Go.Bas.BasCItems2 Go.Bas.BasCost0 Go.Bas.BasCost Go.Bas.BasCost2 Go.Bas.BasCost4
set_option maxRecDepth 100000
set_option linter.unusedVariables false
set_option linter.unusedSimpArgs false
theorem errC_ok {c : Conf} (h : c.ok = true) : errC c = 0 := by simp [errC, h]
theorem errC_no {c : Conf} (h : c.ok = false) : errC c = 40 := by simp [errC, h]
def cErr (c : Conf) (kd : Int) : Int := cond c.ok (cond (decide (objF kd = c.ob)) 0 50) 40
def ofAV (c : Conf) (kd : Int) : AV := .tup [tal (zif (cErr c kd) (cR c kd)) (zif (cErr c kd) (cW c kd)) (zif (cErr c kd) (cG c kd)), .int .i64 (cErr c kd)]
def FOf : List AV → Option (Bool × AV)
  | [a, .int .u8 kd] => match confOf a with
    | some c => some (pK kd, ofAV c kd)
    | none => none
  | _ => none
def S_Of : Sum := (20, FOf)
def S_OfR : Sum := (21, FOf)
theorem of_sum {f : FuncId} (h : ∀ (c : Conf) (kd : Int), pK kd = true → ACalls Tryd.prog (gmap gs) f [c.av, .int .u8 kd] (fun v => v = ofAV c kd)) : SumOk Tryd.prog (gmap gs) (f, FOf) := fun args r hr => by
  simp only at hr
  unfold FOf at hr
  split at hr
  case h_2 => cases hr
  split at hr
  case h_2 => cases hr
  rename_i c hc
  cases confOf_some hc
  simp only [Option.some.injEq, Prod.mk.injEq] at hr
  obtain ⟨hp, rfl⟩ := hr
  exact h c _ hp
theorem of_40 {c : Conf} {kd : Int} (h : c.ok = false) : ofAV c kd = .tup [.agg [.int .i64 0, .int .i64 0, .int .i64 0], .int .i64 40] := by simp [ofAV, cErr, h, zif, tal]
theorem of_50 {c : Conf} {kd : Int} (h : c.ok = true) (h2 : ¬ objF kd = c.ob) : ofAV c kd = .tup [.agg [.int .i64 0, .int .i64 0, .int .i64 0], .int .i64 50] := by simp [ofAV, cErr, h, h2, zif, tal]
theorem of_0 {c : Conf} {kd : Int} (h : c.ok = true) (h2 : objF kd = c.ob) : ofAV c kd = .tup [.agg [.int .i64 (cR c kd), .int .i64 (cW c kd), .int .i64 (cG c kd)], .int .i64 0] := by simp [ofAV, cErr, h, h2, zif, tal]
theorem s_Of : SumOk Tryd.prog (gmap gs) S_Of := of_sum fun c kd hp => by
  refine acalls_eq base (sums_cons s_check (sums_cons s_obj (sums_cons s_of sums_nil))) (n := 300) fun k hk => ?_
  refine (t_Of c kd k).trans ?_
  cases ho : c.ok with
  | false =>
    rw [of_40 ho] at hk
    rw [errC_no ho]
    exact hk
  | true =>
    rw [errC_ok ho, hp]
    by_cases h2 : objF kd = c.ob
    · rw [of_0 ho h2] at hk
      have hq : pCost c kd = true := by unfold pCost; rw [ho, hp, decide_eq_true h2]; rfl
      have h2' : objF kd = c.1 := h2
      rw [hq, decide_eq_true h2']
      exact hk
    · rw [of_50 ho h2] at hk
      have h2' : ¬ objF kd = c.1 := h2
      rw [decide_eq_false h2']
      exact hk
theorem s_OfR : SumOk Tryd.prog (gmap gs) S_OfR := of_sum fun c kd hp => by
  refine acalls_eq base (sums_cons s_mayBe (sums_cons s_objR (sums_cons s_cost sums_nil))) (n := 300) fun k hk => ?_
  refine (t_OfR c kd k).trans ?_
  cases ho : c.ok with
  | false =>
    rw [of_40 ho] at hk
    exact hk
  | true =>
    rw [hp]
    by_cases h2 : objF kd = c.ob
    · rw [of_0 ho h2] at hk
      have hq : pCost c kd = true := by unfold pCost; rw [ho, hp, decide_eq_true h2]; rfl
      have h2' : objF kd = c.1 := h2
      rw [hq, decide_eq_true h2']
      exact hk
    · rw [of_50 ho h2] at hk
      have h2' : ¬ objF kd = c.1 := h2
      rw [decide_eq_false h2']
      exact hk
/-! ### A config's -/
def stAV (c : Conf) : AV := .tup [.int .i64 (zif (errC c) (gS c)), .int .i64 (errC c)]
def mv (c : Conf) : Int := IntKind.wrap .i64 (IntKind.wrap .i64 (c.ins + 5) + IntKind.wrap .i64 (c.ins * IntKind.wrap .i64 (1 + IntKind.wrap .i64 (c.batch * gS c))))
def mvAV (c : Conf) : AV := .tup [.int .i64 (zif (errC c) (mv c)), .int .i64 (errC c)]
def S_Steps : Sum := (22, onConf stAV)
def S_StepsR : Sum := (23, onConf stAV)
def S_Moves : Sum := (26, onConf mvAV)
def S_MovesR : Sum := (27, onConf mvAV)
theorem s_Steps : SumOk Tryd.prog (gmap gs) S_Steps := onConf_sum fun c => by
  refine acalls_eq base (sums_cons s_check (sums_cons s_gr sums_nil)) (n := 300) fun k hk => ?_
  refine (t_Steps c k).trans ?_
  unfold stAV at hk
  cases ho : c.ok with
  | false => rw [errC_no ho] at hk ⊢; exact hk
  | true => rw [errC_ok ho] at hk ⊢; exact hk
theorem s_StepsR : SumOk Tryd.prog (gmap gs) S_StepsR := onConf_sum fun c => by
  refine acalls_eq base (sums_cons s_mayBe (sums_cons s_most sums_nil)) (n := 300) fun k hk => ?_
  refine (t_StepsR c k).trans ?_
  unfold stAV at hk
  cases ho : c.ok with
  | false => rw [errC_no ho] at hk; exact hk
  | true => rw [errC_ok ho] at hk; exact hk
theorem s_Moves : SumOk Tryd.prog (gmap gs) S_Moves := onConf_sum fun c => by
  refine acalls_eq base (sums_cons s_check (sums_cons s_gr sums_nil)) (n := 300) fun k hk => ?_
  refine (t_Moves c k).trans ?_
  unfold mvAV at hk
  cases ho : c.ok with
  | false => rw [errC_no ho] at hk ⊢; exact hk
  | true => rw [errC_ok ho] at hk ⊢; exact hk
theorem s_MovesR : SumOk Tryd.prog (gmap gs) S_MovesR := onConf_sum fun c => by
  refine acalls_eq base (sums_cons s_mayBe (sums_cons s_most sums_nil)) (n := 300) fun k hk => ?_
  refine (t_MovesR c k).trans ?_
  unfold mvAV at hk
  cases ho : c.ok with
  | false => rw [errC_no ho] at hk; exact hk
  | true => rw [errC_ok ho] at hk; exact hk
end Go.Bas.BasCost5
