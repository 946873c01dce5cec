/- Contracts: configs and stages. -/
import Derived.Test.YtomiknbiencggaaProg
import Derived.Test.YtomiknbiencggaaBasDefs
import Derived.KernelRfl
namespace Go.Bas.BasStage
open Go.RowKit Go.Proofs
set_option maxRecDepth 100000
set_option maxHeartbeats 4000000
set_option linter.unusedVariables false
set_option linter.unusedSimpArgs false
noncomputable abbrev cfg (l : List Sum) : Cfg := ⟨Try.prog, fun _ => none, lookS l, fun _ => false⟩

theorem base : Base Try.prog := ⟨by kernel_rfl, by kernel_rfl⟩
def S_within : Sum := (41, Fwithin)
theorem t_within (b : Bool) (n l m : Int) (k : AV → Bool) : runF (cfg []) 300 41 [.bool b, .int .i64 n, .int .i64 l, .int .i64 m] k false = ((bif (!b) then (k (AV.bool (decide (n = 0)))) else (bif decide (n ≥ l) then (k (AV.bool (decide (n ≤ m)))) else (k (AV.bool Bool.false))))) := by kernel_rfl
theorem s_within : SumOk Try.prog (fun _ => none) S_within := fun args r hr => by
    simp only [S_within] at hr
    unfold Fwithin at hr
    split at hr
    · rename_i b n l m
      simp only [Option.some.injEq, Prod.mk.injEq, true_and] at hr
      subst hr
      refine acalls_eq base sums_nil (n := 300) fun k hk => ?_
      refine (t_within _ _ _ _ _).trans ?_
      cases b
      · exact hk
      · cases h : decide (n ≥ l) <;> simp_all [within]
    · cases hr
def S_wide : Sum := (36, Fwide)
theorem t_wide (n : Int) (k : AV → Bool) : runF (cfg []) 300 36 [.int .i64 n] k false = ((bif decide (n ≥ 2) then (k (AV.bool (decide (n ≤ 4)))) else (k (AV.bool Bool.false)))) := by kernel_rfl
theorem s_wide : SumOk Try.prog (fun _ => none) S_wide := fun args r hr => by
    simp only [S_wide] at hr
    unfold Fwide at hr
    split at hr
    · rename_i n
      simp only [Option.some.injEq, Prod.mk.injEq, true_and] at hr
      subst hr
      refine acalls_eq base sums_nil (n := 300) fun k hk => ?_
      refine (t_wide _ _).trans ?_
      cases h : decide (n ≥ 2) <;> simp_all [wideB]
    · cases hr
def S_check : Sum := (29, onConf fun c => .int .i64 (errC c))
theorem t_check (c : Conf) (k : AV → Bool) : runF (cfg [S_within]) 300 29 [c.av] k false = ((bif decide (c.1 < 1) then (k (AV.int IntKind.i64 40)) else (bif decide (c.1 > 4) then (k (AV.int IntKind.i64 40)) else (bif (!decide (c.4 = 1)) then (bif (!decide (c.4 = 2)) then (k (AV.int IntKind.i64 40)) else (bif (!(within Bool.true c.2 2 4)) then (k (AV.int IntKind.i64 40)) else (bif (!(within Bool.true c.3 1 16)) then (k (AV.int IntKind.i64 40)) else (bif (!(within (decide (c.4 = 2)) c.5 1 4)) then (k (AV.int IntKind.i64 40)) else (bif (!(within (decide (c.1 = 1)) c.6 1 6)) then (k (AV.int IntKind.i64 40)) else (bif (!(within Bool.true c.7 1 32)) then (k (AV.int IntKind.i64 40)) else (bif (!(within (decide (c.1 = 2)) c.8 2 4)) then (k (AV.int IntKind.i64 40)) else (bif (!(within (decide (c.1 = 2)) c.10 1 8)) then (k (AV.int IntKind.i64 40)) else (bif (!(within Bool.true c.9 1 16)) then (k (AV.int IntKind.i64 40)) else (bif decide (c.11 < 131072) then (k (AV.int IntKind.i64 40)) else (bif decide (c.11 > 4611686018427387904) then (k (AV.int IntKind.i64 40)) else (bif decide (c.4 = 2) then (bif decide (c.12 < 1) then (k (AV.int IntKind.i64 40)) else (bif decide (c.12 > 4611686018427387904) then (k (AV.int IntKind.i64 40)) else (bif (!decide (c.4 = 2)) then (bif (!decide (c.12 = 0)) then (k (AV.int IntKind.i64 40)) else (k (AV.int IntKind.i64 0))) else (k (AV.int IntKind.i64 0))))) else (bif (!decide (c.4 = 2)) then (bif (!decide (c.12 = 0)) then (k (AV.int IntKind.i64 40)) else (k (AV.int IntKind.i64 0))) else (k (AV.int IntKind.i64 0))))))))))))))) else (bif (!(within Bool.true c.2 2 4)) then (k (AV.int IntKind.i64 40)) else (bif (!(within Bool.true c.3 1 16)) then (k (AV.int IntKind.i64 40)) else (bif (!(within (decide (c.4 = 2)) c.5 1 4)) then (k (AV.int IntKind.i64 40)) else (bif (!(within (decide (c.1 = 1)) c.6 1 6)) then (k (AV.int IntKind.i64 40)) else (bif (!(within Bool.true c.7 1 32)) then (k (AV.int IntKind.i64 40)) else (bif (!(within (decide (c.1 = 2)) c.8 2 4)) then (k (AV.int IntKind.i64 40)) else (bif (!(within (decide (c.1 = 2)) c.10 1 8)) then (k (AV.int IntKind.i64 40)) else (bif (!(within Bool.true c.9 1 16)) then (k (AV.int IntKind.i64 40)) else (bif decide (c.11 < 131072) then (k (AV.int IntKind.i64 40)) else (bif decide (c.11 > 4611686018427387904) then (k (AV.int IntKind.i64 40)) else (bif decide (c.4 = 2) then (bif decide (c.12 < 1) then (k (AV.int IntKind.i64 40)) else (bif decide (c.12 > 4611686018427387904) then (k (AV.int IntKind.i64 40)) else (bif (!decide (c.4 = 2)) then (bif (!decide (c.12 = 0)) then (k (AV.int IntKind.i64 40)) else (k (AV.int IntKind.i64 0))) else (k (AV.int IntKind.i64 0))))) else (bif (!decide (c.4 = 2)) then (bif (!decide (c.12 = 0)) then (k (AV.int IntKind.i64 40)) else (k (AV.int IntKind.i64 0))) else (k (AV.int IntKind.i64 0)))))))))))))))))) := by kernel_rfl
theorem s_check : SumOk Try.prog (fun _ => none) S_check := onConf_sum fun c => acalls_eq base (sums_cons s_within sums_nil) (n := 300) fun k hk => by
    rw [t_check]
    have h1 : c.ok = true → k (.int .i64 0) = true := fun h => by rw [errC, h] at hk; exact hk
    have h2 : c.ok = false → k (.int .i64 40) = true := fun h => by rw [errC, h] at hk; exact hk
    clear hk
    repeat' (first | refine condI (fun h => ?_) (fun h => ?_) | refine andI ?_ ?_)
    all_goals first
      | (refine h1 (decide_eq_true ?_)
         clear h1 h2
         simp only [within_true, within_false, decide_eq_true_eq, decide_eq_false_iff_not, Bool.not_eq_true', Bool.not_eq_false', true_and, false_and, or_false, false_or, and_true, and_false, reduceCtorEq, ge_iff_le, gt_iff_lt] at *
         unfold Conf.OkP
         omega)
      | (refine h2 (decide_eq_false ?_)
         clear h1 h2
         simp only [within_true, within_false, decide_eq_true_eq, decide_eq_false_iff_not, Bool.not_eq_true', Bool.not_eq_false', true_and, false_and, or_false, false_or, and_true, and_false, reduceCtorEq, ge_iff_le, gt_iff_lt] at *
         unfold Conf.OkP
         omega)
def S_mayBe : Sum := (26, onConf fun c => .bool c.ok)
theorem t_mayBe (c : Conf) (k : AV → Bool) : runF (cfg [S_wide]) 300 26 [c.av] k false = ((bif decide (c.1 < 1) then (k (AV.bool Bool.false)) else (bif decide (c.1 > 4) then (k (AV.bool Bool.false)) else (bif decide (c.2 < 2) then (k (AV.bool Bool.false)) else (bif decide (c.2 > 4) then (k (AV.bool Bool.false)) else (bif decide (c.3 < 1) then (k (AV.bool Bool.false)) else (bif decide (c.3 > 16) then (k (AV.bool Bool.false)) else (bif decide (c.7 < 1) then (k (AV.bool Bool.false)) else (bif decide (c.7 > 32) then (k (AV.bool Bool.false)) else (bif decide (c.9 < 1) then (k (AV.bool Bool.false)) else (bif decide (c.9 > 16) then (k (AV.bool Bool.false)) else (bif decide (c.11 < 131072) then (k (AV.bool Bool.false)) else (bif decide (c.11 > 4611686018427387904) then (k (AV.bool Bool.false)) else (bif decide (c.4 = 1) then (bif (!decide (c.5 = 0)) then (k (AV.bool Bool.false)) else (bif (!decide (c.12 = 0)) then (k (AV.bool Bool.false)) else (bif decide (c.1 = 1) then (bif decide (c.6 < 1) then (k (AV.bool Bool.false)) else (bif decide (c.6 > 6) then (k (AV.bool Bool.false)) else (bif (!decide (c.1 = 1)) then (bif (!decide (c.6 = 0)) then (k (AV.bool Bool.false)) else (bif decide (c.1 = 2) then (bif (wideB c.8) then (bif decide (c.10 ≥ 1) then (k (AV.bool (decide (c.10 ≤ 8)))) else (k (AV.bool Bool.false))) else (k (AV.bool Bool.false))) else (bif decide (c.8 = 0) then (k (AV.bool (decide (c.10 = 0)))) else (k (AV.bool Bool.false))))) else (bif decide (c.1 = 2) then (bif (wideB c.8) then (bif decide (c.10 ≥ 1) then (k (AV.bool (decide (c.10 ≤ 8)))) else (k (AV.bool Bool.false))) else (k (AV.bool Bool.false))) else (bif decide (c.8 = 0) then (k (AV.bool (decide (c.10 = 0)))) else (k (AV.bool Bool.false))))))) else (bif (!decide (c.1 = 1)) then (bif (!decide (c.6 = 0)) then (k (AV.bool Bool.false)) else (bif decide (c.1 = 2) then (bif (wideB c.8) then (bif decide (c.10 ≥ 1) then (k (AV.bool (decide (c.10 ≤ 8)))) else (k (AV.bool Bool.false))) else (k (AV.bool Bool.false))) else (bif decide (c.8 = 0) then (k (AV.bool (decide (c.10 = 0)))) else (k (AV.bool Bool.false))))) else (bif decide (c.1 = 2) then (bif (wideB c.8) then (bif decide (c.10 ≥ 1) then (k (AV.bool (decide (c.10 ≤ 8)))) else (k (AV.bool Bool.false))) else (k (AV.bool Bool.false))) else (bif decide (c.8 = 0) then (k (AV.bool (decide (c.10 = 0)))) else (k (AV.bool Bool.false)))))))) else (bif (!decide (c.4 = 2)) then (k (AV.bool Bool.false)) else (bif decide (c.5 < 1) then (k (AV.bool Bool.false)) else (bif decide (c.5 > 4) then (k (AV.bool Bool.false)) else (bif decide (c.12 < 1) then (k (AV.bool Bool.false)) else (bif decide (c.12 > 4611686018427387904) then (k (AV.bool Bool.false)) else (bif decide (c.1 = 1) then (bif decide (c.6 < 1) then (k (AV.bool Bool.false)) else (bif decide (c.6 > 6) then (k (AV.bool Bool.false)) else (bif (!decide (c.1 = 1)) then (bif (!decide (c.6 = 0)) then (k (AV.bool Bool.false)) else (bif decide (c.1 = 2) then (bif (wideB c.8) then (bif decide (c.10 ≥ 1) then (k (AV.bool (decide (c.10 ≤ 8)))) else (k (AV.bool Bool.false))) else (k (AV.bool Bool.false))) else (bif decide (c.8 = 0) then (k (AV.bool (decide (c.10 = 0)))) else (k (AV.bool Bool.false))))) else (bif decide (c.1 = 2) then (bif (wideB c.8) then (bif decide (c.10 ≥ 1) then (k (AV.bool (decide (c.10 ≤ 8)))) else (k (AV.bool Bool.false))) else (k (AV.bool Bool.false))) else (bif decide (c.8 = 0) then (k (AV.bool (decide (c.10 = 0)))) else (k (AV.bool Bool.false))))))) else (bif (!decide (c.1 = 1)) then (bif (!decide (c.6 = 0)) then (k (AV.bool Bool.false)) else (bif decide (c.1 = 2) then (bif (wideB c.8) then (bif decide (c.10 ≥ 1) then (k (AV.bool (decide (c.10 ≤ 8)))) else (k (AV.bool Bool.false))) else (k (AV.bool Bool.false))) else (bif decide (c.8 = 0) then (k (AV.bool (decide (c.10 = 0)))) else (k (AV.bool Bool.false))))) else (bif decide (c.1 = 2) then (bif (wideB c.8) then (bif decide (c.10 ≥ 1) then (k (AV.bool (decide (c.10 ≤ 8)))) else (k (AV.bool Bool.false))) else (k (AV.bool Bool.false))) else (bif decide (c.8 = 0) then (k (AV.bool (decide (c.10 = 0)))) else (k (AV.bool Bool.false))))))))))))))))))))))))) := by kernel_rfl
theorem s_mayBe : SumOk Try.prog (fun _ => none) S_mayBe := onConf_sum fun c => acalls_eq base (sums_cons s_wide sums_nil) (n := 300) fun k hk => by
    rw [t_mayBe]
    repeat' (first | refine condI (fun h => ?_) (fun h => ?_) | refine andI ?_ ?_)
    all_goals first
      | (refine (congrArg k (congrArg AV.bool ?_)).trans hk
         clear hk
         rw [Bool.eq_iff_iff]
         simp only [ok_true, wideB_true, wideB_false, decide_eq_true_eq, decide_eq_false_iff_not, Bool.not_eq_true', Bool.not_eq_false', Bool.false_eq_true, false_iff, iff_false, true_and, false_and, or_false, false_or, and_true, and_false, reduceCtorEq, ge_iff_le, gt_iff_lt] at *
         try unfold Conf.OkP
         omega)
      | (clear hk
         simp only [ok_true, wideB_true, wideB_false, decide_eq_true_eq, decide_eq_false_iff_not, Bool.not_eq_true', Bool.not_eq_false'] at *
         omega)
def S_rest : Sum := (17, onConf fun c => .int .i64 (restS c))
theorem t_rest (c : Conf) (k : AV → Bool) : runF (cfg []) 300 17 [c.av] k false = ((k (AV.int IntKind.i64 (IntKind.wrap IntKind.i64 (c.2 + 5))))) := by kernel_rfl
theorem s_rest : SumOk Try.prog (fun _ => none) S_rest := onConf_sum fun c => acalls_eq base sums_nil (n := 300) fun k hk => by
    rw [t_rest]
    exact hk
def S_may : Sum := (30, onConf2 stgOf (fun c _ => decide (0 ≤ c.thr)) fun c s => .bool (mayP c s))
theorem t_may (c : Conf) (s : Stg) (k : AV → Bool) : runF (cfg [S_rest]) 300 30 [c.av, s.av] k false = ((bif decide (s.2 < 1) then (k (AV.bool Bool.false)) else (bif decide (s.2 > (restS c)) then (k (AV.bool Bool.false)) else (bif decide (s.1 ≥ (IntKind.wrap IntKind.u64 (Int.tdiv c.11 65536))) then (k (AV.bool Bool.false)) else (bif decide (c.3 < 0) then Bool.false else (bif (!decide ((ishr IntKind.u64 s.3 c.3) = 0)) then (k (AV.bool Bool.false)) else (bif decide (s.4 < 0) then (k (AV.bool Bool.false)) else (bif decide (s.4 ≥ c.3) then (k (AV.bool Bool.false)) else (bif decide (s.1 = 0) then (k (AV.bool (decide (s.2 = (restS c))))) else (k (AV.bool (!decide (s.3 = 0))))))))))))) := by kernel_rfl
theorem s_may : SumOk Try.prog (fun _ => none) S_may := onConf2_sum (fun _ _ => stgOf_some) fun c s hp => acalls_eq base (sums_cons s_rest sums_nil) (n := 300) fun k hk => by
    rw [t_may]
    repeat' (first | refine condI (fun h => ?_) (fun h => ?_) | refine andI ?_ ?_)
    all_goals first
      | (refine (congrArg k (congrArg AV.bool ?_)).trans hk
         clear hk
         rw [Bool.eq_iff_iff]
         simp only [mayP_true, batches, decide_eq_true_eq, decide_eq_false_iff_not, Bool.not_eq_true', Bool.not_eq_false', Bool.false_eq_true, false_iff, iff_false, true_and, false_and, or_false, false_or, and_true, and_false, reduceCtorEq, ge_iff_le, gt_iff_lt] at *
         try unfold Conf.OkP
         omega)
      | (clear hk
         simp only [mayP_true, batches, decide_eq_true_eq, decide_eq_false_iff_not, Bool.not_eq_true', Bool.not_eq_false'] at *
         omega)
def S_chk : Sum := (16, onConf2 stgOf (fun _ _ => true) fun c s => .int .i64 (chk mayP c s))
theorem t_chk (c : Conf) (s : Stg) (k : AV → Bool) : runF (cfg [S_check, S_may]) 300 16 [c.av, s.av] k false = ((bif (!decide ((errC c) = 0)) then (k (AV.int IntKind.i64 (errC c))) else (decide (0 ≤ c.3) && (bif (!(mayP c s)) then (k (AV.int IntKind.i64 2)) else (k (AV.int IntKind.i64 0)))))) := by kernel_rfl
theorem s_chk : SumOk Try.prog (fun _ => none) S_chk := onConf2_sum (fun _ _ => stgOf_some) fun c s hp => acalls_eq base (sums_cons s_check (sums_cons s_may sums_nil)) (n := 300) fun k hk => by
    rw [t_chk]
    unfold chk at hk
    unfold errC
    cases ho : c.ok with
    | false => rw [ho] at hk; exact hk
    | true =>
      rw [ho] at hk
      have : 0 ≤ c.thr := by have := of_decide_eq_true ho; simp only [Conf.OkP] at this; omega
      cases hm : mayP c s <;> rw [hm] at hk <;> simpa [this] using hk
end Go.Bas.BasStage
