/- Contracts: configs. -/
import Derived.Test.YtakdfjdpjggdkaaDoorProg
import Derived.Test.YtakdfjdpjggdkaaDoorBasDefs
import Derived.Test.YtakdfjdpjggdkaaDoorBasNZ
import Derived.KernelRfl
namespace Go.Bas.BasDBase
open Go.RowKit Go.Proofs
set_option maxRecDepth 100000
set_option maxHeartbeats 4000000
set_option linter.unusedVariables false
set_option linter.unusedSimpArgs false
def cells0 : List AV := [.int .u8 0, .int .u8 1, .int .u8 56, .int .u8 2, .int .u8 57, .int .u8 49, .int .u8 28, .int .u8 3, .int .u8 61, .int .u8 58, .int .u8 42, .int .u8 50, .int .u8 38, .int .u8 29, .int .u8 17, .int .u8 4, .int .u8 62, .int .u8 47, .int .u8 59, .int .u8 36, .int .u8 45, .int .u8 43, .int .u8 51, .int .u8 22, .int .u8 53, .int .u8 39, .int .u8 33, .int .u8 30, .int .u8 24, .int .u8 18, .int .u8 12, .int .u8 5, .int .u8 63, .int .u8 55, .int .u8 48, .int .u8 27, .int .u8 60, .int .u8 41, .int .u8 37, .int .u8 16, .int .u8 46, .int .u8 35, .int .u8 44, .int .u8 21, .int .u8 52, .int .u8 32, .int .u8 23, .int .u8 11, .int .u8 54, .int .u8 26, .int .u8 40, .int .u8 15, .int .u8 34, .int .u8 20, .int .u8 31, .int .u8 10, .int .u8 25, .int .u8 14, .int .u8 19, .int .u8 9, .int .u8 13, .int .u8 8, .int .u8 7, .int .u8 6]
def gs : List (Nat × List AV) := [(0, cells0)]
noncomputable abbrev cfg (l : List Sum) : Cfg := ⟨Tryd.prog, gmap gs, lookS l, fun _ => false⟩

theorem base : Base Tryd.prog := ⟨by kernel_rfl, by kernel_rfl⟩
def S_within : Sum := (50, Fwithin)
theorem t_within (b : Bool) (n l m : Int) (k : AV → Bool) : runF (cfg []) 300 50 [.bool b, .int .i64 n, .int .i64 l, .int .i64 m] k false = (bif !b then k (AV.bool (decide (n = 0))) else bif decide (n ≥ l) then k (AV.bool (decide (n ≤ m))) else k (AV.bool false)) := by kernel_rfl
theorem s_within : SumOk Tryd.prog (gmap gs) S_within := fun args r hr => by
    simp only [S_within] at hr
    unfold Fwithin at hr
    split at hr
    · rename_i b n l m
      simp only [Option.some.injEq, Prod.mk.injEq, true_and] at hr
      subst hr
      refine acalls_eq base sums_nil (n := 300) fun k hk => ?_
      refine (t_within _ _ _ _ _).trans ?_
      cases b
      · exact hk
      · cases h : decide (n ≥ l) <;> simp_all [within]
    · cases hr
def S_wide : Sum := (53, Fwide)
theorem t_wide (n : Int) (k : AV → Bool) : runF (cfg []) 300 53 [.int .i64 n] k false = (bif decide (n ≥ 2) then k (AV.bool (decide (n ≤ 4))) else k (AV.bool false)) := by kernel_rfl
theorem s_wide : SumOk Tryd.prog (gmap gs) S_wide := fun args r hr => by
    simp only [S_wide] at hr
    unfold Fwide at hr
    split at hr
    · rename_i n
      simp only [Option.some.injEq, Prod.mk.injEq, true_and] at hr
      subst hr
      refine acalls_eq base sums_nil (n := 300) fun k hk => ?_
      refine (t_wide _ _).trans ?_
      cases h : decide (n ≥ 2) <;> simp_all [wideB]
    · cases hr
def S_check : Sum := (37, onConf fun c => .int .i64 (errC c))
theorem t_check (c : Conf) (k : AV → Bool) : runF (cfg [S_within]) 300 37 [c.av] k false = (bif decide (c.1 < 1) then k (AV.int IntKind.i64 40) else bif decide (c.1 > 4) then k (AV.int IntKind.i64 40) else bif !decide (c.4 = 1) then bif !decide (c.4 = 2) then k (AV.int IntKind.i64 40) else bif !within true c.2 2 4 then k (AV.int IntKind.i64 40) else bif !within true c.3 1 16 then k (AV.int IntKind.i64 40) else bif !within (decide (c.4 = 2)) c.5 1 4 then k (AV.int IntKind.i64 40) else bif !within (decide (c.1 = 1)) c.6 1 6 then k (AV.int IntKind.i64 40) else bif !within true c.7 1 32 then k (AV.int IntKind.i64 40) else bif !within (decide (c.1 = 2)) c.8 2 4 then k (AV.int IntKind.i64 40) else bif !within (decide (c.1 = 2)) c.10 1 8 then k (AV.int IntKind.i64 40) else bif !within true c.9 1 16 then k (AV.int IntKind.i64 40) else bif decide (c.11 < 131072) then k (AV.int IntKind.i64 40) else bif decide (c.11 > 4611686018427387904) then k (AV.int IntKind.i64 40) else bif decide (c.4 = 2) then bif decide (c.12 < 1) then k (AV.int IntKind.i64 40) else bif decide (c.12 > 4611686018427387904) then k (AV.int IntKind.i64 40) else bif !decide (c.4 = 2) then bif !decide (c.12 = 0) then k (AV.int IntKind.i64 40) else k (AV.int IntKind.i64 0) else k (AV.int IntKind.i64 0) else bif !decide (c.4 = 2) then bif !decide (c.12 = 0) then k (AV.int IntKind.i64 40) else k (AV.int IntKind.i64 0) else k (AV.int IntKind.i64 0) else bif !within true c.2 2 4 then k (AV.int IntKind.i64 40) else bif !within true c.3 1 16 then k (AV.int IntKind.i64 40) else bif !within (decide (c.4 = 2)) c.5 1 4 then k (AV.int IntKind.i64 40) else bif !within (decide (c.1 = 1)) c.6 1 6 then k (AV.int IntKind.i64 40) else bif !within true c.7 1 32 then k (AV.int IntKind.i64 40) else bif !within (decide (c.1 = 2)) c.8 2 4 then k (AV.int IntKind.i64 40) else bif !within (decide (c.1 = 2)) c.10 1 8 then k (AV.int IntKind.i64 40) else bif !within true c.9 1 16 then k (AV.int IntKind.i64 40) else bif decide (c.11 < 131072) then k (AV.int IntKind.i64 40) else bif decide (c.11 > 4611686018427387904) then k (AV.int IntKind.i64 40) else bif decide (c.4 = 2) then bif decide (c.12 < 1) then k (AV.int IntKind.i64 40) else bif decide (c.12 > 4611686018427387904) then k (AV.int IntKind.i64 40) else bif !decide (c.4 = 2) then bif !decide (c.12 = 0) then k (AV.int IntKind.i64 40) else k (AV.int IntKind.i64 0) else k (AV.int IntKind.i64 0) else bif !decide (c.4 = 2) then bif !decide (c.12 = 0) then k (AV.int IntKind.i64 40) else k (AV.int IntKind.i64 0) else k (AV.int IntKind.i64 0)) := by kernel_rfl
theorem s_check : SumOk Tryd.prog (gmap gs) S_check := onConf_sum fun c => acalls_eq base (sums_cons s_within sums_nil) (n := 300) fun k hk => by
    rw [t_check]
    have h1 : c.ok = true → k (.int .i64 0) = true := fun h => by rw [errC, h] at hk; exact hk
    have h2 : c.ok = false → k (.int .i64 40) = true := fun h => by rw [errC, h] at hk; exact hk
    clear hk
    repeat' (first | refine condI (fun h => ?_) (fun h => ?_) | refine andI ?_ ?_)
    all_goals first
      | (refine h1 (decide_eq_true ?_)
         clear h1 h2
         simp only [within_true, within_false, decide_eq_true_eq, decide_eq_false_iff_not, Bool.not_eq_true', Bool.not_eq_false', true_and, false_and, or_false, false_or, and_true, and_false, reduceCtorEq, ge_iff_le, gt_iff_lt] at *
         unfold Conf.OkP
         omega)
      | (refine h2 (decide_eq_false ?_)
         clear h1 h2
         simp only [within_true, within_false, decide_eq_true_eq, decide_eq_false_iff_not, Bool.not_eq_true', Bool.not_eq_false', true_and, false_and, or_false, false_or, and_true, and_false, reduceCtorEq, ge_iff_le, gt_iff_lt] at *
         unfold Conf.OkP
         omega)
def S_mayBe : Sum := (41, onConf fun c => .bool c.ok)
theorem t_mayBe (c : Conf) (k : AV → Bool) : runF (cfg [S_wide]) 300 41 [c.av] k false = (bif decide (c.1 < 1) then k (AV.bool false) else bif decide (c.1 > 4) then k (AV.bool false) else bif decide (c.2 < 2) then k (AV.bool false) else bif decide (c.2 > 4) then k (AV.bool false) else bif decide (c.3 < 1) then k (AV.bool false) else bif decide (c.3 > 16) then k (AV.bool false) else bif decide (c.7 < 1) then k (AV.bool false) else bif decide (c.7 > 32) then k (AV.bool false) else bif decide (c.9 < 1) then k (AV.bool false) else bif decide (c.9 > 16) then k (AV.bool false) else bif decide (c.11 < 131072) then k (AV.bool false) else bif decide (c.11 > 4611686018427387904) then k (AV.bool false) else bif decide (c.4 = 1) then bif !decide (c.5 = 0) then k (AV.bool false) else bif !decide (c.12 = 0) then k (AV.bool false) else bif decide (c.1 = 1) then bif decide (c.6 < 1) then k (AV.bool false) else bif decide (c.6 > 6) then k (AV.bool false) else bif !decide (c.1 = 1) then bif !decide (c.6 = 0) then k (AV.bool false) else bif decide (c.1 = 2) then bif wideB c.8 then bif decide (c.10 ≥ 1) then k (AV.bool (decide (c.10 ≤ 8))) else k (AV.bool false) else k (AV.bool false) else bif decide (c.8 = 0) then k (AV.bool (decide (c.10 = 0))) else k (AV.bool false) else bif decide (c.1 = 2) then bif wideB c.8 then bif decide (c.10 ≥ 1) then k (AV.bool (decide (c.10 ≤ 8))) else k (AV.bool false) else k (AV.bool false) else bif decide (c.8 = 0) then k (AV.bool (decide (c.10 = 0))) else k (AV.bool false) else bif !decide (c.1 = 1) then bif !decide (c.6 = 0) then k (AV.bool false) else bif decide (c.1 = 2) then bif wideB c.8 then bif decide (c.10 ≥ 1) then k (AV.bool (decide (c.10 ≤ 8))) else k (AV.bool false) else k (AV.bool false) else bif decide (c.8 = 0) then k (AV.bool (decide (c.10 = 0))) else k (AV.bool false) else bif decide (c.1 = 2) then bif wideB c.8 then bif decide (c.10 ≥ 1) then k (AV.bool (decide (c.10 ≤ 8))) else k (AV.bool false) else k (AV.bool false) else bif decide (c.8 = 0) then k (AV.bool (decide (c.10 = 0))) else k (AV.bool false) else bif !decide (c.4 = 2) then k (AV.bool false) else bif decide (c.5 < 1) then k (AV.bool false) else bif decide (c.5 > 4) then k (AV.bool false) else bif decide (c.12 < 1) then k (AV.bool false) else bif decide (c.12 > 4611686018427387904) then k (AV.bool false) else bif decide (c.1 = 1) then bif decide (c.6 < 1) then k (AV.bool false) else bif decide (c.6 > 6) then k (AV.bool false) else bif !decide (c.1 = 1) then bif !decide (c.6 = 0) then k (AV.bool false) else bif decide (c.1 = 2) then bif wideB c.8 then bif decide (c.10 ≥ 1) then k (AV.bool (decide (c.10 ≤ 8))) else k (AV.bool false) else k (AV.bool false) else bif decide (c.8 = 0) then k (AV.bool (decide (c.10 = 0))) else k (AV.bool false) else bif decide (c.1 = 2) then bif wideB c.8 then bif decide (c.10 ≥ 1) then k (AV.bool (decide (c.10 ≤ 8))) else k (AV.bool false) else k (AV.bool false) else bif decide (c.8 = 0) then k (AV.bool (decide (c.10 = 0))) else k (AV.bool false) else bif !decide (c.1 = 1) then bif !decide (c.6 = 0) then k (AV.bool false) else bif decide (c.1 = 2) then bif wideB c.8 then bif decide (c.10 ≥ 1) then k (AV.bool (decide (c.10 ≤ 8))) else k (AV.bool false) else k (AV.bool false) else bif decide (c.8 = 0) then k (AV.bool (decide (c.10 = 0))) else k (AV.bool false) else bif decide (c.1 = 2) then bif wideB c.8 then bif decide (c.10 ≥ 1) then k (AV.bool (decide (c.10 ≤ 8))) else k (AV.bool false) else k (AV.bool false) else bif decide (c.8 = 0) then k (AV.bool (decide (c.10 = 0))) else k (AV.bool false)) := by kernel_rfl
theorem s_mayBe : SumOk Tryd.prog (gmap gs) S_mayBe := onConf_sum fun c => acalls_eq base (sums_cons s_wide sums_nil) (n := 300) fun k hk => by
    rw [t_mayBe]
    repeat' (first | refine condI (fun h => ?_) (fun h => ?_) | refine andI ?_ ?_)
    all_goals first
      | (refine (congrArg k (congrArg AV.bool ?_)).trans hk
         clear hk
         rw [Bool.eq_iff_iff]
         simp only [ok_true, wideB_true, wideB_false, decide_eq_true_eq, decide_eq_false_iff_not, Bool.not_eq_true', Bool.not_eq_false', Bool.false_eq_true, false_iff, iff_false, true_and, false_and, or_false, false_or, and_true, and_false, reduceCtorEq, ge_iff_le, gt_iff_lt] at *
         try unfold Conf.OkP
         omega)
      | (clear hk
         simp only [ok_true, wideB_true, wideB_false, decide_eq_true_eq, decide_eq_false_iff_not, Bool.not_eq_true', Bool.not_eq_false'] at *
         omega)
end Go.Bas.BasDBase
