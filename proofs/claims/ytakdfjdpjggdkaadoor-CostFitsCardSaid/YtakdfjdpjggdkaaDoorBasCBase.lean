/- Contracts: configs, kinds, and what they cost at most: first trees. -/
import Derived.Test.YtakdfjdpjggdkaaDoorProg
import Derived.Test.YtakdfjdpjggdkaaDoorBasDefs
import Derived.Test.YtakdfjdpjggdkaaDoorBasNMb
import Derived.Test.YtakdfjdpjggdkaaDoorBasNZ
import Derived.KernelRfl
namespace Go.Bas.BasCBase
open Go.RowKit Go.Proofs
set_option maxRecDepth 100000
set_option maxHeartbeats 4000000
set_option linter.unusedVariables false
set_option linter.unusedSimpArgs false
def cells3 : List AV := [.int .i64 1, .int .i64 2, .int .i64 4, .int .i64 8, .int .i64 16, .int .i64 1, .int .i64 3, .int .i64 9, .int .i64 27, .int .i64 81, .int .i64 1, .int .i64 4, .int .i64 16, .int .i64 64, .int .i64 256]
def cells1 : List AV := [.int .u8 0, .int .u8 1, .int .u8 1, .int .u8 1, .int .u8 2, .int .u8 2, .int .u8 2, .int .u8 2, .int .u8 2, .int .u8 3, .int .u8 3, .int .u8 3, .int .u8 4, .int .u8 4, .int .u8 4]
def cells2 : List AV := [.bool false, .bool true, .bool true, .bool false, .bool true, .bool true, .bool false, .bool false, .bool false, .bool true, .bool true, .bool false, .bool true, .bool true, .bool false]
def gs : List (Nat × List AV) := [(3, cells3), (1, cells1), (2, cells2)]
/-- Whose kind it is; does it write? -/
def objF (n : Int) : Int := cond (decide (n < 1)) 0 (cond (decide (n ≤ 3)) 1 (cond (decide (n ≤ 8)) 2 (cond (decide (n ≤ 11)) 3 (cond (decide (n ≤ 14)) 4 0))))
def wrF (n : Int) : Bool := decide (n = 1) || (decide (n = 2) || (decide (n = 4) || (decide (n = 5) || (decide (n = 9) || (decide (n = 10) || (decide (n = 12) || decide (n = 13)))))))
def Fobj : List AV → Option (Bool × AV)
  | [.int .u8 n] => some (decide (0 ≤ n), .int .u8 (objF n))
  | _ => none
def Fwr : List AV → Option (Bool × AV)
  | [.int .u8 n] => some (decide (0 ≤ n), .bool (wrF n))
  | _ => none
def Fpk : List AV → Option (Bool × AV)
  | [.agg [.int .i64 r, .int .i64 w, .int .i64 g]] => some (true, .int .i64 (IntKind.wrap .i64 (IntKind.wrap .i64 (4 + r) + g)))
  | _ => none
def Fst : List AV → Option (Bool × AV)
  | [.agg [.int .i64 r, .int .i64 w, .int .i64 g]] => some (true, .int .i64 (IntKind.wrap .i64 (IntKind.wrap .i64 (r + w) + 2)))
  | _ => none
noncomputable abbrev cfg (l : List Sum) : Cfg := ⟨Tryd.prog, gmap gs, lookS l, fun _ => false⟩

theorem base : Base Tryd.prog := ⟨by kernel_rfl, by kernel_rfl⟩
def S_within : Sum := (50, Fwithin)
theorem t_within (b : Bool) (n l m : Int) (k : AV → Bool) : runF (cfg []) 300 50 [.bool b, .int .i64 n, .int .i64 l, .int .i64 m] k false = ((bif (!b) then (k (AV.bool (decide (n = 0)))) else (bif decide (n ≥ l) then (k (AV.bool (decide (n ≤ m)))) else (k (AV.bool Bool.false))))) := by kernel_rfl
theorem s_within : SumOk Tryd.prog (gmap gs) S_within := fun args r hr => by
    simp only [S_within] at hr
    unfold Fwithin at hr
    split at hr
    · rename_i b n l m
      simp only [Option.some.injEq, Prod.mk.injEq, true_and] at hr
      subst hr
      refine acalls_eq base sums_nil (n := 300) fun k hk => ?_
      refine (t_within _ _ _ _ _).trans ?_
      cases b
      · exact hk
      · cases h : decide (n ≥ l) <;> simp_all [within]
    · cases hr
def S_wide : Sum := (53, Fwide)
theorem t_wide (n : Int) (k : AV → Bool) : runF (cfg []) 300 53 [.int .i64 n] k false = ((bif decide (n ≥ 2) then (k (AV.bool (decide (n ≤ 4)))) else (k (AV.bool Bool.false)))) := by kernel_rfl
theorem s_wide : SumOk Tryd.prog (gmap gs) S_wide := fun args r hr => by
    simp only [S_wide] at hr
    unfold Fwide at hr
    split at hr
    · rename_i n
      simp only [Option.some.injEq, Prod.mk.injEq, true_and] at hr
      subst hr
      refine acalls_eq base sums_nil (n := 300) fun k hk => ?_
      refine (t_wide _ _).trans ?_
      cases h : decide (n ≥ 2) <;> simp_all [wideB]
    · cases hr
def S_check : Sum := (37, onConf fun c => .int .i64 (errC c))
theorem t_check (c : Conf) (k : AV → Bool) : runF (cfg [S_within]) 300 37 [c.av] k false = ((bif decide (c.1 < 1) then (k (AV.int IntKind.i64 40)) else (bif decide (c.1 > 4) then (k (AV.int IntKind.i64 40)) else (bif (!decide (c.4 = 1)) then (bif (!decide (c.4 = 2)) then (k (AV.int IntKind.i64 40)) else (bif (!(within Bool.true c.2 2 4)) then (k (AV.int IntKind.i64 40)) else (bif (!(within Bool.true c.3 1 16)) then (k (AV.int IntKind.i64 40)) else (bif (!(within (decide (c.4 = 2)) c.5 1 4)) then (k (AV.int IntKind.i64 40)) else (bif (!(within (decide (c.1 = 1)) c.6 1 6)) then (k (AV.int IntKind.i64 40)) else (bif (!(within Bool.true c.7 1 32)) then (k (AV.int IntKind.i64 40)) else (bif (!(within (decide (c.1 = 2)) c.8 2 4)) then (k (AV.int IntKind.i64 40)) else (bif (!(within (decide (c.1 = 2)) c.10 1 8)) then (k (AV.int IntKind.i64 40)) else (bif (!(within Bool.true c.9 1 16)) then (k (AV.int IntKind.i64 40)) else (bif decide (c.11 < 131072) then (k (AV.int IntKind.i64 40)) else (bif decide (c.11 > 4611686018427387904) then (k (AV.int IntKind.i64 40)) else (bif decide (c.4 = 2) then (bif decide (c.12 < 1) then (k (AV.int IntKind.i64 40)) else (bif decide (c.12 > 4611686018427387904) then (k (AV.int IntKind.i64 40)) else (bif (!decide (c.4 = 2)) then (bif (!decide (c.12 = 0)) then (k (AV.int IntKind.i64 40)) else (k (AV.int IntKind.i64 0))) else (k (AV.int IntKind.i64 0))))) else (bif (!decide (c.4 = 2)) then (bif (!decide (c.12 = 0)) then (k (AV.int IntKind.i64 40)) else (k (AV.int IntKind.i64 0))) else (k (AV.int IntKind.i64 0))))))))))))))) else (bif (!(within Bool.true c.2 2 4)) then (k (AV.int IntKind.i64 40)) else (bif (!(within Bool.true c.3 1 16)) then (k (AV.int IntKind.i64 40)) else (bif (!(within (decide (c.4 = 2)) c.5 1 4)) then (k (AV.int IntKind.i64 40)) else (bif (!(within (decide (c.1 = 1)) c.6 1 6)) then (k (AV.int IntKind.i64 40)) else (bif (!(within Bool.true c.7 1 32)) then (k (AV.int IntKind.i64 40)) else (bif (!(within (decide (c.1 = 2)) c.8 2 4)) then (k (AV.int IntKind.i64 40)) else (bif (!(within (decide (c.1 = 2)) c.10 1 8)) then (k (AV.int IntKind.i64 40)) else (bif (!(within Bool.true c.9 1 16)) then (k (AV.int IntKind.i64 40)) else (bif decide (c.11 < 131072) then (k (AV.int IntKind.i64 40)) else (bif decide (c.11 > 4611686018427387904) then (k (AV.int IntKind.i64 40)) else (bif decide (c.4 = 2) then (bif decide (c.12 < 1) then (k (AV.int IntKind.i64 40)) else (bif decide (c.12 > 4611686018427387904) then (k (AV.int IntKind.i64 40)) else (bif (!decide (c.4 = 2)) then (bif (!decide (c.12 = 0)) then (k (AV.int IntKind.i64 40)) else (k (AV.int IntKind.i64 0))) else (k (AV.int IntKind.i64 0))))) else (bif (!decide (c.4 = 2)) then (bif (!decide (c.12 = 0)) then (k (AV.int IntKind.i64 40)) else (k (AV.int IntKind.i64 0))) else (k (AV.int IntKind.i64 0)))))))))))))))))) := by kernel_rfl
theorem s_check : SumOk Tryd.prog (gmap gs) S_check := onConf_sum fun c => acalls_eq base (sums_cons s_within sums_nil) (n := 300) fun k hk => by
    rw [t_check]
    have h1 : c.ok = true → k (.int .i64 0) = true := fun h => by rw [errC, h] at hk; exact hk
    have h2 : c.ok = false → k (.int .i64 40) = true := fun h => by rw [errC, h] at hk; exact hk
    clear hk
    repeat' (first | refine condI (fun h => ?_) (fun h => ?_) | refine andI ?_ ?_)
    all_goals first
      | (refine h1 (decide_eq_true ?_)
         clear h1 h2
         simp only [within_true, within_false, decide_eq_true_eq, decide_eq_false_iff_not, Bool.not_eq_true', Bool.not_eq_false', true_and, false_and, or_false, false_or, and_true, and_false, reduceCtorEq, ge_iff_le, gt_iff_lt] at *
         unfold Conf.OkP
         omega)
      | (refine h2 (decide_eq_false ?_)
         clear h1 h2
         simp only [within_true, within_false, decide_eq_true_eq, decide_eq_false_iff_not, Bool.not_eq_true', Bool.not_eq_false', true_and, false_and, or_false, false_or, and_true, and_false, reduceCtorEq, ge_iff_le, gt_iff_lt] at *
         unfold Conf.OkP
         omega)
def S_mayBe : Sum := (41, onConf fun c => .bool c.ok)
theorem t_mayBe (c : Conf) (k : AV → Bool) : runF (cfg [S_wide]) 300 41 [c.av] k false = ((bif decide (c.1 < 1) then (k (AV.bool Bool.false)) else (bif decide (c.1 > 4) then (k (AV.bool Bool.false)) else (bif decide (c.2 < 2) then (k (AV.bool Bool.false)) else (bif decide (c.2 > 4) then (k (AV.bool Bool.false)) else (bif decide (c.3 < 1) then (k (AV.bool Bool.false)) else (bif decide (c.3 > 16) then (k (AV.bool Bool.false)) else (bif decide (c.7 < 1) then (k (AV.bool Bool.false)) else (bif decide (c.7 > 32) then (k (AV.bool Bool.false)) else (bif decide (c.9 < 1) then (k (AV.bool Bool.false)) else (bif decide (c.9 > 16) then (k (AV.bool Bool.false)) else (bif decide (c.11 < 131072) then (k (AV.bool Bool.false)) else (bif decide (c.11 > 4611686018427387904) then (k (AV.bool Bool.false)) else (bif decide (c.4 = 1) then (bif (!decide (c.5 = 0)) then (k (AV.bool Bool.false)) else (bif (!decide (c.12 = 0)) then (k (AV.bool Bool.false)) else (bif decide (c.1 = 1) then (bif decide (c.6 < 1) then (k (AV.bool Bool.false)) else (bif decide (c.6 > 6) then (k (AV.bool Bool.false)) else (bif (!decide (c.1 = 1)) then (bif (!decide (c.6 = 0)) then (k (AV.bool Bool.false)) else (bif decide (c.1 = 2) then (bif (wideB c.8) then (bif decide (c.10 ≥ 1) then (k (AV.bool (decide (c.10 ≤ 8)))) else (k (AV.bool Bool.false))) else (k (AV.bool Bool.false))) else (bif decide (c.8 = 0) then (k (AV.bool (decide (c.10 = 0)))) else (k (AV.bool Bool.false))))) else (bif decide (c.1 = 2) then (bif (wideB c.8) then (bif decide (c.10 ≥ 1) then (k (AV.bool (decide (c.10 ≤ 8)))) else (k (AV.bool Bool.false))) else (k (AV.bool Bool.false))) else (bif decide (c.8 = 0) then (k (AV.bool (decide (c.10 = 0)))) else (k (AV.bool Bool.false))))))) else (bif (!decide (c.1 = 1)) then (bif (!decide (c.6 = 0)) then (k (AV.bool Bool.false)) else (bif decide (c.1 = 2) then (bif (wideB c.8) then (bif decide (c.10 ≥ 1) then (k (AV.bool (decide (c.10 ≤ 8)))) else (k (AV.bool Bool.false))) else (k (AV.bool Bool.false))) else (bif decide (c.8 = 0) then (k (AV.bool (decide (c.10 = 0)))) else (k (AV.bool Bool.false))))) else (bif decide (c.1 = 2) then (bif (wideB c.8) then (bif decide (c.10 ≥ 1) then (k (AV.bool (decide (c.10 ≤ 8)))) else (k (AV.bool Bool.false))) else (k (AV.bool Bool.false))) else (bif decide (c.8 = 0) then (k (AV.bool (decide (c.10 = 0)))) else (k (AV.bool Bool.false)))))))) else (bif (!decide (c.4 = 2)) then (k (AV.bool Bool.false)) else (bif decide (c.5 < 1) then (k (AV.bool Bool.false)) else (bif decide (c.5 > 4) then (k (AV.bool Bool.false)) else (bif decide (c.12 < 1) then (k (AV.bool Bool.false)) else (bif decide (c.12 > 4611686018427387904) then (k (AV.bool Bool.false)) else (bif decide (c.1 = 1) then (bif decide (c.6 < 1) then (k (AV.bool Bool.false)) else (bif decide (c.6 > 6) then (k (AV.bool Bool.false)) else (bif (!decide (c.1 = 1)) then (bif (!decide (c.6 = 0)) then (k (AV.bool Bool.false)) else (bif decide (c.1 = 2) then (bif (wideB c.8) then (bif decide (c.10 ≥ 1) then (k (AV.bool (decide (c.10 ≤ 8)))) else (k (AV.bool Bool.false))) else (k (AV.bool Bool.false))) else (bif decide (c.8 = 0) then (k (AV.bool (decide (c.10 = 0)))) else (k (AV.bool Bool.false))))) else (bif decide (c.1 = 2) then (bif (wideB c.8) then (bif decide (c.10 ≥ 1) then (k (AV.bool (decide (c.10 ≤ 8)))) else (k (AV.bool Bool.false))) else (k (AV.bool Bool.false))) else (bif decide (c.8 = 0) then (k (AV.bool (decide (c.10 = 0)))) else (k (AV.bool Bool.false))))))) else (bif (!decide (c.1 = 1)) then (bif (!decide (c.6 = 0)) then (k (AV.bool Bool.false)) else (bif decide (c.1 = 2) then (bif (wideB c.8) then (bif decide (c.10 ≥ 1) then (k (AV.bool (decide (c.10 ≤ 8)))) else (k (AV.bool Bool.false))) else (k (AV.bool Bool.false))) else (bif decide (c.8 = 0) then (k (AV.bool (decide (c.10 = 0)))) else (k (AV.bool Bool.false))))) else (bif decide (c.1 = 2) then (bif (wideB c.8) then (bif decide (c.10 ≥ 1) then (k (AV.bool (decide (c.10 ≤ 8)))) else (k (AV.bool Bool.false))) else (k (AV.bool Bool.false))) else (bif decide (c.8 = 0) then (k (AV.bool (decide (c.10 = 0)))) else (k (AV.bool Bool.false))))))))))))))))))))))))) := by kernel_rfl
theorem s_mayBe : SumOk Tryd.prog (gmap gs) S_mayBe := onConf_sum fun c => acalls_eq base (sums_cons s_wide sums_nil) (n := 300) fun k hk => by
    rw [t_mayBe]
    repeat' (first | refine condI (fun h => ?_) (fun h => ?_) | refine andI ?_ ?_)
    all_goals first
      | (refine (congrArg k (congrArg AV.bool ?_)).trans hk
         clear hk
         rw [Bool.eq_iff_iff]
         simp only [ok_true, wideB_true, wideB_false, decide_eq_true_eq, decide_eq_false_iff_not, Bool.not_eq_true', Bool.not_eq_false', Bool.false_eq_true, false_iff, iff_false, true_and, false_and, or_false, false_or, and_true, and_false, reduceCtorEq, ge_iff_le, gt_iff_lt] at *
         try unfold Conf.OkP
         omega)
      | (clear hk
         simp only [ok_true, wideB_true, wideB_false, decide_eq_true_eq, decide_eq_false_iff_not, Bool.not_eq_true', Bool.not_eq_false'] at *
         omega)
theorem t_obj (n : Int) (k : AV → Bool) : runF (cfg []) 300 39 [.int .u8 n] k false = ((bif decide ((IntKind.wrap IntKind.i64 n) ≥ 15) then (k (AV.int IntKind.u8 0)) else ((inside n 15) && ((Nat.ble ((0 + ((Int.toNat n) * 1)) + 1) 15) && ((AV.isI IntKind.u8 (lget [(AV.int IntKind.u8 0), (AV.int IntKind.u8 1), (AV.int IntKind.u8 1), (AV.int IntKind.u8 1), (AV.int IntKind.u8 2), (AV.int IntKind.u8 2), (AV.int IntKind.u8 2), (AV.int IntKind.u8 2), (AV.int IntKind.u8 2), (AV.int IntKind.u8 3), (AV.int IntKind.u8 3), (AV.int IntKind.u8 3), (AV.int IntKind.u8 4), (AV.int IntKind.u8 4), (AV.int IntKind.u8 4)] (0 + ((Int.toNat n) * 1)))) && (k (AV.int IntKind.u8 (AV.toI (lget [(AV.int IntKind.u8 0), (AV.int IntKind.u8 1), (AV.int IntKind.u8 1), (AV.int IntKind.u8 1), (AV.int IntKind.u8 2), (AV.int IntKind.u8 2), (AV.int IntKind.u8 2), (AV.int IntKind.u8 2), (AV.int IntKind.u8 2), (AV.int IntKind.u8 3), (AV.int IntKind.u8 3), (AV.int IntKind.u8 3), (AV.int IntKind.u8 4), (AV.int IntKind.u8 4), (AV.int IntKind.u8 4)] (0 + ((Int.toNat n) * 1))))))))))) := by kernel_rfl
theorem t_objR (n : Int) (k : AV → Bool) : runF (cfg []) 300 42 [.int .u8 n] k false = ((bif decide (n ≥ 1) then (bif decide (n ≤ 3) then (k (AV.int IntKind.u8 1)) else (bif decide (n ≥ 4) then (bif decide (n ≤ 8) then (k (AV.int IntKind.u8 2)) else (bif decide (n ≥ 9) then (bif decide (n ≤ 11) then (k (AV.int IntKind.u8 3)) else (bif decide (n ≥ 12) then (bif decide (n ≤ 14) then (k (AV.int IntKind.u8 4)) else (k (AV.int IntKind.u8 0))) else (k (AV.int IntKind.u8 0)))) else (bif decide (n ≥ 12) then (bif decide (n ≤ 14) then (k (AV.int IntKind.u8 4)) else (k (AV.int IntKind.u8 0))) else (k (AV.int IntKind.u8 0))))) else (bif decide (n ≥ 9) then (bif decide (n ≤ 11) then (k (AV.int IntKind.u8 3)) else (bif decide (n ≥ 12) then (bif decide (n ≤ 14) then (k (AV.int IntKind.u8 4)) else (k (AV.int IntKind.u8 0))) else (k (AV.int IntKind.u8 0)))) else (bif decide (n ≥ 12) then (bif decide (n ≤ 14) then (k (AV.int IntKind.u8 4)) else (k (AV.int IntKind.u8 0))) else (k (AV.int IntKind.u8 0)))))) else (bif decide (n ≥ 4) then (bif decide (n ≤ 8) then (k (AV.int IntKind.u8 2)) else (bif decide (n ≥ 9) then (bif decide (n ≤ 11) then (k (AV.int IntKind.u8 3)) else (bif decide (n ≥ 12) then (bif decide (n ≤ 14) then (k (AV.int IntKind.u8 4)) else (k (AV.int IntKind.u8 0))) else (k (AV.int IntKind.u8 0)))) else (bif decide (n ≥ 12) then (bif decide (n ≤ 14) then (k (AV.int IntKind.u8 4)) else (k (AV.int IntKind.u8 0))) else (k (AV.int IntKind.u8 0))))) else (bif decide (n ≥ 9) then (bif decide (n ≤ 11) then (k (AV.int IntKind.u8 3)) else (bif decide (n ≥ 12) then (bif decide (n ≤ 14) then (k (AV.int IntKind.u8 4)) else (k (AV.int IntKind.u8 0))) else (k (AV.int IntKind.u8 0)))) else (bif decide (n ≥ 12) then (bif decide (n ≤ 14) then (k (AV.int IntKind.u8 4)) else (k (AV.int IntKind.u8 0))) else (k (AV.int IntKind.u8 0))))))) := by kernel_rfl
theorem t_wr (n : Int) (k : AV → Bool) : runF (cfg []) 300 47 [.int .u8 n] k false = ((bif decide ((IntKind.wrap IntKind.i64 n) < 15) then ((inside n 15) && ((Nat.ble ((0 + ((Int.toNat n) * 1)) + 1) 15) && ((AV.isB (lget [(AV.bool Bool.false), (AV.bool Bool.true), (AV.bool Bool.true), (AV.bool Bool.false), (AV.bool Bool.true), (AV.bool Bool.true), (AV.bool Bool.false), (AV.bool Bool.false), (AV.bool Bool.false), (AV.bool Bool.true), (AV.bool Bool.true), (AV.bool Bool.false), (AV.bool Bool.true), (AV.bool Bool.true), (AV.bool Bool.false)] (0 + ((Int.toNat n) * 1)))) && (k (AV.bool (AV.toB (lget [(AV.bool Bool.false), (AV.bool Bool.true), (AV.bool Bool.true), (AV.bool Bool.false), (AV.bool Bool.true), (AV.bool Bool.true), (AV.bool Bool.false), (AV.bool Bool.false), (AV.bool Bool.false), (AV.bool Bool.true), (AV.bool Bool.true), (AV.bool Bool.false), (AV.bool Bool.true), (AV.bool Bool.true), (AV.bool Bool.false)] (0 + ((Int.toNat n) * 1))))))))) else (k (AV.bool Bool.false)))) := by kernel_rfl
theorem t_wrR (n : Int) (k : AV → Bool) : runF (cfg []) 300 49 [.int .u8 n] k false = ((bif decide (n = 1) then (k (AV.bool Bool.true)) else (bif decide (n = 2) then (k (AV.bool Bool.true)) else (bif decide (n = 4) then (k (AV.bool Bool.true)) else (bif decide (n = 5) then (k (AV.bool Bool.true)) else (bif decide (n = 9) then (k (AV.bool Bool.true)) else (bif decide (n = 10) then (k (AV.bool Bool.true)) else (bif decide (n = 12) then (k (AV.bool Bool.true)) else (k (AV.bool (decide (n = 13)))))))))))) := by kernel_rfl
theorem t_pk (r w g : Int) (k : AV → Bool) : runF (cfg []) 300 48 [.agg [.int .i64 r, .int .i64 w, .int .i64 g]] k false = ((k (AV.int IntKind.i64 (IntKind.wrap IntKind.i64 ((IntKind.wrap IntKind.i64 (4 + r)) + g))))) := by kernel_rfl
theorem t_st (r w g : Int) (k : AV → Bool) : runF (cfg []) 300 45 [.agg [.int .i64 r, .int .i64 w, .int .i64 g]] k false = ((k (AV.int IntKind.i64 (IntKind.wrap IntKind.i64 ((IntKind.wrap IntKind.i64 (r + w)) + 2))))) := by kernel_rfl
end Go.Bas.BasCBase
