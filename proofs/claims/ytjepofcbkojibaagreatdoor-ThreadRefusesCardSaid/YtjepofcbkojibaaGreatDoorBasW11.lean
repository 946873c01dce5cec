/- Contracts with no law of their own: the program of rules. -/
import Derived.Test.YtjepofcbkojibaaGreatDoorBasW10
set_option maxRecDepth 100000
set_option maxHeartbeats 4000000
set_option linter.unusedVariables false
set_option linter.unusedSimpArgs false
namespace Go.Bas.BasZGate
noncomputable section
open Go.RowKit Go.Proofs
open BasZBase BasZOp
section
variable (a0 : Int) (a1 : Int) (a2 : Int) (a3 : Int) (a4 : Int) (a5 : Int) (a6 : Int) (a7 : Int)
abbrev lf0 (a8 : Int) (a9 : Int) (a10 : Int) : Tr := .leaf [.int .u8 a0, .int .u32 a1, .int .u32 a2, .int .u8 a3, .int .u8 a4, .int .u8 a5, .int .u8 a6, .int .u8 a7, .int .u8 a8, .int .u32 a9, .int .u32 a10]
abbrev lf1 : Tr := .leaf [.int .u8 a0, .int .i64 a1, .int .u64 a2, .int .u64 a3, .int .u64 a4, .int .i64 a5, .int .u32 a6, .int .i64 a7]
abbrev lf2 (a8 : Int) (a9 : Int) (a10 : Int) (a11 : Int) : Tr := .leaf [.int .u8 a0, .int .u32 a1, .int .u32 a2, .int .u8 a3, .int .u8 a4, .int .u8 a5, .int .u8 a6, .int .u8 a7, .int .u8 a8, .int .u32 a9, .int .u32 a10, .int .i64 a11]
end
abbrev zci0 : Tr := .leaf [.bool Bool.false]
abbrev zci1 (c : Conf) (f : Frm) : Tr := .br (decide ((IntKind.wrap .i64 f.5) >= c.7)) zci0 (.br (decide ((IntKind.wrap .i64 f.6) >= c.7)) zci0 (.br (decide (f.9 > 1)) zci0 (.br (decide (f.4 = 0)) (.leaf [.bool Bool.true]) (.br (decide (f.4 = 20)) (.leaf [.bool Bool.true]) (.br (decide (f.4 = 2)) (.leaf [.bool (!decide (f.1 = 11))]) (.br (decide (f.4 = 21)) (.leaf [.bool (decide (f.1 = 10))]) (.br (decide (f.4 = 22)) (.leaf [.bool (decide (f.1 = 9))]) zci0)))))))
def T_gmay (c : Conf) (f : Frm) : Tr := (.br (decide (f.1 = 9)) (.br (ok_opc c (Opr.mk f.1 f.2 f.3 f.11)) (.br (!decide ((f_opc_0 c (Opr.mk f.1 f.2 f.3 f.11)) = 0)) zci0 (zci1 c f)) .bad) (.br (ok_opc c (Opr.mk f.1 f.2 f.3 0)) (.br (!decide ((f_opc_0 c (Opr.mk f.1 f.2 f.3 0)) = 0)) zci0 (zci1 c f)) .bad))
def ks_gmay : List CK := [.b]
def sh_gmay (l : List AV) : AV := lget l 0
def f_gmay_0 (c : Conf) (f : Frm) : Bool := (T_gmay c f).bool 0
def o_gmay (c : Conf) (f : Frm) : AV := .bool (f_gmay_0 c f)
def ok_gmay (c : Conf) (f : Frm) : Bool := (T_gmay c f).ok
def S_gmay : Sum := (298, on2 rConf rFrm (fun c f => ok_gmay c f) (fun c f => o_gmay c f))
theorem t_gmay (c : Conf) (f : Frm) (k : AV -> Bool) : runF (cfg [S_opc]) 300 298 [c.av, f.av] k false = (T_gmay c f).ev (fun l => k (sh_gmay l)) false := by kernel_rfl
theorem fits_gmay (c : Conf) (f : Frm) : (T_gmay c f).fits ks_gmay = true := by kernel_rfl
theorem s_gmay : SumOk Tryz.prog (gmap gs) S_gmay := on2_sum fun c f hp => acalls_eq base (sums_cons s_opc sums_nil) (n := 300) fun k hk => (t_gmay c f k).trans ((Tr.merge (fits_gmay c f) hp).trans hk)
def T_gover (f : Frm) : Tr := (.br (decide (f.1 = 9)) (.br (decide (f.9 = 1)) (lf0 f.1 f.2 f.3 2 f.5 f.6 f.7 f.8 f.9 0 f.11) (lf0 f.1 f.2 f.3 22 f.5 f.6 f.7 f.8 f.9 0 f.11)) (.br (decide (f.1 = 10)) (lf0 f.1 f.2 f.3 21 f.5 f.6 f.7 f.8 f.9 f.10 f.11) (.br (decide (f.1 = 11)) (lf0 f.1 f.2 f.3 20 f.5 f.6 f.7 f.8 f.9 f.10 f.11) (lf0 f.1 f.2 f.3 20 f.5 f.6 f.7 f.8 f.9 f.10 f.11))))
def ks_gover : List CK := [.i .u8, .i .u32, .i .u32, .i .u8, .i .u8, .i .u8, .i .u8, .i .u8, .i .u8, .i .u32, .i .u32]
def sh_gover (l : List AV) : AV := .agg [lget l 0, lget l 1, lget l 2, lget l 3, lget l 4, lget l 5, lget l 6, lget l 7, lget l 8, lget l 9, lget l 10]
section
variable (f : Frm)
def f_gover_0 : Int := (T_gover f).int 0
def f_gover_1 : Int := (T_gover f).int 1
def f_gover_2 : Int := (T_gover f).int 2
def f_gover_3 : Int := (T_gover f).int 3
def f_gover_4 : Int := (T_gover f).int 4
def f_gover_5 : Int := (T_gover f).int 5
def f_gover_6 : Int := (T_gover f).int 6
def f_gover_7 : Int := (T_gover f).int 7
def f_gover_8 : Int := (T_gover f).int 8
def f_gover_9 : Int := (T_gover f).int 9
def f_gover_10 : Int := (T_gover f).int 10
def o_gover : AV := .agg [.int .u8 (f_gover_0 f), .int .u32 (f_gover_1 f), .int .u32 (f_gover_2 f), .int .u8 (f_gover_3 f), .int .u8 (f_gover_4 f), .int .u8 (f_gover_5 f), .int .u8 (f_gover_6 f), .int .u8 (f_gover_7 f), .int .u8 (f_gover_8 f), .int .u32 (f_gover_9 f), .int .u32 (f_gover_10 f)]
end
def S_gover : Sum := (301, on1 rFrm (fun f => true) (fun f => o_gover f))
theorem t_gover (f : Frm) (k : AV -> Bool) : runF (cfg []) 300 301 [f.av] k false = (T_gover f).ev (fun l => k (sh_gover l)) false := by kernel_rfl
theorem fits_gover (f : Frm) : (T_gover f).fits ks_gover = true := by kernel_rfl
theorem s_gover : SumOk Tryz.prog (gmap gs) S_gover := on1_sum fun f hp => acalls_eq base sums_nil (n := 300) fun k hk => (t_gover f k).trans ((Tr.merge (fits_gover f) (Tr.ok_of_total (by kernel_rfl))).trans hk)
def T_gchk (c : Conf) (f : Frm) : Tr := (.br (!decide ((errC c) = 0)) (.leaf [.int .i64 40]) (.br (!decide (c.1 = 3)) (.leaf [.int .i64 40]) (.br (ok_gmay c f) (.br (!(f_gmay_0 c f)) (.leaf [.int .i64 2]) (.leaf [.int .i64 0])) .bad)))
def ks_gchk : List CK := [.i .i64]
def sh_gchk (l : List AV) : AV := lget l 0
def f_gchk_0 (c : Conf) (f : Frm) : Int := (T_gchk c f).int 0
def o_gchk (c : Conf) (f : Frm) : AV := .int .i64 (f_gchk_0 c f)
def ok_gchk (c : Conf) (f : Frm) : Bool := (T_gchk c f).ok
def S_gchk : Sum := (271, on2 rConf rFrm (fun c f => ok_gchk c f) (fun c f => o_gchk c f))
theorem t_gchk (c : Conf) (f : Frm) (k : AV -> Bool) : runF (cfg [S_check, S_gmay]) 300 271 [c.av, f.av] k false = (T_gchk c f).ev (fun l => k (sh_gchk l)) false := by kernel_rfl
theorem fits_gchk (c : Conf) (f : Frm) : (T_gchk c f).fits ks_gchk = true := by kernel_rfl
theorem s_gchk : SumOk Tryz.prog (gmap gs) S_gchk := on2_sum fun c f hp => acalls_eq base (sums_cons s_check (sums_cons s_gmay sums_nil)) (n := 300) fun k hk => (t_gchk c f k).trans ((Tr.merge (fits_gchk c f) hp).trans hk)
abbrev zci2 (f : Frm) := Frm.mk f.1 f.2 f.3 f.4 f.5 f.6 f.7 f.8 f.9 1 f.11
abbrev zci3 (c : Conf) (f : Frm) (l : Cel) : Tr := .br (decide (l.2 = 2)) (lf0 f.1 f.2 f.3 20 f.5 f.6 f.7 f.8 f.9 2 f.11) (.br (decide ((IntKind.wrap .i64 ((IntKind.wrap .i64 f.5) + 1)) = c.7)) (lf0 (f_gover_0 (zci2 f)) (f_gover_1 (zci2 f)) (f_gover_2 (zci2 f)) (f_gover_3 (zci2 f)) (f_gover_4 (zci2 f)) (f_gover_5 (zci2 f)) (f_gover_6 (zci2 f)) (f_gover_7 (zci2 f)) (f_gover_8 (zci2 f)) (f_gover_9 (zci2 f)) (f_gover_10 (zci2 f))) (lf0 f.1 f.2 f.3 f.4 (IntKind.wrap .u8 (f.5 + 1)) f.6 f.7 f.8 f.9 1 f.11))
abbrev zci4 (c : Conf) (f : Frm) : Tr := .br (decide ((IntKind.wrap .i64 ((IntKind.wrap .i64 f.5) + 1)) = c.7)) (lf0 (f_gover_0 f) (f_gover_1 f) (f_gover_2 f) (f_gover_3 f) (f_gover_4 f) (f_gover_5 f) (f_gover_6 f) (f_gover_7 f) (f_gover_8 f) (f_gover_9 f) (f_gover_10 f)) (lf0 f.1 f.2 f.3 f.4 (IntKind.wrap .u8 (f.5 + 1)) f.6 f.7 f.8 f.9 f.10 f.11)
abbrev zci5 (c : Conf) (f : Frm) (l : Cel) : Tr := .br (!decide (l.2 = 0)) (.br (decide (l.3 = 0)) (.br (decide (l.4 = 0)) (zci3 c f l) (.br (decide (l.4 = (IntKind.wrap .u64 f.3))) (zci3 c f l) (zci4 c f))) (.br (decide (l.3 = (IntKind.wrap .u64 f.2))) (.br (decide (l.4 = 0)) (zci3 c f l) (.br (decide (l.4 = (IntKind.wrap .u64 f.3))) (zci3 c f l) (zci4 c f))) (zci4 c f))) (zci4 c f)
abbrev zci6 (f : Frm) := Frm.mk f.1 f.2 f.3 f.4 f.5 f.5 f.7 f.8 1 f.10 f.11
abbrev zci7 (c : Conf) (f : Frm) (l : Cel) : Tr := .br (decide (f.1 = 9)) (.br (decide (l.2 = 0)) (.br (decide (f.9 = 0)) (.br (decide ((IntKind.wrap .i64 ((IntKind.wrap .i64 f.5) + 1)) = c.7)) (lf0 (f_gover_0 (zci6 f)) (f_gover_1 (zci6 f)) (f_gover_2 (zci6 f)) (f_gover_3 (zci6 f)) (f_gover_4 (zci6 f)) (f_gover_5 (zci6 f)) (f_gover_6 (zci6 f)) (f_gover_7 (zci6 f)) (f_gover_8 (zci6 f)) (f_gover_9 (zci6 f)) (f_gover_10 (zci6 f))) (lf0 f.1 f.2 f.3 f.4 (IntKind.wrap .u8 (f.5 + 1)) f.5 f.7 f.8 1 f.10 f.11)) (zci4 c f)) (zci4 c f)) (zci4 c f)
def T_gseek (c : Conf) (f : Frm) (l : Cel) : Tr := (.br (!decide (l.2 = 0)) (.br (decide (l.3 = (IntKind.wrap .u64 f.2))) (.br (decide (f.1 = 11)) (zci5 c f l) (.br (decide (l.4 = (IntKind.wrap .u64 f.3))) (lf0 f.1 f.2 f.3 2 f.5 f.5 f.7 f.8 f.9 (IntKind.wrap .u32 l.2) f.11) (zci7 c f l))) (.br (decide (f.1 = 11)) (zci5 c f l) (zci7 c f l))) (.br (decide (f.1 = 11)) (zci5 c f l) (zci7 c f l)))
def ks_gseek : List CK := [.i .u8, .i .u32, .i .u32, .i .u8, .i .u8, .i .u8, .i .u8, .i .u8, .i .u8, .i .u32, .i .u32]
def sh_gseek (l : List AV) : AV := .agg [lget l 0, lget l 1, lget l 2, lget l 3, lget l 4, lget l 5, lget l 6, lget l 7, lget l 8, lget l 9, lget l 10]
section
variable (c : Conf) (f : Frm) (l : Cel)
def f_gseek_0 : Int := (T_gseek c f l).int 0
def f_gseek_1 : Int := (T_gseek c f l).int 1
def f_gseek_2 : Int := (T_gseek c f l).int 2
def f_gseek_3 : Int := (T_gseek c f l).int 3
def f_gseek_4 : Int := (T_gseek c f l).int 4
def f_gseek_5 : Int := (T_gseek c f l).int 5
def f_gseek_6 : Int := (T_gseek c f l).int 6
def f_gseek_7 : Int := (T_gseek c f l).int 7
def f_gseek_8 : Int := (T_gseek c f l).int 8
def f_gseek_9 : Int := (T_gseek c f l).int 9
def f_gseek_10 : Int := (T_gseek c f l).int 10
def o_gseek : AV := .agg [.int .u8 (f_gseek_0 c f l), .int .u32 (f_gseek_1 c f l), .int .u32 (f_gseek_2 c f l), .int .u8 (f_gseek_3 c f l), .int .u8 (f_gseek_4 c f l), .int .u8 (f_gseek_5 c f l), .int .u8 (f_gseek_6 c f l), .int .u8 (f_gseek_7 c f l), .int .u8 (f_gseek_8 c f l), .int .u32 (f_gseek_9 c f l), .int .u32 (f_gseek_10 c f l)]
end
def S_gseek : Sum := (272, on3 rConf rFrm rCel (fun c f l => true) (fun c f l => o_gseek c f l))
theorem t_gseek (c : Conf) (f : Frm) (l : Cel) (k : AV -> Bool) : runF (cfg [S_gover]) 300 272 [c.av, f.av, l.av] k false = (T_gseek c f l).ev (fun l => k (sh_gseek l)) false := by kernel_rfl
theorem fits_gseek (c : Conf) (f : Frm) (l : Cel) : (T_gseek c f l).fits ks_gseek = true := by kernel_rfl
theorem s_gseek : SumOk Tryz.prog (gmap gs) S_gseek := on3_sum fun c f l hp => acalls_eq base (sums_cons s_gover sums_nil) (n := 300) fun k hk => (t_gseek c f l k).trans ((Tr.merge (fits_gseek c f l) (Tr.ok_of_total (by kernel_rfl))).trans hk)
def T_gateN (c : Conf) (f : Frm) : Tr := (.br (ok_gchk c f) (.br (!decide ((f_gchk_0 c f) = 0)) (lf1 0 0 0 0 0 0 0 (f_gchk_0 c f)) (.br (decide (f.4 = 0)) (lf1 1 (IntKind.wrap .i64 f.5) 0 0 0 0 0 0) (.br (decide (f.4 = 2)) (.br (decide (f.1 = 9)) (lf1 2 (IntKind.wrap .i64 f.6) (IntKind.wrap .u64 f.11) (IntKind.wrap .u64 f.2) (IntKind.wrap .u64 f.3) 0 0 0) (lf1 2 (IntKind.wrap .i64 f.6) 0 0 0 0 0 0)) (.br (decide (f.4 = 20)) (lf1 4 0 0 0 0 0 f.10 0) (.br (decide (f.4 = 21)) (lf1 4 0 0 0 0 6 0 0) (.br (decide (f.4 = 22)) (lf1 4 0 0 0 0 9 0 0) (lf1 4 0 0 0 0 0 0 0))))))) .bad)
def ks_gateN : List CK := [.i .u8, .i .i64, .i .u64, .i .u64, .i .u64, .i .i64, .i .u32, .i .i64]
def sh_gateN (l : List AV) : AV := .tup [.agg [lget l 0, lget l 1, lget l 2, lget l 3, lget l 4, lget l 5, lget l 6], lget l 7]
section
variable (c : Conf) (f : Frm)
def f_gateN_0 : Int := (T_gateN c f).int 0
def f_gateN_1 : Int := (T_gateN c f).int 1
def f_gateN_2 : Int := (T_gateN c f).int 2
def f_gateN_3 : Int := (T_gateN c f).int 3
def f_gateN_4 : Int := (T_gateN c f).int 4
def f_gateN_5 : Int := (T_gateN c f).int 5
def f_gateN_6 : Int := (T_gateN c f).int 6
def f_gateN_7 : Int := (T_gateN c f).int 7
def o_gateN : AV := .tup [.agg [.int .u8 (f_gateN_0 c f), .int .i64 (f_gateN_1 c f), .int .u64 (f_gateN_2 c f), .int .u64 (f_gateN_3 c f), .int .u64 (f_gateN_4 c f), .int .i64 (f_gateN_5 c f), .int .u32 (f_gateN_6 c f)], .int .i64 (f_gateN_7 c f)]
def ok_gateN : Bool := (T_gateN c f).ok
end
def S_gateN : Sum := (202, on2 rConf rFrm (fun c f => ok_gateN c f) (fun c f => o_gateN c f))
theorem t_gateN (c : Conf) (f : Frm) (k : AV -> Bool) : runF (cfg [S_gchk]) 400 202 [c.av, f.av] k false = (T_gateN c f).ev (fun l => k (sh_gateN l)) false := by kernel_rfl
theorem fits_gateN (c : Conf) (f : Frm) : (T_gateN c f).fits ks_gateN = true := by kernel_rfl
theorem s_gateN : SumOk Tryz.prog (gmap gs) S_gateN := on2_sum fun c f hp => acalls_eq base (sums_cons s_gchk sums_nil) (n := 400) fun k hk => (t_gateN c f k).trans ((Tr.merge (fits_gateN c f) hp).trans hk)
def T_gateA (c : Conf) (f : Frm) (l : Cel) : Tr := (.br (ok_gchk c f) (.br (!decide ((f_gchk_0 c f) = 0)) (lf2 0 0 0 0 0 0 0 0 0 0 0 (f_gchk_0 c f)) (.br (decide (f.4 = 0)) (lf2 (f_gseek_0 c f l) (f_gseek_1 c f l) (f_gseek_2 c f l) (f_gseek_3 c f l) (f_gseek_4 c f l) (f_gseek_5 c f l) (f_gseek_6 c f l) (f_gseek_7 c f l) (f_gseek_8 c f l) (f_gseek_9 c f l) (f_gseek_10 c f l) 0) (.br (decide (f.4 = 2)) (lf2 f.1 f.2 f.3 20 f.5 f.6 f.7 f.8 f.9 f.10 f.11 0) (lf2 f.1 f.2 f.3 f.4 f.5 f.6 f.7 f.8 f.9 f.10 f.11 0)))) .bad)
def ks_gateA : List CK := [.i .u8, .i .u32, .i .u32, .i .u8, .i .u8, .i .u8, .i .u8, .i .u8, .i .u8, .i .u32, .i .u32, .i .i64]
def sh_gateA (l : List AV) : AV := .tup [.agg [lget l 0, lget l 1, lget l 2, lget l 3, lget l 4, lget l 5, lget l 6, lget l 7, lget l 8, lget l 9, lget l 10], lget l 11]
section
variable (c : Conf) (f : Frm) (l : Cel)
def f_gateA_0 : Int := (T_gateA c f l).int 0
def f_gateA_1 : Int := (T_gateA c f l).int 1
def f_gateA_2 : Int := (T_gateA c f l).int 2
def f_gateA_3 : Int := (T_gateA c f l).int 3
def f_gateA_4 : Int := (T_gateA c f l).int 4
def f_gateA_5 : Int := (T_gateA c f l).int 5
def f_gateA_6 : Int := (T_gateA c f l).int 6
def f_gateA_7 : Int := (T_gateA c f l).int 7
def f_gateA_8 : Int := (T_gateA c f l).int 8
def f_gateA_9 : Int := (T_gateA c f l).int 9
def f_gateA_10 : Int := (T_gateA c f l).int 10
def f_gateA_11 : Int := (T_gateA c f l).int 11
def o_gateA : AV := .tup [.agg [.int .u8 (f_gateA_0 c f l), .int .u32 (f_gateA_1 c f l), .int .u32 (f_gateA_2 c f l), .int .u8 (f_gateA_3 c f l), .int .u8 (f_gateA_4 c f l), .int .u8 (f_gateA_5 c f l), .int .u8 (f_gateA_6 c f l), .int .u8 (f_gateA_7 c f l), .int .u8 (f_gateA_8 c f l), .int .u32 (f_gateA_9 c f l), .int .u32 (f_gateA_10 c f l)], .int .i64 (f_gateA_11 c f l)]
def ok_gateA : Bool := (T_gateA c f l).ok
end
def S_gateA : Sum := (203, on3 rConf rFrm rCel (fun c f l => ok_gateA c f l) (fun c f l => o_gateA c f l))
theorem t_gateA (c : Conf) (f : Frm) (l : Cel) (k : AV -> Bool) : runF (cfg [S_gchk, S_gseek]) 400 203 [c.av, f.av, l.av] k false = (T_gateA c f l).ev (fun l => k (sh_gateA l)) false := by kernel_rfl
theorem fits_gateA (c : Conf) (f : Frm) (l : Cel) : (T_gateA c f l).fits ks_gateA = true := by kernel_rfl
theorem s_gateA : SumOk Tryz.prog (gmap gs) S_gateA := on3_sum fun c f l hp => acalls_eq base (sums_cons s_gchk (sums_cons s_gseek sums_nil)) (n := 400) fun k hk => (t_gateA c f l k).trans ((Tr.merge (fits_gateA c f l) hp).trans hk)
end
end Go.Bas.BasZGate
