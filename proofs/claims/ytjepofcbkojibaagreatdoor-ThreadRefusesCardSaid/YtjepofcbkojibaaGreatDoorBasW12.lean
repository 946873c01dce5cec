/- Contracts with no law of their own: the program of routes. -/
import Derived.Test.YtjepofcbkojibaaGreatDoorBasW10
set_option maxRecDepth 100000
set_option maxHeartbeats 4000000
set_option linter.unusedVariables false
set_option linter.unusedSimpArgs false
namespace Go.Bas.BasZTrie
noncomputable section
open Go.RowKit Go.Proofs
open BasZBase BasZOp
section
variable (a0 : Int) (a1 : Int) (a2 : Int) (a3 : Int) (a4 : Int) (a5 : Int) (a6 : Int) (a7 : Int)
abbrev lf0 : Tr := .leaf [.int .u8 a0, .int .i64 a1, .int .u64 a2, .int .u64 a3, .int .u64 a4, .int .i64 a5, .int .u32 a6, .int .i64 a7]
abbrev lf1 (a8 : Int) (a9 : Int) (a10 : Int) (a11 : Int) : Tr := .leaf [.int .u8 a0, .int .u32 a1, .int .u32 a2, .int .u8 a3, .int .u8 a4, .int .u8 a5, .int .u8 a6, .int .u8 a7, .int .u8 a8, .int .u32 a9, .int .u32 a10, .int .i64 a11]
end
abbrev zcj0 : Tr := .leaf [.bool Bool.true]
abbrev zcj1 : Tr := .leaf [.bool Bool.false]
abbrev zcj2 (r : TRun) : Tr := .br (decide (r.1.4 = 6)) zcj0 (.br (!decide (r.1.1 = 3)) (.br (decide (r.1.4 = 0)) zcj0 (.br (decide (r.1.4 = 2)) zcj0 (.br (decide (r.1.4 = 3)) zcj0 zcj1))) zcj1)
abbrev zcj3 (r : TRun) : Tr := .br (decide (r.1.1 = 1)) (.br (decide (r.1.4 = 1)) zcj0 (.br (decide (r.1.4 = 5)) zcj0 (.br (decide (r.1.4 = 7)) zcj0 (zcj2 r)))) (.br (decide (r.1.4 = 8)) zcj0 (zcj2 r))
abbrev zcj4 (r : TRun) : Tr := .br (decide ((IntKind.wrap .u32 r.1.9) <= r.1.3)) (.br (decide (r.1.1 = 3)) (.br (decide (r.1.4 = 0)) zcj0 (zcj3 r)) (zcj3 r)) zcj1
def T_tmay (r : TRun) : Tr := (.br (decide (r.1.1 = 1)) (.br (ok_opc r.2 (Opr.mk r.1.1 r.1.2 r.1.3 r.1.11)) (.br (decide ((f_opc_0 r.2 (Opr.mk r.1.1 r.1.2 r.1.3 r.1.11)) = 0)) (zcj4 r) zcj1) .bad) (.br (decide (r.1.1 = 3)) (.br (ok_opc r.2 (Opr.mk r.1.1 r.1.2 r.1.3 0)) (.br (decide ((f_opc_0 r.2 (Opr.mk r.1.1 r.1.2 r.1.3 0)) = 0)) (.br (decide ((IntKind.wrap .u32 r.1.9) <= (IntKind.wrap .u32 r.2.6))) (.br (decide (r.1.1 = 3)) (.br (decide (r.1.4 = 0)) zcj0 (zcj3 r)) (zcj3 r)) zcj1) zcj1) .bad) (.br (ok_opc r.2 (Opr.mk r.1.1 r.1.2 r.1.3 0)) (.br (decide ((f_opc_0 r.2 (Opr.mk r.1.1 r.1.2 r.1.3 0)) = 0)) (zcj4 r) zcj1) .bad)))
def ks_tmay : List CK := [.b]
def sh_tmay (l : List AV) : AV := lget l 0
def f_tmay_0 (r : TRun) : Bool := (T_tmay r).bool 0
def o_tmay (r : TRun) : AV := .bool (f_tmay_0 r)
def ok_tmay (r : TRun) : Bool := (T_tmay r).ok
def S_tmay : Sum := (296, on1 rTRun (fun r => ok_tmay r) (fun r => o_tmay r))
theorem t_tmay (r : TRun) (k : AV -> Bool) : runF (cfg [S_opc]) 300 296 [r.av] k false = (T_tmay r).ev (fun l => k (sh_tmay l)) false := by kernel_rfl
theorem fits_tmay (r : TRun) : (T_tmay r).fits ks_tmay = true := by kernel_rfl
theorem s_tmay : SumOk Tryz.prog (gmap gs) S_tmay := on1_sum fun r hp => acalls_eq base (sums_cons s_opc sums_nil) (n := 300) fun k hk => (t_tmay r k).trans ((Tr.merge (fits_tmay r) hp).trans hk)
def T_tnode (r : TRun) : Tr := (.br (decide (r.1.3 < 0)) .bad (.leaf [.int .i64 (ior .i64 (ishl .i64 1 r.1.3) (IntKind.wrap .i64 r.1.2))]))
def ks_tnode : List CK := [.i .i64]
def sh_tnode (l : List AV) : AV := lget l 0
def f_tnode_0 (r : TRun) : Int := (T_tnode r).int 0
def o_tnode (r : TRun) : AV := .int .i64 (f_tnode_0 r)
def ok_tnode (r : TRun) : Bool := (T_tnode r).ok
def S_tnode : Sum := (341, on1 rTRun (fun r => ok_tnode r) (fun r => o_tnode r))
theorem t_tnode (r : TRun) (k : AV -> Bool) : runF (cfg []) 300 341 [r.av] k false = (T_tnode r).ev (fun l => k (sh_tnode l)) false := by kernel_rfl
theorem fits_tnode (r : TRun) : (T_tnode r).fits ks_tnode = true := by kernel_rfl
theorem s_tnode : SumOk Tryz.prog (gmap gs) S_tnode := on1_sum fun r hp => acalls_eq base sums_nil (n := 300) fun k hk => (t_tnode r k).trans ((Tr.merge (fits_tnode r) hp).trans hk)
def T_tat (r : TRun) (b : Int) : Tr := (.br (decide (b < 0)) .bad (.br (decide ((IntKind.wrap .i64 (b - (IntKind.wrap .i64 r.1.9))) < 0)) .bad (.leaf [.int .i64 (ishr .i64 (ior .i64 (ishl .i64 1 b) (IntKind.wrap .i64 r.1.2)) (IntKind.wrap .i64 (b - (IntKind.wrap .i64 r.1.9))))])))
def ks_tat : List CK := [.i .i64]
def sh_tat (l : List AV) : AV := lget l 0
def f_tat_0 (r : TRun) (b : Int) : Int := (T_tat r b).int 0
def o_tat (r : TRun) (b : Int) : AV := .int .i64 (f_tat_0 r b)
def ok_tat (r : TRun) (b : Int) : Bool := (T_tat r b).ok
def S_tat : Sum := (340, on2 rTRun (rI .i64) (fun r b => ok_tat r b) (fun r b => o_tat r b))
theorem t_tat (r : TRun) (b : Int) (k : AV -> Bool) : runF (cfg []) 300 340 [r.av, .int .i64 b] k false = (T_tat r b).ev (fun l => k (sh_tat l)) false := by kernel_rfl
theorem fits_tat (r : TRun) (b : Int) : (T_tat r b).fits ks_tat = true := by kernel_rfl
theorem s_tat : SumOk Tryz.prog (gmap gs) S_tat := on2_sum fun r b hp => acalls_eq base sums_nil (n := 300) fun k hk => (t_tat r b k).trans ((Tr.merge (fits_tat r b) hp).trans hk)
abbrev zcj5 (c : Conf) (f : Frm) : Tr := .br (!decide (f.10 = 0)) (lf0 1 (f_tat_0 (TRun.mk f c) c.6) 0 0 0 0 0 0) (lf0 1 (f_tat_0 (TRun.mk f c) c.6) 0 0 0 0 0 0)
abbrev zcj6 (c : Conf) (f : Frm) : Tr := .br (decide (f.1 = 1)) (lf0 1 (f_tnode_0 (TRun.mk f c)) 0 0 0 0 0 0) (lf0 1 (f_tnode_0 (TRun.mk f c)) 0 0 0 0 0 0)
abbrev zcj7 (c : Conf) (f : Frm) := ok_tat (TRun.mk f c) (IntKind.wrap .i64 f.3)
abbrev zcj8 (c : Conf) (f : Frm) := f_tat_0 (TRun.mk f c) (IntKind.wrap .i64 f.3)
abbrev zcj9 (f : Frm) := decide ((IntKind.wrap .u32 f.9) = f.3)
section
variable (c : Conf) (f : Frm)
abbrev zcj10 : Tr := .br (zcj9 f) (.br (zcj9 f) (lf0 2 (zcj8 c f) (IntKind.wrap .u64 ((IntKind.wrap .u64 f.11) + 1)) (Int.tmod (IntKind.wrap .u64 (IntKind.wrap .u8 (f.7 + 63))) 64) 0 0 0 0) (lf0 2 (zcj8 c f) (IntKind.wrap .u64 ((IntKind.wrap .u64 f.11) + 1)) (Int.tmod (IntKind.wrap .u64 (IntKind.wrap .u8 (f.7 + 63))) 64) 0 0 0 0)) (.br (zcj9 f) (lf0 2 (zcj8 c f) (IntKind.wrap .u64 f.10) (Int.tmod (IntKind.wrap .u64 (IntKind.wrap .u8 (f.7 + 63))) 64) 0 0 0 0) (lf0 2 (zcj8 c f) (IntKind.wrap .u64 f.10) (Int.tmod (IntKind.wrap .u64 (IntKind.wrap .u8 (f.7 + 63))) 64) 0 0 0 0))
abbrev zcj11 : Tr := .br (zcj9 f) (.br (zcj9 f) (lf0 2 (zcj8 c f) (IntKind.wrap .u64 ((IntKind.wrap .u64 f.11) + 1)) (Int.tmod (IntKind.wrap .u64 (IntKind.wrap .u8 (f.7 + 1))) 64) 0 0 0 0) (lf0 2 (zcj8 c f) (IntKind.wrap .u64 ((IntKind.wrap .u64 f.11) + 1)) (Int.tmod (IntKind.wrap .u64 (IntKind.wrap .u8 (f.7 + 1))) 64) 0 0 0 0)) (.br (zcj9 f) (lf0 2 (zcj8 c f) (IntKind.wrap .u64 f.10) (Int.tmod (IntKind.wrap .u64 (IntKind.wrap .u8 (f.7 + 1))) 64) 0 0 0 0) (lf0 2 (zcj8 c f) (IntKind.wrap .u64 f.10) (Int.tmod (IntKind.wrap .u64 (IntKind.wrap .u8 (f.7 + 1))) 64) 0 0 0 0))
abbrev zcj12 : Tr := .br (decide (f.4 = 6)) (lf0 4 0 0 0 0 0 f.10 0) (.br (!decide (f.1 = 3)) (.br (decide (f.4 = 0)) (.br (ok_tnode (TRun.mk f c)) (.br (decide (f.1 = 1)) (zcj6 c f) (zcj6 c f)) .bad) (.br (decide (f.4 = 2)) (.br (zcj7 c f) (lf0 1 (zcj8 c f) 0 0 0 0 0 0) .bad) (.br (decide (f.4 = 3)) (.br (zcj7 c f) (.br (decide (f.1 = 2)) (.br (zcj9 f) (.br (decide (f.1 = 2)) (.br (zcj9 f) (lf0 2 (zcj8 c f) 0 (Int.tmod (IntKind.wrap .u64 (IntKind.wrap .u8 (f.7 + 63))) 64) 0 0 0 0) (lf0 2 (zcj8 c f) 0 (Int.tmod (IntKind.wrap .u64 (IntKind.wrap .u8 (f.7 + 63))) 64) 0 0 0 0)) (zcj10 c f)) (zcj10 c f)) (.br (zcj9 f) (.br (decide (f.1 = 2)) (.br (zcj9 f) (lf0 2 (zcj8 c f) 0 (Int.tmod (IntKind.wrap .u64 (IntKind.wrap .u8 (f.7 + 1))) 64) 0 0 0 0) (lf0 2 (zcj8 c f) 0 (Int.tmod (IntKind.wrap .u64 (IntKind.wrap .u8 (f.7 + 1))) 64) 0 0 0 0)) (zcj11 c f)) (zcj11 c f))) .bad) .bad))) .bad)
abbrev zcj13 : Tr := .br (decide (f.1 = 1)) (.br (decide (f.4 = 1)) (.br (decide (0 >= (IntKind.wrap .u64 c.7))) (lf0 1 1 0 0 0 0 0 0) (lf0 1 1 0 0 0 0 0 0)) (.br (decide (f.4 = 5)) (.br (ok_tnode (TRun.mk (Frm.mk f.1 f.2 f.3 6 f.5 f.6 f.7 f.8 f.9 f.10 f.11) c)) (lf0 2 (f_tnode_0 (TRun.mk (Frm.mk f.1 f.2 f.3 6 f.5 f.6 f.7 f.8 f.9 f.10 f.11) c)) (IntKind.wrap .u64 ((IntKind.wrap .u64 f.11) + 1)) (IntKind.wrap .u64 (Int.tmod f.7 64)) 0 0 0 0) .bad) (.br (decide (f.4 = 7)) (lf0 4 0 0 0 0 9 0 0) (zcj12 c f)))) (.br (decide (f.4 = 8)) (lf0 4 0 0 0 0 6 0 0) (zcj12 c f))
def T_trieN : Tr := (.br (!decide ((errC c) = 0)) (lf0 0 0 0 0 0 0 0 40) (.br (!decide (c.1 = 1)) (lf0 0 0 0 0 0 0 0 40) (.br (ok_tmay (TRun.mk f c)) (.br (!(f_tmay_0 (TRun.mk f c))) (lf0 0 0 0 0 0 0 0 2) (.br (decide (f.1 = 3)) (.br (decide (f.4 = 0)) (.br (ok_tat (TRun.mk f c) c.6) (.br (decide ((IntKind.wrap .i64 f.9) < c.6)) (zcj5 c f) (zcj5 c f)) .bad) (zcj13 c f)) (zcj13 c f))) .bad)))
end
def ks_trieN : List CK := [.i .u8, .i .i64, .i .u64, .i .u64, .i .u64, .i .i64, .i .u32, .i .i64]
def sh_trieN (l : List AV) : AV := .tup [.agg [lget l 0, lget l 1, lget l 2, lget l 3, lget l 4, lget l 5, lget l 6], lget l 7]
section
variable (c : Conf) (f : Frm)
def f_trieN_0 : Int := (T_trieN c f).int 0
def f_trieN_1 : Int := (T_trieN c f).int 1
def f_trieN_2 : Int := (T_trieN c f).int 2
def f_trieN_3 : Int := (T_trieN c f).int 3
def f_trieN_4 : Int := (T_trieN c f).int 4
def f_trieN_5 : Int := (T_trieN c f).int 5
def f_trieN_6 : Int := (T_trieN c f).int 6
def f_trieN_7 : Int := (T_trieN c f).int 7
def o_trieN : AV := .tup [.agg [.int .u8 (f_trieN_0 c f), .int .i64 (f_trieN_1 c f), .int .u64 (f_trieN_2 c f), .int .u64 (f_trieN_3 c f), .int .u64 (f_trieN_4 c f), .int .i64 (f_trieN_5 c f), .int .u32 (f_trieN_6 c f)], .int .i64 (f_trieN_7 c f)]
def ok_trieN : Bool := (T_trieN c f).ok
end
def S_trieN : Sum := (200, on2 rConf rFrm (fun c f => ok_trieN c f) (fun c f => o_trieN c f))
theorem t_trieN (c : Conf) (f : Frm) (k : AV -> Bool) : runF (cfg [S_check, S_tmay, S_tnode, S_tat]) 400 200 [c.av, f.av] k false = (T_trieN c f).ev (fun l => k (sh_trieN l)) false := by kernel_rfl
theorem fits_trieN (c : Conf) (f : Frm) : (T_trieN c f).fits ks_trieN = true := by kernel_rfl
theorem s_trieN : SumOk Tryz.prog (gmap gs) S_trieN := on2_sum fun c f hp => acalls_eq base (sums_cons s_check (sums_cons s_tmay (sums_cons s_tnode (sums_cons s_tat sums_nil)))) (n := 400) fun k hk => (t_trieN c f k).trans ((Tr.merge (fits_trieN c f) hp).trans hk)
abbrev zcj14 (f : Frm) (l : Cel) : Tr := .br (!decide ((IntKind.wrap .u32 l.2) = 0)) (lf1 f.1 f.2 f.3 6 f.5 f.6 f.7 f.8 f.9 (IntKind.wrap .u32 l.2) f.11 0) (lf1 f.1 f.2 f.3 8 f.5 f.6 f.7 f.8 f.9 (IntKind.wrap .u32 l.2) f.11 0)
abbrev zcj15 (f : Frm) := lf1 f.1 f.2 f.3 6 f.5 f.6 f.7 f.8 f.9 f.10 f.11 0
abbrev zcj16 (f : Frm) := lf1 f.1 f.2 f.3 f.4 f.5 f.6 f.7 f.8 f.9 f.10 f.11 0
abbrev zcj17 (f : Frm) (l : Cel) : Tr := .br (decide (f.1 = 1)) (lf1 f.1 f.2 f.3 1 f.5 f.6 (IntKind.wrap .u8 (Int.tmod l.3 64)) f.8 f.9 (IntKind.wrap .u32 l.2) f.11 0) (.br (decide ((IntKind.wrap .u32 l.2) = 0)) (lf1 f.1 f.2 f.3 8 f.5 f.6 (IntKind.wrap .u8 (Int.tmod l.3 64)) f.8 f.9 (IntKind.wrap .u32 l.2) f.11 0) (lf1 f.1 f.2 f.3 2 f.5 f.6 (IntKind.wrap .u8 (Int.tmod l.3 64)) f.8 0 (IntKind.wrap .u32 l.2) f.11 0))
abbrev zcj18 (f : Frm) : Tr := .br (zcj9 f) (zcj15 f) (lf1 f.1 f.2 f.3 2 f.5 f.6 f.7 f.8 (IntKind.wrap .u8 (f.9 + 1)) f.10 f.11 0)
abbrev zcj19 (f : Frm) : Tr := .br (zcj9 f) (.br (decide (f.1 = 2)) (zcj18 f) (.br (zcj9 f) (zcj18 f) (zcj18 f))) (.br (zcj9 f) (zcj18 f) (zcj18 f))
section
variable (c : Conf) (f : Frm) (l : Cel)
abbrev zcj20 : Tr := .br (decide (f.4 = 6)) (zcj16 f) (.br (!decide (f.1 = 3)) (.br (decide (f.4 = 0)) (.br (ok_tnode (TRun.mk f c)) (.br (decide (f.1 = 1)) (.br (!decide ((IntKind.wrap .u32 l.2) = 0)) (lf1 f.1 f.2 f.3 5 f.5 f.6 (IntKind.wrap .u8 (Int.tmod l.3 64)) f.8 f.9 (IntKind.wrap .u32 l.2) f.11 0) (zcj17 f l)) (zcj17 f l)) .bad) (.br (decide (f.4 = 2)) (.br (zcj7 c f) (lf1 f.1 f.2 f.3 3 f.5 f.6 (IntKind.wrap .u8 (Int.tmod l.3 64)) f.8 f.9 (IntKind.wrap .u32 l.2) f.11 0) .bad) (.br (decide (f.4 = 3)) (.br (zcj7 c f) (.br (decide (f.1 = 2)) (zcj19 f) (zcj19 f)) .bad) .bad))) .bad)
abbrev zcj21 : Tr := .br (decide (f.1 = 1)) (.br (decide (f.4 = 1)) (.br (decide (l.3 >= (IntKind.wrap .u64 c.7))) (lf1 f.1 f.2 f.3 7 f.5 f.6 f.7 f.8 f.9 f.10 f.11 0) (lf1 f.1 f.2 f.3 2 f.5 f.6 f.7 f.8 0 f.10 f.11 0)) (.br (decide (f.4 = 5)) (.br (ok_tnode (TRun.mk (Frm.mk f.1 f.2 f.3 6 f.5 f.6 f.7 f.8 f.9 f.10 f.11) c)) (zcj15 f) .bad) (.br (decide (f.4 = 7)) (zcj16 f) (zcj20 c f l)))) (.br (decide (f.4 = 8)) (zcj16 f) (zcj20 c f l))
def T_trieA : Tr := (.br (!decide ((errC c) = 0)) (lf1 0 0 0 0 0 0 0 0 0 0 0 40) (.br (!decide (c.1 = 1)) (lf1 0 0 0 0 0 0 0 0 0 0 0 40) (.br (ok_tmay (TRun.mk f c)) (.br (!(f_tmay_0 (TRun.mk f c))) (lf1 0 0 0 0 0 0 0 0 0 0 0 2) (.br (decide (f.1 = 3)) (.br (decide (f.4 = 0)) (.br (ok_tat (TRun.mk f c) c.6) (.br (!decide ((IntKind.wrap .u32 l.2) = 0)) (.br (decide ((IntKind.wrap .i64 f.9) < c.6)) (.br (decide (l.3 > 1)) (lf1 f.1 f.2 f.3 f.4 f.5 f.6 f.7 f.8 (IntKind.wrap .u8 (f.9 + 1)) (IntKind.wrap .u32 l.2) f.11 0) (zcj14 f l)) (zcj14 f l)) (.br (decide ((IntKind.wrap .i64 f.9) < c.6)) (.br (decide (l.3 > 0)) (lf1 f.1 f.2 f.3 f.4 f.5 f.6 f.7 f.8 (IntKind.wrap .u8 (f.9 + 1)) f.10 f.11 0) (.br (!decide (f.10 = 0)) (zcj15 f) (lf1 f.1 f.2 f.3 8 f.5 f.6 f.7 f.8 f.9 f.10 f.11 0))) (.br (!decide (f.10 = 0)) (zcj15 f) (lf1 f.1 f.2 f.3 8 f.5 f.6 f.7 f.8 f.9 f.10 f.11 0)))) .bad) (zcj21 c f l)) (zcj21 c f l))) .bad)))
end
def ks_trieA : List CK := [.i .u8, .i .u32, .i .u32, .i .u8, .i .u8, .i .u8, .i .u8, .i .u8, .i .u8, .i .u32, .i .u32, .i .i64]
def sh_trieA (l : List AV) : AV := .tup [.agg [lget l 0, lget l 1, lget l 2, lget l 3, lget l 4, lget l 5, lget l 6, lget l 7, lget l 8, lget l 9, lget l 10], lget l 11]
section
variable (c : Conf) (f : Frm) (l : Cel)
def f_trieA_0 : Int := (T_trieA c f l).int 0
def f_trieA_1 : Int := (T_trieA c f l).int 1
def f_trieA_2 : Int := (T_trieA c f l).int 2
def f_trieA_3 : Int := (T_trieA c f l).int 3
def f_trieA_4 : Int := (T_trieA c f l).int 4
def f_trieA_5 : Int := (T_trieA c f l).int 5
def f_trieA_6 : Int := (T_trieA c f l).int 6
def f_trieA_7 : Int := (T_trieA c f l).int 7
def f_trieA_8 : Int := (T_trieA c f l).int 8
def f_trieA_9 : Int := (T_trieA c f l).int 9
def f_trieA_10 : Int := (T_trieA c f l).int 10
def f_trieA_11 : Int := (T_trieA c f l).int 11
def o_trieA : AV := .tup [.agg [.int .u8 (f_trieA_0 c f l), .int .u32 (f_trieA_1 c f l), .int .u32 (f_trieA_2 c f l), .int .u8 (f_trieA_3 c f l), .int .u8 (f_trieA_4 c f l), .int .u8 (f_trieA_5 c f l), .int .u8 (f_trieA_6 c f l), .int .u8 (f_trieA_7 c f l), .int .u8 (f_trieA_8 c f l), .int .u32 (f_trieA_9 c f l), .int .u32 (f_trieA_10 c f l)], .int .i64 (f_trieA_11 c f l)]
def ok_trieA : Bool := (T_trieA c f l).ok
end
def S_trieA : Sum := (201, on3 rConf rFrm rCel (fun c f l => ok_trieA c f l) (fun c f l => o_trieA c f l))
theorem t_trieA (c : Conf) (f : Frm) (l : Cel) (k : AV -> Bool) : runF (cfg [S_check, S_tmay, S_tnode, S_tat]) 400 201 [c.av, f.av, l.av] k false = (T_trieA c f l).ev (fun l => k (sh_trieA l)) false := by kernel_rfl
theorem fits_trieA (c : Conf) (f : Frm) (l : Cel) : (T_trieA c f l).fits ks_trieA = true := by kernel_rfl
theorem s_trieA : SumOk Tryz.prog (gmap gs) S_trieA := on3_sum fun c f l hp => acalls_eq base (sums_cons s_check (sums_cons s_tmay (sums_cons s_tnode (sums_cons s_tat sums_nil)))) (n := 400) fun k hk => (t_trieA c f l k).trans ((Tr.merge (fits_trieA c f l) hp).trans hk)
end
end Go.Bas.BasZTrie
