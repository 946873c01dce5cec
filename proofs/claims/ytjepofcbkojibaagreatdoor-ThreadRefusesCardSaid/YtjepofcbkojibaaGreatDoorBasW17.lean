/- Contracts by a run's outcome: the program of an index, but for its way up; Contracts by a run's outcome: the program of an index of 1 levels, on its way up; Contracts by a run's outcome: the program of an index of 2 levels, on its way up. -/
import Derived.Test.YtjepofcbkojibaaGreatDoorBasW16
set_option maxRecDepth 100000
set_option maxHeartbeats 4000000
set_option linter.unusedVariables false
set_option linter.unusedSimpArgs false
section
namespace Go.Bas.BasZTreN
noncomputable section
open Go.RowKit Go.Proofs
open BasZBase BasZOp BasZRank BasZLev BasZRank3 BasZOk BasZTreB BasZTre
theorem lvOf {a b c : Bool} (h : ((a && b) && c) = true) : b = true := and_right (and_left h)
def sp_tnx : Sp := sT [sG [sI .u8, sI .i64, sI .u64, sI .u64, sI .u64, sI .i64, sI .u32], sI .i64]
section
variable (c : Conf) (f : Frm)
def out_tnx : AV := outV (cfg [S_check, S_levA, S_mayT, S_act]) 400 206 [c.av, f.av]
def f_tnx_0 : Int := AV.toI (AV.ix (AV.ix (out_tnx c f) 0) 0)
def f_tnx_1 : Int := AV.toI (AV.ix (AV.ix (out_tnx c f) 0) 1)
def f_tnx_2 : Int := AV.toI (AV.ix (AV.ix (out_tnx c f) 0) 2)
def f_tnx_3 : Int := AV.toI (AV.ix (AV.ix (out_tnx c f) 0) 3)
def f_tnx_4 : Int := AV.toI (AV.ix (AV.ix (out_tnx c f) 0) 4)
def f_tnx_5 : Int := AV.toI (AV.ix (AV.ix (out_tnx c f) 0) 5)
def f_tnx_6 : Int := AV.toI (AV.ix (AV.ix (out_tnx c f) 0) 6)
def f_tnx_7 : Int := AV.toI (AV.ix (out_tnx c f) 1)
def o_tnx : AV := .tup [.agg [.int .u8 (f_tnx_0 c f), .int .i64 (f_tnx_1 c f), .int .u64 (f_tnx_2 c f), .int .u64 (f_tnx_3 c f), .int .u64 (f_tnx_4 c f), .int .i64 (f_tnx_5 c f), .int .u32 (f_tnx_6 c f)], .int .i64 (f_tnx_7 c f)]
end
def S_tnx : Sum := (206, on2 rConf rFrm (fun c f => (decide (errC c = 0) && (decide (c.ob = 2) && ((posF f && lvOk (lvL c.cap c.node) (lvN c.cap c.node)) && f_may_0 (mkr c f))))) (fun c f => o_tnx c f))
theorem oe_tnx (c : Conf) (f : Frm) : sp_tnx.bd (out_tnx c f) = o_tnx c f := by kernel_rfl
abbrev HE0 (c : Conf) : Prop := decide (errC c = 0) = true
abbrev HW1 (c : Conf) : Prop := f_width_0 c.cap 1 c.node = true
abbrev HM2 (c : Conf) (f : Frm) : Prop := ((posF f && lvOk (lvL c.cap c.node) (lvN c.cap c.node)) && f_may_0 (mkr c f)) = true
abbrev HO3 (c : Conf) : Prop := decide (c.ob = 2) = true
abbrev zcs0 (c : Conf) := !decide ((errC c) = 0)
abbrev zcs1 := true
abbrev zcs2 (c : Conf) := !decide (c.1 = 2)
abbrev zcs3 (c : Conf) := f_width_0 c.7 1 c.8
abbrev zcs4 (c : Conf) := lvL c.7 c.8
abbrev zcs5 (c : Conf) := lvN c.7 c.8
abbrev zcs6 (c : Conf) := lvOk (zcs4 c) (zcs5 c)
theorem t_tnx (c : Conf) (f : Frm) (he : HE0 c) (hw : HW1 c) (hm : ((posF f && lvOk (lvL c.cap c.node) (lvN c.cap c.node)) && f_may_0 (mkr c f)) = true) (ha : (lvOk (lvL c.cap c.node) (lvN c.cap c.node) && (decide (0 <= f.h) && decide (f.h < (lvN c.cap c.node : Int)))) = true) : runF (cfg [S_check, S_levA, S_mayT, S_act]) 400 206 [c.av, f.av] sp_tnx.has false = true := Eq.trans (b := (br (zcs0 c) zcs1 (br (zcs2 c) zcs1 (ba (zcs3 c) (ba (((posF f) && (zcs6 c)) && (f_may_0 (TRa.mk f c (zcs4 c) (zcs5 c) 0 0 Bool.false))) (ba ((zcs6 c) && (decide (0 <= f.9) && decide (f.9 < (Int.ofNat (zcs5 c))))) zcs1)))))) (by kernel_rfl) (btf (nn he) (btt rfl (band hw (band hm (band ha rfl)))))
theorem run_tnx (c : Conf) (f : Frm) (h : (decide (errC c = 0) && (decide (c.ob = 2) && ((posF f && lvOk (lvL c.cap c.node) (lvN c.cap c.node)) && f_may_0 (mkr c f)))) = true) : runF (cfg [S_check, S_levA, S_mayT, S_act]) 400 206 [c.av, f.av] sp_tnx.has false = true := by
 simp only [Bool.and_eq_true] at h
 obtain ⟨he, ho, ⟨⟨hp, hv⟩, hm⟩⟩ := h
 have hP := may_prop (mkr c f) hp hv hm
 exact t_tnx c f he (width_of he ho) (by rw [hp, hv, hm]; rfl) (by rw [hv, decide_eq_true (posF_true.1 hp).2.2.2.1, decide_eq_true (show f.h < (lvN c.cap c.node : Int) from hP.1)]; rfl)
theorem s_tnx : SumOk Tryz.prog (gmap gs) S_tnx := on2_sum fun c f hp => (acalls_out base (sums_cons s_check (sums_cons s_levA (sums_cons s_mayT (sums_cons s_act sums_nil)))) (n := 400) sp_tnx (run_tnx c f hp)).mono fun v_ hv_ => hv_.trans (oe_tnx c f)
def sp_tnn : Sp := sT [sG [sI .u8, sI .i64, sI .u64, sI .u64, sI .u64, sI .i64, sI .u32], sI .i64]
section
variable (c : Conf) (f : Frm)
def out_tnn : AV := outV (cfg [S_check, S_levA, S_mayN]) 400 206 [c.av, f.av]
def f_tnn_0 : Int := AV.toI (AV.ix (AV.ix (out_tnn c f) 0) 0)
def f_tnn_1 : Int := AV.toI (AV.ix (AV.ix (out_tnn c f) 0) 1)
def f_tnn_2 : Int := AV.toI (AV.ix (AV.ix (out_tnn c f) 0) 2)
def f_tnn_3 : Int := AV.toI (AV.ix (AV.ix (out_tnn c f) 0) 3)
def f_tnn_4 : Int := AV.toI (AV.ix (AV.ix (out_tnn c f) 0) 4)
def f_tnn_5 : Int := AV.toI (AV.ix (AV.ix (out_tnn c f) 0) 5)
def f_tnn_6 : Int := AV.toI (AV.ix (AV.ix (out_tnn c f) 0) 6)
def f_tnn_7 : Int := AV.toI (AV.ix (out_tnn c f) 1)
def o_tnn : AV := .tup [.agg [.int .u8 (f_tnn_0 c f), .int .i64 (f_tnn_1 c f), .int .u64 (f_tnn_2 c f), .int .u64 (f_tnn_3 c f), .int .u64 (f_tnn_4 c f), .int .i64 (f_tnn_5 c f), .int .u32 (f_tnn_6 c f)], .int .i64 (f_tnn_7 c f)]
end
def S_tnn : Sum := (206, on2 rConf rFrm (fun c f => (decide (errC c = 0) && (decide (c.ob = 2) && ((posF f && lvOk (lvL c.cap c.node) (lvN c.cap c.node)) && !(f_may_0 (mkr c f)))))) (fun c f => o_tnn c f))
theorem oe_tnn (c : Conf) (f : Frm) : sp_tnn.bd (out_tnn c f) = o_tnn c f := by kernel_rfl
abbrev zcs7 := cfg [S_check, S_levA, S_mayN]
theorem t_tnn (c : Conf) (f : Frm) (he : HE0 c) (hw : HW1 c) (hm : ((posF f && lvOk (lvL c.cap c.node) (lvN c.cap c.node)) && !(f_may_0 (mkr c f))) = true) : runF zcs7 400 206 [c.av, f.av] sp_tnn.has false = true := Eq.trans (b := (br (zcs0 c) zcs1 (br (zcs2 c) zcs1 (ba (zcs3 c) (ba (((posF f) && (zcs6 c)) && (!(f_may_0 (TRa.mk f c (zcs4 c) (zcs5 c) 0 0 Bool.false)))) zcs1))))) (by kernel_rfl) (btf (nn he) (btt rfl (band hw (band hm rfl))))
theorem run_tnn (c : Conf) (f : Frm) (h : (decide (errC c = 0) && (decide (c.ob = 2) && ((posF f && lvOk (lvL c.cap c.node) (lvN c.cap c.node)) && !(f_may_0 (mkr c f))))) = true) : runF zcs7 400 206 [c.av, f.av] sp_tnn.has false = true := by
 simp only [Bool.and_eq_true] at h
 obtain ⟨he, ho, ⟨⟨hp, hv⟩, hm⟩⟩ := h
 exact t_tnn c f he (width_of he ho) (by rw [hp, hv, hm]; rfl)
theorem s_tnn : SumOk Tryz.prog (gmap gs) S_tnn := on2_sum fun c f hp => (acalls_out base (sums_cons s_check (sums_cons s_levA (sums_cons s_mayN sums_nil))) (n := 400) sp_tnn (run_tnn c f hp)).mono fun v_ hv_ => hv_.trans (oe_tnn c f)
def sp_tan : Sp := sT [sG [sI .u8, sI .u32, sI .u32, sI .u8, sI .u8, sI .u8, sI .u8, sI .u8, sI .u8, sI .u32, sI .u32], sG [sI .u64, sI .u64], sB, sI .i64]
section
variable (c : Conf) (f : Frm) (l : Cel)
def out_tan : AV := outV (cfg [S_check, S_levA, S_mayN]) 400 289 [c.av, f.av, l.av]
def f_tan_0 : Int := AV.toI (AV.ix (AV.ix (out_tan c f l) 0) 0)
def f_tan_1 : Int := AV.toI (AV.ix (AV.ix (out_tan c f l) 0) 1)
def f_tan_2 : Int := AV.toI (AV.ix (AV.ix (out_tan c f l) 0) 2)
def f_tan_3 : Int := AV.toI (AV.ix (AV.ix (out_tan c f l) 0) 3)
def f_tan_4 : Int := AV.toI (AV.ix (AV.ix (out_tan c f l) 0) 4)
def f_tan_5 : Int := AV.toI (AV.ix (AV.ix (out_tan c f l) 0) 5)
def f_tan_6 : Int := AV.toI (AV.ix (AV.ix (out_tan c f l) 0) 6)
def f_tan_7 : Int := AV.toI (AV.ix (AV.ix (out_tan c f l) 0) 7)
def f_tan_8 : Int := AV.toI (AV.ix (AV.ix (out_tan c f l) 0) 8)
def f_tan_9 : Int := AV.toI (AV.ix (AV.ix (out_tan c f l) 0) 9)
def f_tan_10 : Int := AV.toI (AV.ix (AV.ix (out_tan c f l) 0) 10)
def f_tan_11 : Int := AV.toI (AV.ix (AV.ix (out_tan c f l) 1) 0)
def f_tan_12 : Int := AV.toI (AV.ix (AV.ix (out_tan c f l) 1) 1)
def f_tan_13 : Bool := AV.toB (AV.ix (out_tan c f l) 2)
def f_tan_14 : Int := AV.toI (AV.ix (out_tan c f l) 3)
def o_tan : AV := .tup [.agg [.int .u8 (f_tan_0 c f l), .int .u32 (f_tan_1 c f l), .int .u32 (f_tan_2 c f l), .int .u8 (f_tan_3 c f l), .int .u8 (f_tan_4 c f l), .int .u8 (f_tan_5 c f l), .int .u8 (f_tan_6 c f l), .int .u8 (f_tan_7 c f l), .int .u8 (f_tan_8 c f l), .int .u32 (f_tan_9 c f l), .int .u32 (f_tan_10 c f l)], .agg [.int .u64 (f_tan_11 c f l), .int .u64 (f_tan_12 c f l)], .bool (f_tan_13 c f l), .int .i64 (f_tan_14 c f l)]
end
def S_tan : Sum := (289, on3 rConf rFrm rCel (fun c f l => (decide (errC c = 0) && (decide (c.ob = 2) && ((posF f && lvOk (lvL c.cap c.node) (lvN c.cap c.node)) && !(f_may_0 (mkr c f)))))) (fun c f l => o_tan c f l))
theorem oe_tan (c : Conf) (f : Frm) (l : Cel) : sp_tan.bd (out_tan c f l) = o_tan c f l := by kernel_rfl
theorem t_tan (c : Conf) (f : Frm) (l : Cel) (he : HE0 c) (hw : HW1 c) (hm : ((posF f && lvOk (lvL c.cap c.node) (lvN c.cap c.node)) && !(f_may_0 (mkr c f))) = true) : runF zcs7 400 289 [c.av, f.av, l.av] sp_tan.has false = true := Eq.trans (b := (br (zcs0 c) zcs1 (br (zcs2 c) zcs1 (ba (zcs3 c) (ba (((posF f) && (zcs6 c)) && (!(f_may_0 (TRa.mk f c (zcs4 c) (zcs5 c) 0 0 Bool.false)))) zcs1))))) (by kernel_rfl) (btf (nn he) (btt rfl (band hw (band hm rfl))))
theorem run_tan (c : Conf) (f : Frm) (l : Cel) (h : (decide (errC c = 0) && (decide (c.ob = 2) && ((posF f && lvOk (lvL c.cap c.node) (lvN c.cap c.node)) && !(f_may_0 (mkr c f))))) = true) : runF zcs7 400 289 [c.av, f.av, l.av] sp_tan.has false = true := by
 simp only [Bool.and_eq_true] at h
 obtain ⟨he, ho, ⟨⟨hp, hv⟩, hm⟩⟩ := h
 exact t_tan c f l he (width_of he ho) (by rw [hp, hv, hm]; rfl)
theorem s_tan : SumOk Tryz.prog (gmap gs) S_tan := on3_sum fun c f l hp => (acalls_out base (sums_cons s_check (sums_cons s_levA (sums_cons s_mayN sums_nil))) (n := 400) sp_tan (run_tan c f l hp)).mono fun v_ hv_ => hv_.trans (oe_tan c f l)
def sp_taf : Sp := sT [sG [sI .u8, sI .u32, sI .u32, sI .u8, sI .u8, sI .u8, sI .u8, sI .u8, sI .u8, sI .u32, sI .u32], sG [sI .u64, sI .u64], sB, sI .i64]
section
variable (c : Conf) (f : Frm) (l : Cel)
def out_taf : AV := outV (cfg [S_check, S_levA, S_mayT, S_rcnt, S_top]) 400 289 [c.av, f.av, l.av]
def f_taf_0 : Int := AV.toI (AV.ix (AV.ix (out_taf c f l) 0) 0)
def f_taf_1 : Int := AV.toI (AV.ix (AV.ix (out_taf c f l) 0) 1)
def f_taf_2 : Int := AV.toI (AV.ix (AV.ix (out_taf c f l) 0) 2)
def f_taf_3 : Int := AV.toI (AV.ix (AV.ix (out_taf c f l) 0) 3)
def f_taf_4 : Int := AV.toI (AV.ix (AV.ix (out_taf c f l) 0) 4)
def f_taf_5 : Int := AV.toI (AV.ix (AV.ix (out_taf c f l) 0) 5)
def f_taf_6 : Int := AV.toI (AV.ix (AV.ix (out_taf c f l) 0) 6)
def f_taf_7 : Int := AV.toI (AV.ix (AV.ix (out_taf c f l) 0) 7)
def f_taf_8 : Int := AV.toI (AV.ix (AV.ix (out_taf c f l) 0) 8)
def f_taf_9 : Int := AV.toI (AV.ix (AV.ix (out_taf c f l) 0) 9)
def f_taf_10 : Int := AV.toI (AV.ix (AV.ix (out_taf c f l) 0) 10)
def f_taf_11 : Int := AV.toI (AV.ix (AV.ix (out_taf c f l) 1) 0)
def f_taf_12 : Int := AV.toI (AV.ix (AV.ix (out_taf c f l) 1) 1)
def f_taf_13 : Bool := AV.toB (AV.ix (out_taf c f l) 2)
def f_taf_14 : Int := AV.toI (AV.ix (out_taf c f l) 3)
def o_taf : AV := .tup [.agg [.int .u8 (f_taf_0 c f l), .int .u32 (f_taf_1 c f l), .int .u32 (f_taf_2 c f l), .int .u8 (f_taf_3 c f l), .int .u8 (f_taf_4 c f l), .int .u8 (f_taf_5 c f l), .int .u8 (f_taf_6 c f l), .int .u8 (f_taf_7 c f l), .int .u8 (f_taf_8 c f l), .int .u32 (f_taf_9 c f l), .int .u32 (f_taf_10 c f l)], .agg [.int .u64 (f_taf_11 c f l), .int .u64 (f_taf_12 c f l)], .bool (f_taf_13 c f l), .int .i64 (f_taf_14 c f l)]
end
def S_taf : Sum := (289, on3 rConf rFrm rCel (fun c f l => (decide (errC c = 0) && (decide (c.ob = 2) && (((posF f && lvOk (lvL c.cap c.node) (lvN c.cap c.node)) && f_may_0 (mkr c f)) && !(upPc f.pc))))) (fun c f l => o_taf c f l))
theorem oe_taf (c : Conf) (f : Frm) (l : Cel) : sp_taf.bd (out_taf c f l) = o_taf c f l := by kernel_rfl
abbrev zcs8 := cfg [S_check, S_levA, S_mayT, S_rcnt, S_top]
abbrev zcs9 (c : Conf) (l : Cel) := IntKind.wrap .u8 (imin l.2 (IntKind.wrap .u64 c.7))
theorem t_taf_0 (c : Conf) (kind a b i j n p h x y : Int) (l : Cel) (he : HE0 c) (hw : HW1 c) (hm : HM2 c ⟨kind, a, b, 0, i, j, n, p, h, x, y⟩) (ho : HO3 c) : runF zcs8 400 289 [c.av, (⟨kind, a, b, 0, i, j, n, p, h, x, y⟩ : Frm).av, l.av] sp_taf.has false = true := Eq.trans (b := (br (zcs0 c) zcs1 (br (zcs2 c) zcs1 (ba (zcs3 c) (ba (((posF (Frm.mk kind a b 0 i j n p h x y)) && (zcs6 c)) && (f_may_0 (TRa.mk (Frm.mk kind a b 0 i j n p h x y) c (zcs4 c) (zcs5 c) 0 0 Bool.false))) (br (decide ((zcs9 c l) = 0)) (br (decide (kind = 7)) (br (decide ((zcs9 c l) = 0)) zcs1 zcs1) (br (decide (kind = 8)) zcs1 (br (decide (kind = 4)) (br (decide ((IntKind.wrap .i64 (zcs9 c l)) >= c.7)) zcs1 (br (decide ((zcs9 c l) >= (zcs9 c l))) zcs1 zcs1)) zcs1))) (ba (zcs6 c) zcs1))))))) (by kernel_rfl) (btf (nn he) (btt rfl (band hw (band hm (btt (btt (btt rfl rfl) (btt rfl (btt (btt rfl (btt rfl rfl)) rfl))) (band (lvOf hm) rfl))))))
abbrev zcs10 (a : Int) (l : Cel) : Bool := br (decide ((IntKind.wrap .u32 l.2) = a)) zcs1 zcs1
section
variable (c : Conf)
abbrev zcs11 (kind : Int) (n : Int) : Bool := br (decide (kind = 7)) (br (decide (n = 0)) zcs1 zcs1) (br (decide (kind = 8)) zcs1 (br (decide (kind = 4)) (br (decide ((IntKind.wrap .i64 n) >= c.7)) zcs1 (br (decide (n >= n)) zcs1 zcs1)) zcs1))
theorem t_taf_1 (kind a b i j n p h x y : Int) (l : Cel) (he : HE0 c) (hw : HW1 c) (hm : HM2 c ⟨kind, a, b, 1, i, j, n, p, h, x, y⟩) (ho : HO3 c) : runF zcs8 400 289 [c.av, (⟨kind, a, b, 1, i, j, n, p, h, x, y⟩ : Frm).av, l.av] sp_taf.has false = true := Eq.trans (b := (br (zcs0 c) zcs1 (br (zcs2 c) zcs1 (ba (zcs3 c) (ba (((posF (Frm.mk kind a b 1 i j n p h x y)) && (zcs6 c)) && (f_may_0 (TRa.mk (Frm.mk kind a b 1 i j n p h x y) c (zcs4 c) (zcs5 c) 0 0 Bool.false))) (br (decide (l.2 >= (IntKind.wrap .u64 a))) (br (decide (h = 0)) (br (decide (kind = 6)) (zcs10 a l) (br (decide (kind = 7)) (br (decide (i = 0)) (zcs10 a l) (zcs10 a l)) (br (decide (kind = 8)) (br (decide ((IntKind.wrap .u32 l.2) > b)) zcs1 (br (decide ((IntKind.wrap .i64 (IntKind.wrap .u8 (j + 1))) >= c.10)) zcs1 (br (decide ((IntKind.wrap .u8 (i + 1)) >= n)) zcs1 zcs1))) (br (decide (kind = 4)) (br (!decide ((IntKind.wrap .u32 l.2) = a)) (br (decide ((IntKind.wrap .i64 n) >= c.7)) zcs1 (br (decide (i >= n)) zcs1 zcs1)) zcs1) (br (decide ((IntKind.wrap .u32 l.2) = a)) (br (decide ((IntKind.wrap .u8 (i + 1)) < n)) zcs1 zcs1) zcs1))))) (br (decide (l.2 >= (IntKind.wrap .u64 a))) zcs1 (br (decide (c.8 = 0)) false (br (decide ((Int.tmod (IntKind.wrap .i64 (IntKind.wrap .u8 (i + 1))) c.8) = 0)) (zcs11 c kind n) (br (decide ((IntKind.wrap .i64 ((IntKind.wrap .i64 i) + 1)) >= (f_count_0 (IntKind.wrap .i64 n) c.8 (IntKind.wrap .i64 h)))) (zcs11 c kind n) zcs1))))) (br (decide (l.2 >= (IntKind.wrap .u64 a))) zcs1 (br (decide (c.8 = 0)) false (br (decide ((Int.tmod (IntKind.wrap .i64 (IntKind.wrap .u8 (i + 1))) c.8) = 0)) (zcs11 c kind n) (br (decide ((IntKind.wrap .i64 ((IntKind.wrap .i64 i) + 1)) >= (f_count_0 (IntKind.wrap .i64 n) c.8 (IntKind.wrap .i64 h)))) (zcs11 c kind n) zcs1)))))))))) (by kernel_rfl) (btf (nn he) (btt rfl (band hw (band hm (btt (btt (btt (btt rfl rfl) (btt (btt (btt rfl rfl) (btt rfl rfl)) (btt (btt rfl (btt rfl (btt rfl rfl))) (btt (btt (btt rfl (btt rfl rfl)) rfl) (btt (btt rfl rfl) rfl))))) (btt rfl (btf (node64 he ho) (btt (btt (btt rfl rfl) (btt rfl (btt (btt rfl (btt rfl rfl)) rfl))) (btt (btt (btt rfl rfl) (btt rfl (btt (btt rfl (btt rfl rfl)) rfl))) rfl))))) (btt rfl (btf (node64 he ho) (btt (btt (btt rfl rfl) (btt rfl (btt (btt rfl (btt rfl rfl)) rfl))) (btt (btt (btt rfl rfl) (btt rfl (btt (btt rfl (btt rfl rfl)) rfl))) rfl)))))))))
theorem t_taf_3 (kind a b i j n p h x y : Int) (l : Cel) (he : HE0 c) (hw : HW1 c) (hm : HM2 c ⟨kind, a, b, 3, i, j, n, p, h, x, y⟩) (ho : HO3 c) : runF zcs8 400 289 [c.av, (⟨kind, a, b, 3, i, j, n, p, h, x, y⟩ : Frm).av, l.av] sp_taf.has false = true := Eq.trans (b := (br (zcs0 c) zcs1 (br (zcs2 c) zcs1 (ba (zcs3 c) (ba (((posF (Frm.mk kind a b 3 i j n p h x y)) && (zcs6 c)) && (f_may_0 (TRa.mk (Frm.mk kind a b 3 i j n p h x y) c (zcs4 c) (zcs5 c) 0 0 Bool.false))) zcs1))))) (by kernel_rfl) (btf (nn he) (btt rfl (band hw (band hm rfl))))
theorem t_taf_4 (kind a b i j n p h x y : Int) (l : Cel) (he : HE0 c) (hw : HW1 c) (hm : HM2 c ⟨kind, a, b, 4, i, j, n, p, h, x, y⟩) (ho : HO3 c) : runF zcs8 400 289 [c.av, (⟨kind, a, b, 4, i, j, n, p, h, x, y⟩ : Frm).av, l.av] sp_taf.has false = true := Eq.trans (b := (br (zcs0 c) zcs1 (br (zcs2 c) zcs1 (ba (zcs3 c) (ba (((posF (Frm.mk kind a b 4 i j n p h x y)) && (zcs6 c)) && (f_may_0 (TRa.mk (Frm.mk kind a b 4 i j n p h x y) c (zcs4 c) (zcs5 c) 0 0 Bool.false))) zcs1))))) (by kernel_rfl) (btf (nn he) (btt rfl (band hw (band hm rfl))))
theorem t_taf_5 (kind a b i j n p h x y : Int) (l : Cel) (he : HE0 c) (hw : HW1 c) (hm : HM2 c ⟨kind, a, b, 5, i, j, n, p, h, x, y⟩) (ho : HO3 c) : runF zcs8 400 289 [c.av, (⟨kind, a, b, 5, i, j, n, p, h, x, y⟩ : Frm).av, l.av] sp_taf.has false = true := Eq.trans (b := (br (zcs0 c) zcs1 (br (zcs2 c) zcs1 (ba (zcs3 c) (ba (((posF (Frm.mk kind a b 5 i j n p h x y)) && (zcs6 c)) && (f_may_0 (TRa.mk (Frm.mk kind a b 5 i j n p h x y) c (zcs4 c) (zcs5 c) 0 0 Bool.false))) zcs1))))) (by kernel_rfl) (btf (nn he) (btt rfl (band hw (band hm rfl))))
theorem t_taf_6 (kind a b i j n p h x y : Int) (l : Cel) (he : HE0 c) (hw : HW1 c) (hm : HM2 c ⟨kind, a, b, 6, i, j, n, p, h, x, y⟩) (ho : HO3 c) : runF zcs8 400 289 [c.av, (⟨kind, a, b, 6, i, j, n, p, h, x, y⟩ : Frm).av, l.av] sp_taf.has false = true := Eq.trans (b := (br (zcs0 c) zcs1 (br (zcs2 c) zcs1 (ba (zcs3 c) (ba (((posF (Frm.mk kind a b 6 i j n p h x y)) && (zcs6 c)) && (f_may_0 (TRa.mk (Frm.mk kind a b 6 i j n p h x y) c (zcs4 c) (zcs5 c) 0 0 Bool.false))) (br (decide ((IntKind.wrap .u8 (i - 1)) <= p)) zcs1 zcs1)))))) (by kernel_rfl) (btf (nn he) (btt rfl (band hw (band hm (btt rfl rfl)))))
theorem t_taf_7 (kind a b i j n p h x y : Int) (l : Cel) (he : HE0 c) (hw : HW1 c) (hm : HM2 c ⟨kind, a, b, 7, i, j, n, p, h, x, y⟩) (ho : HO3 c) : runF zcs8 400 289 [c.av, (⟨kind, a, b, 7, i, j, n, p, h, x, y⟩ : Frm).av, l.av] sp_taf.has false = true := Eq.trans (b := (br (zcs0 c) zcs1 (br (zcs2 c) zcs1 (ba (zcs3 c) (ba (((posF (Frm.mk kind a b 7 i j n p h x y)) && (zcs6 c)) && (f_may_0 (TRa.mk (Frm.mk kind a b 7 i j n p h x y) c (zcs4 c) (zcs5 c) 0 0 Bool.false))) zcs1))))) (by kernel_rfl) (btf (nn he) (btt rfl (band hw (band hm rfl))))
theorem t_taf_9 (kind a b i j n p h x y : Int) (l : Cel) (he : HE0 c) (hw : HW1 c) (hm : HM2 c ⟨kind, a, b, 9, i, j, n, p, h, x, y⟩) (ho : HO3 c) : runF zcs8 400 289 [c.av, (⟨kind, a, b, 9, i, j, n, p, h, x, y⟩ : Frm).av, l.av] sp_taf.has false = true := Eq.trans (b := (br (zcs0 c) zcs1 (br (zcs2 c) zcs1 (ba (zcs3 c) (ba (((posF (Frm.mk kind a b 9 i j n p h x y)) && (zcs6 c)) && (f_may_0 (TRa.mk (Frm.mk kind a b 9 i j n p h x y) c (zcs4 c) (zcs5 c) 0 0 Bool.false))) zcs1))))) (by kernel_rfl) (btf (nn he) (btt rfl (band hw (band hm rfl))))
theorem t_taf_13 (kind a b i j n p h x y : Int) (l : Cel) (he : HE0 c) (hw : HW1 c) (hm : HM2 c ⟨kind, a, b, 13, i, j, n, p, h, x, y⟩) (ho : HO3 c) : runF zcs8 400 289 [c.av, (⟨kind, a, b, 13, i, j, n, p, h, x, y⟩ : Frm).av, l.av] sp_taf.has false = true := Eq.trans (b := (br (zcs0 c) zcs1 (br (zcs2 c) zcs1 (ba (zcs3 c) (ba (((posF (Frm.mk kind a b 13 i j n p h x y)) && (zcs6 c)) && (f_may_0 (TRa.mk (Frm.mk kind a b 13 i j n p h x y) c (zcs4 c) (zcs5 c) 0 0 Bool.false))) zcs1))))) (by kernel_rfl) (btf (nn he) (btt rfl (band hw (band hm rfl))))
theorem t_taf_14 (kind a b i j n p h x y : Int) (l : Cel) (he : HE0 c) (hw : HW1 c) (hm : HM2 c ⟨kind, a, b, 14, i, j, n, p, h, x, y⟩) (ho : HO3 c) : runF zcs8 400 289 [c.av, (⟨kind, a, b, 14, i, j, n, p, h, x, y⟩ : Frm).av, l.av] sp_taf.has false = true := Eq.trans (b := (br (zcs0 c) zcs1 (br (zcs2 c) zcs1 (ba (zcs3 c) (ba (((posF (Frm.mk kind a b 14 i j n p h x y)) && (zcs6 c)) && (f_may_0 (TRa.mk (Frm.mk kind a b 14 i j n p h x y) c (zcs4 c) (zcs5 c) 0 0 Bool.false))) (br (decide ((IntKind.wrap .u8 (i + 1)) >= n)) zcs1 zcs1)))))) (by kernel_rfl) (btf (nn he) (btt rfl (band hw (band hm (btt rfl rfl)))))
theorem t_taf_15 (kind a b i j n p h x y : Int) (l : Cel) (he : HE0 c) (hw : HW1 c) (hm : HM2 c ⟨kind, a, b, 15, i, j, n, p, h, x, y⟩) (ho : HO3 c) : runF zcs8 400 289 [c.av, (⟨kind, a, b, 15, i, j, n, p, h, x, y⟩ : Frm).av, l.av] sp_taf.has false = true := Eq.trans (b := (br (zcs0 c) zcs1 (br (zcs2 c) zcs1 (ba (zcs3 c) (ba (((posF (Frm.mk kind a b 15 i j n p h x y)) && (zcs6 c)) && (f_may_0 (TRa.mk (Frm.mk kind a b 15 i j n p h x y) c (zcs4 c) (zcs5 c) 0 0 Bool.false))) zcs1))))) (by kernel_rfl) (btf (nn he) (btt rfl (band hw (band hm rfl))))
theorem t_taf_16 (kind a b i j n p h x y : Int) (l : Cel) (he : HE0 c) (hw : HW1 c) (hm : HM2 c ⟨kind, a, b, 16, i, j, n, p, h, x, y⟩) (ho : HO3 c) : runF zcs8 400 289 [c.av, (⟨kind, a, b, 16, i, j, n, p, h, x, y⟩ : Frm).av, l.av] sp_taf.has false = true := Eq.trans (b := (br (zcs0 c) zcs1 (br (zcs2 c) zcs1 (ba (zcs3 c) (ba (((posF (Frm.mk kind a b 16 i j n p h x y)) && (zcs6 c)) && (f_may_0 (TRa.mk (Frm.mk kind a b 16 i j n p h x y) c (zcs4 c) (zcs5 c) 0 0 Bool.false))) (br (decide ((IntKind.wrap .u8 (p + 1)) >= n)) zcs1 zcs1)))))) (by kernel_rfl) (btf (nn he) (btt rfl (band hw (band hm (btt rfl rfl)))))
theorem t_taf_17 (kind a b i j n p h x y : Int) (l : Cel) (he : HE0 c) (hw : HW1 c) (hm : HM2 c ⟨kind, a, b, 17, i, j, n, p, h, x, y⟩) (ho : HO3 c) : runF zcs8 400 289 [c.av, (⟨kind, a, b, 17, i, j, n, p, h, x, y⟩ : Frm).av, l.av] sp_taf.has false = true := Eq.trans (b := (br (zcs0 c) zcs1 (br (zcs2 c) zcs1 (ba (zcs3 c) (ba (((posF (Frm.mk kind a b 17 i j n p h x y)) && (zcs6 c)) && (f_may_0 (TRa.mk (Frm.mk kind a b 17 i j n p h x y) c (zcs4 c) (zcs5 c) 0 0 Bool.false))) (br (decide ((IntKind.wrap .u32 l.2) > b)) zcs1 (br (decide ((IntKind.wrap .i64 (IntKind.wrap .u8 (j + 1))) >= c.10)) zcs1 (br (decide ((IntKind.wrap .u8 (p + 1)) >= n)) zcs1 zcs1)))))))) (by kernel_rfl) (btf (nn he) (btt rfl (band hw (band hm (btt rfl (btt rfl (btt rfl rfl)))))))
theorem t_taf_20 (kind a b i j n p h x y : Int) (l : Cel) (he : HE0 c) (hw : HW1 c) (hm : HM2 c ⟨kind, a, b, 20, i, j, n, p, h, x, y⟩) (ho : HO3 c) : runF zcs8 400 289 [c.av, (⟨kind, a, b, 20, i, j, n, p, h, x, y⟩ : Frm).av, l.av] sp_taf.has false = true := Eq.trans (b := (br (zcs0 c) zcs1 (br (zcs2 c) zcs1 (ba (zcs3 c) (ba (((posF (Frm.mk kind a b 20 i j n p h x y)) && (zcs6 c)) && (f_may_0 (TRa.mk (Frm.mk kind a b 20 i j n p h x y) c (zcs4 c) (zcs5 c) 0 0 Bool.false))) zcs1))))) (by kernel_rfl) (btf (nn he) (btt rfl (band hw (band hm rfl))))
theorem t_taf_21 (kind a b i j n p h x y : Int) (l : Cel) (he : HE0 c) (hw : HW1 c) (hm : HM2 c ⟨kind, a, b, 21, i, j, n, p, h, x, y⟩) (ho : HO3 c) : runF zcs8 400 289 [c.av, (⟨kind, a, b, 21, i, j, n, p, h, x, y⟩ : Frm).av, l.av] sp_taf.has false = true := Eq.trans (b := (br (zcs0 c) zcs1 (br (zcs2 c) zcs1 (ba (zcs3 c) (ba (((posF (Frm.mk kind a b 21 i j n p h x y)) && (zcs6 c)) && (f_may_0 (TRa.mk (Frm.mk kind a b 21 i j n p h x y) c (zcs4 c) (zcs5 c) 0 0 Bool.false))) zcs1))))) (by kernel_rfl) (btf (nn he) (btt rfl (band hw (band hm rfl))))
theorem t_taf_22 (kind a b i j n p h x y : Int) (l : Cel) (he : HE0 c) (hw : HW1 c) (hm : HM2 c ⟨kind, a, b, 22, i, j, n, p, h, x, y⟩) (ho : HO3 c) : runF zcs8 400 289 [c.av, (⟨kind, a, b, 22, i, j, n, p, h, x, y⟩ : Frm).av, l.av] sp_taf.has false = true := Eq.trans (b := (br (zcs0 c) zcs1 (br (zcs2 c) zcs1 (ba (zcs3 c) (ba (((posF (Frm.mk kind a b 22 i j n p h x y)) && (zcs6 c)) && (f_may_0 (TRa.mk (Frm.mk kind a b 22 i j n p h x y) c (zcs4 c) (zcs5 c) 0 0 Bool.false))) zcs1))))) (by kernel_rfl) (btf (nn he) (btt rfl (band hw (band hm rfl))))
theorem t_taf_23 (kind a b i j n p h x y : Int) (l : Cel) (he : HE0 c) (hw : HW1 c) (hm : HM2 c ⟨kind, a, b, 23, i, j, n, p, h, x, y⟩) (ho : HO3 c) : runF zcs8 400 289 [c.av, (⟨kind, a, b, 23, i, j, n, p, h, x, y⟩ : Frm).av, l.av] sp_taf.has false = true := Eq.trans (b := (br (zcs0 c) zcs1 (br (zcs2 c) zcs1 (ba (zcs3 c) (ba (((posF (Frm.mk kind a b 23 i j n p h x y)) && (zcs6 c)) && (f_may_0 (TRa.mk (Frm.mk kind a b 23 i j n p h x y) c (zcs4 c) (zcs5 c) 0 0 Bool.false))) zcs1))))) (by kernel_rfl) (btf (nn he) (btt rfl (band hw (band hm rfl))))
theorem t_taf_24 (kind a b i j n p h x y : Int) (l : Cel) (he : HE0 c) (hw : HW1 c) (hm : HM2 c ⟨kind, a, b, 24, i, j, n, p, h, x, y⟩) (ho : HO3 c) : runF zcs8 400 289 [c.av, (⟨kind, a, b, 24, i, j, n, p, h, x, y⟩ : Frm).av, l.av] sp_taf.has false = true := Eq.trans (b := (br (zcs0 c) zcs1 (br (zcs2 c) zcs1 (ba (zcs3 c) (ba (((posF (Frm.mk kind a b 24 i j n p h x y)) && (zcs6 c)) && (f_may_0 (TRa.mk (Frm.mk kind a b 24 i j n p h x y) c (zcs4 c) (zcs5 c) 0 0 Bool.false))) zcs1))))) (by kernel_rfl) (btf (nn he) (btt rfl (band hw (band hm rfl))))
theorem t_taf_25 (kind a b i j n p h x y : Int) (l : Cel) (he : HE0 c) (hw : HW1 c) (hm : HM2 c ⟨kind, a, b, 25, i, j, n, p, h, x, y⟩) (ho : HO3 c) : runF zcs8 400 289 [c.av, (⟨kind, a, b, 25, i, j, n, p, h, x, y⟩ : Frm).av, l.av] sp_taf.has false = true := Eq.trans (b := (br (zcs0 c) zcs1 (br (zcs2 c) zcs1 (ba (zcs3 c) (ba (((posF (Frm.mk kind a b 25 i j n p h x y)) && (zcs6 c)) && (f_may_0 (TRa.mk (Frm.mk kind a b 25 i j n p h x y) c (zcs4 c) (zcs5 c) 0 0 Bool.false))) zcs1))))) (by kernel_rfl) (btf (nn he) (btt rfl (band hw (band hm rfl))))
end
theorem run_taf (c : Conf) (f : Frm) (l : Cel) (h : (decide (errC c = 0) && (decide (c.ob = 2) && (((posF f && lvOk (lvL c.cap c.node) (lvN c.cap c.node)) && f_may_0 (mkr c f)) && !(upPc f.pc)))) = true) : runF zcs8 400 289 [c.av, f.av, l.av] sp_taf.has false = true := by
 simp only [Bool.and_eq_true] at h
 obtain ⟨he, ho, ⟨⟨hp, hv⟩, hmm⟩, hpc⟩ := h
 have hP := may_prop (mkr c f) hp hv hmm
 have hin := has_prop (mkr c f) hP.2
 have hw := width_of he ho
 obtain ⟨kind, a, b, pc, i, j, n, p, hh, x, y⟩ := f
 have hm : ((posF ⟨kind, a, b, pc, i, j, n, p, hh, x, y⟩ && lvOk (lvL c.cap c.node) (lvN c.cap c.node)) && f_may_0 (mkr c ⟨kind, a, b, pc, i, j, n, p, hh, x, y⟩)) = true := by rw [hp, hv, hmm]; rfl
 have hin : inPc pc = true := hin
 have hpc : upPc pc = false := by simpa using hpc
 rcases inPc_cases hin with rfl | rfl | rfl | rfl | rfl | rfl | rfl | rfl | rfl | rfl | rfl | rfl | rfl | rfl | rfl | rfl | rfl | rfl | rfl | rfl | rfl | rfl
 ·exact t_taf_0 c kind a b i j n p hh x y l he hw hm ho
 ·exact t_taf_1 c kind a b i j n p hh x y l he hw hm ho
 ·exact t_taf_3 c kind a b i j n p hh x y l he hw hm ho
 ·exact t_taf_4 c kind a b i j n p hh x y l he hw hm ho
 ·exact t_taf_5 c kind a b i j n p hh x y l he hw hm ho
 ·exact t_taf_6 c kind a b i j n p hh x y l he hw hm ho
 ·exact t_taf_7 c kind a b i j n p hh x y l he hw hm ho
 ·cases hpc
 ·exact t_taf_9 c kind a b i j n p hh x y l he hw hm ho
 ·cases hpc
 ·cases hpc
 ·exact t_taf_13 c kind a b i j n p hh x y l he hw hm ho
 ·exact t_taf_14 c kind a b i j n p hh x y l he hw hm ho
 ·exact t_taf_15 c kind a b i j n p hh x y l he hw hm ho
 ·exact t_taf_16 c kind a b i j n p hh x y l he hw hm ho
 ·exact t_taf_17 c kind a b i j n p hh x y l he hw hm ho
 ·exact t_taf_20 c kind a b i j n p hh x y l he hw hm ho
 ·exact t_taf_21 c kind a b i j n p hh x y l he hw hm ho
 ·exact t_taf_22 c kind a b i j n p hh x y l he hw hm ho
 ·exact t_taf_23 c kind a b i j n p hh x y l he hw hm ho
 ·exact t_taf_24 c kind a b i j n p hh x y l he hw hm ho
 ·exact t_taf_25 c kind a b i j n p hh x y l he hw hm ho
theorem s_taf : SumOk Tryz.prog (gmap gs) S_taf := on3_sum fun c f l hp => (acalls_out base (sums_cons s_check (sums_cons s_levA (sums_cons s_mayT (sums_cons s_rcnt (sums_cons s_top sums_nil))))) (n := 400) sp_taf (run_taf c f l hp)).mono fun v_ hv_ => hv_.trans (oe_taf c f l)
def S_levD : Sum := (207, on2 (rI .i64) (rI .i64) (fun _ _ => false) (fun _ _ => .nils))
theorem s_levD : SumOk Tryz.prog (gmap gs) S_levD := on2_sum fun n w hp => by cases hp
theorem badc {a b : Bool} (h : (!(a && b)) = true) : br (!a) true (ba (!b) true) = true := by
 cases a <;> cases b <;> first | rfl | cases h
def sp_tnb : Sp := sT [sG [sI .u8, sI .i64, sI .u64, sI .u64, sI .u64, sI .i64, sI .u32], sI .i64]
section
variable (c : Conf) (f : Frm)
def out_tnb : AV := outV (cfg [S_check, S_levD]) 400 206 [c.av, f.av]
def f_tnb_0 : Int := AV.toI (AV.ix (AV.ix (out_tnb c f) 0) 0)
def f_tnb_1 : Int := AV.toI (AV.ix (AV.ix (out_tnb c f) 0) 1)
def f_tnb_2 : Int := AV.toI (AV.ix (AV.ix (out_tnb c f) 0) 2)
def f_tnb_3 : Int := AV.toI (AV.ix (AV.ix (out_tnb c f) 0) 3)
def f_tnb_4 : Int := AV.toI (AV.ix (AV.ix (out_tnb c f) 0) 4)
def f_tnb_5 : Int := AV.toI (AV.ix (AV.ix (out_tnb c f) 0) 5)
def f_tnb_6 : Int := AV.toI (AV.ix (AV.ix (out_tnb c f) 0) 6)
def f_tnb_7 : Int := AV.toI (AV.ix (out_tnb c f) 1)
def o_tnb : AV := .tup [.agg [.int .u8 (f_tnb_0 c f), .int .i64 (f_tnb_1 c f), .int .u64 (f_tnb_2 c f), .int .u64 (f_tnb_3 c f), .int .u64 (f_tnb_4 c f), .int .i64 (f_tnb_5 c f), .int .u32 (f_tnb_6 c f)], .int .i64 (f_tnb_7 c f)]
end
def S_tnb : Sum := (206, on2 rConf rFrm (fun c f => (!(decide (errC c = 0) && decide (c.ob = 2)))) (fun c f => o_tnb c f))
theorem oe_tnb (c : Conf) (f : Frm) : sp_tnb.bd (out_tnb c f) = o_tnb c f := by kernel_rfl
abbrev zcs12 := cfg [S_check, S_levD]
theorem t_tnb (c : Conf) (f : Frm) (hb : (!(decide (errC c = 0) && decide (c.ob = 2))) = true) : runF zcs12 400 206 [c.av, f.av] sp_tnb.has false = true := Eq.trans (b := (br (zcs0 c) zcs1 (ba (zcs2 c) zcs1))) (by kernel_rfl) (badc hb)
theorem run_tnb (c : Conf) (f : Frm) (h : (!(decide (errC c = 0) && decide (c.ob = 2))) = true) : runF zcs12 400 206 [c.av, f.av] sp_tnb.has false = true := t_tnb c f h
theorem s_tnb : SumOk Tryz.prog (gmap gs) S_tnb := on2_sum fun c f hp => (acalls_out base (sums_cons s_check (sums_cons s_levD sums_nil)) (n := 400) sp_tnb (run_tnb c f hp)).mono fun v_ hv_ => hv_.trans (oe_tnb c f)
def sp_tab : Sp := sT [sG [sI .u8, sI .u32, sI .u32, sI .u8, sI .u8, sI .u8, sI .u8, sI .u8, sI .u8, sI .u32, sI .u32], sG [sI .u64, sI .u64], sB, sI .i64]
section
variable (c : Conf) (f : Frm) (l : Cel)
def out_tab : AV := outV (cfg [S_check, S_levD]) 400 289 [c.av, f.av, l.av]
def f_tab_0 : Int := AV.toI (AV.ix (AV.ix (out_tab c f l) 0) 0)
def f_tab_1 : Int := AV.toI (AV.ix (AV.ix (out_tab c f l) 0) 1)
def f_tab_2 : Int := AV.toI (AV.ix (AV.ix (out_tab c f l) 0) 2)
def f_tab_3 : Int := AV.toI (AV.ix (AV.ix (out_tab c f l) 0) 3)
def f_tab_4 : Int := AV.toI (AV.ix (AV.ix (out_tab c f l) 0) 4)
def f_tab_5 : Int := AV.toI (AV.ix (AV.ix (out_tab c f l) 0) 5)
def f_tab_6 : Int := AV.toI (AV.ix (AV.ix (out_tab c f l) 0) 6)
def f_tab_7 : Int := AV.toI (AV.ix (AV.ix (out_tab c f l) 0) 7)
def f_tab_8 : Int := AV.toI (AV.ix (AV.ix (out_tab c f l) 0) 8)
def f_tab_9 : Int := AV.toI (AV.ix (AV.ix (out_tab c f l) 0) 9)
def f_tab_10 : Int := AV.toI (AV.ix (AV.ix (out_tab c f l) 0) 10)
def f_tab_11 : Int := AV.toI (AV.ix (AV.ix (out_tab c f l) 1) 0)
def f_tab_12 : Int := AV.toI (AV.ix (AV.ix (out_tab c f l) 1) 1)
def f_tab_13 : Bool := AV.toB (AV.ix (out_tab c f l) 2)
def f_tab_14 : Int := AV.toI (AV.ix (out_tab c f l) 3)
def o_tab : AV := .tup [.agg [.int .u8 (f_tab_0 c f l), .int .u32 (f_tab_1 c f l), .int .u32 (f_tab_2 c f l), .int .u8 (f_tab_3 c f l), .int .u8 (f_tab_4 c f l), .int .u8 (f_tab_5 c f l), .int .u8 (f_tab_6 c f l), .int .u8 (f_tab_7 c f l), .int .u8 (f_tab_8 c f l), .int .u32 (f_tab_9 c f l), .int .u32 (f_tab_10 c f l)], .agg [.int .u64 (f_tab_11 c f l), .int .u64 (f_tab_12 c f l)], .bool (f_tab_13 c f l), .int .i64 (f_tab_14 c f l)]
end
def S_tab : Sum := (289, on3 rConf rFrm rCel (fun c f l => (!(decide (errC c = 0) && decide (c.ob = 2)))) (fun c f l => o_tab c f l))
theorem oe_tab (c : Conf) (f : Frm) (l : Cel) : sp_tab.bd (out_tab c f l) = o_tab c f l := by kernel_rfl
theorem t_tab (c : Conf) (f : Frm) (l : Cel) (hb : (!(decide (errC c = 0) && decide (c.ob = 2))) = true) : runF zcs12 400 289 [c.av, f.av, l.av] sp_tab.has false = true := Eq.trans (b := (br (zcs0 c) zcs1 (ba (zcs2 c) zcs1))) (by kernel_rfl) (badc hb)
theorem run_tab (c : Conf) (f : Frm) (l : Cel) (h : (!(decide (errC c = 0) && decide (c.ob = 2))) = true) : runF zcs12 400 289 [c.av, f.av, l.av] sp_tab.has false = true := t_tab c f l h
theorem s_tab : SumOk Tryz.prog (gmap gs) S_tab := on3_sum fun c f l hp => (acalls_out base (sums_cons s_check (sums_cons s_levD sums_nil)) (n := 400) sp_tab (run_tab c f l hp)).mono fun v_ hv_ => hv_.trans (oe_tab c f l)
end
end Go.Bas.BasZTreN
end
section
namespace Go.Bas.BasZTreL1
noncomputable section
open Go.RowKit Go.Proofs
open BasZBase BasZOp BasZRank BasZLev BasZRank3 BasZOk BasZTreB BasZTre BasZTreN
def mkrL (c : Conf) (f : Frm) : TRa := ⟨f, c, [.int .i64 (f_up_0 c.cap c.node 0)], 1, 0, 0, false⟩
theorem upPc_cases {pc : Int} (h : upPc pc = true) : pc = 8 \/ pc = 11 \/ pc = 12 := by
 unfold upPc at h
 simp only [Bool.or_eq_true, decide_eq_true_eq] at h
 exact h
def sp_tau : Sp := sT [sG [sI .u8, sI .u32, sI .u32, sI .u8, sI .u8, sI .u8, sI .u8, sI .u8, sI .u8, sI .u32, sI .u32], sG [sI .u64, sI .u64], sB, sI .i64]
section
variable (c : Conf) (f : Frm) (l : Cel)
def out_tau : AV := outV (cfg [S_check, S_lev1, S_mayT, S_rcnt, S_top]) 400 289 [c.av, f.av, l.av]
def f_tau_0 : Int := AV.toI (AV.ix (AV.ix (out_tau c f l) 0) 0)
def f_tau_1 : Int := AV.toI (AV.ix (AV.ix (out_tau c f l) 0) 1)
def f_tau_2 : Int := AV.toI (AV.ix (AV.ix (out_tau c f l) 0) 2)
def f_tau_3 : Int := AV.toI (AV.ix (AV.ix (out_tau c f l) 0) 3)
def f_tau_4 : Int := AV.toI (AV.ix (AV.ix (out_tau c f l) 0) 4)
def f_tau_5 : Int := AV.toI (AV.ix (AV.ix (out_tau c f l) 0) 5)
def f_tau_6 : Int := AV.toI (AV.ix (AV.ix (out_tau c f l) 0) 6)
def f_tau_7 : Int := AV.toI (AV.ix (AV.ix (out_tau c f l) 0) 7)
def f_tau_8 : Int := AV.toI (AV.ix (AV.ix (out_tau c f l) 0) 8)
def f_tau_9 : Int := AV.toI (AV.ix (AV.ix (out_tau c f l) 0) 9)
def f_tau_10 : Int := AV.toI (AV.ix (AV.ix (out_tau c f l) 0) 10)
def f_tau_11 : Int := AV.toI (AV.ix (AV.ix (out_tau c f l) 1) 0)
def f_tau_12 : Int := AV.toI (AV.ix (AV.ix (out_tau c f l) 1) 1)
def f_tau_13 : Bool := AV.toB (AV.ix (out_tau c f l) 2)
def f_tau_14 : Int := AV.toI (AV.ix (out_tau c f l) 3)
def o_tau : AV := .tup [.agg [.int .u8 (f_tau_0 c f l), .int .u32 (f_tau_1 c f l), .int .u32 (f_tau_2 c f l), .int .u8 (f_tau_3 c f l), .int .u8 (f_tau_4 c f l), .int .u8 (f_tau_5 c f l), .int .u8 (f_tau_6 c f l), .int .u8 (f_tau_7 c f l), .int .u8 (f_tau_8 c f l), .int .u32 (f_tau_9 c f l), .int .u32 (f_tau_10 c f l)], .agg [.int .u64 (f_tau_11 c f l), .int .u64 (f_tau_12 c f l)], .bool (f_tau_13 c f l), .int .i64 (f_tau_14 c f l)]
end
def S_tau : Sum := (289, on3 rConf rFrm rCel (fun c f l => (decide (errC c = 0) && (decide (c.ob = 2) && (levIs c.cap c.node 1 && (((posF f && lvOk [.int .i64 (f_up_0 c.cap c.node 0)] 1) && f_may_0 (mkrL c f)) && upPc f.pc))))) (fun c f l => o_tau c f l))
theorem oe_tau (c : Conf) (f : Frm) (l : Cel) : sp_tau.bd (out_tau c f l) = o_tau c f l := by kernel_rfl
abbrev HM0 (c : Conf) (f : Frm) : Prop := ((posF f && lvOk [.int .i64 (f_up_0 c.cap c.node 0)] 1) && f_may_0 (mkrL c f)) = true
abbrev HE1 (c : Conf) : Prop := decide (errC c = 0) = true
abbrev HW2 (c : Conf) : Prop := levIs c.cap c.node 1 = true
abbrev HO3 (c : Conf) : Prop := decide (c.ob = 2) = true
abbrev zct0 := cfg [S_check, S_lev1, S_mayT, S_rcnt, S_top]
abbrev zct1 (c : Conf) := !decide ((errC c) = 0)
abbrev zct2 (c : Conf) := BasZLev.levIs c.7 c.8 1
abbrev zct3 (c : Conf) : List AV := [.int .i64 (f_up_0 c.7 c.8 0)]
theorem t_ta8_4 (c : Conf) (a b i j n p h x y : Int) (l : Cel) (he : HE1 c) (hw : HW2 c) (hm : HM0 c ⟨4, a, b, 8, i, j, n, p, h, x, y⟩) (ho : HO3 c) : runF zct0 400 289 [c.av, (⟨4, a, b, 8, i, j, n, p, h, x, y⟩ : Frm).av, l.av] sp_tau.has false = true := Eq.trans (b := (br (zct1 c) true (br (!decide (c.1 = 2)) true (ba (zct2 c) (ba (((posF (Frm.mk 4 a b 8 i j n p h x y)) && (lvOk (zct3 c) 1)) && (f_may_0 (TRa.mk (Frm.mk 4 a b 8 i j n p h x y) c (zct3 c) 1 0 0 Bool.false))) true))))) (by kernel_rfl) (btf (nn he) (btt rfl (band hw (band hm rfl))))
theorem t_ta8_5 (c : Conf) (a b i j n p h x y : Int) (l : Cel) (he : HE1 c) (hw : HW2 c) (hm : HM0 c ⟨5, a, b, 8, i, j, n, p, h, x, y⟩) (ho : HO3 c) : runF zct0 400 289 [c.av, (⟨5, a, b, 8, i, j, n, p, h, x, y⟩ : Frm).av, l.av] sp_tau.has false = true := Eq.trans (b := (br (zct1 c) true (br (!decide (c.1 = 2)) true (ba (zct2 c) (ba (((posF (Frm.mk 5 a b 8 i j n p h x y)) && (lvOk (zct3 c) 1)) && (f_may_0 (TRa.mk (Frm.mk 5 a b 8 i j n p h x y) c (zct3 c) 1 0 0 Bool.false))) true))))) (by kernel_rfl) (btf (nn he) (btt rfl (band hw (band hm rfl))))
abbrev zct4 (c : Conf) (i : Int) (n : Int) := decide ((IntKind.wrap .i64 (IntKind.wrap .u8 (i + 1))) >= (f_count_0 (IntKind.wrap .i64 n) c.8 0))
section
variable (c : Conf) (a b i j n p x y : Int) (l : Cel)
theorem t_ta11_4_0 (he : HE1 c) (hw : HW2 c) (hm : HM0 c ⟨4, a, b, 11, i, j, n, p, 0, x, y⟩) (ho : HO3 c) : runF zct0 400 289 [c.av, (⟨4, a, b, 11, i, j, n, p, 0, x, y⟩ : Frm).av, l.av] sp_tau.has false = true := Eq.trans (b := (br (zct1 c) true (br (!decide (c.1 = 2)) true (ba (zct2 c) (ba (((posF (Frm.mk 4 a b 11 i j n p 0 x y)) && (lvOk (zct3 c) 1)) && (f_may_0 (TRa.mk (Frm.mk 4 a b 11 i j n p 0 x y) c (zct3 c) 1 0 0 Bool.false))) (br (zct4 c i n) true true)))))) (by kernel_rfl) (btf (nn he) (btt rfl (band hw (band hm (btt rfl rfl)))))
theorem t_ta11_5_0 (he : HE1 c) (hw : HW2 c) (hm : HM0 c ⟨5, a, b, 11, i, j, n, p, 0, x, y⟩) (ho : HO3 c) : runF zct0 400 289 [c.av, (⟨5, a, b, 11, i, j, n, p, 0, x, y⟩ : Frm).av, l.av] sp_tau.has false = true := Eq.trans (b := (br (zct1 c) true (br (!decide (c.1 = 2)) true (ba (zct2 c) (ba (((posF (Frm.mk 5 a b 11 i j n p 0 x y)) && (lvOk (zct3 c) 1)) && (f_may_0 (TRa.mk (Frm.mk 5 a b 11 i j n p 0 x y) c (zct3 c) 1 0 0 Bool.false))) (br (zct4 c i n) (br (decide ((f_count_0 (IntKind.wrap .i64 (imin (IntKind.wrap .u8 (n + 1)) (IntKind.wrap .u8 c.7))) c.8 0) > (f_count_0 (IntKind.wrap .i64 n) c.8 0))) true true) true)))))) (by kernel_rfl) (btf (nn he) (btt rfl (band hw (band hm (btt (btt rfl rfl) rfl)))))
theorem t_ta12_5_0 (he : HE1 c) (hw : HW2 c) (hm : HM0 c ⟨5, a, b, 12, i, j, n, p, 0, x, y⟩) (ho : HO3 c) : runF zct0 400 289 [c.av, (⟨5, a, b, 12, i, j, n, p, 0, x, y⟩ : Frm).av, l.av] sp_tau.has false = true := Eq.trans (b := (br (zct1 c) true (br (!decide (c.1 = 2)) true (ba (zct2 c) (ba (((posF (Frm.mk 5 a b 12 i j n p 0 x y)) && (lvOk (zct3 c) 1)) && (f_may_0 (TRa.mk (Frm.mk 5 a b 12 i j n p 0 x y) c (zct3 c) 1 0 0 Bool.false))) true))))) (by kernel_rfl) (btf (nn he) (btt rfl (band hw (band hm rfl))))
end
theorem run_tau (c : Conf) (f : Frm) (l : Cel) (h : (decide (errC c = 0) && (decide (c.ob = 2) && (levIs c.cap c.node 1 && (((posF f && lvOk [.int .i64 (f_up_0 c.cap c.node 0)] 1) && f_may_0 (mkrL c f)) && upPc f.pc)))) = true) : runF zct0 400 289 [c.av, f.av, l.av] sp_tau.has false = true := by
 simp only [Bool.and_eq_true] at h
 obtain ⟨he, ho, hw, ⟨⟨hp, hv⟩, hmm⟩, hpc⟩ := h
 have hP := may_prop (mkrL c f) hp hv hmm
 have hK := has_kind (mkrL c f) hP.2
 have h0 := (posF_true.1 hp).2.2.2.1
 obtain ⟨kind, a, b, pc, i, j, n, p, hh, x, y⟩ := f
 have hm : ((posF ⟨kind, a, b, pc, i, j, n, p, hh, x, y⟩ && lvOk [.int .i64 (f_up_0 c.cap c.node 0)] 1) && f_may_0 (mkrL c ⟨kind, a, b, pc, i, j, n, p, hh, x, y⟩)) = true := by rw [hp, hv, hmm]; rfl
 have h0 : 0 <= hh := h0
 have hlt : hh < 1 := hP.1
 have hK : upK pc kind = true := hK
 rcases upPc_cases hpc with rfl | rfl | rfl
 ·rcases upK_8 hK (.inl rfl) with rfl | rfl
  ·exact t_ta8_4 c a b i j n p hh x y l he hw hm ho
  ·exact t_ta8_5 c a b i j n p hh x y l he hw hm ho
 ·rcases upK_8 hK (.inr rfl) with rfl | rfl
  ·rcases (show hh = 0 by omega) with rfl
   ·exact t_ta11_4_0 c a b i j n p x y l he hw hm ho
  ·rcases (show hh = 0 by omega) with rfl
   ·exact t_ta11_5_0 c a b i j n p x y l he hw hm ho
 ·cases upK_12 hK
  rcases (show hh = 0 by omega) with rfl
  ·exact t_ta12_5_0 c a b i j n p x y l he hw hm ho
theorem s_tau : SumOk Tryz.prog (gmap gs) S_tau := on3_sum fun c f l hp => (acalls_out base (sums_cons s_check (sums_cons s_lev1 (sums_cons s_mayT (sums_cons s_rcnt (sums_cons s_top sums_nil))))) (n := 400) sp_tau (run_tau c f l hp)).mono fun v_ hv_ => hv_.trans (oe_tau c f l)
end
end Go.Bas.BasZTreL1
end
section
namespace Go.Bas.BasZTreL2
noncomputable section
open Go.RowKit Go.Proofs
open BasZBase BasZOp BasZRank BasZLev BasZRank3 BasZOk BasZTreB BasZTre BasZTreN
def mkrL (c : Conf) (f : Frm) : TRa := ⟨f, c, [.int .i64 (f_up_0 c.cap c.node 0), .int .i64 (f_up_0 c.cap c.node 1)], 2, 0, 0, false⟩
theorem upPc_cases {pc : Int} (h : upPc pc = true) : pc = 8 \/ pc = 11 \/ pc = 12 := by
 unfold upPc at h
 simp only [Bool.or_eq_true, decide_eq_true_eq] at h
 exact h
def sp_tau : Sp := sT [sG [sI .u8, sI .u32, sI .u32, sI .u8, sI .u8, sI .u8, sI .u8, sI .u8, sI .u8, sI .u32, sI .u32], sG [sI .u64, sI .u64], sB, sI .i64]
section
variable (c : Conf) (f : Frm) (l : Cel)
def out_tau : AV := outV (cfg [S_check, S_lev2, S_mayT, S_rcnt, S_top]) 400 289 [c.av, f.av, l.av]
def f_tau_0 : Int := AV.toI (AV.ix (AV.ix (out_tau c f l) 0) 0)
def f_tau_1 : Int := AV.toI (AV.ix (AV.ix (out_tau c f l) 0) 1)
def f_tau_2 : Int := AV.toI (AV.ix (AV.ix (out_tau c f l) 0) 2)
def f_tau_3 : Int := AV.toI (AV.ix (AV.ix (out_tau c f l) 0) 3)
def f_tau_4 : Int := AV.toI (AV.ix (AV.ix (out_tau c f l) 0) 4)
def f_tau_5 : Int := AV.toI (AV.ix (AV.ix (out_tau c f l) 0) 5)
def f_tau_6 : Int := AV.toI (AV.ix (AV.ix (out_tau c f l) 0) 6)
def f_tau_7 : Int := AV.toI (AV.ix (AV.ix (out_tau c f l) 0) 7)
def f_tau_8 : Int := AV.toI (AV.ix (AV.ix (out_tau c f l) 0) 8)
def f_tau_9 : Int := AV.toI (AV.ix (AV.ix (out_tau c f l) 0) 9)
def f_tau_10 : Int := AV.toI (AV.ix (AV.ix (out_tau c f l) 0) 10)
def f_tau_11 : Int := AV.toI (AV.ix (AV.ix (out_tau c f l) 1) 0)
def f_tau_12 : Int := AV.toI (AV.ix (AV.ix (out_tau c f l) 1) 1)
def f_tau_13 : Bool := AV.toB (AV.ix (out_tau c f l) 2)
def f_tau_14 : Int := AV.toI (AV.ix (out_tau c f l) 3)
def o_tau : AV := .tup [.agg [.int .u8 (f_tau_0 c f l), .int .u32 (f_tau_1 c f l), .int .u32 (f_tau_2 c f l), .int .u8 (f_tau_3 c f l), .int .u8 (f_tau_4 c f l), .int .u8 (f_tau_5 c f l), .int .u8 (f_tau_6 c f l), .int .u8 (f_tau_7 c f l), .int .u8 (f_tau_8 c f l), .int .u32 (f_tau_9 c f l), .int .u32 (f_tau_10 c f l)], .agg [.int .u64 (f_tau_11 c f l), .int .u64 (f_tau_12 c f l)], .bool (f_tau_13 c f l), .int .i64 (f_tau_14 c f l)]
end
def S_tau : Sum := (289, on3 rConf rFrm rCel (fun c f l => (decide (errC c = 0) && (decide (c.ob = 2) && (levIs c.cap c.node 2 && (((posF f && lvOk [.int .i64 (f_up_0 c.cap c.node 0), .int .i64 (f_up_0 c.cap c.node 1)] 2) && f_may_0 (mkrL c f)) && upPc f.pc))))) (fun c f l => o_tau c f l))
theorem oe_tau (c : Conf) (f : Frm) (l : Cel) : sp_tau.bd (out_tau c f l) = o_tau c f l := by kernel_rfl
abbrev HM0 (c : Conf) (f : Frm) : Prop := ((posF f && lvOk [.int .i64 (f_up_0 c.cap c.node 0), .int .i64 (f_up_0 c.cap c.node 1)] 2) && f_may_0 (mkrL c f)) = true
abbrev HE1 (c : Conf) : Prop := decide (errC c = 0) = true
abbrev HW2 (c : Conf) : Prop := levIs c.cap c.node 2 = true
abbrev HO3 (c : Conf) : Prop := decide (c.ob = 2) = true
abbrev zcu0 := cfg [S_check, S_lev2, S_mayT, S_rcnt, S_top]
abbrev zcu1 (c : Conf) := !decide ((errC c) = 0)
abbrev zcu2 := true
abbrev zcu3 (c : Conf) := !decide (c.1 = 2)
abbrev zcu4 (c : Conf) := BasZLev.levIs c.7 c.8 2
abbrev zcu5 (c : Conf) : List AV := [.int .i64 (f_up_0 c.7 c.8 0), .int .i64 (f_up_0 c.7 c.8 1)]
abbrev zcu6 (c : Conf) := lvOk (zcu5 c) 2
abbrev zcu7 (c : Conf) (n : Int) (p : Int) := decide ((IntKind.wrap .i64 (IntKind.wrap .u8 (Int.tdiv p (IntKind.wrap .u8 c.8)))) < (f_count_0 (IntKind.wrap .i64 n) c.8 1))
section
variable (c : Conf)
theorem t_ta8_4 (a b i j n p h x y : Int) (l : Cel) (he : HE1 c) (hw : HW2 c) (hm : HM0 c ⟨4, a, b, 8, i, j, n, p, h, x, y⟩) (ho : HO3 c) : runF zcu0 400 289 [c.av, (⟨4, a, b, 8, i, j, n, p, h, x, y⟩ : Frm).av, l.av] sp_tau.has false = true := Eq.trans (b := (br (zcu1 c) zcu2 (br (zcu3 c) zcu2 (ba (zcu4 c) (ba (((posF (Frm.mk 4 a b 8 i j n p h x y)) && (zcu6 c)) && (f_may_0 (TRa.mk (Frm.mk 4 a b 8 i j n p h x y) c (zcu5 c) 2 0 0 Bool.false))) (br (decide ((IntKind.wrap .u8 c.8) = 0)) false (br (zcu7 c n p) zcu2 zcu2))))))) (by kernel_rfl) (btf (nn he) (btt rfl (band hw (band hm (btf (node8 he ho) (btt rfl rfl))))))
abbrev zcu8 (n : Int) : Bool := br (decide ((f_count_0 (IntKind.wrap .i64 (imin (IntKind.wrap .u8 (n + 1)) (IntKind.wrap .u8 c.7))) c.8 1) > (f_count_0 (IntKind.wrap .i64 n) c.8 1))) zcu2 zcu2
abbrev zcu9 (n : Int) (p : Int) : Bool := br (decide ((IntKind.wrap .u8 c.8) = 0)) false (br (zcu7 c n p) zcu2 (zcu8 c n))
theorem t_ta8_5 (a b i j n p h x y : Int) (l : Cel) (he : HE1 c) (hw : HW2 c) (hm : HM0 c ⟨5, a, b, 8, i, j, n, p, h, x, y⟩) (ho : HO3 c) : runF zcu0 400 289 [c.av, (⟨5, a, b, 8, i, j, n, p, h, x, y⟩ : Frm).av, l.av] sp_tau.has false = true := Eq.trans (b := (br (zcu1 c) zcu2 (br (zcu3 c) zcu2 (ba (zcu4 c) (ba (((posF (Frm.mk 5 a b 8 i j n p h x y)) && (zcu6 c)) && (f_may_0 (TRa.mk (Frm.mk 5 a b 8 i j n p h x y) c (zcu5 c) 2 0 0 Bool.false))) (zcu9 c n p)))))) (by kernel_rfl) (btf (nn he) (btt rfl (band hw (band hm (btf (node8 he ho) (btt rfl (btt rfl rfl)))))))
theorem t_ta11_4_0 (a b i j n p x y : Int) (l : Cel) (he : HE1 c) (hw : HW2 c) (hm : HM0 c ⟨4, a, b, 11, i, j, n, p, 0, x, y⟩) (ho : HO3 c) : runF zcu0 400 289 [c.av, (⟨4, a, b, 11, i, j, n, p, 0, x, y⟩ : Frm).av, l.av] sp_tau.has false = true := Eq.trans (b := (br (zcu1 c) zcu2 (br (zcu3 c) zcu2 (ba (zcu4 c) (ba (((posF (Frm.mk 4 a b 11 i j n p 0 x y)) && (zcu6 c)) && (f_may_0 (TRa.mk (Frm.mk 4 a b 11 i j n p 0 x y) c (zcu5 c) 2 0 0 Bool.false))) (br (decide ((IntKind.wrap .i64 (IntKind.wrap .u8 (i + 1))) >= (f_count_0 (IntKind.wrap .i64 n) c.8 0))) (br (decide ((IntKind.wrap .u8 c.8) = 0)) false (br (zcu7 c n p) zcu2 zcu2)) zcu2)))))) (by kernel_rfl) (btf (nn he) (btt rfl (band hw (band hm (btt (btf (node8 he ho) (btt rfl rfl)) rfl)))))
theorem t_ta11_4_1 (a b i j n p x y : Int) (l : Cel) (he : HE1 c) (hw : HW2 c) (hm : HM0 c ⟨4, a, b, 11, i, j, n, p, 1, x, y⟩) (ho : HO3 c) : runF zcu0 400 289 [c.av, (⟨4, a, b, 11, i, j, n, p, 1, x, y⟩ : Frm).av, l.av] sp_tau.has false = true := Eq.trans (b := (br (zcu1 c) zcu2 (br (zcu3 c) zcu2 (ba (zcu4 c) (ba (((posF (Frm.mk 4 a b 11 i j n p 1 x y)) && (zcu6 c)) && (f_may_0 (TRa.mk (Frm.mk 4 a b 11 i j n p 1 x y) c (zcu5 c) 2 0 0 Bool.false))) (br (decide ((IntKind.wrap .i64 (IntKind.wrap .u8 (i + 1))) >= (f_count_0 (IntKind.wrap .i64 n) c.8 1))) zcu2 zcu2)))))) (by kernel_rfl) (btf (nn he) (btt rfl (band hw (band hm (btt rfl rfl)))))
theorem t_ta11_5_0 (a b i j n p x y : Int) (l : Cel) (he : HE1 c) (hw : HW2 c) (hm : HM0 c ⟨5, a, b, 11, i, j, n, p, 0, x, y⟩) (ho : HO3 c) : runF zcu0 400 289 [c.av, (⟨5, a, b, 11, i, j, n, p, 0, x, y⟩ : Frm).av, l.av] sp_tau.has false = true := Eq.trans (b := (br (zcu1 c) zcu2 (br (zcu3 c) zcu2 (ba (zcu4 c) (ba (((posF (Frm.mk 5 a b 11 i j n p 0 x y)) && (zcu6 c)) && (f_may_0 (TRa.mk (Frm.mk 5 a b 11 i j n p 0 x y) c (zcu5 c) 2 0 0 Bool.false))) (br (decide ((IntKind.wrap .i64 (IntKind.wrap .u8 (i + 1))) >= (f_count_0 (IntKind.wrap .i64 n) c.8 0))) (br (decide ((f_count_0 (IntKind.wrap .i64 (imin (IntKind.wrap .u8 (n + 1)) (IntKind.wrap .u8 c.7))) c.8 0) > (f_count_0 (IntKind.wrap .i64 n) c.8 0))) zcu2 (zcu9 c n p)) zcu2)))))) (by kernel_rfl) (btf (nn he) (btt rfl (band hw (band hm (btt (btt rfl (btf (node8 he ho) (btt rfl (btt rfl rfl)))) rfl)))))
theorem t_ta11_5_1 (a b i j n p x y : Int) (l : Cel) (he : HE1 c) (hw : HW2 c) (hm : HM0 c ⟨5, a, b, 11, i, j, n, p, 1, x, y⟩) (ho : HO3 c) : runF zcu0 400 289 [c.av, (⟨5, a, b, 11, i, j, n, p, 1, x, y⟩ : Frm).av, l.av] sp_tau.has false = true := Eq.trans (b := (br (zcu1 c) zcu2 (br (zcu3 c) zcu2 (ba (zcu4 c) (ba (((posF (Frm.mk 5 a b 11 i j n p 1 x y)) && (zcu6 c)) && (f_may_0 (TRa.mk (Frm.mk 5 a b 11 i j n p 1 x y) c (zcu5 c) 2 0 0 Bool.false))) (br (decide ((IntKind.wrap .i64 (IntKind.wrap .u8 (i + 1))) >= (f_count_0 (IntKind.wrap .i64 n) c.8 1))) (zcu8 c n) zcu2)))))) (by kernel_rfl) (btf (nn he) (btt rfl (band hw (band hm (btt (btt rfl rfl) rfl)))))
theorem t_ta12_5_0 (a b i j n p x y : Int) (l : Cel) (he : HE1 c) (hw : HW2 c) (hm : HM0 c ⟨5, a, b, 12, i, j, n, p, 0, x, y⟩) (ho : HO3 c) : runF zcu0 400 289 [c.av, (⟨5, a, b, 12, i, j, n, p, 0, x, y⟩ : Frm).av, l.av] sp_tau.has false = true := Eq.trans (b := (br (zcu1 c) zcu2 (br (zcu3 c) zcu2 (ba (zcu4 c) (ba (((posF (Frm.mk 5 a b 12 i j n p 0 x y)) && (zcu6 c)) && (f_may_0 (TRa.mk (Frm.mk 5 a b 12 i j n p 0 x y) c (zcu5 c) 2 0 0 Bool.false))) (zcu9 c n p)))))) (by kernel_rfl) (btf (nn he) (btt rfl (band hw (band hm (btf (node8 he ho) (btt rfl (btt rfl rfl)))))))
theorem t_ta12_5_1 (a b i j n p x y : Int) (l : Cel) (he : HE1 c) (hw : HW2 c) (hm : HM0 c ⟨5, a, b, 12, i, j, n, p, 1, x, y⟩) (ho : HO3 c) : runF zcu0 400 289 [c.av, (⟨5, a, b, 12, i, j, n, p, 1, x, y⟩ : Frm).av, l.av] sp_tau.has false = true := Eq.trans (b := (br (zcu1 c) zcu2 (br (zcu3 c) zcu2 (ba (zcu4 c) (ba (((posF (Frm.mk 5 a b 12 i j n p 1 x y)) && (zcu6 c)) && (f_may_0 (TRa.mk (Frm.mk 5 a b 12 i j n p 1 x y) c (zcu5 c) 2 0 0 Bool.false))) zcu2))))) (by kernel_rfl) (btf (nn he) (btt rfl (band hw (band hm rfl))))
end
theorem run_tau (c : Conf) (f : Frm) (l : Cel) (h : (decide (errC c = 0) && (decide (c.ob = 2) && (levIs c.cap c.node 2 && (((posF f && lvOk [.int .i64 (f_up_0 c.cap c.node 0), .int .i64 (f_up_0 c.cap c.node 1)] 2) && f_may_0 (mkrL c f)) && upPc f.pc)))) = true) : runF zcu0 400 289 [c.av, f.av, l.av] sp_tau.has false = true := by
 simp only [Bool.and_eq_true] at h
 obtain ⟨he, ho, hw, ⟨⟨hp, hv⟩, hmm⟩, hpc⟩ := h
 have hP := may_prop (mkrL c f) hp hv hmm
 have hK := has_kind (mkrL c f) hP.2
 have h0 := (posF_true.1 hp).2.2.2.1
 obtain ⟨kind, a, b, pc, i, j, n, p, hh, x, y⟩ := f
 have hm : ((posF ⟨kind, a, b, pc, i, j, n, p, hh, x, y⟩ && lvOk [.int .i64 (f_up_0 c.cap c.node 0), .int .i64 (f_up_0 c.cap c.node 1)] 2) && f_may_0 (mkrL c ⟨kind, a, b, pc, i, j, n, p, hh, x, y⟩)) = true := by rw [hp, hv, hmm]; rfl
 have h0 : 0 <= hh := h0
 have hlt : hh < 2 := hP.1
 have hK : upK pc kind = true := hK
 rcases upPc_cases hpc with rfl | rfl | rfl
 ·rcases upK_8 hK (.inl rfl) with rfl | rfl
  ·exact t_ta8_4 c a b i j n p hh x y l he hw hm ho
  ·exact t_ta8_5 c a b i j n p hh x y l he hw hm ho
 ·rcases upK_8 hK (.inr rfl) with rfl | rfl
  ·rcases (show hh = 0 \/ hh = 1 by omega) with rfl | rfl
   ·exact t_ta11_4_0 c a b i j n p x y l he hw hm ho
   ·exact t_ta11_4_1 c a b i j n p x y l he hw hm ho
  ·rcases (show hh = 0 \/ hh = 1 by omega) with rfl | rfl
   ·exact t_ta11_5_0 c a b i j n p x y l he hw hm ho
   ·exact t_ta11_5_1 c a b i j n p x y l he hw hm ho
 ·cases upK_12 hK
  rcases (show hh = 0 \/ hh = 1 by omega) with rfl | rfl
  ·exact t_ta12_5_0 c a b i j n p x y l he hw hm ho
  ·exact t_ta12_5_1 c a b i j n p x y l he hw hm ho
theorem s_tau : SumOk Tryz.prog (gmap gs) S_tau := on3_sum fun c f l hp => (acalls_out base (sums_cons s_check (sums_cons s_lev2 (sums_cons s_mayT (sums_cons s_rcnt (sums_cons s_top sums_nil))))) (n := 400) sp_tau (run_tau c f l hp)).mono fun v_ hv_ => hv_.trans (oe_tau c f l)
end
end Go.Bas.BasZTreL2
end
