/- Contracts by a run's outcome: the program of an index of 3 levels, on its way up. -/
import Derived.Test.YtjepofcbkojibaaGreatDoorBasW17
set_option maxRecDepth 100000
set_option maxHeartbeats 4000000
set_option linter.unusedVariables false
set_option linter.unusedSimpArgs false
namespace Go.Bas.BasZTreL3
noncomputable section
open Go.RowKit Go.Proofs
open BasZBase BasZOp BasZRank BasZLev BasZRank3 BasZOk BasZTreB BasZTre BasZTreN
def mkrL (c : Conf) (f : Frm) : TRa := ⟨f, c, [.int .i64 (f_up_0 c.cap c.node 0), .int .i64 (f_up_0 c.cap c.node 1), .int .i64 (f_up_0 c.cap c.node 2)], 3, 0, 0, false⟩
theorem upPc_cases {pc : Int} (h : upPc pc = true) : pc = 8 \/ pc = 11 \/ pc = 12 := by
 unfold upPc at h
 simp only [Bool.or_eq_true, decide_eq_true_eq] at h
 exact h
def sp_tau : Sp := sT [sG [sI .u8, sI .u32, sI .u32, sI .u8, sI .u8, sI .u8, sI .u8, sI .u8, sI .u8, sI .u32, sI .u32], sG [sI .u64, sI .u64], sB, sI .i64]
section
variable (c : Conf) (f : Frm) (l : Cel)
def out_tau : AV := outV (cfg [S_check, S_lev3, S_mayT, S_rcnt, S_top]) 400 289 [c.av, f.av, l.av]
def f_tau_0 : Int := AV.toI (AV.ix (AV.ix (out_tau c f l) 0) 0)
def f_tau_1 : Int := AV.toI (AV.ix (AV.ix (out_tau c f l) 0) 1)
def f_tau_2 : Int := AV.toI (AV.ix (AV.ix (out_tau c f l) 0) 2)
def f_tau_3 : Int := AV.toI (AV.ix (AV.ix (out_tau c f l) 0) 3)
def f_tau_4 : Int := AV.toI (AV.ix (AV.ix (out_tau c f l) 0) 4)
def f_tau_5 : Int := AV.toI (AV.ix (AV.ix (out_tau c f l) 0) 5)
def f_tau_6 : Int := AV.toI (AV.ix (AV.ix (out_tau c f l) 0) 6)
def f_tau_7 : Int := AV.toI (AV.ix (AV.ix (out_tau c f l) 0) 7)
def f_tau_8 : Int := AV.toI (AV.ix (AV.ix (out_tau c f l) 0) 8)
def f_tau_9 : Int := AV.toI (AV.ix (AV.ix (out_tau c f l) 0) 9)
def f_tau_10 : Int := AV.toI (AV.ix (AV.ix (out_tau c f l) 0) 10)
def f_tau_11 : Int := AV.toI (AV.ix (AV.ix (out_tau c f l) 1) 0)
def f_tau_12 : Int := AV.toI (AV.ix (AV.ix (out_tau c f l) 1) 1)
def f_tau_13 : Bool := AV.toB (AV.ix (out_tau c f l) 2)
def f_tau_14 : Int := AV.toI (AV.ix (out_tau c f l) 3)
def o_tau : AV := .tup [.agg [.int .u8 (f_tau_0 c f l), .int .u32 (f_tau_1 c f l), .int .u32 (f_tau_2 c f l), .int .u8 (f_tau_3 c f l), .int .u8 (f_tau_4 c f l), .int .u8 (f_tau_5 c f l), .int .u8 (f_tau_6 c f l), .int .u8 (f_tau_7 c f l), .int .u8 (f_tau_8 c f l), .int .u32 (f_tau_9 c f l), .int .u32 (f_tau_10 c f l)], .agg [.int .u64 (f_tau_11 c f l), .int .u64 (f_tau_12 c f l)], .bool (f_tau_13 c f l), .int .i64 (f_tau_14 c f l)]
end
def S_tau : Sum := (289, on3 rConf rFrm rCel (fun c f l => (decide (errC c = 0) && (decide (c.ob = 2) && (levIs c.cap c.node 3 && (((posF f && lvOk [.int .i64 (f_up_0 c.cap c.node 0), .int .i64 (f_up_0 c.cap c.node 1), .int .i64 (f_up_0 c.cap c.node 2)] 3) && f_may_0 (mkrL c f)) && upPc f.pc))))) (fun c f l => o_tau c f l))
theorem oe_tau (c : Conf) (f : Frm) (l : Cel) : sp_tau.bd (out_tau c f l) = o_tau c f l := by kernel_rfl
abbrev HM0 (c : Conf) (f : Frm) : Prop := ((posF f && lvOk [.int .i64 (f_up_0 c.cap c.node 0), .int .i64 (f_up_0 c.cap c.node 1), .int .i64 (f_up_0 c.cap c.node 2)] 3) && f_may_0 (mkrL c f)) = true
abbrev HE1 (c : Conf) : Prop := decide (errC c = 0) = true
abbrev HW2 (c : Conf) : Prop := levIs c.cap c.node 3 = true
abbrev HO3 (c : Conf) : Prop := decide (c.ob = 2) = true
abbrev zcv0 := cfg [S_check, S_lev3, S_mayT, S_rcnt, S_top]
abbrev zcv1 (c : Conf) := !decide ((errC c) = 0)
abbrev zcv2 := true
abbrev zcv3 (c : Conf) := !decide (c.1 = 2)
abbrev zcv4 (c : Conf) := BasZLev.levIs c.7 c.8 3
abbrev zcv5 (c : Conf) : List AV := [.int .i64 (f_up_0 c.7 c.8 0), .int .i64 (f_up_0 c.7 c.8 1), .int .i64 (f_up_0 c.7 c.8 2)]
abbrev zcv6 (c : Conf) := lvOk (zcv5 c) 3
abbrev zcv7 (c : Conf) := decide ((IntKind.wrap .u8 c.8) = 0)
abbrev zcv8 (c : Conf) (n : Int) (p : Int) := decide ((IntKind.wrap .i64 (IntKind.wrap .u8 (Int.tdiv p (IntKind.wrap .u8 c.8)))) < (f_count_0 (IntKind.wrap .i64 n) c.8 1))
abbrev zcv9 (c : Conf) (n : Int) (p : Int) := decide ((IntKind.wrap .i64 (IntKind.wrap .u8 (Int.tdiv (IntKind.wrap .u8 (Int.tdiv p (IntKind.wrap .u8 c.8))) (IntKind.wrap .u8 c.8)))) < (f_count_0 (IntKind.wrap .i64 n) c.8 2))
abbrev zcv10 (c : Conf) (n : Int) (p : Int) : Bool := br (zcv7 c) false (br (zcv8 c n p) zcv2 (br (zcv7 c) false (br (zcv7 c) false (br (zcv9 c n p) zcv2 zcv2))))
theorem t_ta8_4 (c : Conf) (a b i j n p h x y : Int) (l : Cel) (he : HE1 c) (hw : HW2 c) (hm : HM0 c ⟨4, a, b, 8, i, j, n, p, h, x, y⟩) (ho : HO3 c) : runF zcv0 400 289 [c.av, (⟨4, a, b, 8, i, j, n, p, h, x, y⟩ : Frm).av, l.av] sp_tau.has false = true := Eq.trans (b := (br (zcv1 c) zcv2 (br (zcv3 c) zcv2 (ba (zcv4 c) (ba (((posF (Frm.mk 4 a b 8 i j n p h x y)) && (zcv6 c)) && (f_may_0 (TRa.mk (Frm.mk 4 a b 8 i j n p h x y) c (zcv5 c) 3 0 0 Bool.false))) (zcv10 c n p)))))) (by kernel_rfl) (btf (nn he) (btt rfl (band hw (band hm (btf (node8 he ho) (btt rfl (btf (node8 he ho) (btf (node8 he ho) (btt rfl rfl)))))))))
abbrev zcv11 (c : Conf) (n : Int) := IntKind.wrap .i64 (imin (IntKind.wrap .u8 (n + 1)) (IntKind.wrap .u8 c.7))
abbrev zcv12 (c : Conf) (n : Int) : Bool := br (decide ((f_count_0 (zcv11 c n) c.8 2) > (f_count_0 (IntKind.wrap .i64 n) c.8 2))) zcv2 zcv2
abbrev zcv13 (c : Conf) (n : Int) (p : Int) : Bool := br (decide ((f_count_0 (zcv11 c n) c.8 1) > (f_count_0 (IntKind.wrap .i64 n) c.8 1))) zcv2 (br (zcv7 c) false (br (zcv7 c) false (br (zcv9 c n p) zcv2 (zcv12 c n))))
theorem t_ta8_5 (c : Conf) (a b i j n p h x y : Int) (l : Cel) (he : HE1 c) (hw : HW2 c) (hm : HM0 c ⟨5, a, b, 8, i, j, n, p, h, x, y⟩) (ho : HO3 c) : runF zcv0 400 289 [c.av, (⟨5, a, b, 8, i, j, n, p, h, x, y⟩ : Frm).av, l.av] sp_tau.has false = true := Eq.trans (b := (br (zcv1 c) zcv2 (br (zcv3 c) zcv2 (ba (zcv4 c) (ba (((posF (Frm.mk 5 a b 8 i j n p h x y)) && (zcv6 c)) && (f_may_0 (TRa.mk (Frm.mk 5 a b 8 i j n p h x y) c (zcv5 c) 3 0 0 Bool.false))) (br (zcv7 c) false (br (zcv8 c n p) zcv2 (zcv13 c n p)))))))) (by kernel_rfl) (btf (nn he) (btt rfl (band hw (band hm (btf (node8 he ho) (btt rfl (btt rfl (btf (node8 he ho) (btf (node8 he ho) (btt rfl (btt rfl rfl)))))))))))
abbrev zcv14 (i : Int) := IntKind.wrap .i64 (IntKind.wrap .u8 (i + 1))
section
variable (c : Conf) (a b i j n p x y : Int) (l : Cel)
theorem t_ta11_4_0 (he : HE1 c) (hw : HW2 c) (hm : HM0 c ⟨4, a, b, 11, i, j, n, p, 0, x, y⟩) (ho : HO3 c) : runF zcv0 400 289 [c.av, (⟨4, a, b, 11, i, j, n, p, 0, x, y⟩ : Frm).av, l.av] sp_tau.has false = true := Eq.trans (b := (br (zcv1 c) zcv2 (br (zcv3 c) zcv2 (ba (zcv4 c) (ba (((posF (Frm.mk 4 a b 11 i j n p 0 x y)) && (zcv6 c)) && (f_may_0 (TRa.mk (Frm.mk 4 a b 11 i j n p 0 x y) c (zcv5 c) 3 0 0 Bool.false))) (br (decide ((zcv14 i) >= (f_count_0 (IntKind.wrap .i64 n) c.8 0))) (zcv10 c n p) zcv2)))))) (by kernel_rfl) (btf (nn he) (btt rfl (band hw (band hm (btt (btf (node8 he ho) (btt rfl (btf (node8 he ho) (btf (node8 he ho) (btt rfl rfl))))) rfl)))))
theorem t_ta11_4_1 (he : HE1 c) (hw : HW2 c) (hm : HM0 c ⟨4, a, b, 11, i, j, n, p, 1, x, y⟩) (ho : HO3 c) : runF zcv0 400 289 [c.av, (⟨4, a, b, 11, i, j, n, p, 1, x, y⟩ : Frm).av, l.av] sp_tau.has false = true := Eq.trans (b := (br (zcv1 c) zcv2 (br (zcv3 c) zcv2 (ba (zcv4 c) (ba (((posF (Frm.mk 4 a b 11 i j n p 1 x y)) && (zcv6 c)) && (f_may_0 (TRa.mk (Frm.mk 4 a b 11 i j n p 1 x y) c (zcv5 c) 3 0 0 Bool.false))) (br (decide ((zcv14 i) >= (f_count_0 (IntKind.wrap .i64 n) c.8 1))) (br (zcv7 c) false (br (zcv7 c) false (br (zcv9 c n p) zcv2 zcv2))) zcv2)))))) (by kernel_rfl) (btf (nn he) (btt rfl (band hw (band hm (btt (btf (node8 he ho) (btf (node8 he ho) (btt rfl rfl))) rfl)))))
theorem t_ta11_4_2 (he : HE1 c) (hw : HW2 c) (hm : HM0 c ⟨4, a, b, 11, i, j, n, p, 2, x, y⟩) (ho : HO3 c) : runF zcv0 400 289 [c.av, (⟨4, a, b, 11, i, j, n, p, 2, x, y⟩ : Frm).av, l.av] sp_tau.has false = true := Eq.trans (b := (br (zcv1 c) zcv2 (br (zcv3 c) zcv2 (ba (zcv4 c) (ba (((posF (Frm.mk 4 a b 11 i j n p 2 x y)) && (zcv6 c)) && (f_may_0 (TRa.mk (Frm.mk 4 a b 11 i j n p 2 x y) c (zcv5 c) 3 0 0 Bool.false))) (br (decide ((zcv14 i) >= (f_count_0 (IntKind.wrap .i64 n) c.8 2))) zcv2 zcv2)))))) (by kernel_rfl) (btf (nn he) (btt rfl (band hw (band hm (btt rfl rfl)))))
theorem t_ta11_5_0 (he : HE1 c) (hw : HW2 c) (hm : HM0 c ⟨5, a, b, 11, i, j, n, p, 0, x, y⟩) (ho : HO3 c) : runF zcv0 400 289 [c.av, (⟨5, a, b, 11, i, j, n, p, 0, x, y⟩ : Frm).av, l.av] sp_tau.has false = true := Eq.trans (b := (br (zcv1 c) zcv2 (br (zcv3 c) zcv2 (ba (zcv4 c) (ba (((posF (Frm.mk 5 a b 11 i j n p 0 x y)) && (zcv6 c)) && (f_may_0 (TRa.mk (Frm.mk 5 a b 11 i j n p 0 x y) c (zcv5 c) 3 0 0 Bool.false))) (br (decide ((zcv14 i) >= (f_count_0 (IntKind.wrap .i64 n) c.8 0))) (br (decide ((f_count_0 (zcv11 c n) c.8 0) > (f_count_0 (IntKind.wrap .i64 n) c.8 0))) zcv2 (br (zcv7 c) false (br (zcv8 c n p) zcv2 (zcv13 c n p)))) zcv2)))))) (by kernel_rfl) (btf (nn he) (btt rfl (band hw (band hm (btt (btt rfl (btf (node8 he ho) (btt rfl (btt rfl (btf (node8 he ho) (btf (node8 he ho) (btt rfl (btt rfl rfl)))))))) rfl)))))
theorem t_ta11_5_1 (he : HE1 c) (hw : HW2 c) (hm : HM0 c ⟨5, a, b, 11, i, j, n, p, 1, x, y⟩) (ho : HO3 c) : runF zcv0 400 289 [c.av, (⟨5, a, b, 11, i, j, n, p, 1, x, y⟩ : Frm).av, l.av] sp_tau.has false = true := Eq.trans (b := (br (zcv1 c) zcv2 (br (zcv3 c) zcv2 (ba (zcv4 c) (ba (((posF (Frm.mk 5 a b 11 i j n p 1 x y)) && (zcv6 c)) && (f_may_0 (TRa.mk (Frm.mk 5 a b 11 i j n p 1 x y) c (zcv5 c) 3 0 0 Bool.false))) (br (decide ((zcv14 i) >= (f_count_0 (IntKind.wrap .i64 n) c.8 1))) (zcv13 c n p) zcv2)))))) (by kernel_rfl) (btf (nn he) (btt rfl (band hw (band hm (btt (btt rfl (btf (node8 he ho) (btf (node8 he ho) (btt rfl (btt rfl rfl))))) rfl)))))
theorem t_ta11_5_2 (he : HE1 c) (hw : HW2 c) (hm : HM0 c ⟨5, a, b, 11, i, j, n, p, 2, x, y⟩) (ho : HO3 c) : runF zcv0 400 289 [c.av, (⟨5, a, b, 11, i, j, n, p, 2, x, y⟩ : Frm).av, l.av] sp_tau.has false = true := Eq.trans (b := (br (zcv1 c) zcv2 (br (zcv3 c) zcv2 (ba (zcv4 c) (ba (((posF (Frm.mk 5 a b 11 i j n p 2 x y)) && (zcv6 c)) && (f_may_0 (TRa.mk (Frm.mk 5 a b 11 i j n p 2 x y) c (zcv5 c) 3 0 0 Bool.false))) (br (decide ((zcv14 i) >= (f_count_0 (IntKind.wrap .i64 n) c.8 2))) (zcv12 c n) zcv2)))))) (by kernel_rfl) (btf (nn he) (btt rfl (band hw (band hm (btt (btt rfl rfl) rfl)))))
theorem t_ta12_5_0 (he : HE1 c) (hw : HW2 c) (hm : HM0 c ⟨5, a, b, 12, i, j, n, p, 0, x, y⟩) (ho : HO3 c) : runF zcv0 400 289 [c.av, (⟨5, a, b, 12, i, j, n, p, 0, x, y⟩ : Frm).av, l.av] sp_tau.has false = true := Eq.trans (b := (br (zcv1 c) zcv2 (br (zcv3 c) zcv2 (ba (zcv4 c) (ba (((posF (Frm.mk 5 a b 12 i j n p 0 x y)) && (zcv6 c)) && (f_may_0 (TRa.mk (Frm.mk 5 a b 12 i j n p 0 x y) c (zcv5 c) 3 0 0 Bool.false))) (br (zcv7 c) false (br (zcv8 c n p) zcv2 (zcv13 c n p)))))))) (by kernel_rfl) (btf (nn he) (btt rfl (band hw (band hm (btf (node8 he ho) (btt rfl (btt rfl (btf (node8 he ho) (btf (node8 he ho) (btt rfl (btt rfl rfl)))))))))))
theorem t_ta12_5_1 (he : HE1 c) (hw : HW2 c) (hm : HM0 c ⟨5, a, b, 12, i, j, n, p, 1, x, y⟩) (ho : HO3 c) : runF zcv0 400 289 [c.av, (⟨5, a, b, 12, i, j, n, p, 1, x, y⟩ : Frm).av, l.av] sp_tau.has false = true := Eq.trans (b := (br (zcv1 c) zcv2 (br (zcv3 c) zcv2 (ba (zcv4 c) (ba (((posF (Frm.mk 5 a b 12 i j n p 1 x y)) && (zcv6 c)) && (f_may_0 (TRa.mk (Frm.mk 5 a b 12 i j n p 1 x y) c (zcv5 c) 3 0 0 Bool.false))) (br (zcv7 c) false (br (zcv7 c) false (br (zcv9 c n p) zcv2 (zcv12 c n))))))))) (by kernel_rfl) (btf (nn he) (btt rfl (band hw (band hm (btf (node8 he ho) (btf (node8 he ho) (btt rfl (btt rfl rfl))))))))
theorem t_ta12_5_2 (he : HE1 c) (hw : HW2 c) (hm : HM0 c ⟨5, a, b, 12, i, j, n, p, 2, x, y⟩) (ho : HO3 c) : runF zcv0 400 289 [c.av, (⟨5, a, b, 12, i, j, n, p, 2, x, y⟩ : Frm).av, l.av] sp_tau.has false = true := Eq.trans (b := (br (zcv1 c) zcv2 (br (zcv3 c) zcv2 (ba (zcv4 c) (ba (((posF (Frm.mk 5 a b 12 i j n p 2 x y)) && (zcv6 c)) && (f_may_0 (TRa.mk (Frm.mk 5 a b 12 i j n p 2 x y) c (zcv5 c) 3 0 0 Bool.false))) zcv2))))) (by kernel_rfl) (btf (nn he) (btt rfl (band hw (band hm rfl))))
end
theorem run_tau (c : Conf) (f : Frm) (l : Cel) (h : (decide (errC c = 0) && (decide (c.ob = 2) && (levIs c.cap c.node 3 && (((posF f && lvOk [.int .i64 (f_up_0 c.cap c.node 0), .int .i64 (f_up_0 c.cap c.node 1), .int .i64 (f_up_0 c.cap c.node 2)] 3) && f_may_0 (mkrL c f)) && upPc f.pc)))) = true) : runF zcv0 400 289 [c.av, f.av, l.av] sp_tau.has false = true := by
 simp only [Bool.and_eq_true] at h
 obtain ⟨he, ho, hw, ⟨⟨hp, hv⟩, hmm⟩, hpc⟩ := h
 have hP := may_prop (mkrL c f) hp hv hmm
 have hK := has_kind (mkrL c f) hP.2
 have h0 := (posF_true.1 hp).2.2.2.1
 obtain ⟨kind, a, b, pc, i, j, n, p, hh, x, y⟩ := f
 have hm : ((posF ⟨kind, a, b, pc, i, j, n, p, hh, x, y⟩ && lvOk [.int .i64 (f_up_0 c.cap c.node 0), .int .i64 (f_up_0 c.cap c.node 1), .int .i64 (f_up_0 c.cap c.node 2)] 3) && f_may_0 (mkrL c ⟨kind, a, b, pc, i, j, n, p, hh, x, y⟩)) = true := by rw [hp, hv, hmm]; rfl
 have h0 : 0 <= hh := h0
 have hlt : hh < 3 := hP.1
 have hK : upK pc kind = true := hK
 rcases upPc_cases hpc with rfl | rfl | rfl
 ·rcases upK_8 hK (.inl rfl) with rfl | rfl
  ·exact t_ta8_4 c a b i j n p hh x y l he hw hm ho
  ·exact t_ta8_5 c a b i j n p hh x y l he hw hm ho
 ·rcases upK_8 hK (.inr rfl) with rfl | rfl
  ·rcases (show hh = 0 \/ hh = 1 \/ hh = 2 by omega) with rfl | rfl | rfl
   ·exact t_ta11_4_0 c a b i j n p x y l he hw hm ho
   ·exact t_ta11_4_1 c a b i j n p x y l he hw hm ho
   ·exact t_ta11_4_2 c a b i j n p x y l he hw hm ho
  ·rcases (show hh = 0 \/ hh = 1 \/ hh = 2 by omega) with rfl | rfl | rfl
   ·exact t_ta11_5_0 c a b i j n p x y l he hw hm ho
   ·exact t_ta11_5_1 c a b i j n p x y l he hw hm ho
   ·exact t_ta11_5_2 c a b i j n p x y l he hw hm ho
 ·cases upK_12 hK
  rcases (show hh = 0 \/ hh = 1 \/ hh = 2 by omega) with rfl | rfl | rfl
  ·exact t_ta12_5_0 c a b i j n p x y l he hw hm ho
  ·exact t_ta12_5_1 c a b i j n p x y l he hw hm ho
  ·exact t_ta12_5_2 c a b i j n p x y l he hw hm ho
theorem s_tau : SumOk Tryz.prog (gmap gs) S_tau := on3_sum fun c f l hp => (acalls_out base (sums_cons s_check (sums_cons s_lev3 (sums_cons s_mayT (sums_cons s_rcnt (sums_cons s_top sums_nil))))) (n := 400) sp_tau (run_tau c f l hp)).mono fun v_ hv_ => hv_.trans (oe_tau c f l)
end
end Go.Bas.BasZTreL3
