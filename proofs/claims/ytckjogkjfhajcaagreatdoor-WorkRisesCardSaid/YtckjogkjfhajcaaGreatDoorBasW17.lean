/- Contracts by a run's outcome: the program of an index of 1 levels, on its way up. -/
import Derived.Test.YtckjogkjfhajcaaGreatDoorBasW16
namespace Go.Bas.BasZTreL1
open Go.RowKit Go.Proofs
open Go.Bas.BasZBase Go.Bas.BasZOp Go.Bas.BasZRank Go.Bas.BasZLev Go.Bas.BasZRank3 Go.Bas.BasZOk Go.Bas.BasZTreB Go.Bas.BasZTre Go.Bas.BasZTreN
set_option maxRecDepth 100000
set_option maxHeartbeats 4000000
set_option linter.unusedVariables false
set_option linter.unusedSimpArgs false
noncomputable def mkrL (c : Conf) (f : Frm) : TRa := ⟨f, c, [.int .i64 (f_up_0 c.cap c.node 0)], 1, 0, 0, false⟩
theorem upPc_cases {pc : Int} (h : upPc pc = true) : pc = 8 ∨ pc = 11 ∨ pc = 12 := by
  unfold upPc at h
  simp only [Bool.or_eq_true, decide_eq_true_eq] at h
  exact h
def sp_tau : Sp := sT [sG [sI .u8, sI .u32, sI .u32, sI .u8, sI .u8, sI .u8, sI .u8, sI .u8, sI .u8, sI .u32, sI .u32], sG [sI .u64, sI .u64], sB, sI .i64]
noncomputable def out_tau (c : Conf) (f : Frm) (l : Cel) : AV := outV (cfg [S_check, S_lev1, S_mayT, S_rcnt, S_top]) 400 130 [c.av, f.av, l.av]
noncomputable def f_tau_0 (c : Conf) (f : Frm) (l : Cel) : Int := AV.toI (AV.ix (AV.ix (out_tau c f l) 0) 0)
noncomputable def f_tau_1 (c : Conf) (f : Frm) (l : Cel) : Int := AV.toI (AV.ix (AV.ix (out_tau c f l) 0) 1)
noncomputable def f_tau_2 (c : Conf) (f : Frm) (l : Cel) : Int := AV.toI (AV.ix (AV.ix (out_tau c f l) 0) 2)
noncomputable def f_tau_3 (c : Conf) (f : Frm) (l : Cel) : Int := AV.toI (AV.ix (AV.ix (out_tau c f l) 0) 3)
noncomputable def f_tau_4 (c : Conf) (f : Frm) (l : Cel) : Int := AV.toI (AV.ix (AV.ix (out_tau c f l) 0) 4)
noncomputable def f_tau_5 (c : Conf) (f : Frm) (l : Cel) : Int := AV.toI (AV.ix (AV.ix (out_tau c f l) 0) 5)
noncomputable def f_tau_6 (c : Conf) (f : Frm) (l : Cel) : Int := AV.toI (AV.ix (AV.ix (out_tau c f l) 0) 6)
noncomputable def f_tau_7 (c : Conf) (f : Frm) (l : Cel) : Int := AV.toI (AV.ix (AV.ix (out_tau c f l) 0) 7)
noncomputable def f_tau_8 (c : Conf) (f : Frm) (l : Cel) : Int := AV.toI (AV.ix (AV.ix (out_tau c f l) 0) 8)
noncomputable def f_tau_9 (c : Conf) (f : Frm) (l : Cel) : Int := AV.toI (AV.ix (AV.ix (out_tau c f l) 0) 9)
noncomputable def f_tau_10 (c : Conf) (f : Frm) (l : Cel) : Int := AV.toI (AV.ix (AV.ix (out_tau c f l) 0) 10)
noncomputable def f_tau_11 (c : Conf) (f : Frm) (l : Cel) : Int := AV.toI (AV.ix (AV.ix (out_tau c f l) 1) 0)
noncomputable def f_tau_12 (c : Conf) (f : Frm) (l : Cel) : Int := AV.toI (AV.ix (AV.ix (out_tau c f l) 1) 1)
noncomputable def f_tau_13 (c : Conf) (f : Frm) (l : Cel) : Bool := AV.toB (AV.ix (out_tau c f l) 2)
noncomputable def f_tau_14 (c : Conf) (f : Frm) (l : Cel) : Int := AV.toI (AV.ix (out_tau c f l) 3)
noncomputable def o_tau (c : Conf) (f : Frm) (l : Cel) : AV := .tup [.agg [.int .u8 (f_tau_0 c f l), .int .u32 (f_tau_1 c f l), .int .u32 (f_tau_2 c f l), .int .u8 (f_tau_3 c f l), .int .u8 (f_tau_4 c f l), .int .u8 (f_tau_5 c f l), .int .u8 (f_tau_6 c f l), .int .u8 (f_tau_7 c f l), .int .u8 (f_tau_8 c f l), .int .u32 (f_tau_9 c f l), .int .u32 (f_tau_10 c f l)], .agg [.int .u64 (f_tau_11 c f l), .int .u64 (f_tau_12 c f l)], .bool (f_tau_13 c f l), .int .i64 (f_tau_14 c f l)]
noncomputable def S_tau : Sum := (130, on3 rConf rFrm rCel (fun c f l => (decide (errC c = 0) && (decide (c.ob = 2) && (levIs c.cap c.node 1 && (((posF f && lvOk [.int .i64 (f_up_0 c.cap c.node 0)] 1) && f_may_0 (mkrL c f)) && upPc f.pc))))) (fun c f l => o_tau c f l))
theorem bd_tau (v : AV) : sp_tau.bd v = .tup [.agg [.int .u8 (AV.toI (AV.ix (AV.ix v 0) 0)), .int .u32 (AV.toI (AV.ix (AV.ix v 0) 1)), .int .u32 (AV.toI (AV.ix (AV.ix v 0) 2)), .int .u8 (AV.toI (AV.ix (AV.ix v 0) 3)), .int .u8 (AV.toI (AV.ix (AV.ix v 0) 4)), .int .u8 (AV.toI (AV.ix (AV.ix v 0) 5)), .int .u8 (AV.toI (AV.ix (AV.ix v 0) 6)), .int .u8 (AV.toI (AV.ix (AV.ix v 0) 7)), .int .u8 (AV.toI (AV.ix (AV.ix v 0) 8)), .int .u32 (AV.toI (AV.ix (AV.ix v 0) 9)), .int .u32 (AV.toI (AV.ix (AV.ix v 0) 10))], .agg [.int .u64 (AV.toI (AV.ix (AV.ix v 1) 0)), .int .u64 (AV.toI (AV.ix (AV.ix v 1) 1))], .bool (AV.toB (AV.ix v 2)), .int .i64 (AV.toI (AV.ix v 3))] := rfl
theorem oe_tau (c : Conf) (f : Frm) (l : Cel) : sp_tau.bd (out_tau c f l) = o_tau c f l := (bd_tau _).trans (by unfold o_tau f_tau_0 f_tau_1 f_tau_2 f_tau_3 f_tau_4 f_tau_5 f_tau_6 f_tau_7 f_tau_8 f_tau_9 f_tau_10 f_tau_11 f_tau_12 f_tau_13 f_tau_14; rfl)
theorem t_ta8_4 (c : Conf) (a b i j n p h x y : Int) (l : Cel) (he : decide (errC c = 0) = true) (hw : levIs c.cap c.node 1 = true) (hm : ((posF (⟨4, a, b, 8, i, j, n, p, h, x, y⟩ : Frm) && lvOk [.int .i64 (f_up_0 c.cap c.node 0)] 1) && f_may_0 (mkrL c (⟨4, a, b, 8, i, j, n, p, h, x, y⟩ : Frm))) = true) (ho : decide (c.ob = 2) = true) : runF (cfg [S_check, S_lev1, S_mayT, S_rcnt, S_top]) 400 130 [c.av, (⟨4, a, b, 8, i, j, n, p, h, x, y⟩ : Frm).av, l.av] sp_tau.has false = true := Eq.trans (b := (br ((!decide ((errC c) = 0))) (true) ((br ((!decide (c.1 = 2))) (true) ((ba ((BasZLev.levIs c.7 c.8 1)) ((ba ((((posF (Frm.mk 4 a b 8 i j n p h x y)) && (lvOk [(AV.int .i64 (f_up_0 c.7 c.8 0))] 1)) && (f_may_0 (TRa.mk (Frm.mk 4 a b 8 i j n p h x y) c [(AV.int .i64 (f_up_0 c.7 c.8 0))] 1 0 0 Bool.false)))) (true))))))))) (by kernel_rfl) (btf (nn he) (btt rfl (band hw (band hm rfl))))
theorem t_ta8_5 (c : Conf) (a b i j n p h x y : Int) (l : Cel) (he : decide (errC c = 0) = true) (hw : levIs c.cap c.node 1 = true) (hm : ((posF (⟨5, a, b, 8, i, j, n, p, h, x, y⟩ : Frm) && lvOk [.int .i64 (f_up_0 c.cap c.node 0)] 1) && f_may_0 (mkrL c (⟨5, a, b, 8, i, j, n, p, h, x, y⟩ : Frm))) = true) (ho : decide (c.ob = 2) = true) : runF (cfg [S_check, S_lev1, S_mayT, S_rcnt, S_top]) 400 130 [c.av, (⟨5, a, b, 8, i, j, n, p, h, x, y⟩ : Frm).av, l.av] sp_tau.has false = true := Eq.trans (b := (br ((!decide ((errC c) = 0))) (true) ((br ((!decide (c.1 = 2))) (true) ((ba ((BasZLev.levIs c.7 c.8 1)) ((ba ((((posF (Frm.mk 5 a b 8 i j n p h x y)) && (lvOk [(AV.int .i64 (f_up_0 c.7 c.8 0))] 1)) && (f_may_0 (TRa.mk (Frm.mk 5 a b 8 i j n p h x y) c [(AV.int .i64 (f_up_0 c.7 c.8 0))] 1 0 0 Bool.false)))) (true))))))))) (by kernel_rfl) (btf (nn he) (btt rfl (band hw (band hm rfl))))
theorem t_ta11_4_0 (c : Conf) (a b i j n p x y : Int) (l : Cel) (he : decide (errC c = 0) = true) (hw : levIs c.cap c.node 1 = true) (hm : ((posF (⟨4, a, b, 11, i, j, n, p, 0, x, y⟩ : Frm) && lvOk [.int .i64 (f_up_0 c.cap c.node 0)] 1) && f_may_0 (mkrL c (⟨4, a, b, 11, i, j, n, p, 0, x, y⟩ : Frm))) = true) (ho : decide (c.ob = 2) = true) : runF (cfg [S_check, S_lev1, S_mayT, S_rcnt, S_top]) 400 130 [c.av, (⟨4, a, b, 11, i, j, n, p, 0, x, y⟩ : Frm).av, l.av] sp_tau.has false = true := Eq.trans (b := (br ((!decide ((errC c) = 0))) (true) ((br ((!decide (c.1 = 2))) (true) ((ba ((BasZLev.levIs c.7 c.8 1)) ((ba ((((posF (Frm.mk 4 a b 11 i j n p 0 x y)) && (lvOk [(AV.int .i64 (f_up_0 c.7 c.8 0))] 1)) && (f_may_0 (TRa.mk (Frm.mk 4 a b 11 i j n p 0 x y) c [(AV.int .i64 (f_up_0 c.7 c.8 0))] 1 0 0 Bool.false)))) ((br (decide ((IntKind.wrap .i64 (IntKind.wrap .u8 (i + 1))) ≥ (f_count_0 (IntKind.wrap .i64 n) c.8 0))) (true) (true))))))))))) (by kernel_rfl) (btf (nn he) (btt rfl (band hw (band hm (btt rfl rfl)))))
theorem t_ta11_5_0 (c : Conf) (a b i j n p x y : Int) (l : Cel) (he : decide (errC c = 0) = true) (hw : levIs c.cap c.node 1 = true) (hm : ((posF (⟨5, a, b, 11, i, j, n, p, 0, x, y⟩ : Frm) && lvOk [.int .i64 (f_up_0 c.cap c.node 0)] 1) && f_may_0 (mkrL c (⟨5, a, b, 11, i, j, n, p, 0, x, y⟩ : Frm))) = true) (ho : decide (c.ob = 2) = true) : runF (cfg [S_check, S_lev1, S_mayT, S_rcnt, S_top]) 400 130 [c.av, (⟨5, a, b, 11, i, j, n, p, 0, x, y⟩ : Frm).av, l.av] sp_tau.has false = true := Eq.trans (b := (br ((!decide ((errC c) = 0))) (true) ((br ((!decide (c.1 = 2))) (true) ((ba ((BasZLev.levIs c.7 c.8 1)) ((ba ((((posF (Frm.mk 5 a b 11 i j n p 0 x y)) && (lvOk [(AV.int .i64 (f_up_0 c.7 c.8 0))] 1)) && (f_may_0 (TRa.mk (Frm.mk 5 a b 11 i j n p 0 x y) c [(AV.int .i64 (f_up_0 c.7 c.8 0))] 1 0 0 Bool.false)))) ((br (decide ((IntKind.wrap .i64 (IntKind.wrap .u8 (i + 1))) ≥ (f_count_0 (IntKind.wrap .i64 n) c.8 0))) ((br (decide ((f_count_0 (IntKind.wrap .i64 (imin (IntKind.wrap .u8 (n + 1)) (IntKind.wrap .u8 c.7))) c.8 0) > (f_count_0 (IntKind.wrap .i64 n) c.8 0))) (true) (true))) (true))))))))))) (by kernel_rfl) (btf (nn he) (btt rfl (band hw (band hm (btt (btt rfl rfl) rfl)))))
theorem t_ta12_5_0 (c : Conf) (a b i j n p x y : Int) (l : Cel) (he : decide (errC c = 0) = true) (hw : levIs c.cap c.node 1 = true) (hm : ((posF (⟨5, a, b, 12, i, j, n, p, 0, x, y⟩ : Frm) && lvOk [.int .i64 (f_up_0 c.cap c.node 0)] 1) && f_may_0 (mkrL c (⟨5, a, b, 12, i, j, n, p, 0, x, y⟩ : Frm))) = true) (ho : decide (c.ob = 2) = true) : runF (cfg [S_check, S_lev1, S_mayT, S_rcnt, S_top]) 400 130 [c.av, (⟨5, a, b, 12, i, j, n, p, 0, x, y⟩ : Frm).av, l.av] sp_tau.has false = true := Eq.trans (b := (br ((!decide ((errC c) = 0))) (true) ((br ((!decide (c.1 = 2))) (true) ((ba ((BasZLev.levIs c.7 c.8 1)) ((ba ((((posF (Frm.mk 5 a b 12 i j n p 0 x y)) && (lvOk [(AV.int .i64 (f_up_0 c.7 c.8 0))] 1)) && (f_may_0 (TRa.mk (Frm.mk 5 a b 12 i j n p 0 x y) c [(AV.int .i64 (f_up_0 c.7 c.8 0))] 1 0 0 Bool.false)))) (true))))))))) (by kernel_rfl) (btf (nn he) (btt rfl (band hw (band hm rfl))))
theorem run_tau (c : Conf) (f : Frm) (l : Cel) (h : (decide (errC c = 0) && (decide (c.ob = 2) && (levIs c.cap c.node 1 && (((posF f && lvOk [.int .i64 (f_up_0 c.cap c.node 0)] 1) && f_may_0 (mkrL c f)) && upPc f.pc)))) = true) : runF (cfg [S_check, S_lev1, S_mayT, S_rcnt, S_top]) 400 130 [c.av, f.av, l.av] sp_tau.has false = true := by
  simp only [Bool.and_eq_true] at h
  obtain ⟨he, ho, hw, ⟨⟨hp, hv⟩, hmm⟩, hpc⟩ := h
  have hP := may_prop (mkrL c f) hp hv hmm
  have hK := has_kind (mkrL c f) hP.2
  have h0 := (posF_true.1 hp).2.2.2.1
  obtain ⟨kind, a, b, pc, i, j, n, p, hh, x, y⟩ := f
  have hm : ((posF ⟨kind, a, b, pc, i, j, n, p, hh, x, y⟩ && lvOk [.int .i64 (f_up_0 c.cap c.node 0)] 1) && f_may_0 (mkrL c ⟨kind, a, b, pc, i, j, n, p, hh, x, y⟩)) = true := by rw [hp, hv, hmm]; rfl
  have h0 : 0 ≤ hh := h0
  have hlt : hh < 1 := hP.1
  have hK : upK pc kind = true := hK
  rcases upPc_cases hpc with rfl | rfl | rfl
  · rcases upK_8 hK (.inl rfl) with rfl | rfl
    · exact t_ta8_4 c a b i j n p hh x y l he hw hm ho
    · exact t_ta8_5 c a b i j n p hh x y l he hw hm ho
  · rcases upK_8 hK (.inr rfl) with rfl | rfl
    · rcases (show hh = 0 by omega) with rfl
      · exact t_ta11_4_0 c a b i j n p x y l he hw hm ho
    · rcases (show hh = 0 by omega) with rfl
      · exact t_ta11_5_0 c a b i j n p x y l he hw hm ho
  · cases upK_12 hK
    rcases (show hh = 0 by omega) with rfl
    · exact t_ta12_5_0 c a b i j n p x y l he hw hm ho

theorem s_tau : SumOk Tryz.prog (gmap gs) S_tau := on3_sum fun c f l hp => (acalls_out base (sums_cons s_check (sums_cons s_lev1 (sums_cons s_mayT (sums_cons s_rcnt (sums_cons s_top sums_nil))))) (n := 400) sp_tau (run_tau c f l hp)).mono fun w hw => hw.trans (oe_tau c f l)
end Go.Bas.BasZTreL1
