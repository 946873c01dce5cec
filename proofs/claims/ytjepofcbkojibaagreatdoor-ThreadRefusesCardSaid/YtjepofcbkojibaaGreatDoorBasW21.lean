/- The program of an index answers always, where frames' numbers are such asv their types have; Contracts by a run's outcome: the programs of all four objects. -/
import Derived.Test.YtjepofcbkojibaaGreatDoorBasW15
import Derived.Test.YtjepofcbkojibaaGreatDoorBasW17
import Derived.Test.YtjepofcbkojibaaGreatDoorBasW18
import Derived.Test.YtjepofcbkojibaaGreatDoorBasW19
import Derived.Test.YtjepofcbkojibaaGreatDoorBasW20
set_option maxRecDepth 100000
set_option maxHeartbeats 4000000
set_option linter.unusedVariables false
set_option linter.unusedSimpArgs false
section
namespace Go.Bas.BasZTreC
noncomputable section
open Go.RowKit Go.Proofs BasZBase BasZRank BasZLev BasZRank3 BasZOk BasZTreB BasZTre BasZTreN
def good (c : Conf) : Bool := decide (errC c = 0) && decide (c.ob = 2)
def mayB (c : Conf) (f : Frm) : Bool := f_may_0 (mkr c f)
theorem good_of {c : Conf} (h : good c = true) : decide (errC c = 0) = true /\ decide (c.ob = 2) = true := by
 unfold good at h
 rw [Bool.and_eq_true] at h
 exact h
def v_tN (c : Conf) (f : Frm) : AV := cond (good c) (cond (mayB c f) (o_tnx c f) (o_tnn c f)) (o_tnb c f)
def sp_tN : Sp := sT [sG [sI .u8, sI .i64, sI .u64, sI .u64, sI .u64, sI .i64, sI .u32], sI .i64]
section
variable (c : Conf) (f : Frm)
def f_tN_0 : Int := AV.toI (AV.ix (AV.ix (v_tN c f) 0) 0)
def f_tN_1 : Int := AV.toI (AV.ix (AV.ix (v_tN c f) 0) 1)
def f_tN_2 : Int := AV.toI (AV.ix (AV.ix (v_tN c f) 0) 2)
def f_tN_3 : Int := AV.toI (AV.ix (AV.ix (v_tN c f) 0) 3)
def f_tN_4 : Int := AV.toI (AV.ix (AV.ix (v_tN c f) 0) 4)
def f_tN_5 : Int := AV.toI (AV.ix (AV.ix (v_tN c f) 0) 5)
def f_tN_6 : Int := AV.toI (AV.ix (AV.ix (v_tN c f) 0) 6)
def f_tN_7 : Int := AV.toI (AV.ix (v_tN c f) 1)
def o_tN : AV := .tup [.agg [.int .u8 (f_tN_0 c f), .int .i64 (f_tN_1 c f), .int .u64 (f_tN_2 c f), .int .u64 (f_tN_3 c f), .int .u64 (f_tN_4 c f), .int .i64 (f_tN_5 c f), .int .u32 (f_tN_6 c f)], .int .i64 (f_tN_7 c f)]
end
theorem oe_tN (c : Conf) (f : Frm) {w : AV} (h : v_tN c f = w) : o_tN c f = sp_tN.bd w := by
 subst h
 rfl
def S_tN : Sum := (206, on2 rConf rFrm (fun c f => posF f) (fun c f => o_tN c f))
theorem s_tN : SumOk Tryz.prog (gmap gs) S_tN := on2_sum fun c f hp => by
 cases hg : good c with
 | false =>
  have hb : (decide (errC c = 0) && decide (c.ob = 2)) = false := hg; have e : o_tN c f = o_tnb c f := (oe_tN c f (w := o_tnb c f) (by unfold v_tN; simp only [hg, cond_true, cond_false])).trans (show sp_tN.bd (o_tnb c f) = o_tnb c f from by kernel_rfl)
  rw [e]; have hpre : (!(decide (errC c = 0) && decide (c.ob = 2))) = true := by simp only [hb, Bool.and_true, Bool.not_false, Bool.not_true, Bool.true_and]
  exact s_tnb [c.av, f.av] (o_tnb c f) ((show S_tnb.2 [c.av, f.av] = some ((!(decide (errC c = 0) && decide (c.ob = 2))), o_tnb c f) from by kernel_rfl).trans (by rw [hpre]))
 | true =>
  obtain ⟨he, ho⟩ := good_of hg; have hv := lv_ok (width_of he ho); cases hm : mayB c f with
  | true =>
   have hm' : f_may_0 (mkr c f) = true := hm; have e : o_tN c f = o_tnx c f := (oe_tN c f (w := o_tnx c f) (by unfold v_tN; simp only [hg, hm, cond_true, cond_false])).trans (show sp_tN.bd (o_tnx c f) = o_tnx c f from by kernel_rfl)
   rw [e]; have hpre : (decide (errC c = 0) && (decide (c.ob = 2) && ((posF f && lvOk (lvL c.cap c.node) (lvN c.cap c.node)) && f_may_0 (mkr c f)))) = true := by simp only [he, ho, hp, hv, hm', Bool.and_true, Bool.not_false, Bool.not_true, Bool.true_and]
   exact s_tnx [c.av, f.av] (o_tnx c f) ((show S_tnx.2 [c.av, f.av] = some ((decide (errC c = 0) && (decide (c.ob = 2) && ((posF f && lvOk (lvL c.cap c.node) (lvN c.cap c.node)) && f_may_0 (mkr c f)))), o_tnx c f) from by kernel_rfl).trans (by rw [hpre]))
  | false =>
   have hm' : f_may_0 (mkr c f) = false := hm; have e : o_tN c f = o_tnn c f := (oe_tN c f (w := o_tnn c f) (by unfold v_tN; simp only [hg, hm, cond_true, cond_false])).trans (show sp_tN.bd (o_tnn c f) = o_tnn c f from by kernel_rfl)
   rw [e]; have hpre : (decide (errC c = 0) && (decide (c.ob = 2) && ((posF f && lvOk (lvL c.cap c.node) (lvN c.cap c.node)) && !(f_may_0 (mkr c f))))) = true := by simp only [he, ho, hp, hv, hm', Bool.and_true, Bool.not_false, Bool.not_true, Bool.true_and]
   exact s_tnn [c.av, f.av] (o_tnn c f) ((show S_tnn.2 [c.av, f.av] = some ((decide (errC c = 0) && (decide (c.ob = 2) && ((posF f && lvOk (lvL c.cap c.node) (lvN c.cap c.node)) && !(f_may_0 (mkr c f))))), o_tnn c f) from by kernel_rfl).trans (by rw [hpre]))
def v_tA (c : Conf) (f : Frm) (l : Cel) : AV := cond (good c) (cond (mayB c f) (cond (upPc f.pc) (cond (levIs c.cap c.node 1) (BasZTreL1.o_tau c f l) (cond (levIs c.cap c.node 2) (BasZTreL2.o_tau c f l) (cond (levIs c.cap c.node 3) (BasZTreL3.o_tau c f l) (cond (levIs c.cap c.node 4) (BasZTreL4.o_tau c f l) (BasZTreL5.o_tau c f l))))) (o_taf c f l)) (o_tan c f l)) (o_tab c f l)
def sp_tA : Sp := sT [sG [sI .u8, sI .u32, sI .u32, sI .u8, sI .u8, sI .u8, sI .u8, sI .u8, sI .u8, sI .u32, sI .u32], sG [sI .u64, sI .u64], sB, sI .i64]
section
variable (c : Conf) (f : Frm) (l : Cel)
def f_tA_0 : Int := AV.toI (AV.ix (AV.ix (v_tA c f l) 0) 0)
def f_tA_1 : Int := AV.toI (AV.ix (AV.ix (v_tA c f l) 0) 1)
def f_tA_2 : Int := AV.toI (AV.ix (AV.ix (v_tA c f l) 0) 2)
def f_tA_3 : Int := AV.toI (AV.ix (AV.ix (v_tA c f l) 0) 3)
def f_tA_4 : Int := AV.toI (AV.ix (AV.ix (v_tA c f l) 0) 4)
def f_tA_5 : Int := AV.toI (AV.ix (AV.ix (v_tA c f l) 0) 5)
def f_tA_6 : Int := AV.toI (AV.ix (AV.ix (v_tA c f l) 0) 6)
def f_tA_7 : Int := AV.toI (AV.ix (AV.ix (v_tA c f l) 0) 7)
def f_tA_8 : Int := AV.toI (AV.ix (AV.ix (v_tA c f l) 0) 8)
def f_tA_9 : Int := AV.toI (AV.ix (AV.ix (v_tA c f l) 0) 9)
def f_tA_10 : Int := AV.toI (AV.ix (AV.ix (v_tA c f l) 0) 10)
def f_tA_11 : Int := AV.toI (AV.ix (AV.ix (v_tA c f l) 1) 0)
def f_tA_12 : Int := AV.toI (AV.ix (AV.ix (v_tA c f l) 1) 1)
def f_tA_13 : Bool := AV.toB (AV.ix (v_tA c f l) 2)
def f_tA_14 : Int := AV.toI (AV.ix (v_tA c f l) 3)
def o_tA : AV := .tup [.agg [.int .u8 (f_tA_0 c f l), .int .u32 (f_tA_1 c f l), .int .u32 (f_tA_2 c f l), .int .u8 (f_tA_3 c f l), .int .u8 (f_tA_4 c f l), .int .u8 (f_tA_5 c f l), .int .u8 (f_tA_6 c f l), .int .u8 (f_tA_7 c f l), .int .u8 (f_tA_8 c f l), .int .u32 (f_tA_9 c f l), .int .u32 (f_tA_10 c f l)], .agg [.int .u64 (f_tA_11 c f l), .int .u64 (f_tA_12 c f l)], .bool (f_tA_13 c f l), .int .i64 (f_tA_14 c f l)]
end
theorem oe_tA (c : Conf) (f : Frm) (l : Cel) {w : AV} (h : v_tA c f l = w) : o_tA c f l = sp_tA.bd w := by
 subst h
 rfl
def S_tA : Sum := (289, on3 rConf rFrm rCel (fun c f l => posF f) (fun c f l => o_tA c f l))
theorem s_tA : SumOk Tryz.prog (gmap gs) S_tA := on3_sum fun c f l hp => by
 cases hg : good c with
 | false =>
  have hb : (decide (errC c = 0) && decide (c.ob = 2)) = false := hg; have e : o_tA c f l = o_tab c f l := (oe_tA c f l (w := o_tab c f l) (by unfold v_tA; simp only [hg, cond_true, cond_false])).trans (show sp_tA.bd (o_tab c f l) = o_tab c f l from by kernel_rfl)
  rw [e]; have hpre : (!(decide (errC c = 0) && decide (c.ob = 2))) = true := by simp only [hb, Bool.and_true, Bool.not_false, Bool.not_true, Bool.true_and]
  exact s_tab [c.av, f.av, l.av] (o_tab c f l) ((show S_tab.2 [c.av, f.av, l.av] = some ((!(decide (errC c = 0) && decide (c.ob = 2))), o_tab c f l) from by kernel_rfl).trans (by rw [hpre]))
 | true =>
  obtain ⟨he, ho⟩ := good_of hg; have hw := width_of he ho; have hv := lv_ok hw; cases hm : mayB c f with
  | false =>
   have hm' : f_may_0 (mkr c f) = false := hm; have e : o_tA c f l = o_tan c f l := (oe_tA c f l (w := o_tan c f l) (by unfold v_tA; simp only [hg, hm, cond_true, cond_false])).trans (show sp_tA.bd (o_tan c f l) = o_tan c f l from by kernel_rfl)
   rw [e]; have hpre : (decide (errC c = 0) && (decide (c.ob = 2) && ((posF f && lvOk (lvL c.cap c.node) (lvN c.cap c.node)) && !(f_may_0 (mkr c f))))) = true := by simp only [he, ho, hp, hv, hm', Bool.and_true, Bool.not_false, Bool.not_true, Bool.true_and]
   exact s_tan [c.av, f.av, l.av] (o_tan c f l) ((show S_tan.2 [c.av, f.av, l.av] = some ((decide (errC c = 0) && (decide (c.ob = 2) && ((posF f && lvOk (lvL c.cap c.node) (lvN c.cap c.node)) && !(f_may_0 (mkr c f))))), o_tan c f l) from by kernel_rfl).trans (by rw [hpre]))
  | true =>
   have hm' : f_may_0 (mkr c f) = true := hm; cases hu : upPc f.pc with
   | false =>
    have e : o_tA c f l = o_taf c f l := (oe_tA c f l (w := o_taf c f l) (by unfold v_tA; simp only [hg, hm, hu, cond_true, cond_false])).trans (show sp_tA.bd (o_taf c f l) = o_taf c f l from by kernel_rfl)
    rw [e]; have hpre : (decide (errC c = 0) && (decide (c.ob = 2) && (((posF f && lvOk (lvL c.cap c.node) (lvN c.cap c.node)) && f_may_0 (mkr c f)) && !(upPc f.pc)))) = true := by simp only [he, ho, hp, hv, hm', hu, Bool.and_true, Bool.not_false, Bool.not_true, Bool.true_and]
    exact s_taf [c.av, f.av, l.av] (o_taf c f l) ((show S_taf.2 [c.av, f.av, l.av] = some ((decide (errC c = 0) && (decide (c.ob = 2) && (((posF f && lvOk (lvL c.cap c.node) (lvN c.cap c.node)) && f_may_0 (mkr c f)) && !(upPc f.pc)))), o_taf c f l) from by kernel_rfl).trans (by rw [hpre]))
   | true =>
    cases h1 : levIs c.cap c.node 1 with
    | true =>
     have hl : levIs c.cap c.node 1 = true := h1
     have en : lvN c.cap c.node = 1 := by
      unfold lvN; rw [hl]; rfl
     have el : lvL c.cap c.node = [.int .i64 (f_up_0 c.cap c.node 0)] := by
      unfold lvL; rw [en]; rfl
     have em : mkr c f = BasZTreL1.mkrL c f := by
      unfold mkr BasZTreL1.mkrL; rw [el, en]
     rw [em] at hm'; rw [el, en] at hv; have e : o_tA c f l = BasZTreL1.o_tau c f l := (oe_tA c f l (w := BasZTreL1.o_tau c f l) (by unfold v_tA; simp only [hg, hm, hu, hl, cond_true, cond_false])).trans (show sp_tA.bd (BasZTreL1.o_tau c f l) = BasZTreL1.o_tau c f l from by kernel_rfl)
     rw [e]; have hpre : (decide (errC c = 0) && (decide (c.ob = 2) && (levIs c.cap c.node 1 && (((posF f && lvOk [.int .i64 (f_up_0 c.cap c.node 0)] 1) && f_may_0 (BasZTreL1.mkrL c f)) && upPc f.pc)))) = true := by simp only [he, ho, hl, hp, hv, hm', hu, Bool.and_true, Bool.not_false, Bool.not_true, Bool.true_and]
     exact BasZTreL1.s_tau [c.av, f.av, l.av] (BasZTreL1.o_tau c f l) ((show BasZTreL1.S_tau.2 [c.av, f.av, l.av] = some ((decide (errC c = 0) && (decide (c.ob = 2) && (levIs c.cap c.node 1 && (((posF f && lvOk [.int .i64 (f_up_0 c.cap c.node 0)] 1) && f_may_0 (BasZTreL1.mkrL c f)) && upPc f.pc)))), BasZTreL1.o_tau c f l) from by kernel_rfl).trans (by rw [hpre]))
    | false =>
     cases h2 : levIs c.cap c.node 2 with
     | true =>
      have hl : levIs c.cap c.node 2 = true := h2
      have en : lvN c.cap c.node = 2 := by
       unfold lvN; rw [h1, hl]; rfl
      have el : lvL c.cap c.node = [.int .i64 (f_up_0 c.cap c.node 0), .int .i64 (f_up_0 c.cap c.node 1)] := by
       unfold lvL; rw [en]; rfl
      have em : mkr c f = BasZTreL2.mkrL c f := by
       unfold mkr BasZTreL2.mkrL; rw [el, en]
      rw [em] at hm'; rw [el, en] at hv; have e : o_tA c f l = BasZTreL2.o_tau c f l := (oe_tA c f l (w := BasZTreL2.o_tau c f l) (by unfold v_tA; simp only [hg, hm, hu, h1, hl, cond_true, cond_false])).trans (show sp_tA.bd (BasZTreL2.o_tau c f l) = BasZTreL2.o_tau c f l from by kernel_rfl)
      rw [e]; have hpre : (decide (errC c = 0) && (decide (c.ob = 2) && (levIs c.cap c.node 2 && (((posF f && lvOk [.int .i64 (f_up_0 c.cap c.node 0), .int .i64 (f_up_0 c.cap c.node 1)] 2) && f_may_0 (BasZTreL2.mkrL c f)) && upPc f.pc)))) = true := by simp only [he, ho, hl, hp, hv, hm', hu, Bool.and_true, Bool.not_false, Bool.not_true, Bool.true_and]
      exact BasZTreL2.s_tau [c.av, f.av, l.av] (BasZTreL2.o_tau c f l) ((show BasZTreL2.S_tau.2 [c.av, f.av, l.av] = some ((decide (errC c = 0) && (decide (c.ob = 2) && (levIs c.cap c.node 2 && (((posF f && lvOk [.int .i64 (f_up_0 c.cap c.node 0), .int .i64 (f_up_0 c.cap c.node 1)] 2) && f_may_0 (BasZTreL2.mkrL c f)) && upPc f.pc)))), BasZTreL2.o_tau c f l) from by kernel_rfl).trans (by rw [hpre]))
     | false =>
      cases h3 : levIs c.cap c.node 3 with
      | true =>
       have hl : levIs c.cap c.node 3 = true := h3
       have en : lvN c.cap c.node = 3 := by
        unfold lvN; rw [h1, h2, hl]; rfl
       have el : lvL c.cap c.node = [.int .i64 (f_up_0 c.cap c.node 0), .int .i64 (f_up_0 c.cap c.node 1), .int .i64 (f_up_0 c.cap c.node 2)] := by
        unfold lvL; rw [en]; rfl
       have em : mkr c f = BasZTreL3.mkrL c f := by
        unfold mkr BasZTreL3.mkrL; rw [el, en]
       rw [em] at hm'; rw [el, en] at hv; have e : o_tA c f l = BasZTreL3.o_tau c f l := (oe_tA c f l (w := BasZTreL3.o_tau c f l) (by unfold v_tA; simp only [hg, hm, hu, h1, h2, hl, cond_true, cond_false])).trans (show sp_tA.bd (BasZTreL3.o_tau c f l) = BasZTreL3.o_tau c f l from by kernel_rfl)
       rw [e]
       have hpre : (decide (errC c = 0) && (decide (c.ob = 2) && (levIs c.cap c.node 3 && (((posF f && lvOk [.int .i64 (f_up_0 c.cap c.node 0), .int .i64 (f_up_0 c.cap c.node 1), .int .i64 (f_up_0 c.cap c.node 2)] 3) && f_may_0 (BasZTreL3.mkrL c f)) && upPc f.pc)))) = true := by simp only [he, ho, hl, hp, hv, hm', hu, Bool.and_true, Bool.not_false, Bool.not_true, Bool.true_and]
       exact BasZTreL3.s_tau [c.av, f.av, l.av] (BasZTreL3.o_tau c f l) ((show BasZTreL3.S_tau.2 [c.av, f.av, l.av] = some ((decide (errC c = 0) && (decide (c.ob = 2) && (levIs c.cap c.node 3 && (((posF f && lvOk [.int .i64 (f_up_0 c.cap c.node 0), .int .i64 (f_up_0 c.cap c.node 1), .int .i64 (f_up_0 c.cap c.node 2)] 3) && f_may_0 (BasZTreL3.mkrL c f)) && upPc f.pc)))), BasZTreL3.o_tau c f l) from by kernel_rfl).trans (by rw [hpre]))
      | false =>
       cases h4 : levIs c.cap c.node 4 with
       | true =>
        have hl : levIs c.cap c.node 4 = true := h4
        have en : lvN c.cap c.node = 4 := by
         unfold lvN; rw [h1, h2, h3, hl]; rfl
        have el : lvL c.cap c.node = [.int .i64 (f_up_0 c.cap c.node 0), .int .i64 (f_up_0 c.cap c.node 1), .int .i64 (f_up_0 c.cap c.node 2), .int .i64 (f_up_0 c.cap c.node 3)] := by
         unfold lvL; rw [en]; rfl
        have em : mkr c f = BasZTreL4.mkrL c f := by
         unfold mkr BasZTreL4.mkrL; rw [el, en]
        rw [em] at hm'; rw [el, en] at hv; have e : o_tA c f l = BasZTreL4.o_tau c f l := (oe_tA c f l (w := BasZTreL4.o_tau c f l) (by unfold v_tA; simp only [hg, hm, hu, h1, h2, h3, hl, cond_true, cond_false])).trans (show sp_tA.bd (BasZTreL4.o_tau c f l) = BasZTreL4.o_tau c f l from by kernel_rfl)
        rw [e]
        have hpre : (decide (errC c = 0) && (decide (c.ob = 2) && (levIs c.cap c.node 4 && (((posF f && lvOk [.int .i64 (f_up_0 c.cap c.node 0), .int .i64 (f_up_0 c.cap c.node 1), .int .i64 (f_up_0 c.cap c.node 2), .int .i64 (f_up_0 c.cap c.node 3)] 4) && f_may_0 (BasZTreL4.mkrL c f)) && upPc f.pc)))) = true := by simp only [he, ho, hl, hp, hv, hm', hu, Bool.and_true, Bool.not_false, Bool.not_true, Bool.true_and]
        exact BasZTreL4.s_tau [c.av, f.av, l.av] (BasZTreL4.o_tau c f l) ((show BasZTreL4.S_tau.2 [c.av, f.av, l.av] = some ((decide (errC c = 0) && (decide (c.ob = 2) && (levIs c.cap c.node 4 && (((posF f && lvOk [.int .i64 (f_up_0 c.cap c.node 0), .int .i64 (f_up_0 c.cap c.node 1), .int .i64 (f_up_0 c.cap c.node 2), .int .i64 (f_up_0 c.cap c.node 3)] 4) && f_may_0 (BasZTreL4.mkrL c f)) && upPc f.pc)))), BasZTreL4.o_tau c f l) from by kernel_rfl).trans (by rw [hpre]))
       | false =>
        have hl : levIs c.cap c.node 5 = true := by rcases lev_some hw with h | h | h | h | h <;> first | exact h | (rw [h1] at h; cases h) | (rw [h2] at h; cases h) | (rw [h3] at h; cases h) | (rw [h4] at h; cases h)
        have en : lvN c.cap c.node = 5 := by
         unfold lvN; rw [h1, h2, h3, h4]; rfl
        have el : lvL c.cap c.node = [.int .i64 (f_up_0 c.cap c.node 0), .int .i64 (f_up_0 c.cap c.node 1), .int .i64 (f_up_0 c.cap c.node 2), .int .i64 (f_up_0 c.cap c.node 3), .int .i64 (f_up_0 c.cap c.node 4)] := by
         unfold lvL; rw [en]; rfl
        have em : mkr c f = BasZTreL5.mkrL c f := by
         unfold mkr BasZTreL5.mkrL; rw [el, en]
        rw [em] at hm'; rw [el, en] at hv; have e : o_tA c f l = BasZTreL5.o_tau c f l := (oe_tA c f l (w := BasZTreL5.o_tau c f l) (by unfold v_tA; simp only [hg, hm, hu, h1, h2, h3, h4, cond_true, cond_false])).trans (show sp_tA.bd (BasZTreL5.o_tau c f l) = BasZTreL5.o_tau c f l from by kernel_rfl)
        rw [e]
        have hpre : (decide (errC c = 0) && (decide (c.ob = 2) && (levIs c.cap c.node 5 && (((posF f && lvOk [.int .i64 (f_up_0 c.cap c.node 0), .int .i64 (f_up_0 c.cap c.node 1), .int .i64 (f_up_0 c.cap c.node 2), .int .i64 (f_up_0 c.cap c.node 3), .int .i64 (f_up_0 c.cap c.node 4)] 5) && f_may_0 (BasZTreL5.mkrL c f)) && upPc f.pc)))) = true := by simp only [he, ho, hl, hp, hv, hm', hu, Bool.and_true, Bool.not_false, Bool.not_true, Bool.true_and]
        exact BasZTreL5.s_tau [c.av, f.av, l.av] (BasZTreL5.o_tau c f l) ((show BasZTreL5.S_tau.2 [c.av, f.av, l.av] = some ((decide (errC c = 0) && (decide (c.ob = 2) && (levIs c.cap c.node 5 && (((posF f && lvOk [.int .i64 (f_up_0 c.cap c.node 0), .int .i64 (f_up_0 c.cap c.node 1), .int .i64 (f_up_0 c.cap c.node 2), .int .i64 (f_up_0 c.cap c.node 3), .int .i64 (f_up_0 c.cap c.node 4)] 5) && f_may_0 (BasZTreL5.mkrL c f)) && upPc f.pc)))), BasZTreL5.o_tau c f l) from by kernel_rfl).trans (by rw [hpre]))
end
end Go.Bas.BasZTreC
end
section
namespace Go.Bas.BasZProg
noncomputable section
open Go.RowKit Go.Proofs
open BasZBase BasZOk BasZOk6 BasZTreB BasZTreC
def sp_pnx : Sp := sT [sG [sI .u8, sI .i64, sI .u64, sI .u64, sI .u64, sI .i64, sI .u32], sI .i64]
section
variable (c : Conf) (f : Frm)
def out_pnx : AV := outV (cfg [S_check, S_gNp, S_rNp, S_bNp, S_tN]) 400 80 [c.av, f.av]
def f_pnx_0 : Int := AV.toI (AV.ix (AV.ix (out_pnx c f) 0) 0)
def f_pnx_1 : Int := AV.toI (AV.ix (AV.ix (out_pnx c f) 0) 1)
def f_pnx_2 : Int := AV.toI (AV.ix (AV.ix (out_pnx c f) 0) 2)
def f_pnx_3 : Int := AV.toI (AV.ix (AV.ix (out_pnx c f) 0) 3)
def f_pnx_4 : Int := AV.toI (AV.ix (AV.ix (out_pnx c f) 0) 4)
def f_pnx_5 : Int := AV.toI (AV.ix (AV.ix (out_pnx c f) 0) 5)
def f_pnx_6 : Int := AV.toI (AV.ix (AV.ix (out_pnx c f) 0) 6)
def f_pnx_7 : Int := AV.toI (AV.ix (out_pnx c f) 1)
def o_pnx : AV := .tup [.agg [.int .u8 (f_pnx_0 c f), .int .i64 (f_pnx_1 c f), .int .u64 (f_pnx_2 c f), .int .u64 (f_pnx_3 c f), .int .u64 (f_pnx_4 c f), .int .i64 (f_pnx_5 c f), .int .u32 (f_pnx_6 c f)], .int .i64 (f_pnx_7 c f)]
end
def S_pnx : Sum := (80, on2 rConf rFrm (fun c f => posF f) (fun c f => o_pnx c f))
theorem oe_pnx (c : Conf) (f : Frm) : sp_pnx.bd (out_pnx c f) = o_pnx c f := by kernel_rfl
theorem t_pnx (c : Conf) (f : Frm) (hp : posF f = true) : runF (cfg [S_check, S_gNp, S_rNp, S_bNp, S_tN]) 400 80 [c.av, f.av] sp_pnx.has false = true := Eq.trans (b := (br (!decide ((errC c) = 0)) true (br (decide (c.1 = 1)) (ba (posF f) true) (br (decide (c.1 = 3)) (ba (posF f) true) (br (decide (c.1 = 4)) (ba (posF f) true) (ba (posF f) true)))))) (by kernel_rfl) (btt rfl (btt (band hp rfl) (btt (band hp rfl) (btt (band hp rfl) (band hp rfl)))))
theorem run_pnx (c : Conf) (f : Frm) (h : posF f = true) : runF (cfg [S_check, S_gNp, S_rNp, S_bNp, S_tN]) 400 80 [c.av, f.av] sp_pnx.has false = true := t_pnx c f h
theorem s_pnx : SumOk Tryz.prog (gmap gs) S_pnx := on2_sum fun c f hp => (acalls_out base (sums_cons s_check (sums_cons s_gNp (sums_cons s_rNp (sums_cons s_bNp (sums_cons s_tN sums_nil))))) (n := 400) sp_pnx (run_pnx c f hp)).mono fun v_ hv_ => hv_.trans (oe_pnx c f)
def sp_paf : Sp := sT [sG [sI .u8, sI .u32, sI .u32, sI .u8, sI .u8, sI .u8, sI .u8, sI .u8, sI .u8, sI .u32, sI .u32], sG [sI .u64, sI .u64], sB, sI .i64]
section
variable (c : Conf) (f : Frm) (l : Cel)
def out_paf : AV := outV (cfg [S_check, S_gAp, S_rAp, S_bAp, S_tA]) 400 238 [c.av, f.av, l.av]
def f_paf_0 : Int := AV.toI (AV.ix (AV.ix (out_paf c f l) 0) 0)
def f_paf_1 : Int := AV.toI (AV.ix (AV.ix (out_paf c f l) 0) 1)
def f_paf_2 : Int := AV.toI (AV.ix (AV.ix (out_paf c f l) 0) 2)
def f_paf_3 : Int := AV.toI (AV.ix (AV.ix (out_paf c f l) 0) 3)
def f_paf_4 : Int := AV.toI (AV.ix (AV.ix (out_paf c f l) 0) 4)
def f_paf_5 : Int := AV.toI (AV.ix (AV.ix (out_paf c f l) 0) 5)
def f_paf_6 : Int := AV.toI (AV.ix (AV.ix (out_paf c f l) 0) 6)
def f_paf_7 : Int := AV.toI (AV.ix (AV.ix (out_paf c f l) 0) 7)
def f_paf_8 : Int := AV.toI (AV.ix (AV.ix (out_paf c f l) 0) 8)
def f_paf_9 : Int := AV.toI (AV.ix (AV.ix (out_paf c f l) 0) 9)
def f_paf_10 : Int := AV.toI (AV.ix (AV.ix (out_paf c f l) 0) 10)
def f_paf_11 : Int := AV.toI (AV.ix (AV.ix (out_paf c f l) 1) 0)
def f_paf_12 : Int := AV.toI (AV.ix (AV.ix (out_paf c f l) 1) 1)
def f_paf_13 : Bool := AV.toB (AV.ix (out_paf c f l) 2)
def f_paf_14 : Int := AV.toI (AV.ix (out_paf c f l) 3)
def o_paf : AV := .tup [.agg [.int .u8 (f_paf_0 c f l), .int .u32 (f_paf_1 c f l), .int .u32 (f_paf_2 c f l), .int .u8 (f_paf_3 c f l), .int .u8 (f_paf_4 c f l), .int .u8 (f_paf_5 c f l), .int .u8 (f_paf_6 c f l), .int .u8 (f_paf_7 c f l), .int .u8 (f_paf_8 c f l), .int .u32 (f_paf_9 c f l), .int .u32 (f_paf_10 c f l)], .agg [.int .u64 (f_paf_11 c f l), .int .u64 (f_paf_12 c f l)], .bool (f_paf_13 c f l), .int .i64 (f_paf_14 c f l)]
end
def S_paf : Sum := (238, on3 rConf rFrm rCel (fun c f l => posF f) (fun c f l => o_paf c f l))
section
variable (c : Conf) (f : Frm) (l : Cel)
theorem oe_paf : sp_paf.bd (out_paf c f l) = o_paf c f l := by kernel_rfl
theorem t_paf (hp : posF f = true) : runF (cfg [S_check, S_gAp, S_rAp, S_bAp, S_tA]) 400 238 [c.av, f.av, l.av] sp_paf.has false = true := Eq.trans (b := (br (!decide ((errC c) = 0)) true (br (decide (c.1 = 1)) (ba (posF f) true) (br (decide (c.1 = 3)) (ba (posF f) true) (br (decide (c.1 = 4)) (ba (posF f) true) (ba (posF f) true)))))) (by kernel_rfl) (btt rfl (btt (band hp rfl) (btt (band hp rfl) (btt (band hp rfl) (band hp rfl)))))
theorem run_paf (h : posF f = true) : runF (cfg [S_check, S_gAp, S_rAp, S_bAp, S_tA]) 400 238 [c.av, f.av, l.av] sp_paf.has false = true := t_paf c f l h
end
theorem s_paf : SumOk Tryz.prog (gmap gs) S_paf := on3_sum fun c f l hp => (acalls_out base (sums_cons s_check (sums_cons s_gAp (sums_cons s_rAp (sums_cons s_bAp (sums_cons s_tA sums_nil))))) (n := 400) sp_paf (run_paf c f l hp)).mono fun v_ hv_ => hv_.trans (oe_paf c f l)
end
end Go.Bas.BasZProg
end
