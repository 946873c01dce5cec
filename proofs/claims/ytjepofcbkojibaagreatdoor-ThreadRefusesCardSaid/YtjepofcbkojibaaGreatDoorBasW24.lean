/- Contracts by a run's outcome: a helper's exchanges, and what is known of them; Contracts by a run's outcome: what a helper does next; Contracts: where a list of bools has one: trees; Contracts: how a batch is chosen: the program, and the document; Contracts: how a batch is chosen: the loops, and the functions; Contracts: where a list of bools has one, and whether it does; Contracts by a run's outcome: a writer's access; Contracts by a run's outcome: a thread's check, and how a writer begins; Contracts: a list's clone, whatever it is; a thread with lists of its own; a thread's check, whateve. -/
import Derived.Test.YtjepofcbkojibaaGreatDoorBasW5
import Derived.Test.YtjepofcbkojibaaGreatDoorBasW6
import Derived.Test.YtjepofcbkojibaaGreatDoorBasW8
import Derived.Test.YtjepofcbkojibaaGreatDoorBasW10
import Derived.Test.YtjepofcbkojibaaGreatDoorBasW15
import Derived.Test.YtjepofcbkojibaaGreatDoorBasW21
import Derived.Test.YtjepofcbkojibaaGreatDoorBasW23
set_option maxRecDepth 100000
set_option maxHeartbeats 4000000
set_option linter.unusedVariables false
set_option linter.unusedSimpArgs false
section
namespace Go.Bas.BasZWork
noncomputable section
open Go.RowKit Go.Proofs
open BasZBase BasZOp BasZRank BasZRank2 BasZStage5 BasZPop BasZCounts BasZCounts2 BasZReg BasZReg2 BasZJoin3 BasZOk BasZProg
abbrev S_bsz : Sum := SA_size popS prS
theorem s_bsz : SumOk Tryz.prog (gmap gs) S_bsz := s_sizeA
def pW (s : Stg) (d : Cel) : Bool := pS s && (lt64 s.mask && decide (0 <= d.tag))
def EO (c : Conf) (s : Stg) (d : Cel) : Int :=
 cond (!decide (errC c = 0)) (errC c) (cond (!decide (chk mayP c s = 0)) 2 (cond (!decide (zif (chk mayP c s) (jobK c s) = 1)) 2
 (cond (decide (d.1 >= (IntKind.wrap .u64 ((IntKind.wrap .u64 (s.1 * 65536)) + 65536)))) 0 (cond (decide (d.1 < (IntKind.wrap .u64 (s.1 * 65536)))) 0
 (cond (decide ((IntKind.wrap .i64 (f_regof_1 d)) >= popS s.3)) 0 (cond (decide (f_regof_2 d = 0)) 0
 (cond (!decide (f_pnx_7 c (frmD d) = 0)) 2 (cond (!f_wr_0 (f_regof_3 d)) 2 (cond (decide (f_regof_2 d > 64)) 2
 (cond (decide ((IntKind.wrap .u64 (d.1 + 1)) >= (IntKind.wrap .u64 ((IntKind.wrap .u64 (s.1 * 65536)) + 65536)))) 2 0))))))))))
def okE (e : Int) (c : Conf) (s : Stg) (d : Cel) : Bool := decide (e = EO c s d)
def okX (k o0 o1 o2 o3 n0 : Int) (x : Cel) : Bool := decide (k = 3 /\ o0 = x.tag /\ o1 = x.a /\ o2 = x.b /\ o3 = x.c /\ x.tag < n0)
def MvP (e k o0 o1 o2 o3 n0 : Int) (c : Conf) (s : Stg) (d : Cel) : Prop :=
 (EO c s d ≠ 0 -> e = EO c s d) /\ (e = 0 -> k = 3 /\ o0 = d.tag /\ o1 = d.a /\ o2 = d.b /\ o3 = d.c /\ d.tag < n0 /\ IntKind.wrap .u64 (s.1 * 65536) <= n0)
def okM (e k o0 o1 o2 o3 n0 : Int) (c : Conf) (s : Stg) (d : Cel) : Bool := @decide (MvP e k o0 o1 o2 o3 n0 c s d) (Classical.propDecidable _)
theorem okM_true {e k o0 o1 o2 o3 n0 : Int} {c : Conf} {s : Stg} {d : Cel} : okM e k o0 o1 o2 o3 n0 c s d = true ↔ MvP e k o0 o1 o2 o3 n0 c s d := by
 unfold okM
 exact @decide_eq_true_iff _ (Classical.propDecidable _)
theorem okE_of {e : Int} {c : Conf} {s : Stg} {d : Cel} (h : EO c s d = e) : okE e c s d = true := decide_eq_true h.symm
theorem nlt {p : Prop} [Decidable p] (h : (!decide p) = false) : p := by simpa using h
theorem okX_of {n0 : Int} {x : Cel} (h : (!decide (x.tag < n0)) = false) : okX 3 x.tag x.a x.b x.c n0 x = true := decide_eq_true ⟨rfl, rfl, rfl, rfl, rfl, nlt h⟩
theorem okM_err {e k o0 o1 o2 o3 n0 : Int} {c : Conf} {s : Stg} {d : Cel} (h : EO c s d = e) (hn : e ≠ 0) : okM e k o0 o1 o2 o3 n0 c s d = true := okM_true.2 ⟨fun _ => h.symm, fun h0 => absurd h0 hn⟩
theorem okM_arg {e k o0 o1 o2 o3 n0 : Int} {c : Conf} {s : Stg} {d : Cel} (h : EO c s d = 0) (hn : e ≠ 0) : okM e k o0 o1 o2 o3 n0 c s d = true := okM_true.2 ⟨fun h' => absurd h h', fun h0 => absurd h0 hn⟩
theorem okM_begin {c : Conf} {s : Stg} {d : Cel} (h : EO c s d = 0) (hb : decide (d.1 < IntKind.wrap .u64 (s.1 * 65536)) = true) : okM 0 3 d.tag d.a d.b d.c (IntKind.wrap .u64 (s.1 * 65536)) c s d = true :=
 okM_true.2 ⟨fun h' => absurd h h', fun _ => ⟨rfl, rfl, rfl, rfl, rfl, of_decide_eq_true hb, Int.le_refl _⟩⟩
theorem w64 (n : Int) : IntKind.wrap .u64 n <= 18446744073709551615 := by
 simp only [IntKind.wrap, IntKind.signed, IntKind.bits]
 (try simp) <;> omega
theorem one_more {t X : Int} (h0 : 0 <= t) (h : decide (t >= IntKind.wrap .u64 X) = false) : IntKind.wrap .u64 (t + 1) = t + 1 := by
 have h1 := w64 X
 have h2 : t < IntKind.wrap .u64 X := by simpa using h
 exact wrap_eq (by simp [Lit.wf, IntKind.min, IntKind.max, IntKind.signed, IntKind.bits]; omega)
theorem okM_go {c : Conf} {s : Stg} {d : Cel} {D : Dsc} {X : Int} (h : EO c s d = 0) (h0 : decide (0 <= d.tag) = true) (hD : D.tag = IntKind.wrap .u64 (d.1 + 1)) (hl : decide (d.1 >= IntKind.wrap .u64 X) = false) (hb : decide (d.1 < IntKind.wrap .u64 (s.1 * 65536)) = false)
  (he : (!decide (f_reglaid_4 D jJ jE = 0)) = false) : okM 0 3 d.tag d.a d.b d.c (f_reglaid_0 D jJ jE) c s d = true := by
 have e : f_reglaid_0 D jJ jE = d.1 + 1 := (laid_tag D (nlt he)).trans (hD.trans (one_more (of_decide_eq_true h0) hl))
 refine okM_true.2 ⟨fun h' => absurd h h', fun _ => ⟨rfl, rfl, rfl, rfl, rfl, ?_, ?_⟩⟩
 ·rw [e]
  show d.1 < d.1 + 1; omega
 ·rw [e]
  have : ¬ d.1 < IntKind.wrap .u64 (s.1 * 65536) := of_decide_eq_false hb; omega
theorem posW_D (l : Cel) : posW (f_regof_3 l) = true := by
 have h := posF_true.1 (posF_D l)
 have a : 0 <= f_regof_3 l := h.1
 have b : f_regof_3 l <= 255 := h.2.1
 unfold posW
 rw [decide_eq_true a, decide_eq_true b]
 rfl
theorem posW_x (l : Cel) : posW (f_opof_1 l) = true := by
 have h : 0 <= f_opof_1 l /\ f_opof_1 l <= 255 := w8 _
 unfold posW
 rw [decide_eq_true h.1, decide_eq_true h.2]
 rfl
theorem posO_x (l : Cel) : posO ⟨f_opof_1 l, f_opof_2 l, f_opof_3 l, f_opof_4 l⟩ = true := by
 have h : 0 <= f_opof_1 l /\ f_opof_1 l <= 255 := w8 _
 have h2 : 0 <= f_opof_3 l := (w32 _).1
 unfold posO
 rw [decide_eq_true h.1, decide_eq_true h.2, decide_eq_true h2]
 rfl
theorem prS_64 {m : Int} (h : lt64 m = true) : prS m = true := by
 have := of_decide_eq_true h
 unfold prS
 rw [decide_eq_true this.1, decide_eq_true this.2]
 rfl
def sp_mov : Sp := sT [sG [sI .u8, sI .i64, sI .u64, sI .u64, sI .u64, sI .u64, sI .u64, sI .u64, sI .u64, sI .u64], sI .i64]
section
variable (c : Conf) (s : Stg) (d : Cel) (x : Cel)
def out_mov : AV := outV (cfg [S_check, S_what, S_regof, S_at, S_bsz, S_th, S_pnx, S_paf, S_wrp, S_opp, S_opof, S_oplaid, S_start, S_reglaid]) 600 18 [c.av, s.av, d.av, x.av]
def f_mov_0 : Int := AV.toI (AV.ix (AV.ix (out_mov c s d x) 0) 0)
def f_mov_1 : Int := AV.toI (AV.ix (AV.ix (out_mov c s d x) 0) 1)
def f_mov_2 : Int := AV.toI (AV.ix (AV.ix (out_mov c s d x) 0) 2)
def f_mov_3 : Int := AV.toI (AV.ix (AV.ix (out_mov c s d x) 0) 3)
def f_mov_4 : Int := AV.toI (AV.ix (AV.ix (out_mov c s d x) 0) 4)
def f_mov_5 : Int := AV.toI (AV.ix (AV.ix (out_mov c s d x) 0) 5)
def f_mov_6 : Int := AV.toI (AV.ix (AV.ix (out_mov c s d x) 0) 6)
def f_mov_7 : Int := AV.toI (AV.ix (AV.ix (out_mov c s d x) 0) 7)
def f_mov_8 : Int := AV.toI (AV.ix (AV.ix (out_mov c s d x) 0) 8)
def f_mov_9 : Int := AV.toI (AV.ix (AV.ix (out_mov c s d x) 0) 9)
def f_mov_10 : Int := AV.toI (AV.ix (out_mov c s d x) 1)
def o_mov : AV := .tup [.agg [.int .u8 (f_mov_0 c s d x), .int .i64 (f_mov_1 c s d x), .int .u64 (f_mov_2 c s d x), .int .u64 (f_mov_3 c s d x), .int .u64 (f_mov_4 c s d x), .int .u64 (f_mov_5 c s d x), .int .u64 (f_mov_6 c s d x), .int .u64 (f_mov_7 c s d x), .int .u64 (f_mov_8 c s d x), .int .u64 (f_mov_9 c s d x)], .int .i64 (f_mov_10 c s d x)]
end
def S_mov : Sum := (18, on4 rConf rStg rCel rCel (fun c s d x => pW s d) (fun c s d x => o_mov c s d x))
theorem oe_mov (c : Conf) (s : Stg) (d : Cel) (x : Cel) : sp_mov.bd (out_mov c s d x) = o_mov c s d x := by kernel_rfl
abbrev zdr0 := cfg [S_check, S_what, S_regof, S_at, S_bsz, S_th, S_pnx, S_paf, S_wrp, S_opp, S_opof, S_oplaid, S_start, S_reglaid]
abbrev zdr1 (c : Conf) (d : Cel) (s : Stg) : Bool := ba (BasZWork.okM 2 0 0 0 0 0 0 c s d) true
abbrev zdr2 (x : Cel) := Opr.mk (f_opof_1 x) (f_opof_2 x) (f_opof_3 x) (f_opof_4 x)
abbrev zdr3 (d : Cel) := IntKind.wrap .u64 (d.1 + 1)
abbrev zdr4 (d : Cel) (x : Cel) := Dsc.mk (zdr3 d) (f_regof_1 d) (IntKind.wrap .u8 (f_opof_0 x)) (f_start_0 (zdr2 x)) (f_start_1 (zdr2 x)) (f_start_2 (zdr2 x)) (f_start_3 (zdr2 x)) (f_start_4 (zdr2 x)) (f_start_5 (zdr2 x)) (f_start_6 (zdr2 x)) (f_start_7 (zdr2 x)) (f_start_8 (zdr2 x)) (f_start_9 (zdr2 x)) (f_start_10 (zdr2 x))
abbrev zdr5 (d : Cel) := Frm.mk (f_regof_3 d) (f_regof_4 d) (f_regof_5 d) (f_regof_6 d) (f_regof_7 d) (f_regof_8 d) (f_regof_9 d) (f_regof_10 d) (f_regof_11 d) (f_regof_12 d) (f_regof_13 d)
abbrev zdr6 (d : Cel) (s : Stg) := decide ((zdr3 d) >= (IntKind.wrap .u64 ((IntKind.wrap .u64 (s.1 * 65536)) + 65536)))
abbrev zdr7 (d : Cel) := Dsc.mk (zdr3 d) (IntKind.wrap .u8 ((f_regof_1 d) + 1)) 0 0 0 0 0 0 0 0 0 0 0 0
abbrev zdr8 (c : Conf) (d : Cel) (s : Stg) : Bool := br (!decide ((f_reglaid_4 (zdr7 d) BasZJoin3.jJ BasZJoin3.jE) = 0)) (zdr1 c d s) (ba (BasZWork.okM 0 3 d.1 d.2 d.3 d.4 (f_reglaid_0 (zdr7 d) BasZJoin3.jJ BasZJoin3.jE) c s d) true)
abbrev zdr9 (c : Conf) (d : Cel) (x : Cel) := Dsc.mk (zdr3 d) (f_regof_1 d) (f_regof_2 d) (f_paf_0 c (zdr5 d) x) (f_paf_1 c (zdr5 d) x) (f_paf_2 c (zdr5 d) x) (f_paf_3 c (zdr5 d) x) (f_paf_4 c (zdr5 d) x) (f_paf_5 c (zdr5 d) x) (f_paf_6 c (zdr5 d) x) (f_paf_7 c (zdr5 d) x) (f_paf_8 c (zdr5 d) x) (f_paf_9 c (zdr5 d) x) (f_paf_10 c (zdr5 d) x)
abbrev zdr10 (c : Conf) (d : Cel) (s : Stg) (x : Cel) : Bool := ba (posF (zdr5 d)) (br (!decide ((f_paf_14 c (zdr5 d) x) = 0)) (zdr1 c d s) (br (!decide ((f_reglaid_4 (zdr9 c d x) BasZJoin3.jJ BasZJoin3.jE) = 0)) (zdr1 c d s) (ba (BasZWork.okM 0 3 d.1 d.2 d.3 d.4 (f_reglaid_0 (zdr9 c d x) BasZJoin3.jJ BasZJoin3.jE) c s d) true)))
theorem t_mov (c : Conf) (s : Stg) (d : Cel) (x : Cel) (hpS : (decide (0 <= s.1) && decide (0 <= s.3)) = true) (h64 : lt64 s.3 = true) (h0 : decide (0 <= d.tag) = true) (hps : prS s.3 = true) (hF : posF (frmD d) = true) (hW : posW (f_regof_3 d) = true) : runF zdr0 600 18 [c.av, s.av, d.av, x.av] (fun v => sp_mov.has v && (bif okM (AV.toI (AV.ix v 1)) (AV.toI (AV.ix (AV.ix v 0) 0)) (AV.toI (AV.ix (AV.ix v 0) 2)) (AV.toI (AV.ix (AV.ix v 0) 3)) (AV.toI (AV.ix (AV.ix v 0) 4)) (AV.toI (AV.ix (AV.ix v 0) 5)) (AV.toI (AV.ix (AV.ix v 0) 6)) c s d then true else false)) false = true := Eq.trans (b := (br (!decide ((errC c) = 0)) (br (!decide ((errC c) = 0)) (ba (BasZWork.okM (errC c) 0 0 0 0 0 0 c s d) true) (zdr1 c d s)) (ba (decide (0 <= s.1) && decide (0 <= s.3)) (br (!decide ((chk mayP c s) = 0)) (zdr1 c d s) (br (!decide ((zif (chk mayP c s) (BasZStage5.jobK c s)) = 1)) (zdr1 c d s) (br (decide (d.1 >= (IntKind.wrap .u64 ((IntKind.wrap .u64 (s.1 * 65536)) + 65536)))) (zdr1 c d s) (br (decide (d.1 < (IntKind.wrap .u64 (s.1 * 65536)))) (ba (BasZWork.okM 0 3 d.1 d.2 d.3 d.4 (IntKind.wrap .u64 (s.1 * 65536)) c s d) true) (ba (BasZPop.prS s.3) (br (decide ((IntKind.wrap .i64 (f_regof_1 d)) >= (popS s.3))) (zdr1 c d s) (ba (BasZCounts.lt64 s.3) (br (decide ((f_regof_2 d) = 0)) (br (decide ((f_opof_0 x) < 1)) (zdr1 c d s) (br (decide ((f_opof_0 x) > 64)) (zdr1 c d s) (br (!(decide ((f_oplaid_0 (f_opof_0 x) (zdr2 x)) = x.1) && (decide ((f_oplaid_1 (f_opof_0 x) (zdr2 x)) = x.2) && (decide ((f_oplaid_2 (f_opof_0 x) (zdr2 x)) = x.3) && (decide ((f_oplaid_3 (f_opof_0 x) (zdr2 x)) = x.4) && Bool.true))))) (zdr1 c d s) (ba (posW (f_opof_1 x)) (br (!(f_wr_0 (f_opof_1 x))) (zdr1 c d s) (ba (posO (zdr2 x)) (br (!decide ((f_opc_0 c (zdr2 x)) = 0)) (zdr1 c d s) (br (!decide ((f_reglaid_4 (zdr4 d x) BasZJoin3.jJ BasZJoin3.jE) = 0)) (zdr1 c d s) (ba (BasZWork.okM 0 3 d.1 d.2 d.3 d.4 (f_reglaid_0 (zdr4 d x) BasZJoin3.jJ BasZJoin3.jE) c s d) true))))))))) (ba (posF (zdr5 d)) (br (!decide ((f_pnx_7 c (zdr5 d)) = 0)) (zdr1 c d s) (ba (posW (f_regof_3 d)) (br (!(f_wr_0 (f_regof_3 d))) (zdr1 c d s) (br (decide ((f_regof_2 d) > 64)) (zdr1 c d s) (br (zdr6 d s) (zdr1 c d s) (br (decide ((f_pnx_0 c (zdr5 d)) = 4)) (br (decide (s.2 = 1)) (zdr8 c d s) (zdr8 c d s)) (br (decide ((f_pnx_0 c (zdr5 d)) = 2)) (zdr10 c d s x) (zdr10 c d s x)))))))))))))))))))) (by kernel_rfl) (bdt (fun h_1 => (btb h_1 (band (okM_err (show EO c s d = _ from (cT h_1 rfl)) (nd h_1)) rfl))) (fun h_1 => (band hpS (bdt (fun h_2 => (band (okM_err (show EO c s d = _ from (cF h_1 (cT h_2 rfl))) (by decide)) rfl)) (fun h_2 => (bdt (fun h_3 => (band (okM_err (show EO c s d = _ from (cF h_1 (cF h_2 (cT h_3 rfl)))) (by decide)) rfl)) (fun h_3 => (bdt (fun h_4 => (band (okM_arg (show EO c s d = _ from (cF h_1 (cF h_2 (cF h_3 (cT h_4 rfl))))) (by decide)) rfl)) (fun h_4 => (bdt (fun h_5 => (band (okM_begin (show EO c s d = _ from (cF h_1 (cF h_2 (cF h_3 (cF h_4 (cT h_5 rfl)))))) h_5) rfl)) (fun h_5 => (band hps (bdt (fun h_6 => (band (okM_arg (show EO c s d = _ from (cF h_1 (cF h_2 (cF h_3 (cF h_4 (cF h_5 (cT h_6 rfl))))))) (by decide)) rfl)) (fun h_6 => (band h64 (bdt (fun h_7 => (bdt (fun h_8 => (band (okM_arg (show EO c s d = _ from (cF h_1 (cF h_2 (cF h_3 (cF h_4 (cF h_5 (cF h_6 (cT h_7 rfl)))))))) (by decide)) rfl)) (fun h_8 => (bdt (fun h_9 => (band (okM_arg (show EO c s d = _ from (cF h_1 (cF h_2 (cF h_3 (cF h_4 (cF h_5 (cF h_6 (cT h_7 rfl)))))))) (by decide)) rfl)) (fun h_9 => (bdt (fun h_10 => (band (okM_arg (show EO c s d = _ from (cF h_1 (cF h_2 (cF h_3 (cF h_4 (cF h_5 (cF h_6 (cT h_7 rfl)))))))) (by decide)) rfl)) (fun h_10 => (band (posW_x x) (bdt (fun h_11 => (band (okM_arg (show EO c s d = _ from (cF h_1 (cF h_2 (cF h_3 (cF h_4 (cF h_5 (cF h_6 (cT h_7 rfl)))))))) (by decide)) rfl)) (fun h_11 => (band (posO_x x) (bdt (fun h_12 => (band (okM_arg (show EO c s d = _ from (cF h_1 (cF h_2 (cF h_3 (cF h_4 (cF h_5 (cF h_6 (cT h_7 rfl)))))))) (by decide)) rfl)) (fun h_12 => (bdt (fun h_13 => (band (okM_arg (show EO c s d = _ from (cF h_1 (cF h_2 (cF h_3 (cF h_4 (cF h_5 (cF h_6 (cT h_7 rfl)))))))) (by decide)) rfl)) (fun h_13 => (band (okM_go (show EO c s d = _ from (cF h_1 (cF h_2 (cF h_3 (cF h_4 (cF h_5 (cF h_6 (cT h_7 rfl)))))))) h0 rfl h_4 h_5 h_13) rfl)))))))))))))))) (fun h_7 => (band hF (bdt (fun h_8 => (band (okM_err (show EO c s d = _ from (cF h_1 (cF h_2 (cF h_3 (cF h_4 (cF h_5 (cF h_6 (cF h_7 (cT h_8 rfl))))))))) (by decide)) rfl)) (fun h_8 => (band hW (bdt (fun h_9 => (band (okM_err (show EO c s d = _ from (cF h_1 (cF h_2 (cF h_3 (cF h_4 (cF h_5 (cF h_6 (cF h_7 (cF h_8 (cT h_9 rfl)))))))))) (by decide)) rfl)) (fun h_9 => (bdt (fun h_10 => (band (okM_err (show EO c s d = _ from (cF h_1 (cF h_2 (cF h_3 (cF h_4 (cF h_5 (cF h_6 (cF h_7 (cF h_8 (cF h_9 (cT h_10 rfl))))))))))) (by decide)) rfl)) (fun h_10 => (bdt (fun h_11 => (band (okM_err (show EO c s d = _ from (cF h_1 (cF h_2 (cF h_3 (cF h_4 (cF h_5 (cF h_6 (cF h_7 (cF h_8 (cF h_9 (cF h_10 (cT h_11 rfl)))))))))))) (by decide)) rfl)) (fun h_11 => (bdt (fun h_12 => (bdt (fun h_13 => (bdt (fun h_14 => (band (okM_arg (show EO c s d = _ from (cF h_1 (cF h_2 (cF h_3 (cF h_4 (cF h_5 (cF h_6 (cF h_7 (cF h_8 (cF h_9 (cF h_10 (cF h_11 rfl)))))))))))) (by decide)) rfl)) (fun h_14 => (band (okM_go (show EO c s d = _ from (cF h_1 (cF h_2 (cF h_3 (cF h_4 (cF h_5 (cF h_6 (cF h_7 (cF h_8 (cF h_9 (cF h_10 (cF h_11 rfl)))))))))))) h0 rfl h_4 h_5 h_14) rfl)))) (fun h_13 => (bdt (fun h_14 => (band (okM_arg (show EO c s d = _ from (cF h_1 (cF h_2 (cF h_3 (cF h_4 (cF h_5 (cF h_6 (cF h_7 (cF h_8 (cF h_9 (cF h_10 (cF h_11 rfl)))))))))))) (by decide)) rfl)) (fun h_14 => (band (okM_go (show EO c s d = _ from (cF h_1 (cF h_2 (cF h_3 (cF h_4 (cF h_5 (cF h_6 (cF h_7 (cF h_8 (cF h_9 (cF h_10 (cF h_11 rfl)))))))))))) h0 rfl h_4 h_5 h_14) rfl)))))) (fun h_12 => (bdt (fun h_13 => (band hF (bdt (fun h_14 => (band (okM_arg (show EO c s d = _ from (cF h_1 (cF h_2 (cF h_3 (cF h_4 (cF h_5 (cF h_6 (cF h_7 (cF h_8 (cF h_9 (cF h_10 (cF h_11 rfl)))))))))))) (by decide)) rfl)) (fun h_14 => (bdt (fun h_15 => (band (okM_arg (show EO c s d = _ from (cF h_1 (cF h_2 (cF h_3 (cF h_4 (cF h_5 (cF h_6 (cF h_7 (cF h_8 (cF h_9 (cF h_10 (cF h_11 rfl)))))))))))) (by decide)) rfl)) (fun h_15 => (band (okM_go (show EO c s d = _ from (cF h_1 (cF h_2 (cF h_3 (cF h_4 (cF h_5 (cF h_6 (cF h_7 (cF h_8 (cF h_9 (cF h_10 (cF h_11 rfl)))))))))))) h0 rfl h_4 h_5 h_15) rfl))))))) (fun h_13 => (band hF (bdt (fun h_14 => (band (okM_arg (show EO c s d = _ from (cF h_1 (cF h_2 (cF h_3 (cF h_4 (cF h_5 (cF h_6 (cF h_7 (cF h_8 (cF h_9 (cF h_10 (cF h_11 rfl)))))))))))) (by decide)) rfl)) (fun h_14 => (bdt (fun h_15 => (band (okM_arg (show EO c s d = _ from (cF h_1 (cF h_2 (cF h_3 (cF h_4 (cF h_5 (cF h_6 (cF h_7 (cF h_8 (cF h_9 (cF h_10 (cF h_11 rfl)))))))))))) (by decide)) rfl)) (fun h_15 => (band (okM_go (show EO c s d = _ from (cF h_1 (cF h_2 (cF h_3 (cF h_4 (cF h_5 (cF h_6 (cF h_7 (cF h_8 (cF h_9 (cF h_10 (cF h_11 rfl)))))))))))) h0 rfl h_4 h_5 h_15) rfl)))))))))))))))))))))))))))))))))))))
theorem run_mov (c : Conf) (s : Stg) (d : Cel) (x : Cel) (h : pW s d = true) : runF zdr0 600 18 [c.av, s.av, d.av, x.av] sp_mov.has false = true := ((run_out (t_mov c s d x (and_left h) (and_left (and_right h)) (and_right (and_right h)) (prS_64 (and_left (and_right h))) (posF_D d) (posW_D d))).2 sp_mov.has).trans (and_left (run_out (t_mov c s d x (and_left h) (and_left (and_right h)) (and_right (and_right h)) (prS_64 (and_left (and_right h))) (posF_D d) (posW_D d))).1)
theorem s_mov : SumOk Tryz.prog (gmap gs) S_mov := on4_sum fun c s d x hp => (acalls_out base (sums_cons s_check (sums_cons s_what (sums_cons s_regof (sums_cons s_at (sums_cons s_bsz (sums_cons s_th (sums_cons s_pnx (sums_cons s_paf (sums_cons s_wrp (sums_cons s_opp (sums_cons s_opof (sums_cons s_oplaid (sums_cons s_start (sums_cons s_reglaid sums_nil)))))))))))))) (n := 600) sp_mov (run_mov c s d x hp)).mono fun v_ hv_ => hv_.trans (oe_mov c s d x)
def sp_put : Sp := sT [sG [sI .u8, sI .i64, sI .u64, sI .u64, sI .u64, sI .u64, sI .u64, sI .u64, sI .u64, sI .u64], sB, sI .i64]
section
variable (c : Conf) (s : Stg) (d : Cel) (x : Cel)
def out_put : AV := outV (cfg [S_check, S_what, S_regof, S_at, S_bsz, S_th, S_pnx, S_paf, S_wrp, S_opp, S_opof, S_oplaid, S_start, S_reglaid]) 600 16 [c.av, s.av, d.av, x.av]
def f_put_0 : Int := AV.toI (AV.ix (AV.ix (out_put c s d x) 0) 0)
def f_put_1 : Int := AV.toI (AV.ix (AV.ix (out_put c s d x) 0) 1)
def f_put_2 : Int := AV.toI (AV.ix (AV.ix (out_put c s d x) 0) 2)
def f_put_3 : Int := AV.toI (AV.ix (AV.ix (out_put c s d x) 0) 3)
def f_put_4 : Int := AV.toI (AV.ix (AV.ix (out_put c s d x) 0) 4)
def f_put_5 : Int := AV.toI (AV.ix (AV.ix (out_put c s d x) 0) 5)
def f_put_6 : Int := AV.toI (AV.ix (AV.ix (out_put c s d x) 0) 6)
def f_put_7 : Int := AV.toI (AV.ix (AV.ix (out_put c s d x) 0) 7)
def f_put_8 : Int := AV.toI (AV.ix (AV.ix (out_put c s d x) 0) 8)
def f_put_9 : Int := AV.toI (AV.ix (AV.ix (out_put c s d x) 0) 9)
def f_put_10 : Bool := AV.toB (AV.ix (out_put c s d x) 1)
def f_put_11 : Int := AV.toI (AV.ix (out_put c s d x) 2)
def o_put : AV := .tup [.agg [.int .u8 (f_put_0 c s d x), .int .i64 (f_put_1 c s d x), .int .u64 (f_put_2 c s d x), .int .u64 (f_put_3 c s d x), .int .u64 (f_put_4 c s d x), .int .u64 (f_put_5 c s d x), .int .u64 (f_put_6 c s d x), .int .u64 (f_put_7 c s d x), .int .u64 (f_put_8 c s d x), .int .u64 (f_put_9 c s d x)], .bool (f_put_10 c s d x), .int .i64 (f_put_11 c s d x)]
end
def S_put : Sum := (16, on4 rConf rStg rCel rCel (fun c s d x => pW s d) (fun c s d x => o_put c s d x))
theorem oe_put (c : Conf) (s : Stg) (d : Cel) (x : Cel) : sp_put.bd (out_put c s d x) = o_put c s d x := by kernel_rfl
abbrev zdr11 (c : Conf) (d : Cel) (s : Stg) : Bool := ba ((BasZWork.okE 2 c s d) && Bool.true) true
abbrev zdr12 (c : Conf) (d : Cel) (s : Stg) : Bool := ba ((BasZWork.okE 0 c s d) && Bool.true) true
theorem t_put (c : Conf) (s : Stg) (d : Cel) (x : Cel) (hpS : (decide (0 <= s.1) && decide (0 <= s.3)) = true) (h64 : lt64 s.3 = true) (h0 : decide (0 <= d.tag) = true) (hps : prS s.3 = true) (hF : posF (frmD d) = true) (hW : posW (f_regof_3 d) = true) : runF zdr0 600 16 [c.av, s.av, d.av, x.av] (fun v => sp_put.has v && ((bif okE (AV.toI (AV.ix v 2)) c s d then true else false) && (bif AV.toB (AV.ix v 1) then (bif okX (AV.toI (AV.ix (AV.ix v 0) 0)) (AV.toI (AV.ix (AV.ix v 0) 2)) (AV.toI (AV.ix (AV.ix v 0) 3)) (AV.toI (AV.ix (AV.ix v 0) 4)) (AV.toI (AV.ix (AV.ix v 0) 5)) (AV.toI (AV.ix (AV.ix v 0) 6)) x then true else false) else true))) false = true := Eq.trans (b := (br (!decide ((errC c) = 0)) (br (!decide ((errC c) = 0)) (ba ((BasZWork.okE (errC c) c s d) && Bool.true) true) (ba ((BasZWork.okE (errC c) c s d) && Bool.true) true)) (ba (decide (0 <= s.1) && decide (0 <= s.3)) (br (!decide ((chk mayP c s) = 0)) (zdr11 c d s) (br (!decide ((zif (chk mayP c s) (BasZStage5.jobK c s)) = 1)) (zdr11 c d s) (br (decide (d.1 >= (IntKind.wrap .u64 ((IntKind.wrap .u64 (s.1 * 65536)) + 65536)))) (zdr12 c d s) (br (decide (d.1 < (IntKind.wrap .u64 (s.1 * 65536)))) (zdr12 c d s) (ba (BasZPop.prS s.3) (br (decide ((IntKind.wrap .i64 (f_regof_1 d)) >= (popS s.3))) (zdr12 c d s) (ba (BasZCounts.lt64 s.3) (br (decide ((f_regof_2 d) = 0)) (zdr12 c d s) (ba (posF (zdr5 d)) (br (!decide ((f_pnx_7 c (zdr5 d)) = 0)) (zdr11 c d s) (ba (posW (f_regof_3 d)) (br (!(f_wr_0 (f_regof_3 d))) (zdr11 c d s) (br (decide ((f_regof_2 d) > 64)) (zdr11 c d s) (br (zdr6 d s) (zdr11 c d s) (br (decide ((f_pnx_0 c (zdr5 d)) = 4)) (br (decide (s.2 = 1)) (br (!decide (x.1 < (IntKind.wrap .u64 (f_regof_2 d)))) (zdr12 c d s) (ba ((BasZWork.okE 0 c s d) && Bool.true) (ba (BasZWork.okX 3 x.1 x.2 x.3 x.4 (IntKind.wrap .u64 (f_regof_2 d)) x) true))) (zdr12 c d s)) (br (decide ((f_pnx_0 c (zdr5 d)) = 2)) (br (!decide (x.1 < (zdr3 d))) (zdr12 c d s) (ba ((BasZWork.okE 0 c s d) && Bool.true) (ba (BasZWork.okX 3 x.1 x.2 x.3 x.4 (zdr3 d) x) true))) (zdr12 c d s)))))))))))))))))))) (by kernel_rfl) (bdt (fun h_1 => (btb h_1 (band (andT (okE_of (show EO c s d = _ from (cT h_1 rfl)))) rfl))) (fun h_1 => (band hpS (bdt (fun h_2 => (band (andT (okE_of (show EO c s d = _ from (cF h_1 (cT h_2 rfl))))) rfl)) (fun h_2 => (bdt (fun h_3 => (band (andT (okE_of (show EO c s d = _ from (cF h_1 (cF h_2 (cT h_3 rfl)))))) rfl)) (fun h_3 => (bdt (fun h_4 => (band (andT (okE_of (show EO c s d = _ from (cF h_1 (cF h_2 (cF h_3 (cT h_4 rfl))))))) rfl)) (fun h_4 => (bdt (fun h_5 => (band (andT (okE_of (show EO c s d = _ from (cF h_1 (cF h_2 (cF h_3 (cF h_4 (cT h_5 rfl)))))))) rfl)) (fun h_5 => (band hps (bdt (fun h_6 => (band (andT (okE_of (show EO c s d = _ from (cF h_1 (cF h_2 (cF h_3 (cF h_4 (cF h_5 (cT h_6 rfl))))))))) rfl)) (fun h_6 => (band h64 (bdt (fun h_7 => (band (andT (okE_of (show EO c s d = _ from (cF h_1 (cF h_2 (cF h_3 (cF h_4 (cF h_5 (cF h_6 (cT h_7 rfl)))))))))) rfl)) (fun h_7 => (band hF (bdt (fun h_8 => (band (andT (okE_of (show EO c s d = _ from (cF h_1 (cF h_2 (cF h_3 (cF h_4 (cF h_5 (cF h_6 (cF h_7 (cT h_8 rfl))))))))))) rfl)) (fun h_8 => (band hW (bdt (fun h_9 => (band (andT (okE_of (show EO c s d = _ from (cF h_1 (cF h_2 (cF h_3 (cF h_4 (cF h_5 (cF h_6 (cF h_7 (cF h_8 (cT h_9 rfl)))))))))))) rfl)) (fun h_9 => (bdt (fun h_10 => (band (andT (okE_of (show EO c s d = _ from (cF h_1 (cF h_2 (cF h_3 (cF h_4 (cF h_5 (cF h_6 (cF h_7 (cF h_8 (cF h_9 (cT h_10 rfl))))))))))))) rfl)) (fun h_10 => (bdt (fun h_11 => (band (andT (okE_of (show EO c s d = _ from (cF h_1 (cF h_2 (cF h_3 (cF h_4 (cF h_5 (cF h_6 (cF h_7 (cF h_8 (cF h_9 (cF h_10 (cT h_11 rfl)))))))))))))) rfl)) (fun h_11 => (bdt (fun h_12 => (bdt (fun h_13 => (bdt (fun h_14 => (band (andT (okE_of (show EO c s d = _ from (cF h_1 (cF h_2 (cF h_3 (cF h_4 (cF h_5 (cF h_6 (cF h_7 (cF h_8 (cF h_9 (cF h_10 (cF h_11 rfl)))))))))))))) rfl)) (fun h_14 => (band (andT (okE_of (show EO c s d = _ from (cF h_1 (cF h_2 (cF h_3 (cF h_4 (cF h_5 (cF h_6 (cF h_7 (cF h_8 (cF h_9 (cF h_10 (cF h_11 rfl)))))))))))))) (band (okX_of h_14) rfl))))) (fun h_13 => (band (andT (okE_of (show EO c s d = _ from (cF h_1 (cF h_2 (cF h_3 (cF h_4 (cF h_5 (cF h_6 (cF h_7 (cF h_8 (cF h_9 (cF h_10 (cF h_11 rfl)))))))))))))) rfl)))) (fun h_12 => (bdt (fun h_13 => (bdt (fun h_14 => (band (andT (okE_of (show EO c s d = _ from (cF h_1 (cF h_2 (cF h_3 (cF h_4 (cF h_5 (cF h_6 (cF h_7 (cF h_8 (cF h_9 (cF h_10 (cF h_11 rfl)))))))))))))) rfl)) (fun h_14 => (band (andT (okE_of (show EO c s d = _ from (cF h_1 (cF h_2 (cF h_3 (cF h_4 (cF h_5 (cF h_6 (cF h_7 (cF h_8 (cF h_9 (cF h_10 (cF h_11 rfl)))))))))))))) (band (okX_of h_14) rfl))))) (fun h_13 => (band (andT (okE_of (show EO c s d = _ from (cF h_1 (cF h_2 (cF h_3 (cF h_4 (cF h_5 (cF h_6 (cF h_7 (cF h_8 (cF h_9 (cF h_10 (cF h_11 rfl)))))))))))))) rfl))))))))))))))))))))))))))))))))
theorem run_put (c : Conf) (s : Stg) (d : Cel) (x : Cel) (h : pW s d = true) : runF zdr0 600 16 [c.av, s.av, d.av, x.av] sp_put.has false = true := ((run_out (t_put c s d x (and_left h) (and_left (and_right h)) (and_right (and_right h)) (prS_64 (and_left (and_right h))) (posF_D d) (posW_D d))).2 sp_put.has).trans (and_left (run_out (t_put c s d x (and_left h) (and_left (and_right h)) (and_right (and_right h)) (prS_64 (and_left (and_right h))) (posF_D d) (posW_D d))).1)
theorem s_put : SumOk Tryz.prog (gmap gs) S_put := on4_sum fun c s d x hp => (acalls_out base (sums_cons s_check (sums_cons s_what (sums_cons s_regof (sums_cons s_at (sums_cons s_bsz (sums_cons s_th (sums_cons s_pnx (sums_cons s_paf (sums_cons s_wrp (sums_cons s_opp (sums_cons s_opof (sums_cons s_oplaid (sums_cons s_start (sums_cons s_reglaid sums_nil)))))))))))))) (n := 600) sp_put (run_put c s d x hp)).mono fun v_ hv_ => hv_.trans (oe_put c s d x)
end
end Go.Bas.BasZWork
end
section
namespace Go.Bas.BasZWnx
noncomputable section
open Go.RowKit Go.Proofs
open BasZBase BasZOp BasZRank BasZRank2 BasZStage5 BasZPop BasZCounts BasZCounts2 BasZReg BasZReg2 BasZJoin3 BasZOk BasZProg BasZWork
def sp_wnx : Sp := sT [sG [sI .u8, sI .i64, sI .i64], sI .i64]
section
variable (c : Conf) (s : Stg) (d : Cel)
def out_wnx : AV := outV (cfg [S_check, S_what, S_regof, S_at, S_bsz, S_th, S_pnx, S_paf, S_wrp, S_opp, S_opof, S_oplaid, S_start, S_reglaid]) 600 14 [c.av, s.av, d.av]
def f_wnx_0 : Int := AV.toI (AV.ix (AV.ix (out_wnx c s d) 0) 0)
def f_wnx_1 : Int := AV.toI (AV.ix (AV.ix (out_wnx c s d) 0) 1)
def f_wnx_2 : Int := AV.toI (AV.ix (AV.ix (out_wnx c s d) 0) 2)
def f_wnx_3 : Int := AV.toI (AV.ix (out_wnx c s d) 1)
def o_wnx : AV := .tup [.agg [.int .u8 (f_wnx_0 c s d), .int .i64 (f_wnx_1 c s d), .int .i64 (f_wnx_2 c s d)], .int .i64 (f_wnx_3 c s d)]
end
def S_wnx : Sum := (14, on3 rConf rStg rCel (fun c s d => pW s d) (fun c s d => o_wnx c s d))
theorem oe_wnx (c : Conf) (s : Stg) (d : Cel) : sp_wnx.bd (out_wnx c s d) = o_wnx c s d := by kernel_rfl
abbrev zds0 := cfg [S_check, S_what, S_regof, S_at, S_bsz, S_th, S_pnx, S_paf, S_wrp, S_opp, S_opof, S_oplaid, S_start, S_reglaid]
abbrev zds1 (d : Cel) := Frm.mk (f_regof_3 d) (f_regof_4 d) (f_regof_5 d) (f_regof_6 d) (f_regof_7 d) (f_regof_8 d) (f_regof_9 d) (f_regof_10 d) (f_regof_11 d) (f_regof_12 d) (f_regof_13 d)
theorem t_wnx (c : Conf) (s : Stg) (d : Cel) (hpS : (decide (0 <= s.1) && decide (0 <= s.3)) = true) (h64 : lt64 s.3 = true) (h0 : decide (0 <= d.tag) = true) (hps : prS s.3 = true) (hF : posF (frmD d) = true) (hW : posW (f_regof_3 d) = true) : runF zds0 600 14 [c.av, s.av, d.av] sp_wnx.has false = true := Eq.trans (b := (br (!decide ((errC c) = 0)) true (ba (decide (0 <= s.1) && decide (0 <= s.3)) (br (!decide ((chk mayP c s) = 0)) true (br (!decide ((zif (chk mayP c s) (BasZStage5.jobK c s)) = 1)) true (br (decide (d.1 >= (IntKind.wrap .u64 ((IntKind.wrap .u64 (s.1 * 65536)) + 65536)))) true (br (decide (d.1 < (IntKind.wrap .u64 (s.1 * 65536)))) true (ba (BasZPop.prS s.3) (br (decide ((IntKind.wrap .i64 (f_regof_1 d)) >= (popS s.3))) true (ba (BasZCounts.lt64 s.3) (br (decide ((f_regof_2 d) = 0)) true (ba (posF (zds1 d)) (br (!decide ((f_pnx_7 c (zds1 d)) = 0)) true (ba (posW (f_regof_3 d)) (br (!(f_wr_0 (f_regof_3 d))) true (br (decide ((f_regof_2 d) > 64)) true (br (decide ((IntKind.wrap .u64 (d.1 + 1)) >= (IntKind.wrap .u64 ((IntKind.wrap .u64 (s.1 * 65536)) + 65536)))) true (br (decide ((f_pnx_0 c (zds1 d)) = 4)) (br (decide (s.2 = 1)) true true) (br (decide ((f_pnx_0 c (zds1 d)) = 2)) true true))))))))))))))))))) (by kernel_rfl) (bdt (fun h_1 => rfl) (fun h_1 => (band hpS (bdt (fun h_2 => rfl) (fun h_2 => (bdt (fun h_3 => rfl) (fun h_3 => (bdt (fun h_4 => rfl) (fun h_4 => (bdt (fun h_5 => rfl) (fun h_5 => (band hps (bdt (fun h_6 => rfl) (fun h_6 => (band h64 (bdt (fun h_7 => rfl) (fun h_7 => (band hF (bdt (fun h_8 => rfl) (fun h_8 => (band hW (bdt (fun h_9 => rfl) (fun h_9 => (bdt (fun h_10 => rfl) (fun h_10 => (bdt (fun h_11 => rfl) (fun h_11 => (bdt (fun h_12 => (bdt (fun h_13 => rfl) (fun h_13 => rfl))) (fun h_12 => (bdt (fun h_13 => rfl) (fun h_13 => rfl)))))))))))))))))))))))))))))))
theorem run_wnx (c : Conf) (s : Stg) (d : Cel) (h : pW s d = true) : runF zds0 600 14 [c.av, s.av, d.av] sp_wnx.has false = true := t_wnx c s d (and_left h) (and_left (and_right h)) (and_right (and_right h)) (prS_64 (and_left (and_right h))) (posF_D d) (posW_D d)
theorem s_wnx : SumOk Tryz.prog (gmap gs) S_wnx := on3_sum fun c s d hp => (acalls_out base (sums_cons s_check (sums_cons s_what (sums_cons s_regof (sums_cons s_at (sums_cons s_bsz (sums_cons s_th (sums_cons s_pnx (sums_cons s_paf (sums_cons s_wrp (sums_cons s_opp (sums_cons s_opof (sums_cons s_oplaid (sums_cons s_start (sums_cons s_reglaid sums_nil)))))))))))))) (n := 600) sp_wnx (run_wnx c s d hp)).mono fun v_ hv_ => hv_.trans (oe_wnx c s d)
end
end Go.Bas.BasZWnx
end
section
namespace Go.Bas.BasZIdx
noncomputable section
open Go.RowKit Go.Proofs
open BasZBase
def I_ix (cells : List AV) (n : Nat) (v : Bool) (w : Int) (i : Int) : St := ⟨fill 19 [(0, .lst cells n), (1, .bool v), (4, .int .i64 0), (7, .int .i64 w), (8, .int .i64 i)], [], ⟨[], 0, []⟩⟩
def P_ix {Ω : Type} (st : St) (g : (List AV) -> (Nat) -> (Bool) -> (Int) -> (Int) -> Ω) (z : Ω) : Ω := match lget st.tmps 0, lget st.tmps 1, lget st.tmps 4, lget st.tmps 7, lget st.tmps 8, st.ds, st.m with
 | .lst cells n, .bool v, .int .i64 z1, .int .i64 w, .int .i64 i, [], ⟨[], z2, []⟩ => cond (Nat.beq st.tmps.length 19 && (decide (z1 = 0) && (Nat.beq z2 0 && true))) (g cells n v w i) z
 | _, _, _, _, _, _, _ => z
theorem P_ix_ok {C : Cfg} {c : Code} {G : (List AV) -> (Nat) -> (Bool) -> (Int) -> (Int) -> (Ex -> St -> Bool) -> Bool} (hG : ∀ cells n v w i k, G cells n v w i k = true -> AWq C c (I_ix cells n v w i) (fun e s => k e s = true)) : ∀ st k, P_ix st (fun cells n v w i => G cells n v w i k) false = true -> AWq C c st (fun e s => k e s = true) := by
 intro st k h
 unfold P_ix at h
 split at h
 ·rename_i q0 q1 q2 q3 q4 hd hm
  rcases of_cond2 h with ⟨hb, h2⟩ | ⟨_, h2⟩
  ·simp only [Bool.and_eq_true, and_true, decide_eq_true_eq, beq_iff] at hb
   obtain ⟨hb0, hb1, hb2⟩ := hb; subst hb1 hb2; exact AWq.less (Less.fill hb0 (AllL_cons q0 (AllL_cons q1 (AllL_cons q2 (AllL_cons q3 (AllL_cons q4 AllL_nil))))) hd hm) (hG _ _ _ _ _ _ h2)
  ·cases h2
 ·cases h
def srch (cells : List AV) (v : Bool) : Nat -> Nat -> Int
 | 0, _ => -1
 | q + 1, i => cond (decide (v = (lget cells i).toB)) (i : Int) (srch cells v q (i + 1))
def ixOk (cells : List AV) (n : Nat) : Bool := Nat.beq cells.length n && (cells.all AV.isB && Nat.ble n 16)
def eqw (a b : Int) : Bool := decide (a = b)
def neg (cells : List AV) (v : Bool) (n : Nat) : Bool := decide (srch cells v n 0 < 0)
def G_ix (cells : List AV) (n : Nat) (v : Bool) (w i : Int) (k : Ex -> St -> Bool) : Bool := cond (ixOk cells n && (eqw w n && eqw i 0)) (cond (neg cells v n) (k (.exit 0) (I_ix cells n v n n)) (k .ret ⟨fill 19 [(4, .int .i64 (srch cells v n 0))], [], ⟨[], 0, []⟩⟩)) false
def F_ix : LF := fun st k => P_ix st (fun cells n v w i => G_ix cells n v w i k) false
def Fix : List AV -> Option (Bool × AV)
 | [.lst cells n, .bool v] => some (ixOk cells n, .int .i64 (srch cells v n 0))
 | _ => none
def Fct : List AV -> Option (Bool × AV)
 | [.lst cells n, .bool v] => some (ixOk cells n, .bool (decide (srch cells v n 0 >= 0)))
 | _ => none
theorem t_ixb (cells : List AV) (n : Nat) (v : Bool) (w i : Int) (k : Ex -> St -> Bool) : run (cfg []) 100 none none (loopAt (fcode Tryz.prog 257) [0]) (I_ix cells n v w i) (fun e s => k e (keepS [0, 1, 4, 7, 8] s)) false = (bif decide (i < w) then (((inside i n) && (Nat.beq (List.length cells) (n * 1))) && ((Nat.ble (((Int.toNat i) * 1) + 1) (List.length cells)) && ((AV.isB (lget cells ((Int.toNat i) * 1))) && (bif decide (v = (AV.toB (lget cells ((Int.toNat i) * 1)))) then (k Ex.ret (St.mk [.lst cells n, .bool v, .any, .any, .int .i64 i, .any, .any, .int .i64 w, .int .i64 i, .any, .any, .any, .any, .any, .any, .any, .any, .any, .any] [] (Mem.mk [] 0 []))) else (k Ex.normal (St.mk [.lst cells n, .bool v, .any, .any, .int .i64 0, .any, .any, .int .i64 w, .int .i64 (IntKind.wrap .i64 (i + 1)), .any, .any, .any, .any, .any, .any, .any, .any, .any, .any] [] (Mem.mk [] 0 []))))))) else (k (Ex.exit 0) (St.mk [.lst cells n, .bool v, .any, .any, .int .i64 0, .any, .any, .int .i64 w, .int .i64 i, .any, .any, .any, .any, .any, .any, .any, .any, .any, .any] [] (Mem.mk [] 0 [])))) := by kernel_rfl
theorem t_ix (cells : List AV) (n : Nat) (v : Bool) (k : AV -> Bool) : runFM (cfg []) 300 257 [F_ix] [.lst cells n, .bool v] k = (((BasZIdx.ixOk cells n) && ((BasZIdx.eqw (Int.ofNat n) (Int.ofNat n)) && Bool.true)) && (bif (BasZIdx.neg cells v n) then (k (AV.int .i64 (-1))) else (k (AV.int .i64 (BasZIdx.srch cells v n 0))))) := by kernel_rfl
end
end Go.Bas.BasZIdx
end
section
namespace Go.Bas.BasZChoose
noncomputable section
open Go.RowKit Go.Proofs
open BasZBase BasZPop
def I_ch (cc : List AV) (cells : List AV) (n : Nat) (f : Int) (x : Int) (m : Int) (e0 : TypeId) (e1 : TypeId) (e2 : TypeId) (e3 : TypeId) (e4 : TypeId) : St := ⟨fill 55 [(3, .ptr 0 0), (6, .ptr 1 0), (7, .ptr 2 0), (8, .int .i64 0), (34, .fn (.func 293) [] [.ptr 3 0, .ptr 4 0])], [], ⟨[(4, ⟨[.int .i64 f], e4, true⟩), (3, ⟨[.lst cells n], e3, true⟩), (2, ⟨[.int .i64 x], e2, true⟩), (1, ⟨[.int .u64 m], e1, true⟩), (0, ⟨cc, e0, true⟩)], 5, []⟩⟩
def P_ch {Ω : Type} (st : St) (g : (List AV) -> (List AV) -> (Nat) -> (Int) -> (Int) -> (Int) -> (TypeId) -> (TypeId) -> (TypeId) -> (TypeId) -> (TypeId) -> Ω) (z : Ω) : Ω := match lget st.tmps 3, lget st.tmps 6, lget st.tmps 7, lget st.tmps 8, lget st.tmps 34, st.ds, st.m with
 | .ptr z1 z2, .ptr z3 z4, .ptr z5 z6, .int .i64 z7, .fn (.func z8) [] [.ptr z9 z10, .ptr z11 z12], [], ⟨[(z13, ⟨[.int .i64 f], e4, true⟩), (z14, ⟨[.lst cells n], e3, true⟩), (z15, ⟨[.int .i64 x], e2, true⟩), (z16, ⟨[.int .u64 m], e1, true⟩), (z17, ⟨cc, e0, true⟩)], z18, []⟩ => cond (Nat.beq st.tmps.length 55 && (Nat.beq z1 0 && (Nat.beq z2 0 && (Nat.beq z3 1 && (Nat.beq z4 0 && (Nat.beq z5 2 && (Nat.beq z6 0 && (decide (z7 = 0) && (Nat.beq z8 293 && (Nat.beq z9 3 && (Nat.beq z10 0 && (Nat.beq z11 4 && (Nat.beq z12 0 && (Nat.beq z13 4 && (Nat.beq z14 3 && (Nat.beq z15 2 && (Nat.beq z16 1 && (Nat.beq z17 0 && (Nat.beq z18 5 && true))))))))))))))))))) (g cc cells n f x m e0 e1 e2 e3 e4) z
 | _, _, _, _, _, _, _ => z
theorem P_ch_ok {C : Cfg} {c : Code} {G : (List AV) -> (List AV) -> (Nat) -> (Int) -> (Int) -> (Int) -> (TypeId) -> (TypeId) -> (TypeId) -> (TypeId) -> (TypeId) -> (Ex -> St -> Bool) -> Bool} (hG : ∀ cc cells n f x m e0 e1 e2 e3 e4 k, G cc cells n f x m e0 e1 e2 e3 e4 k = true -> AWq C c (I_ch cc cells n f x m e0 e1 e2 e3 e4) (fun e s => k e s = true)) : ∀ st k, P_ch st (fun cc cells n f x m e0 e1 e2 e3 e4 => G cc cells n f x m e0 e1 e2 e3 e4 k) false = true -> AWq C c st (fun e s => k e s = true) := by
 intro st k h
 unfold P_ch at h
 split at h
 ·rename_i q0 q1 q2 q3 q4 hd hm
  rcases of_cond2 h with ⟨hb, h2⟩ | ⟨_, h2⟩
  ·simp only [Bool.and_eq_true, and_true, decide_eq_true_eq, beq_iff] at hb
   obtain ⟨hb0, hb1, hb2, hb3, hb4, hb5, hb6, hb7, hb8, hb9, hb10, hb11, hb12, hb13, hb14, hb15, hb16, hb17, hb18⟩ := hb; subst hb1 hb2 hb3 hb4 hb5 hb6 hb7 hb8 hb9 hb10 hb11 hb12 hb13 hb14 hb15 hb16 hb17 hb18; exact AWq.less (Less.fill hb0 (AllL_cons q0 (AllL_cons q1 (AllL_cons q2 (AllL_cons q3 (AllL_cons q4 AllL_nil))))) hd hm) (hG _ _ _ _ _ _ _ _ _ _ _ _ h2)
  ·cases h2
 ·cases h
def chA : Code := rfAssign (loopN (fcode Tryz.prog 183) 0)
def chB : Code := loopAt (fcode Tryz.prog 183) [0]
def M_it (s : Nat) (pend : Option Ex) (cc cells : List AV) (n : Nat) (f x m : Int) (e0 e1 e2 e3 e4 : TypeId) : Mem := ⟨[(4, ⟨[.int .i64 f], e4, true⟩), (3, ⟨[.lst cells n], e3, true⟩), (2, ⟨[.int .i64 x], e2, true⟩), (1, ⟨[.int .u64 m], e1, true⟩), (0, ⟨cc, e0, true⟩)], 7, [(6, .lop s pend (fill 55 [(3, .ptr 0 0), (6, .ptr 1 0), (7, .ptr 2 0), (8, .int .i64 0), (34, .fn (.func 293) [] [.ptr 3 0, .ptr 4 0])]) [35, 36] chA chB 5), (5, .dfb)]⟩
def I_it (cc cells : List AV) (n : Nat) (f x m : Int) (e0 e1 e2 e3 e4 : TypeId) (i : Int) : St := ⟨fill 26 [(0, .yld 6), (1, .ptr 3 0), (2, .ptr 4 0), (7, .int .i64 n), (8, .int .i64 i)], [], M_it 0 none cc cells n f x m e0 e1 e2 e3 e4⟩
def eqi (x y : Int) : Bool := decide (x = y)
def cp (cells : List AV) (t : Nat) : Bool := (lget cells t).toB
section
variable (c : Conf) (cells : List AV) (f : Int) (i : Nat)
def chR : Ch := chs (cp cells) c.thr.toNat f.toNat c.batch.toNat i
def chMask : Int := ((chR c cells f i).mask : Nat)
def chNext : Int := (((f.toNat + (chR c cells f i).last) % c.thr.toNat : Nat))
end
def chOk (c : Conf) (cells : List AV) (n : Nat) (f : Int) : Bool := c.ok && (Nat.beq cells.length n && (cells.all AV.isB && decide ((n : Int) = c.thr /\ 0 <= f /\ f < c.thr)))
def J_ch (c : Conf) (cells : List AV) (n : Nat) (f : Int) (e0 e1 e2 e3 e4 : TypeId) : St := ⟨fill 55 [(3, .ptr 0 0), (6, .ptr 1 0), (7, .ptr 2 0), (8, .int .i64 0), (34, .fn (.func 293) [] [.ptr 3 0, .ptr 4 0])], [5],
 ⟨[(4, ⟨[.int .i64 f], e4, true⟩), (3, ⟨[.lst cells n], e3, true⟩), (2, ⟨[.int .i64 (chNext c cells f c.thr.toNat)], e2, true⟩), (1, ⟨[.int .u64 (chMask c cells f c.thr.toNat)], e1, true⟩), (0, ⟨c.cells, e0, true⟩)], 7, [(5, .dfb)]⟩⟩
def G_ch (cc cells : List AV) (n : Nat) (f x m : Int) (e0 e1 e2 e3 e4 : TypeId) (k : Ex -> St -> Bool) : Bool := match confOf (.agg cc) with
 | some c => cond (chOk c cells n f && (eqi x f && eqi m 0)) (k .normal (J_ch c cells n f e0 e1 e2 e3 e4) && k (.exit 0) (J_ch c cells n f e0 e1 e2 e3 e4)) false
 | none => false
def F_ch : LF := fun st k => P_ch st (fun cc cells n f x m e0 e1 e2 e3 e4 => G_ch cc cells n f x m e0 e1 e2 e3 e4 k) false
def chErr (c : Conf) (n : Nat) (f : Int) : Int := cond c.ok (cond (decide ((n : Int) = c.thr /\ 0 <= f /\ f < c.thr)) 0 2) 40
def chAV (c : Conf) (cells : List AV) (n : Nat) (f : Int) : AV := .tup [.int .u64 (zif (chErr c n f) (chMask c cells f c.thr.toNat)), .int .i64 (zif (chErr c n f) (chNext c cells f c.thr.toNat)), .int .i64 (chErr c n f)]
def Fch : List AV -> Option (Bool × AV)
 | [a, b, .int .i64 f] => match confOf a with
  | some c => match b with
   | .lst cells n => some (Nat.beq cells.length n && cells.all AV.isB, chAV c cells n f)
   | .es => some (true, chAV c [] 0 f)
   | .nils => some (true, chAV c [] 0 f)
   | _ => none
  | none => none
 | _ => none
abbrev zdu0 : List AV := [.any, .any, .any, .ptr 0 0, .any, .any, .ptr 1 0, .ptr 2 0, .int .i64 0, .any, .any, .any, .any, .any, .any, .any, .any, .any, .any, .any, .any, .any, .any, .any, .any, .any, .any, .any, .any, .any, .any, .any, .any, .any, .fn (Fn.func 293) [] [.ptr 3 0, .ptr 4 0], .any, .any, .any, .any, .any, .any, .any, .any, .any, .any, .any, .any, .any, .any, .any, .any, .any, .any, .any, .any]
theorem t_it0 (cc : List AV) (P : Int -> Int) (pr : Int -> Bool) (cells : List AV) (n : Nat) (f x m i : Int) (e0 e1 e2 e3 e4 : TypeId) (k : Ex -> St -> Bool) : run (cfg [S_check, (SA_size P pr)]) 100 none none (sel [false] (fcode Tryz.prog 293)) ⟨padL [.yld 6, .ptr 3 0, .ptr 4 0] 26, [], M_it 0 none cc cells n f x m e0 e1 e2 e3 e4⟩ (fun e s => k e (keepS [0, 1, 2, 7, 8] s)) false = (k Ex.normal (St.mk [.yld 6, .ptr 3 0, .ptr 4 0, .any, .any, .any, .any, .int .i64 (Int.ofNat n), .int .i64 0, .any, .any, .any, .any, .any, .any, .any, .any, .any, .any, .any, .any, .any, .any, .any, .any, .any] [] (Mem.mk [(4, (HB.mk [.int .i64 f] e4 Bool.true)), (3, (HB.mk [.lst cells n] e3 Bool.true)), (2, (HB.mk [.int .i64 x] e2 Bool.true)), (1, (HB.mk [.int .u64 m] e1 Bool.true)), (0, (HB.mk cc e0 Bool.true))] 7 [(6, (LB.lop 0 (Option.none) zdu0 [35, 36] chA chB 5)), (5, LB.dfb)]))) := by kernel_rfl
abbrev zdu1 (c : Conf) (cells : List AV) (e0 : TypeId) (e1 : TypeId) (e2 : TypeId) (e3 : TypeId) (e4 : TypeId) (f : Int) (m : Int) (n : Nat) (x : Int) := Mem.mk [(4, (HB.mk [.int .i64 f] e4 Bool.true)), (3, (HB.mk [.lst cells n] e3 Bool.true)), (2, (HB.mk [.int .i64 x] e2 Bool.true)), (1, (HB.mk [.int .u64 m] e1 Bool.true)), (0, (HB.mk [.int .u8 c.1, .int .i64 c.2, .int .i64 c.3, .int .u8 c.4, .int .i64 c.5, .int .i64 c.6, .int .i64 c.7, .int .i64 c.8, .int .i64 c.9, .int .i64 c.10, .int .u64 c.11, .int .u64 c.12] e0 Bool.true))] 7 [(6, (LB.lop 0 (Option.none) zdu0 [35, 36] chA chB 5)), (5, LB.dfb)]
section
variable (c : Conf) (P : Int -> Int) (pr : Int -> Bool)
theorem t_itb (cells : List AV) (n : Nat) (f x m i : Int) (e0 e1 e2 e3 e4 : TypeId) (k : Ex -> St -> Bool) : run (cfg [S_check, (SA_size P pr)]) 100 none none (loopAt (fcode Tryz.prog 293) [0]) (I_it c.cells cells n f x m e0 e1 e2 e3 e4 i) (fun e s => k e (keepS [0, 1, 2, 7, 8] s)) false = (bif decide (i < (Int.ofNat n)) then (bif decide ((Int.ofNat n) = 0) then Bool.false else (((inside (Int.tmod (IntKind.wrap .i64 (f + i)) (Int.ofNat n)) n) && (Nat.beq (List.length cells) (n * 1))) && ((Nat.ble (((Int.toNat (Int.tmod (IntKind.wrap .i64 (f + i)) (Int.ofNat n))) * 1) + 1) (List.length cells)) && ((AV.isB (lget cells ((Int.toNat (Int.tmod (IntKind.wrap .i64 (f + i)) (Int.ofNat n))) * 1))) && (bif (!(AV.toB (lget cells ((Int.toNat (Int.tmod (IntKind.wrap .i64 (f + i)) (Int.ofNat n))) * 1)))) then (k Ex.normal (St.mk [.yld 6, .ptr 3 0, .ptr 4 0, .any, .any, .any, .any, .int .i64 (Int.ofNat n), .int .i64 (IntKind.wrap .i64 (i + 1)), .any, .any, .any, .any, .any, .any, .any, .any, .any, .any, .any, .any, .any, .any, .any, .any, .any] [] (zdu1 c cells e0 e1 e2 e3 e4 f m n x))) else (bif decide ((Int.tmod (IntKind.wrap .i64 (f + i)) (Int.ofNat n)) < 0) then Bool.false else (bif decide (c.3 = 0) then Bool.false else ((pr (ior .u64 m (ishl .u64 1 (Int.tmod (IntKind.wrap .i64 (f + i)) (Int.ofNat n))))) && (bif decide ((P (ior .u64 m (ishl .u64 1 (Int.tmod (IntKind.wrap .i64 (f + i)) (Int.ofNat n))))) = c.9) then (k Ex.ret (St.mk [.yld 6, .ptr 3 0, .ptr 4 0, .any, .any, .any, .any, .int .i64 (Int.ofNat n), .int .i64 i, .any, .any, .any, .any, .any, .any, .any, .any, .any, .any, .any, .any, .any, .any, .any, .any, .any] [] (Mem.mk [(4, (HB.mk [.int .i64 f] e4 Bool.true)), (3, (HB.mk [.lst cells n] e3 Bool.true)), (2, (HB.mk [.int .i64 (Int.tmod (IntKind.wrap .i64 ((Int.tmod (IntKind.wrap .i64 (f + i)) (Int.ofNat n)) + 1)) c.3)] e2 Bool.true)), (1, (HB.mk [.int .u64 (ior .u64 m (ishl .u64 1 (Int.tmod (IntKind.wrap .i64 (f + i)) (Int.ofNat n))))] e1 Bool.true)), (0, (HB.mk [.int .u8 c.1, .int .i64 c.2, .int .i64 c.3, .int .u8 c.4, .int .i64 c.5, .int .i64 c.6, .int .i64 c.7, .int .i64 c.8, .int .i64 c.9, .int .i64 c.10, .int .u64 c.11, .int .u64 c.12] e0 Bool.true))] 7 [(6, (LB.lop 2 (Option.some (Ex.exit 0)) zdu0 [35, 36] chA chB 5)), (5, LB.dfb)]))) else (k Ex.normal (St.mk [.yld 6, .ptr 3 0, .ptr 4 0, .any, .any, .any, .any, .int .i64 (Int.ofNat n), .int .i64 (IntKind.wrap .i64 (i + 1)), .any, .any, .any, .any, .any, .any, .any, .any, .any, .any, .any, .any, .any, .any, .any, .any, .any] [] (Mem.mk [(4, (HB.mk [.int .i64 f] e4 Bool.true)), (3, (HB.mk [.lst cells n] e3 Bool.true)), (2, (HB.mk [.int .i64 (Int.tmod (IntKind.wrap .i64 ((Int.tmod (IntKind.wrap .i64 (f + i)) (Int.ofNat n)) + 1)) c.3)] e2 Bool.true)), (1, (HB.mk [.int .u64 (ior .u64 m (ishl .u64 1 (Int.tmod (IntKind.wrap .i64 (f + i)) (Int.ofNat n))))] e1 Bool.true)), (0, (HB.mk [.int .u8 c.1, .int .i64 c.2, .int .i64 c.3, .int .u8 c.4, .int .i64 c.5, .int .i64 c.6, .int .i64 c.7, .int .i64 c.8, .int .i64 c.9, .int .i64 c.10, .int .u64 c.11, .int .u64 c.12] e0 Bool.true))] 7 [(6, (LB.lop 0 (Option.none) zdu0 [35, 36] chA chB 5)), (5, LB.dfb)])))))))))))) else (k (Ex.exit 0) (St.mk [.yld 6, .ptr 3 0, .ptr 4 0, .any, .any, .any, .any, .int .i64 (Int.ofNat n), .int .i64 i, .any, .any, .any, .any, .any, .any, .any, .any, .any, .any, .any, .any, .any, .any, .any, .any, .any] [] (zdu1 c cells e0 e1 e2 e3 e4 f m n x)))) := by kernel_rfl
theorem t_ch (cells : List AV) (n : Nat) (f : Int) (k : AV -> Bool) : runFM (cfg [S_check, (SA_size P pr)]) 300 183 [F_ch] [c.av, .lst cells n, .int .i64 f] k = (bif (!decide ((errC c) = 0)) then (k (AV.tup [.int .u64 0, .int .i64 0, .int .i64 (errC c)])) else (bif (!decide ((Int.ofNat n) = c.3)) then (k (AV.tup [.int .u64 0, .int .i64 0, .int .i64 2])) else (bif decide (f < 0) then (k (AV.tup [.int .u64 0, .int .i64 0, .int .i64 2])) else (bif decide (f >= c.3) then (k (AV.tup [.int .u64 0, .int .i64 0, .int .i64 2])) else ((decide ((errC c) = 0) && Bool.true) && (((BasZChoose.chOk c cells n f) && (decide (f = f) && Bool.true)) && ((k (AV.tup [.int .u64 (BasZChoose.chMask c cells f (Int.toNat c.3)), .int .i64 (BasZChoose.chNext c cells f (Int.toNat c.3)), .int .i64 0])) && (k (AV.tup [.int .u64 (BasZChoose.chMask c cells f (Int.toNat c.3)), .int .i64 (BasZChoose.chNext c cells f (Int.toNat c.3)), .int .i64 0]))))))))) := by kernel_rfl
theorem t_ch0 (f : Int) (k : AV -> Bool) : runFM (cfg [S_check, (SA_size P pr)]) 300 183 [F_ch] [c.av, .es, .int .i64 f] k = (bif (!decide ((errC c) = 0)) then (k (AV.tup [.int .u64 0, .int .i64 0, .int .i64 (errC c)])) else (bif (!decide (0 = c.3)) then (k (AV.tup [.int .u64 0, .int .i64 0, .int .i64 2])) else (bif decide (f < 0) then (k (AV.tup [.int .u64 0, .int .i64 0, .int .i64 2])) else (decide (f >= c.3) && (k (AV.tup [.int .u64 0, .int .i64 0, .int .i64 2])))))) := by kernel_rfl
theorem t_ch1 (f : Int) (k : AV -> Bool) : runFM (cfg [S_check, (SA_size P pr)]) 300 183 [F_ch] [c.av, .nils, .int .i64 f] k = (bif (!decide ((errC c) = 0)) then (k (AV.tup [.int .u64 0, .int .i64 0, .int .i64 (errC c)])) else (bif (!decide (0 = c.3)) then (k (AV.tup [.int .u64 0, .int .i64 0, .int .i64 2])) else (bif decide (f < 0) then (k (AV.tup [.int .u64 0, .int .i64 0, .int .i64 2])) else (decide (f >= c.3) && (k (AV.tup [.int .u64 0, .int .i64 0, .int .i64 2])))))) := by kernel_rfl
end
end
end Go.Bas.BasZChoose
end
section
namespace Go.Bas.BasZChoose2
noncomputable section
open BasZPop Go.RowKit Go.Proofs BasZBase BasZChoose
set_option maxHeartbeats 1000000
theorem chOk_true {c : Conf} {cells : List AV} {n : Nat} {f : Int} : chOk c cells n f = true ↔ c.OkP /\ cells.length = n /\ cells.all AV.isB = true /\ (n : Int) = c.thr /\ 0 <= f /\ f < c.thr := by
 simp only [chOk, Bool.and_eq_true, decide_eq_true_eq, beq_iff, ok_true]
theorem iorN {m t : Nat} (hm : m < 65536) (ht : t < 16) (h : m.testBit t = false) : ior .u64 (m : Int) (ishl .u64 1 (t : Int)) = ((m + 2 ^ t : Nat) : Int) := by
 have hp : 2 ^ t < 2 ^ 16 := Nat.pow_lt_pow_right (by decide) ht
 have e1 : ishl .u64 1 (t : Int) = ((2 ^ t : Nat) : Int) := by
  unfold ishl; have h1 : min (t : Int).toNat IntKind.u64.bits = t := by simp [IntKind.bits]; omega
  rw [h1, Int.one_mul, <- wrapN (a := 2 ^ t) (by omega)]
  congr 1
 rw [e1]
 unfold ior
 rw [held_eq]
 have e : (BitVec.ofInt IntKind.u64.bits (m : Int) ||| BitVec.ofInt IntKind.u64.bits ((2 ^ t : Nat) : Int)).toNat = m ||| 2 ^ t := by
  show (BitVec.ofInt 64 (m : Int) ||| BitVec.ofInt 64 ((2 ^ t : Nat) : Int)).toNat = m ||| 2 ^ t
  rw [BitVec.toNat_or, BitVec.ofInt_natCast, BitVec.ofInt_natCast, BitVec.toNat_ofNat, BitVec.toNat_ofNat, Nat.mod_eq_of_lt (by omega), Nat.mod_eq_of_lt (by omega)]
 rw [e, or_bit h]
 exact wrapN (by omega)
theorem lget_isB {cells : List AV} (h : cells.all AV.isB = true) {t : Nat} (ht : t < cells.length) : (lget cells t).isB = true := by
 rw [lget_eq, List.getD_eq_getElem?_getD, List.getElem?_eq_getElem ht]
 exact List.all_eq_true.1 h _ (List.getElem_mem ht)
structure At (c : Conf) (cells : List AV) (n : Nat) (f : Int) (i : Nat) : Prop where
 tm : Int.tmod (IntKind.wrap .i64 (f + (i : Int))) (n : Int) = ((chp n f.toNat i : Nat) : Int)
 lt : chp n f.toNat i < n
 wi : IntKind.wrap .i64 ((i : Int) + 1) = ((i + 1 : Nat) : Int)
 ins : inside ((chp n f.toNat i : Nat) : Int) n = true
 isb : (lget cells (chp n f.toNat i)).isB = true
 nx : Int.tmod (IntKind.wrap .i64 (((chp n f.toNat i : Nat) : Int) + 1)) (n : Int) = (((f.toNat + (i + 1)) % n : Nat) : Int)
theorem at_ {c : Conf} {cells : List AV} {n : Nat} {f : Int} (h : chOk c cells n f = true) {i : Nat} (hi : i < n) : At c cells n f i := by
 obtain ⟨ho, hl, hb, hn, hf0, hf⟩ := chOk_true.1 h
 simp only [Conf.OkP] at ho
 obtain ⟨F, rfl⟩ := Int.eq_ofNat_of_zero_le hf0
 have hn0 : 0 < n := by omega
 have hlt : chp n F i < n := Nat.mod_lt _ hn0
 have htn : (F : Int).toNat = F := Int.toNat_natCast F
 rw [<- hn] at hf
 refine ⟨?_, by rw [htn]; exact hlt, wrapS (a := i + 1) (by omega), ?_, ?_, ?_⟩
 ·have : (F : Int) + (i : Int) = ((F + i : Nat) : Int) := by omega
  rw [htn, this, wrapS (by omega), Int.tmod_eq_emod_of_nonneg (Int.natCast_nonneg _)]
  exact (Int.natCast_emod _ _).symm
 ·rw [htn]
  simp only [inside, Bool.and_eq_true, decide_eq_true_eq]; omega
 ·rw [htn]
  exact lget_isB hb (by omega)
 ·have : (((chp n F i : Nat) : Int)) + 1 = ((chp n F i + 1 : Nat) : Int) := by omega
  rw [htn, this, wrapS (by omega), Int.tmod_eq_emod_of_nonneg (Int.natCast_nonneg _), <- Int.natCast_emod]
  unfold chp; rw [Nat.mod_add_mod, Nat.add_assoc]
theorem hC : (cfg [S_check, SA_size popS prS]).Ok := cfg_ok base (sums_cons s_check (sums_cons s_sizeA sums_nil))
theorem it_code : fcode Tryz.prog 293 = .seq (sel [false] (fcode Tryz.prog 293)) (.block 0 (.loop (loopAt (fcode Tryz.prog 293) [0]))) := by kernel_rfl
theorem ch_code : loopN (fcode Tryz.prog 183) 0 = .rangeFunc (.tmp 34) #[35, 36] chA chB := by kernel_rfl
section
variable {c : Conf} {cells : List AV} {f : Int}
theorem chR_take {i : Nat} (h1 : (lget cells (chp c.thr.toNat f.toNat i)).toB = true) (h2 : (chR c cells f i).many < c.batch.toNat) :
  (chR c cells f (i + 1)).mask = (chR c cells f i).mask + 2 ^ chp c.thr.toNat f.toNat i /\ (chR c cells f (i + 1)).many = (chR c cells f i).many + 1 /\ (chR c cells f (i + 1)).last = i + 1 := by
 have := chs_take (p := cp cells) (thr := c.thr.toNat) (f := f.toNat) (b := c.batch.toNat) (i := i) h1 h2
 unfold chR
 rw [this]
 exact ⟨rfl, rfl, rfl⟩
theorem chR_skip {i : Nat} (h : (lget cells (chp c.thr.toNat f.toNat i)).toB = false \/ ¬ (chR c cells f i).many < c.batch.toNat) : chR c cells f (i + 1) = chR c cells f i := chs_skip h
theorem ch_facts (h : chOk c cells c.thr.toNat f = true) {i : Nat} (hi : i < c.thr.toNat) : (chR c cells f i).mask < 65536 /\ chp c.thr.toNat f.toNat i < 16 /\ (chR c cells f i).mask.testBit (chp c.thr.toNat f.toNat i) = false /\ (chR c cells f i).many <= 16 := by
 obtain ⟨ho, hl, hb, hn, hf0, hf⟩ := chOk_true.1 h
 simp only [Conf.OkP] at ho
 have h0 : 0 < c.thr.toNat := by omega
 have h16 : c.thr.toNat <= 16 := by omega
 refine ⟨?_, ?_, chs_unset h0 hi, ?_⟩
 ·have h1 : (chR c cells f i).mask < 2 ^ c.thr.toNat := chs_lt (p := cp cells) (f := f.toNat) (b := c.batch.toNat) h0 (Nat.le_of_lt hi)
  have h2 : 2 ^ c.thr.toNat <= 2 ^ 16 := Nat.pow_le_pow_right (by decide) h16
  omega
 ·have := chp_lt (f := f.toNat) h0 i
  omega
 ·have := (chs_bits (p := cp cells) (f := f.toNat) (b := c.batch.toNat) h0 i (Nat.le_of_lt hi))
  unfold chR; omega
theorem ch_cnt (h : chOk c cells c.thr.toNat f = true) {i : Nat} (hi : i <= c.thr.toNat) : cnt 64 (chR c cells f i).mask = (chR c cells f i).many := by
 obtain ⟨ho, hl, hb, hn, hf0, hf⟩ := chOk_true.1 h
 simp only [Conf.OkP] at ho
 exact (chs_bits (p := cp cells) (f := f.toNat) (b := c.batch.toNat) (by omega) i hi).2.2.2.2 (by omega)
end
theorem G_ch_ok : ∀ (cc cells : List AV) (n : Nat) (f x m : Int) (e0 e1 e2 e3 e4 : TypeId) (k : Ex -> St -> Bool), G_ch cc cells n f x m e0 e1 e2 e3 e4 k = true ->
  AWq (cfg [S_check, SA_size popS prS]) (loopN (fcode Tryz.prog 183) 0) (I_ch cc cells n f x m e0 e1 e2 e3 e4) (fun e s => k e s = true) := by
 intro cc cells n f x m e0 e1 e2 e3 e4 k hG
 unfold G_ch at hG
 split at hG
 case h_2 => cases hG
 rename_i c hc
 have hcc : cc = c.cells := AV.agg.inj (confOf_some hc)
 subst hcc
 rcases of_cond2 hG with ⟨hok, hG2⟩ | ⟨_, hG2⟩
 case inr => cases hG2
 clear hG
 simp only [Bool.and_eq_true, eqi, decide_eq_true_eq] at hok hG2
 obtain ⟨hok, rfl, rfl⟩ := hok
 obtain ⟨k1, k2⟩ := hG2
 obtain ⟨ho, hl, hb, hn, hf0, hf⟩ := chOk_true.1 hok
 obtain rfl : n = c.thr.toNat := by omega
 have ho' := ho
 simp only [Conf.OkP] at ho'
 have hb0 : 0 < c.batch.toNat := by omega
 obtain ⟨fn, hfn, hbd, hnt, hrs⟩ := fn_is (P := Tryz.prog) (f := 293) (n := 26) (r := 0) (by kernel_rfl)
 rw [ch_code]
 refine AWq.rangeF hC (f := 293) (first := []) (cap := [.ptr 3 0, .ptr 4 0]) rfl hfn hbd rfl rfl rfl (List.eq_nil_of_length_eq_zero hrs) ?_
 rw [hnt, it_code]
 show AWp _ none _ ⟨padL [.yld 6, .ptr 3 0, .ptr 4 0] 26, [], M_it 0 none c.cells cells c.thr.toNat x x 0 e0 e1 e2 e3 e4⟩ _
 refine AWp.seq (AWp.runK hC [0, 1, 2, 7, 8] (n := 100) fun k' hk => ?_)
 refine (t_it0 c.cells popS prS cells c.thr.toNat x x 0 0 e0 e1 e2 e3 e4 k').trans ?_
 refine hk .normal _ ?_
 have hst : I_it c.cells cells c.thr.toNat x x 0 e0 e1 e2 e3 e4 0 = I_it c.cells cells c.thr.toNat x (chNext c cells x 0) (chMask c cells x 0) e0 e1 e2 e3 e4 ((0 : Nat) : Int) := by
  have : chNext c cells x 0 = x := by
   show (((x.toNat + 0) % c.thr.toNat : Nat) : Int) = x; rw [Nat.add_zero, Nat.mod_eq_of_lt (by omega)]
   omega
  rw [this]; rfl
 show AWp _ none _ (I_it c.cells cells c.thr.toNat x x 0 e0 e1 e2 e3 e4 0) _
 rw [hst]
 refine AWp.block (AWp.mono ?_ (AWp.loopL (K := fun e s => (e = .exit 0 \/ e = .ret) /\ s.ds = [] /\ afterK (cfg [S_check, SA_size popS prS]) (I_ch c.cells cells c.thr.toNat x x 0 e0 e1 e2 e3 e4) k 6 [5] (msort s.m) = true)
  (fun i : { i : Nat // i <= c.thr.toNat /\ (chR c cells x i).many < c.batch.toNat } => I_it c.cells cells c.thr.toNat x (chNext c cells x i.1) (chMask c cells x i.1) e0 e1 e2 e3 e4 ((i.1 : Nat) : Int)) (fun i => c.thr.toNat - i.1) ?_ ⟨0, Nat.zero_le _, hb0⟩))
 ·rintro e s ⟨rfl | rfl, h1, h2⟩
  ·exact ⟨fun _ => ⟨.inr rfl, h1, h2⟩, fun h => absurd rfl h⟩
  ·exact ⟨.inl rfl, h1, h2⟩
 ·rintro ⟨i, hi, hm⟩
  refine AWp.runK hC [0, 1, 2, 7, 8] (n := 100) fun k' hk => ?_
  refine (t_itb c popS prS cells c.thr.toNat x (chNext c cells x i) (chMask c cells x i) ((i : Nat) : Int) e0 e1 e2 e3 e4 k').trans ?_; refine condI (fun h => ?_) (fun h => ?_)
  ·have hlt : i < c.thr.toNat := by have := of_decide_eq_true h; exact Int.ofNat_lt.1 this
   have A := at_ hok hlt; obtain ⟨f1, f2, f3, f4⟩ := ch_facts hok hlt; have htm := A.tm; rw [show Int.ofNat c.thr.toNat = ((c.thr.toNat : Nat) : Int) from rfl, htm]
   refine condI (fun h0 => ?_) (fun _ => ?_)
   ·have := of_decide_eq_true h0; omega
   simp only [Int.toNat_natCast, Nat.mul_one]; refine andI (by rw [A.ins, Bool.true_and]; exact (beq_iff _ _).2 (by omega)) (andI (Nat.ble_eq_true_of_le (by have := A.lt; omega)) (andI A.isb (condI (fun hp => ?_) (fun hp => ?_))))
   ·have hp : (lget cells (chp c.thr.toNat x.toNat i)).toB = false := by simpa using hp
    have e := chR_skip (c := c) (cells := cells) (f := x) (i := i) (.inl hp); rw [A.wi]; refine hk .normal _ ⟨⟨i + 1, hlt, by rw [e]; exact hm⟩, by show c.thr.toNat - (i + 1) < c.thr.toNat - i; omega, ?_⟩
    have q1 : chNext c cells x (i + 1) = chNext c cells x i := by unfold chNext; rw [e]
    have q2 : chMask c cells x (i + 1) = chMask c cells x i := by unfold chMask; rw [e]
    show LessS _ _ (I_it c.cells cells c.thr.toNat x (chNext c cells x (i + 1)) (chMask c cells x (i + 1)) e0 e1 e2 e3 e4 ((i + 1 : Nat) : Int)); rw [q1, q2]; exact LessS.refl _
   ·have hp : (lget cells (chp c.thr.toNat x.toNat i)).toB = true := by simpa using hp
    obtain ⟨g1, g2, g3⟩ := chR_take hp hm
    have m1 : ior .u64 (chMask c cells x i) (ishl .u64 1 ((chp c.thr.toNat x.toNat i : Nat) : Int)) = chMask c cells x (i + 1) := by
     unfold chMask; rw [g1]; exact iorN f1 f2 f3
    have n1 : Int.tmod (IntKind.wrap .i64 (((chp c.thr.toNat x.toNat i : Nat) : Int) + 1)) c.3 = chNext c cells x (i + 1) := by
     unfold chNext; rw [g3, <- A.nx, hn]
    have p1 : popS (chMask c cells x (i + 1)) = (((chR c cells x i).many + 1 : Nat) : Int) := by
     unfold popS chMask; rw [Int.toNat_natCast, ch_cnt hok hlt, g2]
    have pr : (prS (chMask c cells x (i + 1))) = true := by
     have : (chR c cells x (i + 1)).mask < 2 ^ c.thr.toNat := chs_lt (p := cp cells) (f := x.toNat) (b := c.batch.toNat) (by omega) hlt
     have h2 : 2 ^ c.thr.toNat <= 2 ^ 16 := Nat.pow_le_pow_right (by decide) (by omega)
     have h3 : (chR c cells x (i + 1)).mask < 65536 := by omega
     unfold prS chMask; rw [Bool.and_eq_true, decide_eq_true_eq, decide_eq_true_eq]; exact ⟨Int.natCast_nonneg _, by omega⟩
    rw [m1, n1, p1, pr, A.wi]; refine condI (fun h0 => ?_) (fun _ => condI (fun h0 => ?_) (fun _ => andI rfl (condI (fun hf => ?_) (fun hf => ?_))))
    ·have := of_decide_eq_true h0; omega
    ·have := of_decide_eq_true h0; omega
    ·have hf := of_decide_eq_true hf
     have hfull : chR c cells x c.thr.toNat = chR c cells x (i + 1) := by
      have := chs_full (p := cp cells) (thr := c.thr.toNat) (f := x.toNat) (b := c.batch.toNat) (i := i + 1) (by show ¬ (chR c cells x (i + 1)).many < _; omega) (c.thr.toNat - (i + 1))
      rw [show i + 1 + (c.thr.toNat - (i + 1)) = c.thr.toNat by omega] at this
      exact this
     have q1 : chNext c cells x c.thr.toNat = chNext c cells x (i + 1) := by unfold chNext; rw [hfull]
     have q2 : chMask c cells x c.thr.toNat = chMask c cells x (i + 1) := by unfold chMask; rw [hfull]
     refine hk .ret _ ⟨_, LessS.refl _, .inr rfl, rfl, ?_⟩; unfold J_ch at k2; rw [q1, q2] at k2; exact k2
    ·have hf := of_decide_eq_false hf
     refine hk .normal _ ⟨⟨i + 1, hlt, by rw [g2]; omega⟩, by show c.thr.toNat - (i + 1) < c.thr.toNat - i; omega, ?_⟩
     exact LessS.refl _
  ·have hge : i = c.thr.toNat := by have := of_decide_eq_false h; have : ¬ i < c.thr.toNat := fun hh => this (Int.ofNat_lt.2 hh); omega
   subst hge; refine hk (.exit 0) _ ⟨_, LessS.refl _, .inl rfl, rfl, ?_⟩; exact k1
theorem ch_loops : loopsOf (fcode Tryz.prog 183) = [loopN (fcode Tryz.prog 183) 0] := by kernel_rfl
theorem ch_ok : LoopsOk (cfg [S_check, SA_size popS prS]) (loopsOf (fcode Tryz.prog 183)) [F_ch] := by
 rw [ch_loops]
 exact ⟨fun st k h => P_ch_ok G_ch_ok st k h, trivial⟩
def S_ch : Sum := (183, Fch)
theorem chErr0 {c : Conf} {n : Nat} {f : Int} (h1 : c.ok = true) (h2 : (n : Int) = c.thr /\ 0 <= f /\ f < c.thr) : chErr c n f = 0 := by simp [chErr, h1, h2]
theorem chErr2 {c : Conf} {n : Nat} {f : Int} (h1 : c.ok = true) (h2 : ¬ ((n : Int) = c.thr /\ 0 <= f /\ f < c.thr)) : chErr c n f = 2 := by simp [chErr, h1, h2]
theorem chErr40 {c : Conf} {n : Nat} {f : Int} (h1 : c.ok = false) : chErr c n f = 40 := by simp [chErr, h1]
theorem chAV_of {c : Conf} {cells : List AV} {n : Nat} {f e : Int} (h : chErr c n f = e) (he : ¬ e = 0) : chAV c cells n f = .tup [.int .u64 0, .int .i64 0, .int .i64 e] := by
 simp [chAV, zif, h, he]
theorem chAV_ok {c : Conf} {cells : List AV} {n : Nat} {f : Int} (h : chErr c n f = 0) : chAV c cells n f = .tup [.int .u64 (chMask c cells f c.thr.toNat), .int .i64 (chNext c cells f c.thr.toNat), .int .i64 0] := by
 simp [chAV, zif, h]
theorem s_ch : SumOk Tryz.prog (gmap gs) S_ch := fun args r hr => by
 simp only [S_ch] at hr
 unfold Fch at hr
 split at hr
 case h_2 => cases hr
 rename_i a b f
 split at hr
 case h_2 => cases hr
 rename_i c hc
 cases confOf_some hc
 split at hr
 ·rename_i cells n
  simp only [Option.some.injEq, Prod.mk.injEq, Bool.and_eq_true, beq_iff] at hr; obtain ⟨⟨h1, h2⟩, rfl⟩ := hr; refine acalls_eqM base (sums_cons s_check (sums_cons s_sizeA sums_nil)) (n := 300) (fs := [F_ch]) (by kernel_rfl) ch_ok fun k hk => ?_
  refine (t_ch c popS prS cells n f k).trans ?_; cases ho : c.ok with
  | false =>
   have he : errC c = 40 := by simp [errC, ho]
   rw [chAV_of (chErr40 ho) (by decide)] at hk
   rw [he]; exact hk
  | true =>
   have he : errC c = 0 := by simp [errC, ho]
   rw [he]
   by_cases hh : (n : Int) = c.thr /\ 0 <= f /\ f < c.thr
   ·rw [chAV_ok (chErr0 ho hh)] at hk
    have a1 : (Int.ofNat n) = c.3 := hh.1; have a2 : ¬ f < 0 := by omega
    have a3 : ¬ f >= c.3 := by show ¬ f >= c.thr; omega
    have a4 : chOk c cells n f = true := chOk_true.2 ⟨ok_true.1 ho, h1, h2, hh⟩; simp only [a1, a2, a3, a4, decide_true, decide_false, Bool.not_true, Bool.not_false, cond_true, cond_false, Bool.true_and, Bool.and_true]; rw [Bool.and_self]; exact hk
   ·rw [chAV_of (chErr2 ho hh) (by decide)] at hk
    refine condI (fun h => by simp at h) (fun _ => condI (fun _ => hk) (fun a1 => condI (fun _ => hk) (fun a2 => condI (fun _ => hk) (fun a3 => absurd ?_ hh))))
    simp only [Bool.not_eq_false', decide_eq_true_eq, decide_eq_false_iff_not] at a1 a2 a3; exact ⟨a1, by omega, by have : ¬ f >= c.thr := a3; omega⟩
 ·simp only [Option.some.injEq, Prod.mk.injEq, true_and] at hr
  obtain rfl := hr; refine acalls_eqM base (sums_cons s_check (sums_cons s_sizeA sums_nil)) (n := 300) (fs := [F_ch]) (by kernel_rfl) ch_ok fun k hk => ?_
  refine (t_ch0 c popS prS f k).trans ?_; cases ho : c.ok with
  | false =>
   have he : errC c = 40 := by simp [errC, ho]
   rw [chAV_of (chErr40 ho) (by decide)] at hk
   rw [he]; exact hk
  | true =>
   have he : errC c = 0 := by simp [errC, ho]
   have ht := ok_true.1 ho; simp only [Conf.OkP] at ht; rw [chAV_of (chErr2 ho (by omega)) (by decide)] at hk
   rw [he]; have a1 : ¬ (0 : Int) = c.3 := by show ¬ (0 : Int) = c.thr; omega
   simp only [a1, decide_true, decide_false, Bool.not_true, Bool.not_false, cond_true, cond_false]; exact hk
 ·simp only [Option.some.injEq, Prod.mk.injEq, true_and] at hr
  obtain rfl := hr; refine acalls_eqM base (sums_cons s_check (sums_cons s_sizeA sums_nil)) (n := 300) (fs := [F_ch]) (by kernel_rfl) ch_ok fun k hk => ?_
  refine (t_ch1 c popS prS f k).trans ?_; cases ho : c.ok with
  | false =>
   have he : errC c = 40 := by simp [errC, ho]
   rw [chAV_of (chErr40 ho) (by decide)] at hk
   rw [he]; exact hk
  | true =>
   have he : errC c = 0 := by simp [errC, ho]
   have ht := ok_true.1 ho; simp only [Conf.OkP] at ht; rw [chAV_of (chErr2 ho (by omega)) (by decide)] at hk
   rw [he]; have a1 : ¬ (0 : Int) = c.3 := by show ¬ (0 : Int) = c.thr; omega
   simp only [a1, decide_true, decide_false, Bool.not_true, Bool.not_false, cond_true, cond_false]; exact hk
 ·cases hr
end
end Go.Bas.BasZChoose2
end
section
namespace Go.Bas.BasZIdx2
noncomputable section
open Go.RowKit Go.Proofs BasZBase BasZIdx
theorem ix_code : loopN (fcode Tryz.prog 257) 0 = .loop (loopAt (fcode Tryz.prog 257) [0]) := by kernel_rfl
theorem ix_loops : loopsOf (fcode Tryz.prog 257) = [loopN (fcode Tryz.prog 257) 0] := by kernel_rfl
theorem srch_ge {cells : List AV} {v : Bool} : ∀ {q i : Nat}, srch cells v q i = -1 \/ 0 <= srch cells v q i
 | 0, _ => .inl rfl
 | q + 1, i => by
  show cond _ _ _ = _ \/ 0 <= cond _ _ _; cases decide (v = (lget cells i).toB) with
  | true => exact .inr (by show (0 : Int) <= (i : Int); omega)
  | false => exact srch_ge (q := q) (i := i + 1)
theorem srch_neg {cells : List AV} {v : Bool} {q i : Nat} (h : srch cells v q i < 0) : srch cells v q i = -1 := by
 rcases srch_ge (cells := cells) (v := v) (q := q) (i := i) with e | e
 ·exact e
 ·omega
theorem hI : (cfg []).Ok := cfg_ok base sums_nil
theorem G_ix_ok : ∀ (cells : List AV) (n : Nat) (v : Bool) (w i : Int) (k : Ex -> St -> Bool), G_ix cells n v w i k = true -> AWq (cfg []) (loopN (fcode Tryz.prog 257) 0) (I_ix cells n v w i) (fun e s => k e s = true) := by
 intro cells n v w i k hG
 unfold G_ix at hG
 rcases of_cond2 hG with ⟨hok, hG2⟩ | ⟨_, hG2⟩
 case inr => cases hG2
 clear hG
 simp only [Bool.and_eq_true, eqw, decide_eq_true_eq, ixOk, beq_iff] at hok
 obtain ⟨⟨hl, hb, h16⟩, rfl, rfl⟩ := hok
 have h16 : n <= 16 := Nat.le_of_ble_eq_true h16
 rw [ix_code]
 show AWq _ _ (I_ix cells n v (n : Int) ((0 : Nat) : Int)) _
 refine AWq.loop (K := fun e s => k e s = true) (fun i : { i : Nat // i <= n /\ srch cells v (n - i) i = srch cells v n 0 } => I_ix cells n v (n : Int) ((i.1 : Nat) : Int)) (fun i => n - i.1) ?_ ⟨0, Nat.zero_le _, rfl⟩
 rintro ⟨i, hi, hs⟩
 refine AWq.runK hI [0, 1, 4, 7, 8] (n := 100) fun k' hk => ?_
 refine (t_ixb cells n v (n : Int) ((i : Nat) : Int) k').trans ?_
 have e0 : Int.toNat ((i : Nat) : Int) * 1 = i := by rw [Int.toNat_natCast, Nat.mul_one]
 refine condI (fun h => ?_) (fun h => ?_)
 ·have hlt : i < n := by have := of_decide_eq_true h; omega
  have hsu : srch cells v (n - i) i = cond (decide (v = (lget cells i).toB)) (i : Int) (srch cells v (n - (i + 1)) (i + 1)) := by
   rw [show n - i = (n - (i + 1)) + 1 by omega]
   rfl
  have e3 : IntKind.wrap .i64 (((i : Nat) : Int) + 1) = ((i + 1 : Nat) : Int) := wrapS (a := i + 1) (by omega)
  rw [e0, e3]; refine andI (andI (by simp only [inside, Bool.and_eq_true, decide_eq_true_eq]; omega) ((beq_iff _ _).2 (by rw [hl, Nat.mul_one]))) (andI (Nat.ble_eq_true_of_le (by omega)) (andI (BasZChoose2.lget_isB hb (by omega)) (condI (fun hv => ?_) (fun hv => ?_))))
  ·have hr : srch cells v n 0 = (i : Int) := by rw [<- hs, hsu, hv]; rfl
   have hneg : neg cells v n = false := by
    unfold neg; rw [hr]; exact decide_eq_false (by omega)
   rw [hneg, hr] at hG2; exact hk .ret _ ⟨_, LessS.fill rfl (AllL_cons rfl AllL_nil) rfl rfl, hG2⟩
  ·exact hk .normal _ ⟨⟨i + 1, hlt, by rw [<- hs, hsu, hv]; rfl⟩, by show n - (i + 1) < n - i; omega, Less.refl _⟩
 ·have hge : i = n := by have := of_decide_eq_false h; omega
  subst hge; have hr : srch cells v i 0 = -1 := by rw [<- hs, Nat.sub_self]; rfl
  have hneg : neg cells v i = true := by
   unfold neg; rw [hr]; rfl
  rw [hneg] at hG2; exact hk (.exit 0) _ ⟨_, LessS.refl _, hG2⟩
theorem ix_ok : LoopsOk (cfg []) (loopsOf (fcode Tryz.prog 257)) [F_ix] := by
 rw [ix_loops]
 exact ⟨fun st k h => P_ix_ok G_ix_ok st k h, trivial⟩
def S_ix : Sum := (257, Fix)
theorem s_ix : SumOk Tryz.prog (gmap gs) S_ix := fun args r hr => by
 simp only [S_ix] at hr
 unfold Fix at hr
 split at hr
 ·rename_i cells n v
  simp only [Option.some.injEq, Prod.mk.injEq] at hr; obtain ⟨hp, rfl⟩ := hr; refine acalls_eqM base sums_nil (n := 300) (fs := [F_ix]) (by kernel_rfl) ix_ok fun k hk => ?_
  refine (t_ix cells n v k).trans ?_; have e1 : eqw (Int.ofNat n) (Int.ofNat n) = true := decide_eq_true rfl; rw [hp, e1]; cases hn : neg cells v n with
  | true =>
   have hr : srch cells v n 0 = -1 := by
    have h0 : srch cells v n 0 < 0 := of_decide_eq_true hn; exact srch_neg h0
   rw [hr] at hk; exact hk
  | false => exact hk
 ·cases hr
theorem t_ct (cells : List AV) (n : Nat) (v : Bool) (k : AV -> Bool) : runF (cfg [S_ix]) 300 178 [.lst cells n, .bool v] k false = (ixOk cells n && k (.bool (decide (srch cells v n 0 >= 0)))) := by kernel_rfl
def S_ct : Sum := (178, Fct)
theorem s_ct : SumOk Tryz.prog (gmap gs) S_ct := fun args r hr => by
 simp only [S_ct] at hr
 unfold Fct at hr
 split at hr
 ·rename_i cells n v
  simp only [Option.some.injEq, Prod.mk.injEq] at hr; obtain ⟨hp, rfl⟩ := hr; refine acalls_eq base (sums_cons s_ix sums_nil) (n := 300) fun k hk => (t_ct cells n v k).trans ?_
  rw [hp]; exact hk
 ·cases hr
end
end Go.Bas.BasZIdx2
end
section
namespace Go.Bas.BasZWrite
noncomputable section
open Go.RowKit Go.Proofs
open BasZBase BasZOp BasZRank BasZRank2 BasZOk BasZProg BasZSign BasZRead BasZReg2 BasZAnn BasZWork BasZWnx BasZIdx BasZIdx2 BasZChoose BasZChoose2 BasZStage5 BasZCounts BasZPop
def pRn (r : WRn) : Bool := pW r.s r.w.dsc && (decide (errC r.c = 0) && (Nat.beq r.w.ps.length r.w.q && (r.w.ps.all AV.isB && posO r.w.o)))
theorem rn_W {r : WRn} (h : pRn r = true) : pW r.s r.w.dsc = true := and_left h
theorem rn_e {r : WRn} (h : pRn r = true) : decide (errC r.c = 0) = true := and_left (and_right h)
theorem rn_O {r : WRn} (h : pRn r = true) : posO r.w.o = true := and_right (and_right (and_right (and_right h)))
theorem rn_P {r : WRn} (h : pRn r = true) : (Nat.beq r.w.ps.length r.w.q && r.w.ps.all AV.isB) = true := by
 have h1 := and_left (and_right (and_right h))
 have h2 := and_left (and_right (and_right (and_right h)))
 rw [h1, h2]
 rfl
theorem rn_I {r : WRn} (h : pRn r = true) (hq : decide (Int.ofNat r.w.q = r.c.thr) = true) : ixOk r.w.ps r.w.q = true := by
 have h1 := and_left (and_right (and_right h))
 have h2 := and_left (and_right (and_right (and_right h)))
 have hO := ok_true.1 (okP (rn_e h))
 simp only [Conf.OkP] at hO
 have hq : (r.w.q : Int) = r.c.thr := of_decide_eq_true hq
 unfold ixOk
 rw [h1, h2, show Nat.ble r.w.q 16 = true from Nat.ble_eq_true_of_le (by omega)]
 rfl
theorem rn_n {r : WRn} (h : pRn r = true) : decide (IntKind.wrap .u64 r.c.ins = 0) = false := by
 have hO := ok_true.1 (okP (rn_e h))
 simp only [Conf.OkP] at hO
 have : IntKind.wrap .u64 r.c.ins = r.c.ins := wrap_eq (by simp [Lit.wf, IntKind.min, IntKind.max, IntKind.signed, IntKind.bits]; omega)
 rw [this]
 exact decide_eq_false (by omega)
def pWt (w : Wtr) : Bool := posO w.o && (Nat.beq w.ps.length w.q && (w.ps.all AV.isB && (decide (0 <= w.dsc.tag) && (decide (0 <= w.ctl.tag) && lt64 w.ctl.a))))
theorem rn_of {w : Wtr} {c : Conf} {t : Int} {s : Stg} {jk jn : Int} (hs : pS s = true) (hm : lt64 s.mask = true) (he : decide (errC c = 0) = true) (h : pWt w = true) : pRn ⟨w, c, t, s, jk, jn⟩ = true := by
 unfold pWt at h
 unfold pRn pW
 simp only [Bool.and_eq_true] at h ⊢
 exact ⟨⟨hs, hm, h.2.2.2.1⟩, he, h.2.1, h.2.2.1, h.1⟩
theorem w64_pos (n : Int) : 0 <= IntKind.wrap .u64 n := by
 simp only [IntKind.wrap, IntKind.signed, IntKind.bits]
 (try simp) <;> omega
theorem wt_m {w : Wtr} (h : pWt w = true) : lt64 w.ctl.a = true := by
 unfold pWt at h
 simp only [Bool.and_eq_true] at h
 exact h.2.2.2.2.2
theorem wt_s {w : Wtr} (n : Int) (h : pWt w = true) : (decide (0 <= IntKind.wrap .u64 n) && decide (0 <= w.ctl.a)) = true := by
 have := of_decide_eq_true (wt_m h)
 rw [decide_eq_true (w64_pos n), decide_eq_true this.1]
 rfl
theorem thr_pos {c : Conf} (he : decide (errC c = 0) = true) : decide (0 <= c.thr) = true := by
 have hO := ok_true.1 (okP he)
 simp only [Conf.OkP] at hO
 exact decide_eq_true (by omega)
theorem wt_O {w : Wtr} (h : pWt w = true) : posO w.o = true := and_left h
def sp_wlead : Sp := sB
def out_wlead (r : WRn) : AV := outV (cfg []) 600 106 [(WRn.av r)]
def f_wlead_0 (r : WRn) : Bool := AV.toB (out_wlead r)
def o_wlead (r : WRn) : AV := .bool (f_wlead_0 r)
def S_wlead : Sum := (106, on1 rWrn (fun r => true) (fun r => o_wlead r))
theorem oe_wlead (r : WRn) : sp_wlead.bd (out_wlead r) = o_wlead r := by kernel_rfl
abbrev zdx0 := true
theorem t_wlead (r : WRn) : runF (cfg []) 600 106 [(WRn.av r)] sp_wlead.has false = true := Eq.trans (b := (br (decide (r.1.1 = 4)) (br (decide (r.5 = 5)) zdx0 zdx0) (br (decide (r.1.1 = 5)) (br (decide (r.5 = 5)) zdx0 zdx0) (br (decide (r.1.1 = 6)) (br (decide (r.5 = 5)) zdx0 zdx0) (br (decide (r.1.1 = 7)) zdx0 (br (decide (r.1.1 = 8)) zdx0 (br (decide (r.1.1 = 9)) zdx0 (br (decide (r.1.1 = 10)) zdx0 (br (decide (r.1.1 = 12)) zdx0 (br (decide (r.1.1 = 13)) zdx0 (br (decide (r.1.1 = 14)) zdx0 zdx0))))))))))) (by kernel_rfl) (bdt (fun h_1 => (bdt (fun h_2 => rfl) (fun h_2 => rfl))) (fun h_1 => (bdt (fun h_2 => (bdt (fun h_3 => rfl) (fun h_3 => rfl))) (fun h_2 => (bdt (fun h_3 => (bdt (fun h_4 => rfl) (fun h_4 => rfl))) (fun h_3 => (bdt (fun h_4 => rfl) (fun h_4 => (bdt (fun h_5 => rfl) (fun h_5 => (bdt (fun h_6 => rfl) (fun h_6 => (bdt (fun h_7 => rfl) (fun h_7 => (bdt (fun h_8 => rfl) (fun h_8 => (bdt (fun h_9 => rfl) (fun h_9 => (bdt (fun h_10 => rfl) (fun h_10 => rfl))))))))))))))))))))
theorem run_wlead (r : WRn) (h : true = true) : runF (cfg []) 600 106 [(WRn.av r)] sp_wlead.has false = true := t_wlead r
theorem s_wlead : SumOk Tryz.prog (gmap gs) S_wlead := on1_sum fun r hp => (acalls_out base sums_nil (n := 600) sp_wlead (run_wlead r hp)).mono fun v_ hv_ => hv_.trans (oe_wlead r)
def sp_wstand : Sp := sB
def out_wstand (r : WRn) : AV := outV (cfg [S_smany, S_wnx, S_put, S_mov, S_ct]) 600 107 [(WRn.av r)]
def f_wstand_0 (r : WRn) : Bool := AV.toB (out_wstand r)
def o_wstand (r : WRn) : AV := .bool (f_wstand_0 r)
def S_wstand : Sum := (107, on1 rWrn (fun r => pRn r) (fun r => o_wstand r))
theorem oe_wstand (r : WRn) : sp_wstand.bd (out_wstand r) = o_wstand r := by kernel_rfl
abbrev zdx1 (r : WRn) : Bool := ba (BasZWork.pW r.4 r.1.11) (ba (BasZWork.pW r.4 r.1.11) (ba (BasZWork.pW r.4 r.1.11) (br (decide (r.1.1 = 8)) (br (decide ((f_wnx_3 r.2 r.4 r.1.11) = 0)) (br (decide ((f_wnx_0 r.2 r.4 r.1.11) >= 4)) zdx0 zdx0) zdx0) (br (decide (r.1.1 = 9)) (br (decide ((f_wnx_3 r.2 r.4 r.1.11) = 0)) zdx0 zdx0) (br (decide ((f_wnx_3 r.2 r.4 r.1.11) = 0)) zdx0 zdx0)))))
theorem t_wstand (r : WRn) (hp : pRn r = true) : runF (cfg [S_smany, S_wnx, S_put, S_mov, S_ct]) 600 107 [(WRn.av r)] sp_wstand.has false = true := Eq.trans (b := (br (decide (r.1.1 = 4)) zdx0 (br (decide (r.1.1 = 5)) zdx0 (br (decide (r.1.1 = 6)) (br (decide ((Int.ofNat r.1.14) = r.2.3)) (ba (BasZIdx.ixOk r.1.13 r.1.14) zdx0) zdx0) (br (decide (r.1.1 = 14)) (br (decide (r.1.15.2 >= 0)) zdx0 zdx0) (br (decide (r.1.1 = 8)) (zdx1 r) (br (decide (r.1.1 = 9)) (zdx1 r) (br (decide (r.1.1 = 10)) (zdx1 r) zdx0)))))))) (by kernel_rfl) (bdt (fun h_1 => rfl) (fun h_1 => (bdt (fun h_2 => rfl) (fun h_2 => (bdt (fun h_3 => (bdt (fun h_4 => (band (rn_I hp h_4) rfl)) (fun h_4 => rfl))) (fun h_3 => (bdt (fun h_4 => (bdt (fun h_5 => rfl) (fun h_5 => rfl))) (fun h_4 => (bdt (fun h_5 => (band (rn_W hp) (band (rn_W hp) (band (rn_W hp) (btb h_5 (bdt (fun h_6 => (bdt (fun h_7 => rfl) (fun h_7 => rfl))) (fun h_6 => rfl))))))) (fun h_5 => (bdt (fun h_6 => (band (rn_W hp) (band (rn_W hp) (band (rn_W hp) (btf h_5 (btb h_6 (bdt (fun h_7 => rfl) (fun h_7 => rfl)))))))) (fun h_6 => (bdt (fun h_7 => (band (rn_W hp) (band (rn_W hp) (band (rn_W hp) (btf h_5 (btf h_6 (bdt (fun h_8 => rfl) (fun h_8 => rfl)))))))) (fun h_7 => rfl))))))))))))))
theorem run_wstand (r : WRn) (h : pRn r = true) : runF (cfg [S_smany, S_wnx, S_put, S_mov, S_ct]) 600 107 [(WRn.av r)] sp_wstand.has false = true := t_wstand r h
theorem s_wstand : SumOk Tryz.prog (gmap gs) S_wstand := on1_sum fun r hp => (acalls_out base (sums_cons s_smany (sums_cons s_wnx (sums_cons s_put (sums_cons s_mov (sums_cons s_ct sums_nil))))) (n := 600) sp_wstand (run_wstand r hp)).mono fun v_ hv_ => hv_.trans (oe_wstand r)
def sp_wacc : Sp := sG [sI .u8, sI .i64, sI .u64, sI .u64, sI .u64, sI .u64, sI .u64, sI .u64, sI .u64, sI .u64]
section
variable (r : WRn)
def out_wacc : AV := outV (cfg [S_chk, S_ann, S_slook, S_wnx, S_put, S_mov, S_at, S_ch]) 600 57 [(WRn.av r)]
def f_wacc_0 : Int := AV.toI (AV.ix (out_wacc r) 0)
def f_wacc_1 : Int := AV.toI (AV.ix (out_wacc r) 1)
def f_wacc_2 : Int := AV.toI (AV.ix (out_wacc r) 2)
def f_wacc_3 : Int := AV.toI (AV.ix (out_wacc r) 3)
def f_wacc_4 : Int := AV.toI (AV.ix (out_wacc r) 4)
def f_wacc_5 : Int := AV.toI (AV.ix (out_wacc r) 5)
def f_wacc_6 : Int := AV.toI (AV.ix (out_wacc r) 6)
def f_wacc_7 : Int := AV.toI (AV.ix (out_wacc r) 7)
def f_wacc_8 : Int := AV.toI (AV.ix (out_wacc r) 8)
def f_wacc_9 : Int := AV.toI (AV.ix (out_wacc r) 9)
def o_wacc : AV := .agg [.int .u8 (f_wacc_0 r), .int .i64 (f_wacc_1 r), .int .u64 (f_wacc_2 r), .int .u64 (f_wacc_3 r), .int .u64 (f_wacc_4 r), .int .u64 (f_wacc_5 r), .int .u64 (f_wacc_6 r), .int .u64 (f_wacc_7 r), .int .u64 (f_wacc_8 r), .int .u64 (f_wacc_9 r)]
end
def S_wacc : Sum := (57, on1 rWrn (fun r => pRn r) (fun r => o_wacc r))
theorem oe_wacc (r : WRn) : sp_wacc.bd (out_wacc r) = o_wacc r := by kernel_rfl
abbrev zdx2 := cfg [S_chk, S_ann, S_slook, S_wnx, S_put, S_mov, S_at, S_ch]
abbrev zdx3 := Stg.mk 0 0 0 0
abbrev zdx4 (r : WRn) : Bool := br (!decide ((chk mayP r.2 zdx3) = 0)) zdx0 zdx0
abbrev zdx5 (r : WRn) := zif (BasZChoose.chErr r.2 r.1.14 r.4.4) (BasZChoose.chMask r.2 r.1.13 r.4.4 (Int.toNat r.2.3))
theorem t_wacc (r : WRn) (hp : pRn r = true) : runF zdx2 600 57 [(WRn.av r)] sp_wacc.has false = true := Eq.trans (b := (br (decide (r.1.1 = 1)) (ba (posO r.1.3) zdx0) (br (decide (r.1.1 = 2)) zdx0 (br (decide (r.1.1 = 15)) zdx0 (br (decide (r.1.1 = 3)) zdx0 (br (decide (r.1.1 = 4)) zdx0 (br (decide (r.1.1 = 5)) zdx0 (br (decide (r.1.1 = 6)) (br (!decide ((chk mayP r.2 r.4) = 0)) (zdx4 r) (ba ((Nat.beq (List.length r.1.13) r.1.14) && (List.all r.1.13 AV.isB)) (br (!decide ((BasZChoose.chErr r.2 r.1.14 r.4.4) = 0)) (zdx4 r) (br (!decide (r.4.2 = (IntKind.wrap .i64 (r.2.2 + 5)))) (zdx4 r) (br (decide ((IntKind.wrap .u64 (r.4.1 + 1)) >= (IntKind.wrap .u64 (Int.tdiv r.2.11 65536)))) (zdx4 r) (br (decide ((zdx5 r) = 0)) (zdx4 r) (br (!decide ((chk mayP r.2 (Stg.mk (IntKind.wrap .u64 (r.4.1 + 1)) 1 (zdx5 r) (zif (BasZChoose.chErr r.2 r.1.14 r.4.4) (BasZChoose.chNext r.2 r.1.13 r.4.4 (Int.toNat r.2.3))))) = 0)) zdx0 zdx0))))))) (br (decide (r.1.1 = 7)) zdx0 (br (decide (r.1.1 = 8)) (ba (BasZWork.pW r.4 r.1.11) zdx0) (br (decide (r.1.1 = 9)) (ba (BasZWork.pW r.4 r.1.11) zdx0) (br (decide (r.1.1 = 10)) (ba (BasZWork.pW r.4 r.1.11) zdx0) (br (decide (r.1.1 = 11)) (br (!decide ((chk mayP r.2 r.4) = 0)) (zdx4 r) (br (decide (r.4.2 = (IntKind.wrap .i64 (r.2.2 + 5)))) (zdx4 r) (br (!decide ((chk mayP r.2 (Stg.mk r.4.1 (IntKind.wrap .i64 (r.4.2 + 1)) r.4.3 r.4.4)) = 0)) zdx0 zdx0))) (br (decide (r.1.1 = 12)) (br (decide ((IntKind.wrap .u64 r.2.2) = 0)) false (br (decide ((IntKind.wrap .u64 r.2.2) = 0)) false zdx0)) (br (decide (r.1.1 = 13)) zdx0 (br (decide (r.1.1 = 14)) zdx0 zdx0)))))))))))))))) (by kernel_rfl) (bdt (fun h_1 => (band (rn_O hp) rfl)) (fun h_1 => (bdt (fun h_2 => rfl) (fun h_2 => (bdt (fun h_3 => rfl) (fun h_3 => (bdt (fun h_4 => rfl) (fun h_4 => (bdt (fun h_5 => rfl) (fun h_5 => (bdt (fun h_6 => rfl) (fun h_6 => (bdt (fun h_7 => (bdt (fun h_8 => (bdt (fun h_9 => rfl) (fun h_9 => rfl))) (fun h_8 => (band (rn_P hp) (bdt (fun h_9 => (bdt (fun h_10 => rfl) (fun h_10 => rfl))) (fun h_9 => (bdt (fun h_10 => (bdt (fun h_11 => rfl) (fun h_11 => rfl))) (fun h_10 => (bdt (fun h_11 => (bdt (fun h_12 => rfl) (fun h_12 => rfl))) (fun h_11 => (bdt (fun h_12 => (bdt (fun h_13 => rfl) (fun h_13 => rfl))) (fun h_12 => (bdt (fun h_13 => rfl) (fun h_13 => rfl)))))))))))))) (fun h_7 => (bdt (fun h_8 => rfl) (fun h_8 => (bdt (fun h_9 => (band (rn_W hp) rfl)) (fun h_9 => (bdt (fun h_10 => (band (rn_W hp) rfl)) (fun h_10 => (bdt (fun h_11 => (band (rn_W hp) rfl)) (fun h_11 => (bdt (fun h_12 => (bdt (fun h_13 => (bdt (fun h_14 => rfl) (fun h_14 => rfl))) (fun h_13 => (bdt (fun h_14 => (bdt (fun h_15 => rfl) (fun h_15 => rfl))) (fun h_14 => (bdt (fun h_15 => rfl) (fun h_15 => rfl))))))) (fun h_12 => (bdt (fun h_13 => (btf (rn_n hp) (btf (rn_n hp) rfl))) (fun h_13 => (bdt (fun h_14 => rfl) (fun h_14 => (bdt (fun h_15 => rfl) (fun h_15 => rfl))))))))))))))))))))))))))))))
theorem run_wacc (r : WRn) (h : pRn r = true) : runF zdx2 600 57 [(WRn.av r)] sp_wacc.has false = true := t_wacc r h
theorem s_wacc : SumOk Tryz.prog (gmap gs) S_wacc := on1_sum fun r hp => (acalls_out base (sums_cons s_chk (sums_cons s_ann (sums_cons s_slook (sums_cons s_wnx (sums_cons s_put (sums_cons s_mov (sums_cons s_at (sums_cons s_ch sums_nil)))))))) (n := 600) sp_wacc (run_wacc r hp)).mono fun v_ hv_ => hv_.trans (oe_wacc r)
def sp_wrn : Sp := sT [sG [sI .u8, sI .i64, sI .u64, sI .u64, sI .u64, sI .u64, sI .u64, sI .u64, sI .u64, sI .u64], sI .i64]
section
variable (c : Conf) (t : Int) (w : Wtr)
def out_wrn : AV := outV (cfg [S_check, S_may, S_chk, S_what, S_ann, S_wlead, S_wstand, S_wacc]) 900 22 [c.av, .int .i64 t, w.av]
def f_wrn_0 : Int := AV.toI (AV.ix (AV.ix (out_wrn c t w) 0) 0)
def f_wrn_1 : Int := AV.toI (AV.ix (AV.ix (out_wrn c t w) 0) 1)
def f_wrn_2 : Int := AV.toI (AV.ix (AV.ix (out_wrn c t w) 0) 2)
def f_wrn_3 : Int := AV.toI (AV.ix (AV.ix (out_wrn c t w) 0) 3)
def f_wrn_4 : Int := AV.toI (AV.ix (AV.ix (out_wrn c t w) 0) 4)
def f_wrn_5 : Int := AV.toI (AV.ix (AV.ix (out_wrn c t w) 0) 5)
def f_wrn_6 : Int := AV.toI (AV.ix (AV.ix (out_wrn c t w) 0) 6)
def f_wrn_7 : Int := AV.toI (AV.ix (AV.ix (out_wrn c t w) 0) 7)
def f_wrn_8 : Int := AV.toI (AV.ix (AV.ix (out_wrn c t w) 0) 8)
def f_wrn_9 : Int := AV.toI (AV.ix (AV.ix (out_wrn c t w) 0) 9)
def f_wrn_10 : Int := AV.toI (AV.ix (out_wrn c t w) 1)
def o_wrn : AV := .tup [.agg [.int .u8 (f_wrn_0 c t w), .int .i64 (f_wrn_1 c t w), .int .u64 (f_wrn_2 c t w), .int .u64 (f_wrn_3 c t w), .int .u64 (f_wrn_4 c t w), .int .u64 (f_wrn_5 c t w), .int .u64 (f_wrn_6 c t w), .int .u64 (f_wrn_7 c t w), .int .u64 (f_wrn_8 c t w), .int .u64 (f_wrn_9 c t w)], .int .i64 (f_wrn_10 c t w)]
end
def S_wrn : Sum := (22, on3 rConf (rI .i64) rWtr (fun c t w => pWt w) (fun c t w => o_wrn c t w))
theorem oe_wrn (c : Conf) (t : Int) (w : Wtr) : sp_wrn.bd (out_wrn c t w) = o_wrn c t w := by kernel_rfl
abbrev zdx6 := cfg [S_check, S_may, S_chk, S_what, S_ann, S_wlead, S_wstand, S_wacc]
abbrev zdx7 (c : Conf) (t : Int) (w : Wtr) := WRn.mk w c t zdx3 (zif (chk mayP c zdx3) (BasZStage5.jobK c zdx3)) (zif (chk mayP c zdx3) (BasZStage5.jobN c zdx3))
abbrev zdx8 (w : Wtr) := Stg.mk (IntKind.wrap .u64 (Int.tdiv w.10.1 65536)) (IntKind.wrap .i64 (Int.tmod w.10.1 65536)) w.10.2 (IntKind.wrap .i64 w.10.3)
abbrev zdx9 (c : Conf) (t : Int) (w : Wtr) := WRn.mk w c t (zdx8 w) (zif (chk mayP c (zdx8 w)) (BasZStage5.jobK c (zdx8 w))) (zif (chk mayP c (zdx8 w)) (BasZStage5.jobN c (zdx8 w)))
theorem t_wrn (c : Conf) (t : Int) (w : Wtr) (hp : pWt w = true) : runF zdx6 900 22 [c.av, .int .i64 t, w.av] sp_wrn.has false = true := Eq.trans (b := (br (!decide ((errC c) = 0)) (ba (!decide ((errC c) = 0)) zdx0) (ba (posO w.3) (br (!decide ((f_ann_10 c t w.2 w.3) = 0)) zdx0 (br (decide (w.1 < 1)) zdx0 (br (decide (w.1 > 15)) zdx0 (br (decide ((Int.ofNat w.8) > 0)) zdx0 (br (decide (w.1 >= 4)) (br (decide (w.1 <= 14)) (br (!decide ((errC c) = 0)) (br (!decide ((errC c) = 0)) zdx0 (br (decide ((chk mayP c zdx3) = 0)) (br (f_wlead_0 (zdx7 c t w)) (ba (BasZWrite.pRn (zdx7 c t w)) (br (!(f_wstand_0 (zdx7 c t w))) zdx0 (ba (BasZWrite.pRn (zdx7 c t w)) zdx0))) zdx0) zdx0)) (br (decide (w.10.3 >= (IntKind.wrap .u64 c.3))) zdx0 (br (!decide (w.10.4 = 0)) zdx0 (ba (decide (0 <= c.3)) (br (!(mayP c (zdx8 w))) zdx0 (ba (decide (0 <= (IntKind.wrap .u64 (Int.tdiv w.10.1 65536))) && decide (0 <= w.10.2)) (br (decide ((chk mayP c (zdx8 w)) = 0)) (br (f_wlead_0 (zdx9 c t w)) (ba (BasZWrite.pRn (zdx9 c t w)) (br (!(f_wstand_0 (zdx9 c t w))) zdx0 (ba (BasZWrite.pRn (zdx9 c t w)) zdx0))) zdx0) zdx0))))))) (ba (BasZWrite.pRn (WRn.mk w c t zdx3 0 0)) zdx0)) (ba (BasZWrite.pRn (WRn.mk w c t zdx3 0 0)) zdx0))))))))) (by kernel_rfl) (bdt (fun h_1 => (band h_1 rfl)) (fun h_1 => (band (wt_O hp) (bdt (fun h_2 => rfl) (fun h_2 => (bdt (fun h_3 => rfl) (fun h_3 => (bdt (fun h_4 => rfl) (fun h_4 => (bdt (fun h_5 => rfl) (fun h_5 => (bdt (fun h_6 => (bdt (fun h_7 => (btf h_1 (bdt (fun h_8 => rfl) (fun h_8 => (bdt (fun h_9 => rfl) (fun h_9 => (band (thr_pos (errT h_1)) (bdt (fun h_10 => rfl) (fun h_10 => (band (wt_s _ hp) (bdt (fun h_11 => (bdt (fun h_12 => (band (rn_of (wt_s _ hp) (wt_m hp) (errT h_1) hp) (bdt (fun h_13 => rfl) (fun h_13 => (band (rn_of (wt_s _ hp) (wt_m hp) (errT h_1) hp) rfl))))) (fun h_12 => rfl))) (fun h_11 => rfl)))))))))))) (fun h_7 => (band (rn_of rfl rfl (errT h_1) hp) rfl)))) (fun h_6 => (band (rn_of rfl rfl (errT h_1) hp) rfl))))))))))))))
theorem run_wrn (c : Conf) (t : Int) (w : Wtr) (h : pWt w = true) : runF zdx6 900 22 [c.av, .int .i64 t, w.av] sp_wrn.has false = true := t_wrn c t w h
theorem s_wrn : SumOk Tryz.prog (gmap gs) S_wrn := on3_sum fun c t w hp => (acalls_out base (sums_cons s_check (sums_cons s_may (sums_cons s_chk (sums_cons s_what (sums_cons s_ann (sums_cons s_wlead (sums_cons s_wstand (sums_cons s_wacc sums_nil)))))))) (n := 900) sp_wrn (run_wrn c t w hp)).mono fun v_ hv_ => hv_.trans (oe_wrn c t w)
end
end Go.Bas.BasZWrite
end
section
namespace Go.Bas.BasZThr
noncomputable section
open Go.RowKit Go.Proofs
open BasZBase BasZOp BasZRank BasZRank2 BasZOk BasZProg BasZSign BasZRead BasZReg2 BasZAnn BasZWork BasZWnx BasZIdx BasZIdx2 BasZChoose BasZChoose2 BasZStage5 BasZCounts BasZPop BasZWrite
def sp_wbg : Sp := sT [sG [sI .u8, sI .u64, sI .u8, sI .u32, sI .u32, sI .u32, sB, sI .i64, sI .u32, sN, sI .u64, sI .u64, sI .u64, sI .u64, sI .u64, sI .u64, sI .u64, sI .u64, sI .u64, sI .u64, sI .u64, sI .u64, sI .u64, sN, sI .u64, sI .i64, sI .u64], sI .i64]
section
variable (c : Conf) (n : Int) (q : Int) (o : Opr)
def out_wbg : AV := outV (cfg [S_ann]) 600 20 [c.av, .int .i64 n, .int .u64 q, o.av]
def f_wbg_0 : Int := AV.toI (AV.ix (AV.ix (out_wbg c n q o) 0) 0)
def f_wbg_1 : Int := AV.toI (AV.ix (AV.ix (out_wbg c n q o) 0) 1)
def f_wbg_2 : Int := AV.toI (AV.ix (AV.ix (out_wbg c n q o) 0) 2)
def f_wbg_3 : Int := AV.toI (AV.ix (AV.ix (out_wbg c n q o) 0) 3)
def f_wbg_4 : Int := AV.toI (AV.ix (AV.ix (out_wbg c n q o) 0) 4)
def f_wbg_5 : Int := AV.toI (AV.ix (AV.ix (out_wbg c n q o) 0) 5)
def f_wbg_6 : Bool := AV.toB (AV.ix (AV.ix (out_wbg c n q o) 0) 6)
def f_wbg_7 : Int := AV.toI (AV.ix (AV.ix (out_wbg c n q o) 0) 7)
def f_wbg_8 : Int := AV.toI (AV.ix (AV.ix (out_wbg c n q o) 0) 8)
def f_wbg_9 : Int := AV.toI (AV.ix (AV.ix (out_wbg c n q o) 0) 10)
def f_wbg_10 : Int := AV.toI (AV.ix (AV.ix (out_wbg c n q o) 0) 11)
def f_wbg_11 : Int := AV.toI (AV.ix (AV.ix (out_wbg c n q o) 0) 12)
def f_wbg_12 : Int := AV.toI (AV.ix (AV.ix (out_wbg c n q o) 0) 13)
def f_wbg_13 : Int := AV.toI (AV.ix (AV.ix (out_wbg c n q o) 0) 14)
def f_wbg_14 : Int := AV.toI (AV.ix (AV.ix (out_wbg c n q o) 0) 15)
def f_wbg_15 : Int := AV.toI (AV.ix (AV.ix (out_wbg c n q o) 0) 16)
def f_wbg_16 : Int := AV.toI (AV.ix (AV.ix (out_wbg c n q o) 0) 17)
def f_wbg_17 : Int := AV.toI (AV.ix (AV.ix (out_wbg c n q o) 0) 18)
def f_wbg_18 : Int := AV.toI (AV.ix (AV.ix (out_wbg c n q o) 0) 19)
def f_wbg_19 : Int := AV.toI (AV.ix (AV.ix (out_wbg c n q o) 0) 20)
def f_wbg_20 : Int := AV.toI (AV.ix (AV.ix (out_wbg c n q o) 0) 21)
def f_wbg_21 : Int := AV.toI (AV.ix (AV.ix (out_wbg c n q o) 0) 22)
def f_wbg_22 : Int := AV.toI (AV.ix (AV.ix (out_wbg c n q o) 0) 24)
def f_wbg_23 : Int := AV.toI (AV.ix (AV.ix (out_wbg c n q o) 0) 25)
def f_wbg_24 : Int := AV.toI (AV.ix (AV.ix (out_wbg c n q o) 0) 26)
def f_wbg_25 : Int := AV.toI (AV.ix (out_wbg c n q o) 1)
def o_wbg : AV := .tup [.agg [.int .u8 (f_wbg_0 c n q o), .int .u64 (f_wbg_1 c n q o), .int .u8 (f_wbg_2 c n q o), .int .u32 (f_wbg_3 c n q o), .int .u32 (f_wbg_4 c n q o), .int .u32 (f_wbg_5 c n q o), .bool (f_wbg_6 c n q o), .int .i64 (f_wbg_7 c n q o), .int .u32 (f_wbg_8 c n q o), .nils, .int .u64 (f_wbg_9 c n q o), .int .u64 (f_wbg_10 c n q o), .int .u64 (f_wbg_11 c n q o), .int .u64 (f_wbg_12 c n q o), .int .u64 (f_wbg_13 c n q o), .int .u64 (f_wbg_14 c n q o), .int .u64 (f_wbg_15 c n q o), .int .u64 (f_wbg_16 c n q o), .int .u64 (f_wbg_17 c n q o), .int .u64 (f_wbg_18 c n q o), .int .u64 (f_wbg_19 c n q o), .int .u64 (f_wbg_20 c n q o), .int .u64 (f_wbg_21 c n q o), .nils, .int .u64 (f_wbg_22 c n q o), .int .i64 (f_wbg_23 c n q o), .int .u64 (f_wbg_24 c n q o)], .int .i64 (f_wbg_25 c n q o)]
end
def S_wbg : Sum := (20, on4 rConf (rI .i64) (rI .u64) rOpr (fun c n q o => posO o) (fun c n q o => o_wbg c n q o))
section
variable (c : Conf) (n : Int) (q : Int) (o : Opr)
theorem oe_wbg : sp_wbg.bd (out_wbg c n q o) = o_wbg c n q o := by kernel_rfl
theorem t_wbg (hO : posO o = true) : runF (cfg [S_ann]) 600 20 [c.av, .int .i64 n, .int .u64 q, o.av] sp_wbg.has false = true := Eq.trans (b := (ba (posO o) (br (!decide ((f_ann_10 c n q o) = 0)) true true))) (by kernel_rfl) (band hO (bdt (fun h_1 => rfl) (fun h_1 => rfl)))
theorem run_wbg (h : posO o = true) : runF (cfg [S_ann]) 600 20 [c.av, .int .i64 n, .int .u64 q, o.av] sp_wbg.has false = true := t_wbg c n q o h
end
theorem s_wbg : SumOk Tryz.prog (gmap gs) S_wbg := on4_sum fun c n q o hp => (acalls_out base (sums_cons s_ann sums_nil) (n := 600) sp_wbg (run_wbg c n q o hp)).mono fun v_ hv_ => hv_.trans (oe_wbg c n q o)
def sp_tchk : Sp := sI .i64
section
variable (c : Conf) (n : Int) (t : ThL) (b : Bool)
def out_tchk : AV := outV (cfg [S_check, S_rnx, S_wrn]) 900 60 [c.av, .int .i64 n, t.av, .bool b]
def f_tchk_0 : Int := AV.toI (out_tchk c n t b)
def o_tchk : AV := .int .i64 (f_tchk_0 c n t b)
end
def S_tchk : Sum := (60, on4 rConf (rI .i64) rThl rB (fun c n t b => (posF t.r.f && pWt t.w)) (fun c n t b => o_tchk c n t b))
theorem oe_tchk (c : Conf) (n : Int) (t : ThL) (b : Bool) : sp_tchk.bd (out_tchk c n t b) = o_tchk c n t b := by kernel_rfl
abbrev zdy0 (b : Bool) (t : ThL) : Bool := br (b) (br (decide (t.2 = 0)) true (!decide (t.1 < 0))) (!decide (t.1 < 0))
theorem t_tchk (c : Conf) (n : Int) (t : ThL) (b : Bool) (hp : (posF t.r.f && pWt t.w) = true) : runF (cfg [S_check, S_rnx, S_wrn]) 900 60 [c.av, .int .i64 n, t.av, .bool b] (fun v => sp_tchk.has v && (bif decide (AV.toI v = 0) then (bif decide (t.nx < 0) then false else true) else true)) false = true := Eq.trans (b := (br (!decide ((errC c) = 0)) (br (decide ((errC c) = 0)) (!decide (t.1 < 0)) true) (br (decide (n < 0)) true (br (decide (n >= c.3)) true (br (decide (t.1 < 0)) true (br (decide (t.1 > 64)) true (br (decide (t.5 > 64)) true (br (decide (t.2 = 0)) (zdy0 b t) (br (decide (t.2 = 1)) (ba (posF t.3.5) (br (!decide ((f_rnx_10 c n t.3) = 0)) true (zdy0 b t))) (br (decide (t.2 = 2)) (ba (BasZWrite.pWt t.4) (br (!decide ((f_wrn_10 c n t.4) = 0)) true (zdy0 b t))) true)))))))))) (by kernel_rfl) (bdt (fun h_1 => (btf (of_not_t h_1) rfl)) (fun h_1 => (bdt (fun h_2 => rfl) (fun h_2 => (bdt (fun h_3 => rfl) (fun h_3 => (bdt (fun h_4 => rfl) (fun h_4 => (bdt (fun h_5 => rfl) (fun h_5 => (bdt (fun h_6 => rfl) (fun h_6 => (bdt (fun h_7 => (bdt (fun h_8 => (btb h_7 rfl)) (fun h_8 => (not_f h_4)))) (fun h_7 => (bdt (fun h_8 => (band (and_left hp) (bdt (fun h_9 => rfl) (fun h_9 => (bdt (fun h_10 => (btf h_7 (not_f h_4))) (fun h_10 => (not_f h_4))))))) (fun h_8 => (bdt (fun h_9 => (band (and_right hp) (bdt (fun h_10 => rfl) (fun h_10 => (bdt (fun h_11 => (btf h_7 (not_f h_4))) (fun h_11 => (not_f h_4))))))) (fun h_9 => rfl))))))))))))))))))
theorem run_tchk (c : Conf) (n : Int) (t : ThL) (b : Bool) (h : (posF t.r.f && pWt t.w) = true) : runF (cfg [S_check, S_rnx, S_wrn]) 900 60 [c.av, .int .i64 n, t.av, .bool b] sp_tchk.has false = true := ((run_out (t_tchk c n t b h)).2 sp_tchk.has).trans (and_left (run_out (t_tchk c n t b h)).1)
theorem s_tchk : SumOk Tryz.prog (gmap gs) S_tchk := on4_sum fun c n t b hp => (acalls_out base (sums_cons s_check (sums_cons s_rnx (sums_cons s_wrn sums_nil))) (n := 900) sp_tchk (run_tchk c n t b hp)).mono fun v_ hv_ => hv_.trans (oe_tchk c n t b)
theorem tchk_nx {c : Conf} {n : Int} {t : ThL} {b : Bool} (hp : (posF t.r.f && pWt t.w) = true) (h : f_tchk_0 c n t b = 0) : 0 <= t.nx := by
 have h1 := and_right (run_out (t_tchk c n t b hp)).1
 have h2 := bif_when h1 (decide_eq_true h)
 by_cases h3 : t.nx < 0
 ·rw [decide_eq_true h3] at h2
  cases h2
 ·omega
end
end Go.Bas.BasZThr
end
section
namespace Go.Bas.BasZThx
noncomputable section
open Go.RowKit Go.Proofs BasZBase BasZOk BasZWrite BasZThr
def clC (sz bt : Nat) (c : List AV) (n : Nat) : Bool := Nat.beq c.length (n * sz) && (c.all AV.one && okBytes n bt)
def clB (sz bt : Nat) : AV -> Bool
 | .nils => true
 | .ns => true
 | .lst (a :: r) n => clC sz bt (a :: r) n
 | _ => false
def Fcl (sz bt : Nat) : List AV -> Option (Bool × AV)
 | [.nils] => some (true, .lst [] 0)
 | [.ns] => some (true, .lst [] 0)
 | [.lst (a :: r) n] => some (clC sz bt (a :: r) n, .lst (a :: r) n)
 | _ => none
theorem sd_cases {v : AV} (h : v.isSd = true) : v = .nils \/ v = .ns \/ ∃ a r m, v = .lst (a :: r) m := by
 unfold AV.isSd at h
 split at h
 ·exact .inl rfl
 ·exact .inr (.inl rfl)
 ·exact .inr (.inr ⟨_, _, _, rfl⟩)
 ·cases h
theorem clone_sum {f : FuncId} {sz bt : Nat} (h0 : ∀ k : AV -> Bool, runF (cfg []) 300 f [.nils] k false = k .nils) (h1 : ∀ k : AV -> Bool, runF (cfg []) 300 f [.ns] k false = k .ns)
  (h2 : ∀ (a : AV) (r : List AV) (m : Nat) (k : AV -> Bool), runF (cfg []) 300 f [.lst (a :: r) m] k false = (Nat.beq (a :: r).length (m * sz) && ((a :: r).all AV.one && (okBytes (0 + m) bt && (bif (Nat.beq (0 + m) 0) then k .ns else (Nat.ble (0 + ((0 + m) * sz)) (a :: r).length && k (.lst ((a :: r).take ((0 + m) * sz)) (0 + m)))))))) :
  SumOk Tryz.prog (gmap gs) (f, Fcl sz bt) := fun args r hr => by
 simp only at hr
 unfold Fcl at hr
 split at hr
 ·cases hr
  exact ACalls.wk (acalls_eq base sums_nil (n := 300) (r := .nils) fun k hk => (h0 k).trans hk) (.refl _) .nils
 ·cases hr
  exact ACalls.wk (acalls_eq base sums_nil (n := 300) (r := .ns) fun k hk => (h1 k).trans hk) (.refl _) .ns
 ·rename_i a r' n
  simp only [Option.some.injEq, Prod.mk.injEq] at hr; obtain ⟨hp, rfl⟩ := hr; refine acalls_eq base sums_nil (n := 300) fun k hk => (h2 a r' n k).trans ?_
  unfold clC at hp; simp only [Bool.and_eq_true] at hp; obtain ⟨p1, p2, p3⟩ := hp; have e := (beq_iff _ _).1 p1
  have hn : Nat.beq n 0 = false := by
   cases h : Nat.beq n 0 with
   | false => rfl
   | true =>
    rw [(beq_iff _ _).1 h] at e; simp at e
  rw [p1, p2, Nat.zero_add, p3, hn, Nat.zero_add, <- e, Nat.ble_eq_true_of_le (Nat.le_refl _), List.take_length]; exact hk
 ·cases hr
def S_clr : Sum := (124, Fcl 2 16)
def S_clb : Sum := (125, Fcl 1 1)
theorem s_clr : SumOk Tryz.prog (gmap gs) S_clr := clone_sum (fun k => by kernel_rfl) (fun k => by kernel_rfl) (fun a r m k => by kernel_rfl)
theorem s_clb : SumOk Tryz.prog (gmap gs) S_clb := clone_sum (fun k => by kernel_rfl) (fun k => by kernel_rfl) (fun a r m k => by kernel_rfl)
def clT (t : Thx) : Bool := clB 2 16 t.x && (clB 2 16 t.y && clB 1 1 t.z)
def sdT (t : Thx) : Bool := t.x.isSd && (t.y.isSd && t.z.isSd)
theorem clB_sd {sz bt : Nat} {v : AV} (h : clB sz bt v = true) : v.isSd = true := by
 unfold clB at h
 split at h <;> first | rfl | cases h
theorem clT_sd {t : Thx} (h : clT t = true) : sdT t = true := by
 unfold clT at h
 unfold sdT
 simp only [Bool.and_eq_true] at h ⊢
 exact ⟨clB_sd h.1, clB_sd h.2.1, clB_sd h.2.2⟩
theorem t_own (t : Thx) (hs : sdT t = true) (k : AV -> Bool) : runF (cfg [S_clr, S_clb]) 300 61 [t.av] k false = (clB 2 16 t.x && (clB 2 16 t.y && (clB 1 1 t.z && k t.avO))) := by
 obtain ⟨nx, run, r, w, seq, out, x, y, z⟩ := t
 unfold sdT at hs
 simp only [Bool.and_eq_true] at hs
 obtain ⟨h1, h2, h3⟩ := hs
 rcases sd_cases h1 with rfl | rfl | ⟨a, b, m, rfl⟩ <;> rcases sd_cases h2 with rfl | rfl | ⟨a1, b1, m1, rfl⟩ <;> rcases sd_cases h3 with rfl | rfl | ⟨a2, b2, m2, rfl⟩ <;> kernel_rfl
def S_own : Sum := (61, on1 rThx (fun t => clT t) (fun t => t.avO))
theorem s_own : SumOk Tryz.prog (gmap gs) S_own := on1_sum fun t hp => acalls_eq base (sums_cons s_clr (sums_cons s_clb sums_nil)) (n := 300) fun k hk => (t_own t (clT_sd hp) k).trans (by
 unfold clT at hp
 simp only [Bool.and_eq_true] at hp
 rw [hp.1, hp.2.1, hp.2.2]
 exact hk)
def pThx (t : Thx) : Bool := sdT t && (posF t.r.f && pWt t.toL.w)
def S_tchkx : Sum := (60, on4 rConf (rI .i64) rThx rB (fun c n t b => pThx t) (fun c n t b => o_tchk c n t.toL b))
theorem s_tchkx : SumOk Tryz.prog (gmap gs) S_tchkx := on4_sum fun c n t b hp => by
 unfold pThx at hp
 simp only [Bool.and_eq_true] at hp
 obtain ⟨h1, h2, h3⟩ := hp
 have h := s_tchk [c.av, .int .i64 n, t.toL.av, .bool b] (o_tchk c n t.toL b) (by
  show some ((posF t.toL.r.f && pWt t.toL.w), _) = _; rw [h3, show posF t.toL.r.f = true from h2]
  rfl)
 exact ACalls.wk h (.cons (.refl _) (.cons (.refl _) (.cons (Thx.wk h1) (.cons (.refl _) .nil)))) (.refl _)
end
end Go.Bas.BasZThx
end
