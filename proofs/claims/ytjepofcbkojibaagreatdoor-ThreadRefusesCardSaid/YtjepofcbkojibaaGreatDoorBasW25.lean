/- Contracts by a run's outcome: how a thread's next operation begins. -/
import Derived.Test.YtjepofcbkojibaaGreatDoorBasW8
import Derived.Test.YtjepofcbkojibaaGreatDoorBasW24
set_option maxRecDepth 100000
set_option maxHeartbeats 4000000
set_option linter.unusedVariables false
set_option linter.unusedSimpArgs false
namespace Go.Bas.BasZBegin
noncomputable section
open Go.RowKit Go.Proofs
open BasZBase BasZOp BasZRank BasZRank2 BasZOk BasZProg BasZSign BasZRead BasZReg2 BasZAnn BasZWork BasZWnx BasZIdx BasZIdx2 BasZChoose BasZChoose2 BasZStage5 BasZCounts BasZPop BasZWrite BasZThr BasZThx
def elP (us : List AV) (m : Nat) : Prop := us.length = m * 4 /\ ∀ i, i < m -> (AV.isI .u8 (lget us (i * 4)) = true /\ AV.isI .u32 (lget us (i * 4 + 1)) = true /\ AV.isI .u32 (lget us (i * 4 + 1 + 1)) = true /\ AV.isI .u32 (lget us (i * 4 + 1 + 1 + 1)) = true) /\
 (0 <= (lget us (i * 4)).toI /\ (lget us (i * 4)).toI <= 255 /\ 0 <= (lget us (i * 4 + 1 + 1)).toI)
theorem el_at {us : List AV} {m : Nat} {n : Int} (h : elP us m) (h0 : 0 <= n) (h1 : decide (n >= Int.ofNat m) = false) : (AV.isI .u8 (lget us (n.toNat * 4)) = true /\ AV.isI .u32 (lget us (n.toNat * 4 + 1)) = true /\ AV.isI .u32 (lget us (n.toNat * 4 + 1 + 1)) = true /\ AV.isI .u32 (lget us (n.toNat * 4 + 1 + 1 + 1)) = true) /\
 (0 <= (lget us (n.toNat * 4)).toI /\ (lget us (n.toNat * 4)).toI <= 255 /\ 0 <= (lget us (n.toNat * 4 + 1 + 1)).toI) := h.2 _ (by
 have := of_decide_eq_false h1
 have e : (Int.ofNat m : Int) = (m : Int) := rfl
 rw [e] at this
 omega)
theorem el_in {us : List AV} {m : Nat} {n : Int} (h : elP us m) (h0 : 0 <= n) (h1 : decide (n >= Int.ofNat m) = false) : (inside n m && Nat.beq us.length (m * 4)) = true := by
 have := of_decide_eq_false h1
 have e : (Int.ofNat m : Int) = (m : Int) := rfl
 rw [e] at this
 rw [(beq_iff _ _).2 h.1]
 simp only [inside, Bool.and_eq_true, decide_eq_true_eq]
 refine ⟨⟨h0, ?_⟩, trivial⟩
 show n < (m : Int)
 omega
theorem el_ble {us : List AV} {m : Nat} {n : Int} (h : elP us m) (h0 : 0 <= n) (h1 : decide (n >= Int.ofNat m) = false) : Nat.ble (n.toNat * 4 + 4) us.length = true := by
 have := of_decide_eq_false h1
 have e : (Int.ofNat m : Int) = (m : Int) := rfl
 rw [e] at this
 refine Nat.ble_eq_true_of_le ?_
 rw [h.1]
 omega
theorem el_posO {us : List AV} {m : Nat} {n x y : Int} (h : elP us m) (h0 : 0 <= n) (h1 : decide (n >= Int.ofNat m) = false) : posO ⟨(lget us (n.toNat * 4)).toI, x, (lget us (n.toNat * 4 + 1 + 1)).toI, y⟩ = true := by
 have q := (el_at h h0 h1).2
 unfold posO
 simp only [Bool.and_eq_true, decide_eq_true_eq]
 exact q
theorem el_posW {us : List AV} {m : Nat} {n : Int} (h : elP us m) (h0 : 0 <= n) (h1 : decide (n >= Int.ofNat m) = false) : posW (lget us (n.toNat * 4)).toI = true := by
 have q := (el_at h h0 h1).2
 unfold posW
 simp only [Bool.and_eq_true, decide_eq_true_eq]
 exact ⟨q.1, q.2.1⟩
theorem nx_of {c : Conf} {n : Int} {t : Thx} {b : Bool} (hp : pThx t = true) (h : (!decide (f_tchk_0 c n t.toL b = 0)) = false) : 0 <= t.nx := by
 refine tchk_nx (c := c) (n := n) (t := t.toL) (b := b) ?_ (by simpa using h)
 unfold pThx at hp
 exact and_right hp
def badN (fo : Int) (wr out : Bool) : Int := bif decide (fo = 0) then (bif (!wr && out) then 230 else 0) else fo
def BgP (fo : Int) (wr out : Bool) (nx run seq e code v nx' run' seq' : Int) (over : Bool) : Prop :=
 e = 0 -> run = 0 /\ (badN fo wr out ≠ 0 -> over = true /\ code = badN fo wr out /\ v = 0 /\ nx' = IntKind.wrap .i64 (nx + 1) /\ run' = 0 /\ seq' = seq) /\
  (badN fo wr out = 0 -> over = false /\ nx' = nx /\ run' ≠ 0 /\ seq' = (bif wr then IntKind.wrap .u64 (seq + 1) else seq))
def okBg (fo : Int) (wr out : Bool) (nx run seq e code v nx' run' seq' : Int) (over : Bool) : Bool := @decide (BgP fo wr out nx run seq e code v nx' run' seq' over) (Classical.propDecidable _)
theorem okBg_t {fo : Int} {wr out : Bool} {nx run seq e code v nx' run' seq' : Int} {over : Bool} : okBg fo wr out nx run seq e code v nx' run' seq' over = true ↔ BgP fo wr out nx run seq e code v nx' run' seq' over := by
 unfold okBg
 exact @decide_eq_true_iff _ (Classical.propDecidable _)
theorem ok_err {fo : Int} {wr out : Bool} {nx run seq e code v nx' run' seq' : Int} {over : Bool} (h : decide (e = 0) = false) : okBg fo wr out nx run seq e code v nx' run' seq' over = true :=
 okBg_t.2 fun h0 => absurd h0 (of_decide_eq_false h)
theorem run0 {run : Int} (h : (!decide (run = 0)) = false) : run = 0 := by simpa using h
theorem ok_b1 {fo : Int} {wr out : Bool} {nx run seq : Int} (hr : (!decide (run = 0)) = false) (h : decide (fo = 0) = false) : okBg fo wr out nx run seq 0 fo 0 (IntKind.wrap .i64 (nx + 1)) run seq true = true := by
 have e : badN fo wr out = fo := by unfold badN; rw [h]; rfl
 refine okBg_t.2 fun _ => ⟨run0 hr, fun _ => ⟨rfl, e.symm, rfl, rfl, run0 hr, rfl⟩, fun h0 => ?_⟩
 rw [e] at h0
 exact absurd h0 (of_decide_eq_false h)
theorem ok_b2 {fo : Int} {wr out : Bool} {nx run seq : Int} (hr : (!decide (run = 0)) = false) (h : decide (fo = 0) = true) (hw : wr = false) (ho : out = true) : okBg fo wr out nx run seq 0 230 0 (IntKind.wrap .i64 (nx + 1)) run seq true = true := by
 have e : badN fo wr out = 230 := by unfold badN; rw [h, hw, ho]; rfl
 refine okBg_t.2 fun _ => ⟨run0 hr, fun _ => ⟨rfl, e.symm, rfl, rfl, run0 hr, rfl⟩, fun h0 => ?_⟩
 rw [e] at h0
 exact absurd h0 (by decide)
theorem ok_w {fo : Int} {wr out : Bool} {nx run seq : Int} (hr : (!decide (run = 0)) = false) (h : decide (fo = 0) = true) (hw : wr = true) : okBg fo wr out nx run seq 0 0 0 nx 2 (IntKind.wrap .u64 (seq + 1)) false = true := by
 have e : badN fo wr out = 0 := by unfold badN; rw [h, hw]; rfl
 refine okBg_t.2 fun _ => ⟨run0 hr, fun h0 => absurd e h0, fun _ => ⟨rfl, rfl, by decide, by rw [hw]; rfl⟩⟩
theorem ok_r {fo : Int} {wr out : Bool} {nx run seq : Int} (hr : (!decide (run = 0)) = false) (h : decide (fo = 0) = true) (hw : wr = false) (ho : out = false) : okBg fo wr out nx run seq 0 0 0 nx 1 seq false = true := by
 have e : badN fo wr out = 0 := by unfold badN; rw [h, hw, ho]; rfl
 refine okBg_t.2 fun _ => ⟨run0 hr, fun h0 => absurd e h0, fun _ => ⟨rfl, rfl, by decide, by rw [hw]; rfl⟩⟩
def elO (l : Lst) (nx : Int) : Opr := ⟨(lget l.us (nx.toNat * 4)).toI, (lget l.us (nx.toNat * 4 + 1)).toI, (lget l.us (nx.toNat * 4 + 1 + 1)).toI, (lget l.us (nx.toNat * 4 + 1 + 1 + 1)).toI⟩
section
variable (v : AV)
def bNx : Int := (AV.ix (AV.ix v 0) 0).toI
def bRun : Int := (AV.ix (AV.ix v 0) 1).toI
def bSeq : Int := (AV.ix (AV.ix v 0) 48).toI
def bCode : Int := (AV.ix (AV.ix v 1) 0).toI
def bV : Int := (AV.ix (AV.ix v 1) 1).toI
def bOver : Bool := (AV.ix v 2).toB
def bE : Int := (AV.ix v 3).toI
end
theorem bif_t {b : Bool} (h : (bif b then true else false) = true) : b = true := by
 cases b
 ·cases h
 ·rfl
def elB (l : Lst) : Bool := @decide (elP l.us l.m) (Classical.propDecidable _)
theorem elB_t {l : Lst} : elB l = true ↔ elP l.us l.m := by
 unfold elB
 exact @decide_eq_true_iff _ (Classical.propDecidable _)
def pBg (l : Lst) (t : Thx) : Bool := pThx t.nrm && (clT t.nrm && elB l)
def sp_tbg : Sw := wT [wG [wI .i64, wI .u8, wI .u8, wI .i64, wI .i64, wI .u64, wI .u8, wI .u32, wI .u32, wI .u8, wI .u8, wI .u8, wI .u8, wI .u8, wI .u8, wI .u32, wI .u32, wI .i64, wI .u32, wL, wI .i64, wI .u8, wI .u64, wI .u8, wI .u32, wI .u32, wI .u32, wB, wI .i64, wI .u32, wL, wI .u64, wI .u64, wI .u64, wI .u64, wI .u64, wI .u64, wI .u64, wI .u64, wI .u64, wI .u64, wI .u64, wI .u64, wI .u64, wL, wI .u64, wI .i64, wI .u64, wI .u64, wB], wG [wI .i64, wI .u32, wN], wB, wI .i64]
section
variable (c : Conf) (n : Int) (l : Lst) (t : Thx)
def out_tbg : AV := outV (cfg [S_tchkx, S_own, S_opp, S_wrp, S_wbg, S_rbg]) 900 26 [c.av, .int .i64 n, l.av, t.av]
def f_tbg_0 : Int := AV.toI (AV.ix (AV.ix (out_tbg c n l t) 0) 0)
def f_tbg_1 : Int := AV.toI (AV.ix (AV.ix (out_tbg c n l t) 0) 1)
def f_tbg_2 : Int := AV.toI (AV.ix (AV.ix (out_tbg c n l t) 0) 2)
def f_tbg_3 : Int := AV.toI (AV.ix (AV.ix (out_tbg c n l t) 0) 3)
def f_tbg_4 : Int := AV.toI (AV.ix (AV.ix (out_tbg c n l t) 0) 4)
def f_tbg_5 : Int := AV.toI (AV.ix (AV.ix (out_tbg c n l t) 0) 5)
def f_tbg_6 : Int := AV.toI (AV.ix (AV.ix (out_tbg c n l t) 0) 6)
def f_tbg_7 : Int := AV.toI (AV.ix (AV.ix (out_tbg c n l t) 0) 7)
def f_tbg_8 : Int := AV.toI (AV.ix (AV.ix (out_tbg c n l t) 0) 8)
def f_tbg_9 : Int := AV.toI (AV.ix (AV.ix (out_tbg c n l t) 0) 9)
def f_tbg_10 : Int := AV.toI (AV.ix (AV.ix (out_tbg c n l t) 0) 10)
def f_tbg_11 : Int := AV.toI (AV.ix (AV.ix (out_tbg c n l t) 0) 11)
def f_tbg_12 : Int := AV.toI (AV.ix (AV.ix (out_tbg c n l t) 0) 12)
def f_tbg_13 : Int := AV.toI (AV.ix (AV.ix (out_tbg c n l t) 0) 13)
def f_tbg_14 : Int := AV.toI (AV.ix (AV.ix (out_tbg c n l t) 0) 14)
def f_tbg_15 : Int := AV.toI (AV.ix (AV.ix (out_tbg c n l t) 0) 15)
def f_tbg_16 : Int := AV.toI (AV.ix (AV.ix (out_tbg c n l t) 0) 16)
def f_tbg_17 : Int := AV.toI (AV.ix (AV.ix (out_tbg c n l t) 0) 17)
def f_tbg_18 : Int := AV.toI (AV.ix (AV.ix (out_tbg c n l t) 0) 18)
def f_tbg_19 : List AV := AV.lcX (AV.ix (AV.ix (out_tbg c n l t) 0) 19)
def f_tbg_20 : Nat := AV.lnX (AV.ix (AV.ix (out_tbg c n l t) 0) 19)
def f_tbg_21 : Int := AV.toI (AV.ix (AV.ix (out_tbg c n l t) 0) 20)
def f_tbg_22 : Int := AV.toI (AV.ix (AV.ix (out_tbg c n l t) 0) 21)
def f_tbg_23 : Int := AV.toI (AV.ix (AV.ix (out_tbg c n l t) 0) 22)
def f_tbg_24 : Int := AV.toI (AV.ix (AV.ix (out_tbg c n l t) 0) 23)
def f_tbg_25 : Int := AV.toI (AV.ix (AV.ix (out_tbg c n l t) 0) 24)
def f_tbg_26 : Int := AV.toI (AV.ix (AV.ix (out_tbg c n l t) 0) 25)
def f_tbg_27 : Int := AV.toI (AV.ix (AV.ix (out_tbg c n l t) 0) 26)
def f_tbg_28 : Bool := AV.toB (AV.ix (AV.ix (out_tbg c n l t) 0) 27)
def f_tbg_29 : Int := AV.toI (AV.ix (AV.ix (out_tbg c n l t) 0) 28)
def f_tbg_30 : Int := AV.toI (AV.ix (AV.ix (out_tbg c n l t) 0) 29)
def f_tbg_31 : List AV := AV.lcX (AV.ix (AV.ix (out_tbg c n l t) 0) 30)
def f_tbg_32 : Nat := AV.lnX (AV.ix (AV.ix (out_tbg c n l t) 0) 30)
def f_tbg_33 : Int := AV.toI (AV.ix (AV.ix (out_tbg c n l t) 0) 31)
def f_tbg_34 : Int := AV.toI (AV.ix (AV.ix (out_tbg c n l t) 0) 32)
def f_tbg_35 : Int := AV.toI (AV.ix (AV.ix (out_tbg c n l t) 0) 33)
def f_tbg_36 : Int := AV.toI (AV.ix (AV.ix (out_tbg c n l t) 0) 34)
def f_tbg_37 : Int := AV.toI (AV.ix (AV.ix (out_tbg c n l t) 0) 35)
def f_tbg_38 : Int := AV.toI (AV.ix (AV.ix (out_tbg c n l t) 0) 36)
def f_tbg_39 : Int := AV.toI (AV.ix (AV.ix (out_tbg c n l t) 0) 37)
def f_tbg_40 : Int := AV.toI (AV.ix (AV.ix (out_tbg c n l t) 0) 38)
def f_tbg_41 : Int := AV.toI (AV.ix (AV.ix (out_tbg c n l t) 0) 39)
def f_tbg_42 : Int := AV.toI (AV.ix (AV.ix (out_tbg c n l t) 0) 40)
def f_tbg_43 : Int := AV.toI (AV.ix (AV.ix (out_tbg c n l t) 0) 41)
def f_tbg_44 : Int := AV.toI (AV.ix (AV.ix (out_tbg c n l t) 0) 42)
def f_tbg_45 : Int := AV.toI (AV.ix (AV.ix (out_tbg c n l t) 0) 43)
def f_tbg_46 : List AV := AV.lcX (AV.ix (AV.ix (out_tbg c n l t) 0) 44)
def f_tbg_47 : Nat := AV.lnX (AV.ix (AV.ix (out_tbg c n l t) 0) 44)
def f_tbg_48 : Int := AV.toI (AV.ix (AV.ix (out_tbg c n l t) 0) 45)
def f_tbg_49 : Int := AV.toI (AV.ix (AV.ix (out_tbg c n l t) 0) 46)
def f_tbg_50 : Int := AV.toI (AV.ix (AV.ix (out_tbg c n l t) 0) 47)
def f_tbg_51 : Int := AV.toI (AV.ix (AV.ix (out_tbg c n l t) 0) 48)
def f_tbg_52 : Bool := AV.toB (AV.ix (AV.ix (out_tbg c n l t) 0) 49)
def f_tbg_53 : Int := AV.toI (AV.ix (AV.ix (out_tbg c n l t) 1) 0)
def f_tbg_54 : Int := AV.toI (AV.ix (AV.ix (out_tbg c n l t) 1) 1)
def f_tbg_55 : Bool := AV.toB (AV.ix (out_tbg c n l t) 2)
def f_tbg_56 : Int := AV.toI (AV.ix (out_tbg c n l t) 3)
def o_tbg : AV := .tup [.agg [.int .i64 (f_tbg_0 c n l t), .int .u8 (f_tbg_1 c n l t), .int .u8 (f_tbg_2 c n l t), .int .i64 (f_tbg_3 c n l t), .int .i64 (f_tbg_4 c n l t), .int .u64 (f_tbg_5 c n l t), .int .u8 (f_tbg_6 c n l t), .int .u32 (f_tbg_7 c n l t), .int .u32 (f_tbg_8 c n l t), .int .u8 (f_tbg_9 c n l t), .int .u8 (f_tbg_10 c n l t), .int .u8 (f_tbg_11 c n l t), .int .u8 (f_tbg_12 c n l t), .int .u8 (f_tbg_13 c n l t), .int .u8 (f_tbg_14 c n l t), .int .u32 (f_tbg_15 c n l t), .int .u32 (f_tbg_16 c n l t), .int .i64 (f_tbg_17 c n l t), .int .u32 (f_tbg_18 c n l t), .lst (f_tbg_19 c n l t) (f_tbg_20 c n l t), .int .i64 (f_tbg_21 c n l t), .int .u8 (f_tbg_22 c n l t), .int .u64 (f_tbg_23 c n l t), .int .u8 (f_tbg_24 c n l t), .int .u32 (f_tbg_25 c n l t), .int .u32 (f_tbg_26 c n l t), .int .u32 (f_tbg_27 c n l t), .bool (f_tbg_28 c n l t), .int .i64 (f_tbg_29 c n l t), .int .u32 (f_tbg_30 c n l t), .lst (f_tbg_31 c n l t) (f_tbg_32 c n l t), .int .u64 (f_tbg_33 c n l t), .int .u64 (f_tbg_34 c n l t), .int .u64 (f_tbg_35 c n l t), .int .u64 (f_tbg_36 c n l t), .int .u64 (f_tbg_37 c n l t), .int .u64 (f_tbg_38 c n l t), .int .u64 (f_tbg_39 c n l t), .int .u64 (f_tbg_40 c n l t), .int .u64 (f_tbg_41 c n l t), .int .u64 (f_tbg_42 c n l t), .int .u64 (f_tbg_43 c n l t), .int .u64 (f_tbg_44 c n l t), .int .u64 (f_tbg_45 c n l t), .lst (f_tbg_46 c n l t) (f_tbg_47 c n l t), .int .u64 (f_tbg_48 c n l t), .int .i64 (f_tbg_49 c n l t), .int .u64 (f_tbg_50 c n l t), .int .u64 (f_tbg_51 c n l t), .bool (f_tbg_52 c n l t)], .agg [.int .i64 (f_tbg_53 c n l t), .int .u32 (f_tbg_54 c n l t), .nils], .bool (f_tbg_55 c n l t), .int .i64 (f_tbg_56 c n l t)]
end
def S_tbg : Sum := (26, on4 rConf (rI .i64) rLst rThx (fun c n l t => pBg l t) (fun c n l t => o_tbg c n l t))
theorem oe_tbg (c : Conf) (n : Int) (l : Lst) (t : Thx) : sp_tbg.bd (out_tbg c n l t) = o_tbg c n l t := by kernel_rfl
abbrev zb0 (nx : Int) (out : Bool) (r : Rdr) (run : Int) (seq : Int) (w : Wtr) (x1 : AV) (x2 : AV) (x3 : AV) := Thx.mk nx run (Rdr.mk r.1 r.2 r.3 r.4 r.5 r.6 r.7 [] 0 r.10) (Wtr.mk w.1 w.2 w.3 w.4 w.5 w.6 [] 0 w.9 w.10 w.11 w.12 [] 0 w.15) seq out x1 x2 x3
abbrev zb1 (c : Conf) (l : Lst) (nx : Int) := f_opc_0 c (BasZBegin.elO l nx)
abbrev zb2 (l : Lst) (nx : Int) := f_wr_0 (BasZBegin.elO l nx).1
abbrev zb3 (l : Lst) (nx : Int) := Opr.mk (AV.toI (lget l.1 ((Int.toNat nx) * 4))) (AV.toI (lget l.1 (((Int.toNat nx) * 4) + 1))) (AV.toI (lget l.1 ((((Int.toNat nx) * 4) + 1) + 1))) (AV.toI (lget l.1 (((((Int.toNat nx) * 4) + 1) + 1) + 1)))
abbrev zb4 (c : Conf) (l : Lst) (nx : Int) (out : Bool) (run : Int) (seq : Int) := (br ((f_wr_0 (AV.toI (lget l.1 ((Int.toNat nx) * 4))))) ((ba ((posO (zb3 l nx))) ((ba ((BasZBegin.okBg (zb1 c l nx) (zb2 l nx) out nx run seq 0 0 0 nx 2 (IntKind.wrap .u64 (seq + 1)) Bool.false)) true)))) ((ba ((posO (zb3 l nx))) ((ba ((BasZBegin.okBg (zb1 c l nx) (zb2 l nx) out nx run seq 0 0 0 nx 1 seq Bool.false)) true)))))
abbrev zb5 (c : Conf) (l : Lst) (nx : Int) (out : Bool) (r : Rdr) (run : Int) (seq : Int) (w : Wtr) (x1 : AV) (x2 : AV) (x3 : AV) := (ba ((BasZThx.clT (zb0 nx out r run seq w x1 x2 x3))) ((br ((!decide ((f_opc_0 c (zb3 l nx)) = 0))) ((ba ((BasZBegin.okBg (zb1 c l nx) (zb2 l nx) out nx run seq 0 (f_opc_0 c (zb3 l nx)) 0 (IntKind.wrap .i64 (nx + 1)) run seq Bool.true)) true)) ((br ((f_wr_0 (AV.toI (lget l.1 ((Int.toNat nx) * 4))))) ((br (decide (seq = 64)) ((ba ((BasZBegin.okBg (zb1 c l nx) (zb2 l nx) out nx run seq 2 0 0 0 0 0 Bool.false)) true)) (zb4 c l nx out run seq))) (zb4 c l nx out run seq))))))
section
variable (c : Conf) (n : Int) (l : Lst) (nx run : Int) (r : Rdr) (w : Wtr) (seq : Int) (out : Bool)
def T_tbg (x1 x2 x3 : AV) : Bool := (ba (BasZThx.pThx (zb0 nx out r run seq w x1 x2 x3)) (br (!decide ((f_tchk_0 c n (Thx.toL (zb0 nx out r run seq w x1 x2 x3)) Bool.false) = 0)) (ba (BasZBegin.okBg (zb1 c l nx) (zb2 l nx) out nx run seq (f_tchk_0 c n (Thx.toL (zb0 nx out r run seq w x1 x2 x3)) Bool.false) 0 0 0 0 0 Bool.false) true) (br (decide ((Int.ofNat l.2) > 64)) (ba (BasZBegin.okBg (zb1 c l nx) (zb2 l nx) out nx run seq 4 0 0 0 0 0 Bool.false) true) (br (!decide (run = 0)) (ba (BasZBegin.okBg (zb1 c l nx) (zb2 l nx) out nx run seq 2 0 0 0 0 0 Bool.false) true) (br (decide (nx >= (Int.ofNat l.2))) (ba (BasZBegin.okBg (zb1 c l nx) (zb2 l nx) out nx run seq 2 0 0 0 0 0 Bool.false) true) (ba ((inside nx l.2) && (Nat.beq (List.length l.1) (l.2 * 4))) (ba (Nat.ble (((Int.toNat nx) * 4) + 4) (List.length l.1)) (ba (AV.isI .u8 (lget l.1 ((Int.toNat nx) * 4))) (ba (AV.isI .u32 (lget l.1 (((Int.toNat nx) * 4) + 1))) (ba (AV.isI .u32 (lget l.1 ((((Int.toNat nx) * 4) + 1) + 1))) (ba (AV.isI .u32 (lget l.1 (((((Int.toNat nx) * 4) + 1) + 1) + 1))) (ba (posO (zb3 l nx)) (ba (posW (AV.toI (lget l.1 ((Int.toNat nx) * 4)))) (br (decide ((f_opc_0 c (zb3 l nx)) = 0)) (br (!(f_wr_0 (AV.toI (lget l.1 ((Int.toNat nx) * 4))))) (br (out) (ba (BasZThx.clT (zb0 nx out r run seq w x1 x2 x3)) (ba (BasZBegin.okBg (zb1 c l nx) (zb2 l nx) out nx run seq 0 230 0 (IntKind.wrap .i64 (nx + 1)) run seq Bool.true) true)) (zb5 c l nx out r run seq w x1 x2 x3)) (zb5 c l nx out r run seq w x1 x2 x3)) (zb5 c l nx out r run seq w x1 x2 x3)))))))))))))))
abbrev L_tbg (x1 x2 x3 : AV) : Bool := runF (cfg [S_tchkx, S_own, S_opp, S_wrp, S_wbg, S_rbg]) 900 26 [c.av, .int .i64 n, l.av, (⟨nx, run, r, w, seq, out, x1, x2, x3⟩ : Thx).av] (fun v => sp_tbg.has v && (bif okBg (f_opc_0 c (elO l nx)) (f_wr_0 (elO l nx).kind) out nx run seq (bE v) (bCode v) (bV v) (bNx v) (bRun v) (bSeq v) (bOver v) then true else false)) false
theorem T_tbg_nnn : L_tbg c n l nx run r w seq out (.nils) (.nils) (.nils) = T_tbg c n l nx run r w seq out (.nils) (.nils) (.nils) := by kernel_rfl
theorem T_tbg_nns : L_tbg c n l nx run r w seq out (.nils) (.nils) (.ns) = T_tbg c n l nx run r w seq out (.nils) (.nils) (.ns) := by kernel_rfl
theorem T_tbg_nnl (a3 : AV) (r3 : List AV) (m3 : Nat) : L_tbg c n l nx run r w seq out (.nils) (.nils) (.lst (a3 :: r3) m3) = T_tbg c n l nx run r w seq out (.nils) (.nils) (.lst (a3 :: r3) m3) := by kernel_rfl
theorem T_tbg_nsn : L_tbg c n l nx run r w seq out (.nils) (.ns) (.nils) = T_tbg c n l nx run r w seq out (.nils) (.ns) (.nils) := by kernel_rfl
theorem T_tbg_nss : L_tbg c n l nx run r w seq out (.nils) (.ns) (.ns) = T_tbg c n l nx run r w seq out (.nils) (.ns) (.ns) := by kernel_rfl
theorem T_tbg_nsl (a3 : AV) (r3 : List AV) (m3 : Nat) : L_tbg c n l nx run r w seq out (.nils) (.ns) (.lst (a3 :: r3) m3) = T_tbg c n l nx run r w seq out (.nils) (.ns) (.lst (a3 :: r3) m3) := by kernel_rfl
theorem T_tbg_nln (a2 : AV) (r2 : List AV) (m2 : Nat) : L_tbg c n l nx run r w seq out (.nils) (.lst (a2 :: r2) m2) (.nils) = T_tbg c n l nx run r w seq out (.nils) (.lst (a2 :: r2) m2) (.nils) := by kernel_rfl
theorem T_tbg_nls (a2 : AV) (r2 : List AV) (m2 : Nat) : L_tbg c n l nx run r w seq out (.nils) (.lst (a2 :: r2) m2) (.ns) = T_tbg c n l nx run r w seq out (.nils) (.lst (a2 :: r2) m2) (.ns) := by kernel_rfl
theorem T_tbg_nll (a2 : AV) (r2 : List AV) (m2 : Nat) (a3 : AV) (r3 : List AV) (m3 : Nat) : L_tbg c n l nx run r w seq out (.nils) (.lst (a2 :: r2) m2) (.lst (a3 :: r3) m3) = T_tbg c n l nx run r w seq out (.nils) (.lst (a2 :: r2) m2) (.lst (a3 :: r3) m3) := by kernel_rfl
theorem T_tbg_snn : L_tbg c n l nx run r w seq out (.ns) (.nils) (.nils) = T_tbg c n l nx run r w seq out (.ns) (.nils) (.nils) := by kernel_rfl
theorem T_tbg_sns : L_tbg c n l nx run r w seq out (.ns) (.nils) (.ns) = T_tbg c n l nx run r w seq out (.ns) (.nils) (.ns) := by kernel_rfl
theorem T_tbg_snl (a3 : AV) (r3 : List AV) (m3 : Nat) : L_tbg c n l nx run r w seq out (.ns) (.nils) (.lst (a3 :: r3) m3) = T_tbg c n l nx run r w seq out (.ns) (.nils) (.lst (a3 :: r3) m3) := by kernel_rfl
theorem T_tbg_ssn : L_tbg c n l nx run r w seq out (.ns) (.ns) (.nils) = T_tbg c n l nx run r w seq out (.ns) (.ns) (.nils) := by kernel_rfl
theorem T_tbg_sss : L_tbg c n l nx run r w seq out (.ns) (.ns) (.ns) = T_tbg c n l nx run r w seq out (.ns) (.ns) (.ns) := by kernel_rfl
theorem T_tbg_ssl (a3 : AV) (r3 : List AV) (m3 : Nat) : L_tbg c n l nx run r w seq out (.ns) (.ns) (.lst (a3 :: r3) m3) = T_tbg c n l nx run r w seq out (.ns) (.ns) (.lst (a3 :: r3) m3) := by kernel_rfl
theorem T_tbg_sln (a2 : AV) (r2 : List AV) (m2 : Nat) : L_tbg c n l nx run r w seq out (.ns) (.lst (a2 :: r2) m2) (.nils) = T_tbg c n l nx run r w seq out (.ns) (.lst (a2 :: r2) m2) (.nils) := by kernel_rfl
theorem T_tbg_sls (a2 : AV) (r2 : List AV) (m2 : Nat) : L_tbg c n l nx run r w seq out (.ns) (.lst (a2 :: r2) m2) (.ns) = T_tbg c n l nx run r w seq out (.ns) (.lst (a2 :: r2) m2) (.ns) := by kernel_rfl
theorem T_tbg_sll (a2 : AV) (r2 : List AV) (m2 : Nat) (a3 : AV) (r3 : List AV) (m3 : Nat) : L_tbg c n l nx run r w seq out (.ns) (.lst (a2 :: r2) m2) (.lst (a3 :: r3) m3) = T_tbg c n l nx run r w seq out (.ns) (.lst (a2 :: r2) m2) (.lst (a3 :: r3) m3) := by kernel_rfl
theorem T_tbg_lnn (a1 : AV) (r1 : List AV) (m1 : Nat) : L_tbg c n l nx run r w seq out (.lst (a1 :: r1) m1) (.nils) (.nils) = T_tbg c n l nx run r w seq out (.lst (a1 :: r1) m1) (.nils) (.nils) := by kernel_rfl
theorem T_tbg_lns (a1 : AV) (r1 : List AV) (m1 : Nat) : L_tbg c n l nx run r w seq out (.lst (a1 :: r1) m1) (.nils) (.ns) = T_tbg c n l nx run r w seq out (.lst (a1 :: r1) m1) (.nils) (.ns) := by kernel_rfl
theorem T_tbg_lnl (a1 : AV) (r1 : List AV) (m1 : Nat) (a3 : AV) (r3 : List AV) (m3 : Nat) : L_tbg c n l nx run r w seq out (.lst (a1 :: r1) m1) (.nils) (.lst (a3 :: r3) m3) = T_tbg c n l nx run r w seq out (.lst (a1 :: r1) m1) (.nils) (.lst (a3 :: r3) m3) := by kernel_rfl
theorem T_tbg_lsn (a1 : AV) (r1 : List AV) (m1 : Nat) : L_tbg c n l nx run r w seq out (.lst (a1 :: r1) m1) (.ns) (.nils) = T_tbg c n l nx run r w seq out (.lst (a1 :: r1) m1) (.ns) (.nils) := by kernel_rfl
theorem T_tbg_lss (a1 : AV) (r1 : List AV) (m1 : Nat) : L_tbg c n l nx run r w seq out (.lst (a1 :: r1) m1) (.ns) (.ns) = T_tbg c n l nx run r w seq out (.lst (a1 :: r1) m1) (.ns) (.ns) := by kernel_rfl
theorem T_tbg_lsl (a1 : AV) (r1 : List AV) (m1 : Nat) (a3 : AV) (r3 : List AV) (m3 : Nat) : L_tbg c n l nx run r w seq out (.lst (a1 :: r1) m1) (.ns) (.lst (a3 :: r3) m3) = T_tbg c n l nx run r w seq out (.lst (a1 :: r1) m1) (.ns) (.lst (a3 :: r3) m3) := by kernel_rfl
theorem T_tbg_lln (a1 : AV) (r1 : List AV) (m1 : Nat) (a2 : AV) (r2 : List AV) (m2 : Nat) : L_tbg c n l nx run r w seq out (.lst (a1 :: r1) m1) (.lst (a2 :: r2) m2) (.nils) = T_tbg c n l nx run r w seq out (.lst (a1 :: r1) m1) (.lst (a2 :: r2) m2) (.nils) := by kernel_rfl
theorem T_tbg_lls (a1 : AV) (r1 : List AV) (m1 : Nat) (a2 : AV) (r2 : List AV) (m2 : Nat) : L_tbg c n l nx run r w seq out (.lst (a1 :: r1) m1) (.lst (a2 :: r2) m2) (.ns) = T_tbg c n l nx run r w seq out (.lst (a1 :: r1) m1) (.lst (a2 :: r2) m2) (.ns) := by kernel_rfl
theorem T_tbg_lll (a1 : AV) (r1 : List AV) (m1 : Nat) (a2 : AV) (r2 : List AV) (m2 : Nat) (a3 : AV) (r3 : List AV) (m3 : Nat) : L_tbg c n l nx run r w seq out (.lst (a1 :: r1) m1) (.lst (a2 :: r2) m2) (.lst (a3 :: r3) m3) = T_tbg c n l nx run r w seq out (.lst (a1 :: r1) m1) (.lst (a2 :: r2) m2) (.lst (a3 :: r3) m3) := by kernel_rfl
end
abbrev zb6 := cfg [S_tchkx, S_own, S_opp, S_wrp, S_wbg, S_rbg]
theorem t_tbg (c : Conf) (n : Int) (l : Lst) (nx run : Int) (r : Rdr) (w : Wtr) (seq : Int) (out : Bool) (x1 x2 x3 : AV) (h1 : x1.isSd = true) (h2 : x2.isSd = true) (h3 : x3.isSd = true) (hp : pThx (Thx.nrm (⟨nx, run, r, w, seq, out, x1, x2, x3⟩ : Thx)) = true) (hc : clT (Thx.nrm (⟨nx, run, r, w, seq, out, x1, x2, x3⟩ : Thx)) = true) (hl : elP l.us l.m) : runF zb6 900 26 [c.av, .int .i64 n, l.av, (⟨nx, run, r, w, seq, out, x1, x2, x3⟩ : Thx).av] (fun v => sp_tbg.has v && (bif okBg (f_opc_0 c (elO l nx)) (f_wr_0 (elO l nx).kind) out nx run seq (bE v) (bCode v) (bV v) (bNx v) (bRun v) (bSeq v) (bOver v) then true else false)) false = true := (show runF zb6 900 26 [c.av, .int .i64 n, l.av, (⟨nx, run, r, w, seq, out, x1, x2, x3⟩ : Thx).av] (fun v => sp_tbg.has v && (bif okBg (f_opc_0 c (elO l nx)) (f_wr_0 (elO l nx).kind) out nx run seq (bE v) (bCode v) (bV v) (bNx v) (bRun v) (bSeq v) (bOver v) then true else false)) false = T_tbg c n l nx run r w seq out x1 x2 x3 from (by rcases sd_cases h1 with rfl | rfl | ⟨a1, r1, m1, rfl⟩ <;> rcases sd_cases h2 with rfl | rfl | ⟨a2, r2, m2, rfl⟩ <;> rcases sd_cases h3 with rfl | rfl | ⟨a3, r3, m3, rfl⟩; exact T_tbg_nnn c n l nx run r w seq out; exact T_tbg_nns c n l nx run r w seq out; exact T_tbg_nnl c n l nx run r w seq out a3 r3 m3; exact T_tbg_nsn c n l nx run r w seq out; exact T_tbg_nss c n l nx run r w seq out; exact T_tbg_nsl c n l nx run r w seq out a3 r3 m3; exact T_tbg_nln c n l nx run r w seq out a2 r2 m2; exact T_tbg_nls c n l nx run r w seq out a2 r2 m2; exact T_tbg_nll c n l nx run r w seq out a2 r2 m2 a3 r3 m3; exact T_tbg_snn c n l nx run r w seq out; exact T_tbg_sns c n l nx run r w seq out; exact T_tbg_snl c n l nx run r w seq out a3 r3 m3; exact T_tbg_ssn c n l nx run r w seq out; exact T_tbg_sss c n l nx run r w seq out; exact T_tbg_ssl c n l nx run r w seq out a3 r3 m3; exact T_tbg_sln c n l nx run r w seq out a2 r2 m2; exact T_tbg_sls c n l nx run r w seq out a2 r2 m2; exact T_tbg_sll c n l nx run r w seq out a2 r2 m2 a3 r3 m3; exact T_tbg_lnn c n l nx run r w seq out a1 r1 m1; exact T_tbg_lns c n l nx run r w seq out a1 r1 m1; exact T_tbg_lnl c n l nx run r w seq out a1 r1 m1 a3 r3 m3; exact T_tbg_lsn c n l nx run r w seq out a1 r1 m1; exact T_tbg_lss c n l nx run r w seq out a1 r1 m1; exact T_tbg_lsl c n l nx run r w seq out a1 r1 m1 a3 r3 m3; exact T_tbg_lln c n l nx run r w seq out a1 r1 m1 a2 r2 m2; exact T_tbg_lls c n l nx run r w seq out a1 r1 m1 a2 r2 m2; exact T_tbg_lll c n l nx run r w seq out a1 r1 m1 a2 r2 m2 a3 r3 m3)).trans (band hp (bdt (fun h_1 => (band (ok_err (of_not_t h_1)) rfl)) (fun h_1 => (bdt (fun h_2 => (band (ok_err rfl) rfl)) (fun h_2 => (bdt (fun h_3 => (band (ok_err rfl) rfl)) (fun h_3 => (bdt (fun h_4 => (band (ok_err rfl) rfl)) (fun h_4 => (band (el_in hl (nx_of hp h_1) h_4) (band (el_ble hl (nx_of hp h_1) h_4) (band (el_at hl (nx_of hp h_1) h_4).1.1 (band (el_at hl (nx_of hp h_1) h_4).1.2.1 (band (el_at hl (nx_of hp h_1) h_4).1.2.2.1 (band (el_at hl (nx_of hp h_1) h_4).1.2.2.2 (band (el_posO hl (nx_of hp h_1) h_4) (band (el_posW hl (nx_of hp h_1) h_4) (bdt (fun h_5 => (bdt (fun h_6 => (bdt (fun h_7 => (band hc (band (ok_b2 h_3 h_5 (of_not_t h_6) h_7) rfl))) (fun h_7 => (band hc (btf (not_t h_5) (btf (of_not_t h_6) (btf (of_not_t h_6) (band (el_posO hl (nx_of hp h_1) h_4) (band (ok_r h_3 h_5 (of_not_t h_6) h_7) rfl))))))))) (fun h_6 => (band hc (btf (not_t h_5) (btb (of_not_f h_6) (bdt (fun h_7 => (band (ok_err rfl) rfl)) (fun h_7 => (btb (of_not_f h_6) (band (el_posO hl (nx_of hp h_1) h_4) (band (ok_w h_3 h_5 (of_not_f h_6)) rfl))))))))))) (fun h_5 => (band hc (btb (not_f h_5) (band (ok_b1 h_3 h_5) rfl))))))))))))))))))))))
theorem run_tbg (c : Conf) (n : Int) (l : Lst) (t : Thx) (h : pBg l t = true) : runF zb6 900 26 [c.av, .int .i64 n, l.av, t.av] sp_tbg.has false = true := ((run_out (t_tbg c n l t.nx t.run t.r t.w t.seq t.out t.x t.y t.z (and_left (clT_sd (and_left (and_right h)))) (and_left (and_right (clT_sd (and_left (and_right h))))) (and_right (and_right (clT_sd (and_left (and_right h))))) (and_left h) (and_left (and_right h)) (elB_t.1 (and_right (and_right h))))).2 sp_tbg.has).trans (and_left (run_out (t_tbg c n l t.nx t.run t.r t.w t.seq t.out t.x t.y t.z (and_left (clT_sd (and_left (and_right h)))) (and_left (and_right (clT_sd (and_left (and_right h))))) (and_right (and_right (clT_sd (and_left (and_right h))))) (and_left h) (and_left (and_right h)) (elB_t.1 (and_right (and_right h))))).1)
theorem s_tbg : SumOk Tryz.prog (gmap gs) S_tbg := on4_sum fun c n l t hp => (acalls_outW base (sums_cons s_tchkx (sums_cons s_own (sums_cons s_opp (sums_cons s_wrp (sums_cons s_wbg (sums_cons s_rbg sums_nil)))))) (n := 900) sp_tbg (run_tbg c n l t hp)).mono fun v_ hv_ => hv_.trans (oe_tbg c n l t)
theorem p_tbg {c : Conf} {n : Int} {l : Lst} {t : Thx} (hp : pBg l t = true) : okBg (f_opc_0 c (elO l t.nx)) (f_wr_0 (elO l t.nx).kind) t.out t.nx t.run t.seq (f_tbg_56 c n l t) (f_tbg_53 c n l t) (f_tbg_54 c n l t) (f_tbg_0 c n l t) (f_tbg_1 c n l t) (f_tbg_51 c n l t) (f_tbg_55 c n l t) = true := bif_t (and_right (run_out (t_tbg c n l t.nx t.run t.r t.w t.seq t.out t.x t.y t.z (and_left (clT_sd (and_left (and_right hp)))) (and_left (and_right (clT_sd (and_left (and_right hp))))) (and_right (and_right (clT_sd (and_left (and_right hp))))) (and_left hp) (and_left (and_right hp)) (elB_t.1 (and_right (and_right hp))))).1)
end
end Go.Bas.BasZBegin
