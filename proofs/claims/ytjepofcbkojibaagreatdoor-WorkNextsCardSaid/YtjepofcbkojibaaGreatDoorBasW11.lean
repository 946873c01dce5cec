/- Contracts by a run's outcome: the program of an index, but for its way up; The program of an index answers always, where frames' numbers are such asv their types have; Contracts by a run's outcome: the programs of all four objects; Where a place stands: the loops' bodies; Where a place stands: the places of a part, in order, asv they are looked through; Where a place stands: the function, for each number of instances. -/
import Derived.Test.YtjepofcbkojibaaGreatDoorBasW5
import Derived.Test.YtjepofcbkojibaaGreatDoorBasW7
import Derived.Test.YtjepofcbkojibaaGreatDoorBasW9
set_option maxRecDepth 100000
set_option maxHeartbeats 4000000
set_option linter.unusedVariables false
set_option linter.unusedSimpArgs false
section
namespace Go.Bas.BasZTreN
noncomputable section
open Go.RowKit Go.Proofs
open BasZBase BasZRank BasZOk BasZTreB BasZTre
def sp_tnx:Sp:=sT [sG [sI .u8,sI .i64,sI .u64,sI .u64,sI .u64,sI .i64,sI .u32],sI .i64]
section
variable (c:Conf) (f:Frm)
def Pi:AV:=Wv (cfg [Bq,Vw,Aib,Qm]) 400 206 [c.av,f.av]
def Bfe:Int:=AV.toI (AV.ix (AV.ix (Pi c f) 0) 0)
def Bff:Int:=AV.toI (AV.ix (AV.ix (Pi c f) 0) 1)
def Bfg:Int:=AV.toI (AV.ix (AV.ix (Pi c f) 0) 2)
def Bfh:Int:=AV.toI (AV.ix (AV.ix (Pi c f) 0) 3)
def Bfi:Int:=AV.toI (AV.ix (AV.ix (Pi c f) 0) 4)
def Bfj:Int:=AV.toI (AV.ix (AV.ix (Pi c f) 0) 5)
def Bfk:Int:=AV.toI (AV.ix (AV.ix (Pi c f) 0) 6)
def Bfl:Int:=AV.toI (AV.ix (Pi c f) 1)
def Aaf:AV:=.tup [.agg [.int .u8 (Bfe c f),.int .i64 (Bff c f),.int .u64 (Bfg c f),.int .u64 (Bfh c f),.int .u64 (Bfi c f),.int .i64 (Bfj c f),.int .u32 (Bfk c f)],.int .i64 (Bfl c f)]
end
def Bj5:Sum:=(206,on2 Dp Ji (fun c f=>(decide (Az c=0)&&(decide (c.ob=2)&&((Ep f&&Ey (lvL c.cap c.node) (lvN c.cap c.node))&&Ce (mkr c f))))) (fun c f=>Aaf c f))
theorem Av8 (c:Conf) (f:Frm):sp_tnx.bd (Pi c f)=Aaf c f:=by kernel_rfl
abbrev HE0 (c:Conf):Prop:=decide (Az c=0)=true
abbrev HW1 (c:Conf):Prop:=Bf c.cap 1 c.node=true
theorem t_tnx (c:Conf) (f:Frm) (he:HE0 c) (hw:HW1 c) (hm:((Ep f&&Ey (lvL c.cap c.node) (lvN c.cap c.node))&&Ce (mkr c f))=true) (ha:(Ey (lvL c.cap c.node) (lvN c.cap c.node)&&(decide (0<=f.h)&&decide (f.h<(lvN c.cap c.node:Int))))=true):Ai (cfg [Bq,Vw,Aib,Qm]) 400 206 [c.av,f.av] sp_tnx.has false=true:=Eq.trans (b:=(br (!decide ((Az c)=0)) true (br (!decide (c.1=2)) true (ba (Bf c.7 1 c.8) (ba (((Ep f)&&(Ey (lvL c.7 c.8) (lvN c.7 c.8)))&&(Ce (TRa.mk f c (lvL c.7 c.8) (lvN c.7 c.8) 0 0 false))) (ba ((Ey (lvL c.7 c.8) (lvN c.7 c.8))&&(decide (0<=f.9)&&decide (f.9<(Int.ofNat (lvN c.7 c.8))))) true)))))) (by kernel_rfl) (btf (nn he) (btt rfl (band hw (band hm (band ha rfl)))))
theorem Bfm (c:Conf) (f:Frm) (h:(decide (Az c=0)&&(decide (c.ob=2)&&((Ep f&&Ey (lvL c.cap c.node) (lvN c.cap c.node))&&Ce (mkr c f))))=true):Ai (cfg [Bq,Vw,Aib,Qm]) 400 206 [c.av,f.av] sp_tnx.has false=true:=by
 simp only [Bae] at h
 obtain ⟨he,ho,⟨⟨hp,hv⟩,hm⟩⟩:=h
 have hP:=X7 (mkr c f) hp hv hm
 exact t_tnx c f he (Ky he ho) (by rw [hp,hv,hm];rfl) (by rw [hv,Ddt (H7.1 hp).2.2.2.1,Ddt (show f.h<(lvN c.cap c.node:Int) from hP.1)];rfl)
theorem s_tnx:Bc Tryz.prog (Cb gs) Bj5:=Cm fun c f hp=>(H9 base (Ah Jn (Ah A5l (Ah Bny (Ah Bjp Ap)))) (n:=400) sp_tnx (Bfm c f hp)).mono fun v_ hv_=>hv_.trans (Av8 c f)
def sp_tnn:Sp:=sT [sG [sI .u8,sI .i64,sI .u64,sI .u64,sI .u64,sI .i64,sI .u32],sI .i64]
section
variable (c:Conf) (f:Frm)
def Oi:AV:=Wv (cfg [Bq,Vw,Aic]) 400 206 [c.av,f.av]
def Bfn:Int:=AV.toI (AV.ix (AV.ix (Oi c f) 0) 0)
def Bfo:Int:=AV.toI (AV.ix (AV.ix (Oi c f) 0) 1)
def Bfq:Int:=AV.toI (AV.ix (AV.ix (Oi c f) 0) 2)
def Bfr:Int:=AV.toI (AV.ix (AV.ix (Oi c f) 0) 3)
def Bfs:Int:=AV.toI (AV.ix (AV.ix (Oi c f) 0) 4)
def Bft:Int:=AV.toI (AV.ix (AV.ix (Oi c f) 0) 5)
def Bfu:Int:=AV.toI (AV.ix (AV.ix (Oi c f) 0) 6)
def Bfv:Int:=AV.toI (AV.ix (Oi c f) 1)
def Aag:AV:=.tup [.agg [.int .u8 (Bfn c f),.int .i64 (Bfo c f),.int .u64 (Bfq c f),.int .u64 (Bfr c f),.int .u64 (Bfs c f),.int .i64 (Bft c f),.int .u32 (Bfu c f)],.int .i64 (Bfv c f)]
end
def Bj6:Sum:=(206,on2 Dp Ji (fun c f=>(decide (Az c=0)&&(decide (c.ob=2)&&((Ep f&&Ey (lvL c.cap c.node) (lvN c.cap c.node))&&!(Ce (mkr c f)))))) (fun c f=>Aag c f))
theorem A76 (c:Conf) (f:Frm):sp_tnn.bd (Oi c f)=Aag c f:=by kernel_rfl
theorem t_tnn (c:Conf) (f:Frm) (he:HE0 c) (hw:HW1 c) (hm:((Ep f&&Ey (lvL c.cap c.node) (lvN c.cap c.node))&&!(Ce (mkr c f)))=true):Ai (cfg [Bq,Vw,Aic]) 400 206 [c.av,f.av] sp_tnn.has false=true:=Eq.trans (b:=(br (!decide ((Az c)=0)) true (br (!decide (c.1=2)) true (ba (Bf c.7 1 c.8) (ba (((Ep f)&&(Ey (lvL c.7 c.8) (lvN c.7 c.8)))&&(!(Ce (TRa.mk f c (lvL c.7 c.8) (lvN c.7 c.8) 0 0 false)))) true))))) (by kernel_rfl) (btf (nn he) (btt rfl (band hw (band hm rfl))))
theorem Bfw (c:Conf) (f:Frm) (h:(decide (Az c=0)&&(decide (c.ob=2)&&((Ep f&&Ey (lvL c.cap c.node) (lvN c.cap c.node))&&!(Ce (mkr c f)))))=true):Ai (cfg [Bq,Vw,Aic]) 400 206 [c.av,f.av] sp_tnn.has false=true:=by
 simp only [Bae] at h
 obtain ⟨he,ho,⟨⟨hp,hv⟩,hm⟩⟩:=h
 exact t_tnn c f he (Ky he ho) (by rw [hp,hv,hm];rfl)
theorem s_tnn:Bc Tryz.prog (Cb gs) Bj6:=Cm fun c f hp=>(H9 base (Ah Jn (Ah A5l (Ah Bnz Ap))) (n:=400) sp_tnn (Bfw c f hp)).mono fun v_ hv_=>hv_.trans (A76 c f)
def Aoj:Sum:=(207,on2 (rI .i64) (rI .i64) (fun _ _=>false) (fun _ _=>.nils))
theorem Bob:Bc Tryz.prog (Cb gs) Aoj:=Cm fun n w hp=>by cases hp
theorem badc {a b:Bool} (h:(!(a&&b))=true):br (!a) true (ba (!b) true)=true:=by
 cases a<;>cases b<;>first|rfl|cases h
def sp_tnb:Sp:=sT [sG [sI .u8,sI .i64,sI .u64,sI .u64,sI .u64,sI .i64,sI .u32],sI .i64]
section
variable (c:Conf) (f:Frm)
def Q5:AV:=Wv (cfg [Bq,Aoj]) 400 206 [c.av,f.av]
def Bfx:Int:=AV.toI (AV.ix (AV.ix (Q5 c f) 0) 0)
def Bfy:Int:=AV.toI (AV.ix (AV.ix (Q5 c f) 0) 1)
def Bfz:Int:=AV.toI (AV.ix (AV.ix (Q5 c f) 0) 2)
def Bf0:Int:=AV.toI (AV.ix (AV.ix (Q5 c f) 0) 3)
def Bf1:Int:=AV.toI (AV.ix (AV.ix (Q5 c f) 0) 4)
def Bf2:Int:=AV.toI (AV.ix (AV.ix (Q5 c f) 0) 5)
def Bf3:Int:=AV.toI (AV.ix (AV.ix (Q5 c f) 0) 6)
def Bf4:Int:=AV.toI (AV.ix (Q5 c f) 1)
def Acm:AV:=.tup [.agg [.int .u8 (Bfx c f),.int .i64 (Bfy c f),.int .u64 (Bfz c f),.int .u64 (Bf0 c f),.int .u64 (Bf1 c f),.int .i64 (Bf2 c f),.int .u32 (Bf3 c f)],.int .i64 (Bf4 c f)]
end
def Bj7:Sum:=(206,on2 Dp Ji (fun c f=>(!(decide (Az c=0)&&decide (c.ob=2)))) (fun c f=>Acm c f))
theorem Boc (c:Conf) (f:Frm):sp_tnb.bd (Q5 c f)=Acm c f:=by kernel_rfl
theorem t_tnb (c:Conf) (f:Frm) (hb:(!(decide (Az c=0)&&decide (c.ob=2)))=true):Ai (cfg [Bq,Aoj]) 400 206 [c.av,f.av] sp_tnb.has false=true:=Eq.trans (b:=(br (!decide ((Az c)=0)) true (ba (!decide (c.1=2)) true))) (by kernel_rfl) (badc hb)
theorem Bf5 (c:Conf) (f:Frm) (h:(!(decide (Az c=0)&&decide (c.ob=2)))=true):Ai (cfg [Bq,Aoj]) 400 206 [c.av,f.av] sp_tnb.has false=true:=t_tnb c f h
theorem s_tnb:Bc Tryz.prog (Cb gs) Bj7:=Cm fun c f hp=>(H9 base (Ah Jn (Ah Bob Ap)) (n:=400) sp_tnb (Bf5 c f hp)).mono fun v_ hv_=>hv_.trans (Boc c f)
end
end Go.Bas.BasZTreN
end
section
namespace Go.Bas.BasZTreC
noncomputable section
open Go.RowKit Go.Proofs BasZBase BasZOk BasZTreB BasZTre BasZTreN
def A19 (c:Conf):Bool:=decide (Az c=0)&&decide (c.ob=2)
def Bf6 (c:Conf) (f:Frm):Bool:=Ce (mkr c f)
theorem Bf7 {c:Conf} (h:A19 c=true):decide (Az c=0)=true/\decide (c.ob=2)=true:=by
 unfold A19 at h
 rw [Bae] at h
 exact h
def Zm (c:Conf) (f:Frm):AV:=cond (A19 c) (cond (Bf6 c f) (Aaf c f) (Aag c f)) (Acm c f)
def sp_tN:Sp:=sT [sG [sI .u8,sI .i64,sI .u64,sI .u64,sI .u64,sI .i64,sI .u32],sI .i64]
section
variable (c:Conf) (f:Frm)
def Aok:Int:=AV.toI (AV.ix (AV.ix (Zm c f) 0) 0)
def Aol:Int:=AV.toI (AV.ix (AV.ix (Zm c f) 0) 1)
def Aom:Int:=AV.toI (AV.ix (AV.ix (Zm c f) 0) 2)
def Aon:Int:=AV.toI (AV.ix (AV.ix (Zm c f) 0) 3)
def Aoo:Int:=AV.toI (AV.ix (AV.ix (Zm c f) 0) 4)
def Aop:Int:=AV.toI (AV.ix (AV.ix (Zm c f) 0) 5)
def Aoq:Int:=AV.toI (AV.ix (AV.ix (Zm c f) 0) 6)
def V4:Int:=AV.toI (AV.ix (Zm c f) 1)
def Aor:AV:=.tup [.agg [.int .u8 (Aok c f),.int .i64 (Aol c f),.int .u64 (Aom c f),.int .u64 (Aon c f),.int .u64 (Aoo c f),.int .i64 (Aop c f),.int .u32 (Aoq c f)],.int .i64 (V4 c f)]
end
theorem Ax1 (c:Conf) (f:Frm) {w:AV} (h:Zm c f=w):Aor c f=sp_tN.bd w:=by
 subst h
 rfl
def A77:Sum:=(206,on2 Dp Ji (fun c f=>Ep f) (fun c f=>Aor c f))
theorem s_tN:Bc Tryz.prog (Cb gs) A77:=Cm fun c f hp=>by
 cases hg:A19 c with
 | false =>
  have hb:(decide (Az c=0)&&decide (c.ob=2))=false:=hg;have e:Aor c f=Acm c f:=(Ax1 c f (w:=Acm c f) (by unfold Zm;simp only [hg,cond_true,cond_false])).trans (show sp_tN.bd (Acm c f)=Acm c f from by kernel_rfl)
  rw [e];have hpre:(!(decide (Az c=0)&&decide (c.ob=2)))=true:=by simp only [hb,Bool.and_true,Bool.not_false,Bool.not_true,Bool.true_and]
  exact s_tnb [c.av,f.av] (Acm c f) ((show Bj7.2 [c.av,f.av]=some ((!(decide (Az c=0)&&decide (c.ob=2))),Acm c f) from by kernel_rfl).trans (by rw [hpre]))
 | true =>
  obtain ⟨he,ho⟩:=Bf7 hg;have hv:=H6 (Ky he ho);cases hm:Bf6 c f with
  | true =>
   have hm':Ce (mkr c f)=true:=hm;have e:Aor c f=Aaf c f:=(Ax1 c f (w:=Aaf c f) (by unfold Zm;simp only [hg,hm,cond_true,cond_false])).trans (show sp_tN.bd (Aaf c f)=Aaf c f from by kernel_rfl)
   rw [e];have hpre:(decide (Az c=0)&&(decide (c.ob=2)&&((Ep f&&Ey (lvL c.cap c.node) (lvN c.cap c.node))&&Ce (mkr c f))))=true:=by simp only [he,ho,hp,hv,hm',Bool.and_true,Bool.not_false,Bool.not_true,Bool.true_and]
   exact s_tnx [c.av,f.av] (Aaf c f) ((show Bj5.2 [c.av,f.av]=some ((decide (Az c=0)&&(decide (c.ob=2)&&((Ep f&&Ey (lvL c.cap c.node) (lvN c.cap c.node))&&Ce (mkr c f)))),Aaf c f) from by kernel_rfl).trans (by rw [hpre]))
  | false =>
   have hm':Ce (mkr c f)=false:=hm;have e:Aor c f=Aag c f:=(Ax1 c f (w:=Aag c f) (by unfold Zm;simp only [hg,hm,cond_true,cond_false])).trans (show sp_tN.bd (Aag c f)=Aag c f from by kernel_rfl)
   rw [e];have hpre:(decide (Az c=0)&&(decide (c.ob=2)&&((Ep f&&Ey (lvL c.cap c.node) (lvN c.cap c.node))&&!(Ce (mkr c f)))))=true:=by simp only [he,ho,hp,hv,hm',Bool.and_true,Bool.not_false,Bool.not_true,Bool.true_and]
   exact s_tnn [c.av,f.av] (Aag c f) ((show Bj6.2 [c.av,f.av]=some ((decide (Az c=0)&&(decide (c.ob=2)&&((Ep f&&Ey (lvL c.cap c.node) (lvN c.cap c.node))&&!(Ce (mkr c f))))),Aag c f) from by kernel_rfl).trans (by rw [hpre]))
end
end Go.Bas.BasZTreC
end
section
namespace Go.Bas.BasZProg
noncomputable section
open Go.RowKit Go.Proofs
open BasZBase BasZOk BasZOk6 BasZTreC
def sp_pnx:Sp:=sT [sG [sI .u8,sI .i64,sI .u64,sI .u64,sI .u64,sI .i64,sI .u32],sI .i64]
section
variable (c:Conf) (f:Frm)
def Jq:AV:=Wv (cfg [Bq,Arh,Ari,Arj,A77]) 400 80 [c.av,f.av]
def Ee:Int:=AV.toI (AV.ix (AV.ix (Jq c f) 0) 0)
def f_pnx_1:Int:=AV.toI (AV.ix (AV.ix (Jq c f) 0) 1)
def V5:Int:=AV.toI (AV.ix (AV.ix (Jq c f) 0) 2)
def V6:Int:=AV.toI (AV.ix (AV.ix (Jq c f) 0) 3)
def V7:Int:=AV.toI (AV.ix (AV.ix (Jq c f) 0) 4)
def V8:Int:=AV.toI (AV.ix (AV.ix (Jq c f) 0) 5)
def V9:Int:=AV.toI (AV.ix (AV.ix (Jq c f) 0) 6)
def Fj:Int:=AV.toI (AV.ix (Jq c f) 1)
def Bj8:AV:=.tup [.agg [.int .u8 (Ee c f),.int .i64 (f_pnx_1 c f),.int .u64 (V5 c f),.int .u64 (V6 c f),.int .u64 (V7 c f),.int .i64 (V8 c f),.int .u32 (V9 c f)],.int .i64 (Fj c f)]
end
def Ase:Sum:=(80,on2 Dp Ji (fun c f=>Ep f) (fun c f=>Bj8 c f))
theorem Bod (c:Conf) (f:Frm):sp_pnx.bd (Jq c f)=Bj8 c f:=by kernel_rfl
theorem t_pnx (c:Conf) (f:Frm) (hp:Ep f=true):Ai (cfg [Bq,Arh,Ari,Arj,A77]) 400 80 [c.av,f.av] sp_pnx.has false=true:=Eq.trans (b:=(br (!decide ((Az c)=0)) true (br (decide (c.1=1)) (ba (Ep f) true) (br (decide (c.1=3)) (ba (Ep f) true) (br (decide (c.1=4)) (ba (Ep f) true) (ba (Ep f) true)))))) (by kernel_rfl) (btt rfl (btt (band hp rfl) (btt (band hp rfl) (btt (band hp rfl) (band hp rfl)))))
theorem Bf8 (c:Conf) (f:Frm) (h:Ep f=true):Ai (cfg [Bq,Arh,Ari,Arj,A77]) 400 80 [c.av,f.av] sp_pnx.has false=true:=t_pnx c f h
theorem s_pnx:Bc Tryz.prog (Cb gs) Ase:=Cm fun c f hp=>(H9 base (Ah Jn (Ah s_gNp (Ah s_rNp (Ah s_bNp (Ah s_tN Ap))))) (n:=400) sp_pnx (Bf8 c f hp)).mono fun v_ hv_=>hv_.trans (Bod c f)
end
end Go.Bas.BasZProg
end
section
namespace Go.Bas.BasZAt
noncomputable section
open Go.RowKit Go.Proofs
open BasZBase
def onB (P:Prop):Bool:=@decide P (Classical.propDecidable _)
theorem Ak {P:Prop}:onB P=true ↔ P:=by unfold onB;exact @decide_eq_true_iff P (Classical.propDecidable _)
def atA:Code:=Aqr (Akt (Ef Tryz.prog 40) 0)
def atB:Code:=Fv (Ef Tryz.prog 40) [0]
def T0 (c:Conf) (p:Plc):List AV:=[c.av,p.av,.ptr 0 0,.ptr 1 0,.ptr 2 0,.ptr 3 0,.int .i64 (Az c),.ptr 4 0,.tup [],c.av,.int .i64 (Az c),.int .i64 (Az c),.bool false,.tup [],c.av,.fn (.func 141) [] [.ptr 5 0],.tup [],.tup [],.tup [],.tup [],.tup [],.tup [],.tup []]
def A8p (kd:Int) (fr:Int) (as_:Int) (bs:Int) (a:Int) (bs2:Int) (b:Int) (n:Int) (r:Int) (pp:Int) (pa:Int) (pb:Int) (cc:List AV) (c5:List AV) (T:List AV) (asg:Code) (bdy:Code):St:=⟨fill 32 [(0,.int .u8 kd),(1,.int .i64 fr),(2,.int .i64 as_),(3,.int .i64 bs),(4,.ptr 8 0),(9,.bool false),(10,.int .i64 a),(20,.int .i64 bs2),(21,.int .i64 b)],[],⟨[(8,⟨[.yld 7],259,false⟩),(5,⟨c5,24,true⟩),(4,⟨[.int .i64 n],3,true⟩),(3,⟨[.int .i64 0],30,true⟩),(2,⟨[.int .i64 r],3,true⟩),(1,⟨[.int .u8 pp,.int .i64 pa,.int .i64 pb],107,true⟩),(0,⟨cc,24,true⟩)],9,[(7,.lop 0 none T [16] asg bdy 6),(6,.dfb)]⟩⟩
def P_in {Ω:Type} (st:St) (g:(Int)->(Int)->(Int)->(Int)->(Int)->(Int)->(Int)->(Int)->(Int)->(Int)->(Int)->(Int)->(List AV)->(List AV)->(List AV)->(Code)->(Code)->Ω) (z:Ω):Ω:=match lget st.tmps 0,lget st.tmps 1,lget st.tmps 2,lget st.tmps 3,lget st.tmps 4,lget st.tmps 9,lget st.tmps 10,lget st.tmps 20,lget st.tmps 21,st.ds,st.m with
 | .int .u8 kd,.int .i64 fr,.int .i64 as_,.int .i64 bs,.ptr z1 z2,.bool false,.int .i64 a,.int .i64 bs2,.int .i64 b,[],⟨[(z3,⟨[.yld z4],z5,false⟩),(z6,⟨c5,z7,true⟩),(z8,⟨[.int .i64 n],z9,true⟩),(z10,⟨[.int .i64 z11],z12,true⟩),(z13,⟨[.int .i64 r],z14,true⟩),(z15,⟨[.int .u8 pp,.int .i64 pa,.int .i64 pb],z16,true⟩),(z17,⟨cc,z18,true⟩)],z19,[(z20,.lop z21 none T [z22] asg bdy z23),(z24,.dfb)]⟩=>cond (Nat.beq st.tmps.length 32&&(Nat.beq z1 8&&(Nat.beq z2 0&&(Nat.beq z3 8&&(Nat.beq z4 7&&(Nat.beq z5 259&&(Nat.beq z6 5&&(Nat.beq z7 24&&(Nat.beq z8 4&&(Nat.beq z9 3&&(Nat.beq z10 3&&(decide (z11=0)&&(Nat.beq z12 30&&(Nat.beq z13 2&&(Nat.beq z14 3&&(Nat.beq z15 1&&(Nat.beq z16 107&&(Nat.beq z17 0&&(Nat.beq z18 24&&(Nat.beq z19 9&&(Nat.beq z20 7&&(Nat.beq z21 0&&(Nat.beq z22 16&&(Nat.beq z23 6&&(Nat.beq z24 6&&true))))))))))))))))))))))))) (g kd fr as_ bs a bs2 b n r pp pa pb cc c5 T asg bdy) z
 | _,_,_,_,_,_,_,_,_,_,_=>z
theorem A8q {C:Cfg} {c:Code} {G:(Int)->(Int)->(Int)->(Int)->(Int)->(Int)->(Int)->(Int)->(Int)->(Int)->(Int)->(Int)->(List AV)->(List AV)->(List AV)->(Code)->(Code)->(Ex->St->Bool)->Bool} (hG:∀ kd fr as_ bs a bs2 b n r pp pa pb cc c5 T asg bdy k,G kd fr as_ bs a bs2 b n r pp pa pb cc c5 T asg bdy k=true->AWp C none c (A8p kd fr as_ bs a bs2 b n r pp pa pb cc c5 T asg bdy) (fun e s=>k e s=true)):∀ st k,P_in st (fun kd fr as_ bs a bs2 b n r pp pa pb cc c5 T asg bdy=>G kd fr as_ bs a bs2 b n r pp pa pb cc c5 T asg bdy k) false=true->AWp C none c st (fun e s=>k e s=true):=by
 intro st k h
 unfold P_in at h
 split at h
 ·rename_i q0 q1 q2 q3 q4 q5 q6 q7 q8 hd hm
  rcases Dt h with ⟨hb,h2⟩|⟨_,h2⟩
  ·simp only [Bae,and_true,Dte,Ea] at hb
   obtain ⟨hb0,hb1,hb2,hb3,hb4,hb5,hb6,hb7,hb8,hb9,hb10,hb11,hb12,hb13,hb14,hb15,hb16,hb17,hb18,hb19,hb20,hb21,hb22,hb23,hb24⟩:=hb;subst hb1 hb2 hb3 hb4 hb5 hb6 hb7 hb8 hb9 hb10 hb11 hb12 hb13 hb14 hb15 hb16 hb17 hb18 hb19 hb20 hb21 hb22 hb23 hb24
   exact AWp.less (LessS.fill hb0 (Bz q0 (Bz q1 (Bz q2 (Bz q3 (Bz q4 (Bz q5 (Bz q6 (Bz q7 (Bz q8 P6))))))))) hd hm) (hG _ _ _ _ _ _ _ _ _ _ _ _ _ _ _ _ _ _ h2)
  ·cases h2
 ·cases h
def Asr (kd:Int) (fr:Int) (as_:Int) (bs:Int) (a:Int) (n:Int) (r:Int) (pp:Int) (pa:Int) (pb:Int) (cc:List AV) (c5:List AV) (T:List AV) (asg:Code) (bdy:Code):St:=⟨fill 32 [(0,.int .u8 kd),(1,.int .i64 fr),(2,.int .i64 as_),(3,.int .i64 bs),(4,.ptr 8 0),(9,.bool false),(10,.int .i64 a)],[],⟨[(8,⟨[.yld 7],259,false⟩),(5,⟨c5,24,true⟩),(4,⟨[.int .i64 n],3,true⟩),(3,⟨[.int .i64 0],30,true⟩),(2,⟨[.int .i64 r],3,true⟩),(1,⟨[.int .u8 pp,.int .i64 pa,.int .i64 pb],107,true⟩),(0,⟨cc,24,true⟩)],9,[(7,.lop 0 none T [16] asg bdy 6),(6,.dfb)]⟩⟩
def A8r {Ω:Type} (st:St) (g:(Int)->(Int)->(Int)->(Int)->(Int)->(Int)->(Int)->(Int)->(Int)->(Int)->(List AV)->(List AV)->(List AV)->(Code)->(Code)->Ω) (z:Ω):Ω:=match lget st.tmps 0,lget st.tmps 1,lget st.tmps 2,lget st.tmps 3,lget st.tmps 4,lget st.tmps 9,lget st.tmps 10,st.ds,st.m with
 | .int .u8 kd,.int .i64 fr,.int .i64 as_,.int .i64 bs,.ptr z1 z2,.bool false,.int .i64 a,[],⟨[(z3,⟨[.yld z4],z5,false⟩),(z6,⟨c5,z7,true⟩),(z8,⟨[.int .i64 n],z9,true⟩),(z10,⟨[.int .i64 z11],z12,true⟩),(z13,⟨[.int .i64 r],z14,true⟩),(z15,⟨[.int .u8 pp,.int .i64 pa,.int .i64 pb],z16,true⟩),(z17,⟨cc,z18,true⟩)],z19,[(z20,.lop z21 none T [z22] asg bdy z23),(z24,.dfb)]⟩=>cond (Nat.beq st.tmps.length 32&&(Nat.beq z1 8&&(Nat.beq z2 0&&(Nat.beq z3 8&&(Nat.beq z4 7&&(Nat.beq z5 259&&(Nat.beq z6 5&&(Nat.beq z7 24&&(Nat.beq z8 4&&(Nat.beq z9 3&&(Nat.beq z10 3&&(decide (z11=0)&&(Nat.beq z12 30&&(Nat.beq z13 2&&(Nat.beq z14 3&&(Nat.beq z15 1&&(Nat.beq z16 107&&(Nat.beq z17 0&&(Nat.beq z18 24&&(Nat.beq z19 9&&(Nat.beq z20 7&&(Nat.beq z21 0&&(Nat.beq z22 16&&(Nat.beq z23 6&&(Nat.beq z24 6&&true))))))))))))))))))))))))) (g kd fr as_ bs a n r pp pa pb cc c5 T asg bdy) z
 | _,_,_,_,_,_,_,_,_=>z
theorem A2n {C:Cfg} {c:Code} {G:(Int)->(Int)->(Int)->(Int)->(Int)->(Int)->(Int)->(Int)->(Int)->(Int)->(List AV)->(List AV)->(List AV)->(Code)->(Code)->(Ex->St->Bool)->Bool} (hG:∀ kd fr as_ bs a n r pp pa pb cc c5 T asg bdy k,G kd fr as_ bs a n r pp pa pb cc c5 T asg bdy k=true->AWp C none c (Asr kd fr as_ bs a n r pp pa pb cc c5 T asg bdy) (fun e s=>k e s=true)):∀ st k,A8r st (fun kd fr as_ bs a n r pp pa pb cc c5 T asg bdy=>G kd fr as_ bs a n r pp pa pb cc c5 T asg bdy k) false=true->AWp C none c st (fun e s=>k e s=true):=by
 intro st k h
 unfold A8r at h
 split at h
 ·rename_i q0 q1 q2 q3 q4 q5 q6 hd hm
  rcases Dt h with ⟨hb,h2⟩|⟨_,h2⟩
  ·simp only [Bae,and_true,Dte,Ea] at hb
   obtain ⟨hb0,hb1,hb2,hb3,hb4,hb5,hb6,hb7,hb8,hb9,hb10,hb11,hb12,hb13,hb14,hb15,hb16,hb17,hb18,hb19,hb20,hb21,hb22,hb23,hb24⟩:=hb;subst hb1 hb2 hb3 hb4 hb5 hb6 hb7 hb8 hb9 hb10 hb11 hb12 hb13 hb14 hb15 hb16 hb17 hb18 hb19 hb20 hb21 hb22 hb23 hb24
   exact AWp.less (LessS.fill hb0 (Bz q0 (Bz q1 (Bz q2 (Bz q3 (Bz q4 (Bz q5 (Bz q6 P6))))))) hd hm) (hG _ _ _ _ _ _ _ _ _ _ _ _ _ _ _ _ h2)
  ·cases h2
 ·cases h
def atM (c:Conf) (p:Plc) (n r:Int) (s:Nat) (pend:Option Ex):Mem:=⟨[(8,⟨[.yld 7],259,false⟩),(5,⟨c.cells,24,true⟩),(4,⟨[.int .i64 n],3,true⟩),(3,⟨[.int .i64 0],30,true⟩),(2,⟨[.int .i64 r],3,true⟩),(1,⟨[.int .u8 p.part,.int .i64 p.a,.int .i64 p.b],107,true⟩),(0,⟨c.cells,24,true⟩)],9,[(7,.lop s pend (T0 c p) [16] atA atB 6),(6,.dfb)]⟩
def eSt (kd fr as_ bs a:Int) (t9:Bool) (m:Mem):St:=⟨fill 32 [(0,.int .u8 kd),(1,.int .i64 fr),(2,.int .i64 as_),(3,.int .i64 bs),(4,.ptr 8 0),(9,.bool t9),(10,.int .i64 a)],[],m⟩
def InOk (c:Conf) (p:Plc) (bs bs2 b n:Int) (c5 T:List AV) (asg bdy:Code):Prop:=bs2=bs/\b=0/\0<=bs/\bs<=1000/\0<=n/\n<=1000000/\c5=c.cells/\T=T0 c p/\asg=atA/\bdy=atB
def OutOk (c:Conf) (p:Plc) (fr as_ bs a n:Int) (c5 T:List AV) (asg bdy:Code):Prop:=a=fr/\0<=fr/\fr<=1000/\0<=as_/\as_<=1000/\0<=bs/\bs<=1000/\0<=n/\n+as_*bs<=1000000/\c5=c.cells/\T=T0 c p/\asg=atA/\bdy=atB
def Found (kd fr as_ bs:Int) (p:Plc):Prop:=kd=p.part/\fr<=p.a/\p.a<fr+as_/\0<=p.b/\p.b<bs
def G_in (kd:Int) (fr:Int) (as_:Int) (bs:Int) (a:Int) (bs2:Int) (b:Int) (n:Int) (r:Int) (pp:Int) (pa:Int) (pb:Int) (cc:List AV) (c5:List AV) (T:List AV) (asg:Code) (bdy:Code) (k:Ex->St->Bool):Bool:=match X0 (.agg cc) with
 | some c=>cond (onB (InOk c ⟨pp,pa,pb⟩ bs bs2 b n c5 T asg bdy)) (cond (onB (Found kd a 1 bs ⟨pp,pa,pb⟩)) (k .ret (eSt kd fr as_ bs a false (atM c ⟨pp,pa,pb⟩ (n+pb) (n+pb) 2 (some .ret)))) (k (.exit 2) (eSt kd fr as_ bs a false (atM c ⟨pp,pa,pb⟩ (n+bs) r 0 none)))) false
 | none=>false
def F_in:LF:=fun st k=>P_in st (fun kd fr as_ bs a bs2 b n r pp pa pb cc c5 T asg bdy=>G_in kd fr as_ bs a bs2 b n r pp pa pb cc c5 T asg bdy k) false
def eS0 (t9:Bool) (m:Mem):St:=⟨fill 32 [(9,.bool t9)],[],m⟩
def A8s (kd:Int) (fr:Int) (as_:Int) (bs:Int) (a:Int) (n:Int) (r:Int) (pp:Int) (pa:Int) (pb:Int) (cc:List AV) (c5:List AV) (T:List AV) (asg:Code) (bdy:Code) (k:Ex->St->Bool):Bool:=match X0 (.agg cc) with
 | some c=>cond (onB (OutOk c ⟨pp,pa,pb⟩ fr as_ bs a n c5 T asg bdy)) (cond (onB (Found kd fr as_ bs ⟨pp,pa,pb⟩)) (k .ret (eS0 false (atM c ⟨pp,pa,pb⟩ (n+(pa-fr)*bs+pb) (n+(pa-fr)*bs+pb) 2 (some .ret)))) (k (.exit 0) (eS0 false (atM c ⟨pp,pa,pb⟩ (n+as_*bs) r 0 none)))) false
 | none=>false
def Bkg:LF:=fun st k=>A8r st (fun kd fr as_ bs a n r pp pa pb cc c5 T asg bdy=>A8s kd fr as_ bs a n r pp pa pb cc c5 T asg bdy k) false
abbrev Bgh (a:Int) (as_:Int) (b:Int) (bs:Int) (bs2:Int) (fr:Int) (kd:Int):List AV:=[.int .u8 kd,.int .i64 fr,.int .i64 as_,.int .i64 bs,.ptr 8 0,.any,.any,.any,.any,.bool false,.int .i64 a,.any,.any,.any,.any,.any,.any,.any,.any,.any,.int .i64 bs2,.int .i64 b,.any,.any,.any,.any,.any,.any,.any,.any,.any,.any]
abbrev Bgi (c:Conf):List AV:=[.int .u8 c.1,.int .i64 c.2,.int .i64 c.3,.int .u8 c.4,.int .i64 c.5,.int .i64 c.6,.int .i64 c.7,.int .i64 c.8,.int .i64 c.9,.int .i64 c.10,.int .u64 c.11,.int .u64 c.12]
abbrev Bgj (c:Conf) (p:Plc):List AV:=[.agg (Bgi c),.agg [.int .u8 p.1,.int .i64 p.2,.int .i64 p.3],.ptr 0 0,.ptr 1 0,.ptr 2 0,.ptr 3 0,.int .i64 (Az c),.ptr 4 0,.tup [],.agg (Bgi c),.int .i64 (Az c),.int .i64 (Az c),.bool false,.tup [],.agg (Bgi c),.fn (Fn.func 141) [] [.ptr 5 0],.tup [],.tup [],.tup [],.tup [],.tup [],.tup [],.tup []]
abbrev Bgk (c:Conf) (n:Int) (p:Plc) (r:Int):=Mem.mk [(8,(HB.mk [.yld 7] 259 false)),(5,(HB.mk (Bgi c) 24 true)),(4,(HB.mk [.int .i64 n] 3 true)),(3,(HB.mk [.int .i64 0] 30 true)),(2,(HB.mk [.int .i64 r] 3 true)),(1,(HB.mk [.int .u8 p.1,.int .i64 p.2,.int .i64 p.3] 107 true)),(0,(HB.mk (Bgi c) 24 true))] 9 [(7,(LB.lop 0 (Option.none) (Bgj c p) [16] atA atB 6)),(6,LB.dfb)]
theorem t_in (c:Conf) (p:Plc) (kd:Int) (fr:Int) (as_:Int) (bs:Int) (a:Int) (bs2 b n r:Int) (k:Ex->St->Bool):run (cfg [Bq]) 100 none none (Fv (Ef Tryz.prog 142) [0,0]) (A8p kd fr as_ bs a bs2 b n r p.part p.a p.b c.cells c.cells (T0 c p) atA atB) (fun e s=>k e (Qj [0,1,2,3,4,9,10,20,21] s)) false=(bif decide (b<bs2) then (bif (decide (kd=p.1)&&(decide (a=p.2)&&(decide (b=p.3)&&true))) then (k Ex.ret (St.mk (Bgh a as_ b bs bs2 fr kd) [] (Mem.mk [(9,(HB.mk [.int .u8 kd,.int .i64 a,.int .i64 b] 107 true)),(8,(HB.mk [.yld 7] 259 false)),(5,(HB.mk (Bgi c) 24 true)),(4,(HB.mk [.int .i64 n] 3 true)),(3,(HB.mk [.int .i64 0] 30 true)),(2,(HB.mk [.int .i64 n] 3 true)),(1,(HB.mk [.int .u8 p.1,.int .i64 p.2,.int .i64 p.3] 107 true)),(0,(HB.mk (Bgi c) 24 true))] 10 [(7,(LB.lop 2 (Option.some Ex.ret) (Bgj c p) [16] atA atB 6)),(6,LB.dfb)]))) else (k Ex.normal (St.mk [.int .u8 kd,.int .i64 fr,.int .i64 as_,.int .i64 bs,.ptr 8 0,.any,.any,.any,.any,.bool false,.int .i64 a,.any,.any,.any,.any,.any,.any,.any,.any,.any,.int .i64 bs2,.int .i64 (IntKind.wrap .i64 (b+1)),.any,.any,.any,.any,.any,.any,.any,.any,.any,.any] [] (Mem.mk [(9,(HB.mk [.int .u8 kd,.int .i64 a,.int .i64 b] 107 true)),(8,(HB.mk [.yld 7] 259 false)),(5,(HB.mk (Bgi c) 24 true)),(4,(HB.mk [.int .i64 (IntKind.wrap .i64 (n+1))] 3 true)),(3,(HB.mk [.int .i64 0] 30 true)),(2,(HB.mk [.int .i64 r] 3 true)),(1,(HB.mk [.int .u8 p.1,.int .i64 p.2,.int .i64 p.3] 107 true)),(0,(HB.mk (Bgi c) 24 true))] 10 [(7,(LB.lop 0 (Option.none) (Bgj c p) [16] atA atB 6)),(6,LB.dfb)])))) else (k (Ex.exit 2) (St.mk (Bgh a as_ b bs bs2 fr kd) [] (Bgk c n p r)))):=by kernel_rfl
abbrev zdz4 (a:Int) (as_:Int) (bs:Int) (fr:Int) (kd:Int):List AV:=[.int .u8 kd,.int .i64 fr,.int .i64 as_,.int .i64 bs,.ptr 8 0,.any,.any,.any,.any,.bool false,.int .i64 a,.any,.any,.any,.any,.any,.any,.any,.any,.any,.any,.any,.any,.any,.any,.any,.any,.any,.any,.any,.any,.any]
theorem t_out (c:Conf) (p:Plc) (kd:Int) (fr:Int) (as_:Int) (bs:Int) (a:Int) (n r:Int) (k:Ex->St->Bool):runM (cfg [Bq]) 100 (Fv (Ef Tryz.prog 142) [0]) [F_in] (Asr kd fr as_ bs a n r p.part p.a p.b c.cells c.cells (T0 c p) atA atB) (fun e s=>k e (Qj [0,1,2,3,4,9,10] s))=(bif decide (a<(IntKind.wrap .i64 (fr+as_))) then ((BasZAt.onB (BasZAt.InOk c p bs bs 0 n (Bgi c) (Bgj c p) atA atB))&&(bif (BasZAt.onB (BasZAt.Found kd a 1 bs p)) then (k Ex.ret (St.mk (zdz4 a as_ bs fr kd) [] (Mem.mk [(8,(HB.mk [.yld 7] 259 false)),(5,(HB.mk (Bgi c) 24 true)),(4,(HB.mk [.int .i64 (n+p.3)] 3 true)),(3,(HB.mk [.int .i64 0] 30 true)),(2,(HB.mk [.int .i64 (n+p.3)] 3 true)),(1,(HB.mk [.int .u8 p.1,.int .i64 p.2,.int .i64 p.3] 107 true)),(0,(HB.mk (Bgi c) 24 true))] 9 [(7,(LB.lop 2 (Option.some Ex.ret) (Bgj c p) [16] atA atB 6)),(6,LB.dfb)]))) else (k Ex.normal (St.mk [.int .u8 kd,.int .i64 fr,.int .i64 as_,.int .i64 bs,.ptr 8 0,.any,.any,.any,.any,.bool false,.int .i64 (IntKind.wrap .i64 (a+1)),.any,.any,.any,.any,.any,.any,.any,.any,.any,.any,.any,.any,.any,.any,.any,.any,.any,.any,.any,.any,.any] [] (Mem.mk [(8,(HB.mk [.yld 7] 259 false)),(5,(HB.mk (Bgi c) 24 true)),(4,(HB.mk [.int .i64 (n+bs)] 3 true)),(3,(HB.mk [.int .i64 0] 30 true)),(2,(HB.mk [.int .i64 r] 3 true)),(1,(HB.mk [.int .u8 p.1,.int .i64 p.2,.int .i64 p.3] 107 true)),(0,(HB.mk (Bgi c) 24 true))] 9 [(7,(LB.lop 0 (Option.none) (Bgj c p) [16] atA atB 6)),(6,LB.dfb)]))))) else (k (Ex.exit 0) (St.mk (zdz4 a as_ bs fr kd) [] (Bgk c n p r)))):=by kernel_rfl
theorem Bo4 (c:Conf) (p:Plc) (kd fr as_ bs n r:Int) (k:Ex->St->Bool):runM (cfg [Bq]) 100 (Ef Tryz.prog 142) [Bkg] ⟨Afe [.int .u8 kd,.int .i64 fr,.int .i64 as_,.int .i64 bs,.ptr 8 0] 32,[],atM c p n r 0 none⟩ (fun e s=>k e (Qj [9] s))=((BasZAt.onB (BasZAt.OutOk c p fr as_ bs fr n (Bgi c) (Bgj c p) atA atB))&&(bif (BasZAt.onB (BasZAt.Found kd fr as_ bs p)) then (k Ex.ret (St.mk [.any,.any,.any,.any,.any,.any,.any,.any,.any,.bool false,.any,.any,.any,.any,.any,.any,.any,.any,.any,.any,.any,.any,.any,.any,.any,.any,.any,.any,.any,.any,.any,.any] [] (Mem.mk [(8,(HB.mk [.yld 7] 259 false)),(5,(HB.mk (Bgi c) 24 true)),(4,(HB.mk [.int .i64 ((n+((p.2-fr)*bs))+p.3)] 3 true)),(3,(HB.mk [.int .i64 0] 30 true)),(2,(HB.mk [.int .i64 ((n+((p.2-fr)*bs))+p.3)] 3 true)),(1,(HB.mk [.int .u8 p.1,.int .i64 p.2,.int .i64 p.3] 107 true)),(0,(HB.mk (Bgi c) 24 true))] 9 [(7,(LB.lop 2 (Option.some Ex.ret) (Bgj c p) [16] atA atB 6)),(6,LB.dfb)]))) else (k Ex.ret (St.mk [.any,.any,.any,.any,.any,.any,.any,.any,.any,.bool true,.any,.any,.any,.any,.any,.any,.any,.any,.any,.any,.any,.any,.any,.any,.any,.any,.any,.any,.any,.any,.any,.any] [] (Mem.mk [(8,(HB.mk [.yld 7] 259 false)),(5,(HB.mk (Bgi c) 24 true)),(4,(HB.mk [.int .i64 (n+(as_*bs))] 3 true)),(3,(HB.mk [.int .i64 0] 30 true)),(2,(HB.mk [.int .i64 r] 3 true)),(1,(HB.mk [.int .u8 p.1,.int .i64 p.2,.int .i64 p.3] 107 true)),(0,(HB.mk (Bgi c) 24 true))] 9 [(7,(LB.lop 0 (Option.none) (Bgj c p) [16] atA atB 6)),(6,LB.dfb)]))))):=by kernel_rfl
end
end Go.Bas.BasZAt
end
section
namespace Go.Bas.BasZAt2
noncomputable section
open Go.RowKit Go.Proofs BasZBase BasZAt
set_option maxHeartbeats 1000000
section
variable {C:Cfg} {K:Ex->St->Prop} {st:St}
theorem AWp.runMK (hC:C.Ok) (ls:List Nat) {n:Nat} {c:Code} {l:List LF} (hl:LoopsOkP C (Dx c) l) (h:∀ k:Ex->St->Bool,(∀ e s,K e s->k e s=true)->Bas.runM C n c l st (fun e s=>k e (Qj ls s))=true):AWp C none c st K:=by
 classical
 have h1:=h (fun e s=>decide (K e s)) (fun e s h=>Ddt h)
 have:=Jy hC (mkA c l) st _ (Qy c l hl) h1
 rw [Jh] at this
 exact this.post fun e s hk=>⟨_,LessS.keep ls s,Odt hk⟩
theorem LessD.base {n n':Nat} {st st':St} (h:LessD C n st st') (hn:n'<=n):LessD C n' st st':=⟨Nat.le_trans hn h.1,h.2⟩
theorem LessD.eqN {n:Nat} {st st':St} (h:st=st') (hn:st.m.nx=n):LessD C n st st':=by subst h;subst hn;exact (LessS.refl st).d
theorem LessD.fill (st:St) (N:Nat) (live:List (Nat × AV)) (b:Nat) (hn:st.tmps.length=N) (hl:Aqu st.tmps live) (hb:b<=st.m.nx):LessD C b st ⟨Bas.fill N live,st.ds,st.m⟩ :=
 ⟨hb,Nat.le_refl _,(LessS.fill hn hl rfl rfl).2⟩
end
theorem hC:(cfg [Bq]).Ok:=Xx base (Ah Jn Ap)
theorem Bgq {n:Int} (h:-1000000000<=n) (h':n<=1000000000):IntKind.wrap .i64 n=n:=Uc (by simp [Lit.wf,IntKind.min,IntKind.max,IntKind.signed,IntKind.bits];omega)
theorem A8t:Dx (Fv (Ef Tryz.prog 142) [0])=[.loop (Fv (Ef Tryz.prog 142) [0,0])]:=by kernel_rfl
theorem A2o:Dx (Ef Tryz.prog 142)=[.loop (Fv (Ef Tryz.prog 142) [0])]:=by kernel_rfl
theorem Bgr:∀ (kd fr as_ bs a bs2 b n r pp pa pb:Int) (cc c5 T:List AV) (asg bdy:Code) (k:Ex->St->Bool),G_in kd fr as_ bs a bs2 b n r pp pa pb cc c5 T asg bdy k=true ->
  AWp (cfg [Bq]) none (.loop (Fv (Ef Tryz.prog 142) [0,0])) (A8p kd fr as_ bs a bs2 b n r pp pa pb cc c5 T asg bdy) (fun e s=>k e s=true):=by
 intro kd fr as_ bs a bs2 b n r pp pa pb cc c5 T asg bdy k hG
 unfold G_in at hG
 split at hG
 case h_2=>cases hG
 rename_i c hc
 have hcc:cc=c.cells:=AV.agg.inj (L8 hc)
 subst hcc
 rcases Dt hG with ⟨hok,hG2⟩|⟨_,hG2⟩
 case inr=>cases hG2
 clear hG
 obtain ⟨rfl,rfl,hb0,hb1,hn0,hn1,rfl,rfl,rfl,rfl⟩:=Ak.1 hok
 suffices key:AWp (cfg [Bq]) none (.loop (Fv (Ef Tryz.prog 142) [0,0])) (A8p kd fr as_ bs2 a bs2 ((0:Nat):Int) (n+((0:Nat):Int)) r pp pa pb c.cells c.cells (T0 c ⟨pp,pa,pb⟩) atA atB) (fun e s=>k e s=true) by
  rw [show n+((0:Nat):Int)=n by simp] at key
  exact key
 refine AWp.loopD (K:=fun e s=>k e s=true) (fun i:{ i:Nat // (i:Int)<=bs2/\∀ j:Nat,j<i->¬ (kd=pp/\a=pa/\(j:Int)=pb) }=>A8p kd fr as_ bs2 a bs2 ((i.1:Nat):Int) (n+((i.1:Nat):Int)) r pp pa pb c.cells c.cells (T0 c ⟨pp,pa,pb⟩) atA atB) 9 (fun _=>rfl) (fun i=>bs2.toNat-i.1) ?_ ⟨0,hb0,fun j hj=>absurd hj (Nat.not_lt_zero _)⟩
 rintro ⟨i,hi,hno⟩
 refine AWp.runK hC [0,1,2,3,4,9,10,20,21] (n:=100) fun k' hk=>?_
 refine (t_in c ⟨pp,pa,pb⟩ kd fr as_ bs2 a bs2 ((i:Nat):Int) (n+((i:Nat):Int)) r k').trans ?_
 refine condI (fun h=>?_) (fun h=>?_)
 ·have hlt:((i:Nat):Int)<bs2:=Odt h
  refine condI (fun hf=>?_) (fun hf=>?_)
  ·simp only [Bool.and_true,Bae,Dte] at hf
   obtain ⟨f1,f2,f3⟩:=hf;have f1:kd=pp:=f1;have f2:a=pa:=f2;have f3:((i:Nat):Int)=pb:=f3;have hF:onB (BasZAt.Found kd a 1 bs2 ⟨pp,pa,pb⟩)=true:=Ak.2 ⟨f1,by show a<=pa;omega,by show pa<a+1;omega,by show 0<=pb;omega,by show pb<bs2;omega⟩
   rw [hF] at hG2;subst f3;refine hk .ret _ ?_;refine ⟨_,(LessD.fill _ 32 [(0,.int .u8 kd),(1,.int .i64 fr),(2,.int .i64 as_),(3,.int .i64 bs2),(4,.ptr 8 0),(9,.bool false),(10,.int .i64 a)] 9 rfl ⟨rfl,rfl,rfl,rfl,rfl,rfl,rfl,trivial⟩ (by show 9<=10;omega)).trans (LessD.drop 9 9 (Nat.le_refl _) (by show 9<=10;omega) (by kernel_rfl) (by kernel_rfl)),?_⟩
   exact hG2
  ·have hw1:IntKind.wrap .i64 (((i:Nat):Int)+1)=((i+1:Nat):Int):=by rw [Bgq (by omega) (by omega)];omega
   have hw2:IntKind.wrap .i64 (n+((i:Nat):Int)+1)=n+((i+1:Nat):Int):=by rw [Bgq (by omega) (by omega)];omega
   rw [hw1,hw2];refine hk .normal _ ⟨⟨i+1,by omega,fun j hj=>?_⟩,by show bs2.toNat-(i+1)<bs2.toNat-i;omega,(LessD.drop 9 9 (Nat.le_refl _) (by show 9<=10;omega) (by kernel_rfl) (by kernel_rfl)).trans (LessD.eqN rfl rfl)⟩
   rcases Nat.lt_succ_iff_lt_or_eq.1 hj with hj|rfl
   ·exact hno j hj
   ·intro ⟨g1,g2,g3⟩
    have:(decide (kd=pp)&&(decide (a=pa)&&(decide (((j:Nat):Int)=pb)&&true)))=true:=by simp [g1,g2,g3]
    have hf:(decide (kd=pp)&&(decide (a=pa)&&(decide (((j:Nat):Int)=pb)&&true)))=false:=hf;rw [this] at hf;cases hf
 ·have hge:¬ ((i:Nat):Int)<bs2:=Odf h
  have hib:((i:Nat):Int)=bs2:=by omega
  have hF:onB (BasZAt.Found kd a 1 bs2 ⟨pp,pa,pb⟩)=false:=by
   rw [Bool.eq_false_iff];intro hh;obtain ⟨f1,f2,f3,f4,f5⟩:=Ak.1 hh;have f2:a<=pa:=f2;have f3:pa<a+1:=f3;have f4:0<=pb:=f4;have f5:pb<bs2:=f5;exact hno pb.toNat (by omega) ⟨f1,by omega,by omega⟩
  rw [hF] at hG2;refine hk (.exit 2) _ ?_;refine ⟨_,LessD.fill _ 32 [(0,.int .u8 kd),(1,.int .i64 fr),(2,.int .i64 as_),(3,.int .i64 bs2),(4,.ptr 8 0),(9,.bool false),(10,.int .i64 a)] 9 rfl ⟨rfl,rfl,rfl,rfl,rfl,rfl,rfl,trivial⟩ (Nat.le_refl _),?_⟩;rw [hib];exact hG2
theorem in_ok:LoopsOkP (cfg [Bq]) (Dx (Fv (Ef Tryz.prog 142) [0])) [F_in]:=by
 rw [A8t]
 exact ⟨fun st k h=>A8q Bgr st k h,trivial⟩
theorem Ass {x y z:Int} (h:0<=z) (hxy:x<=y):x*z<=y*z:=Int.mul_le_mul_of_nonneg_right hxy h
theorem A8u:∀ (kd fr as_ bs a n r pp pa pb:Int) (cc c5 T:List AV) (asg bdy:Code) (k:Ex->St->Bool),A8s kd fr as_ bs a n r pp pa pb cc c5 T asg bdy k=true ->
  AWp (cfg [Bq]) none (.loop (Fv (Ef Tryz.prog 142) [0])) (Asr kd fr as_ bs a n r pp pa pb cc c5 T asg bdy) (fun e s=>k e s=true):=by
 intro kd fr as_ bs a n r pp pa pb cc c5 T asg bdy k hG
 unfold A8s at hG
 split at hG
 case h_2=>cases hG
 rename_i c hc
 have hcc:cc=c.cells:=AV.agg.inj (L8 hc)
 subst hcc
 rcases Dt hG with ⟨hok,hG2⟩|⟨_,hG2⟩
 case inr=>cases hG2
 clear hG
 obtain ⟨rfl,hf0,hf1,ha0,ha1,hb0,hb1,hn0,hn1,rfl,rfl,rfl,rfl⟩:=Ak.1 hok
 suffices key:AWp (cfg [Bq]) none (.loop (Fv (Ef Tryz.prog 142) [0])) (Asr kd a as_ bs (a+((0:Nat):Int)) (n+((0:Nat):Int)*bs) r pp pa pb c.cells c.cells (T0 c ⟨pp,pa,pb⟩) atA atB) (fun e s=>k e s=true) by
  rw [show n+((0:Nat):Int)*bs=n by simp,show a+((0:Nat):Int)=a by simp] at key
  exact key
 refine AWp.loopD (K:=fun e s=>k e s=true) (fun i:{ i:Nat // (i:Int)<=as_/\∀ j:Nat,j<i->¬ (kd=pp/\a+(j:Int)=pa/\0<=pb/\pb<bs) }=>Asr kd a as_ bs (a+((i.1:Nat):Int)) (n+((i.1:Nat):Int)*bs) r pp pa pb c.cells c.cells (T0 c ⟨pp,pa,pb⟩) atA atB) 9 (fun _=>rfl) (fun i=>as_.toNat-i.1) ?_ ⟨0,ha0,fun j hj=>absurd hj (Nat.not_lt_zero _)⟩
 rintro ⟨i,hi,hno⟩
 have hm0:0<=((i:Nat):Int)*bs:=Int.mul_nonneg (by omega) hb0
 have hm1:=Ass hb0 hi
 refine AWp.runMK hC [0,1,2,3,4,9,10] (n:=100) in_ok fun k' hk=>?_
 refine (t_out c ⟨pp,pa,pb⟩ kd a as_ bs (a+((i:Nat):Int)) (n+((i:Nat):Int)*bs) r k').trans ?_
 have hw0:IntKind.wrap .i64 (a+as_)=a+as_:=Bgq (by omega) (by omega)
 rw [hw0]
 refine condI (fun h=>?_) (fun h=>?_)
 ·have hlt:a+((i:Nat):Int)<a+as_:=Odt h
  have hm2:(((i+1:Nat):Nat):Int)*bs<=as_*bs:=Ass hb0 (by omega)
  have hm3:(((i+1:Nat):Nat):Int)*bs=((i:Nat):Int)*bs+bs:=by rw [Int.natCast_add,Int.add_mul];simp
  refine andI (Ak.2 ⟨rfl,rfl,hb0,hb1,by omega,by omega,rfl,rfl,rfl,rfl⟩) (condI (fun hf=>?_) (fun hf=>?_))
  ·obtain ⟨f1,f2,f3,f4,f5⟩:=Ak.1 hf
   have f1:kd=pp:=f1;have f2:a+((i:Nat):Int)<=pa:=f2;have f3:pa<a+((i:Nat):Int)+1:=f3;have f4:0<=pb:=f4;have f5:pb<bs:=f5;have hF:onB (BasZAt.Found kd a as_ bs ⟨pp,pa,pb⟩)=true:=Ak.2 ⟨f1,by show a<=pa;omega,by show pa<a+as_;omega,f4,f5⟩
   rw [hF] at hG2;refine hk .ret _ ?_;refine ⟨_,LessD.fill _ 32 [(9,.bool false)] 9 rfl ⟨rfl,trivial⟩ (Nat.le_refl _),?_⟩;have e1:pa-a=((i:Nat):Int):=by omega
   rw [e1] at hG2;exact hG2
  ·have hw1:IntKind.wrap .i64 (a+((i:Nat):Int)+1)=a+((i+1:Nat):Int):=by rw [Bgq (by omega) (by omega)];omega
   have hw2:n+((i:Nat):Int)*bs+bs=n+((i+1:Nat):Int)*bs:=by omega
   rw [hw1,hw2];refine hk .normal _ ⟨⟨i+1,by omega,fun j hj=>?_⟩,by show as_.toNat-(i+1)<as_.toNat-i;omega,LessD.eqN rfl rfl⟩
   rcases Nat.lt_succ_iff_lt_or_eq.1 hj with hj|rfl
   ·exact hno j hj
   ·intro ⟨g1,g2,g3,g4⟩
    have:onB (BasZAt.Found kd (a+((j:Nat):Int)) 1 bs ⟨pp,pa,pb⟩)=true:=Ak.2 ⟨g1,by show a+((j:Nat):Int)<=pa;omega,by show pa<a+((j:Nat):Int)+1;omega,g3,g4⟩
    rw [this] at hf;cases hf
 ·have hge:¬ a+((i:Nat):Int)<a+as_:=Odf h
  have hib:((i:Nat):Int)=as_:=by omega
  have hF:onB (BasZAt.Found kd a as_ bs ⟨pp,pa,pb⟩)=false:=by
   rw [Bool.eq_false_iff];intro hh;obtain ⟨f1,f2,f3,f4,f5⟩:=Ak.1 hh;have f2:a<=pa:=f2;have f3:pa<a+as_:=f3;exact hno (pa-a).toNat (by omega) ⟨f1,by omega,f4,f5⟩
  rw [hF] at hG2;refine hk (.exit 0) _ ?_;refine ⟨_,LessD.fill _ 32 [(9,.bool false)] 9 rfl ⟨rfl,trivial⟩ (Nat.le_refl _),?_⟩;rw [hib];exact hG2
theorem Bo5:LoopsOkP (cfg [Bq]) (Dx (Ef Tryz.prog 142)) [Bkg]:=by
 rw [A2o]
 exact ⟨fun st k h=>A2n A8u st k h,trivial⟩
def Uj (args:List AV) (m:Mem):TrM:=match args with
 | [.int .u8 kd,.int .i64 fr,.int .i64 as_,.int .i64 bs,.ptr 8 0]=>match m with
  | ⟨[(8,⟨[.yld 7],259,false⟩),(5,⟨c5,24,true⟩),(4,⟨[.int .i64 n],3,true⟩),(3,⟨[.int .i64 z],30,true⟩),(2,⟨[.int .i64 r],3,true⟩),(1,⟨[.int .u8 pp,.int .i64 pa,.int .i64 pb],107,true⟩),(0,⟨cc,24,true⟩)],9,[(7,.lop 0 none T [16] asg bdy 6),(6,.dfb)]⟩=>match X0 (.agg cc) with
   | some c=>.br (decide (z=0)) (.br (onB (OutOk c ⟨pp,pa,pb⟩ fr as_ bs fr n c5 T asg bdy)) (.br (onB (BasZAt.Found kd fr as_ bs ⟨pp,pa,pb⟩)) (.leaf (.bool false) (atM c ⟨pp,pa,pb⟩ (n+(pa-fr)*bs+pb) (n+(pa-fr)*bs+pb) 2 (some .ret))) (.leaf (.bool true) (atM c ⟨pp,pa,pb⟩ (n+as_*bs) r 0 none))) .bad) .bad
   | none=>.bad
  | _=>.bad
 | _=>.bad
theorem Bgs:InpOk (cfg [Bq]) 142 Uj:=by
 obtain ⟨fn,hfn,hbd,hnt,hrs⟩:=fn_is (P:=Tryz.prog) (f:=142) (n:=32) (r:=1) (by kernel_rfl)
 refine At1 hC hfn hbd rfl rfl rfl fun args m kk h=>?_
 unfold Uj at h
 split at h
 case h_2=>cases h
 rename_i kd fr as_ bs
 split at h
 case h_2=>cases h
 rename_i c5 n z r pp pa pb cc T asg bdy
 split at h
 case h_2=>cases h
 rename_i c hc
 have hcc:cc=c.cells:=AV.agg.inj (L8 hc)
 subst hcc
 rw [TrM.ev_br] at h
 rcases Dt h with ⟨hz,h1⟩|⟨_,h1⟩
 case inr=>cases h1
 clear h
 obtain rfl:z=0:=Odt hz
 rw [TrM.ev_br] at h1
 rcases Dt h1 with ⟨hok,h⟩|⟨_,h2⟩
 case inr=>cases h2
 clear h1
 have hok':=Ak.1 hok
 obtain ⟨_,hf0,hf1,ha0,ha1,hb0,hb1,hn0,hn1,rfl,rfl,rfl,rfl⟩:=hok'
 rw [hnt]
 refine AWp.runMK hC [9] (n:=100) Bo5 fun k hk=>?_
 refine (Bo4 c ⟨pp,pa,pb⟩ kd fr as_ bs n r k).trans ?_
 refine andI hok ?_
 rw [TrM.ev_br] at h
 have hres:∀ (s:St) (kk:AV->Mem->Bool),s.ds=[]->Iq s.ds s.m.lp (fun lp=>Uo (cfg [Bq]) fn s (fun v=>kk v ⟨s.m.heap,s.m.nx,lp⟩) false) false=kk (lget s.tmps 9) s.m:=fun s kk hd=>by
  rw [hd];show Uo (cfg [Bq]) fn s (fun v=>kk v ⟨s.m.heap,s.m.nx,s.m.lp⟩) false=_
  have:((Tryz.prog.funcs[142]?).map fun fn=>fn.results.toList)=some [.tmp 9]:=by kernel_rfl
  rw [show Tryz.prog.funcs[142]?=some fn from hfn] at this
  have hr:fn.results.toList=[.tmp 9]:=Option.some.inj this;unfold Uo;rw [hr];rfl
 refine condI (fun hf=>?_) (fun hf=>?_)
 ·rw [hf] at h
  refine hk .ret _ ⟨.inl rfl,?_⟩;rw [hres _ _ rfl];exact h
 ·rw [hf] at h
  refine hk .ret _ ⟨.inl rfl,?_⟩;rw [hres _ _ rfl];exact h
end
end Go.Bas.BasZAt2
end
section
namespace Go.Bas.BasZAt3
noncomputable section
open Go.RowKit Go.Proofs
open BasZBase BasZAt BasZAt2
abbrev Asu (l:List Sum) (x:List Inp):Cfg:=⟨Tryz.prog,Cb gs,Oa l,fun _=>false,Akq x⟩
def ci (i:Int) (c:Conf):Conf:=⟨c.ob,i,c.thr,c.kind,c.str,c.bits,c.cap,c.node,c.batch,c.chunk,c.limit,c.most⟩
def Ao4:LF:=fun _ _=>false
def Yb (sz:Conf->Int) (pr:Conf->Bool):Sum:=(143,on1 Dp pr (fun c=>.int .i64 (sz c)))
abbrev Bj9 (c:Conf):List AV:=[.int .u8 c.1,.int .i64 2,.int .i64 c.3,.int .u8 c.4,.int .i64 c.5,.int .i64 c.6,.int .i64 c.7,.int .i64 c.8,.int .i64 c.9,.int .i64 c.10,.int .u64 c.11,.int .u64 c.12]
abbrev A2r (p:Plc):=AV.agg [.int .u8 p.1,.int .i64 p.2,.int .i64 p.3]
abbrev Bka (c:Conf):=Conf.mk c.1 2 c.3 c.4 c.5 c.6 c.7 c.8 c.9 c.10 c.11 c.12
abbrev zeb3:=AV.tup []
abbrev zeb4:=AV.fn (Fn.func 141) [] [.ptr 5 0]
abbrev q0 (c:Conf) (p:Plc):=[.agg (Bj9 c),(A2r p),.ptr 0 0,.ptr 1 0,.ptr 2 0,.ptr 3 0,.int .i64 (Az (Bka c)),.ptr 4 0,zeb3,.agg (Bj9 c),.int .i64 (Az (Bka c)),.int .i64 (Az (Bka c)),.bool false,zeb3,.agg (Bj9 c),zeb4,zeb3,zeb3,zeb3,zeb3,zeb3,zeb3,zeb3]
abbrev q1 (c:Conf):=(Bj9 c)
abbrev Ajy:=AV.int .i64 0
abbrev Byo (p:Plc):=BasZAt.onB (BasZAt.Found 9 0 1 1 p)
abbrev Byp (p:Plc):=BasZAt.onB (BasZAt.Found 9 1 1 1 p)
theorem t_at2 (c:Conf) (p:Plc) (sz:Conf->Int) (pr:Conf->Bool) (k:AV->Bool):Ai (Asu [Bq,(Yb sz pr)] [(142,Uj)]) 300 40 [(ci 2 c).av,p.av] k false=(bif (!decide ((Az (Bka c))=0)) then (k (AV.tup [Ajy,.int .i64 (Az (Bka c))])) else ((BasZAt.onB (BasZAt.OutOk (Bka c) p 0 1 1 0 0 (q1 c) (q0 c p) atA atB))&&(bif (BasZAt.onB (BasZAt.Found 1 0 1 1 p)) then (bif decide (c.4=1) then (k (AV.tup [.int .i64 ((0+((p.2-0)*1))+p.3),Ajy])) else (k (AV.tup [.int .i64 ((0+((p.2-0)*1))+p.3),Ajy]))) else ((BasZAt.onB (BasZAt.OutOk (Bka c) p 0 1 1 0 1 (q1 c) (q0 c p) atA atB))&&(bif (BasZAt.onB (BasZAt.Found 2 0 1 1 p)) then (bif decide (c.4=1) then (k (AV.tup [.int .i64 ((1+((p.2-0)*1))+p.3),Ajy])) else (k (AV.tup [.int .i64 ((1+((p.2-0)*1))+p.3),Ajy]))) else ((BasZAt.onB (BasZAt.OutOk (Bka c) p 0 1 1 0 2 (q1 c) (q0 c p) atA atB))&&(bif (BasZAt.onB (BasZAt.Found 3 0 1 1 p)) then (bif decide (c.4=1) then (k (AV.tup [.int .i64 ((2+((p.2-0)*1))+p.3),Ajy])) else (k (AV.tup [.int .i64 ((2+((p.2-0)*1))+p.3),Ajy]))) else ((BasZAt.onB (BasZAt.OutOk (Bka c) p 0 c.3 1 0 3 (q1 c) (q0 c p) atA atB))&&(bif (BasZAt.onB (BasZAt.Found 4 0 c.3 1 p)) then (bif decide (c.4=1) then (k (AV.tup [.int .i64 ((3+((p.2-0)*1))+p.3),Ajy])) else (k (AV.tup [.int .i64 ((3+((p.2-0)*1))+p.3),Ajy]))) else ((BasZAt.onB (BasZAt.OutOk (Bka c) p 0 c.3 1 0 (3+(c.3*1)) (q1 c) (q0 c p) atA atB))&&(bif (BasZAt.onB (BasZAt.Found 5 0 c.3 1 p)) then (bif decide (c.4=1) then (k (AV.tup [.int .i64 (((3+(c.3*1))+((p.2-0)*1))+p.3),Ajy])) else (k (AV.tup [.int .i64 (((3+(c.3*1))+((p.2-0)*1))+p.3),Ajy]))) else (bif decide (c.4=1) then ((BasZAt.onB (BasZAt.OutOk (Bka c) p 0 2 c.3 0 ((3+(c.3*1))+(c.3*1)) (q1 c) (q0 c p) atA atB))&&(bif (BasZAt.onB (BasZAt.Found 6 0 2 c.3 p)) then (k (AV.tup [.int .i64 ((((3+(c.3*1))+(c.3*1))+((p.2-0)*c.3))+p.3),Ajy])) else ((BasZAt.onB (BasZAt.OutOk (Bka c) p 0 1 1 0 (((3+(c.3*1))+(c.3*1))+(2*c.3)) (q1 c) (q0 c p) atA atB))&&(bif (Byo p) then (k (AV.tup [.int .i64 (((((3+(c.3*1))+(c.3*1))+(2*c.3))+((p.2-0)*1))+p.3),Ajy])) else ((pr (Bka c))&&((BasZAt.onB (BasZAt.OutOk (Bka c) p 0 1 (sz (Bka c)) 0 ((((3+(c.3*1))+(c.3*1))+(2*c.3))+1) (q1 c) (q0 c p) atA atB))&&(bif (BasZAt.onB (BasZAt.Found 10 0 1 (sz (Bka c)) p)) then (k (AV.tup [.int .i64 ((((((3+(c.3*1))+(c.3*1))+(2*c.3))+1)+((p.2-0)*(sz (Bka c))))+p.3),Ajy])) else ((BasZAt.onB (BasZAt.OutOk (Bka c) p 1 1 1 1 (((((3+(c.3*1))+(c.3*1))+(2*c.3))+1)+(1*(sz (Bka c)))) (q1 c) (q0 c p) atA atB))&&(bif (Byp p) then (k (AV.tup [.int .i64 (((((((3+(c.3*1))+(c.3*1))+(2*c.3))+1)+(1*(sz (Bka c))))+((p.2-1)*1))+p.3),Ajy])) else ((pr (Bka c))&&((BasZAt.onB (BasZAt.OutOk (Bka c) p 1 1 (sz (Bka c)) 1 ((((((3+(c.3*1))+(c.3*1))+(2*c.3))+1)+(1*(sz (Bka c))))+1) (q1 c) (q0 c p) atA atB))&&(bif (BasZAt.onB (BasZAt.Found 10 1 1 (sz (Bka c)) p)) then (k (AV.tup [.int .i64 ((((((((3+(c.3*1))+(c.3*1))+(2*c.3))+1)+(1*(sz (Bka c))))+1)+((p.2-1)*(sz (Bka c))))+p.3),Ajy])) else (k (AV.tup [Ajy,.int .i64 2])))))))))))))) else ((BasZAt.onB (BasZAt.OutOk (Bka c) p 0 2 c.5 0 ((3+(c.3*1))+(c.3*1)) (q1 c) (q0 c p) atA atB))&&(bif (BasZAt.onB (BasZAt.Found 7 0 2 c.5 p)) then (k (AV.tup [.int .i64 ((((3+(c.3*1))+(c.3*1))+((p.2-0)*c.5))+p.3),Ajy])) else ((BasZAt.onB (BasZAt.OutOk (Bka c) p 0 2 c.5 0 (((3+(c.3*1))+(c.3*1))+(2*c.5)) (q1 c) (q0 c p) atA atB))&&(bif (BasZAt.onB (BasZAt.Found 8 0 2 c.5 p)) then (k (AV.tup [.int .i64 (((((3+(c.3*1))+(c.3*1))+(2*c.5))+((p.2-0)*c.5))+p.3),Ajy])) else ((BasZAt.onB (BasZAt.OutOk (Bka c) p 0 1 1 0 ((((3+(c.3*1))+(c.3*1))+(2*c.5))+(2*c.5)) (q1 c) (q0 c p) atA atB))&&(bif (Byo p) then (k (AV.tup [.int .i64 ((((((3+(c.3*1))+(c.3*1))+(2*c.5))+(2*c.5))+((p.2-0)*1))+p.3),Ajy])) else ((pr (Bka c))&&((BasZAt.onB (BasZAt.OutOk (Bka c) p 0 1 (sz (Bka c)) 0 (((((3+(c.3*1))+(c.3*1))+(2*c.5))+(2*c.5))+1) (q1 c) (q0 c p) atA atB))&&(bif (BasZAt.onB (BasZAt.Found 10 0 1 (sz (Bka c)) p)) then (k (AV.tup [.int .i64 (((((((3+(c.3*1))+(c.3*1))+(2*c.5))+(2*c.5))+1)+((p.2-0)*(sz (Bka c))))+p.3),Ajy])) else ((BasZAt.onB (BasZAt.OutOk (Bka c) p 1 1 1 1 ((((((3+(c.3*1))+(c.3*1))+(2*c.5))+(2*c.5))+1)+(1*(sz (Bka c)))) (q1 c) (q0 c p) atA atB))&&(bif (Byp p) then (k (AV.tup [.int .i64 ((((((((3+(c.3*1))+(c.3*1))+(2*c.5))+(2*c.5))+1)+(1*(sz (Bka c))))+((p.2-1)*1))+p.3),Ajy])) else ((pr (Bka c))&&((BasZAt.onB (BasZAt.OutOk (Bka c) p 1 1 (sz (Bka c)) 1 (((((((3+(c.3*1))+(c.3*1))+(2*c.5))+(2*c.5))+1)+(1*(sz (Bka c))))+1) (q1 c) (q0 c p) atA atB))&&(bif (BasZAt.onB (BasZAt.Found 10 1 1 (sz (Bka c)) p)) then (k (AV.tup [.int .i64 (((((((((3+(c.3*1))+(c.3*1))+(2*c.5))+(2*c.5))+1)+(1*(sz (Bka c))))+1)+((p.2-1)*(sz (Bka c))))+p.3),Ajy])) else (k (AV.tup [Ajy,.int .i64 2])))))))))))))))))))))))))))):=by kernel_rfl
abbrev B1i (c:Conf):List AV:=[.int .u8 c.1,.int .i64 3,.int .i64 c.3,.int .u8 c.4,.int .i64 c.5,.int .i64 c.6,.int .i64 c.7,.int .i64 c.8,.int .i64 c.9,.int .i64 c.10,.int .u64 c.11,.int .u64 c.12]
abbrev Al4 (c:Conf):=Conf.mk c.1 3 c.3 c.4 c.5 c.6 c.7 c.8 c.9 c.10 c.11 c.12
abbrev q2 (c:Conf) (p:Plc):=[.agg (B1i c),(A2r p),.ptr 0 0,.ptr 1 0,.ptr 2 0,.ptr 3 0,.int .i64 (Az (Al4 c)),.ptr 4 0,zeb3,.agg (B1i c),.int .i64 (Az (Al4 c)),.int .i64 (Az (Al4 c)),.bool false,zeb3,.agg (B1i c),zeb4,zeb3,zeb3,zeb3,zeb3,zeb3,zeb3,zeb3]
abbrev q3 (c:Conf):=(B1i c)
abbrev Bxw (p:Plc):=BasZAt.onB (BasZAt.Found 9 2 1 1 p)
theorem t_at3 (c:Conf) (p:Plc) (sz:Conf->Int) (pr:Conf->Bool) (k:AV->Bool):Ai (Asu [Bq,(Yb sz pr)] [(142,Uj)]) 300 40 [(ci 3 c).av,p.av] k false=(bif (!decide ((Az (Al4 c))=0)) then (k (AV.tup [Ajy,.int .i64 (Az (Al4 c))])) else ((BasZAt.onB (BasZAt.OutOk (Al4 c) p 0 1 1 0 0 (q3 c) (q2 c p) atA atB))&&(bif (BasZAt.onB (BasZAt.Found 1 0 1 1 p)) then (bif decide (c.4=1) then (k (AV.tup [.int .i64 ((0+((p.2-0)*1))+p.3),Ajy])) else (k (AV.tup [.int .i64 ((0+((p.2-0)*1))+p.3),Ajy]))) else ((BasZAt.onB (BasZAt.OutOk (Al4 c) p 0 1 1 0 1 (q3 c) (q2 c p) atA atB))&&(bif (BasZAt.onB (BasZAt.Found 2 0 1 1 p)) then (bif decide (c.4=1) then (k (AV.tup [.int .i64 ((1+((p.2-0)*1))+p.3),Ajy])) else (k (AV.tup [.int .i64 ((1+((p.2-0)*1))+p.3),Ajy]))) else ((BasZAt.onB (BasZAt.OutOk (Al4 c) p 0 1 1 0 2 (q3 c) (q2 c p) atA atB))&&(bif (BasZAt.onB (BasZAt.Found 3 0 1 1 p)) then (bif decide (c.4=1) then (k (AV.tup [.int .i64 ((2+((p.2-0)*1))+p.3),Ajy])) else (k (AV.tup [.int .i64 ((2+((p.2-0)*1))+p.3),Ajy]))) else ((BasZAt.onB (BasZAt.OutOk (Al4 c) p 0 c.3 1 0 3 (q3 c) (q2 c p) atA atB))&&(bif (BasZAt.onB (BasZAt.Found 4 0 c.3 1 p)) then (bif decide (c.4=1) then (k (AV.tup [.int .i64 ((3+((p.2-0)*1))+p.3),Ajy])) else (k (AV.tup [.int .i64 ((3+((p.2-0)*1))+p.3),Ajy]))) else ((BasZAt.onB (BasZAt.OutOk (Al4 c) p 0 c.3 1 0 (3+(c.3*1)) (q3 c) (q2 c p) atA atB))&&(bif (BasZAt.onB (BasZAt.Found 5 0 c.3 1 p)) then (bif decide (c.4=1) then (k (AV.tup [.int .i64 (((3+(c.3*1))+((p.2-0)*1))+p.3),Ajy])) else (k (AV.tup [.int .i64 (((3+(c.3*1))+((p.2-0)*1))+p.3),Ajy]))) else (bif decide (c.4=1) then ((BasZAt.onB (BasZAt.OutOk (Al4 c) p 0 2 c.3 0 ((3+(c.3*1))+(c.3*1)) (q3 c) (q2 c p) atA atB))&&(bif (BasZAt.onB (BasZAt.Found 6 0 2 c.3 p)) then (k (AV.tup [.int .i64 ((((3+(c.3*1))+(c.3*1))+((p.2-0)*c.3))+p.3),Ajy])) else ((BasZAt.onB (BasZAt.OutOk (Al4 c) p 0 1 1 0 (((3+(c.3*1))+(c.3*1))+(2*c.3)) (q3 c) (q2 c p) atA atB))&&(bif (Byo p) then (k (AV.tup [.int .i64 (((((3+(c.3*1))+(c.3*1))+(2*c.3))+((p.2-0)*1))+p.3),Ajy])) else ((pr (Al4 c))&&((BasZAt.onB (BasZAt.OutOk (Al4 c) p 0 1 (sz (Al4 c)) 0 ((((3+(c.3*1))+(c.3*1))+(2*c.3))+1) (q3 c) (q2 c p) atA atB))&&(bif (BasZAt.onB (BasZAt.Found 10 0 1 (sz (Al4 c)) p)) then (k (AV.tup [.int .i64 ((((((3+(c.3*1))+(c.3*1))+(2*c.3))+1)+((p.2-0)*(sz (Al4 c))))+p.3),Ajy])) else ((BasZAt.onB (BasZAt.OutOk (Al4 c) p 1 1 1 1 (((((3+(c.3*1))+(c.3*1))+(2*c.3))+1)+(1*(sz (Al4 c)))) (q3 c) (q2 c p) atA atB))&&(bif (Byp p) then (k (AV.tup [.int .i64 (((((((3+(c.3*1))+(c.3*1))+(2*c.3))+1)+(1*(sz (Al4 c))))+((p.2-1)*1))+p.3),Ajy])) else ((pr (Al4 c))&&((BasZAt.onB (BasZAt.OutOk (Al4 c) p 1 1 (sz (Al4 c)) 1 ((((((3+(c.3*1))+(c.3*1))+(2*c.3))+1)+(1*(sz (Al4 c))))+1) (q3 c) (q2 c p) atA atB))&&(bif (BasZAt.onB (BasZAt.Found 10 1 1 (sz (Al4 c)) p)) then (k (AV.tup [.int .i64 ((((((((3+(c.3*1))+(c.3*1))+(2*c.3))+1)+(1*(sz (Al4 c))))+1)+((p.2-1)*(sz (Al4 c))))+p.3),Ajy])) else ((BasZAt.onB (BasZAt.OutOk (Al4 c) p 2 1 1 2 (((((((3+(c.3*1))+(c.3*1))+(2*c.3))+1)+(1*(sz (Al4 c))))+1)+(1*(sz (Al4 c)))) (q3 c) (q2 c p) atA atB))&&(bif (Bxw p) then (k (AV.tup [.int .i64 (((((((((3+(c.3*1))+(c.3*1))+(2*c.3))+1)+(1*(sz (Al4 c))))+1)+(1*(sz (Al4 c))))+((p.2-2)*1))+p.3),Ajy])) else ((pr (Al4 c))&&((BasZAt.onB (BasZAt.OutOk (Al4 c) p 2 1 (sz (Al4 c)) 2 ((((((((3+(c.3*1))+(c.3*1))+(2*c.3))+1)+(1*(sz (Al4 c))))+1)+(1*(sz (Al4 c))))+1) (q3 c) (q2 c p) atA atB))&&(bif (BasZAt.onB (BasZAt.Found 10 2 1 (sz (Al4 c)) p)) then (k (AV.tup [.int .i64 ((((((((((3+(c.3*1))+(c.3*1))+(2*c.3))+1)+(1*(sz (Al4 c))))+1)+(1*(sz (Al4 c))))+1)+((p.2-2)*(sz (Al4 c))))+p.3),Ajy])) else (k (AV.tup [Ajy,.int .i64 2]))))))))))))))))))) else ((BasZAt.onB (BasZAt.OutOk (Al4 c) p 0 2 c.5 0 ((3+(c.3*1))+(c.3*1)) (q3 c) (q2 c p) atA atB))&&(bif (BasZAt.onB (BasZAt.Found 7 0 2 c.5 p)) then (k (AV.tup [.int .i64 ((((3+(c.3*1))+(c.3*1))+((p.2-0)*c.5))+p.3),Ajy])) else ((BasZAt.onB (BasZAt.OutOk (Al4 c) p 0 2 c.5 0 (((3+(c.3*1))+(c.3*1))+(2*c.5)) (q3 c) (q2 c p) atA atB))&&(bif (BasZAt.onB (BasZAt.Found 8 0 2 c.5 p)) then (k (AV.tup [.int .i64 (((((3+(c.3*1))+(c.3*1))+(2*c.5))+((p.2-0)*c.5))+p.3),Ajy])) else ((BasZAt.onB (BasZAt.OutOk (Al4 c) p 0 1 1 0 ((((3+(c.3*1))+(c.3*1))+(2*c.5))+(2*c.5)) (q3 c) (q2 c p) atA atB))&&(bif (Byo p) then (k (AV.tup [.int .i64 ((((((3+(c.3*1))+(c.3*1))+(2*c.5))+(2*c.5))+((p.2-0)*1))+p.3),Ajy])) else ((pr (Al4 c))&&((BasZAt.onB (BasZAt.OutOk (Al4 c) p 0 1 (sz (Al4 c)) 0 (((((3+(c.3*1))+(c.3*1))+(2*c.5))+(2*c.5))+1) (q3 c) (q2 c p) atA atB))&&(bif (BasZAt.onB (BasZAt.Found 10 0 1 (sz (Al4 c)) p)) then (k (AV.tup [.int .i64 (((((((3+(c.3*1))+(c.3*1))+(2*c.5))+(2*c.5))+1)+((p.2-0)*(sz (Al4 c))))+p.3),Ajy])) else ((BasZAt.onB (BasZAt.OutOk (Al4 c) p 1 1 1 1 ((((((3+(c.3*1))+(c.3*1))+(2*c.5))+(2*c.5))+1)+(1*(sz (Al4 c)))) (q3 c) (q2 c p) atA atB))&&(bif (Byp p) then (k (AV.tup [.int .i64 ((((((((3+(c.3*1))+(c.3*1))+(2*c.5))+(2*c.5))+1)+(1*(sz (Al4 c))))+((p.2-1)*1))+p.3),Ajy])) else ((pr (Al4 c))&&((BasZAt.onB (BasZAt.OutOk (Al4 c) p 1 1 (sz (Al4 c)) 1 (((((((3+(c.3*1))+(c.3*1))+(2*c.5))+(2*c.5))+1)+(1*(sz (Al4 c))))+1) (q3 c) (q2 c p) atA atB))&&(bif (BasZAt.onB (BasZAt.Found 10 1 1 (sz (Al4 c)) p)) then (k (AV.tup [.int .i64 (((((((((3+(c.3*1))+(c.3*1))+(2*c.5))+(2*c.5))+1)+(1*(sz (Al4 c))))+1)+((p.2-1)*(sz (Al4 c))))+p.3),Ajy])) else ((BasZAt.onB (BasZAt.OutOk (Al4 c) p 2 1 1 2 ((((((((3+(c.3*1))+(c.3*1))+(2*c.5))+(2*c.5))+1)+(1*(sz (Al4 c))))+1)+(1*(sz (Al4 c)))) (q3 c) (q2 c p) atA atB))&&(bif (Bxw p) then (k (AV.tup [.int .i64 ((((((((((3+(c.3*1))+(c.3*1))+(2*c.5))+(2*c.5))+1)+(1*(sz (Al4 c))))+1)+(1*(sz (Al4 c))))+((p.2-2)*1))+p.3),Ajy])) else ((pr (Al4 c))&&((BasZAt.onB (BasZAt.OutOk (Al4 c) p 2 1 (sz (Al4 c)) 2 (((((((((3+(c.3*1))+(c.3*1))+(2*c.5))+(2*c.5))+1)+(1*(sz (Al4 c))))+1)+(1*(sz (Al4 c))))+1) (q3 c) (q2 c p) atA atB))&&(bif (BasZAt.onB (BasZAt.Found 10 2 1 (sz (Al4 c)) p)) then (k (AV.tup [.int .i64 (((((((((((3+(c.3*1))+(c.3*1))+(2*c.5))+(2*c.5))+1)+(1*(sz (Al4 c))))+1)+(1*(sz (Al4 c))))+1)+((p.2-2)*(sz (Al4 c))))+p.3),Ajy])) else (k (AV.tup [Ajy,.int .i64 2]))))))))))))))))))))))))))))))))):=by kernel_rfl
abbrev Bxx (c:Conf):List AV:=[.int .u8 c.1,.int .i64 4,.int .i64 c.3,.int .u8 c.4,.int .i64 c.5,.int .i64 c.6,.int .i64 c.7,.int .i64 c.8,.int .i64 c.9,.int .i64 c.10,.int .u64 c.11,.int .u64 c.12]
abbrev Ajx (c:Conf):=Conf.mk c.1 4 c.3 c.4 c.5 c.6 c.7 c.8 c.9 c.10 c.11 c.12
abbrev q4 (c:Conf) (p:Plc):=[.agg (Bxx c),(A2r p),.ptr 0 0,.ptr 1 0,.ptr 2 0,.ptr 3 0,.int .i64 (Az (Ajx c)),.ptr 4 0,zeb3,.agg (Bxx c),.int .i64 (Az (Ajx c)),.int .i64 (Az (Ajx c)),.bool false,zeb3,.agg (Bxx c),zeb4,zeb3,zeb3,zeb3,zeb3,zeb3,zeb3,zeb3]
abbrev q5 (c:Conf):=(Bxx c)
theorem t_at4 (c:Conf) (p:Plc) (sz:Conf->Int) (pr:Conf->Bool) (k:AV->Bool):Ai (Asu [Bq,(Yb sz pr)] [(142,Uj)]) 300 40 [(ci 4 c).av,p.av] k false=(bif (!decide ((Az (Ajx c))=0)) then (k (AV.tup [Ajy,.int .i64 (Az (Ajx c))])) else ((BasZAt.onB (BasZAt.OutOk (Ajx c) p 0 1 1 0 0 (q5 c) (q4 c p) atA atB))&&(bif (BasZAt.onB (BasZAt.Found 1 0 1 1 p)) then (bif decide (c.4=1) then (k (AV.tup [.int .i64 ((0+((p.2-0)*1))+p.3),Ajy])) else (k (AV.tup [.int .i64 ((0+((p.2-0)*1))+p.3),Ajy]))) else ((BasZAt.onB (BasZAt.OutOk (Ajx c) p 0 1 1 0 1 (q5 c) (q4 c p) atA atB))&&(bif (BasZAt.onB (BasZAt.Found 2 0 1 1 p)) then (bif decide (c.4=1) then (k (AV.tup [.int .i64 ((1+((p.2-0)*1))+p.3),Ajy])) else (k (AV.tup [.int .i64 ((1+((p.2-0)*1))+p.3),Ajy]))) else ((BasZAt.onB (BasZAt.OutOk (Ajx c) p 0 1 1 0 2 (q5 c) (q4 c p) atA atB))&&(bif (BasZAt.onB (BasZAt.Found 3 0 1 1 p)) then (bif decide (c.4=1) then (k (AV.tup [.int .i64 ((2+((p.2-0)*1))+p.3),Ajy])) else (k (AV.tup [.int .i64 ((2+((p.2-0)*1))+p.3),Ajy]))) else ((BasZAt.onB (BasZAt.OutOk (Ajx c) p 0 c.3 1 0 3 (q5 c) (q4 c p) atA atB))&&(bif (BasZAt.onB (BasZAt.Found 4 0 c.3 1 p)) then (bif decide (c.4=1) then (k (AV.tup [.int .i64 ((3+((p.2-0)*1))+p.3),Ajy])) else (k (AV.tup [.int .i64 ((3+((p.2-0)*1))+p.3),Ajy]))) else ((BasZAt.onB (BasZAt.OutOk (Ajx c) p 0 c.3 1 0 (3+(c.3*1)) (q5 c) (q4 c p) atA atB))&&(bif (BasZAt.onB (BasZAt.Found 5 0 c.3 1 p)) then (bif decide (c.4=1) then (k (AV.tup [.int .i64 (((3+(c.3*1))+((p.2-0)*1))+p.3),Ajy])) else (k (AV.tup [.int .i64 (((3+(c.3*1))+((p.2-0)*1))+p.3),Ajy]))) else (bif decide (c.4=1) then ((BasZAt.onB (BasZAt.OutOk (Ajx c) p 0 2 c.3 0 ((3+(c.3*1))+(c.3*1)) (q5 c) (q4 c p) atA atB))&&(bif (BasZAt.onB (BasZAt.Found 6 0 2 c.3 p)) then (k (AV.tup [.int .i64 ((((3+(c.3*1))+(c.3*1))+((p.2-0)*c.3))+p.3),Ajy])) else ((BasZAt.onB (BasZAt.OutOk (Ajx c) p 0 1 1 0 (((3+(c.3*1))+(c.3*1))+(2*c.3)) (q5 c) (q4 c p) atA atB))&&(bif (Byo p) then (k (AV.tup [.int .i64 (((((3+(c.3*1))+(c.3*1))+(2*c.3))+((p.2-0)*1))+p.3),Ajy])) else ((pr (Ajx c))&&((BasZAt.onB (BasZAt.OutOk (Ajx c) p 0 1 (sz (Ajx c)) 0 ((((3+(c.3*1))+(c.3*1))+(2*c.3))+1) (q5 c) (q4 c p) atA atB))&&(bif (BasZAt.onB (BasZAt.Found 10 0 1 (sz (Ajx c)) p)) then (k (AV.tup [.int .i64 ((((((3+(c.3*1))+(c.3*1))+(2*c.3))+1)+((p.2-0)*(sz (Ajx c))))+p.3),Ajy])) else ((BasZAt.onB (BasZAt.OutOk (Ajx c) p 1 1 1 1 (((((3+(c.3*1))+(c.3*1))+(2*c.3))+1)+(1*(sz (Ajx c)))) (q5 c) (q4 c p) atA atB))&&(bif (Byp p) then (k (AV.tup [.int .i64 (((((((3+(c.3*1))+(c.3*1))+(2*c.3))+1)+(1*(sz (Ajx c))))+((p.2-1)*1))+p.3),Ajy])) else ((pr (Ajx c))&&((BasZAt.onB (BasZAt.OutOk (Ajx c) p 1 1 (sz (Ajx c)) 1 ((((((3+(c.3*1))+(c.3*1))+(2*c.3))+1)+(1*(sz (Ajx c))))+1) (q5 c) (q4 c p) atA atB))&&(bif (BasZAt.onB (BasZAt.Found 10 1 1 (sz (Ajx c)) p)) then (k (AV.tup [.int .i64 ((((((((3+(c.3*1))+(c.3*1))+(2*c.3))+1)+(1*(sz (Ajx c))))+1)+((p.2-1)*(sz (Ajx c))))+p.3),Ajy])) else ((BasZAt.onB (BasZAt.OutOk (Ajx c) p 2 1 1 2 (((((((3+(c.3*1))+(c.3*1))+(2*c.3))+1)+(1*(sz (Ajx c))))+1)+(1*(sz (Ajx c)))) (q5 c) (q4 c p) atA atB))&&(bif (Bxw p) then (k (AV.tup [.int .i64 (((((((((3+(c.3*1))+(c.3*1))+(2*c.3))+1)+(1*(sz (Ajx c))))+1)+(1*(sz (Ajx c))))+((p.2-2)*1))+p.3),Ajy])) else ((pr (Ajx c))&&((BasZAt.onB (BasZAt.OutOk (Ajx c) p 2 1 (sz (Ajx c)) 2 ((((((((3+(c.3*1))+(c.3*1))+(2*c.3))+1)+(1*(sz (Ajx c))))+1)+(1*(sz (Ajx c))))+1) (q5 c) (q4 c p) atA atB))&&(bif (BasZAt.onB (BasZAt.Found 10 2 1 (sz (Ajx c)) p)) then (k (AV.tup [.int .i64 ((((((((((3+(c.3*1))+(c.3*1))+(2*c.3))+1)+(1*(sz (Ajx c))))+1)+(1*(sz (Ajx c))))+1)+((p.2-2)*(sz (Ajx c))))+p.3),Ajy])) else ((BasZAt.onB (BasZAt.OutOk (Ajx c) p 3 1 1 3 (((((((((3+(c.3*1))+(c.3*1))+(2*c.3))+1)+(1*(sz (Ajx c))))+1)+(1*(sz (Ajx c))))+1)+(1*(sz (Ajx c)))) (q5 c) (q4 c p) atA atB))&&(bif (BasZAt.onB (BasZAt.Found 9 3 1 1 p)) then (k (AV.tup [.int .i64 (((((((((((3+(c.3*1))+(c.3*1))+(2*c.3))+1)+(1*(sz (Ajx c))))+1)+(1*(sz (Ajx c))))+1)+(1*(sz (Ajx c))))+((p.2-3)*1))+p.3),Ajy])) else ((pr (Ajx c))&&((BasZAt.onB (BasZAt.OutOk (Ajx c) p 3 1 (sz (Ajx c)) 3 ((((((((((3+(c.3*1))+(c.3*1))+(2*c.3))+1)+(1*(sz (Ajx c))))+1)+(1*(sz (Ajx c))))+1)+(1*(sz (Ajx c))))+1) (q5 c) (q4 c p) atA atB))&&(bif (BasZAt.onB (BasZAt.Found 10 3 1 (sz (Ajx c)) p)) then (k (AV.tup [.int .i64 ((((((((((((3+(c.3*1))+(c.3*1))+(2*c.3))+1)+(1*(sz (Ajx c))))+1)+(1*(sz (Ajx c))))+1)+(1*(sz (Ajx c))))+1)+((p.2-3)*(sz (Ajx c))))+p.3),Ajy])) else (k (AV.tup [Ajy,.int .i64 2])))))))))))))))))))))))) else ((BasZAt.onB (BasZAt.OutOk (Ajx c) p 0 2 c.5 0 ((3+(c.3*1))+(c.3*1)) (q5 c) (q4 c p) atA atB))&&(bif (BasZAt.onB (BasZAt.Found 7 0 2 c.5 p)) then (k (AV.tup [.int .i64 ((((3+(c.3*1))+(c.3*1))+((p.2-0)*c.5))+p.3),Ajy])) else ((BasZAt.onB (BasZAt.OutOk (Ajx c) p 0 2 c.5 0 (((3+(c.3*1))+(c.3*1))+(2*c.5)) (q5 c) (q4 c p) atA atB))&&(bif (BasZAt.onB (BasZAt.Found 8 0 2 c.5 p)) then (k (AV.tup [.int .i64 (((((3+(c.3*1))+(c.3*1))+(2*c.5))+((p.2-0)*c.5))+p.3),Ajy])) else ((BasZAt.onB (BasZAt.OutOk (Ajx c) p 0 1 1 0 ((((3+(c.3*1))+(c.3*1))+(2*c.5))+(2*c.5)) (q5 c) (q4 c p) atA atB))&&(bif (Byo p) then (k (AV.tup [.int .i64 ((((((3+(c.3*1))+(c.3*1))+(2*c.5))+(2*c.5))+((p.2-0)*1))+p.3),Ajy])) else ((pr (Ajx c))&&((BasZAt.onB (BasZAt.OutOk (Ajx c) p 0 1 (sz (Ajx c)) 0 (((((3+(c.3*1))+(c.3*1))+(2*c.5))+(2*c.5))+1) (q5 c) (q4 c p) atA atB))&&(bif (BasZAt.onB (BasZAt.Found 10 0 1 (sz (Ajx c)) p)) then (k (AV.tup [.int .i64 (((((((3+(c.3*1))+(c.3*1))+(2*c.5))+(2*c.5))+1)+((p.2-0)*(sz (Ajx c))))+p.3),Ajy])) else ((BasZAt.onB (BasZAt.OutOk (Ajx c) p 1 1 1 1 ((((((3+(c.3*1))+(c.3*1))+(2*c.5))+(2*c.5))+1)+(1*(sz (Ajx c)))) (q5 c) (q4 c p) atA atB))&&(bif (Byp p) then (k (AV.tup [.int .i64 ((((((((3+(c.3*1))+(c.3*1))+(2*c.5))+(2*c.5))+1)+(1*(sz (Ajx c))))+((p.2-1)*1))+p.3),Ajy])) else ((pr (Ajx c))&&((BasZAt.onB (BasZAt.OutOk (Ajx c) p 1 1 (sz (Ajx c)) 1 (((((((3+(c.3*1))+(c.3*1))+(2*c.5))+(2*c.5))+1)+(1*(sz (Ajx c))))+1) (q5 c) (q4 c p) atA atB))&&(bif (BasZAt.onB (BasZAt.Found 10 1 1 (sz (Ajx c)) p)) then (k (AV.tup [.int .i64 (((((((((3+(c.3*1))+(c.3*1))+(2*c.5))+(2*c.5))+1)+(1*(sz (Ajx c))))+1)+((p.2-1)*(sz (Ajx c))))+p.3),Ajy])) else ((BasZAt.onB (BasZAt.OutOk (Ajx c) p 2 1 1 2 ((((((((3+(c.3*1))+(c.3*1))+(2*c.5))+(2*c.5))+1)+(1*(sz (Ajx c))))+1)+(1*(sz (Ajx c)))) (q5 c) (q4 c p) atA atB))&&(bif (Bxw p) then (k (AV.tup [.int .i64 ((((((((((3+(c.3*1))+(c.3*1))+(2*c.5))+(2*c.5))+1)+(1*(sz (Ajx c))))+1)+(1*(sz (Ajx c))))+((p.2-2)*1))+p.3),Ajy])) else ((pr (Ajx c))&&((BasZAt.onB (BasZAt.OutOk (Ajx c) p 2 1 (sz (Ajx c)) 2 (((((((((3+(c.3*1))+(c.3*1))+(2*c.5))+(2*c.5))+1)+(1*(sz (Ajx c))))+1)+(1*(sz (Ajx c))))+1) (q5 c) (q4 c p) atA atB))&&(bif (BasZAt.onB (BasZAt.Found 10 2 1 (sz (Ajx c)) p)) then (k (AV.tup [.int .i64 (((((((((((3+(c.3*1))+(c.3*1))+(2*c.5))+(2*c.5))+1)+(1*(sz (Ajx c))))+1)+(1*(sz (Ajx c))))+1)+((p.2-2)*(sz (Ajx c))))+p.3),Ajy])) else ((BasZAt.onB (BasZAt.OutOk (Ajx c) p 3 1 1 3 ((((((((((3+(c.3*1))+(c.3*1))+(2*c.5))+(2*c.5))+1)+(1*(sz (Ajx c))))+1)+(1*(sz (Ajx c))))+1)+(1*(sz (Ajx c)))) (q5 c) (q4 c p) atA atB))&&(bif (BasZAt.onB (BasZAt.Found 9 3 1 1 p)) then (k (AV.tup [.int .i64 ((((((((((((3+(c.3*1))+(c.3*1))+(2*c.5))+(2*c.5))+1)+(1*(sz (Ajx c))))+1)+(1*(sz (Ajx c))))+1)+(1*(sz (Ajx c))))+((p.2-3)*1))+p.3),Ajy])) else ((pr (Ajx c))&&((BasZAt.onB (BasZAt.OutOk (Ajx c) p 3 1 (sz (Ajx c)) 3 (((((((((((3+(c.3*1))+(c.3*1))+(2*c.5))+(2*c.5))+1)+(1*(sz (Ajx c))))+1)+(1*(sz (Ajx c))))+1)+(1*(sz (Ajx c))))+1) (q5 c) (q4 c p) atA atB))&&(bif (BasZAt.onB (BasZAt.Found 10 3 1 (sz (Ajx c)) p)) then (k (AV.tup [.int .i64 (((((((((((((3+(c.3*1))+(c.3*1))+(2*c.5))+(2*c.5))+1)+(1*(sz (Ajx c))))+1)+(1*(sz (Ajx c))))+1)+(1*(sz (Ajx c))))+1)+((p.2-3)*(sz (Ajx c))))+p.3),Ajy])) else (k (AV.tup [Ajy,.int .i64 2])))))))))))))))))))))))))))))))))))))):=by kernel_rfl
theorem Bgv (c:Conf) (p:Plc) (k:AV->Bool):Aqs (cfg [Bq]) 300 40 [Ao4] [c.av,p.av] k=((!decide ((Az c)=0))&&(k (AV.tup [Ajy,.int .i64 (Az c)]))):=by kernel_rfl
end
end Go.Bas.BasZAt3
end
