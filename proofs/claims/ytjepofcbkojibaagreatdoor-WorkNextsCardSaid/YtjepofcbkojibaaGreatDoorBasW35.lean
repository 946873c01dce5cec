/- The document's program of all objects, at an index; The programs of all objects: where a frame may be, and its act; the document's answers are the progr; A frame that may be acts Jm its object; A frame that may be acts Jm its object: all objects. -/
import Derived.Test.YtjepofcbkojibaaGreatDoorBasW13
import Derived.Test.YtjepofcbkojibaaGreatDoorBasW14
import Derived.Test.YtjepofcbkojibaaGreatDoorBasW21
import Derived.Test.YtjepofcbkojibaaGreatDoorBasW34
set_option maxRecDepth 100000
set_option maxHeartbeats 4000000
set_option linter.unusedVariables false
set_option linter.unusedSimpArgs false
section
namespace Go.Bas.BasZR16c
noncomputable section
open Go.RowKit Go.Proofs
open BasZBase BasZR14 BasZTreB BasZTre BasZR13c BasZR13s BasZR13n
def A8j:Sum:=(144,on2 Dp Ji (fun c f=>(decide (Az c=0)&&(decide (c.ob=2)&&posH f))) (fun c f=>.bool (Ce (⟨f,c,lvL c.cap c.node,lvN c.cap c.node,0,0,false⟩:TRa))))
abbrev Buo (c:Conf):Conf:=⟨2,c.ins,c.thr,c.kind,c.str,c.bits,c.cap,c.node,c.batch,c.chunk,c.limit,c.most⟩
abbrev Bwv (c:Conf) (f:Frm):TRa:=⟨(f),((Buo c)),lvL ((Buo c)).cap ((Buo c)).node,lvN ((Buo c)).cap ((Buo c)).node,0,0,false⟩
abbrev Ad0 (c:Conf):=Conf.mk 2 c.2 c.3 c.4 c.5 c.6 c.7 c.8 c.9 c.10 c.11 c.12
abbrev A2e (c:Conf) (f:Frm):=TRa.mk f (Ad0 c) (lvL c.7 c.8) (lvN c.7 c.8) 0 0 false
theorem Bow (c:Conf) (f:Frm) (hq:(decide (Az (Buo c)=0)&&(decide (((Buo c)).ob=2)&&posH f))=true):Ai (cfg [Ao2]) 400 144 [(Buo c).av,f.av] (fun w_=>seB.eq (.bool (Ce (Bwv c f))) w_) false=true:=Eq.trans (b:=(ba (decide ((Az (Ad0 c))=0)&&(BasZR14.posH f)) (br (Ce (A2e c f)) (ba (Ce (A2e c f)) true) (!(Ce (A2e c f)))))) (by kernel_rfl) (band hq (bdt (fun h_1=>(band h_1 rfl)) (fun h_1=>(Am h_1))))
theorem A8k (c:Conf) (f:Frm) (h:(decide (Az c=0)&&(decide (c.ob=2)&&posH f))=true):Ai (cfg [Ao2]) 400 144 [c.av,f.av] (fun w_=>seB.eq (.bool (Ce (⟨f,c,lvL c.cap c.node,lvN c.cap c.node,0,0,false⟩:TRa))) w_) false=true:=by
 have ho:=Odt (Aj (Af h))
 rw [D8 ho] at h ⊢
 exact Bow c f h
theorem Boy:Bc Tryz.prog (Cb gs) A8j:=Cm fun c f h=>Aq base (Ah Bgl Ap) (n:=400) fun k hk=>(Dh (A8k c f h) (fun w_ hw=>(seB.ok _ _ hw)) k).trans hk
def A8l:Sum:=(87,on2 Dp Ji (fun c f=>((decide (Az c=0)&&(decide (c.ob=2)&&posH f))&&Ce (⟨f,c,lvL c.cap c.node,lvN c.cap c.node,0,0,false⟩:TRa))) (fun c f=>.agg [.int .u8 (Le (⟨f,c,lvL c.cap c.node,lvN c.cap c.node,0,0,false⟩:TRa)),.int .i64 (Bj (⟨f,c,lvL c.cap c.node,lvN c.cap c.node,0,0,false⟩:TRa)),.int .u64 (Lh (⟨f,c,lvL c.cap c.node,lvN c.cap c.node,0,0,false⟩:TRa)),.int .u64 (Lj (⟨f,c,lvL c.cap c.node,lvN c.cap c.node,0,0,false⟩:TRa)),.int .u64 (Ll (⟨f,c,lvL c.cap c.node,lvN c.cap c.node,0,0,false⟩:TRa)),.int .i64 (Lm (⟨f,c,lvL c.cap c.node,lvN c.cap c.node,0,0,false⟩:TRa)),.int .u32 (Lp (⟨f,c,lvL c.cap c.node,lvN c.cap c.node,0,0,false⟩:TRa))]))
abbrev zdx2:=seG [(seI .u8),(seI .i64),(seI .u64),(seI .u64),(seI .u64),(seI .i64),(seI .u32)]
theorem Boz (c:Conf) (f:Frm) (hq:preS (lvN c.cap c.node) (Buo c) f=true):Ai (cfg [Aae]) 400 87 [(Buo c).av,f.av] (fun w_=>zdx2.eq (.agg [.int .u8 (Le (Bwv c f)),.int .i64 (Bj (Bwv c f)),.int .u64 (Lh (Bwv c f)),.int .u64 (Lj (Bwv c f)),.int .u64 (Ll (Bwv c f)),.int .i64 (Lm (Bwv c f)),.int .u32 (Lp (Bwv c f))]) w_) false=true:=Eq.trans (b:=(ba (BasZR13c.preS (lvN c.7 c.8) (Ad0 c) f) (ba (decide ((Le (A2e c f))=(Le (A2e c f)))&&true) (ba (decide ((Bj (A2e c f))=(Bj (A2e c f)))&&true) (ba (decide ((Lh (A2e c f))=(Lh (A2e c f)))&&true) (ba (decide ((Lj (A2e c f))=(Lj (A2e c f)))&&true) (ba (decide ((Ll (A2e c f))=(Ll (A2e c f)))&&true) (ba (decide ((Lm (A2e c f))=(Lm (A2e c f)))&&true) (ba (decide ((Lp (A2e c f))=(Lp (A2e c f)))&&true) true))))))))) (by kernel_rfl) (band hq (band (Aw (Ddt rfl)) (band (Aw (Ddt rfl)) (band (Aw (Ddt rfl)) (band (Aw (Ddt rfl)) (band (Aw (Ddt rfl)) (band (Aw (Ddt rfl)) (band (Aw (Ddt rfl)) rfl))))))))
theorem A8m (c:Conf) (f:Frm) (h:((decide (Az c=0)&&(decide (c.ob=2)&&posH f))&&Ce (⟨f,c,lvL c.cap c.node,lvN c.cap c.node,0,0,false⟩:TRa))=true):Ai (cfg [Aae]) 400 87 [c.av,f.av] (fun w_=>zdx2.eq (.agg [.int .u8 (Le (⟨f,c,lvL c.cap c.node,lvN c.cap c.node,0,0,false⟩:TRa)),.int .i64 (Bj (⟨f,c,lvL c.cap c.node,lvN c.cap c.node,0,0,false⟩:TRa)),.int .u64 (Lh (⟨f,c,lvL c.cap c.node,lvN c.cap c.node,0,0,false⟩:TRa)),.int .u64 (Lj (⟨f,c,lvL c.cap c.node,lvN c.cap c.node,0,0,false⟩:TRa)),.int .u64 (Ll (⟨f,c,lvL c.cap c.node,lvN c.cap c.node,0,0,false⟩:TRa)),.int .i64 (Lm (⟨f,c,lvL c.cap c.node,lvN c.cap c.node,0,0,false⟩:TRa)),.int .u32 (Lp (⟨f,c,lvL c.cap c.node,lvN c.cap c.node,0,0,false⟩:TRa))]) w_) false=true:=by
 have h1:=Aj h
 have hq:=Bgm c f (Aj h1) (Aj (Af h1)) (Af (Af h1)) (Af h)
 have ho:=Odt (Aj (Af h1))
 rw [D8 ho] at hq ⊢
 exact Boz c f hq
theorem Bo0:Bc Tryz.prog (Cb gs) A8l:=Cm fun c f h=>Aq base (Ah Bj2 Ap) (n:=400) fun k hk=>(Dh (A8m c f h) (fun w_ hw=>((seG [(seI .u8),(seI .i64),(seI .u64),(seI .u64),(seI .u64),(seI .i64),(seI .u32)]).ok _ _ hw)) k).trans hk
end
end Go.Bas.BasZR16c
end
section
namespace Go.Bas.BasZR16b
noncomputable section
open Go.RowKit Go.Proofs BasZBase BasZOp BasZOk BasZRef14 BasZR14 BasZGate BasZTrie BasZBranch BasZTreB BasZTre BasZTreC BasZProg BasZR12 BasZR15 BasZR15m BasZR15p BasZR15e BasZR16 BasZR16c
theorem A8n {c:Conf} (he:decide (Az c=0)=true):c.ob=1\/c.ob=2\/c.ob=3\/c.ob=4:=by
 have h:=Hy.1 (Og (Odt he))
 simp only [Conf.OkP] at h
 omega
section
variable (c:Conf) (f:Frm)
abbrev aP:AV:=.agg [.int .u8 (Ee c f),.int .i64 (f_pnx_1 c f),.int .u64 (V5 c f),.int .u64 (V6 c f),.int .u64 (V7 c f),.int .i64 (V8 c f),.int .u32 (V9 c f)]
abbrev aT:AV:=.agg [.int .u8 (Nk c f),.int .i64 (Ij c f),.int .u64 (Nl c f),.int .u64 (Np c f),.int .u64 (Nq c f),.int .i64 (Nr c f),.int .u32 (Ns c f)]
abbrev aA:AV:=.agg [.int .u8 (Le (mkr c f)),.int .i64 (Bj (mkr c f)),.int .u64 (Lh (mkr c f)),.int .u64 (Lj (mkr c f)),.int .u64 (Ll (mkr c f)),.int .i64 (Lm (mkr c f)),.int .u32 (Lp (mkr c f))]
abbrev aG:AV:=.agg [.int .u8 (L9 c f),.int .i64 (Ii c f),.int .u64 (Na c f),.int .u64 (Nb c f),.int .u64 (Nc c f),.int .i64 (Nh c f),.int .u32 (Nj c f)]
abbrev aB:AV:=.agg [.int .u8 (Ri c f),.int .i64 (Nu c f),.int .u64 (Rj c f),.int .u64 (Rk c f),.int .u64 (Rn c f),.int .i64 (Ro c f),.int .u32 (Rq c f)]
abbrev aW (m:Int):AV:=.agg [.int .u8 (Ha (A7 c f m)),.int .i64 (Fa (A7 c f m)),.int .u64 (He (A7 c f m)),.int .u64 (Hf (A7 c f m)),.int .u64 (Hg (A7 c f m)),.int .i64 (Hl (A7 c f m)),.int .u32 (Hm (A7 c f m))]
end
theorem Asn {c:Conf} {f:Frm} (he:decide (Az c=0)=true) (ho:c.ob=1) (hp:posH f=true):Jq c f=Af5 c f:=by
 have t:=t_pv1 c f (by rw [<- D8 ho];exact he) (Dn hp)
 rw [<- D8 ho] at t
 exact Adh (Dh t (fun w_ hw=>(seT [seG [seI .u8,seI .i64,seI .u64,seI .u64,seI .u64,seI .i64,seI .u32],seI .i64]).ok _ _ hw))
theorem Aso {c:Conf} {f:Frm} (he:decide (Az c=0)=true) (ho:c.ob=2) (hp:posH f=true):Jq c f=Aor c f:=by
 have t:=t_pv2 c f (by rw [<- D8 ho];exact he) (Dn hp)
 rw [<- D8 ho] at t
 exact Adh (Dh t (fun w_ hw=>(seT [seG [seI .u8,seI .i64,seI .u64,seI .u64,seI .u64,seI .i64,seI .u32],seI .i64]).ok _ _ hw))
theorem Asp {c:Conf} {f:Frm} (he:decide (Az c=0)=true) (ho:c.ob=3) (hp:posH f=true):Jq c f=Af1 c f:=by
 have t:=t_pv3 c f (by rw [<- D8 ho];exact he) (Dn hp)
 rw [<- D8 ho] at t
 exact Adh (Dh t (fun w_ hw=>(seT [seG [seI .u8,seI .i64,seI .u64,seI .u64,seI .u64,seI .i64,seI .u32],seI .i64]).ok _ _ hw))
theorem Asq {c:Conf} {f:Frm} (he:decide (Az c=0)=true) (ho:c.ob=4) (hp:posH f=true):Jq c f=Af6 c f:=by
 have t:=t_pv4 c f (by rw [<- D8 ho];exact he) (Dn hp)
 rw [<- D8 ho] at t
 exact Adh (Dh t (fun w_ hw=>(seT [seG [seI .u8,seI .i64,seI .u64,seI .u64,seI .u64,seI .i64,seI .u32],seI .i64]).ok _ _ hw))
theorem Bgn {c:Conf} {f:Frm} {m:Int} (h:noPc f.kind f.pc=true):f_wmay_0 (A7 c f m) c=false:=by
 obtain ⟨kind,a,b,pc,i,j,n,p,hh,x,y⟩:=f
 have h:noPc kind pc=true:=h
 unfold noPc at h
 rcases Odt h with ⟨rfl,n0,n2,n3,n4,n20,n22⟩|⟨rfl,n0,n5,n6,n20,n21,n23⟩|⟨rfl,n0,n20,n21⟩
 ·exact A6o n0 n2 n3 n4 n20 n22
 ·exact A6p n0 n5 n6 n20 n21 n23
 ·exact A6q n0 n20 n21
theorem bN_e {c:Conf} {f:Frm} (he:decide (Az c=0)=true) (ho:c.ob=4) (hp:posH f=true):decide (O8 c f=0)=f_wmay_0 (A7 c f (mny f)) c:=by
 have e:O8 c f=cond (f_wmay_0 (A7 c f (mny f)) c) 0 2:=by
  unfold O8;show (Il c f).ev (fun l=>(lget l 7).toI) 0=_
  rw [Asg he ho hp];cases f_wmay_0 (A7 c f (mny f)) c<;>rfl
 rw [e]
 cases f_wmay_0 (A7 c f (mny f)) c<;>rfl
theorem A8o {c:Conf} {f:Frm} (he:decide (Az c=0)=true) (ho:c.ob=4) (hp:posH f=true) (hm:f_wmay_0 (A7 c f (mny f)) c=true):aB c f=aW c f (mny f):=by
 have e:∀ j,(Il c f).int j=(lget (L0 c f (mny f)) j).toI:=fun j=>by
  show (Il c f).ev (fun l=>(lget l j).toI) 0=_
  rw [Asg he ho hp,hm];rfl
 unfold aB Ri Nu Rj Rk Rn Ro Rq
 rw [e,e,e,e,e,e,e]
 rfl
def Pj:Sum:=(144,on2 Dp Ji (fun c f=>decide (Az c=0)&&posH f) (fun c f=>.bool (decide (Fj c f=0))))
theorem Bgo:Bc Tryz.prog (Cb gs) Pj:=Cm fun c f h=>by
 have he:=Aj h
 have hp:=Af h
 rcases A8n he with ho|ho|ho|ho
 ·have e:decide (Fj c f=0)=Df ⟨f,c⟩:=by
   unfold Fj;rw [Asn he ho hp];exact rN_e he ho hp
  rw [e];exact Bm5 [c.av,f.av] (.bool (Df ⟨f,c⟩)) ((show A6c.2 [c.av,f.av]=some ((decide (c.ob=1)&&posH f),.bool (Df ⟨f,c⟩)) from by kernel_rfl).trans (by rw [Ddt ho,hp];rfl))
 ·have e:decide (Fj c f=0)=Ce (mkr c f):=by
   unfold Fj;rw [Aso he ho hp];exact (A78 he ho hp).1
  rw [e];exact Boy [c.av,f.av] (.bool (Ce (mkr c f))) ((show A8j.2 [c.av,f.av]=some ((decide (Az c=0)&&(decide (c.ob=2)&&posH f)),.bool (Ce (mkr c f))) from by kernel_rfl).trans (by rw [he,Ddt ho,hp];rfl))
 ·have e:decide (Fj c f=0)=F9 c f:=by
   unfold Fj;rw [Asp he ho hp];exact gN_e he ho hp
  rw [e];exact Bmt [c.av,f.av] (.bool (F9 c f)) ((show A51.2 [c.av,f.av]=some ((decide (c.ob=3)&&posH f),.bool (F9 c f)) from by kernel_rfl).trans (by rw [Ddt ho,hp];rfl))
 ·have e:decide (Fj c f=0)=f_wmay_0 (A7 c f (mny f)) c:=by
   unfold Fj;rw [Asq he ho hp];exact bN_e he ho hp
  rw [e];cases hop:decide (Ag c (opF 12 f)=0) with
  | false =>
   rw [Ax2 hop];have h0:=Odf hop
   rcases Aw3 (c:=c) (o:=opF 12 f) (Aj (Bg (Fz hp))) with hv|hv|hv|hv
   ·exact absurd hv h0
   ·exact A0m [c.av,f.av] (.bool false) ((show Alf.2 [c.av,f.av]=some ((decide (c.ob=4)&&(posH f&&decide (Ag c (opF 12 f)=10))),.bool false) from by kernel_rfl).trans (by rw [Ddt ho,hp,Ddt hv];rfl))
   ·exact A0o [c.av,f.av] (.bool false) ((show Alg.2 [c.av,f.av]=some ((decide (c.ob=4)&&(posH f&&decide (Ag c (opF 12 f)=40))),.bool false) from by kernel_rfl).trans (by rw [Ddt ho,hp,Ddt hv];rfl))
   ·exact A0q [c.av,f.av] (.bool false) ((show Alh.2 [c.av,f.av]=some ((decide (c.ob=4)&&(posH f&&decide (Ag c (opF 12 f)=50))),.bool false) from by kernel_rfl).trans (by rw [Ddt ho,hp,Ddt hv];rfl))
  | true =>
   have hM:=Ax3 ho hp hop;cases hq:noPc f.kind f.pc with
   | true =>
    rw [Bgn hq];exact Bdl [c.av,f.av] (.bool false) ((show Axj.2 [c.av,f.av]=some ((decide (c.ob=4)&&(posH f&&(decide (Ag c (opF 12 f)=0)&&noPc f.kind f.pc))),.bool false) from by kernel_rfl).trans (by rw [Ddt ho,hp,hop,hq];rfl))
   | false =>
    rw [hM.1];exact B4i [c.av,f.av] (.bool (f_wmay_0 (wlk c f) c)) ((show B0c.2 [c.av,f.av]=some ((decide (c.ob=4)&&(posH f&&(decide (Ag c (opF 12 f)=0)&&!(noPc f.kind f.pc)))),.bool (f_wmay_0 (wlk c f) c)) from by kernel_rfl).trans (by rw [Ddt ho,hp,hop,hq];rfl))
theorem Af9 {c:Conf} {f:Frm} {v:AV} (h:Jq c f=v):aP c f=.agg [.int .u8 (AV.toI (AV.ix (AV.ix v 0) 0)),.int .i64 (AV.toI (AV.ix (AV.ix v 0) 1)),.int .u64 (AV.toI (AV.ix (AV.ix v 0) 2)),.int .u64 (AV.toI (AV.ix (AV.ix v 0) 3)),.int .u64 (AV.toI (AV.ix (AV.ix v 0) 4)),.int .i64 (AV.toI (AV.ix (AV.ix v 0) 5)),.int .u32 (AV.toI (AV.ix (AV.ix v 0) 6))]:=by
 subst h
 rfl
def Pm:Sum:=(87,on2 Dp Ji (fun c f=>(decide (Az c=0)&&posH f)&&decide (Fj c f=0)) (fun c f=>aP c f))
theorem Bgp:Bc Tryz.prog (Cb gs) Pm:=Cm fun c f h=>by
 have he:=Aj (Aj h)
 have hp:=Af (Aj h)
 have h7:=Af h
 rcases A8n he with ho|ho|ho|ho
 ·have hm:Df ⟨f,c⟩=true:=by
   rw [<- rN_e he ho hp,<- h7];unfold Fj;rw [Asn he ho hp];rfl
  rw [show aP c f=aT c f from Af9 (Asn he ho hp)]
  exact Bm6 [c.av,f.av] (aT c f) ((show A6l.2 [c.av,f.av]=some ((decide (Az c=0)&&(decide (c.ob=1)&&(posH f&&Df ⟨f,c⟩))),aT c f) from by kernel_rfl).trans (by rw [he,Ddt ho,hp,hm];rfl))
 ·have hm:Ce (mkr c f)=true:=by
   rw [<- (A78 he ho hp).1,<- h7];unfold Fj;rw [Aso he ho hp];rfl
  rw [show aP c f=aA c f from (Af9 ((Aso he ho hp).trans ((A78 he ho hp).2 hm)))]
  exact Bo0 [c.av,f.av] (aA c f) ((show A8l.2 [c.av,f.av]=some (((decide (Az c=0)&&(decide (c.ob=2)&&posH f))&&Ce (mkr c f)),aA c f) from by kernel_rfl).trans (by rw [he,Ddt ho,hp,hm];rfl))
 ·have hm:F9 c f=true:=by
   rw [<- gN_e he ho hp,<- h7];unfold Fj;rw [Asp he ho hp];rfl
  rw [show aP c f=aG c f from Af9 (Asp he ho hp)]
  exact Bmu [c.av,f.av] (aG c f) ((show A53.2 [c.av,f.av]=some ((decide (Az c=0)&&(decide (c.ob=3)&&(posH f&&F9 c f))),aG c f) from by kernel_rfl).trans (by rw [he,Ddt ho,hp,hm];rfl))
 ·have hm:f_wmay_0 (A7 c f (mny f)) c=true:=by
   rw [<- bN_e he ho hp,<- h7];unfold Fj;rw [Asq he ho hp];rfl
  rw [show aP c f=aW c f (mny f) from (Af9 (Asq he ho hp)).trans (A8o he ho hp hm)]
  have hop:decide (Ag c (opF 12 f)=0)=true:=by
   cases hop:decide (Ag c (opF 12 f)=0) with
   | true=>rfl
   | false=>exact absurd (hm.symm.trans (Ax2 hop)) (by decide)
  have hM:=Ax3 ho hp hop;rw [hM.1] at hm ⊢;cases hq:Bqz f.pc with
  | true=>exact B12 [c.av,f.av] (aW c f (lng f)) ((show Bx8.2 [c.av,f.av]=some ((decide (c.ob=4)&&(posH f&&(decide (1<=lng f/\lng f<=3)&&(f_wmay_0 (wlk c f) c&&Bqz f.pc)))),aW c f (lng f)) from by kernel_rfl).trans (by rw [Ddt ho,hp,Ddt (show 1<=lng f/\lng f<=3 by omega),hm,hq];rfl))
  | false =>
   rcases hM.2 with hl|hl|hl
   ·rw [hl] at hm ⊢
    exact Bdp [c.av,f.av] (aW c f 1) ((show Axn.2 [c.av,f.av]=some ((decide (c.ob=4)&&(posH f&&(decide (lng f=1)&&(f_wmay_0 (A7 c f 1) c&&!(Bqz f.pc))))),aW c f 1) from by kernel_rfl).trans (by rw [Ddt ho,hp,Ddt hl,hm,hq];rfl))
   ·rw [hl] at hm ⊢
    exact Bdq [c.av,f.av] (aW c f 2) ((show Axo.2 [c.av,f.av]=some ((decide (c.ob=4)&&(posH f&&(decide (lng f=2)&&(f_wmay_0 (A7 c f 2) c&&!(Bqz f.pc))))),aW c f 2) from by kernel_rfl).trans (by rw [Ddt ho,hp,Ddt hl,hm,hq];rfl))
   ·rw [hl] at hm ⊢
    exact Bdr [c.av,f.av] (aW c f 3) ((show Axp.2 [c.av,f.av]=some ((decide (c.ob=4)&&(posH f&&(decide (lng f=3)&&(f_wmay_0 (A7 c f 3) c&&!(Bqz f.pc))))),aW c f 3) from by kernel_rfl).trans (by rw [Ddt ho,hp,Ddt hl,hm,hq];rfl))
end
end Go.Bas.BasZR16b
end
section
namespace Go.Bas.BasZR17
open Go.RowKit Go.Proofs BasZOk BasZRank BasZR14 BasZGate BasZTrie BasZOk3 BasZR12 BasZBranch BasZOk4 BasZR15 BasZR15e
theorem brQ {P:Int->Prop} {b:Bool} {x y:Tr} {j:Nat} (hx:b=true->P (x.int j)) (hy:b=false->P (y.int j)):P ((Tr.br b x y).int j):=by
 cases b
 ·exact hy rfl
 ·exact hx rfl
theorem Aik {c:Conf} (h:c.ob=3\/c.ob=4):f_size_0 c=c.cap:=by
 unfold f_size_0 Ir;try simp only [Bu7]
 rw [Ddf (show ¬ c.ob=1 by omega),Ddf (show ¬ c.ob=2 by omega)]
 rfl
theorem at_3 {c:Conf} {f:Frm} (he:decide (Az c=0)=true) (ho:c.ob=3) (hp:posH f=true) (hm:F9 c f=true):0<=Ii c f/\Ii c f<f_size_0 c:=by
 have hx:=Ik.1 hp
 have ha:=Bcb hm
 have hc:=Ahw (Og (Odt he))
 rw [Aik (.inl ho)]
 rw [Du hx.2.2.1.1 hx.2.2.1.2,Du hx.2.2.2.1.1 hx.2.2.2.1.2] at ha
 have ei:=Du hx.2.2.1.1 hx.2.2.1.2
 have ej:=Du hx.2.2.2.1.1 hx.2.2.2.1.2
 have z:0<=(0:Int)/\(0:Int)<c.cap:=⟨Int.le_refl 0,by omega⟩
 have qi:0<=IntKind.wrap .i64 f.i/\IntKind.wrap .i64 f.i<c.cap:=by rw [ei];exact ⟨hx.2.2.1.1,ha.1⟩
 have qj:0<=IntKind.wrap .i64 f.j/\IntKind.wrap .i64 f.j<c.cap:=by rw [ej];exact ⟨hx.2.2.2.1.1,ha.2⟩
 unfold Ii G5
 repeat' (first|exact z|exact qi|exact qj|refine brQ (P:=fun n=>0<=n/\n<c.cap) (fun _=>?_) (fun _=>?_))
theorem at_4 {c:Conf} {f:Frm} (he:decide (Az c=0)=true) (ho:c.ob=4) (hp:posH f=true) (hm:f_wmay_0 (A7 c f (mny f)) c=true):0<=Jf (A7 c f (mny f))/\Jf (A7 c f (mny f))<f_size_0 c:=by
 rw [Aik (.inr ho)]
 unfold f_wmay_0 Cj at hm;try simp only [Br3,Bvw,Bw4] at hm
 revert hm
 repeat' (first|(intro h;cases h;done)|refine prx (fun h=>?_) (fun h=>?_))
 all_goals
  intro hl;have hl:=Odt (lf hl);have h:=Odt (show decide (Jf (A7 c f (mny f))>=0)=true by assumption)
  exact ⟨h,hl⟩
theorem A9e {c:Conf} (he:decide (Az c=0)=true) (ho:c.ob=1):f_size_0 c=2 ^ (c.bits.toNat+1):=by
 have hb:=Af7 (Odt he) ho
 unfold f_size_0 Ir;try simp only [Bu7]
 rw [Ddt ho,Ddf (show ¬ c.bits<0 by omega)]
 show Gz .i64 2 c.bits=_
 rcases (show c.bits=1\/c.bits=2\/c.bits=3\/c.bits=4\/c.bits=5\/c.bits=6 by omega) with e|e|e|e|e|e<;>rw [e]<;>rfl
theorem Bpk {a b:Int} (h0:0<=a) (h:a<=b) (h6:b<=6):(2:Int) ^ (a.toNat+1)<=2 ^ (b.toNat+1):=by
 have e:∀ n:Nat,(2:Int) ^ n=((2 ^ n:Nat):Int):=fun n=>by simp
 rw [e,e]
 have:=Nat.pow_le_pow_right (n:=2) (by decide) (show a.toNat+1<=b.toNat+1 by omega)
 omega
theorem Bpl {f:Frm} {c:Conf} {b:Int} (hb:0<=b) (hh:0<=IntKind.wrap .i64 (b-IntKind.wrap .i64 f.h)):Di ⟨f,c⟩ b=ishr .i64 (ior .i64 (Gz .i64 1 b) (IntKind.wrap .i64 f.a)) (IntKind.wrap .i64 (b-IntKind.wrap .i64 f.h)):=by
 unfold Di Aho
 rw [Ddf (show ¬ b<0 by omega),Ddf (show ¬ IntKind.wrap .i64 (b-IntKind.wrap .i64 f.h)<0 by omega)]
 rfl
theorem at_1 {c:Conf} {f:Frm} (he:decide (Az c=0)=true) (ho:c.ob=1) (hp:posH f=true) (hm:Df ⟨f,c⟩=true):(0<=Di ⟨f,c⟩ (bitsB c f)/\Di ⟨f,c⟩ (bitsB c f)<f_size_0 c)/\(¬ f.kind=3->0<=D9 ⟨f,c⟩/\D9 ⟨f,c⟩<f_size_0 c):=by
 obtain ⟨k3,b0,b1,b2,b3,ha⟩:=A6a he ho hp hm
 have hn:=F5 hp
 have hN:=Aw6 b0 (by omega) hn.2.2.2.1 b3 hn.2.1.1 ha
 have hl:=Bpk b0 b1 b2
 have ew:IntKind.wrap .i64 f.h=f.h:=i64_mid (by omega) (by omega)
 have hh:0<=IntKind.wrap .i64 (bitsB c f-IntKind.wrap .i64 f.h):=by
  rw [ew,i64_mid (n:=bitsB c f-f.h) (by omega) (by omega)]
  omega
 rw [A9e he ho,Bpl b0 hh]
 refine ⟨⟨hN.2.2.1.1,Int.lt_of_lt_of_le hN.2.2.1.2 hl⟩,fun kk=>?_⟩
 have eb:bitsB c f=f.b:=by
  unfold bitsB;rw [Ddf kk];exact i64_mid (by omega) (by omega)
 have e2:D9 ⟨f,c⟩=ior .i64 (Gz .i64 1 (bitsB c f)) (IntKind.wrap .i64 f.a):=by
  rw [eb];unfold D9 Vx;rw [Ddf (show ¬ f.b<0 by omega)]
  rfl
 rw [e2]
 exact ⟨hN.2.2.2.1,Int.lt_of_lt_of_le hN.2.2.2.2 hl⟩
theorem at_4w {c:Conf} {f:Frm} (he:decide (Az c=0)=true) (ho:c.ob=4) (hp:posH f=true) (hm:f_wmay_0 (A7 c f (mny f)) c=true):0<=Fa (A7 c f (mny f))/\Fa (A7 c f (mny f))<f_size_0 c:=by
 have q:=at_4 he ho hp hm
 have hc:=Ahw (Og (Odt he))
 have z:0<=(0:Int)/\(0:Int)<f_size_0 c:=⟨Int.le_refl 0,by rw [Aik (.inr ho)];omega⟩
 generalize f_size_0 c=S at q z ⊢
 unfold Fa Dy;try simp only [Bu8]
 repeat' (first|refine brQ (P:=fun n=>0<=n/\n<S) (fun _=>?_) (fun _=>?_)|exact z|exact q)
end Go.Bas.BasZR17
end
section
namespace Go.Bas.BasZR17b
open Go.RowKit Go.Proofs BasZOk BasZRank BasZRank3 BasZLev BasZR3 BasZR14 BasZGate BasZTrie BasZOk3 BasZR12 BasZBranch BasZR15 BasZR15e BasZR16 BasZR16b BasZTreB BasZTre BasZProg BasZR4 BasZR17 BasZR17x
theorem at_1t {c:Conf} {f:Frm} (he:decide (Az c=0)=true) (ho:c.ob=1) (hp:posH f=true) (hm:Df ⟨f,c⟩=true):0<=Ij c f/\Ij c f<f_size_0 c:=by
 have q:=at_1 he ho hp hm
 have hb:=Af7 (Odt he) ho
 have s2:2<f_size_0 c:=by
  rw [A9e he ho]
  rcases (show c.bits=1\/c.bits=2\/c.bits=3\/c.bits=4\/c.bits=5\/c.bits=6 by omega) with e|e|e|e|e|e<;>rw [e]<;>decide
 have qa:f.kind=3->(0<=Di ⟨f,c⟩ c.bits/\Di ⟨f,c⟩ c.bits<f_size_0 c):=fun k=>by
  have h:=q.1;unfold bitsB at h;rw [Ddt k] at h;exact h
 have qb:¬ f.kind=3->(0<=Di ⟨f,c⟩ (IntKind.wrap .i64 f.b)/\Di ⟨f,c⟩ (IntKind.wrap .i64 f.b)<f_size_0 c):=fun k=>by
  have h:=q.1;unfold bitsB at h;rw [Ddf k] at h;exact h
 have qn:=q.2
 generalize f_size_0 c=S at s2 qa qb qn ⊢
 have z:0<=(0:Int)/\(0:Int)<S:=⟨Int.le_refl 0,by omega⟩
 have z1:0<=(1:Int)/\(1:Int)<S:=⟨by decide,by omega⟩
 clear q he hm hp ho hb s2
 unfold Ij Eh;try simp only [Bt7,Bt8,Bt9,Bw1,Bw2,Br1,Bsq,Bw3]
 repeat' (refine brQ (P:=fun n=>0<=n/\n<S) (fun _=>?_) (fun _=>?_))
 all_goals first
  | exact z
  | exact z1
  | exact qa (Odt (by assumption))
  | exact qb (fun k=>by simp [k] at *)
  | exact qn (fun k=>by simp [k] at *)
theorem Bpv {c:Conf} {f:Frm} (he:decide (Az c=0)=true) (ho:decide (c.ob=2)=true) (hp:posH f=true) (hm:Ce (mkr c f)=true):0<=Bj (mkr c f):=by
 have hv:Ey (mkr c f).us (mkr c f).m=true:=H6 (Ky he ho)
 have q:=H7.1 (Dn hp)
 have h2:=Bpu (mkr c f) (by unfold Ie;simp only [Bae,Dte];exact ⟨q.1,q.2.1,q.2.2.1⟩) (by unfold Ie;simp only [Bae,Dte];exact ⟨q.1,q.2.1,Int.le_refl 0⟩) (Ddt q.2.2.2.1) hv
 have:=A5k (Af (I4 h2).1) hm
 exact Odt (Bo this).1
theorem A2x {c:Conf} (ho:c.ob=2) (hl:levIs c.cap c.node 1=true):f_size_0 c=IntKind.wrap .i64 (1+Aa c.cap c.node 0):=by
 obtain ⟨a0,a1,b0,b1⟩:=Gg (Bi hl)
 have hU:∀ k:Int,(decide (0<=k)&&decide (k<=4))=true->Dq c.cap c.node k=true:=fun k hk=>by
  simp only [Bae,Dte] at hk;exact E8 ⟨b0,b1⟩ hk
 have hu:=H5 hl
 unfold f_size_0 Ir;try simp only [Bu7]
 rw [Ddf (show ¬ c.ob=1 by omega),Ddt ho,Bi hl,hU 0 rfl,hu.1 rfl]
 rfl
theorem A2y {c:Conf} (ho:c.ob=2) (hl:levIs c.cap c.node 2=true):f_size_0 c=IntKind.wrap .i64 (IntKind.wrap .i64 (1+Aa c.cap c.node 0)+Aa c.cap c.node 1):=by
 obtain ⟨a0,a1,b0,b1⟩:=Gg (Bi hl)
 have hU:∀ k:Int,(decide (0<=k)&&decide (k<=4))=true->Dq c.cap c.node k=true:=fun k hk=>by
  simp only [Bae,Dte] at hk;exact E8 ⟨b0,b1⟩ hk
 have hu:=H5 hl
 unfold f_size_0 Ir;try simp only [Bu7]
 rw [Ddf (show ¬ c.ob=1 by omega),Ddt ho,Bi hl,hU 0 rfl,hu.2.1 (by decide),hU 1 rfl,hu.2.2.1 rfl]
 rfl
theorem A2z {c:Conf} (ho:c.ob=2) (hl:levIs c.cap c.node 3=true):f_size_0 c=IntKind.wrap .i64 (IntKind.wrap .i64 (IntKind.wrap .i64 (1+Aa c.cap c.node 0)+Aa c.cap c.node 1)+Aa c.cap c.node 2):=by
 obtain ⟨a0,a1,b0,b1⟩:=Gg (Bi hl)
 have hU:∀ k:Int,(decide (0<=k)&&decide (k<=4))=true->Dq c.cap c.node k=true:=fun k hk=>by
  simp only [Bae,Dte] at hk;exact E8 ⟨b0,b1⟩ hk
 have hu:=H5 hl
 unfold f_size_0 Ir;try simp only [Bu7]
 rw [Ddf (show ¬ c.ob=1 by omega),Ddt ho,Bi hl,hU 0 rfl,hu.2.1 (by decide),hU 1 rfl,hu.2.2.2.1 (by decide),hU 2 rfl,hu.2.2.2.2.1 rfl]
 rfl
theorem A20 {c:Conf} (ho:c.ob=2) (hl:levIs c.cap c.node 4=true):f_size_0 c=IntKind.wrap .i64 (IntKind.wrap .i64 (IntKind.wrap .i64 (IntKind.wrap .i64 (1+Aa c.cap c.node 0)+Aa c.cap c.node 1)+Aa c.cap c.node 2)+Aa c.cap c.node 3):=by
 obtain ⟨a0,a1,b0,b1⟩:=Gg (Bi hl)
 have hU:∀ k:Int,(decide (0<=k)&&decide (k<=4))=true->Dq c.cap c.node k=true:=fun k hk=>by
  simp only [Bae,Dte] at hk;exact E8 ⟨b0,b1⟩ hk
 have hu:=H5 hl
 unfold f_size_0 Ir;try simp only [Bu7]
 rw [Ddf (show ¬ c.ob=1 by omega),Ddt ho,Bi hl,hU 0 rfl,hu.2.1 (by decide),hU 1 rfl,hu.2.2.2.1 (by decide),hU 2 rfl,hu.2.2.2.2.2.1 (by decide),hU 3 rfl,hu.2.2.2.2.2.2.1 rfl]
 rfl
theorem A21 {c:Conf} (ho:c.ob=2) (hl:levIs c.cap c.node 5=true):f_size_0 c=IntKind.wrap .i64 (IntKind.wrap .i64 (IntKind.wrap .i64 (IntKind.wrap .i64 (IntKind.wrap .i64 (1+Aa c.cap c.node 0)+Aa c.cap c.node 1)+Aa c.cap c.node 2)+Aa c.cap c.node 3)+Aa c.cap c.node 4):=by
 obtain ⟨a0,a1,b0,b1⟩:=Gg (Bi hl)
 have hU:∀ k:Int,(decide (0<=k)&&decide (k<=4))=true->Dq c.cap c.node k=true:=fun k hk=>by
  simp only [Bae,Dte] at hk;exact E8 ⟨b0,b1⟩ hk
 have hu:=H5 hl
 unfold f_size_0 Ir;try simp only [Bu7]
 rw [Ddf (show ¬ c.ob=1 by omega),Ddt ho,Bi hl,hU 0 rfl,hu.2.1 (by decide),hU 1 rfl,hu.2.2.2.1 (by decide),hU 2 rfl,hu.2.2.2.2.2.1 (by decide),hU 3 rfl,hu.2.2.2.2.2.2.2 (by decide),hU 4 rfl]
 cases decide (Aa c.cap c.node 4<=c.node)<;>rfl
theorem Lt {c:Conf} (hw:Bf c.cap 1 c.node=true) {k:Int} (hk:(decide (0<=k)&&decide (k<=4))=true):0<=Aa c.cap c.node k/\Aa c.cap c.node k<=32:=by
 obtain ⟨a0,a1,b0,b1⟩:=Gg hw
 simp only [Bae,Dte] at hk
 have h:=Al0 (Hr.2 ⟨⟨by omega,a1⟩,⟨b0,b1⟩,hk⟩)
 exact ⟨h.2.1,by omega⟩
theorem Aio {n w:Int} {L:Nat} (hl:levIs n w L=true) (h1:1<=L) (h5:L<=5):lvN n w=L:=Zi h1 h5 (Bi hl) hl
theorem Acx {us:List AV} {m:Nat} {S:Int} (hS:0<S) (hm:m<=5) (hb:∀ k:Nat,k<m->k<5->0<=A7o us k/\A7o us k+(lget us k).toI<=S/\A7o us k<=2000/\(lget us k).toI<=200) (hneg:0<m) (q i:Int):decide (offT us m q i<S)=true:=by
 refine Ddt ?_
 unfold offT Et;try simp only [Js]
 cases h1:decide (q>=Int.ofNat m) with
 | true=>exact (show (-1:Int)<S by omega)
 | false =>
  cases h2:decide (i<0) with
  | true=>exact (show (-1:Int)<S by omega)
  | false =>
   cases h3:decide (i>=(lget us q.toNat).toI) with
   | true=>exact (show (-1:Int)<S by omega)
   | false =>
    have h1:=Odf h1;have h2:=Odf h2;have h3:=Odf h3;have e:(Int.ofNat m:Int)=(m:Int):=rfl;rw [e] at h1;have hk:=hb q.toNat (by omega) (by omega)
    show IntKind.wrap .i64 (A7o us q.toNat+i)<S;rw [i64_mid (by omega) (by omega)]
    omega
theorem Ayo {c:Conf} (ho:c.ob=2) (hl:levIs c.cap c.node 1=true):0<f_size_0 c/\∀ q i:Int,decide (offT [.int .i64 (Aa c.cap c.node 0)] 1 q i<f_size_0 c)=true:=by
 have hs:=A2x ho hl
 have hw:=Bi hl
 have k0:=Lt hw (k:=0) rfl
 have e1:IntKind.wrap .i64 (1+Aa c.cap c.node 0)=1+Aa c.cap c.node 0:=i64_mid (by omega) (by omega)
 rw [e1] at hs
 refine ⟨by omega,fun q i=>Acx (by omega) (by decide) (fun k hk _=>?_) (by decide) q i⟩
 rcases (show k=0 by omega) with rfl
 ·show 0<=(1:Int)/\(1:Int)+Aa c.cap c.node 0<=f_size_0 c/\(1:Int)<=2000/\Aa c.cap c.node 0<=200
  omega
theorem Ayp {c:Conf} (ho:c.ob=2) (hl:levIs c.cap c.node 2=true):0<f_size_0 c/\∀ q i:Int,decide (offT [.int .i64 (Aa c.cap c.node 0),.int .i64 (Aa c.cap c.node 1)] 2 q i<f_size_0 c)=true:=by
 have hs:=A2y ho hl
 have hw:=Bi hl
 have k0:=Lt hw (k:=0) rfl
 have k1:=Lt hw (k:=1) rfl
 have e1:IntKind.wrap .i64 (1+Aa c.cap c.node 0)=1+Aa c.cap c.node 0:=i64_mid (by omega) (by omega)
 have e2:IntKind.wrap .i64 (IntKind.wrap .i64 (1+Aa c.cap c.node 0)+Aa c.cap c.node 1)=1+Aa c.cap c.node 0+Aa c.cap c.node 1:=by
  rw [e1];exact i64_mid (by omega) (by omega)
 rw [e2] at hs
 refine ⟨by omega,fun q i=>Acx (by omega) (by decide) (fun k hk _=>?_) (by decide) q i⟩
 rcases (show k=0\/k=1 by omega) with rfl|rfl
 ·show 0<=(1:Int)/\(1:Int)+Aa c.cap c.node 0<=f_size_0 c/\(1:Int)<=2000/\Aa c.cap c.node 0<=200
  omega
 ·show 0<=(IntKind.wrap .i64 (1+Aa c.cap c.node 0))/\(IntKind.wrap .i64 (1+Aa c.cap c.node 0))+Aa c.cap c.node 1<=f_size_0 c/\(IntKind.wrap .i64 (1+Aa c.cap c.node 0))<=2000/\Aa c.cap c.node 1<=200
  rw [e1];omega
theorem Ayq {c:Conf} (ho:c.ob=2) (hl:levIs c.cap c.node 3=true):0<f_size_0 c/\∀ q i:Int,decide (offT [.int .i64 (Aa c.cap c.node 0),.int .i64 (Aa c.cap c.node 1),.int .i64 (Aa c.cap c.node 2)] 3 q i<f_size_0 c)=true:=by
 have hs:=A2z ho hl
 have hw:=Bi hl
 have k0:=Lt hw (k:=0) rfl
 have k1:=Lt hw (k:=1) rfl
 have k2:=Lt hw (k:=2) rfl
 have e1:IntKind.wrap .i64 (1+Aa c.cap c.node 0)=1+Aa c.cap c.node 0:=i64_mid (by omega) (by omega)
 have e2:IntKind.wrap .i64 (IntKind.wrap .i64 (1+Aa c.cap c.node 0)+Aa c.cap c.node 1)=1+Aa c.cap c.node 0+Aa c.cap c.node 1:=by
  rw [e1];exact i64_mid (by omega) (by omega)
 have e3:IntKind.wrap .i64 (IntKind.wrap .i64 (IntKind.wrap .i64 (1+Aa c.cap c.node 0)+Aa c.cap c.node 1)+Aa c.cap c.node 2)=1+Aa c.cap c.node 0+Aa c.cap c.node 1+Aa c.cap c.node 2:=by
  rw [e2];exact i64_mid (by omega) (by omega)
 rw [e3] at hs
 refine ⟨by omega,fun q i=>Acx (by omega) (by decide) (fun k hk _=>?_) (by decide) q i⟩
 rcases (show k=0\/k=1\/k=2 by omega) with rfl|rfl|rfl
 ·show 0<=(1:Int)/\(1:Int)+Aa c.cap c.node 0<=f_size_0 c/\(1:Int)<=2000/\Aa c.cap c.node 0<=200
  omega
 ·show 0<=(IntKind.wrap .i64 (1+Aa c.cap c.node 0))/\(IntKind.wrap .i64 (1+Aa c.cap c.node 0))+Aa c.cap c.node 1<=f_size_0 c/\(IntKind.wrap .i64 (1+Aa c.cap c.node 0))<=2000/\Aa c.cap c.node 1<=200
  rw [e1];omega
 ·show 0<=(IntKind.wrap .i64 (IntKind.wrap .i64 (1+Aa c.cap c.node 0)+Aa c.cap c.node 1))/\(IntKind.wrap .i64 (IntKind.wrap .i64 (1+Aa c.cap c.node 0)+Aa c.cap c.node 1))+Aa c.cap c.node 2<=f_size_0 c/\(IntKind.wrap .i64 (IntKind.wrap .i64 (1+Aa c.cap c.node 0)+Aa c.cap c.node 1))<=2000/\Aa c.cap c.node 2<=200
  rw [e2];omega
theorem Ayr {c:Conf} (ho:c.ob=2) (hl:levIs c.cap c.node 4=true):0<f_size_0 c/\∀ q i:Int,decide (offT [.int .i64 (Aa c.cap c.node 0),.int .i64 (Aa c.cap c.node 1),.int .i64 (Aa c.cap c.node 2),.int .i64 (Aa c.cap c.node 3)] 4 q i<f_size_0 c)=true:=by
 have hs:=A20 ho hl
 have hw:=Bi hl
 have k0:=Lt hw (k:=0) rfl
 have k1:=Lt hw (k:=1) rfl
 have k2:=Lt hw (k:=2) rfl
 have k3:=Lt hw (k:=3) rfl
 have e1:IntKind.wrap .i64 (1+Aa c.cap c.node 0)=1+Aa c.cap c.node 0:=i64_mid (by omega) (by omega)
 have e2:IntKind.wrap .i64 (IntKind.wrap .i64 (1+Aa c.cap c.node 0)+Aa c.cap c.node 1)=1+Aa c.cap c.node 0+Aa c.cap c.node 1:=by
  rw [e1];exact i64_mid (by omega) (by omega)
 have e3:IntKind.wrap .i64 (IntKind.wrap .i64 (IntKind.wrap .i64 (1+Aa c.cap c.node 0)+Aa c.cap c.node 1)+Aa c.cap c.node 2)=1+Aa c.cap c.node 0+Aa c.cap c.node 1+Aa c.cap c.node 2:=by
  rw [e2];exact i64_mid (by omega) (by omega)
 have e4:IntKind.wrap .i64 (IntKind.wrap .i64 (IntKind.wrap .i64 (IntKind.wrap .i64 (1+Aa c.cap c.node 0)+Aa c.cap c.node 1)+Aa c.cap c.node 2)+Aa c.cap c.node 3)=1+Aa c.cap c.node 0+Aa c.cap c.node 1+Aa c.cap c.node 2+Aa c.cap c.node 3:=by
  rw [e3];exact i64_mid (by omega) (by omega)
 rw [e4] at hs
 refine ⟨by omega,fun q i=>Acx (by omega) (by decide) (fun k hk _=>?_) (by decide) q i⟩
 rcases (show k=0\/k=1\/k=2\/k=3 by omega) with rfl|rfl|rfl|rfl
 ·show 0<=(1:Int)/\(1:Int)+Aa c.cap c.node 0<=f_size_0 c/\(1:Int)<=2000/\Aa c.cap c.node 0<=200
  omega
 ·show 0<=(IntKind.wrap .i64 (1+Aa c.cap c.node 0))/\(IntKind.wrap .i64 (1+Aa c.cap c.node 0))+Aa c.cap c.node 1<=f_size_0 c/\(IntKind.wrap .i64 (1+Aa c.cap c.node 0))<=2000/\Aa c.cap c.node 1<=200
  rw [e1];omega
 ·show 0<=(IntKind.wrap .i64 (IntKind.wrap .i64 (1+Aa c.cap c.node 0)+Aa c.cap c.node 1))/\(IntKind.wrap .i64 (IntKind.wrap .i64 (1+Aa c.cap c.node 0)+Aa c.cap c.node 1))+Aa c.cap c.node 2<=f_size_0 c/\(IntKind.wrap .i64 (IntKind.wrap .i64 (1+Aa c.cap c.node 0)+Aa c.cap c.node 1))<=2000/\Aa c.cap c.node 2<=200
  rw [e2];omega
 ·show 0<=(IntKind.wrap .i64 (IntKind.wrap .i64 (IntKind.wrap .i64 (1+Aa c.cap c.node 0)+Aa c.cap c.node 1)+Aa c.cap c.node 2))/\(IntKind.wrap .i64 (IntKind.wrap .i64 (IntKind.wrap .i64 (1+Aa c.cap c.node 0)+Aa c.cap c.node 1)+Aa c.cap c.node 2))+Aa c.cap c.node 3<=f_size_0 c/\(IntKind.wrap .i64 (IntKind.wrap .i64 (IntKind.wrap .i64 (1+Aa c.cap c.node 0)+Aa c.cap c.node 1)+Aa c.cap c.node 2))<=2000/\Aa c.cap c.node 3<=200
  rw [e3];omega
theorem Ays {c:Conf} (ho:c.ob=2) (hl:levIs c.cap c.node 5=true):0<f_size_0 c/\∀ q i:Int,decide (offT [.int .i64 (Aa c.cap c.node 0),.int .i64 (Aa c.cap c.node 1),.int .i64 (Aa c.cap c.node 2),.int .i64 (Aa c.cap c.node 3),.int .i64 (Aa c.cap c.node 4)] 5 q i<f_size_0 c)=true:=by
 have hs:=A21 ho hl
 have hw:=Bi hl
 have k0:=Lt hw (k:=0) rfl
 have k1:=Lt hw (k:=1) rfl
 have k2:=Lt hw (k:=2) rfl
 have k3:=Lt hw (k:=3) rfl
 have k4:=Lt hw (k:=4) rfl
 have e1:IntKind.wrap .i64 (1+Aa c.cap c.node 0)=1+Aa c.cap c.node 0:=i64_mid (by omega) (by omega)
 have e2:IntKind.wrap .i64 (IntKind.wrap .i64 (1+Aa c.cap c.node 0)+Aa c.cap c.node 1)=1+Aa c.cap c.node 0+Aa c.cap c.node 1:=by
  rw [e1];exact i64_mid (by omega) (by omega)
 have e3:IntKind.wrap .i64 (IntKind.wrap .i64 (IntKind.wrap .i64 (1+Aa c.cap c.node 0)+Aa c.cap c.node 1)+Aa c.cap c.node 2)=1+Aa c.cap c.node 0+Aa c.cap c.node 1+Aa c.cap c.node 2:=by
  rw [e2];exact i64_mid (by omega) (by omega)
 have e4:IntKind.wrap .i64 (IntKind.wrap .i64 (IntKind.wrap .i64 (IntKind.wrap .i64 (1+Aa c.cap c.node 0)+Aa c.cap c.node 1)+Aa c.cap c.node 2)+Aa c.cap c.node 3)=1+Aa c.cap c.node 0+Aa c.cap c.node 1+Aa c.cap c.node 2+Aa c.cap c.node 3:=by
  rw [e3];exact i64_mid (by omega) (by omega)
 have e5:IntKind.wrap .i64 (IntKind.wrap .i64 (IntKind.wrap .i64 (IntKind.wrap .i64 (IntKind.wrap .i64 (1+Aa c.cap c.node 0)+Aa c.cap c.node 1)+Aa c.cap c.node 2)+Aa c.cap c.node 3)+Aa c.cap c.node 4)=1+Aa c.cap c.node 0+Aa c.cap c.node 1+Aa c.cap c.node 2+Aa c.cap c.node 3+Aa c.cap c.node 4:=by
  rw [e4];exact i64_mid (by omega) (by omega)
 rw [e5] at hs
 refine ⟨by omega,fun q i=>Acx (by omega) (by decide) (fun k hk _=>?_) (by decide) q i⟩
 rcases (show k=0\/k=1\/k=2\/k=3\/k=4 by omega) with rfl|rfl|rfl|rfl|rfl
 ·show 0<=(1:Int)/\(1:Int)+Aa c.cap c.node 0<=f_size_0 c/\(1:Int)<=2000/\Aa c.cap c.node 0<=200
  omega
 ·show 0<=(IntKind.wrap .i64 (1+Aa c.cap c.node 0))/\(IntKind.wrap .i64 (1+Aa c.cap c.node 0))+Aa c.cap c.node 1<=f_size_0 c/\(IntKind.wrap .i64 (1+Aa c.cap c.node 0))<=2000/\Aa c.cap c.node 1<=200
  rw [e1];omega
 ·show 0<=(IntKind.wrap .i64 (IntKind.wrap .i64 (1+Aa c.cap c.node 0)+Aa c.cap c.node 1))/\(IntKind.wrap .i64 (IntKind.wrap .i64 (1+Aa c.cap c.node 0)+Aa c.cap c.node 1))+Aa c.cap c.node 2<=f_size_0 c/\(IntKind.wrap .i64 (IntKind.wrap .i64 (1+Aa c.cap c.node 0)+Aa c.cap c.node 1))<=2000/\Aa c.cap c.node 2<=200
  rw [e2];omega
 ·show 0<=(IntKind.wrap .i64 (IntKind.wrap .i64 (IntKind.wrap .i64 (1+Aa c.cap c.node 0)+Aa c.cap c.node 1)+Aa c.cap c.node 2))/\(IntKind.wrap .i64 (IntKind.wrap .i64 (IntKind.wrap .i64 (1+Aa c.cap c.node 0)+Aa c.cap c.node 1)+Aa c.cap c.node 2))+Aa c.cap c.node 3<=f_size_0 c/\(IntKind.wrap .i64 (IntKind.wrap .i64 (IntKind.wrap .i64 (1+Aa c.cap c.node 0)+Aa c.cap c.node 1)+Aa c.cap c.node 2))<=2000/\Aa c.cap c.node 3<=200
  rw [e3];omega
 ·show 0<=(IntKind.wrap .i64 (IntKind.wrap .i64 (IntKind.wrap .i64 (IntKind.wrap .i64 (1+Aa c.cap c.node 0)+Aa c.cap c.node 1)+Aa c.cap c.node 2)+Aa c.cap c.node 3))/\(IntKind.wrap .i64 (IntKind.wrap .i64 (IntKind.wrap .i64 (IntKind.wrap .i64 (1+Aa c.cap c.node 0)+Aa c.cap c.node 1)+Aa c.cap c.node 2)+Aa c.cap c.node 3))+Aa c.cap c.node 4<=f_size_0 c/\(IntKind.wrap .i64 (IntKind.wrap .i64 (IntKind.wrap .i64 (IntKind.wrap .i64 (1+Aa c.cap c.node 0)+Aa c.cap c.node 1)+Aa c.cap c.node 2)+Aa c.cap c.node 3))<=2000/\Aa c.cap c.node 4<=200
  rw [e4];omega
theorem Bpw {c:Conf} {f:Frm} (he:decide (Az c=0)=true) (ho:c.ob=2) (h0:0<=f.h) (hh:f.h<(lvN c.cap c.node:Int)):Bj (mkr c f)<f_size_0 c:=by
 have hw:=Ky he (Ddt ho)
 have hS:ltS 0 (f_size_0 c)=true:=by
  refine Ddt ?_
  rcases Ab8 hw with hl|hl|hl|hl|hl
  ·exact (Ayo ho hl).1
  ·exact (Ayp ho hl).1
  ·exact (Ayq ho hl).1
  ·exact (Ayr ho hl).1
  ·exact (Ays ho hl).1
 have hO:∀ q i:Int,ltS (offT (lvL c.cap c.node) (lvN c.cap c.node) q i) (f_size_0 c)=true:=fun q i=>by
  rcases Ab8 hw with hl|hl|hl|hl|hl
  ·have en:lvN c.cap c.node=1:=Aio hl (by decide) (by decide)
   have el:lvL c.cap c.node=[.int .i64 (Aa c.cap c.node 0)]:=by
    unfold lvL;rw [en];rfl
   rw [el,en];exact (Ayo ho hl).2 q i
  ·have en:lvN c.cap c.node=2:=Aio hl (by decide) (by decide)
   have el:lvL c.cap c.node=[.int .i64 (Aa c.cap c.node 0),.int .i64 (Aa c.cap c.node 1)]:=by
    unfold lvL;rw [en];rfl
   rw [el,en];exact (Ayp ho hl).2 q i
  ·have en:lvN c.cap c.node=3:=Aio hl (by decide) (by decide)
   have el:lvL c.cap c.node=[.int .i64 (Aa c.cap c.node 0),.int .i64 (Aa c.cap c.node 1),.int .i64 (Aa c.cap c.node 2)]:=by
    unfold lvL;rw [en];rfl
   rw [el,en];exact (Ayq ho hl).2 q i
  ·have en:lvN c.cap c.node=4:=Aio hl (by decide) (by decide)
   have el:lvL c.cap c.node=[.int .i64 (Aa c.cap c.node 0),.int .i64 (Aa c.cap c.node 1),.int .i64 (Aa c.cap c.node 2),.int .i64 (Aa c.cap c.node 3)]:=by
    unfold lvL;rw [en];rfl
   rw [el,en];exact (Ayr ho hl).2 q i
  ·have en:lvN c.cap c.node=5:=Aio hl (by decide) (by decide)
   have el:lvL c.cap c.node=[.int .i64 (Aa c.cap c.node 0),.int .i64 (Aa c.cap c.node 1),.int .i64 (Aa c.cap c.node 2),.int .i64 (Aa c.cap c.node 3),.int .i64 (Aa c.cap c.node 4)]:=by
    unfold lvL;rw [en];rfl
   rw [el,en];exact (Ays ho hl).2 q i
 exact Odt (Bo (Af (I4 (Bpt (mkr c f) (f_size_0 c) (H6 hw) (Adz h0 hh) (Adz (Int.le_refl 0) (by have:=X3 hw;show (0:Int)<(lvN c.cap c.node:Int);omega)) (A7p h0 hh (X3 hw).2.2) hS hO)).1)).1
theorem Bpx {c:Conf} {f:Frm} (he:decide (Az c=0)=true) (hp:posH f=true) (h7:decide (Fj c f=0)=true):0<=f_pnx_1 c f/\f_pnx_1 c f<f_size_0 c:=by
 rcases A8n he with ho|ho|ho|ho
 ·have hm:Df ⟨f,c⟩=true:=by
   rw [<- rN_e he ho hp,<- h7];unfold Fj;rw [Asn he ho hp];rfl
  have e:f_pnx_1 c f=Ij c f:=by
   unfold f_pnx_1;rw [Asn he ho hp];rfl
  rw [e];exact at_1t he ho hp hm
 ·have hm:Ce (mkr c f)=true:=by
   rw [<- (A78 he ho hp).1,<- h7];unfold Fj;rw [Aso he ho hp];rfl
  have e:f_pnx_1 c f=Bj (mkr c f):=by
   unfold f_pnx_1;rw [(Aso he ho hp).trans ((A78 he ho hp).2 hm)];rfl
  rw [e];have hv:Ey (mkr c f).us (mkr c f).m=true:=H6 (Ky he (Ddt ho));have q:=H7.1 (Dn hp);exact ⟨Bpv he (Ddt ho) hp hm,Bpw he ho q.2.2.2.1 (X7 (mkr c f) (Dn hp) hv hm).1⟩
 ·have hm:F9 c f=true:=by
   rw [<- gN_e he ho hp,<- h7];unfold Fj;rw [Asp he ho hp];rfl
  have e:f_pnx_1 c f=Ii c f:=by
   unfold f_pnx_1;rw [Asp he ho hp];rfl
  rw [e];exact at_3 he ho hp hm
 ·have hm:f_wmay_0 (A7 c f (mny f)) c=true:=by
   rw [<- bN_e he ho hp,<- h7];unfold Fj;rw [Asq he ho hp];rfl
  have e:f_pnx_1 c f=Nu c f:=by
   unfold f_pnx_1;rw [Asq he ho hp];rfl
  have e2:Nu c f=Fa (A7 c f (mny f)):=congrArg (fun v=>AV.toI (AV.ix v 1)) (A8o he ho hp hm)
  rw [e,e2];exact at_4w he ho hp hm
end Go.Bas.BasZR17b
end
