/- R. -/
import Derived.Test.YtjepofcbkojibaaGreatDoorBasW5
import Derived.Test.YtjepofcbkojibaaGreatDoorBasW39
import Derived.Test.YtjepofcbkojibaaGreatDoorBasW40
import Derived.Test.YtjepofcbkojibaaGreatDoorBasW41
import Derived.Test.YtjepofcbkojibaaGreatDoorBasW42
set_option maxRecDepth 100000
set_option maxHeartbeats 4000000
set_option linter.unusedVariables false
set_option linter.unusedSimpArgs false
section
namespace Go.Bas.BasZR26z
noncomputable section
open Go.RowKit Go.Proofs
open BasZBase BasZRef5 BasZRef5d BasZR14 BasZR13c BasZR21 BasZR16b BasZRead BasZAnn BasZR26 BasZR26a BasZR26b BasZR26c BasZR26d
theorem q_rbg (c:Conf) (o:Opr) (hO:prO o=true):(sp_rbg.has (F6 c o)&&(Ai (cfg [Sl,Uy]) 600 10 [c.av,o.av] (fun w_=>(seT [(seG [(seI .u8),(seI .i64),(seI .i64),(seI .u64),(seI .u8),(seI .u32),(seI .u32),(seI .u8),(seI .u8),(seI .u8),(seI .u8),(seI .u8),(seI .u8),(seI .u32),(seI .u32),(seI .i64),(seI .u32),seN,(seI .i64)]),(seI .i64)]).eq (F6 c o) w_) false))=true:=Gx (P:=fun v_=>sp_rbg.has v_&&(Ai (cfg [Sl,Uy]) 600 10 [c.av,o.av] (fun w_=>(seT [(seG [(seI .u8),(seI .i64),(seI .i64),(seI .u64),(seI .u8),(seI .u32),(seI .u32),(seI .u8),(seI .u8),(seI .u8),(seI .u8),(seI .u8),(seI .u8),(seI .u32),(seI .u32),(seI .i64),(seI .u32),seN,(seI .i64)]),(seI .i64)]).eq v_ w_) false)) (X:=F6 c o) (Bpz c o hO) rfl
def A9u:Sum:=(10,on2 Dp Ab2 (fun _ o=>prO o) (fun c o=>Ayv c o))
theorem Bp0:Bc Tryz.prog (Cb gs) A9u:=Cm fun c o hO=>Aq base (Ah Aau (Ah Bie Ap)) (n:=600) fun k hk=>by
 have q:=q_rbg c o hO
 have e:Ayv c o=F6 c o:=(A9p c o).symm.trans (sp_rbg.ok _ (Aj q)).symm
 rw [e] at hk
 exact (Dh (Af q) (fun w_ hw=>((seT [(seG [(seI .u8),(seI .i64),(seI .i64),(seI .u64),(seI .u8),(seI .u32),(seI .u32),(seI .u8),(seI .u8),(seI .u8),(seI .u8),(seI .u8),(seI .u8),(seI .u32),(seI .u32),(seI .i64),(seI .u32),seN,(seI .i64)]),(seI .i64)])).ok _ _ hw) k).trans hk
abbrev Aiz (c:Conf) (t:Int) (r:Rdr) (v_:AV):Bool:=sp_rnx.has v_&&(Ai (cfg [Ia,Uy,Pj,Pm,Qq,Pn,Po]) 600 12 [c.av,.int .i64 t,r.av] (fun w_=>(seT [seG [seI .u8,seI .i64,seI .u64,seI .u64,seI .u64,seI .u64,seI .u64,seI .u64,seI .u64,seI .u64],seI .i64]).eq v_ w_) false)
theorem q_rnx (c:Conf) (t:Int) (r:Rdr) (hp:posH r.f=true):Aiz c t r (out_rnx c t r)=true:=by
 obtain ⟨pc,ver,inst,batch,f,code,v,us,m,given⟩:=r
 by_cases hn:pc<1\/pc>7
 ·have hP:Tr.ev (.br (!decide (Az c=0)) (.leaf [.tup [.agg [.int .u8 0,.int .i64 0,.int .u64 0,.int .u64 0,.int .u64 0,.int .u64 0,.int .u64 0,.int .u64 0,.int .u64 0,.int .u64 0],.int .i64 40]]) (.leaf [.tup [.agg [.int .u8 0,.int .i64 0,.int .u64 0,.int .u64 0,.int .u64 0,.int .u64 0,.int .u64 0,.int .u64 0,.int .u64 0,.int .u64 0],.int .i64 2]])) (fun l_=>(seT [seG [seI .u8,seI .i64,seI .u64,seI .u64,seI .u64,seI .u64,seI .u64,seI .u64,seI .u64,seI .u64],seI .i64]).eq (lget l_ 0) (out_rnx c t (⟨pc,ver,inst,batch,f,code,v,us,m,given⟩:Rdr))) false=true:=Gx (P:=fun v_=>Tr.ev (.br (!decide (Az c=0)) (.leaf [.tup [.agg [.int .u8 0,.int .i64 0,.int .u64 0,.int .u64 0,.int .u64 0,.int .u64 0,.int .u64 0,.int .u64 0,.int .u64 0,.int .u64 0],.int .i64 40]]) (.leaf [.tup [.agg [.int .u8 0,.int .i64 0,.int .u64 0,.int .u64 0,.int .u64 0,.int .u64 0,.int .u64 0,.int .u64 0,.int .u64 0,.int .u64 0],.int .i64 2]])) (fun l_=>(seT [seG [seI .u8,seI .i64,seI .u64,seI .u64,seI .u64,seI .u64,seI .u64,seI .u64,seI .u64,seI .u64],seI .i64]).eq (lget l_ 0) v_) false) (X:=out_rnx c t (⟨pc,ver,inst,batch,f,code,v,us,m,given⟩:Rdr)) (Bh2 c pc t ver inst batch f code v us m given hn hp) rfl
  have hR:Ai (cfg [Ia,Uy,Pj,Pm,Qq,Pn,Po]) 600 12 [c.av,.int .i64 t,(⟨pc,ver,inst,batch,f,code,v,us,m,given⟩:Rdr).av] (fun v_=>Tr.ev (.br (!decide (Az c=0)) (.leaf [.tup [.agg [.int .u8 0,.int .i64 0,.int .u64 0,.int .u64 0,.int .u64 0,.int .u64 0,.int .u64 0,.int .u64 0,.int .u64 0,.int .u64 0],.int .i64 40]]) (.leaf [.tup [.agg [.int .u8 0,.int .i64 0,.int .u64 0,.int .u64 0,.int .u64 0,.int .u64 0,.int .u64 0,.int .u64 0,.int .u64 0,.int .u64 0],.int .i64 2]])) (fun l_=>(seT [seG [seI .u8,seI .i64,seI .u64,seI .u64,seI .u64,seI .u64,seI .u64,seI .u64,seI .u64,seI .u64],seI .i64]).eq (lget l_ 0) v_) false) false=true:=Bh3 c pc t ver inst batch f code v us m given hn hp
  generalize out_rnx c t (⟨pc,ver,inst,batch,f,code,v,us,m,given⟩:Rdr)=X at hP ⊢
  revert hP hR
  cases (!decide (Az c=0)) with
  | true =>
   intro hR hP
   rw [show X=.tup [.agg [.int .u8 0,.int .i64 0,.int .u64 0,.int .u64 0,.int .u64 0,.int .u64 0,.int .u64 0,.int .u64 0,.int .u64 0,.int .u64 0],.int .i64 40] from ((seT [seG [seI .u8,seI .i64,seI .u64,seI .u64,seI .u64,seI .u64,seI .u64,seI .u64,seI .u64,seI .u64],seI .i64])).ok _ _ (show (seT [seG [seI .u8,seI .i64,seI .u64,seI .u64,seI .u64,seI .u64,seI .u64,seI .u64,seI .u64,seI .u64],seI .i64]).eq (.tup [.agg [.int .u8 0,.int .i64 0,.int .u64 0,.int .u64 0,.int .u64 0,.int .u64 0,.int .u64 0,.int .u64 0,.int .u64 0,.int .u64 0],.int .i64 40]) X=true from hP)]
   exact A8 rfl hR
  | false =>
   intro hR hP
   rw [show X=.tup [.agg [.int .u8 0,.int .i64 0,.int .u64 0,.int .u64 0,.int .u64 0,.int .u64 0,.int .u64 0,.int .u64 0,.int .u64 0,.int .u64 0],.int .i64 2] from ((seT [seG [seI .u8,seI .i64,seI .u64,seI .u64,seI .u64,seI .u64,seI .u64,seI .u64,seI .u64,seI .u64],seI .i64])).ok _ _ (show (seT [seG [seI .u8,seI .i64,seI .u64,seI .u64,seI .u64,seI .u64,seI .u64,seI .u64,seI .u64,seI .u64],seI .i64]).eq (.tup [.agg [.int .u8 0,.int .i64 0,.int .u64 0,.int .u64 0,.int .u64 0,.int .u64 0,.int .u64 0,.int .u64 0,.int .u64 0,.int .u64 0],.int .i64 2]) X=true from hP)]
   exact A8 rfl hR
 rcases (show pc=1\/pc=2\/pc=3\/pc=4\/pc=5\/pc=6\/pc=7 by omega) with rfl|rfl|rfl|rfl|rfl|rfl|rfl
 ·exact Gx (P:=Aiz c t ⟨1,ver,inst,batch,f,code,v,us,m,given⟩) (X:=out_rnx c t ⟨1,ver,inst,batch,f,code,v,us,m,given⟩) (Bhv c t ver inst batch f code v us m given hp) rfl
 ·exact Gx (P:=Aiz c t ⟨2,ver,inst,batch,f,code,v,us,m,given⟩) (X:=out_rnx c t ⟨2,ver,inst,batch,f,code,v,us,m,given⟩) (Bhw c t ver inst batch f code v us m given hp) rfl
 ·exact Gx (P:=Aiz c t ⟨3,ver,inst,batch,f,code,v,us,m,given⟩) (X:=out_rnx c t ⟨3,ver,inst,batch,f,code,v,us,m,given⟩) (Bhx c t ver inst batch f code v us m given hp) rfl
 ·exact Gx (P:=Aiz c t ⟨4,ver,inst,batch,f,code,v,us,m,given⟩) (X:=out_rnx c t ⟨4,ver,inst,batch,f,code,v,us,m,given⟩) (Bhy c t ver inst batch f code v us m given hp) rfl
 ·exact Gx (P:=Aiz c t ⟨5,ver,inst,batch,f,code,v,us,m,given⟩) (X:=out_rnx c t ⟨5,ver,inst,batch,f,code,v,us,m,given⟩) (Bhz c t ver inst batch f code v us m given hp) rfl
 ·exact Gx (P:=Aiz c t ⟨6,ver,inst,batch,f,code,v,us,m,given⟩) (X:=out_rnx c t ⟨6,ver,inst,batch,f,code,v,us,m,given⟩) (Bh0 c t ver inst batch f code v us m given hp) rfl
 ·exact Gx (P:=Aiz c t ⟨7,ver,inst,batch,f,code,v,us,m,given⟩) (X:=out_rnx c t ⟨7,ver,inst,batch,f,code,v,us,m,given⟩) (Bh1 c t ver inst batch f code v us m given hp) rfl
def A9v:Sum:=(12,on3 Dp (rI .i64) rRdr (fun _ _ r=>posH r.f) (fun c t r=>Ayu c t r))
theorem Bp1:Bc Tryz.prog (Cb gs) A9v:=Hz fun c t r hp=>Aq base (Ah Afz (Ah Bie (Ah Bgo (Ah Bgp (Ah A9l (Ah Bhm (Ah Bhn Ap))))))) (n:=600) fun k hk=>by
 have q:=q_rnx c t r hp
 have e:Ayu c t r=out_rnx c t r:=(A9n c t r).symm.trans (sp_rnx.ok _ (Aj q)).symm
 rw [e] at hk
 exact (Dh (Af q) (fun w_ hw=>((seT [seG [seI .u8,seI .i64,seI .u64,seI .u64,seI .u64,seI .u64,seI .u64,seI .u64,seI .u64,seI .u64],seI .i64])).ok _ _ hw) k).trans hk
end
end Go.Bas.BasZR26z
end
section
namespace Go.Bas.BasZReads
open Go.RowKit Go.Proofs
open BasZBase BasZOk BasZRef5b BasZRef14 BasZR14 BasZRead BasZAnn BasZR26 BasZR26z
theorem Bh4 {f:Frm} (h0:(Lit.int .u8 f.kind).wf=true) (h1:(Lit.int .u32 f.a).wf=true) (h2:(Lit.int .u32 f.b).wf=true) (h3:(Lit.int .u8 f.pc).wf=true) (h4:(Lit.int .u8 f.i).wf=true) (h5:(Lit.int .u8 f.j).wf=true) (h6:(Lit.int .u8 f.n).wf=true) (h7:(Lit.int .u8 f.p).wf=true) (h8:(Lit.int .u8 f.h).wf=true) (h9:(Lit.int .u32 f.x).wf=true) (h10:(Lit.int .u32 f.y).wf=true):posH f=true:=by
 have a0:=Ob.1 h0
 have a1:=Ob.1 h1
 have a2:=Ob.1 h2
 have a3:=Ob.1 h3
 have a4:=Ob.1 h4
 have a5:=Ob.1 h5
 have a6:=Ob.1 h6
 have a7:=Ob.1 h7
 have a8:=Ob.1 h8
 have a9:=Ob.1 h9
 have b0:=Ob.1 h10
 simp only [IntKind.min,IntKind.max,IntKind.signed,IntKind.bits] at a0 a1 a2 a3 a4 a5 a6 a7 a8 a9 b0
 simp at a0 a1 a2 a3 a4 a5 a6 a7 a8 a9 b0
 refine Ik.2 ⟨?_,by omega,by omega,by omega,by omega,by omega,by omega,by omega⟩
 unfold Eu Ep
 simp only [Bae,Dte]
 omega
theorem Bp2 {o:Opr} (h0:(Lit.int .u8 o.kind).wf=true) (h1:(Lit.int .u32 o.a).wf=true) (h2:(Lit.int .u32 o.b).wf=true):prO o=true:=by
 have a0:=Ob.1 h0
 have a1:=Ob.1 h1
 have a2:=Ob.1 h2
 simp only [IntKind.min,IntKind.max,IntKind.signed,IntKind.bits] at a0 a1 a2
 simp at a0 a1 a2
 unfold prO posR Ie
 simp only [Bae,Dte]
 omega
theorem bif_t {b:Bool} (h:(bif b then true else false)=true):b=true:=by
 cases b
 ·cases h
 ·rfl
def sp_law:Sp:=sB
theorem t_law (c:Conf) (o:Opr) (t:Int) (r:Rdr) (hO:prO o=true) (hp:posH r.f=true):Ai (cfg [Bks,A9u,Bkr,A9v]) 400 3 [c.av,o.av,.int .i64 t,r.av] (fun v=>sp_law.has v&&(bif AV.toB v then true else false)) false=true:=Eq.trans (b:=(br (decide ((Int.ofNat r.9)>100)) true (ba (Ie o) (ba (BasZR26.prO o) (ba (Ep r.5) (ba (BasZR14.posH r.5) (ba (decide ((Apk c o)=(Apk c o))) (ba (decide ((Apl c o)=(Apl c o))) (ba (decide ((Apm c o)=(Apm c o))) (ba (decide ((Apn c o)=(Apn c o))) (ba (decide ((Apo c o)=(Apo c o))&&(decide ((Apq c o)=(Apq c o))&&(decide ((Apr c o)=(Apr c o))&&(decide ((Aps c o)=(Aps c o))&&(decide ((Apt c o)=(Apt c o))&&(decide ((Apu c o)=(Apu c o))&&(decide ((Aiq c o)=(Aiq c o))&&(decide ((Air c o)=(Air c o))&&(decide ((Ais c o)=(Ais c o))&&(decide ((Ait c o)=(Ait c o))&&(decide ((Aiu c o)=(Aiu c o))&&true))))))))))) (ba (decide ((Aiv c o)=(Aiv c o))) (ba (decide ((Aiw c o)=(Aiw c o))) (ba (decide ((Aix c o)=(Aix c o))) (ba (decide ((Aiy c o)=(Aiy c o))) (ba (decide ((Apa c t r)=(Apa c t r))&&(decide ((Apb c t r)=(Apb c t r))&&(decide ((Apc c t r)=(Apc c t r))&&(decide ((Apd c t r)=(Apd c t r))&&(decide ((Ape c t r)=(Ape c t r))&&(decide ((Apf c t r)=(Apf c t r))&&(decide ((Apg c t r)=(Apg c t r))&&(decide ((Aph c t r)=(Aph c t r))&&(decide ((Api c t r)=(Api c t r))&&(decide ((Apj c t r)=(Apj c t r))&&true)))))))))) (ba (decide ((Aip c t r)=(Aip c t r))) true))))))))))))))))) (by kernel_rfl) (bdt (fun h_1=>rfl) (fun h_1=>(band (A9r hO) (band hO (band (Dn hp) (band hp (band (Ddt rfl) (band (Ddt rfl) (band (Ddt rfl) (band (Ddt rfl) (band (A8 (Ddt rfl) (A8 (Ddt rfl) (A8 (Ddt rfl) (A8 (Ddt rfl) (A8 (Ddt rfl) (A8 (Ddt rfl) (A8 (Ddt rfl) (A8 (Ddt rfl) (A8 (Ddt rfl) (A8 (Ddt rfl) (Aw (Ddt rfl)))))))))))) (band (Ddt rfl) (band (Ddt rfl) (band (Ddt rfl) (band (Ddt rfl) (band (A8 (Ddt rfl) (A8 (Ddt rfl) (A8 (Ddt rfl) (A8 (Ddt rfl) (A8 (Ddt rfl) (A8 (Ddt rfl) (A8 (Ddt rfl) (A8 (Ddt rfl) (A8 (Ddt rfl) (Aw (Ddt rfl))))))))))) (band (Ddt rfl) rfl)))))))))))))))))
theorem lawR (c:Conf) (o:Opr) (t:Int) (r:Rdr) (hO:prO o=true) (hp:posH r.f=true):ACalls Tryz.prog (Cb gs) 3 [c.av,o.av,.int .i64 t,r.av] (fun v=>v=.bool true):=by
 have h:=I4 (t_law c o t r hO hp)
 refine Aq base (Ah s_rbg (Ah Bp0 (Ah s_rnx (Ah Bp1 Ap)))) (n:=400) fun k hk=>(h.2 k).trans ?_
 have e:=sp_law.ok _ (Aj h.1)
 rw [e]
 have hb:=bif_t (Af h.1)
 show k (.bool _)=true
 rw [hb]
 exact hk
theorem law (c:Conf) (o:Opr) (t:Int) (r:Rdr) (s:Sd) (c0:(Lit.int .u8 c.ob).wf=true) (c1:(Lit.int .i64 c.ins).wf=true) (c2:(Lit.int .i64 c.thr).wf=true) (c3:(Lit.int .u8 c.kind).wf=true) (c4:(Lit.int .i64 c.str).wf=true) (c5:(Lit.int .i64 c.bits).wf=true) (c6:(Lit.int .i64 c.cap).wf=true) (c7:(Lit.int .i64 c.node).wf=true) (c8:(Lit.int .i64 c.batch).wf=true) (c9:(Lit.int .i64 c.chunk).wf=true) (c10:(Lit.int .u64 c.limit).wf=true) (c11:(Lit.int .u64 c.most).wf=true) (o0:(Lit.int .u8 o.kind).wf=true) (o1:(Lit.int .u32 o.a).wf=true) (o2:(Lit.int .u32 o.b).wf=true) (o3:(Lit.int .u32 o.c).wf=true) (t0:(Lit.int .i64 t).wf=true) (r0:(Lit.int .u8 r.pc).wf=true) (r1:(Lit.int .i64 r.ver).wf=true) (r2:(Lit.int .i64 r.inst).wf=true) (r3:(Lit.int .u64 r.batch).wf=true) (r4:(Lit.int .u8 r.f.kind).wf=true) (r5:(Lit.int .u32 r.f.a).wf=true) (r6:(Lit.int .u32 r.f.b).wf=true) (r7:(Lit.int .u8 r.f.pc).wf=true) (r8:(Lit.int .u8 r.f.i).wf=true) (r9:(Lit.int .u8 r.f.j).wf=true) (r10:(Lit.int .u8 r.f.n).wf=true) (r11:(Lit.int .u8 r.f.p).wf=true) (r12:(Lit.int .u8 r.f.h).wf=true) (r13:(Lit.int .u32 r.f.x).wf=true) (r14:(Lit.int .u32 r.f.y).wf=true) (r15:(Lit.int .i64 r.code).wf=true) (r16:(Lit.int .u32 r.v).wf=true) (r17:Bac [.i .u64,.i .u64] 16 s) (r18:(Lit.int .i64 r.given).wf=true):ACalls Tryz.prog (Cb gs) 3 [c.av,o.av,.int .i64 t,.agg (r.cellsW s.av)] (fun v=>v=.bool true) :=
 ACalls.wk (lawR c o t { r with us:=s.list,m:=s.len } (Bp2 o0 o1 o2) (Bh4 r4 r5 r6 r7 r8 r9 r10 r11 r12 r13 r14)) (.cons (.refl _) (.cons (.refl _) (.cons (.refl _) (.cons (Rdr.wkL r s) .nil)))) (.refl _)
end Go.Bas.BasZReads
end
