/- Where a place stands: what it comes to. -/
import Derived.Test.YtjepofcbkojibaaGreatDoorBasW11
set_option maxRecDepth 100000
set_option maxHeartbeats 4000000
set_option linter.unusedVariables false
set_option linter.unusedSimpArgs false
namespace Go.Bas.BasZAt4
open Go.RowKit Go.Proofs BasZBase BasZAt BasZAt2 BasZAt3
def Ol (z:Int) (c:Conf) (p:Plc):Prop :=
 (p.part=1\/p.part=2\/p.part=3)/\p.a=0/\p.b=0\/(p.part=4\/p.part=5)/\0<=p.a/\p.a<c.thr/\p.b=0 \/
 p.part=6/\c.kind=1/\0<=p.a/\p.a<2/\0<=p.b/\p.b<c.thr\/(p.part=7\/p.part=8)/\¬ c.kind=1/\0<=p.a/\p.a<2/\0<=p.b/\p.b<c.str \/
 p.part=9/\0<=p.a/\p.a<c.ins/\p.b=0\/p.part=10/\0<=p.a/\p.a<c.ins/\0<=p.b/\p.b<z
instance (z:Int) (c:Conf) (p:Plc):Decidable (Ol z c p):=by unfold Ol;infer_instance
def headS (c:Conf):Int:=3+2*c.thr+(if c.kind=1 then 2*c.thr else 4*c.str)
def whereS (z:Int) (c:Conf) (p:Plc):Int :=
 if p.part=1 then 0 else if p.part=2 then 1 else if p.part=3 then 2 else if p.part=4 then 3+p.a else if p.part=5 then 3+c.thr+p.a
 else if p.part=6 then 3+2*c.thr+p.a*c.thr+p.b else if p.part=7 then 3+2*c.thr+p.a*c.str+p.b else if p.part=8 then 3+2*c.thr+2*c.str+p.a*c.str+p.b
 else if p.part=9 then headS c+p.a*(1+z) else headS c+p.a*(1+z)+1+p.b
section
variable (z:Int) (c:Conf) (p:Plc)
def atE:Int:=cond c.ok (cond (decide (Ol z c p)) 0 2) 40
def atN:Int:=zif (atE z c p) (whereS z c p)
def Abb:AV:=.tup [.int .i64 (atN z c p),.int .i64 (atE z c p)]
end
theorem nf {kd fr as_ bs:Int} {p:Plc} (h:onB (BasZAt.Found kd fr as_ bs p)=false):¬ (kd=p.part/\fr<=p.a/\p.a<fr+as_/\0<=p.b/\p.b<bs):=fun hh=>by
 have:=Ak.2 (show BasZAt.Found kd fr as_ bs p from hh)
 rw [h] at this;cases this
section
variable {c:Conf} {p:Plc} {sz:Conf->Int} {pr:Conf->Bool} {k:AV->Bool}
theorem Tf {b x:Bool} (h:x=true):cond b x x=true:=by cases b<;>exact h
theorem Ao5 (hc:c.ok=true) (hk:k (Abb (sz c) c p)=true):∀ w:Int,Ol (sz c) c p->w=whereS (sz c) c p->k (.tup [.int .i64 w,.int .i64 0])=true:=fun w h hw=>by
 have e:atE (sz c) c p=0:=by unfold atE;rw [hc,Ddt h];rfl
 unfold Abb atN at hk
 rw [e] at hk
 rw [hw]
 exact hk
theorem Ao6 (hc:c.ok=true) (hk:k (Abb (sz c) c p)=true) (h:¬ Ol (sz c) c p):k (.tup [.int .i64 0,.int .i64 2])=true:=by
 have e:atE (sz c) c p=2:=by unfold atE;rw [hc,Ddf h];rfl
 unfold Abb atN at hk
 rw [e] at hk
 exact hk
theorem hCx (hs:Bc Tryz.prog (Cb gs) (Yb sz pr)):(Asu [Bq,Yb sz pr] [(142,Uj)]).Ok :=
 A99 base (Ah Jn (Ah hs Ap)) (fun s hs=>by
  rcases List.mem_cons.1 hs with rfl|h
  ·exact InpOk.cfg (C:=cfg [Bq]) (C':=⟨Tryz.prog,Cb gs,Oa [Bq,Yb sz pr],fun _=>false,fun _=>none⟩) rfl rfl Bgs
  ·cases h)
theorem run2 (hi:c.ins=2) (hpr:c.ok=true->pr c=true) (hsz:c.ok=true->0<=sz c/\sz c<=200) (hk:k (Abb (sz c) c p)=true):Ai (Asu [Bq,Yb sz pr] [(142,Uj)]) 300 40 [c.av,p.av] k false=true:=by
 obtain ⟨ob,ins,thr,kind,str,bits,cap,node,batch,chunk,limit,most⟩:=c
 obtain rfl:ins=2:=hi
 refine (t_at2 ⟨ob,2,thr,kind,str,bits,cap,node,batch,chunk,limit,most⟩ p sz pr k).trans ?_
 dsimp only
 cases ho:Conf.ok ⟨ob,2,thr,kind,str,bits,cap,node,batch,chunk,limit,most⟩ with
 | false =>
  have e:Az ⟨ob,2,thr,kind,str,bits,cap,node,batch,chunk,limit,most⟩=40:=by simp [Az,ho]
  rw [e];unfold Abb atN atE at hk;rw [ho] at hk;exact hk
 | true =>
  have e:Az ⟨ob,2,thr,kind,str,bits,cap,node,batch,chunk,limit,most⟩=0:=by simp [Az,ho]
  have L:=Ao5 ho hk;have L2:=Ao6 ho hk;have hp:=hpr ho;obtain ⟨z0,z1⟩:=hsz ho;have hO:=Hy.1 ho;simp only [Conf.OkP] at hO;refine condI (fun h=>by rw [e] at h;cases h) (fun _=>?_)
  generalize hz:sz ⟨ob,2,thr,kind,str,bits,cap,node,batch,chunk,limit,most⟩=z at *;refine andI (Ak.2 ⟨rfl,by omega,by omega,by omega,by omega,by omega,by omega,by omega,by omega,rfl,rfl,rfl,rfl⟩) ?_
  refine condI (fun hf=>Tf (by
    obtain ⟨f1,f2,f3,f4,f5⟩:=Ak.1 hf;have f1:(1:Int)=p.part:=f1;have f2:(0:Int)<=p.a:=f2;have f3:=f3;have f4:0<=p.b:=f4;have f5:=f5;refine L _ (.inl ⟨.inl f1.symm,by omega,by omega⟩) ?_
    unfold whereS headS;dsimp only;rw [<- f1];simp only [reduceIte,Int.reduceEq,Int.sub_zero,Int.mul_one,Int.one_mul];omega)) (fun g1_0=>?_)
  refine andI (Ak.2 ⟨rfl,by omega,by omega,by omega,by omega,by omega,by omega,by omega,by omega,rfl,rfl,rfl,rfl⟩) ?_
  refine condI (fun hf=>Tf (by
    obtain ⟨f1,f2,f3,f4,f5⟩:=Ak.1 hf;have f1:(2:Int)=p.part:=f1;have f2:(0:Int)<=p.a:=f2;have f3:=f3;have f4:0<=p.b:=f4;have f5:=f5;refine L _ (.inl ⟨.inr (.inl f1.symm),by omega,by omega⟩) ?_
    unfold whereS headS;dsimp only;rw [<- f1];simp only [reduceIte,Int.reduceEq,Int.sub_zero,Int.mul_one,Int.one_mul];omega)) (fun g2_0=>?_)
  refine andI (Ak.2 ⟨rfl,by omega,by omega,by omega,by omega,by omega,by omega,by omega,by omega,rfl,rfl,rfl,rfl⟩) ?_
  refine condI (fun hf=>Tf (by
    obtain ⟨f1,f2,f3,f4,f5⟩:=Ak.1 hf;have f1:(3:Int)=p.part:=f1;have f2:(0:Int)<=p.a:=f2;have f3:=f3;have f4:0<=p.b:=f4;have f5:=f5;refine L _ (.inl ⟨.inr (.inr f1.symm),by omega,by omega⟩) ?_
    unfold whereS headS;dsimp only;rw [<- f1];simp only [reduceIte,Int.reduceEq,Int.sub_zero,Int.mul_one,Int.one_mul];omega)) (fun g3_0=>?_)
  refine andI (Ak.2 ⟨rfl,by omega,by omega,by omega,by omega,by omega,by omega,by omega,by omega,rfl,rfl,rfl,rfl⟩) ?_
  refine condI (fun hf=>Tf (by
    obtain ⟨f1,f2,f3,f4,f5⟩:=Ak.1 hf;have f1:(4:Int)=p.part:=f1;have f2:(0:Int)<=p.a:=f2;have f3:=f3;have f4:0<=p.b:=f4;have f5:=f5;refine L _ (.inr (.inl ⟨.inl f1.symm,by omega,by show p.a<thr;omega,by omega⟩)) ?_
    unfold whereS headS;dsimp only;rw [<- f1];simp only [reduceIte,Int.reduceEq,Int.sub_zero,Int.mul_one,Int.one_mul];omega)) (fun g4_0=>?_)
  refine andI (Ak.2 ⟨rfl,by omega,by omega,by omega,by omega,by omega,by omega,by omega,by omega,rfl,rfl,rfl,rfl⟩) ?_
  refine condI (fun hf=>Tf (by
    obtain ⟨f1,f2,f3,f4,f5⟩:=Ak.1 hf;have f1:(5:Int)=p.part:=f1;have f2:(0:Int)<=p.a:=f2;have f3:=f3;have f4:0<=p.b:=f4;have f5:=f5;refine L _ (.inr (.inl ⟨.inr f1.symm,by omega,by show p.a<thr;omega,by omega⟩)) ?_
    unfold whereS headS;dsimp only;rw [<- f1];simp only [reduceIte,Int.reduceEq,Int.sub_zero,Int.mul_one,Int.one_mul];omega)) (fun g5_0=>?_)
  refine condI (fun hk0=>?_) (fun hk0=>?_)
  ·have hk1:kind=1:=Odt hk0
   refine andI (Ak.2 ⟨rfl,by omega,by omega,by omega,by omega,by omega,by omega,by omega,by omega,rfl,rfl,rfl,rfl⟩) ?_
   refine condI (fun hf=>(by
    obtain ⟨f1,f2,f3,f4,f5⟩:=Ak.1 hf;have f1:(6:Int)=p.part:=f1;have f2:(0:Int)<=p.a:=f2;have f3:=f3;have f4:0<=p.b:=f4;have f5:=f5;refine L _ (.inr (.inr (.inl ⟨f1.symm,hk1,by omega,by omega,by omega,by show p.b<thr;omega⟩))) ?_
    unfold whereS headS;dsimp only;rw [<- f1];simp only [reduceIte,Int.reduceEq,Int.sub_zero,Int.mul_one,Int.one_mul,hk1];omega)) (fun g6_0=>?_)
   refine andI (Ak.2 ⟨rfl,by omega,by omega,by omega,by omega,by omega,by omega,by omega,by omega,rfl,rfl,rfl,rfl⟩) ?_
   refine condI (fun hf=>(by
    obtain ⟨f1,f2,f3,f4,f5⟩:=Ak.1 hf;have f1:(9:Int)=p.part:=f1;have f2:(0:Int)<=p.a:=f2;have f3:=f3;have f4:0<=p.b:=f4;have f5:=f5;refine L _ (.inr (.inr (.inr (.inr (.inl ⟨f1.symm,by omega,by show p.a<2;omega,by omega⟩))))) ?_
    unfold whereS headS;dsimp only;rw [<- f1];simp only [reduceIte,Int.reduceEq,Int.sub_zero,Int.mul_one,Int.one_mul,hk1];rw [show p.a=0 by omega]
    try simp only [Int.sub_self,Int.zero_mul,Int.one_mul,Int.mul_one]
    omega)) (fun g9_0=>?_)
   refine andI hp ?_;refine andI (Ak.2 ⟨rfl,by omega,by omega,by omega,by omega,by omega,by omega,by omega,by omega,rfl,rfl,rfl,rfl⟩) ?_
   refine condI (fun hf=>(by
    obtain ⟨f1,f2,f3,f4,f5⟩:=Ak.1 hf;have f1:(10:Int)=p.part:=f1;have f2:(0:Int)<=p.a:=f2;have f3:=f3;have f4:0<=p.b:=f4;have f5:=f5;refine L _ (.inr (.inr (.inr (.inr (.inr ⟨f1.symm,by omega,by show p.a<2;omega,by omega,by omega⟩))))) ?_
    unfold whereS headS;dsimp only;rw [<- f1];simp only [reduceIte,Int.reduceEq,Int.sub_zero,Int.mul_one,Int.one_mul,hk1];rw [show p.a=0 by omega]
    try simp only [Int.sub_self,Int.zero_mul,Int.one_mul,Int.mul_one]
    omega)) (fun g10_0=>?_)
   refine andI (Ak.2 ⟨rfl,by omega,by omega,by omega,by omega,by omega,by omega,by omega,by omega,rfl,rfl,rfl,rfl⟩) ?_
   refine condI (fun hf=>(by
    obtain ⟨f1,f2,f3,f4,f5⟩:=Ak.1 hf;have f1:(9:Int)=p.part:=f1;have f2:(1:Int)<=p.a:=f2;have f3:=f3;have f4:0<=p.b:=f4;have f5:=f5;refine L _ (.inr (.inr (.inr (.inr (.inl ⟨f1.symm,by omega,by show p.a<2;omega,by omega⟩))))) ?_
    unfold whereS headS;dsimp only;rw [<- f1];simp only [reduceIte,Int.reduceEq,Int.sub_zero,Int.mul_one,Int.one_mul,hk1];rw [show p.a=1 by omega]
    try simp only [Int.sub_self,Int.zero_mul,Int.one_mul,Int.mul_one]
    omega)) (fun g9_1=>?_)
   refine andI hp ?_;refine andI (Ak.2 ⟨rfl,by omega,by omega,by omega,by omega,by omega,by omega,by omega,by omega,rfl,rfl,rfl,rfl⟩) ?_
   refine condI (fun hf=>(by
    obtain ⟨f1,f2,f3,f4,f5⟩:=Ak.1 hf;have f1:(10:Int)=p.part:=f1;have f2:(1:Int)<=p.a:=f2;have f3:=f3;have f4:0<=p.b:=f4;have f5:=f5;refine L _ (.inr (.inr (.inr (.inr (.inr ⟨f1.symm,by omega,by show p.a<2;omega,by omega,by omega⟩))))) ?_
    unfold whereS headS;dsimp only;rw [<- f1];simp only [reduceIte,Int.reduceEq,Int.sub_zero,Int.mul_one,Int.one_mul,hk1];rw [show p.a=1 by omega]
    try simp only [Int.sub_self,Int.zero_mul,Int.one_mul,Int.mul_one]
    omega)) (fun g10_1=>?_)
   refine L2 (fun hh=>?_)
   unfold Ol at hh;dsimp only at hh
   rcases hh with ⟨h1|h1|h1,h2,h3⟩|⟨h1|h1,h2,h3,h4⟩|⟨h1,h2,h3,h4,h5,h6⟩|⟨h1|h1,h2,h3,h4,h5,h6⟩|⟨h1,h2,h3,h4⟩|⟨h1,h2,h3,h4,h5⟩
   ·exact nf g1_0 ⟨h1.symm,by omega,by omega,by omega,by omega⟩
   ·exact nf g2_0 ⟨h1.symm,by omega,by omega,by omega,by omega⟩
   ·exact nf g3_0 ⟨h1.symm,by omega,by omega,by omega,by omega⟩
   ·exact nf g4_0 ⟨h1.symm,by omega,by omega,by omega,by omega⟩
   ·exact nf g5_0 ⟨h1.symm,by omega,by omega,by omega,by omega⟩
   ·exact nf g6_0 ⟨h1.symm,by omega,by omega,by omega,by omega⟩
   ·exact h2 hk1
   ·exact h2 hk1
   ·rcases (show p.a=0\/p.a=1 by omega) with ha|ha
    ·exact nf g9_0 ⟨h1.symm,by omega,by omega,by omega,by omega⟩
    ·exact nf g9_1 ⟨h1.symm,by omega,by omega,by omega,by omega⟩
   ·rcases (show p.a=0\/p.a=1 by omega) with ha|ha
    ·exact nf g10_0 ⟨h1.symm,by omega,by omega,by omega,by omega⟩
    ·exact nf g10_1 ⟨h1.symm,by omega,by omega,by omega,by omega⟩
  ·have hk1:¬ kind=1:=Odf hk0
   refine andI (Ak.2 ⟨rfl,by omega,by omega,by omega,by omega,by omega,by omega,by omega,by omega,rfl,rfl,rfl,rfl⟩) ?_
   refine condI (fun hf=>(by
    obtain ⟨f1,f2,f3,f4,f5⟩:=Ak.1 hf;have f1:(7:Int)=p.part:=f1;have f2:(0:Int)<=p.a:=f2;have f3:=f3;have f4:0<=p.b:=f4;have f5:=f5;refine L _ (.inr (.inr (.inr (.inl ⟨.inl f1.symm,hk1,by omega,by omega,by omega,by show p.b<str;omega⟩)))) ?_
    unfold whereS headS;dsimp only;rw [<- f1];simp only [reduceIte,Int.reduceEq,Int.sub_zero,Int.mul_one,Int.one_mul,hk1];omega)) (fun g7_0=>?_)
   refine andI (Ak.2 ⟨rfl,by omega,by omega,by omega,by omega,by omega,by omega,by omega,by omega,rfl,rfl,rfl,rfl⟩) ?_
   refine condI (fun hf=>(by
    obtain ⟨f1,f2,f3,f4,f5⟩:=Ak.1 hf;have f1:(8:Int)=p.part:=f1;have f2:(0:Int)<=p.a:=f2;have f3:=f3;have f4:0<=p.b:=f4;have f5:=f5;refine L _ (.inr (.inr (.inr (.inl ⟨.inr f1.symm,hk1,by omega,by omega,by omega,by show p.b<str;omega⟩)))) ?_
    unfold whereS headS;dsimp only;rw [<- f1];simp only [reduceIte,Int.reduceEq,Int.sub_zero,Int.mul_one,Int.one_mul,hk1];omega)) (fun g8_0=>?_)
   refine andI (Ak.2 ⟨rfl,by omega,by omega,by omega,by omega,by omega,by omega,by omega,by omega,rfl,rfl,rfl,rfl⟩) ?_
   refine condI (fun hf=>(by
    obtain ⟨f1,f2,f3,f4,f5⟩:=Ak.1 hf;have f1:(9:Int)=p.part:=f1;have f2:(0:Int)<=p.a:=f2;have f3:=f3;have f4:0<=p.b:=f4;have f5:=f5;refine L _ (.inr (.inr (.inr (.inr (.inl ⟨f1.symm,by omega,by show p.a<2;omega,by omega⟩))))) ?_
    unfold whereS headS;dsimp only;rw [<- f1];simp only [reduceIte,Int.reduceEq,Int.sub_zero,Int.mul_one,Int.one_mul,hk1];rw [show p.a=0 by omega]
    try simp only [Int.sub_self,Int.zero_mul,Int.one_mul,Int.mul_one]
    omega)) (fun g9_0=>?_)
   refine andI hp ?_;refine andI (Ak.2 ⟨rfl,by omega,by omega,by omega,by omega,by omega,by omega,by omega,by omega,rfl,rfl,rfl,rfl⟩) ?_
   refine condI (fun hf=>(by
    obtain ⟨f1,f2,f3,f4,f5⟩:=Ak.1 hf;have f1:(10:Int)=p.part:=f1;have f2:(0:Int)<=p.a:=f2;have f3:=f3;have f4:0<=p.b:=f4;have f5:=f5;refine L _ (.inr (.inr (.inr (.inr (.inr ⟨f1.symm,by omega,by show p.a<2;omega,by omega,by omega⟩))))) ?_
    unfold whereS headS;dsimp only;rw [<- f1];simp only [reduceIte,Int.reduceEq,Int.sub_zero,Int.mul_one,Int.one_mul,hk1];rw [show p.a=0 by omega]
    try simp only [Int.sub_self,Int.zero_mul,Int.one_mul,Int.mul_one]
    omega)) (fun g10_0=>?_)
   refine andI (Ak.2 ⟨rfl,by omega,by omega,by omega,by omega,by omega,by omega,by omega,by omega,rfl,rfl,rfl,rfl⟩) ?_
   refine condI (fun hf=>(by
    obtain ⟨f1,f2,f3,f4,f5⟩:=Ak.1 hf;have f1:(9:Int)=p.part:=f1;have f2:(1:Int)<=p.a:=f2;have f3:=f3;have f4:0<=p.b:=f4;have f5:=f5;refine L _ (.inr (.inr (.inr (.inr (.inl ⟨f1.symm,by omega,by show p.a<2;omega,by omega⟩))))) ?_
    unfold whereS headS;dsimp only;rw [<- f1];simp only [reduceIte,Int.reduceEq,Int.sub_zero,Int.mul_one,Int.one_mul,hk1];rw [show p.a=1 by omega]
    try simp only [Int.sub_self,Int.zero_mul,Int.one_mul,Int.mul_one]
    omega)) (fun g9_1=>?_)
   refine andI hp ?_;refine andI (Ak.2 ⟨rfl,by omega,by omega,by omega,by omega,by omega,by omega,by omega,by omega,rfl,rfl,rfl,rfl⟩) ?_
   refine condI (fun hf=>(by
    obtain ⟨f1,f2,f3,f4,f5⟩:=Ak.1 hf;have f1:(10:Int)=p.part:=f1;have f2:(1:Int)<=p.a:=f2;have f3:=f3;have f4:0<=p.b:=f4;have f5:=f5;refine L _ (.inr (.inr (.inr (.inr (.inr ⟨f1.symm,by omega,by show p.a<2;omega,by omega,by omega⟩))))) ?_
    unfold whereS headS;dsimp only;rw [<- f1];simp only [reduceIte,Int.reduceEq,Int.sub_zero,Int.mul_one,Int.one_mul,hk1];rw [show p.a=1 by omega]
    try simp only [Int.sub_self,Int.zero_mul,Int.one_mul,Int.mul_one]
    omega)) (fun g10_1=>?_)
   refine L2 (fun hh=>?_)
   unfold Ol at hh;dsimp only at hh
   rcases hh with ⟨h1|h1|h1,h2,h3⟩|⟨h1|h1,h2,h3,h4⟩|⟨h1,h2,h3,h4,h5,h6⟩|⟨h1|h1,h2,h3,h4,h5,h6⟩|⟨h1,h2,h3,h4⟩|⟨h1,h2,h3,h4,h5⟩
   ·exact nf g1_0 ⟨h1.symm,by omega,by omega,by omega,by omega⟩
   ·exact nf g2_0 ⟨h1.symm,by omega,by omega,by omega,by omega⟩
   ·exact nf g3_0 ⟨h1.symm,by omega,by omega,by omega,by omega⟩
   ·exact nf g4_0 ⟨h1.symm,by omega,by omega,by omega,by omega⟩
   ·exact nf g5_0 ⟨h1.symm,by omega,by omega,by omega,by omega⟩
   ·exact hk1 h2
   ·exact nf g7_0 ⟨h1.symm,by omega,by omega,by omega,by omega⟩
   ·exact nf g8_0 ⟨h1.symm,by omega,by omega,by omega,by omega⟩
   ·rcases (show p.a=0\/p.a=1 by omega) with ha|ha
    ·exact nf g9_0 ⟨h1.symm,by omega,by omega,by omega,by omega⟩
    ·exact nf g9_1 ⟨h1.symm,by omega,by omega,by omega,by omega⟩
   ·rcases (show p.a=0\/p.a=1 by omega) with ha|ha
    ·exact nf g10_0 ⟨h1.symm,by omega,by omega,by omega,by omega⟩
    ·exact nf g10_1 ⟨h1.symm,by omega,by omega,by omega,by omega⟩
theorem run3 (hi:c.ins=3) (hpr:c.ok=true->pr c=true) (hsz:c.ok=true->0<=sz c/\sz c<=200) (hk:k (Abb (sz c) c p)=true):Ai (Asu [Bq,Yb sz pr] [(142,Uj)]) 300 40 [c.av,p.av] k false=true:=by
 obtain ⟨ob,ins,thr,kind,str,bits,cap,node,batch,chunk,limit,most⟩:=c
 obtain rfl:ins=3:=hi
 refine (t_at3 ⟨ob,3,thr,kind,str,bits,cap,node,batch,chunk,limit,most⟩ p sz pr k).trans ?_
 dsimp only
 cases ho:Conf.ok ⟨ob,3,thr,kind,str,bits,cap,node,batch,chunk,limit,most⟩ with
 | false =>
  have e:Az ⟨ob,3,thr,kind,str,bits,cap,node,batch,chunk,limit,most⟩=40:=by simp [Az,ho]
  rw [e];unfold Abb atN atE at hk;rw [ho] at hk;exact hk
 | true =>
  have e:Az ⟨ob,3,thr,kind,str,bits,cap,node,batch,chunk,limit,most⟩=0:=by simp [Az,ho]
  have L:=Ao5 ho hk;have L2:=Ao6 ho hk;have hp:=hpr ho;obtain ⟨z0,z1⟩:=hsz ho;have hO:=Hy.1 ho;simp only [Conf.OkP] at hO;refine condI (fun h=>by rw [e] at h;cases h) (fun _=>?_)
  generalize hz:sz ⟨ob,3,thr,kind,str,bits,cap,node,batch,chunk,limit,most⟩=z at *;refine andI (Ak.2 ⟨rfl,by omega,by omega,by omega,by omega,by omega,by omega,by omega,by omega,rfl,rfl,rfl,rfl⟩) ?_
  refine condI (fun hf=>Tf (by
    obtain ⟨f1,f2,f3,f4,f5⟩:=Ak.1 hf;have f1:(1:Int)=p.part:=f1;have f2:(0:Int)<=p.a:=f2;have f3:=f3;have f4:0<=p.b:=f4;have f5:=f5;refine L _ (.inl ⟨.inl f1.symm,by omega,by omega⟩) ?_
    unfold whereS headS;dsimp only;rw [<- f1];simp only [reduceIte,Int.reduceEq,Int.sub_zero,Int.mul_one,Int.one_mul];omega)) (fun g1_0=>?_)
  refine andI (Ak.2 ⟨rfl,by omega,by omega,by omega,by omega,by omega,by omega,by omega,by omega,rfl,rfl,rfl,rfl⟩) ?_
  refine condI (fun hf=>Tf (by
    obtain ⟨f1,f2,f3,f4,f5⟩:=Ak.1 hf;have f1:(2:Int)=p.part:=f1;have f2:(0:Int)<=p.a:=f2;have f3:=f3;have f4:0<=p.b:=f4;have f5:=f5;refine L _ (.inl ⟨.inr (.inl f1.symm),by omega,by omega⟩) ?_
    unfold whereS headS;dsimp only;rw [<- f1];simp only [reduceIte,Int.reduceEq,Int.sub_zero,Int.mul_one,Int.one_mul];omega)) (fun g2_0=>?_)
  refine andI (Ak.2 ⟨rfl,by omega,by omega,by omega,by omega,by omega,by omega,by omega,by omega,rfl,rfl,rfl,rfl⟩) ?_
  refine condI (fun hf=>Tf (by
    obtain ⟨f1,f2,f3,f4,f5⟩:=Ak.1 hf;have f1:(3:Int)=p.part:=f1;have f2:(0:Int)<=p.a:=f2;have f3:=f3;have f4:0<=p.b:=f4;have f5:=f5;refine L _ (.inl ⟨.inr (.inr f1.symm),by omega,by omega⟩) ?_
    unfold whereS headS;dsimp only;rw [<- f1];simp only [reduceIte,Int.reduceEq,Int.sub_zero,Int.mul_one,Int.one_mul];omega)) (fun g3_0=>?_)
  refine andI (Ak.2 ⟨rfl,by omega,by omega,by omega,by omega,by omega,by omega,by omega,by omega,rfl,rfl,rfl,rfl⟩) ?_
  refine condI (fun hf=>Tf (by
    obtain ⟨f1,f2,f3,f4,f5⟩:=Ak.1 hf;have f1:(4:Int)=p.part:=f1;have f2:(0:Int)<=p.a:=f2;have f3:=f3;have f4:0<=p.b:=f4;have f5:=f5;refine L _ (.inr (.inl ⟨.inl f1.symm,by omega,by show p.a<thr;omega,by omega⟩)) ?_
    unfold whereS headS;dsimp only;rw [<- f1];simp only [reduceIte,Int.reduceEq,Int.sub_zero,Int.mul_one,Int.one_mul];omega)) (fun g4_0=>?_)
  refine andI (Ak.2 ⟨rfl,by omega,by omega,by omega,by omega,by omega,by omega,by omega,by omega,rfl,rfl,rfl,rfl⟩) ?_
  refine condI (fun hf=>Tf (by
    obtain ⟨f1,f2,f3,f4,f5⟩:=Ak.1 hf;have f1:(5:Int)=p.part:=f1;have f2:(0:Int)<=p.a:=f2;have f3:=f3;have f4:0<=p.b:=f4;have f5:=f5;refine L _ (.inr (.inl ⟨.inr f1.symm,by omega,by show p.a<thr;omega,by omega⟩)) ?_
    unfold whereS headS;dsimp only;rw [<- f1];simp only [reduceIte,Int.reduceEq,Int.sub_zero,Int.mul_one,Int.one_mul];omega)) (fun g5_0=>?_)
  refine condI (fun hk0=>?_) (fun hk0=>?_)
  ·have hk1:kind=1:=Odt hk0
   refine andI (Ak.2 ⟨rfl,by omega,by omega,by omega,by omega,by omega,by omega,by omega,by omega,rfl,rfl,rfl,rfl⟩) ?_
   refine condI (fun hf=>(by
    obtain ⟨f1,f2,f3,f4,f5⟩:=Ak.1 hf;have f1:(6:Int)=p.part:=f1;have f2:(0:Int)<=p.a:=f2;have f3:=f3;have f4:0<=p.b:=f4;have f5:=f5;refine L _ (.inr (.inr (.inl ⟨f1.symm,hk1,by omega,by omega,by omega,by show p.b<thr;omega⟩))) ?_
    unfold whereS headS;dsimp only;rw [<- f1];simp only [reduceIte,Int.reduceEq,Int.sub_zero,Int.mul_one,Int.one_mul,hk1];omega)) (fun g6_0=>?_)
   refine andI (Ak.2 ⟨rfl,by omega,by omega,by omega,by omega,by omega,by omega,by omega,by omega,rfl,rfl,rfl,rfl⟩) ?_
   refine condI (fun hf=>(by
    obtain ⟨f1,f2,f3,f4,f5⟩:=Ak.1 hf;have f1:(9:Int)=p.part:=f1;have f2:(0:Int)<=p.a:=f2;have f3:=f3;have f4:0<=p.b:=f4;have f5:=f5;refine L _ (.inr (.inr (.inr (.inr (.inl ⟨f1.symm,by omega,by show p.a<3;omega,by omega⟩))))) ?_
    unfold whereS headS;dsimp only;rw [<- f1];simp only [reduceIte,Int.reduceEq,Int.sub_zero,Int.mul_one,Int.one_mul,hk1];rw [show p.a=0 by omega]
    try simp only [Int.sub_self,Int.zero_mul,Int.one_mul,Int.mul_one]
    omega)) (fun g9_0=>?_)
   refine andI hp ?_;refine andI (Ak.2 ⟨rfl,by omega,by omega,by omega,by omega,by omega,by omega,by omega,by omega,rfl,rfl,rfl,rfl⟩) ?_
   refine condI (fun hf=>(by
    obtain ⟨f1,f2,f3,f4,f5⟩:=Ak.1 hf;have f1:(10:Int)=p.part:=f1;have f2:(0:Int)<=p.a:=f2;have f3:=f3;have f4:0<=p.b:=f4;have f5:=f5;refine L _ (.inr (.inr (.inr (.inr (.inr ⟨f1.symm,by omega,by show p.a<3;omega,by omega,by omega⟩))))) ?_
    unfold whereS headS;dsimp only;rw [<- f1];simp only [reduceIte,Int.reduceEq,Int.sub_zero,Int.mul_one,Int.one_mul,hk1];rw [show p.a=0 by omega]
    try simp only [Int.sub_self,Int.zero_mul,Int.one_mul,Int.mul_one]
    omega)) (fun g10_0=>?_)
   refine andI (Ak.2 ⟨rfl,by omega,by omega,by omega,by omega,by omega,by omega,by omega,by omega,rfl,rfl,rfl,rfl⟩) ?_
   refine condI (fun hf=>(by
    obtain ⟨f1,f2,f3,f4,f5⟩:=Ak.1 hf;have f1:(9:Int)=p.part:=f1;have f2:(1:Int)<=p.a:=f2;have f3:=f3;have f4:0<=p.b:=f4;have f5:=f5;refine L _ (.inr (.inr (.inr (.inr (.inl ⟨f1.symm,by omega,by show p.a<3;omega,by omega⟩))))) ?_
    unfold whereS headS;dsimp only;rw [<- f1];simp only [reduceIte,Int.reduceEq,Int.sub_zero,Int.mul_one,Int.one_mul,hk1];rw [show p.a=1 by omega]
    try simp only [Int.sub_self,Int.zero_mul,Int.one_mul,Int.mul_one]
    omega)) (fun g9_1=>?_)
   refine andI hp ?_;refine andI (Ak.2 ⟨rfl,by omega,by omega,by omega,by omega,by omega,by omega,by omega,by omega,rfl,rfl,rfl,rfl⟩) ?_
   refine condI (fun hf=>(by
    obtain ⟨f1,f2,f3,f4,f5⟩:=Ak.1 hf;have f1:(10:Int)=p.part:=f1;have f2:(1:Int)<=p.a:=f2;have f3:=f3;have f4:0<=p.b:=f4;have f5:=f5;refine L _ (.inr (.inr (.inr (.inr (.inr ⟨f1.symm,by omega,by show p.a<3;omega,by omega,by omega⟩))))) ?_
    unfold whereS headS;dsimp only;rw [<- f1];simp only [reduceIte,Int.reduceEq,Int.sub_zero,Int.mul_one,Int.one_mul,hk1];rw [show p.a=1 by omega]
    try simp only [Int.sub_self,Int.zero_mul,Int.one_mul,Int.mul_one]
    omega)) (fun g10_1=>?_)
   refine andI (Ak.2 ⟨rfl,by omega,by omega,by omega,by omega,by omega,by omega,by omega,by omega,rfl,rfl,rfl,rfl⟩) ?_
   refine condI (fun hf=>(by
    obtain ⟨f1,f2,f3,f4,f5⟩:=Ak.1 hf;have f1:(9:Int)=p.part:=f1;have f2:(2:Int)<=p.a:=f2;have f3:=f3;have f4:0<=p.b:=f4;have f5:=f5;refine L _ (.inr (.inr (.inr (.inr (.inl ⟨f1.symm,by omega,by show p.a<3;omega,by omega⟩))))) ?_
    unfold whereS headS;dsimp only;rw [<- f1];simp only [reduceIte,Int.reduceEq,Int.sub_zero,Int.mul_one,Int.one_mul,hk1];rw [show p.a=2 by omega]
    try simp only [Int.sub_self,Int.zero_mul,Int.one_mul,Int.mul_one]
    omega)) (fun g9_2=>?_)
   refine andI hp ?_;refine andI (Ak.2 ⟨rfl,by omega,by omega,by omega,by omega,by omega,by omega,by omega,by omega,rfl,rfl,rfl,rfl⟩) ?_
   refine condI (fun hf=>(by
    obtain ⟨f1,f2,f3,f4,f5⟩:=Ak.1 hf;have f1:(10:Int)=p.part:=f1;have f2:(2:Int)<=p.a:=f2;have f3:=f3;have f4:0<=p.b:=f4;have f5:=f5;refine L _ (.inr (.inr (.inr (.inr (.inr ⟨f1.symm,by omega,by show p.a<3;omega,by omega,by omega⟩))))) ?_
    unfold whereS headS;dsimp only;rw [<- f1];simp only [reduceIte,Int.reduceEq,Int.sub_zero,Int.mul_one,Int.one_mul,hk1];rw [show p.a=2 by omega]
    try simp only [Int.sub_self,Int.zero_mul,Int.one_mul,Int.mul_one]
    omega)) (fun g10_2=>?_)
   refine L2 (fun hh=>?_)
   unfold Ol at hh;dsimp only at hh
   rcases hh with ⟨h1|h1|h1,h2,h3⟩|⟨h1|h1,h2,h3,h4⟩|⟨h1,h2,h3,h4,h5,h6⟩|⟨h1|h1,h2,h3,h4,h5,h6⟩|⟨h1,h2,h3,h4⟩|⟨h1,h2,h3,h4,h5⟩
   ·exact nf g1_0 ⟨h1.symm,by omega,by omega,by omega,by omega⟩
   ·exact nf g2_0 ⟨h1.symm,by omega,by omega,by omega,by omega⟩
   ·exact nf g3_0 ⟨h1.symm,by omega,by omega,by omega,by omega⟩
   ·exact nf g4_0 ⟨h1.symm,by omega,by omega,by omega,by omega⟩
   ·exact nf g5_0 ⟨h1.symm,by omega,by omega,by omega,by omega⟩
   ·exact nf g6_0 ⟨h1.symm,by omega,by omega,by omega,by omega⟩
   ·exact h2 hk1
   ·exact h2 hk1
   ·rcases (show p.a=0\/p.a=1\/p.a=2 by omega) with ha|ha|ha
    ·exact nf g9_0 ⟨h1.symm,by omega,by omega,by omega,by omega⟩
    ·exact nf g9_1 ⟨h1.symm,by omega,by omega,by omega,by omega⟩
    ·exact nf g9_2 ⟨h1.symm,by omega,by omega,by omega,by omega⟩
   ·rcases (show p.a=0\/p.a=1\/p.a=2 by omega) with ha|ha|ha
    ·exact nf g10_0 ⟨h1.symm,by omega,by omega,by omega,by omega⟩
    ·exact nf g10_1 ⟨h1.symm,by omega,by omega,by omega,by omega⟩
    ·exact nf g10_2 ⟨h1.symm,by omega,by omega,by omega,by omega⟩
  ·have hk1:¬ kind=1:=Odf hk0
   refine andI (Ak.2 ⟨rfl,by omega,by omega,by omega,by omega,by omega,by omega,by omega,by omega,rfl,rfl,rfl,rfl⟩) ?_
   refine condI (fun hf=>(by
    obtain ⟨f1,f2,f3,f4,f5⟩:=Ak.1 hf;have f1:(7:Int)=p.part:=f1;have f2:(0:Int)<=p.a:=f2;have f3:=f3;have f4:0<=p.b:=f4;have f5:=f5;refine L _ (.inr (.inr (.inr (.inl ⟨.inl f1.symm,hk1,by omega,by omega,by omega,by show p.b<str;omega⟩)))) ?_
    unfold whereS headS;dsimp only;rw [<- f1];simp only [reduceIte,Int.reduceEq,Int.sub_zero,Int.mul_one,Int.one_mul,hk1];omega)) (fun g7_0=>?_)
   refine andI (Ak.2 ⟨rfl,by omega,by omega,by omega,by omega,by omega,by omega,by omega,by omega,rfl,rfl,rfl,rfl⟩) ?_
   refine condI (fun hf=>(by
    obtain ⟨f1,f2,f3,f4,f5⟩:=Ak.1 hf;have f1:(8:Int)=p.part:=f1;have f2:(0:Int)<=p.a:=f2;have f3:=f3;have f4:0<=p.b:=f4;have f5:=f5;refine L _ (.inr (.inr (.inr (.inl ⟨.inr f1.symm,hk1,by omega,by omega,by omega,by show p.b<str;omega⟩)))) ?_
    unfold whereS headS;dsimp only;rw [<- f1];simp only [reduceIte,Int.reduceEq,Int.sub_zero,Int.mul_one,Int.one_mul,hk1];omega)) (fun g8_0=>?_)
   refine andI (Ak.2 ⟨rfl,by omega,by omega,by omega,by omega,by omega,by omega,by omega,by omega,rfl,rfl,rfl,rfl⟩) ?_
   refine condI (fun hf=>(by
    obtain ⟨f1,f2,f3,f4,f5⟩:=Ak.1 hf;have f1:(9:Int)=p.part:=f1;have f2:(0:Int)<=p.a:=f2;have f3:=f3;have f4:0<=p.b:=f4;have f5:=f5;refine L _ (.inr (.inr (.inr (.inr (.inl ⟨f1.symm,by omega,by show p.a<3;omega,by omega⟩))))) ?_
    unfold whereS headS;dsimp only;rw [<- f1];simp only [reduceIte,Int.reduceEq,Int.sub_zero,Int.mul_one,Int.one_mul,hk1];rw [show p.a=0 by omega]
    try simp only [Int.sub_self,Int.zero_mul,Int.one_mul,Int.mul_one]
    omega)) (fun g9_0=>?_)
   refine andI hp ?_;refine andI (Ak.2 ⟨rfl,by omega,by omega,by omega,by omega,by omega,by omega,by omega,by omega,rfl,rfl,rfl,rfl⟩) ?_
   refine condI (fun hf=>(by
    obtain ⟨f1,f2,f3,f4,f5⟩:=Ak.1 hf;have f1:(10:Int)=p.part:=f1;have f2:(0:Int)<=p.a:=f2;have f3:=f3;have f4:0<=p.b:=f4;have f5:=f5;refine L _ (.inr (.inr (.inr (.inr (.inr ⟨f1.symm,by omega,by show p.a<3;omega,by omega,by omega⟩))))) ?_
    unfold whereS headS;dsimp only;rw [<- f1];simp only [reduceIte,Int.reduceEq,Int.sub_zero,Int.mul_one,Int.one_mul,hk1];rw [show p.a=0 by omega]
    try simp only [Int.sub_self,Int.zero_mul,Int.one_mul,Int.mul_one]
    omega)) (fun g10_0=>?_)
   refine andI (Ak.2 ⟨rfl,by omega,by omega,by omega,by omega,by omega,by omega,by omega,by omega,rfl,rfl,rfl,rfl⟩) ?_
   refine condI (fun hf=>(by
    obtain ⟨f1,f2,f3,f4,f5⟩:=Ak.1 hf;have f1:(9:Int)=p.part:=f1;have f2:(1:Int)<=p.a:=f2;have f3:=f3;have f4:0<=p.b:=f4;have f5:=f5;refine L _ (.inr (.inr (.inr (.inr (.inl ⟨f1.symm,by omega,by show p.a<3;omega,by omega⟩))))) ?_
    unfold whereS headS;dsimp only;rw [<- f1];simp only [reduceIte,Int.reduceEq,Int.sub_zero,Int.mul_one,Int.one_mul,hk1];rw [show p.a=1 by omega]
    try simp only [Int.sub_self,Int.zero_mul,Int.one_mul,Int.mul_one]
    omega)) (fun g9_1=>?_)
   refine andI hp ?_;refine andI (Ak.2 ⟨rfl,by omega,by omega,by omega,by omega,by omega,by omega,by omega,by omega,rfl,rfl,rfl,rfl⟩) ?_
   refine condI (fun hf=>(by
    obtain ⟨f1,f2,f3,f4,f5⟩:=Ak.1 hf;have f1:(10:Int)=p.part:=f1;have f2:(1:Int)<=p.a:=f2;have f3:=f3;have f4:0<=p.b:=f4;have f5:=f5;refine L _ (.inr (.inr (.inr (.inr (.inr ⟨f1.symm,by omega,by show p.a<3;omega,by omega,by omega⟩))))) ?_
    unfold whereS headS;dsimp only;rw [<- f1];simp only [reduceIte,Int.reduceEq,Int.sub_zero,Int.mul_one,Int.one_mul,hk1];rw [show p.a=1 by omega]
    try simp only [Int.sub_self,Int.zero_mul,Int.one_mul,Int.mul_one]
    omega)) (fun g10_1=>?_)
   refine andI (Ak.2 ⟨rfl,by omega,by omega,by omega,by omega,by omega,by omega,by omega,by omega,rfl,rfl,rfl,rfl⟩) ?_
   refine condI (fun hf=>(by
    obtain ⟨f1,f2,f3,f4,f5⟩:=Ak.1 hf;have f1:(9:Int)=p.part:=f1;have f2:(2:Int)<=p.a:=f2;have f3:=f3;have f4:0<=p.b:=f4;have f5:=f5;refine L _ (.inr (.inr (.inr (.inr (.inl ⟨f1.symm,by omega,by show p.a<3;omega,by omega⟩))))) ?_
    unfold whereS headS;dsimp only;rw [<- f1];simp only [reduceIte,Int.reduceEq,Int.sub_zero,Int.mul_one,Int.one_mul,hk1];rw [show p.a=2 by omega]
    try simp only [Int.sub_self,Int.zero_mul,Int.one_mul,Int.mul_one]
    omega)) (fun g9_2=>?_)
   refine andI hp ?_;refine andI (Ak.2 ⟨rfl,by omega,by omega,by omega,by omega,by omega,by omega,by omega,by omega,rfl,rfl,rfl,rfl⟩) ?_
   refine condI (fun hf=>(by
    obtain ⟨f1,f2,f3,f4,f5⟩:=Ak.1 hf;have f1:(10:Int)=p.part:=f1;have f2:(2:Int)<=p.a:=f2;have f3:=f3;have f4:0<=p.b:=f4;have f5:=f5;refine L _ (.inr (.inr (.inr (.inr (.inr ⟨f1.symm,by omega,by show p.a<3;omega,by omega,by omega⟩))))) ?_
    unfold whereS headS;dsimp only;rw [<- f1];simp only [reduceIte,Int.reduceEq,Int.sub_zero,Int.mul_one,Int.one_mul,hk1];rw [show p.a=2 by omega]
    try simp only [Int.sub_self,Int.zero_mul,Int.one_mul,Int.mul_one]
    omega)) (fun g10_2=>?_)
   refine L2 (fun hh=>?_)
   unfold Ol at hh;dsimp only at hh
   rcases hh with ⟨h1|h1|h1,h2,h3⟩|⟨h1|h1,h2,h3,h4⟩|⟨h1,h2,h3,h4,h5,h6⟩|⟨h1|h1,h2,h3,h4,h5,h6⟩|⟨h1,h2,h3,h4⟩|⟨h1,h2,h3,h4,h5⟩
   ·exact nf g1_0 ⟨h1.symm,by omega,by omega,by omega,by omega⟩
   ·exact nf g2_0 ⟨h1.symm,by omega,by omega,by omega,by omega⟩
   ·exact nf g3_0 ⟨h1.symm,by omega,by omega,by omega,by omega⟩
   ·exact nf g4_0 ⟨h1.symm,by omega,by omega,by omega,by omega⟩
   ·exact nf g5_0 ⟨h1.symm,by omega,by omega,by omega,by omega⟩
   ·exact hk1 h2
   ·exact nf g7_0 ⟨h1.symm,by omega,by omega,by omega,by omega⟩
   ·exact nf g8_0 ⟨h1.symm,by omega,by omega,by omega,by omega⟩
   ·rcases (show p.a=0\/p.a=1\/p.a=2 by omega) with ha|ha|ha
    ·exact nf g9_0 ⟨h1.symm,by omega,by omega,by omega,by omega⟩
    ·exact nf g9_1 ⟨h1.symm,by omega,by omega,by omega,by omega⟩
    ·exact nf g9_2 ⟨h1.symm,by omega,by omega,by omega,by omega⟩
   ·rcases (show p.a=0\/p.a=1\/p.a=2 by omega) with ha|ha|ha
    ·exact nf g10_0 ⟨h1.symm,by omega,by omega,by omega,by omega⟩
    ·exact nf g10_1 ⟨h1.symm,by omega,by omega,by omega,by omega⟩
    ·exact nf g10_2 ⟨h1.symm,by omega,by omega,by omega,by omega⟩
theorem run4 (hi:c.ins=4) (hpr:c.ok=true->pr c=true) (hsz:c.ok=true->0<=sz c/\sz c<=200) (hk:k (Abb (sz c) c p)=true):Ai (Asu [Bq,Yb sz pr] [(142,Uj)]) 300 40 [c.av,p.av] k false=true:=by
 obtain ⟨ob,ins,thr,kind,str,bits,cap,node,batch,chunk,limit,most⟩:=c
 obtain rfl:ins=4:=hi
 refine (t_at4 ⟨ob,4,thr,kind,str,bits,cap,node,batch,chunk,limit,most⟩ p sz pr k).trans ?_
 dsimp only
 cases ho:Conf.ok ⟨ob,4,thr,kind,str,bits,cap,node,batch,chunk,limit,most⟩ with
 | false =>
  have e:Az ⟨ob,4,thr,kind,str,bits,cap,node,batch,chunk,limit,most⟩=40:=by simp [Az,ho]
  rw [e];unfold Abb atN atE at hk;rw [ho] at hk;exact hk
 | true =>
  have e:Az ⟨ob,4,thr,kind,str,bits,cap,node,batch,chunk,limit,most⟩=0:=by simp [Az,ho]
  have L:=Ao5 ho hk;have L2:=Ao6 ho hk;have hp:=hpr ho;obtain ⟨z0,z1⟩:=hsz ho;have hO:=Hy.1 ho;simp only [Conf.OkP] at hO;refine condI (fun h=>by rw [e] at h;cases h) (fun _=>?_)
  generalize hz:sz ⟨ob,4,thr,kind,str,bits,cap,node,batch,chunk,limit,most⟩=z at *;refine andI (Ak.2 ⟨rfl,by omega,by omega,by omega,by omega,by omega,by omega,by omega,by omega,rfl,rfl,rfl,rfl⟩) ?_
  refine condI (fun hf=>Tf (by
    obtain ⟨f1,f2,f3,f4,f5⟩:=Ak.1 hf;have f1:(1:Int)=p.part:=f1;have f2:(0:Int)<=p.a:=f2;have f3:=f3;have f4:0<=p.b:=f4;have f5:=f5;refine L _ (.inl ⟨.inl f1.symm,by omega,by omega⟩) ?_
    unfold whereS headS;dsimp only;rw [<- f1];simp only [reduceIte,Int.reduceEq,Int.sub_zero,Int.mul_one,Int.one_mul];omega)) (fun g1_0=>?_)
  refine andI (Ak.2 ⟨rfl,by omega,by omega,by omega,by omega,by omega,by omega,by omega,by omega,rfl,rfl,rfl,rfl⟩) ?_
  refine condI (fun hf=>Tf (by
    obtain ⟨f1,f2,f3,f4,f5⟩:=Ak.1 hf;have f1:(2:Int)=p.part:=f1;have f2:(0:Int)<=p.a:=f2;have f3:=f3;have f4:0<=p.b:=f4;have f5:=f5;refine L _ (.inl ⟨.inr (.inl f1.symm),by omega,by omega⟩) ?_
    unfold whereS headS;dsimp only;rw [<- f1];simp only [reduceIte,Int.reduceEq,Int.sub_zero,Int.mul_one,Int.one_mul];omega)) (fun g2_0=>?_)
  refine andI (Ak.2 ⟨rfl,by omega,by omega,by omega,by omega,by omega,by omega,by omega,by omega,rfl,rfl,rfl,rfl⟩) ?_
  refine condI (fun hf=>Tf (by
    obtain ⟨f1,f2,f3,f4,f5⟩:=Ak.1 hf;have f1:(3:Int)=p.part:=f1;have f2:(0:Int)<=p.a:=f2;have f3:=f3;have f4:0<=p.b:=f4;have f5:=f5;refine L _ (.inl ⟨.inr (.inr f1.symm),by omega,by omega⟩) ?_
    unfold whereS headS;dsimp only;rw [<- f1];simp only [reduceIte,Int.reduceEq,Int.sub_zero,Int.mul_one,Int.one_mul];omega)) (fun g3_0=>?_)
  refine andI (Ak.2 ⟨rfl,by omega,by omega,by omega,by omega,by omega,by omega,by omega,by omega,rfl,rfl,rfl,rfl⟩) ?_
  refine condI (fun hf=>Tf (by
    obtain ⟨f1,f2,f3,f4,f5⟩:=Ak.1 hf;have f1:(4:Int)=p.part:=f1;have f2:(0:Int)<=p.a:=f2;have f3:=f3;have f4:0<=p.b:=f4;have f5:=f5;refine L _ (.inr (.inl ⟨.inl f1.symm,by omega,by show p.a<thr;omega,by omega⟩)) ?_
    unfold whereS headS;dsimp only;rw [<- f1];simp only [reduceIte,Int.reduceEq,Int.sub_zero,Int.mul_one,Int.one_mul];omega)) (fun g4_0=>?_)
  refine andI (Ak.2 ⟨rfl,by omega,by omega,by omega,by omega,by omega,by omega,by omega,by omega,rfl,rfl,rfl,rfl⟩) ?_
  refine condI (fun hf=>Tf (by
    obtain ⟨f1,f2,f3,f4,f5⟩:=Ak.1 hf;have f1:(5:Int)=p.part:=f1;have f2:(0:Int)<=p.a:=f2;have f3:=f3;have f4:0<=p.b:=f4;have f5:=f5;refine L _ (.inr (.inl ⟨.inr f1.symm,by omega,by show p.a<thr;omega,by omega⟩)) ?_
    unfold whereS headS;dsimp only;rw [<- f1];simp only [reduceIte,Int.reduceEq,Int.sub_zero,Int.mul_one,Int.one_mul];omega)) (fun g5_0=>?_)
  refine condI (fun hk0=>?_) (fun hk0=>?_)
  ·have hk1:kind=1:=Odt hk0
   refine andI (Ak.2 ⟨rfl,by omega,by omega,by omega,by omega,by omega,by omega,by omega,by omega,rfl,rfl,rfl,rfl⟩) ?_
   refine condI (fun hf=>(by
    obtain ⟨f1,f2,f3,f4,f5⟩:=Ak.1 hf;have f1:(6:Int)=p.part:=f1;have f2:(0:Int)<=p.a:=f2;have f3:=f3;have f4:0<=p.b:=f4;have f5:=f5;refine L _ (.inr (.inr (.inl ⟨f1.symm,hk1,by omega,by omega,by omega,by show p.b<thr;omega⟩))) ?_
    unfold whereS headS;dsimp only;rw [<- f1];simp only [reduceIte,Int.reduceEq,Int.sub_zero,Int.mul_one,Int.one_mul,hk1];omega)) (fun g6_0=>?_)
   refine andI (Ak.2 ⟨rfl,by omega,by omega,by omega,by omega,by omega,by omega,by omega,by omega,rfl,rfl,rfl,rfl⟩) ?_
   refine condI (fun hf=>(by
    obtain ⟨f1,f2,f3,f4,f5⟩:=Ak.1 hf;have f1:(9:Int)=p.part:=f1;have f2:(0:Int)<=p.a:=f2;have f3:=f3;have f4:0<=p.b:=f4;have f5:=f5;refine L _ (.inr (.inr (.inr (.inr (.inl ⟨f1.symm,by omega,by show p.a<4;omega,by omega⟩))))) ?_
    unfold whereS headS;dsimp only;rw [<- f1];simp only [reduceIte,Int.reduceEq,Int.sub_zero,Int.mul_one,Int.one_mul,hk1];rw [show p.a=0 by omega]
    try simp only [Int.sub_self,Int.zero_mul,Int.one_mul,Int.mul_one]
    omega)) (fun g9_0=>?_)
   refine andI hp ?_;refine andI (Ak.2 ⟨rfl,by omega,by omega,by omega,by omega,by omega,by omega,by omega,by omega,rfl,rfl,rfl,rfl⟩) ?_
   refine condI (fun hf=>(by
    obtain ⟨f1,f2,f3,f4,f5⟩:=Ak.1 hf;have f1:(10:Int)=p.part:=f1;have f2:(0:Int)<=p.a:=f2;have f3:=f3;have f4:0<=p.b:=f4;have f5:=f5;refine L _ (.inr (.inr (.inr (.inr (.inr ⟨f1.symm,by omega,by show p.a<4;omega,by omega,by omega⟩))))) ?_
    unfold whereS headS;dsimp only;rw [<- f1];simp only [reduceIte,Int.reduceEq,Int.sub_zero,Int.mul_one,Int.one_mul,hk1];rw [show p.a=0 by omega]
    try simp only [Int.sub_self,Int.zero_mul,Int.one_mul,Int.mul_one]
    omega)) (fun g10_0=>?_)
   refine andI (Ak.2 ⟨rfl,by omega,by omega,by omega,by omega,by omega,by omega,by omega,by omega,rfl,rfl,rfl,rfl⟩) ?_
   refine condI (fun hf=>(by
    obtain ⟨f1,f2,f3,f4,f5⟩:=Ak.1 hf;have f1:(9:Int)=p.part:=f1;have f2:(1:Int)<=p.a:=f2;have f3:=f3;have f4:0<=p.b:=f4;have f5:=f5;refine L _ (.inr (.inr (.inr (.inr (.inl ⟨f1.symm,by omega,by show p.a<4;omega,by omega⟩))))) ?_
    unfold whereS headS;dsimp only;rw [<- f1];simp only [reduceIte,Int.reduceEq,Int.sub_zero,Int.mul_one,Int.one_mul,hk1];rw [show p.a=1 by omega]
    try simp only [Int.sub_self,Int.zero_mul,Int.one_mul,Int.mul_one]
    omega)) (fun g9_1=>?_)
   refine andI hp ?_;refine andI (Ak.2 ⟨rfl,by omega,by omega,by omega,by omega,by omega,by omega,by omega,by omega,rfl,rfl,rfl,rfl⟩) ?_
   refine condI (fun hf=>(by
    obtain ⟨f1,f2,f3,f4,f5⟩:=Ak.1 hf;have f1:(10:Int)=p.part:=f1;have f2:(1:Int)<=p.a:=f2;have f3:=f3;have f4:0<=p.b:=f4;have f5:=f5;refine L _ (.inr (.inr (.inr (.inr (.inr ⟨f1.symm,by omega,by show p.a<4;omega,by omega,by omega⟩))))) ?_
    unfold whereS headS;dsimp only;rw [<- f1];simp only [reduceIte,Int.reduceEq,Int.sub_zero,Int.mul_one,Int.one_mul,hk1];rw [show p.a=1 by omega]
    try simp only [Int.sub_self,Int.zero_mul,Int.one_mul,Int.mul_one]
    omega)) (fun g10_1=>?_)
   refine andI (Ak.2 ⟨rfl,by omega,by omega,by omega,by omega,by omega,by omega,by omega,by omega,rfl,rfl,rfl,rfl⟩) ?_
   refine condI (fun hf=>(by
    obtain ⟨f1,f2,f3,f4,f5⟩:=Ak.1 hf;have f1:(9:Int)=p.part:=f1;have f2:(2:Int)<=p.a:=f2;have f3:=f3;have f4:0<=p.b:=f4;have f5:=f5;refine L _ (.inr (.inr (.inr (.inr (.inl ⟨f1.symm,by omega,by show p.a<4;omega,by omega⟩))))) ?_
    unfold whereS headS;dsimp only;rw [<- f1];simp only [reduceIte,Int.reduceEq,Int.sub_zero,Int.mul_one,Int.one_mul,hk1];rw [show p.a=2 by omega]
    try simp only [Int.sub_self,Int.zero_mul,Int.one_mul,Int.mul_one]
    omega)) (fun g9_2=>?_)
   refine andI hp ?_;refine andI (Ak.2 ⟨rfl,by omega,by omega,by omega,by omega,by omega,by omega,by omega,by omega,rfl,rfl,rfl,rfl⟩) ?_
   refine condI (fun hf=>(by
    obtain ⟨f1,f2,f3,f4,f5⟩:=Ak.1 hf;have f1:(10:Int)=p.part:=f1;have f2:(2:Int)<=p.a:=f2;have f3:=f3;have f4:0<=p.b:=f4;have f5:=f5;refine L _ (.inr (.inr (.inr (.inr (.inr ⟨f1.symm,by omega,by show p.a<4;omega,by omega,by omega⟩))))) ?_
    unfold whereS headS;dsimp only;rw [<- f1];simp only [reduceIte,Int.reduceEq,Int.sub_zero,Int.mul_one,Int.one_mul,hk1];rw [show p.a=2 by omega]
    try simp only [Int.sub_self,Int.zero_mul,Int.one_mul,Int.mul_one]
    omega)) (fun g10_2=>?_)
   refine andI (Ak.2 ⟨rfl,by omega,by omega,by omega,by omega,by omega,by omega,by omega,by omega,rfl,rfl,rfl,rfl⟩) ?_
   refine condI (fun hf=>(by
    obtain ⟨f1,f2,f3,f4,f5⟩:=Ak.1 hf;have f1:(9:Int)=p.part:=f1;have f2:(3:Int)<=p.a:=f2;have f3:=f3;have f4:0<=p.b:=f4;have f5:=f5;refine L _ (.inr (.inr (.inr (.inr (.inl ⟨f1.symm,by omega,by show p.a<4;omega,by omega⟩))))) ?_
    unfold whereS headS;dsimp only;rw [<- f1];simp only [reduceIte,Int.reduceEq,Int.sub_zero,Int.mul_one,Int.one_mul,hk1];rw [show p.a=3 by omega]
    try simp only [Int.sub_self,Int.zero_mul,Int.one_mul,Int.mul_one]
    omega)) (fun g9_3=>?_)
   refine andI hp ?_;refine andI (Ak.2 ⟨rfl,by omega,by omega,by omega,by omega,by omega,by omega,by omega,by omega,rfl,rfl,rfl,rfl⟩) ?_
   refine condI (fun hf=>(by
    obtain ⟨f1,f2,f3,f4,f5⟩:=Ak.1 hf;have f1:(10:Int)=p.part:=f1;have f2:(3:Int)<=p.a:=f2;have f3:=f3;have f4:0<=p.b:=f4;have f5:=f5;refine L _ (.inr (.inr (.inr (.inr (.inr ⟨f1.symm,by omega,by show p.a<4;omega,by omega,by omega⟩))))) ?_
    unfold whereS headS;dsimp only;rw [<- f1];simp only [reduceIte,Int.reduceEq,Int.sub_zero,Int.mul_one,Int.one_mul,hk1];rw [show p.a=3 by omega]
    try simp only [Int.sub_self,Int.zero_mul,Int.one_mul,Int.mul_one]
    omega)) (fun g10_3=>?_)
   refine L2 (fun hh=>?_)
   unfold Ol at hh;dsimp only at hh
   rcases hh with ⟨h1|h1|h1,h2,h3⟩|⟨h1|h1,h2,h3,h4⟩|⟨h1,h2,h3,h4,h5,h6⟩|⟨h1|h1,h2,h3,h4,h5,h6⟩|⟨h1,h2,h3,h4⟩|⟨h1,h2,h3,h4,h5⟩
   ·exact nf g1_0 ⟨h1.symm,by omega,by omega,by omega,by omega⟩
   ·exact nf g2_0 ⟨h1.symm,by omega,by omega,by omega,by omega⟩
   ·exact nf g3_0 ⟨h1.symm,by omega,by omega,by omega,by omega⟩
   ·exact nf g4_0 ⟨h1.symm,by omega,by omega,by omega,by omega⟩
   ·exact nf g5_0 ⟨h1.symm,by omega,by omega,by omega,by omega⟩
   ·exact nf g6_0 ⟨h1.symm,by omega,by omega,by omega,by omega⟩
   ·exact h2 hk1
   ·exact h2 hk1
   ·rcases (show p.a=0\/p.a=1\/p.a=2\/p.a=3 by omega) with ha|ha|ha|ha
    ·exact nf g9_0 ⟨h1.symm,by omega,by omega,by omega,by omega⟩
    ·exact nf g9_1 ⟨h1.symm,by omega,by omega,by omega,by omega⟩
    ·exact nf g9_2 ⟨h1.symm,by omega,by omega,by omega,by omega⟩
    ·exact nf g9_3 ⟨h1.symm,by omega,by omega,by omega,by omega⟩
   ·rcases (show p.a=0\/p.a=1\/p.a=2\/p.a=3 by omega) with ha|ha|ha|ha
    ·exact nf g10_0 ⟨h1.symm,by omega,by omega,by omega,by omega⟩
    ·exact nf g10_1 ⟨h1.symm,by omega,by omega,by omega,by omega⟩
    ·exact nf g10_2 ⟨h1.symm,by omega,by omega,by omega,by omega⟩
    ·exact nf g10_3 ⟨h1.symm,by omega,by omega,by omega,by omega⟩
  ·have hk1:¬ kind=1:=Odf hk0
   refine andI (Ak.2 ⟨rfl,by omega,by omega,by omega,by omega,by omega,by omega,by omega,by omega,rfl,rfl,rfl,rfl⟩) ?_
   refine condI (fun hf=>(by
    obtain ⟨f1,f2,f3,f4,f5⟩:=Ak.1 hf;have f1:(7:Int)=p.part:=f1;have f2:(0:Int)<=p.a:=f2;have f3:=f3;have f4:0<=p.b:=f4;have f5:=f5;refine L _ (.inr (.inr (.inr (.inl ⟨.inl f1.symm,hk1,by omega,by omega,by omega,by show p.b<str;omega⟩)))) ?_
    unfold whereS headS;dsimp only;rw [<- f1];simp only [reduceIte,Int.reduceEq,Int.sub_zero,Int.mul_one,Int.one_mul,hk1];omega)) (fun g7_0=>?_)
   refine andI (Ak.2 ⟨rfl,by omega,by omega,by omega,by omega,by omega,by omega,by omega,by omega,rfl,rfl,rfl,rfl⟩) ?_
   refine condI (fun hf=>(by
    obtain ⟨f1,f2,f3,f4,f5⟩:=Ak.1 hf;have f1:(8:Int)=p.part:=f1;have f2:(0:Int)<=p.a:=f2;have f3:=f3;have f4:0<=p.b:=f4;have f5:=f5;refine L _ (.inr (.inr (.inr (.inl ⟨.inr f1.symm,hk1,by omega,by omega,by omega,by show p.b<str;omega⟩)))) ?_
    unfold whereS headS;dsimp only;rw [<- f1];simp only [reduceIte,Int.reduceEq,Int.sub_zero,Int.mul_one,Int.one_mul,hk1];omega)) (fun g8_0=>?_)
   refine andI (Ak.2 ⟨rfl,by omega,by omega,by omega,by omega,by omega,by omega,by omega,by omega,rfl,rfl,rfl,rfl⟩) ?_
   refine condI (fun hf=>(by
    obtain ⟨f1,f2,f3,f4,f5⟩:=Ak.1 hf;have f1:(9:Int)=p.part:=f1;have f2:(0:Int)<=p.a:=f2;have f3:=f3;have f4:0<=p.b:=f4;have f5:=f5;refine L _ (.inr (.inr (.inr (.inr (.inl ⟨f1.symm,by omega,by show p.a<4;omega,by omega⟩))))) ?_
    unfold whereS headS;dsimp only;rw [<- f1];simp only [reduceIte,Int.reduceEq,Int.sub_zero,Int.mul_one,Int.one_mul,hk1];rw [show p.a=0 by omega]
    try simp only [Int.sub_self,Int.zero_mul,Int.one_mul,Int.mul_one]
    omega)) (fun g9_0=>?_)
   refine andI hp ?_;refine andI (Ak.2 ⟨rfl,by omega,by omega,by omega,by omega,by omega,by omega,by omega,by omega,rfl,rfl,rfl,rfl⟩) ?_
   refine condI (fun hf=>(by
    obtain ⟨f1,f2,f3,f4,f5⟩:=Ak.1 hf;have f1:(10:Int)=p.part:=f1;have f2:(0:Int)<=p.a:=f2;have f3:=f3;have f4:0<=p.b:=f4;have f5:=f5;refine L _ (.inr (.inr (.inr (.inr (.inr ⟨f1.symm,by omega,by show p.a<4;omega,by omega,by omega⟩))))) ?_
    unfold whereS headS;dsimp only;rw [<- f1];simp only [reduceIte,Int.reduceEq,Int.sub_zero,Int.mul_one,Int.one_mul,hk1];rw [show p.a=0 by omega]
    try simp only [Int.sub_self,Int.zero_mul,Int.one_mul,Int.mul_one]
    omega)) (fun g10_0=>?_)
   refine andI (Ak.2 ⟨rfl,by omega,by omega,by omega,by omega,by omega,by omega,by omega,by omega,rfl,rfl,rfl,rfl⟩) ?_
   refine condI (fun hf=>(by
    obtain ⟨f1,f2,f3,f4,f5⟩:=Ak.1 hf;have f1:(9:Int)=p.part:=f1;have f2:(1:Int)<=p.a:=f2;have f3:=f3;have f4:0<=p.b:=f4;have f5:=f5;refine L _ (.inr (.inr (.inr (.inr (.inl ⟨f1.symm,by omega,by show p.a<4;omega,by omega⟩))))) ?_
    unfold whereS headS;dsimp only;rw [<- f1];simp only [reduceIte,Int.reduceEq,Int.sub_zero,Int.mul_one,Int.one_mul,hk1];rw [show p.a=1 by omega]
    try simp only [Int.sub_self,Int.zero_mul,Int.one_mul,Int.mul_one]
    omega)) (fun g9_1=>?_)
   refine andI hp ?_;refine andI (Ak.2 ⟨rfl,by omega,by omega,by omega,by omega,by omega,by omega,by omega,by omega,rfl,rfl,rfl,rfl⟩) ?_
   refine condI (fun hf=>(by
    obtain ⟨f1,f2,f3,f4,f5⟩:=Ak.1 hf;have f1:(10:Int)=p.part:=f1;have f2:(1:Int)<=p.a:=f2;have f3:=f3;have f4:0<=p.b:=f4;have f5:=f5;refine L _ (.inr (.inr (.inr (.inr (.inr ⟨f1.symm,by omega,by show p.a<4;omega,by omega,by omega⟩))))) ?_
    unfold whereS headS;dsimp only;rw [<- f1];simp only [reduceIte,Int.reduceEq,Int.sub_zero,Int.mul_one,Int.one_mul,hk1];rw [show p.a=1 by omega]
    try simp only [Int.sub_self,Int.zero_mul,Int.one_mul,Int.mul_one]
    omega)) (fun g10_1=>?_)
   refine andI (Ak.2 ⟨rfl,by omega,by omega,by omega,by omega,by omega,by omega,by omega,by omega,rfl,rfl,rfl,rfl⟩) ?_
   refine condI (fun hf=>(by
    obtain ⟨f1,f2,f3,f4,f5⟩:=Ak.1 hf;have f1:(9:Int)=p.part:=f1;have f2:(2:Int)<=p.a:=f2;have f3:=f3;have f4:0<=p.b:=f4;have f5:=f5;refine L _ (.inr (.inr (.inr (.inr (.inl ⟨f1.symm,by omega,by show p.a<4;omega,by omega⟩))))) ?_
    unfold whereS headS;dsimp only;rw [<- f1];simp only [reduceIte,Int.reduceEq,Int.sub_zero,Int.mul_one,Int.one_mul,hk1];rw [show p.a=2 by omega]
    try simp only [Int.sub_self,Int.zero_mul,Int.one_mul,Int.mul_one]
    omega)) (fun g9_2=>?_)
   refine andI hp ?_;refine andI (Ak.2 ⟨rfl,by omega,by omega,by omega,by omega,by omega,by omega,by omega,by omega,rfl,rfl,rfl,rfl⟩) ?_
   refine condI (fun hf=>(by
    obtain ⟨f1,f2,f3,f4,f5⟩:=Ak.1 hf;have f1:(10:Int)=p.part:=f1;have f2:(2:Int)<=p.a:=f2;have f3:=f3;have f4:0<=p.b:=f4;have f5:=f5;refine L _ (.inr (.inr (.inr (.inr (.inr ⟨f1.symm,by omega,by show p.a<4;omega,by omega,by omega⟩))))) ?_
    unfold whereS headS;dsimp only;rw [<- f1];simp only [reduceIte,Int.reduceEq,Int.sub_zero,Int.mul_one,Int.one_mul,hk1];rw [show p.a=2 by omega]
    try simp only [Int.sub_self,Int.zero_mul,Int.one_mul,Int.mul_one]
    omega)) (fun g10_2=>?_)
   refine andI (Ak.2 ⟨rfl,by omega,by omega,by omega,by omega,by omega,by omega,by omega,by omega,rfl,rfl,rfl,rfl⟩) ?_
   refine condI (fun hf=>(by
    obtain ⟨f1,f2,f3,f4,f5⟩:=Ak.1 hf;have f1:(9:Int)=p.part:=f1;have f2:(3:Int)<=p.a:=f2;have f3:=f3;have f4:0<=p.b:=f4;have f5:=f5;refine L _ (.inr (.inr (.inr (.inr (.inl ⟨f1.symm,by omega,by show p.a<4;omega,by omega⟩))))) ?_
    unfold whereS headS;dsimp only;rw [<- f1];simp only [reduceIte,Int.reduceEq,Int.sub_zero,Int.mul_one,Int.one_mul,hk1];rw [show p.a=3 by omega]
    try simp only [Int.sub_self,Int.zero_mul,Int.one_mul,Int.mul_one]
    omega)) (fun g9_3=>?_)
   refine andI hp ?_;refine andI (Ak.2 ⟨rfl,by omega,by omega,by omega,by omega,by omega,by omega,by omega,by omega,rfl,rfl,rfl,rfl⟩) ?_
   refine condI (fun hf=>(by
    obtain ⟨f1,f2,f3,f4,f5⟩:=Ak.1 hf;have f1:(10:Int)=p.part:=f1;have f2:(3:Int)<=p.a:=f2;have f3:=f3;have f4:0<=p.b:=f4;have f5:=f5;refine L _ (.inr (.inr (.inr (.inr (.inr ⟨f1.symm,by omega,by show p.a<4;omega,by omega,by omega⟩))))) ?_
    unfold whereS headS;dsimp only;rw [<- f1];simp only [reduceIte,Int.reduceEq,Int.sub_zero,Int.mul_one,Int.one_mul,hk1];rw [show p.a=3 by omega]
    try simp only [Int.sub_self,Int.zero_mul,Int.one_mul,Int.mul_one]
    omega)) (fun g10_3=>?_)
   refine L2 (fun hh=>?_)
   unfold Ol at hh;dsimp only at hh
   rcases hh with ⟨h1|h1|h1,h2,h3⟩|⟨h1|h1,h2,h3,h4⟩|⟨h1,h2,h3,h4,h5,h6⟩|⟨h1|h1,h2,h3,h4,h5,h6⟩|⟨h1,h2,h3,h4⟩|⟨h1,h2,h3,h4,h5⟩
   ·exact nf g1_0 ⟨h1.symm,by omega,by omega,by omega,by omega⟩
   ·exact nf g2_0 ⟨h1.symm,by omega,by omega,by omega,by omega⟩
   ·exact nf g3_0 ⟨h1.symm,by omega,by omega,by omega,by omega⟩
   ·exact nf g4_0 ⟨h1.symm,by omega,by omega,by omega,by omega⟩
   ·exact nf g5_0 ⟨h1.symm,by omega,by omega,by omega,by omega⟩
   ·exact hk1 h2
   ·exact nf g7_0 ⟨h1.symm,by omega,by omega,by omega,by omega⟩
   ·exact nf g8_0 ⟨h1.symm,by omega,by omega,by omega,by omega⟩
   ·rcases (show p.a=0\/p.a=1\/p.a=2\/p.a=3 by omega) with ha|ha|ha|ha
    ·exact nf g9_0 ⟨h1.symm,by omega,by omega,by omega,by omega⟩
    ·exact nf g9_1 ⟨h1.symm,by omega,by omega,by omega,by omega⟩
    ·exact nf g9_2 ⟨h1.symm,by omega,by omega,by omega,by omega⟩
    ·exact nf g9_3 ⟨h1.symm,by omega,by omega,by omega,by omega⟩
   ·rcases (show p.a=0\/p.a=1\/p.a=2\/p.a=3 by omega) with ha|ha|ha|ha
    ·exact nf g10_0 ⟨h1.symm,by omega,by omega,by omega,by omega⟩
    ·exact nf g10_1 ⟨h1.symm,by omega,by omega,by omega,by omega⟩
    ·exact nf g10_2 ⟨h1.symm,by omega,by omega,by omega,by omega⟩
    ·exact nf g10_3 ⟨h1.symm,by omega,by omega,by omega,by omega⟩
theorem Bgw:LoopsOk (cfg [Bq]) (Dx (Ef Tryz.prog 40)) [Ao4]:=by
 have hl:Dx (Ef Tryz.prog 40)=[Akt (Ef Tryz.prog 40) 0]:=by kernel_rfl
 rw [hl]
 exact ⟨fun st k h=>absurd h (by unfold Ao4;decide),trivial⟩
theorem Bo8 (hs:Bc Tryz.prog (Cb gs) (Yb sz pr)) (hpr:∀ c:Conf,c.ok=true->pr c=true) (hsz:∀ c:Conf,c.ok=true->0<=sz c/\sz c<=200):Bc Tryz.prog (Cb gs) (40,on2 Dp Bab (fun _ _=>true) (fun c p=>Abb (sz c) c p)):=Cm fun c p _=>by
 classical
 have fin:(∀ k:AV->Bool,k (Abb (sz c) c p)=true->Ai (Asu [Bq,Yb sz pr] [(142,Uj)]) 300 40 [c.av,p.av] k false=true)->ACalls Tryz.prog (Cb gs) 40 [c.av,p.av] (fun v=>v=Abb (sz c) c p):=fun h =>
  (Ag3 (hCx hs) (h (fun v=>decide (v=Abb (sz c) c p)) (by simp))).mono fun v hv=>by simpa using hv
 cases ho:c.ok with
 | true =>
  have hO:=Hy.1 ho;simp only [Conf.OkP] at hO
  rcases (show c.ins=2\/c.ins=3\/c.ins=4 by omega) with hi|hi|hi
  ·exact fin fun k hk=>run2 hi (hpr c) (hsz c) hk
  ·exact fin fun k hk=>run3 hi (hpr c) (hsz c) hk
  ·exact fin fun k hk=>run4 hi (hpr c) (hsz c) hk
 | false =>
  refine Aar (q:=fun _=>false) base (Ah Jn Ap) (n:=300) (fs:=[Ao4]) (by kernel_rfl) Bgw fun k hk=>?_
  refine (Bgv c p k).trans ?_;have e:Az c=40:=by simp [Az,ho]
  rw [e];unfold Abb atN atE at hk;rw [ho] at hk;exact hk
end
end Go.Bas.BasZAt4
