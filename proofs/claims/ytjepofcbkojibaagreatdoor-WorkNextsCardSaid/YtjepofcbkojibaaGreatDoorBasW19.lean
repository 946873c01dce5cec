/- The document's program of settings: it answers what the program's does. -/
import Derived.Test.YtjepofcbkojibaaGreatDoorBasW17
set_option maxRecDepth 100000
set_option maxHeartbeats 4000000
set_option linter.unusedVariables false
set_option linter.unusedSimpArgs false
namespace Go.Bas.BasZR15p
noncomputable section
open Go.RowKit Go.Proofs
open BasZBase BasZOk BasZR14 BasZBranch BasZOk4 BasZR15
def Bqz (q:Int):Bool:=!(decide (q=2) || decide (q=4))
def Bx8:Sum:=(87,on2 Dp Ji (fun c f=>(decide (c.ob=4)&&(posH f&&(decide (1<=lng f/\lng f<=3)&&(f_wmay_0 (wlk c f) c&&Bqz f.pc))))) (fun c f=>.agg [.int .u8 (Ha (wlk c f)),.int .i64 (Fa (wlk c f)),.int .u64 (He (wlk c f)),.int .u64 (Hf (wlk c f)),.int .u64 (Hg (wlk c f)),.int .i64 (Hl (wlk c f)),.int .u32 (Hm (wlk c f))]))
abbrev Bqq (c:Conf):Conf:=⟨4,c.ins,c.thr,c.kind,c.str,c.bits,c.cap,c.node,c.batch,c.chunk,c.limit,c.most⟩
abbrev Bvm:=cfg [Bm7]
section
variable (c:Conf)
theorem Byx (kind a b i j n p h x y:Int):Ai Bvm 400 87 [(Bqq c).av,(⟨kind,a,b,0,i,j,n,p,h,x,y⟩:Frm).av] (fun w_=>Tr.ev (Dy (wlk (Bqq c) (⟨kind,a,b,0,i,j,n,p,h,x,y⟩:Frm))) (fun l_=>(seG [(seI .u8),(seI .i64),(seI .u64),(seI .u64),(seI .u64),(seI .i64),(seI .u32)]).eq ((fun l_=>.agg [lget l_ 0,lget l_ 1,lget l_ 2,lget l_ 3,lget l_ 4,lget l_ 5,lget l_ 6]) l_) w_) false) false=true:=Eq.trans (b:=(ba (decide ((IntKind.wrap .i64 i)=(IntKind.wrap .i64 i))&&true) true)) (by kernel_rfl) (band (Aw (Ddt rfl)) rfl)
theorem Byy (kind a b i j n p h x y:Int):Ai Bvm 400 87 [(Bqq c).av,(⟨kind,a,b,3,i,j,n,p,h,x,y⟩:Frm).av] (fun w_=>Tr.ev (Dy (wlk (Bqq c) (⟨kind,a,b,3,i,j,n,p,h,x,y⟩:Frm))) (fun l_=>(seG [(seI .u8),(seI .i64),(seI .u64),(seI .u64),(seI .u64),(seI .i64),(seI .u32)]).eq ((fun l_=>.agg [lget l_ 0,lget l_ 1,lget l_ 2,lget l_ 3,lget l_ 4,lget l_ 5,lget l_ 6]) l_) w_) false) false=true:=Eq.trans (b:=(ba (decide ((IntKind.wrap .i64 i)=(IntKind.wrap .i64 i))&&true) true)) (by kernel_rfl) (band (Aw (Ddt rfl)) rfl)
theorem Byz (kind a b i j n p h x y:Int):Ai Bvm 400 87 [(Bqq c).av,(⟨kind,a,b,5,i,j,n,p,h,x,y⟩:Frm).av] (fun w_=>Tr.ev (Dy (wlk (Bqq c) (⟨kind,a,b,5,i,j,n,p,h,x,y⟩:Frm))) (fun l_=>(seG [(seI .u8),(seI .i64),(seI .u64),(seI .u64),(seI .u64),(seI .i64),(seI .u32)]).eq ((fun l_=>.agg [lget l_ 0,lget l_ 1,lget l_ 2,lget l_ 3,lget l_ 4,lget l_ 5,lget l_ 6]) l_) w_) false) false=true:=Eq.trans (b:=(ba (decide ((IntKind.wrap .i64 i)=(IntKind.wrap .i64 i))&&true) true)) (by kernel_rfl) (band (Aw (Ddt rfl)) rfl)
theorem By0 (kind a b i j n p h x y:Int):Ai Bvm 400 87 [(Bqq c).av,(⟨kind,a,b,6,i,j,n,p,h,x,y⟩:Frm).av] (fun w_=>Tr.ev (Dy (wlk (Bqq c) (⟨kind,a,b,6,i,j,n,p,h,x,y⟩:Frm))) (fun l_=>(seG [(seI .u8),(seI .i64),(seI .u64),(seI .u64),(seI .u64),(seI .i64),(seI .u32)]).eq ((fun l_=>.agg [lget l_ 0,lget l_ 1,lget l_ 2,lget l_ 3,lget l_ 4,lget l_ 5,lget l_ 6]) l_) w_) false) false=true:=Eq.trans (b:=(ba (decide ((IntKind.wrap .i64 ((IntKind.wrap .i64 p)-1))=(IntKind.wrap .i64 ((IntKind.wrap .i64 p)-1)))&&true) true)) (by kernel_rfl) (band (Aw (Ddt rfl)) rfl)
theorem Bxg (kind a b i j n p h x y:Int):Ai Bvm 400 87 [(Bqq c).av,(⟨kind,a,b,20,i,j,n,p,h,x,y⟩:Frm).av] (fun w_=>Tr.ev (Dy (wlk (Bqq c) (⟨kind,a,b,20,i,j,n,p,h,x,y⟩:Frm))) (fun l_=>(seG [(seI .u8),(seI .i64),(seI .u64),(seI .u64),(seI .u64),(seI .i64),(seI .u32)]).eq ((fun l_=>.agg [lget l_ 0,lget l_ 1,lget l_ 2,lget l_ 3,lget l_ 4,lget l_ 5,lget l_ 6]) l_) w_) false) false=true:=Eq.trans (b:=(ba (decide (x=x)&&true) true)) (by kernel_rfl) (band (Aw (Ddt rfl)) rfl)
theorem Bxh (kind a b i j n p h x y:Int):Ai Bvm 400 87 [(Bqq c).av,(⟨kind,a,b,21,i,j,n,p,h,x,y⟩:Frm).av] (fun w_=>Tr.ev (Dy (wlk (Bqq c) (⟨kind,a,b,21,i,j,n,p,h,x,y⟩:Frm))) (fun l_=>(seG [(seI .u8),(seI .i64),(seI .u64),(seI .u64),(seI .u64),(seI .i64),(seI .u32)]).eq ((fun l_=>.agg [lget l_ 0,lget l_ 1,lget l_ 2,lget l_ 3,lget l_ 4,lget l_ 5,lget l_ 6]) l_) w_) false) false=true:=Eq.trans (b:=true) (by kernel_rfl) rfl
theorem Bxi (kind a b i j n p h x y:Int):Ai Bvm 400 87 [(Bqq c).av,(⟨kind,a,b,22,i,j,n,p,h,x,y⟩:Frm).av] (fun w_=>Tr.ev (Dy (wlk (Bqq c) (⟨kind,a,b,22,i,j,n,p,h,x,y⟩:Frm))) (fun l_=>(seG [(seI .u8),(seI .i64),(seI .u64),(seI .u64),(seI .u64),(seI .i64),(seI .u32)]).eq ((fun l_=>.agg [lget l_ 0,lget l_ 1,lget l_ 2,lget l_ 3,lget l_ 4,lget l_ 5,lget l_ 6]) l_) w_) false) false=true:=Eq.trans (b:=true) (by kernel_rfl) rfl
theorem Bxj (kind a b i j n p h x y:Int):Ai Bvm 400 87 [(Bqq c).av,(⟨kind,a,b,23,i,j,n,p,h,x,y⟩:Frm).av] (fun w_=>Tr.ev (Dy (wlk (Bqq c) (⟨kind,a,b,23,i,j,n,p,h,x,y⟩:Frm))) (fun l_=>(seG [(seI .u8),(seI .i64),(seI .u64),(seI .u64),(seI .u64),(seI .i64),(seI .u32)]).eq ((fun l_=>.agg [lget l_ 0,lget l_ 1,lget l_ 2,lget l_ 3,lget l_ 4,lget l_ 5,lget l_ 6]) l_) w_) false) false=true:=Eq.trans (b:=true) (by kernel_rfl) rfl
end
theorem By1 (c:Conf) (f:Frm) (h:(decide (c.ob=4)&&(posH f&&(decide (1<=lng f/\lng f<=3)&&(f_wmay_0 (wlk c f) c&&Bqz f.pc))))=true):Ai Bvm 400 87 [c.av,f.av] (fun w_=>Tr.ev (Dy (wlk c f)) (fun l_=>(seG [(seI .u8),(seI .i64),(seI .u64),(seI .u64),(seI .u64),(seI .i64),(seI .u32)]).eq ((fun l_=>.agg [lget l_ 0,lget l_ 1,lget l_ 2,lget l_ 3,lget l_ 4,lget l_ 5,lget l_ 6]) l_) w_) false) false=true:=by
 have ho:=Odt (Aj h)
 have hm:=Aj (Af (Af (Af h)))
 have hq:=Af (Af (Af (Af h)))
 have hpc:f.pc=0\/f.pc=3\/f.pc=5\/f.pc=6\/f.pc=20\/f.pc=21\/f.pc=22\/f.pc=23\/f.pc=4\/f.pc=2:=Ana hm
 clear hm h
 rw [D8 ho]
 obtain ⟨kind,a,b,pc,i,j,n,p,hh,x,y⟩:=f
 have hq:Bqz pc=true:=hq
 have hpc:pc=0\/pc=3\/pc=5\/pc=6\/pc=20\/pc=21\/pc=22\/pc=23\/pc=4\/pc=2:=hpc
 rcases hpc with rfl|rfl|rfl|rfl|rfl|rfl|rfl|rfl|rfl|rfl
 ·exact Byx c kind a b i j n p hh x y
 ·exact Byy c kind a b i j n p hh x y
 ·exact Byz c kind a b i j n p hh x y
 ·exact By0 c kind a b i j n p hh x y
 ·exact Bxg c kind a b i j n p hh x y
 ·exact Bxh c kind a b i j n p hh x y
 ·exact Bxi c kind a b i j n p hh x y
 ·exact Bxj c kind a b i j n p hh x y
 ·cases hq
 ·cases hq
theorem B12:Bc Tryz.prog (Cb gs) Bx8:=Cm fun c f h=>Aq base (Ah Avq Ap) (n:=400) fun k hk=>(Dh (By1 c f h) (fun w_ hw=>((seG [(seI .u8),(seI .i64),(seI .u64),(seI .u64),(seI .u64),(seI .i64),(seI .u32)]).ok _ _ ((Tr.merge (Zg (wlk c f)) (Jz (Avp (Dn (Aj (Af h))) (Odt (Aj (Af (Af h)))).2 (Aj (Af (Af (Af h))))) (Odt (Aj (Af (Af h)))))).symm.trans hw))) k).trans hk
def Axn:Sum:=(87,on2 Dp Ji (fun c f=>(decide (c.ob=4)&&(posH f&&(decide (lng f=1)&&(f_wmay_0 (A7 c f 1) c&&!(Bqz f.pc)))))) (fun c f=>.agg [.int .u8 (Ha (A7 c f 1)),.int .i64 (Fa (A7 c f 1)),.int .u64 (He (A7 c f 1)),.int .u64 (Hf (A7 c f 1)),.int .u64 (Hg (A7 c f 1)),.int .i64 (Hl (A7 c f 1)),.int .u32 (Hm (A7 c f 1))]))
abbrev Bvn (a b h i j kind n p x y:Int):Frm:=⟨kind,a,b,4,i,j,n,p,h,x,y⟩
abbrev zco1 (a:Int):=decide ((IntKind.wrap .u64 (iand .u32 a 65535))=(IntKind.wrap .u64 (Int.tmod a 65536)))&&true
abbrev By2 (y:Int):Bool:=ba (decide ((IntKind.wrap .u64 ((IntKind.wrap .u64 y)+1))=(IntKind.wrap .u64 ((IntKind.wrap .u64 y)+1)))&&true) true
theorem A03 (c:Conf) (kind a b i j n p h x y:Int) (hl:decide (lng (Bvn a b h i j kind n p x y)=1)=true) (ha:0<=a/\a<4294967296):Ai (cfg [Am6]) 400 87 [(Bqq c).av,(Bvn a b h i j kind n p x y).av] (fun w_=>Tr.ev (Dy (A7 (Bqq c) (Bvn a b h i j kind n p x y) 1)) (fun l_=>(seG [(seI .u8),(seI .i64),(seI .u64),(seI .u64),(seI .u64),(seI .i64),(seI .u32)]).eq ((fun l_=>.agg [lget l_ 0,lget l_ 1,lget l_ 2,lget l_ 3,lget l_ 4,lget l_ 5,lget l_ 6]) l_) w_) false) false=true:=Eq.trans (b:=(ba (decide ((BasZR15.lng (Frm.mk kind a b 4 i j n p h x y))=1)) (ba (decide ((IntKind.wrap .i64 ((IntKind.wrap .i64 p)-1))=(IntKind.wrap .i64 ((IntKind.wrap .i64 p)-1)))&&true) (ba (decide ((IntKind.wrap .u64 ((IntKind.wrap .u64 j)+1))=(IntKind.wrap .u64 ((IntKind.wrap .u64 j)+1)))&&true) (ba (zco1 a) (By2 y)))))) (by kernel_rfl) (band hl (band (Aw (Ddt rfl)) (band (Aw (Ddt rfl)) (band (Aw (Axf ha)) (band (Aw (Ddt rfl)) rfl)))))
abbrev Bvo (a b i j kind n p x y:Int):Frm:=⟨kind,a,b,2,i,j,n,p,0,x,y⟩
abbrev B0g (j:Int):=decide ((IntKind.wrap .i64 j)=(IntKind.wrap .i64 j))&&true
theorem Ar4 (c:Conf) (kind a b i j n p x y:Int) (hl:decide (lng (Bvo a b i j kind n p x y)=1)=true) (ha:0<=a/\a<4294967296):Ai (cfg [Am6]) 400 87 [(Bqq c).av,(Bvo a b i j kind n p x y).av] (fun w_=>Tr.ev (Dy (A7 (Bqq c) (Bvo a b i j kind n p x y) 1)) (fun l_=>(seG [(seI .u8),(seI .i64),(seI .u64),(seI .u64),(seI .u64),(seI .i64),(seI .u32)]).eq ((fun l_=>.agg [lget l_ 0,lget l_ 1,lget l_ 2,lget l_ 3,lget l_ 4,lget l_ 5,lget l_ 6]) l_) w_) false) false=true:=Eq.trans (b:=(ba (decide ((BasZR15.lng (Frm.mk kind a b 2 i j n p 0 x y))=1)) (ba (B0g j) (ba (decide ((IntKind.wrap .u64 ((IntKind.wrap .u64 p)+1))=(IntKind.wrap .u64 ((IntKind.wrap .u64 p)+1)))&&true) (ba (zco1 a) (By2 y)))))) (by kernel_rfl) (band hl (band (Aw (Ddt rfl)) (band (Aw (Ddt rfl)) (band (Aw (Axf ha)) (band (Aw (Ddt rfl)) rfl)))))
theorem A04 (c:Conf) (f:Frm) (h:(decide (c.ob=4)&&(posH f&&(decide (lng f=1)&&(f_wmay_0 (A7 c f 1) c&&!(Bqz f.pc)))))=true):Ai (cfg [Am6]) 400 87 [c.av,f.av] (fun w_=>Tr.ev (Dy (A7 c f 1)) (fun l_=>(seG [(seI .u8),(seI .i64),(seI .u64),(seI .u64),(seI .u64),(seI .i64),(seI .u32)]).eq ((fun l_=>.agg [lget l_ 0,lget l_ 1,lget l_ 2,lget l_ 3,lget l_ 4,lget l_ 5,lget l_ 6]) l_) w_) false) false=true:=by
 have ho:=Odt (Aj h)
 have hp:=Aj (Af h)
 have hl:=Aj (Af (Af h))
 have hm:=Aj (Af (Af (Af h)))
 have hq:=Af (Af (Af (Af h)))
 have hn:=F5 hp
 have ha:=hn.2.1
 have h2:f.pc=2->0<=f.h/\f.h<1:=fun e=>by
  have q:=U0 hm;have q1:=q.1;have q2:=q.2.1 (.inr e);rw [Du hn.2.2.2.1 hn.2.2.2.2] at q1 q2;have q1:f.h<=1:=q1;have q2:f.h ≠ 1:=q2;omega
 clear hm h hp hn
 rw [D8 ho]
 obtain ⟨kind,a,b,pc,i,j,n,p,hh,x,y⟩:=f
 have hq:(!(Bqz pc))=true:=hq
 have hpc:pc=2\/pc=4:=by
  unfold Bqz at hq;simp only [Bool.not_not,Bool.or_eq_true,Dte] at hq;exact hq
 rcases hpc with rfl|rfl
 ·have h2:0<=hh/\hh<1:=h2 rfl
  rcases (show hh=0 by omega) with rfl
  ·exact Ar4 c kind a b i j n p x y hl ha
 ·exact A03 c kind a b i j n p hh x y hl ha
theorem Bdp:Bc Tryz.prog (Cb gs) Axn:=Cm fun c f h=>Aq base (Ah Axg Ap) (n:=400) fun k hk=>(Dh (A04 c f h) (fun w_ hw=>((seG [(seI .u8),(seI .i64),(seI .u64),(seI .u64),(seI .u64),(seI .i64),(seI .u32)]).ok _ _ ((Tr.merge (Zg (A7 c f 1)) (Jz (Avp (Dn (Aj (Af h))) (by omega) (Aj (Af (Af (Af h))))) (by omega))).symm.trans hw))) k).trans hk
def Axo:Sum:=(87,on2 Dp Ji (fun c f=>(decide (c.ob=4)&&(posH f&&(decide (lng f=2)&&(f_wmay_0 (A7 c f 2) c&&!(Bqz f.pc)))))) (fun c f=>.agg [.int .u8 (Ha (A7 c f 2)),.int .i64 (Fa (A7 c f 2)),.int .u64 (He (A7 c f 2)),.int .u64 (Hf (A7 c f 2)),.int .u64 (Hg (A7 c f 2)),.int .i64 (Hl (A7 c f 2)),.int .u32 (Hm (A7 c f 2))]))
abbrev zco4 (a:Int):=decide ((IntKind.wrap .u64 (ishr .u32 a 16))=(IntKind.wrap .u64 (IntKind.wrap .u32 (Int.tdiv a 65536))))&&true
theorem A09 (c:Conf) (kind a b i j n p h x y:Int) (hl:decide (lng (Bvn a b h i j kind n p x y)=2)=true) (ha:0<=a/\a<4294967296):Ai (cfg [Am7]) 400 87 [(Bqq c).av,(Bvn a b h i j kind n p x y).av] (fun w_=>Tr.ev (Dy (A7 (Bqq c) (Bvn a b h i j kind n p x y) 2)) (fun l_=>(seG [(seI .u8),(seI .i64),(seI .u64),(seI .u64),(seI .u64),(seI .i64),(seI .u32)]).eq ((fun l_=>.agg [lget l_ 0,lget l_ 1,lget l_ 2,lget l_ 3,lget l_ 4,lget l_ 5,lget l_ 6]) l_) w_) false) false=true:=Eq.trans (b:=(ba (decide ((BasZR15.lng (Frm.mk kind a b 4 i j n p h x y))=2)) (ba (decide ((IntKind.wrap .i64 ((IntKind.wrap .i64 p)-1))=(IntKind.wrap .i64 ((IntKind.wrap .i64 p)-1)))&&true) (ba (decide ((IntKind.wrap .u64 ((IntKind.wrap .u64 j)+1))=(IntKind.wrap .u64 ((IntKind.wrap .u64 j)+1)))&&true) (ba (zco4 a) (By2 y)))))) (by kernel_rfl) (band hl (band (Aw (Ddt rfl)) (band (Aw (Ddt rfl)) (band (Aw (A6n ha)) (band (Aw (Ddt rfl)) rfl)))))
abbrev zco5 (a:Int) (j:Int) (p:Int):Bool:=ba (B0g j) (ba (decide ((IntKind.wrap .u64 ((IntKind.wrap .u64 p)+1))=(IntKind.wrap .u64 ((IntKind.wrap .u64 p)+1)))&&true) (ba (zco1 a) true))
theorem Ar5 (c:Conf) (kind a b i j n p x y:Int) (hl:decide (lng (Bvo a b i j kind n p x y)=2)=true) (ha:0<=a/\a<4294967296):Ai (cfg [Am7]) 400 87 [(Bqq c).av,(Bvo a b i j kind n p x y).av] (fun w_=>Tr.ev (Dy (A7 (Bqq c) (Bvo a b i j kind n p x y) 2)) (fun l_=>(seG [(seI .u8),(seI .i64),(seI .u64),(seI .u64),(seI .u64),(seI .i64),(seI .u32)]).eq ((fun l_=>.agg [lget l_ 0,lget l_ 1,lget l_ 2,lget l_ 3,lget l_ 4,lget l_ 5,lget l_ 6]) l_) w_) false) false=true:=Eq.trans (b:=(ba (decide ((BasZR15.lng (Frm.mk kind a b 2 i j n p 0 x y))=2)) (zco5 a j p))) (by kernel_rfl) (band hl (band (Aw (Ddt rfl)) (band (Aw (Ddt rfl)) (band (Aw (Axf ha)) rfl))))
theorem Ar6 (c:Conf) (kind a b i j n p x y:Int) (hl:decide (lng (⟨kind,a,b,2,i,j,n,p,1,x,y⟩:Frm)=2)=true) (ha:0<=a/\a<4294967296):Ai (cfg [Am7]) 400 87 [(Bqq c).av,(⟨kind,a,b,2,i,j,n,p,1,x,y⟩:Frm).av] (fun w_=>Tr.ev (Dy (A7 (Bqq c) (⟨kind,a,b,2,i,j,n,p,1,x,y⟩:Frm) 2)) (fun l_=>(seG [(seI .u8),(seI .i64),(seI .u64),(seI .u64),(seI .u64),(seI .i64),(seI .u32)]).eq ((fun l_=>.agg [lget l_ 0,lget l_ 1,lget l_ 2,lget l_ 3,lget l_ 4,lget l_ 5,lget l_ 6]) l_) w_) false) false=true:=Eq.trans (b:=(ba (decide ((BasZR15.lng (Frm.mk kind a b 2 i j n p 1 x y))=2)) (ba (B0g j) (ba (decide ((IntKind.wrap .u64 ((IntKind.wrap .u64 p)+1))=(IntKind.wrap .u64 ((IntKind.wrap .u64 p)+1)))&&true) (ba (zco4 a) (By2 y)))))) (by kernel_rfl) (band hl (band (Aw (Ddt rfl)) (band (Aw (Ddt rfl)) (band (Aw (A6n ha)) (band (Aw (Ddt rfl)) rfl)))))
theorem A1a (c:Conf) (f:Frm) (h:(decide (c.ob=4)&&(posH f&&(decide (lng f=2)&&(f_wmay_0 (A7 c f 2) c&&!(Bqz f.pc)))))=true):Ai (cfg [Am7]) 400 87 [c.av,f.av] (fun w_=>Tr.ev (Dy (A7 c f 2)) (fun l_=>(seG [(seI .u8),(seI .i64),(seI .u64),(seI .u64),(seI .u64),(seI .i64),(seI .u32)]).eq ((fun l_=>.agg [lget l_ 0,lget l_ 1,lget l_ 2,lget l_ 3,lget l_ 4,lget l_ 5,lget l_ 6]) l_) w_) false) false=true:=by
 have ho:=Odt (Aj h)
 have hp:=Aj (Af h)
 have hl:=Aj (Af (Af h))
 have hm:=Aj (Af (Af (Af h)))
 have hq:=Af (Af (Af (Af h)))
 have hn:=F5 hp
 have ha:=hn.2.1
 have h2:f.pc=2->0<=f.h/\f.h<2:=fun e=>by
  have q:=U0 hm;have q1:=q.1;have q2:=q.2.1 (.inr e);rw [Du hn.2.2.2.1 hn.2.2.2.2] at q1 q2;have q1:f.h<=2:=q1;have q2:f.h ≠ 2:=q2;omega
 clear hm h hp hn
 rw [D8 ho]
 obtain ⟨kind,a,b,pc,i,j,n,p,hh,x,y⟩:=f
 have hq:(!(Bqz pc))=true:=hq
 have hpc:pc=2\/pc=4:=by
  unfold Bqz at hq;simp only [Bool.not_not,Bool.or_eq_true,Dte] at hq;exact hq
 rcases hpc with rfl|rfl
 ·have h2:0<=hh/\hh<2:=h2 rfl
  rcases (show hh=0\/hh=1 by omega) with rfl|rfl
  ·exact Ar5 c kind a b i j n p x y hl ha
  ·exact Ar6 c kind a b i j n p x y hl ha
 ·exact A09 c kind a b i j n p hh x y hl ha
theorem Bdq:Bc Tryz.prog (Cb gs) Axo:=Cm fun c f h=>Aq base (Ah Axh Ap) (n:=400) fun k hk=>(Dh (A1a c f h) (fun w_ hw=>((seG [(seI .u8),(seI .i64),(seI .u64),(seI .u64),(seI .u64),(seI .i64),(seI .u32)]).ok _ _ ((Tr.merge (Zg (A7 c f 2)) (Jz (Avp (Dn (Aj (Af h))) (by omega) (Aj (Af (Af (Af h))))) (by omega))).symm.trans hw))) k).trans hk
def Axp:Sum:=(87,on2 Dp Ji (fun c f=>(decide (c.ob=4)&&(posH f&&(decide (lng f=3)&&(f_wmay_0 (A7 c f 3) c&&!(Bqz f.pc)))))) (fun c f=>.agg [.int .u8 (Ha (A7 c f 3)),.int .i64 (Fa (A7 c f 3)),.int .u64 (He (A7 c f 3)),.int .u64 (Hf (A7 c f 3)),.int .u64 (Hg (A7 c f 3)),.int .i64 (Hl (A7 c f 3)),.int .u32 (Hm (A7 c f 3))]))
abbrev B0h:=cfg [Am8]
theorem A1f (c:Conf) (kind a b i j n p h x y:Int) (hl:decide (lng (Bvn a b h i j kind n p x y)=3)=true) (ha:0<=a/\a<4294967296):Ai B0h 400 87 [(Bqq c).av,(Bvn a b h i j kind n p x y).av] (fun w_=>Tr.ev (Dy (A7 (Bqq c) (Bvn a b h i j kind n p x y) 3)) (fun l_=>(seG [(seI .u8),(seI .i64),(seI .u64),(seI .u64),(seI .u64),(seI .i64),(seI .u32)]).eq ((fun l_=>.agg [lget l_ 0,lget l_ 1,lget l_ 2,lget l_ 3,lget l_ 4,lget l_ 5,lget l_ 6]) l_) w_) false) false=true:=Eq.trans (b:=(ba (decide ((BasZR15.lng (Frm.mk kind a b 4 i j n p h x y))=3)) (ba (decide ((IntKind.wrap .i64 ((IntKind.wrap .i64 p)-1))=(IntKind.wrap .i64 ((IntKind.wrap .i64 p)-1)))&&true) (ba (decide ((IntKind.wrap .u64 ((IntKind.wrap .u64 j)+1))=(IntKind.wrap .u64 ((IntKind.wrap .u64 j)+1)))&&true) (ba (decide ((IntKind.wrap .u64 b)=(IntKind.wrap .u64 b))&&true) (By2 y)))))) (by kernel_rfl) (band hl (band (Aw (Ddt rfl)) (band (Aw (Ddt rfl)) (band (Aw (Ddt rfl)) (band (Aw (Ddt rfl)) rfl)))))
theorem Ar7 (c:Conf) (kind a b i j n p x y:Int) (hl:decide (lng (Bvo a b i j kind n p x y)=3)=true) (ha:0<=a/\a<4294967296):Ai B0h 400 87 [(Bqq c).av,(Bvo a b i j kind n p x y).av] (fun w_=>Tr.ev (Dy (A7 (Bqq c) (Bvo a b i j kind n p x y) 3)) (fun l_=>(seG [(seI .u8),(seI .i64),(seI .u64),(seI .u64),(seI .u64),(seI .i64),(seI .u32)]).eq ((fun l_=>.agg [lget l_ 0,lget l_ 1,lget l_ 2,lget l_ 3,lget l_ 4,lget l_ 5,lget l_ 6]) l_) w_) false) false=true:=Eq.trans (b:=(ba (decide ((BasZR15.lng (Frm.mk kind a b 2 i j n p 0 x y))=3)) (zco5 a j p))) (by kernel_rfl) (band hl (band (Aw (Ddt rfl)) (band (Aw (Ddt rfl)) (band (Aw (Axf ha)) rfl))))
theorem Ar8 (c:Conf) (kind a b i j n p x y:Int) (hl:decide (lng (⟨kind,a,b,2,i,j,n,p,1,x,y⟩:Frm)=3)=true) (ha:0<=a/\a<4294967296):Ai B0h 400 87 [(Bqq c).av,(⟨kind,a,b,2,i,j,n,p,1,x,y⟩:Frm).av] (fun w_=>Tr.ev (Dy (A7 (Bqq c) (⟨kind,a,b,2,i,j,n,p,1,x,y⟩:Frm) 3)) (fun l_=>(seG [(seI .u8),(seI .i64),(seI .u64),(seI .u64),(seI .u64),(seI .i64),(seI .u32)]).eq ((fun l_=>.agg [lget l_ 0,lget l_ 1,lget l_ 2,lget l_ 3,lget l_ 4,lget l_ 5,lget l_ 6]) l_) w_) false) false=true:=Eq.trans (b:=(ba (decide ((BasZR15.lng (Frm.mk kind a b 2 i j n p 1 x y))=3)) (ba (B0g j) (ba (decide ((IntKind.wrap .u64 ((IntKind.wrap .u64 p)+1))=(IntKind.wrap .u64 ((IntKind.wrap .u64 p)+1)))&&true) (ba (zco4 a) true))))) (by kernel_rfl) (band hl (band (Aw (Ddt rfl)) (band (Aw (Ddt rfl)) (band (Aw (A6n ha)) rfl))))
theorem Ar9 (c:Conf) (kind a b i j n p x y:Int) (hl:decide (lng (⟨kind,a,b,2,i,j,n,p,2,x,y⟩:Frm)=3)=true) (ha:0<=a/\a<4294967296):Ai B0h 400 87 [(Bqq c).av,(⟨kind,a,b,2,i,j,n,p,2,x,y⟩:Frm).av] (fun w_=>Tr.ev (Dy (A7 (Bqq c) (⟨kind,a,b,2,i,j,n,p,2,x,y⟩:Frm) 3)) (fun l_=>(seG [(seI .u8),(seI .i64),(seI .u64),(seI .u64),(seI .u64),(seI .i64),(seI .u32)]).eq ((fun l_=>.agg [lget l_ 0,lget l_ 1,lget l_ 2,lget l_ 3,lget l_ 4,lget l_ 5,lget l_ 6]) l_) w_) false) false=true:=Eq.trans (b:=(ba (decide ((BasZR15.lng (Frm.mk kind a b 2 i j n p 2 x y))=3)) (ba (B0g j) (ba (decide ((IntKind.wrap .u64 ((IntKind.wrap .u64 p)+1))=(IntKind.wrap .u64 ((IntKind.wrap .u64 p)+1)))&&true) (ba (decide ((IntKind.wrap .u64 b)=(IntKind.wrap .u64 b))&&true) (By2 y)))))) (by kernel_rfl) (band hl (band (Aw (Ddt rfl)) (band (Aw (Ddt rfl)) (band (Aw (Ddt rfl)) (band (Aw (Ddt rfl)) rfl)))))
theorem A1g (c:Conf) (f:Frm) (h:(decide (c.ob=4)&&(posH f&&(decide (lng f=3)&&(f_wmay_0 (A7 c f 3) c&&!(Bqz f.pc)))))=true):Ai B0h 400 87 [c.av,f.av] (fun w_=>Tr.ev (Dy (A7 c f 3)) (fun l_=>(seG [(seI .u8),(seI .i64),(seI .u64),(seI .u64),(seI .u64),(seI .i64),(seI .u32)]).eq ((fun l_=>.agg [lget l_ 0,lget l_ 1,lget l_ 2,lget l_ 3,lget l_ 4,lget l_ 5,lget l_ 6]) l_) w_) false) false=true:=by
 have ho:=Odt (Aj h)
 have hp:=Aj (Af h)
 have hl:=Aj (Af (Af h))
 have hm:=Aj (Af (Af (Af h)))
 have hq:=Af (Af (Af (Af h)))
 have hn:=F5 hp
 have ha:=hn.2.1
 have h2:f.pc=2->0<=f.h/\f.h<3:=fun e=>by
  have q:=U0 hm;have q1:=q.1;have q2:=q.2.1 (.inr e);rw [Du hn.2.2.2.1 hn.2.2.2.2] at q1 q2;have q1:f.h<=3:=q1;have q2:f.h ≠ 3:=q2;omega
 clear hm h hp hn
 rw [D8 ho]
 obtain ⟨kind,a,b,pc,i,j,n,p,hh,x,y⟩:=f
 have hq:(!(Bqz pc))=true:=hq
 have hpc:pc=2\/pc=4:=by
  unfold Bqz at hq;simp only [Bool.not_not,Bool.or_eq_true,Dte] at hq;exact hq
 rcases hpc with rfl|rfl
 ·have h2:0<=hh/\hh<3:=h2 rfl
  rcases (show hh=0\/hh=1\/hh=2 by omega) with rfl|rfl|rfl
  ·exact Ar7 c kind a b i j n p x y hl ha
  ·exact Ar8 c kind a b i j n p x y hl ha
  ·exact Ar9 c kind a b i j n p x y hl ha
 ·exact A1f c kind a b i j n p hh x y hl ha
theorem Bdr:Bc Tryz.prog (Cb gs) Axp:=Cm fun c f h=>Aq base (Ah Axi Ap) (n:=400) fun k hk=>(Dh (A1g c f h) (fun w_ hw=>((seG [(seI .u8),(seI .i64),(seI .u64),(seI .u64),(seI .u64),(seI .i64),(seI .u32)]).ok _ _ ((Tr.merge (Zg (A7 c f 3)) (Jz (Avp (Dn (Aj (Af h))) (by omega) (Aj (Af (Af (Af h))))) (by omega))).symm.trans hw))) k).trans hk
end
end Go.Bas.BasZR15p
