/- The document's program of settings: it answers what the program's does. -/
import Derived.Test.YtjepofcbkojibaaGreatDoorBasW17
set_option maxRecDepth 100000
set_option maxHeartbeats 4000000
set_option linter.unusedVariables false
set_option linter.unusedSimpArgs false
namespace Go.Bas.BasZR15d
noncomputable section
open Go.RowKit Go.Proofs
open BasZBase BasZOk BasZR14 BasZBranch BasZOk4 BasZR15
def Axn:Sum:=(87,on2 Dp Ji (fun c f=>(decide (c.ob=4)&&(posH f&&(decide (lng f=1)&&f_wmay_0 (A7 c f 1) c)))) (fun c f=>.agg [.int .u8 (Ha (A7 c f 1)),.int .i64 (Fa (A7 c f 1)),.int .u64 (He (A7 c f 1)),.int .u64 (Hf (A7 c f 1)),.int .u64 (Hg (A7 c f 1)),.int .i64 (Hl (A7 c f 1)),.int .u32 (Hm (A7 c f 1))]))
abbrev An2 (a b h i j kind n p x y:Int):Frm:=⟨kind,a,b,0,i,j,n,p,h,x,y⟩
abbrev E5 (c:Conf):Conf:=⟨4,c.ins,c.thr,c.kind,c.str,c.bits,c.cap,c.node,c.batch,c.chunk,c.limit,c.most⟩
abbrev Ajt (r0_:Frm):Prop:=decide (lng r0_=1)=true
abbrev Ah9:=cfg [Am6]
abbrev An3 (i:Int):Bool:=ba (decide ((IntKind.wrap .i64 i)=(IntKind.wrap .i64 i))&&true) true
theorem A0y (c:Conf) (kind a b i j n p h x y:Int) (hl:Ajt (An2 a b h i j kind n p x y)) (ha:0<=a/\a<4294967296):Ai Ah9 400 87 [(E5 c).av,(An2 a b h i j kind n p x y).av] (fun w_=>Tr.ev (Dy (A7 (E5 c) (An2 a b h i j kind n p x y) 1)) (fun l_=>(seG [(seI .u8),(seI .i64),(seI .u64),(seI .u64),(seI .u64),(seI .i64),(seI .u32)]).eq ((fun l_=>.agg [lget l_ 0,lget l_ 1,lget l_ 2,lget l_ 3,lget l_ 4,lget l_ 5,lget l_ 6]) l_) w_) false) false=true:=Eq.trans (b:=(ba (decide ((BasZR15.lng (Frm.mk kind a b 0 i j n p h x y))=1)) (An3 i))) (by kernel_rfl) (band hl (band (Aw (Ddt rfl)) rfl))
abbrev An4 (a b h i j kind n p x y:Int):Frm:=⟨kind,a,b,3,i,j,n,p,h,x,y⟩
theorem A0z (c:Conf) (kind a b i j n p h x y:Int) (hl:Ajt (An4 a b h i j kind n p x y)) (ha:0<=a/\a<4294967296):Ai Ah9 400 87 [(E5 c).av,(An4 a b h i j kind n p x y).av] (fun w_=>Tr.ev (Dy (A7 (E5 c) (An4 a b h i j kind n p x y) 1)) (fun l_=>(seG [(seI .u8),(seI .i64),(seI .u64),(seI .u64),(seI .u64),(seI .i64),(seI .u32)]).eq ((fun l_=>.agg [lget l_ 0,lget l_ 1,lget l_ 2,lget l_ 3,lget l_ 4,lget l_ 5,lget l_ 6]) l_) w_) false) false=true:=Eq.trans (b:=(ba (decide ((BasZR15.lng (Frm.mk kind a b 3 i j n p h x y))=1)) (An3 i))) (by kernel_rfl) (band hl (band (Aw (Ddt rfl)) rfl))
abbrev An5 (a b h i j kind n p x y:Int):Frm:=⟨kind,a,b,5,i,j,n,p,h,x,y⟩
theorem A00 (c:Conf) (kind a b i j n p h x y:Int) (hl:Ajt (An5 a b h i j kind n p x y)) (ha:0<=a/\a<4294967296):Ai Ah9 400 87 [(E5 c).av,(An5 a b h i j kind n p x y).av] (fun w_=>Tr.ev (Dy (A7 (E5 c) (An5 a b h i j kind n p x y) 1)) (fun l_=>(seG [(seI .u8),(seI .i64),(seI .u64),(seI .u64),(seI .u64),(seI .i64),(seI .u32)]).eq ((fun l_=>.agg [lget l_ 0,lget l_ 1,lget l_ 2,lget l_ 3,lget l_ 4,lget l_ 5,lget l_ 6]) l_) w_) false) false=true:=Eq.trans (b:=(ba (decide ((BasZR15.lng (Frm.mk kind a b 5 i j n p h x y))=1)) (An3 i))) (by kernel_rfl) (band hl (band (Aw (Ddt rfl)) rfl))
abbrev An6 (a b h i j kind n p x y:Int):Frm:=⟨kind,a,b,6,i,j,n,p,h,x,y⟩
abbrev zcx2 (p:Int):Bool:=ba (decide ((IntKind.wrap .i64 ((IntKind.wrap .i64 p)-1))=(IntKind.wrap .i64 ((IntKind.wrap .i64 p)-1)))&&true) true
theorem A01 (c:Conf) (kind a b i j n p h x y:Int) (hl:Ajt (An6 a b h i j kind n p x y)) (ha:0<=a/\a<4294967296):Ai Ah9 400 87 [(E5 c).av,(An6 a b h i j kind n p x y).av] (fun w_=>Tr.ev (Dy (A7 (E5 c) (An6 a b h i j kind n p x y) 1)) (fun l_=>(seG [(seI .u8),(seI .i64),(seI .u64),(seI .u64),(seI .u64),(seI .i64),(seI .u32)]).eq ((fun l_=>.agg [lget l_ 0,lget l_ 1,lget l_ 2,lget l_ 3,lget l_ 4,lget l_ 5,lget l_ 6]) l_) w_) false) false=true:=Eq.trans (b:=(ba (decide ((BasZR15.lng (Frm.mk kind a b 6 i j n p h x y))=1)) (zcx2 p))) (by kernel_rfl) (band hl (band (Aw (Ddt rfl)) rfl))
abbrev An7 (a b h i j kind n p x y:Int):Frm:=⟨kind,a,b,20,i,j,n,p,h,x,y⟩
theorem Avt (c:Conf) (kind a b i j n p h x y:Int) (hl:Ajt (An7 a b h i j kind n p x y)) (ha:0<=a/\a<4294967296):Ai Ah9 400 87 [(E5 c).av,(An7 a b h i j kind n p x y).av] (fun w_=>Tr.ev (Dy (A7 (E5 c) (An7 a b h i j kind n p x y) 1)) (fun l_=>(seG [(seI .u8),(seI .i64),(seI .u64),(seI .u64),(seI .u64),(seI .i64),(seI .u32)]).eq ((fun l_=>.agg [lget l_ 0,lget l_ 1,lget l_ 2,lget l_ 3,lget l_ 4,lget l_ 5,lget l_ 6]) l_) w_) false) false=true:=Eq.trans (b:=(ba (decide ((BasZR15.lng (Frm.mk kind a b 20 i j n p h x y))=1)) (ba (decide (x=x)&&true) true))) (by kernel_rfl) (band hl (band (Aw (Ddt rfl)) rfl))
abbrev An8 (a b h i j kind n p x y:Int):Frm:=⟨kind,a,b,21,i,j,n,p,h,x,y⟩
theorem Avu (c:Conf) (kind a b i j n p h x y:Int) (hl:Ajt (An8 a b h i j kind n p x y)) (ha:0<=a/\a<4294967296):Ai Ah9 400 87 [(E5 c).av,(An8 a b h i j kind n p x y).av] (fun w_=>Tr.ev (Dy (A7 (E5 c) (An8 a b h i j kind n p x y) 1)) (fun l_=>(seG [(seI .u8),(seI .i64),(seI .u64),(seI .u64),(seI .u64),(seI .i64),(seI .u32)]).eq ((fun l_=>.agg [lget l_ 0,lget l_ 1,lget l_ 2,lget l_ 3,lget l_ 4,lget l_ 5,lget l_ 6]) l_) w_) false) false=true:=Eq.trans (b:=(ba (decide ((BasZR15.lng (Frm.mk kind a b 21 i j n p h x y))=1)) true)) (by kernel_rfl) (band hl rfl)
abbrev An9 (a b h i j kind n p x y:Int):Frm:=⟨kind,a,b,22,i,j,n,p,h,x,y⟩
theorem Avv (c:Conf) (kind a b i j n p h x y:Int) (hl:Ajt (An9 a b h i j kind n p x y)) (ha:0<=a/\a<4294967296):Ai Ah9 400 87 [(E5 c).av,(An9 a b h i j kind n p x y).av] (fun w_=>Tr.ev (Dy (A7 (E5 c) (An9 a b h i j kind n p x y) 1)) (fun l_=>(seG [(seI .u8),(seI .i64),(seI .u64),(seI .u64),(seI .u64),(seI .i64),(seI .u32)]).eq ((fun l_=>.agg [lget l_ 0,lget l_ 1,lget l_ 2,lget l_ 3,lget l_ 4,lget l_ 5,lget l_ 6]) l_) w_) false) false=true:=Eq.trans (b:=(ba (decide ((BasZR15.lng (Frm.mk kind a b 22 i j n p h x y))=1)) true)) (by kernel_rfl) (band hl rfl)
abbrev Aoa (a b h i j kind n p x y:Int):Frm:=⟨kind,a,b,23,i,j,n,p,h,x,y⟩
theorem Avw (c:Conf) (kind a b i j n p h x y:Int) (hl:Ajt (Aoa a b h i j kind n p x y)) (ha:0<=a/\a<4294967296):Ai Ah9 400 87 [(E5 c).av,(Aoa a b h i j kind n p x y).av] (fun w_=>Tr.ev (Dy (A7 (E5 c) (Aoa a b h i j kind n p x y) 1)) (fun l_=>(seG [(seI .u8),(seI .i64),(seI .u64),(seI .u64),(seI .u64),(seI .i64),(seI .u32)]).eq ((fun l_=>.agg [lget l_ 0,lget l_ 1,lget l_ 2,lget l_ 3,lget l_ 4,lget l_ 5,lget l_ 6]) l_) w_) false) false=true:=Eq.trans (b:=(ba (decide ((BasZR15.lng (Frm.mk kind a b 23 i j n p h x y))=1)) true)) (by kernel_rfl) (band hl rfl)
abbrev Aob (a b h i j kind n p x y:Int):Frm:=⟨kind,a,b,4,i,j,n,p,h,x,y⟩
abbrev zcx3 (a:Int):=decide ((IntKind.wrap .u64 (iand .u32 a 65535))=(IntKind.wrap .u64 (Int.tmod a 65536)))&&true
abbrev A02 (y:Int):Bool:=ba (decide ((IntKind.wrap .u64 ((IntKind.wrap .u64 y)+1))=(IntKind.wrap .u64 ((IntKind.wrap .u64 y)+1)))&&true) true
theorem A03 (c:Conf) (kind a b i j n p h x y:Int) (hl:Ajt (Aob a b h i j kind n p x y)) (ha:0<=a/\a<4294967296):Ai Ah9 400 87 [(E5 c).av,(Aob a b h i j kind n p x y).av] (fun w_=>Tr.ev (Dy (A7 (E5 c) (Aob a b h i j kind n p x y) 1)) (fun l_=>(seG [(seI .u8),(seI .i64),(seI .u64),(seI .u64),(seI .u64),(seI .i64),(seI .u32)]).eq ((fun l_=>.agg [lget l_ 0,lget l_ 1,lget l_ 2,lget l_ 3,lget l_ 4,lget l_ 5,lget l_ 6]) l_) w_) false) false=true:=Eq.trans (b:=(ba (decide ((BasZR15.lng (Frm.mk kind a b 4 i j n p h x y))=1)) (ba (decide ((IntKind.wrap .i64 ((IntKind.wrap .i64 p)-1))=(IntKind.wrap .i64 ((IntKind.wrap .i64 p)-1)))&&true) (ba (decide ((IntKind.wrap .u64 ((IntKind.wrap .u64 j)+1))=(IntKind.wrap .u64 ((IntKind.wrap .u64 j)+1)))&&true) (ba (zcx3 a) (A02 y)))))) (by kernel_rfl) (band hl (band (Aw (Ddt rfl)) (band (Aw (Ddt rfl)) (band (Aw (Axf ha)) (band (Aw (Ddt rfl)) rfl)))))
abbrev Aci (a b i j kind n p x y:Int):Frm:=⟨kind,a,b,2,i,j,n,p,0,x,y⟩
abbrev A7a (j:Int):=decide ((IntKind.wrap .i64 j)=(IntKind.wrap .i64 j))&&true
theorem Ar4 (c:Conf) (kind a b i j n p x y:Int) (hl:Ajt (Aci a b i j kind n p x y)) (ha:0<=a/\a<4294967296):Ai Ah9 400 87 [(E5 c).av,(Aci a b i j kind n p x y).av] (fun w_=>Tr.ev (Dy (A7 (E5 c) (Aci a b i j kind n p x y) 1)) (fun l_=>(seG [(seI .u8),(seI .i64),(seI .u64),(seI .u64),(seI .u64),(seI .i64),(seI .u32)]).eq ((fun l_=>.agg [lget l_ 0,lget l_ 1,lget l_ 2,lget l_ 3,lget l_ 4,lget l_ 5,lget l_ 6]) l_) w_) false) false=true:=Eq.trans (b:=(ba (decide ((BasZR15.lng (Frm.mk kind a b 2 i j n p 0 x y))=1)) (ba (A7a j) (ba (decide ((IntKind.wrap .u64 ((IntKind.wrap .u64 p)+1))=(IntKind.wrap .u64 ((IntKind.wrap .u64 p)+1)))&&true) (ba (zcx3 a) (A02 y)))))) (by kernel_rfl) (band hl (band (Aw (Ddt rfl)) (band (Aw (Ddt rfl)) (band (Aw (Axf ha)) (band (Aw (Ddt rfl)) rfl)))))
theorem A04 (c:Conf) (f:Frm) (h:(decide (c.ob=4)&&(posH f&&(decide (lng f=1)&&f_wmay_0 (A7 c f 1) c)))=true):Ai Ah9 400 87 [c.av,f.av] (fun w_=>Tr.ev (Dy (A7 c f 1)) (fun l_=>(seG [(seI .u8),(seI .i64),(seI .u64),(seI .u64),(seI .u64),(seI .i64),(seI .u32)]).eq ((fun l_=>.agg [lget l_ 0,lget l_ 1,lget l_ 2,lget l_ 3,lget l_ 4,lget l_ 5,lget l_ 6]) l_) w_) false) false=true:=by
 have ho:=Odt (Aj h)
 have hp:=Aj (Af h)
 have hl:=Aj (Af (Af h))
 have hm:=Af (Af (Af h))
 have hn:=F5 hp
 have ha:=hn.2.1
 have hpc:f.pc=0\/f.pc=3\/f.pc=5\/f.pc=6\/f.pc=20\/f.pc=21\/f.pc=22\/f.pc=23\/f.pc=4\/f.pc=2:=Ana hm
 have h2:f.pc=2->0<=f.h/\f.h<1:=fun e=>by
  have q:=U0 hm;have q1:=q.1;have q2:=q.2.1 (.inr e);rw [Du hn.2.2.2.1 hn.2.2.2.2] at q1 q2;have q1:f.h<=1:=q1;have q2:f.h ≠ 1:=q2;omega
 clear hm h hp hn
 rw [D8 ho]
 obtain ⟨kind,a,b,pc,i,j,n,p,hh,x,y⟩:=f
 have hpc:pc=0\/pc=3\/pc=5\/pc=6\/pc=20\/pc=21\/pc=22\/pc=23\/pc=4\/pc=2:=hpc
 rcases hpc with rfl|rfl|rfl|rfl|rfl|rfl|rfl|rfl|rfl|rfl
 ·exact A0y c kind a b i j n p hh x y hl ha
 ·exact A0z c kind a b i j n p hh x y hl ha
 ·exact A00 c kind a b i j n p hh x y hl ha
 ·exact A01 c kind a b i j n p hh x y hl ha
 ·exact Avt c kind a b i j n p hh x y hl ha
 ·exact Avu c kind a b i j n p hh x y hl ha
 ·exact Avv c kind a b i j n p hh x y hl ha
 ·exact Avw c kind a b i j n p hh x y hl ha
 ·exact A03 c kind a b i j n p hh x y hl ha
 ·have h2:0<=hh/\hh<1:=h2 rfl
  rcases (show hh=0 by omega) with rfl
  ·exact Ar4 c kind a b i j n p x y hl ha
theorem Bdp:Bc Tryz.prog (Cb gs) Axn:=Cm fun c f h=>Aq base (Ah Axg Ap) (n:=400) fun k hk=>(Dh (A04 c f h) (fun w_ hw=>((seG [(seI .u8),(seI .i64),(seI .u64),(seI .u64),(seI .u64),(seI .i64),(seI .u32)]).ok _ _ ((Tr.merge (Zg (A7 c f 1)) (Jz (Avp (Dn (Aj (Af h))) (by omega) (Af (Af (Af h)))) (by omega))).symm.trans hw))) k).trans hk
def Axo:Sum:=(87,on2 Dp Ji (fun c f=>(decide (c.ob=4)&&(posH f&&(decide (lng f=2)&&f_wmay_0 (A7 c f 2) c)))) (fun c f=>.agg [.int .u8 (Ha (A7 c f 2)),.int .i64 (Fa (A7 c f 2)),.int .u64 (He (A7 c f 2)),.int .u64 (Hf (A7 c f 2)),.int .u64 (Hg (A7 c f 2)),.int .i64 (Hl (A7 c f 2)),.int .u32 (Hm (A7 c f 2))]))
abbrev Aju (r0_:Frm):Prop:=decide (lng r0_=2)=true
abbrev Afj:=cfg [Am7]
section
variable (c:Conf)
theorem A05 (kind a b i j n p h x y:Int) (hl:Aju (An2 a b h i j kind n p x y)) (ha:0<=a/\a<4294967296):Ai Afj 400 87 [(E5 c).av,(An2 a b h i j kind n p x y).av] (fun w_=>Tr.ev (Dy (A7 (E5 c) (An2 a b h i j kind n p x y) 2)) (fun l_=>(seG [(seI .u8),(seI .i64),(seI .u64),(seI .u64),(seI .u64),(seI .i64),(seI .u32)]).eq ((fun l_=>.agg [lget l_ 0,lget l_ 1,lget l_ 2,lget l_ 3,lget l_ 4,lget l_ 5,lget l_ 6]) l_) w_) false) false=true:=Eq.trans (b:=(ba (decide ((BasZR15.lng (Frm.mk kind a b 0 i j n p h x y))=2)) (An3 i))) (by kernel_rfl) (band hl (band (Aw (Ddt rfl)) rfl))
theorem A06 (kind a b i j n p h x y:Int) (hl:Aju (An4 a b h i j kind n p x y)) (ha:0<=a/\a<4294967296):Ai Afj 400 87 [(E5 c).av,(An4 a b h i j kind n p x y).av] (fun w_=>Tr.ev (Dy (A7 (E5 c) (An4 a b h i j kind n p x y) 2)) (fun l_=>(seG [(seI .u8),(seI .i64),(seI .u64),(seI .u64),(seI .u64),(seI .i64),(seI .u32)]).eq ((fun l_=>.agg [lget l_ 0,lget l_ 1,lget l_ 2,lget l_ 3,lget l_ 4,lget l_ 5,lget l_ 6]) l_) w_) false) false=true:=Eq.trans (b:=(ba (decide ((BasZR15.lng (Frm.mk kind a b 3 i j n p h x y))=2)) (An3 i))) (by kernel_rfl) (band hl (band (Aw (Ddt rfl)) rfl))
theorem A07 (kind a b i j n p h x y:Int) (hl:Aju (An5 a b h i j kind n p x y)) (ha:0<=a/\a<4294967296):Ai Afj 400 87 [(E5 c).av,(An5 a b h i j kind n p x y).av] (fun w_=>Tr.ev (Dy (A7 (E5 c) (An5 a b h i j kind n p x y) 2)) (fun l_=>(seG [(seI .u8),(seI .i64),(seI .u64),(seI .u64),(seI .u64),(seI .i64),(seI .u32)]).eq ((fun l_=>.agg [lget l_ 0,lget l_ 1,lget l_ 2,lget l_ 3,lget l_ 4,lget l_ 5,lget l_ 6]) l_) w_) false) false=true:=Eq.trans (b:=(ba (decide ((BasZR15.lng (Frm.mk kind a b 5 i j n p h x y))=2)) (An3 i))) (by kernel_rfl) (band hl (band (Aw (Ddt rfl)) rfl))
theorem A08 (kind a b i j n p h x y:Int) (hl:Aju (An6 a b h i j kind n p x y)) (ha:0<=a/\a<4294967296):Ai Afj 400 87 [(E5 c).av,(An6 a b h i j kind n p x y).av] (fun w_=>Tr.ev (Dy (A7 (E5 c) (An6 a b h i j kind n p x y) 2)) (fun l_=>(seG [(seI .u8),(seI .i64),(seI .u64),(seI .u64),(seI .u64),(seI .i64),(seI .u32)]).eq ((fun l_=>.agg [lget l_ 0,lget l_ 1,lget l_ 2,lget l_ 3,lget l_ 4,lget l_ 5,lget l_ 6]) l_) w_) false) false=true:=Eq.trans (b:=(ba (decide ((BasZR15.lng (Frm.mk kind a b 6 i j n p h x y))=2)) (zcx2 p))) (by kernel_rfl) (band hl (band (Aw (Ddt rfl)) rfl))
theorem Avx (kind a b i j n p h x y:Int) (hl:Aju (An7 a b h i j kind n p x y)) (ha:0<=a/\a<4294967296):Ai Afj 400 87 [(E5 c).av,(An7 a b h i j kind n p x y).av] (fun w_=>Tr.ev (Dy (A7 (E5 c) (An7 a b h i j kind n p x y) 2)) (fun l_=>(seG [(seI .u8),(seI .i64),(seI .u64),(seI .u64),(seI .u64),(seI .i64),(seI .u32)]).eq ((fun l_=>.agg [lget l_ 0,lget l_ 1,lget l_ 2,lget l_ 3,lget l_ 4,lget l_ 5,lget l_ 6]) l_) w_) false) false=true:=Eq.trans (b:=(ba (decide ((BasZR15.lng (Frm.mk kind a b 20 i j n p h x y))=2)) (ba (decide (x=x)&&true) true))) (by kernel_rfl) (band hl (band (Aw (Ddt rfl)) rfl))
theorem Avy (kind a b i j n p h x y:Int) (hl:Aju (An8 a b h i j kind n p x y)) (ha:0<=a/\a<4294967296):Ai Afj 400 87 [(E5 c).av,(An8 a b h i j kind n p x y).av] (fun w_=>Tr.ev (Dy (A7 (E5 c) (An8 a b h i j kind n p x y) 2)) (fun l_=>(seG [(seI .u8),(seI .i64),(seI .u64),(seI .u64),(seI .u64),(seI .i64),(seI .u32)]).eq ((fun l_=>.agg [lget l_ 0,lget l_ 1,lget l_ 2,lget l_ 3,lget l_ 4,lget l_ 5,lget l_ 6]) l_) w_) false) false=true:=Eq.trans (b:=(ba (decide ((BasZR15.lng (Frm.mk kind a b 21 i j n p h x y))=2)) true)) (by kernel_rfl) (band hl rfl)
theorem Avz (kind a b i j n p h x y:Int) (hl:Aju (An9 a b h i j kind n p x y)) (ha:0<=a/\a<4294967296):Ai Afj 400 87 [(E5 c).av,(An9 a b h i j kind n p x y).av] (fun w_=>Tr.ev (Dy (A7 (E5 c) (An9 a b h i j kind n p x y) 2)) (fun l_=>(seG [(seI .u8),(seI .i64),(seI .u64),(seI .u64),(seI .u64),(seI .i64),(seI .u32)]).eq ((fun l_=>.agg [lget l_ 0,lget l_ 1,lget l_ 2,lget l_ 3,lget l_ 4,lget l_ 5,lget l_ 6]) l_) w_) false) false=true:=Eq.trans (b:=(ba (decide ((BasZR15.lng (Frm.mk kind a b 22 i j n p h x y))=2)) true)) (by kernel_rfl) (band hl rfl)
theorem Av0 (kind a b i j n p h x y:Int) (hl:Aju (Aoa a b h i j kind n p x y)) (ha:0<=a/\a<4294967296):Ai Afj 400 87 [(E5 c).av,(Aoa a b h i j kind n p x y).av] (fun w_=>Tr.ev (Dy (A7 (E5 c) (Aoa a b h i j kind n p x y) 2)) (fun l_=>(seG [(seI .u8),(seI .i64),(seI .u64),(seI .u64),(seI .u64),(seI .i64),(seI .u32)]).eq ((fun l_=>.agg [lget l_ 0,lget l_ 1,lget l_ 2,lget l_ 3,lget l_ 4,lget l_ 5,lget l_ 6]) l_) w_) false) false=true:=Eq.trans (b:=(ba (decide ((BasZR15.lng (Frm.mk kind a b 23 i j n p h x y))=2)) true)) (by kernel_rfl) (band hl rfl)
end
abbrev zcx7 (a:Int):=decide ((IntKind.wrap .u64 (ishr .u32 a 16))=(IntKind.wrap .u64 (IntKind.wrap .u32 (Int.tdiv a 65536))))&&true
theorem A09 (c:Conf) (kind a b i j n p h x y:Int) (hl:Aju (Aob a b h i j kind n p x y)) (ha:0<=a/\a<4294967296):Ai Afj 400 87 [(E5 c).av,(Aob a b h i j kind n p x y).av] (fun w_=>Tr.ev (Dy (A7 (E5 c) (Aob a b h i j kind n p x y) 2)) (fun l_=>(seG [(seI .u8),(seI .i64),(seI .u64),(seI .u64),(seI .u64),(seI .i64),(seI .u32)]).eq ((fun l_=>.agg [lget l_ 0,lget l_ 1,lget l_ 2,lget l_ 3,lget l_ 4,lget l_ 5,lget l_ 6]) l_) w_) false) false=true:=Eq.trans (b:=(ba (decide ((BasZR15.lng (Frm.mk kind a b 4 i j n p h x y))=2)) (ba (decide ((IntKind.wrap .i64 ((IntKind.wrap .i64 p)-1))=(IntKind.wrap .i64 ((IntKind.wrap .i64 p)-1)))&&true) (ba (decide ((IntKind.wrap .u64 ((IntKind.wrap .u64 j)+1))=(IntKind.wrap .u64 ((IntKind.wrap .u64 j)+1)))&&true) (ba (zcx7 a) (A02 y)))))) (by kernel_rfl) (band hl (band (Aw (Ddt rfl)) (band (Aw (Ddt rfl)) (band (Aw (A6n ha)) (band (Aw (Ddt rfl)) rfl)))))
abbrev zcx8 (a:Int) (j:Int) (p:Int):Bool:=ba (A7a j) (ba (decide ((IntKind.wrap .u64 ((IntKind.wrap .u64 p)+1))=(IntKind.wrap .u64 ((IntKind.wrap .u64 p)+1)))&&true) (ba (zcx3 a) true))
theorem Ar5 (c:Conf) (kind a b i j n p x y:Int) (hl:Aju (Aci a b i j kind n p x y)) (ha:0<=a/\a<4294967296):Ai Afj 400 87 [(E5 c).av,(Aci a b i j kind n p x y).av] (fun w_=>Tr.ev (Dy (A7 (E5 c) (Aci a b i j kind n p x y) 2)) (fun l_=>(seG [(seI .u8),(seI .i64),(seI .u64),(seI .u64),(seI .u64),(seI .i64),(seI .u32)]).eq ((fun l_=>.agg [lget l_ 0,lget l_ 1,lget l_ 2,lget l_ 3,lget l_ 4,lget l_ 5,lget l_ 6]) l_) w_) false) false=true:=Eq.trans (b:=(ba (decide ((BasZR15.lng (Frm.mk kind a b 2 i j n p 0 x y))=2)) (zcx8 a j p))) (by kernel_rfl) (band hl (band (Aw (Ddt rfl)) (band (Aw (Ddt rfl)) (band (Aw (Axf ha)) rfl))))
theorem Ar6 (c:Conf) (kind a b i j n p x y:Int) (hl:decide (lng (⟨kind,a,b,2,i,j,n,p,1,x,y⟩:Frm)=2)=true) (ha:0<=a/\a<4294967296):Ai Afj 400 87 [(E5 c).av,(⟨kind,a,b,2,i,j,n,p,1,x,y⟩:Frm).av] (fun w_=>Tr.ev (Dy (A7 (E5 c) (⟨kind,a,b,2,i,j,n,p,1,x,y⟩:Frm) 2)) (fun l_=>(seG [(seI .u8),(seI .i64),(seI .u64),(seI .u64),(seI .u64),(seI .i64),(seI .u32)]).eq ((fun l_=>.agg [lget l_ 0,lget l_ 1,lget l_ 2,lget l_ 3,lget l_ 4,lget l_ 5,lget l_ 6]) l_) w_) false) false=true:=Eq.trans (b:=(ba (decide ((BasZR15.lng (Frm.mk kind a b 2 i j n p 1 x y))=2)) (ba (A7a j) (ba (decide ((IntKind.wrap .u64 ((IntKind.wrap .u64 p)+1))=(IntKind.wrap .u64 ((IntKind.wrap .u64 p)+1)))&&true) (ba (zcx7 a) (A02 y)))))) (by kernel_rfl) (band hl (band (Aw (Ddt rfl)) (band (Aw (Ddt rfl)) (band (Aw (A6n ha)) (band (Aw (Ddt rfl)) rfl)))))
theorem A1a (c:Conf) (f:Frm) (h:(decide (c.ob=4)&&(posH f&&(decide (lng f=2)&&f_wmay_0 (A7 c f 2) c)))=true):Ai Afj 400 87 [c.av,f.av] (fun w_=>Tr.ev (Dy (A7 c f 2)) (fun l_=>(seG [(seI .u8),(seI .i64),(seI .u64),(seI .u64),(seI .u64),(seI .i64),(seI .u32)]).eq ((fun l_=>.agg [lget l_ 0,lget l_ 1,lget l_ 2,lget l_ 3,lget l_ 4,lget l_ 5,lget l_ 6]) l_) w_) false) false=true:=by
 have ho:=Odt (Aj h)
 have hp:=Aj (Af h)
 have hl:=Aj (Af (Af h))
 have hm:=Af (Af (Af h))
 have hn:=F5 hp
 have ha:=hn.2.1
 have hpc:f.pc=0\/f.pc=3\/f.pc=5\/f.pc=6\/f.pc=20\/f.pc=21\/f.pc=22\/f.pc=23\/f.pc=4\/f.pc=2:=Ana hm
 have h2:f.pc=2->0<=f.h/\f.h<2:=fun e=>by
  have q:=U0 hm;have q1:=q.1;have q2:=q.2.1 (.inr e);rw [Du hn.2.2.2.1 hn.2.2.2.2] at q1 q2;have q1:f.h<=2:=q1;have q2:f.h ≠ 2:=q2;omega
 clear hm h hp hn
 rw [D8 ho]
 obtain ⟨kind,a,b,pc,i,j,n,p,hh,x,y⟩:=f
 have hpc:pc=0\/pc=3\/pc=5\/pc=6\/pc=20\/pc=21\/pc=22\/pc=23\/pc=4\/pc=2:=hpc
 rcases hpc with rfl|rfl|rfl|rfl|rfl|rfl|rfl|rfl|rfl|rfl
 ·exact A05 c kind a b i j n p hh x y hl ha
 ·exact A06 c kind a b i j n p hh x y hl ha
 ·exact A07 c kind a b i j n p hh x y hl ha
 ·exact A08 c kind a b i j n p hh x y hl ha
 ·exact Avx c kind a b i j n p hh x y hl ha
 ·exact Avy c kind a b i j n p hh x y hl ha
 ·exact Avz c kind a b i j n p hh x y hl ha
 ·exact Av0 c kind a b i j n p hh x y hl ha
 ·exact A09 c kind a b i j n p hh x y hl ha
 ·have h2:0<=hh/\hh<2:=h2 rfl
  rcases (show hh=0\/hh=1 by omega) with rfl|rfl
  ·exact Ar5 c kind a b i j n p x y hl ha
  ·exact Ar6 c kind a b i j n p x y hl ha
theorem Bdq:Bc Tryz.prog (Cb gs) Axo:=Cm fun c f h=>Aq base (Ah Axh Ap) (n:=400) fun k hk=>(Dh (A1a c f h) (fun w_ hw=>((seG [(seI .u8),(seI .i64),(seI .u64),(seI .u64),(seI .u64),(seI .i64),(seI .u32)]).ok _ _ ((Tr.merge (Zg (A7 c f 2)) (Jz (Avp (Dn (Aj (Af h))) (by omega) (Af (Af (Af h)))) (by omega))).symm.trans hw))) k).trans hk
def Axp:Sum:=(87,on2 Dp Ji (fun c f=>(decide (c.ob=4)&&(posH f&&(decide (lng f=3)&&f_wmay_0 (A7 c f 3) c)))) (fun c f=>.agg [.int .u8 (Ha (A7 c f 3)),.int .i64 (Fa (A7 c f 3)),.int .u64 (He (A7 c f 3)),.int .u64 (Hf (A7 c f 3)),.int .u64 (Hg (A7 c f 3)),.int .i64 (Hl (A7 c f 3)),.int .u32 (Hm (A7 c f 3))]))
abbrev Ajv (r0_:Frm):Prop:=decide (lng r0_=3)=true
abbrev Adw:=cfg [Am8]
section
variable (c:Conf)
theorem A1b (kind a b i j n p h x y:Int) (hl:Ajv (An2 a b h i j kind n p x y)) (ha:0<=a/\a<4294967296):Ai Adw 400 87 [(E5 c).av,(An2 a b h i j kind n p x y).av] (fun w_=>Tr.ev (Dy (A7 (E5 c) (An2 a b h i j kind n p x y) 3)) (fun l_=>(seG [(seI .u8),(seI .i64),(seI .u64),(seI .u64),(seI .u64),(seI .i64),(seI .u32)]).eq ((fun l_=>.agg [lget l_ 0,lget l_ 1,lget l_ 2,lget l_ 3,lget l_ 4,lget l_ 5,lget l_ 6]) l_) w_) false) false=true:=Eq.trans (b:=(ba (decide ((BasZR15.lng (Frm.mk kind a b 0 i j n p h x y))=3)) (An3 i))) (by kernel_rfl) (band hl (band (Aw (Ddt rfl)) rfl))
theorem A1c (kind a b i j n p h x y:Int) (hl:Ajv (An4 a b h i j kind n p x y)) (ha:0<=a/\a<4294967296):Ai Adw 400 87 [(E5 c).av,(An4 a b h i j kind n p x y).av] (fun w_=>Tr.ev (Dy (A7 (E5 c) (An4 a b h i j kind n p x y) 3)) (fun l_=>(seG [(seI .u8),(seI .i64),(seI .u64),(seI .u64),(seI .u64),(seI .i64),(seI .u32)]).eq ((fun l_=>.agg [lget l_ 0,lget l_ 1,lget l_ 2,lget l_ 3,lget l_ 4,lget l_ 5,lget l_ 6]) l_) w_) false) false=true:=Eq.trans (b:=(ba (decide ((BasZR15.lng (Frm.mk kind a b 3 i j n p h x y))=3)) (An3 i))) (by kernel_rfl) (band hl (band (Aw (Ddt rfl)) rfl))
theorem A1d (kind a b i j n p h x y:Int) (hl:Ajv (An5 a b h i j kind n p x y)) (ha:0<=a/\a<4294967296):Ai Adw 400 87 [(E5 c).av,(An5 a b h i j kind n p x y).av] (fun w_=>Tr.ev (Dy (A7 (E5 c) (An5 a b h i j kind n p x y) 3)) (fun l_=>(seG [(seI .u8),(seI .i64),(seI .u64),(seI .u64),(seI .u64),(seI .i64),(seI .u32)]).eq ((fun l_=>.agg [lget l_ 0,lget l_ 1,lget l_ 2,lget l_ 3,lget l_ 4,lget l_ 5,lget l_ 6]) l_) w_) false) false=true:=Eq.trans (b:=(ba (decide ((BasZR15.lng (Frm.mk kind a b 5 i j n p h x y))=3)) (An3 i))) (by kernel_rfl) (band hl (band (Aw (Ddt rfl)) rfl))
theorem A1e (kind a b i j n p h x y:Int) (hl:Ajv (An6 a b h i j kind n p x y)) (ha:0<=a/\a<4294967296):Ai Adw 400 87 [(E5 c).av,(An6 a b h i j kind n p x y).av] (fun w_=>Tr.ev (Dy (A7 (E5 c) (An6 a b h i j kind n p x y) 3)) (fun l_=>(seG [(seI .u8),(seI .i64),(seI .u64),(seI .u64),(seI .u64),(seI .i64),(seI .u32)]).eq ((fun l_=>.agg [lget l_ 0,lget l_ 1,lget l_ 2,lget l_ 3,lget l_ 4,lget l_ 5,lget l_ 6]) l_) w_) false) false=true:=Eq.trans (b:=(ba (decide ((BasZR15.lng (Frm.mk kind a b 6 i j n p h x y))=3)) (zcx2 p))) (by kernel_rfl) (band hl (band (Aw (Ddt rfl)) rfl))
theorem Av1 (kind a b i j n p h x y:Int) (hl:Ajv (An7 a b h i j kind n p x y)) (ha:0<=a/\a<4294967296):Ai Adw 400 87 [(E5 c).av,(An7 a b h i j kind n p x y).av] (fun w_=>Tr.ev (Dy (A7 (E5 c) (An7 a b h i j kind n p x y) 3)) (fun l_=>(seG [(seI .u8),(seI .i64),(seI .u64),(seI .u64),(seI .u64),(seI .i64),(seI .u32)]).eq ((fun l_=>.agg [lget l_ 0,lget l_ 1,lget l_ 2,lget l_ 3,lget l_ 4,lget l_ 5,lget l_ 6]) l_) w_) false) false=true:=Eq.trans (b:=(ba (decide ((BasZR15.lng (Frm.mk kind a b 20 i j n p h x y))=3)) (ba (decide (x=x)&&true) true))) (by kernel_rfl) (band hl (band (Aw (Ddt rfl)) rfl))
theorem Av2 (kind a b i j n p h x y:Int) (hl:Ajv (An8 a b h i j kind n p x y)) (ha:0<=a/\a<4294967296):Ai Adw 400 87 [(E5 c).av,(An8 a b h i j kind n p x y).av] (fun w_=>Tr.ev (Dy (A7 (E5 c) (An8 a b h i j kind n p x y) 3)) (fun l_=>(seG [(seI .u8),(seI .i64),(seI .u64),(seI .u64),(seI .u64),(seI .i64),(seI .u32)]).eq ((fun l_=>.agg [lget l_ 0,lget l_ 1,lget l_ 2,lget l_ 3,lget l_ 4,lget l_ 5,lget l_ 6]) l_) w_) false) false=true:=Eq.trans (b:=(ba (decide ((BasZR15.lng (Frm.mk kind a b 21 i j n p h x y))=3)) true)) (by kernel_rfl) (band hl rfl)
theorem Av3 (kind a b i j n p h x y:Int) (hl:Ajv (An9 a b h i j kind n p x y)) (ha:0<=a/\a<4294967296):Ai Adw 400 87 [(E5 c).av,(An9 a b h i j kind n p x y).av] (fun w_=>Tr.ev (Dy (A7 (E5 c) (An9 a b h i j kind n p x y) 3)) (fun l_=>(seG [(seI .u8),(seI .i64),(seI .u64),(seI .u64),(seI .u64),(seI .i64),(seI .u32)]).eq ((fun l_=>.agg [lget l_ 0,lget l_ 1,lget l_ 2,lget l_ 3,lget l_ 4,lget l_ 5,lget l_ 6]) l_) w_) false) false=true:=Eq.trans (b:=(ba (decide ((BasZR15.lng (Frm.mk kind a b 22 i j n p h x y))=3)) true)) (by kernel_rfl) (band hl rfl)
theorem Av4 (kind a b i j n p h x y:Int) (hl:Ajv (Aoa a b h i j kind n p x y)) (ha:0<=a/\a<4294967296):Ai Adw 400 87 [(E5 c).av,(Aoa a b h i j kind n p x y).av] (fun w_=>Tr.ev (Dy (A7 (E5 c) (Aoa a b h i j kind n p x y) 3)) (fun l_=>(seG [(seI .u8),(seI .i64),(seI .u64),(seI .u64),(seI .u64),(seI .i64),(seI .u32)]).eq ((fun l_=>.agg [lget l_ 0,lget l_ 1,lget l_ 2,lget l_ 3,lget l_ 4,lget l_ 5,lget l_ 6]) l_) w_) false) false=true:=Eq.trans (b:=(ba (decide ((BasZR15.lng (Frm.mk kind a b 23 i j n p h x y))=3)) true)) (by kernel_rfl) (band hl rfl)
theorem A1f (kind a b i j n p h x y:Int) (hl:Ajv (Aob a b h i j kind n p x y)) (ha:0<=a/\a<4294967296):Ai Adw 400 87 [(E5 c).av,(Aob a b h i j kind n p x y).av] (fun w_=>Tr.ev (Dy (A7 (E5 c) (Aob a b h i j kind n p x y) 3)) (fun l_=>(seG [(seI .u8),(seI .i64),(seI .u64),(seI .u64),(seI .u64),(seI .i64),(seI .u32)]).eq ((fun l_=>.agg [lget l_ 0,lget l_ 1,lget l_ 2,lget l_ 3,lget l_ 4,lget l_ 5,lget l_ 6]) l_) w_) false) false=true:=Eq.trans (b:=(ba (decide ((BasZR15.lng (Frm.mk kind a b 4 i j n p h x y))=3)) (ba (decide ((IntKind.wrap .i64 ((IntKind.wrap .i64 p)-1))=(IntKind.wrap .i64 ((IntKind.wrap .i64 p)-1)))&&true) (ba (decide ((IntKind.wrap .u64 ((IntKind.wrap .u64 j)+1))=(IntKind.wrap .u64 ((IntKind.wrap .u64 j)+1)))&&true) (ba (decide ((IntKind.wrap .u64 b)=(IntKind.wrap .u64 b))&&true) (A02 y)))))) (by kernel_rfl) (band hl (band (Aw (Ddt rfl)) (band (Aw (Ddt rfl)) (band (Aw (Ddt rfl)) (band (Aw (Ddt rfl)) rfl)))))
theorem Ar7 (kind a b i j n p x y:Int) (hl:Ajv (Aci a b i j kind n p x y)) (ha:0<=a/\a<4294967296):Ai Adw 400 87 [(E5 c).av,(Aci a b i j kind n p x y).av] (fun w_=>Tr.ev (Dy (A7 (E5 c) (Aci a b i j kind n p x y) 3)) (fun l_=>(seG [(seI .u8),(seI .i64),(seI .u64),(seI .u64),(seI .u64),(seI .i64),(seI .u32)]).eq ((fun l_=>.agg [lget l_ 0,lget l_ 1,lget l_ 2,lget l_ 3,lget l_ 4,lget l_ 5,lget l_ 6]) l_) w_) false) false=true:=Eq.trans (b:=(ba (decide ((BasZR15.lng (Frm.mk kind a b 2 i j n p 0 x y))=3)) (zcx8 a j p))) (by kernel_rfl) (band hl (band (Aw (Ddt rfl)) (band (Aw (Ddt rfl)) (band (Aw (Axf ha)) rfl))))
end
theorem Ar8 (c:Conf) (kind a b i j n p x y:Int) (hl:decide (lng (⟨kind,a,b,2,i,j,n,p,1,x,y⟩:Frm)=3)=true) (ha:0<=a/\a<4294967296):Ai Adw 400 87 [(E5 c).av,(⟨kind,a,b,2,i,j,n,p,1,x,y⟩:Frm).av] (fun w_=>Tr.ev (Dy (A7 (E5 c) (⟨kind,a,b,2,i,j,n,p,1,x,y⟩:Frm) 3)) (fun l_=>(seG [(seI .u8),(seI .i64),(seI .u64),(seI .u64),(seI .u64),(seI .i64),(seI .u32)]).eq ((fun l_=>.agg [lget l_ 0,lget l_ 1,lget l_ 2,lget l_ 3,lget l_ 4,lget l_ 5,lget l_ 6]) l_) w_) false) false=true:=Eq.trans (b:=(ba (decide ((BasZR15.lng (Frm.mk kind a b 2 i j n p 1 x y))=3)) (ba (A7a j) (ba (decide ((IntKind.wrap .u64 ((IntKind.wrap .u64 p)+1))=(IntKind.wrap .u64 ((IntKind.wrap .u64 p)+1)))&&true) (ba (zcx7 a) true))))) (by kernel_rfl) (band hl (band (Aw (Ddt rfl)) (band (Aw (Ddt rfl)) (band (Aw (A6n ha)) rfl))))
theorem Ar9 (c:Conf) (kind a b i j n p x y:Int) (hl:decide (lng (⟨kind,a,b,2,i,j,n,p,2,x,y⟩:Frm)=3)=true) (ha:0<=a/\a<4294967296):Ai Adw 400 87 [(E5 c).av,(⟨kind,a,b,2,i,j,n,p,2,x,y⟩:Frm).av] (fun w_=>Tr.ev (Dy (A7 (E5 c) (⟨kind,a,b,2,i,j,n,p,2,x,y⟩:Frm) 3)) (fun l_=>(seG [(seI .u8),(seI .i64),(seI .u64),(seI .u64),(seI .u64),(seI .i64),(seI .u32)]).eq ((fun l_=>.agg [lget l_ 0,lget l_ 1,lget l_ 2,lget l_ 3,lget l_ 4,lget l_ 5,lget l_ 6]) l_) w_) false) false=true:=Eq.trans (b:=(ba (decide ((BasZR15.lng (Frm.mk kind a b 2 i j n p 2 x y))=3)) (ba (A7a j) (ba (decide ((IntKind.wrap .u64 ((IntKind.wrap .u64 p)+1))=(IntKind.wrap .u64 ((IntKind.wrap .u64 p)+1)))&&true) (ba (decide ((IntKind.wrap .u64 b)=(IntKind.wrap .u64 b))&&true) (A02 y)))))) (by kernel_rfl) (band hl (band (Aw (Ddt rfl)) (band (Aw (Ddt rfl)) (band (Aw (Ddt rfl)) (band (Aw (Ddt rfl)) rfl)))))
theorem A1g (c:Conf) (f:Frm) (h:(decide (c.ob=4)&&(posH f&&(decide (lng f=3)&&f_wmay_0 (A7 c f 3) c)))=true):Ai Adw 400 87 [c.av,f.av] (fun w_=>Tr.ev (Dy (A7 c f 3)) (fun l_=>(seG [(seI .u8),(seI .i64),(seI .u64),(seI .u64),(seI .u64),(seI .i64),(seI .u32)]).eq ((fun l_=>.agg [lget l_ 0,lget l_ 1,lget l_ 2,lget l_ 3,lget l_ 4,lget l_ 5,lget l_ 6]) l_) w_) false) false=true:=by
 have ho:=Odt (Aj h)
 have hp:=Aj (Af h)
 have hl:=Aj (Af (Af h))
 have hm:=Af (Af (Af h))
 have hn:=F5 hp
 have ha:=hn.2.1
 have hpc:f.pc=0\/f.pc=3\/f.pc=5\/f.pc=6\/f.pc=20\/f.pc=21\/f.pc=22\/f.pc=23\/f.pc=4\/f.pc=2:=Ana hm
 have h2:f.pc=2->0<=f.h/\f.h<3:=fun e=>by
  have q:=U0 hm;have q1:=q.1;have q2:=q.2.1 (.inr e);rw [Du hn.2.2.2.1 hn.2.2.2.2] at q1 q2;have q1:f.h<=3:=q1;have q2:f.h ≠ 3:=q2;omega
 clear hm h hp hn
 rw [D8 ho]
 obtain ⟨kind,a,b,pc,i,j,n,p,hh,x,y⟩:=f
 have hpc:pc=0\/pc=3\/pc=5\/pc=6\/pc=20\/pc=21\/pc=22\/pc=23\/pc=4\/pc=2:=hpc
 rcases hpc with rfl|rfl|rfl|rfl|rfl|rfl|rfl|rfl|rfl|rfl
 ·exact A1b c kind a b i j n p hh x y hl ha
 ·exact A1c c kind a b i j n p hh x y hl ha
 ·exact A1d c kind a b i j n p hh x y hl ha
 ·exact A1e c kind a b i j n p hh x y hl ha
 ·exact Av1 c kind a b i j n p hh x y hl ha
 ·exact Av2 c kind a b i j n p hh x y hl ha
 ·exact Av3 c kind a b i j n p hh x y hl ha
 ·exact Av4 c kind a b i j n p hh x y hl ha
 ·exact A1f c kind a b i j n p hh x y hl ha
 ·have h2:0<=hh/\hh<3:=h2 rfl
  rcases (show hh=0\/hh=1\/hh=2 by omega) with rfl|rfl|rfl
  ·exact Ar7 c kind a b i j n p x y hl ha
  ·exact Ar8 c kind a b i j n p x y hl ha
  ·exact Ar9 c kind a b i j n p x y hl ha
theorem Bdr:Bc Tryz.prog (Cb gs) Axp:=Cm fun c f h=>Aq base (Ah Axi Ap) (n:=400) fun k hk=>(Dh (A1g c f h) (fun w_ hw=>((seG [(seI .u8),(seI .i64),(seI .u64),(seI .u64),(seI .u64),(seI .i64),(seI .u32)]).ok _ _ ((Tr.merge (Zg (A7 c f 3)) (Jz (Avp (Dn (Aj (Af h))) (by omega) (Af (Af (Af h)))) (by omega))).symm.trans hw))) k).trans hk
end
end Go.Bas.BasZR15d
