/- How great an object is, of a config that may be; and the contract of 'At' with it; How great an object is: the document's answer is the program's; Where a place stands: the document's answer is the program's; The engine, part Tx: the shapes of chapters 26 to 28: looks, readers, writers; Contracts by a run's outcome: indicators: arriving, departing, looks; Arriving and departing: the document's answers are the program's. -/
import Derived.Test.YtjepofcbkojibaaGreatDoorBasW5
import Derived.Test.YtjepofcbkojibaaGreatDoorBasW6
import Derived.Test.YtjepofcbkojibaaGreatDoorBasW10
import Derived.Test.YtjepofcbkojibaaGreatDoorBasW12
set_option maxRecDepth 100000
set_option maxHeartbeats 4000000
set_option linter.unusedVariables false
set_option linter.unusedSimpArgs false
section
namespace Go.Bas.BasZRank2
noncomputable section
open Go.RowKit Go.Proofs BasZBase BasZRank BasZAt4
def chkSz (c:Conf):Bool:=Af4 c&&(decide (0<=f_size_0 c)&&decide (f_size_0 c<=200))
theorem tab2:((List.range 33).all fun n=>(List.range 5).all fun w=>!(Nat.ble 1 n&&Nat.ble 2 w) || chkSz ⟨2,0,0,0,0,0,(n:Int),(w:Int),0,0,0,0⟩)=true:=by kernel_rfl
theorem tab1:((List.range 7).all fun n=>chkSz ⟨1,0,0,0,0,(n:Int),0,0,0,0,0,0⟩)=true:=by kernel_rfl
theorem A8v (c:Conf) (h:c.ok=true):chkSz c=true:=by
 have hO:=Hy.1 h
 clear h
 obtain ⟨ob,ins,thr,kind,str,bits,cap,node,batch,chunk,limit,most⟩:=c
 simp only [Conf.OkP] at hO
 rcases (show ob=1\/ob=2\/(ob=3\/ob=4) by omega) with rfl|rfl|ho
 ·have hb:1<=bits/\bits<=6:=by omega
  have:=List.all_eq_true.1 tab1 bits.toNat (List.mem_range.2 (by omega))
  rw [show ((bits.toNat:Nat):Int)=bits by omega] at this
  exact this
 ·have hc:1<=cap/\cap<=32:=by omega
  have hn:2<=node/\node<=4:=by omega
  have:=List.all_eq_true.1 (List.all_eq_true.1 tab2 cap.toNat (List.mem_range.2 (by omega))) node.toNat (List.mem_range.2 (by omega))
  rw [show ((cap.toNat:Nat):Int)=cap by omega,show ((node.toNat:Nat):Int)=node by omega] at this
  have e1:Nat.ble 1 cap.toNat=true:=Nat.ble_eq_true_of_le (by omega)
  have e2:Nat.ble 2 node.toNat=true:=Nat.ble_eq_true_of_le (by omega)
  rw [e1,e2] at this;simp only [Bool.and_self,Bool.not_true,Bool.false_or] at this;exact this
 ·have hc:1<=cap/\cap<=32:=by omega
  have e:chkSz ⟨ob,ins,thr,kind,str,bits,cap,node,batch,chunk,limit,most⟩=(decide (0<=cap)&&decide (cap<=200)):=by
   rcases ho with rfl|rfl
   ·kernel_rfl
   ·kernel_rfl
  rw [e];simp only [Bae,Dte];omega
theorem Q7 (c:Conf) (h:c.ok=true):Af4 c=true/\0<=f_size_0 c/\f_size_0 c<=200:=by
 have:=A8v c h
 simp only [chkSz,Bae,Dte] at this
 exact this
def Afo:Sum:=(40,on2 Dp Bab (fun _ _=>true) (fun c p=>.tup [.int .i64 (atN (f_size_0 c) c p),.int .i64 (atE (f_size_0 c) c p)]))
theorem s_at:Bc Tryz.prog (Cb gs) Afo:=Bo8 (sz:=f_size_0) (pr:=Af4) s_size (fun c h=>(Q7 c h).1) (fun c h=>(Q7 c h).2)
end
end Go.Bas.BasZRank2
end
section
namespace Go.Bas.BasZR4
noncomputable section
open Go.RowKit Go.Proofs
open BasZBase BasZRef5 BasZR14 BasZRank BasZRank3 BasZLev BasZR3 BasZTreB BasZRank2
theorem H5 {n w:Int} {L:Nat} (hl:levIs n w L=true):(L=1->decide (Aa n w 0<=w)=true)/\(2<=L->decide (Aa n w 0<=w)=false)/\(L=2->decide (Aa n w 1<=w)=true)/\(3<=L->decide (Aa n w 1<=w)=false)/\(L=3->decide (Aa n w 2<=w)=true)/\(4<=L->decide (Aa n w 2<=w)=false)/\(L=4->decide (Aa n w 3<=w)=true)/\(5<=L->decide (Aa n w 3<=w)=false):=by
 unfold levIs at hl
 revert hl
 cases (!(Bf n 1 w))<;>cases Dq n w 0<;>cases decide (Aa n w 0<=w)<;>cases Dq n w 1<;>cases decide (Aa n w 1<=w)<;>cases Dq n w 2<;>cases decide (Aa n w 2<=w)<;>cases Dq n w 3<;>cases decide (Aa n w 3<=w)<;>cases Dq n w 4<;>cases decide (Aa n w 4<=w)<;>intro hl<;>first|(cases hl;done)|(have hl:=Nat.eq_of_beq_eq_true hl;subst hl;refine ⟨?_,?_,?_,?_,?_,?_,?_,?_⟩<;>intro h<;>first|rfl|omega)|skip
def Bkh:Sum:=(146,on1 Dp (fun c=>(decide (Az c=0)&&!(decide (c.ob=2)))) (fun c=>.int .i64 (f_size_0 c)))
section
variable (c:Conf)
abbrev yee0:Conf:=⟨1,c.ins,c.thr,c.kind,c.str,1,c.cap,c.node,c.batch,c.chunk,c.limit,c.most⟩
theorem Bgx:Ai (cfg []) 400 146 [(yee0 c).av] (fun w_=>Tr.ev (Ir (yee0 c)) (fun l_=>(seI .i64).eq ((fun l_=>lget l_ 0) l_) w_) false) false=true:=Eq.trans (b:=true) (by kernel_rfl) rfl
abbrev yee1:Conf:=⟨1,c.ins,c.thr,c.kind,c.str,2,c.cap,c.node,c.batch,c.chunk,c.limit,c.most⟩
theorem Bgy:Ai (cfg []) 400 146 [(yee1 c).av] (fun w_=>Tr.ev (Ir (yee1 c)) (fun l_=>(seI .i64).eq ((fun l_=>lget l_ 0) l_) w_) false) false=true:=Eq.trans (b:=true) (by kernel_rfl) rfl
abbrev yee2:Conf:=⟨1,c.ins,c.thr,c.kind,c.str,3,c.cap,c.node,c.batch,c.chunk,c.limit,c.most⟩
theorem Bgz:Ai (cfg []) 400 146 [(yee2 c).av] (fun w_=>Tr.ev (Ir (yee2 c)) (fun l_=>(seI .i64).eq ((fun l_=>lget l_ 0) l_) w_) false) false=true:=Eq.trans (b:=true) (by kernel_rfl) rfl
abbrev yee3:Conf:=⟨1,c.ins,c.thr,c.kind,c.str,4,c.cap,c.node,c.batch,c.chunk,c.limit,c.most⟩
theorem Bg0:Ai (cfg []) 400 146 [(yee3 c).av] (fun w_=>Tr.ev (Ir (yee3 c)) (fun l_=>(seI .i64).eq ((fun l_=>lget l_ 0) l_) w_) false) false=true:=Eq.trans (b:=true) (by kernel_rfl) rfl
abbrev yee4:Conf:=⟨1,c.ins,c.thr,c.kind,c.str,5,c.cap,c.node,c.batch,c.chunk,c.limit,c.most⟩
theorem Bg1:Ai (cfg []) 400 146 [(yee4 c).av] (fun w_=>Tr.ev (Ir (yee4 c)) (fun l_=>(seI .i64).eq ((fun l_=>lget l_ 0) l_) w_) false) false=true:=Eq.trans (b:=true) (by kernel_rfl) rfl
abbrev yee5:Conf:=⟨1,c.ins,c.thr,c.kind,c.str,6,c.cap,c.node,c.batch,c.chunk,c.limit,c.most⟩
theorem Bg2:Ai (cfg []) 400 146 [(yee5 c).av] (fun w_=>Tr.ev (Ir (yee5 c)) (fun l_=>(seI .i64).eq ((fun l_=>lget l_ 0) l_) w_) false) false=true:=Eq.trans (b:=true) (by kernel_rfl) rfl
abbrev yee6:Conf:=⟨3,c.ins,c.thr,c.kind,c.str,c.bits,c.cap,c.node,c.batch,c.chunk,c.limit,c.most⟩
end
abbrev Bgt:=true
theorem t_gr3 (c:Conf):Ai (cfg []) 400 146 [(yee6 c).av] (fun w_=>Tr.ev (Ir (yee6 c)) (fun l_=>(seI .i64).eq ((fun l_=>lget l_ 0) l_) w_) false) false=true:=Eq.trans (b:=(ba (decide (c.7=c.7)) Bgt)) (by kernel_rfl) (band (Ddt rfl) rfl)
abbrev yee7 (c:Conf):Conf:=⟨4,c.ins,c.thr,c.kind,c.str,c.bits,c.cap,c.node,c.batch,c.chunk,c.limit,c.most⟩
theorem t_gr4 (c:Conf):Ai (cfg []) 400 146 [(yee7 c).av] (fun w_=>Tr.ev (Ir (yee7 c)) (fun l_=>(seI .i64).eq ((fun l_=>lget l_ 0) l_) w_) false) false=true:=Eq.trans (b:=(ba (decide (c.7=c.7)) Bgt)) (by kernel_rfl) (band (Ddt rfl) rfl)
abbrev Bkb (c:Conf):AV->Bool:=fun w_=>Tr.ev (Ir c) (fun l_=>(seI .i64).eq ((fun l_=>lget l_ 0) l_) w_) false
theorem Bg3 (c:Conf) (h:(decide (Az c=0)&&!(decide (c.ob=2)))=true):Ai (cfg []) 400 146 [c.av] (Bkb c) false=true:=by
 have he:=Aj h
 have h2:=Odf (Oc (Af h))
 have hO:=Hy.1 (okP he)
 simp only [Conf.OkP] at hO
 have h3:c.ob=1\/c.ob=3\/c.ob=4:=by omega
 have hb:c.ob=1->1<=c.bits/\c.bits<=6:=by omega
 clear h he hO h2
 obtain ⟨ob,ins,thr,kind,str,bits,cap,node,batch,chunk,limit,most⟩:=c
 have h3:ob=1\/ob=3\/ob=4:=h3
 have hb:ob=1->1<=bits/\bits<=6:=hb
 rcases h3 with rfl|rfl|rfl
 ·have hb:=hb rfl
  rcases (show bits=1\/bits=2\/bits=3\/bits=4\/bits=5\/bits=6 by omega) with rfl|rfl|rfl|rfl|rfl|rfl
  ·exact Bgx ⟨1,ins,thr,kind,str,1,cap,node,batch,chunk,limit,most⟩
  ·exact Bgy ⟨1,ins,thr,kind,str,2,cap,node,batch,chunk,limit,most⟩
  ·exact Bgz ⟨1,ins,thr,kind,str,3,cap,node,batch,chunk,limit,most⟩
  ·exact Bg0 ⟨1,ins,thr,kind,str,4,cap,node,batch,chunk,limit,most⟩
  ·exact Bg1 ⟨1,ins,thr,kind,str,5,cap,node,batch,chunk,limit,most⟩
  ·exact Bg2 ⟨1,ins,thr,kind,str,6,cap,node,batch,chunk,limit,most⟩
 ·exact t_gr3 ⟨3,ins,thr,kind,str,bits,cap,node,batch,chunk,limit,most⟩
 ·exact t_gr4 ⟨4,ins,thr,kind,str,bits,cap,node,batch,chunk,limit,most⟩
theorem s_grA:Bc Tryz.prog (Cb gs) Bkh:=Fg fun c h=>Aq base Ap (n:=400) fun k hk=>(Dh (Bg3 c h) (fun w_ hw=>((seI .i64).ok _ _ ((Tr.merge (O6 c) ((Q7 c (okP (Aj h))).1)).symm.trans hw))) k).trans hk
def A8w:Sum:=(146,on1 Dp (fun c=>(decide (Az c=0)&&(decide (c.ob=2)&&levIs c.cap c.node 1))) (fun c=>.int .i64 (f_size_0 c)))
abbrev Byq (c:Conf):Conf:=⟨2,c.ins,c.thr,c.kind,c.str,c.bits,c.cap,c.node,c.batch,c.chunk,c.limit,c.most⟩
abbrev Bzn (c:Conf):Prop:=∀ k:Int,(decide (0<=k)&&decide (k<=4))=true->itR c.cap c.node k=true
abbrev Bzo (c:Conf):Prop:=∀ k:Int,(decide (0<=k)&&decide (k<=4))=true->Dq c.cap c.node k=true
abbrev Ih (c:Conf):AV->Bool:=fun w_=>Tr.ev (Ir (Byq c)) (fun l_=>(seI .i64).eq ((fun l_=>lget l_ 0) l_) w_) false
abbrev O9 (c:Conf):=BasZR3.itR c.7 c.8 0
abbrev zee4 (c:Conf):=!(Bf c.7 1 c.8)
abbrev Ec (c:Conf):=decide ((Aa c.7 c.8 0)<=c.8)
abbrev A2p (c:Conf):=decide ((Aa c.7 c.8 1)<=c.8)
abbrev Bzp (c:Conf):=decide ((Aa c.7 c.8 2)<=c.8)
abbrev Bzq (c:Conf):=decide ((Aa c.7 c.8 3)<=c.8)
abbrev Bzr (c:Conf):=decide ((Aa c.7 c.8 4)<=c.8)
abbrev B2f (c:Conf):Bool:=ba (decide ((IntKind.wrap .i64 ((IntKind.wrap .i64 ((IntKind.wrap .i64 ((IntKind.wrap .i64 ((IntKind.wrap .i64 (1+(Aa c.7 c.8 0)))+(Aa c.7 c.8 1)))+(Aa c.7 c.8 2)))+(Aa c.7 c.8 3)))+(Aa c.7 c.8 4)))=(IntKind.wrap .i64 (1+(Aa c.7 c.8 0))))) Bgt
theorem Bpa (c:Conf) (hl:levIs c.cap c.node 1=true) (hI:Bzn c) (hU:Bzo c):Ai (cfg [Gh,Aia]) 400 146 [(Byq c).av] (Ih c) false=true:=Eq.trans (b:=(ba (BasZLev.levIs c.7 c.8 1) (ba (O9 c) (ba (BasZLev.levIs c.7 c.8 1) (br (zee4 c) (ba (decide (1=(IntKind.wrap .i64 (1+(Aa c.7 c.8 0))))) Bgt) (ba (Dq c.7 c.8 0) (br (Ec c) (ba (decide ((IntKind.wrap .i64 (1+(Aa c.7 c.8 0)))=(IntKind.wrap .i64 (1+(Aa c.7 c.8 0))))) Bgt) (ba (Dq c.7 c.8 1) (br (A2p c) (ba (decide ((IntKind.wrap .i64 ((IntKind.wrap .i64 (1+(Aa c.7 c.8 0)))+(Aa c.7 c.8 1)))=(IntKind.wrap .i64 (1+(Aa c.7 c.8 0))))) Bgt) (ba (Dq c.7 c.8 2) (br (Bzp c) (ba (decide ((IntKind.wrap .i64 ((IntKind.wrap .i64 ((IntKind.wrap .i64 (1+(Aa c.7 c.8 0)))+(Aa c.7 c.8 1)))+(Aa c.7 c.8 2)))=(IntKind.wrap .i64 (1+(Aa c.7 c.8 0))))) Bgt) (ba (Dq c.7 c.8 3) (br (Bzq c) (ba (decide ((IntKind.wrap .i64 ((IntKind.wrap .i64 ((IntKind.wrap .i64 ((IntKind.wrap .i64 (1+(Aa c.7 c.8 0)))+(Aa c.7 c.8 1)))+(Aa c.7 c.8 2)))+(Aa c.7 c.8 3)))=(IntKind.wrap .i64 (1+(Aa c.7 c.8 0))))) Bgt) (ba (Dq c.7 c.8 4) (br (Bzr c) (B2f c) (B2f c)))))))))))))))) (by kernel_rfl) (band hl (band (hI 0 rfl) (band hl (btf (Ad (Bi hl)) (band (hU 0 rfl) (btb ((H5 hl).1 rfl) (band (Ddt rfl) rfl)))))))
theorem A85 (c:Conf) (h:(decide (Az c=0)&&(decide (c.ob=2)&&levIs c.cap c.node 1))=true):Ai (cfg [Gh,Aia]) 400 146 [c.av] (Bkb c) false=true:=by
 have ho:=Odt (Aj (Af h))
 have hl:=Af (Af h)
 obtain ⟨a0,a1,b0,b1⟩:=Gg (Bi hl)
 have hI:∀ k:Int,(decide (0<=k)&&decide (k<=4))=true->itR c.cap c.node k=true:=fun k hk=>by
  simp only [Bae,Dte] at hk;exact Hr.2 ⟨⟨by omega,a1⟩,⟨b0,b1⟩,hk⟩
 have hU:∀ k:Int,(decide (0<=k)&&decide (k<=4))=true->Dq c.cap c.node k=true:=fun k hk=>by
  simp only [Bae,Dte] at hk;exact E8 ⟨b0,b1⟩ hk
 rw [D8 ho]
 exact Bpa c hl hI hU
theorem Bpb:Bc Tryz.prog (Cb gs) A8w:=Fg fun c h=>Aq base (Ah S9 (Ah A7g Ap)) (n:=400) fun k hk=>(Dh (A85 c h) (fun w_ hw=>((seI .i64).ok _ _ ((Tr.merge (O6 c) ((Q7 c (okP (Aj h))).1)).symm.trans hw))) k).trans hk
def A86:Sum:=(146,on1 Dp (fun c=>(decide (Az c=0)&&(decide (c.ob=2)&&levIs c.cap c.node 2))) (fun c=>.int .i64 (f_size_0 c)))
abbrev B2g (c:Conf):Bool:=ba (decide ((IntKind.wrap .i64 ((IntKind.wrap .i64 ((IntKind.wrap .i64 ((IntKind.wrap .i64 ((IntKind.wrap .i64 (1+(Aa c.7 c.8 0)))+(Aa c.7 c.8 1)))+(Aa c.7 c.8 2)))+(Aa c.7 c.8 3)))+(Aa c.7 c.8 4)))=(IntKind.wrap .i64 ((IntKind.wrap .i64 (1+(Aa c.7 c.8 0)))+(Aa c.7 c.8 1))))) Bgt
theorem Bpc (c:Conf) (hl:levIs c.cap c.node 2=true) (hI:Bzn c) (hU:Bzo c):Ai (cfg [Gh,Ady]) 400 146 [(Byq c).av] (Ih c) false=true:=Eq.trans (b:=(ba (BasZLev.levIs c.7 c.8 2) (ba (O9 c) (ba (BasZLev.levIs c.7 c.8 2) (ba (BasZR3.itR c.7 c.8 1) (ba (BasZLev.levIs c.7 c.8 2) (br (zee4 c) (ba (decide (1=(IntKind.wrap .i64 ((IntKind.wrap .i64 (1+(Aa c.7 c.8 0)))+(Aa c.7 c.8 1))))) Bgt) (ba (Dq c.7 c.8 0) (br (Ec c) (ba (decide ((IntKind.wrap .i64 (1+(Aa c.7 c.8 0)))=(IntKind.wrap .i64 ((IntKind.wrap .i64 (1+(Aa c.7 c.8 0)))+(Aa c.7 c.8 1))))) Bgt) (ba (Dq c.7 c.8 1) (br (A2p c) (ba (decide ((IntKind.wrap .i64 ((IntKind.wrap .i64 (1+(Aa c.7 c.8 0)))+(Aa c.7 c.8 1)))=(IntKind.wrap .i64 ((IntKind.wrap .i64 (1+(Aa c.7 c.8 0)))+(Aa c.7 c.8 1))))) Bgt) (ba (Dq c.7 c.8 2) (br (Bzp c) (ba (decide ((IntKind.wrap .i64 ((IntKind.wrap .i64 ((IntKind.wrap .i64 (1+(Aa c.7 c.8 0)))+(Aa c.7 c.8 1)))+(Aa c.7 c.8 2)))=(IntKind.wrap .i64 ((IntKind.wrap .i64 (1+(Aa c.7 c.8 0)))+(Aa c.7 c.8 1))))) Bgt) (ba (Dq c.7 c.8 3) (br (Bzq c) (ba (decide ((IntKind.wrap .i64 ((IntKind.wrap .i64 ((IntKind.wrap .i64 ((IntKind.wrap .i64 (1+(Aa c.7 c.8 0)))+(Aa c.7 c.8 1)))+(Aa c.7 c.8 2)))+(Aa c.7 c.8 3)))=(IntKind.wrap .i64 ((IntKind.wrap .i64 (1+(Aa c.7 c.8 0)))+(Aa c.7 c.8 1))))) Bgt) (ba (Dq c.7 c.8 4) (br (Bzr c) (B2g c) (B2g c)))))))))))))))))) (by kernel_rfl) (band hl (band (hI 0 rfl) (band hl (band (hI 1 rfl) (band hl (btf (Ad (Bi hl)) (band (hU 0 rfl) (btf ((H5 hl).2.1 (by decide)) (band (hU 1 rfl) (btb ((H5 hl).2.2.1 rfl) (band (Ddt rfl) rfl)))))))))))
theorem A87 (c:Conf) (h:(decide (Az c=0)&&(decide (c.ob=2)&&levIs c.cap c.node 2))=true):Ai (cfg [Gh,Ady]) 400 146 [c.av] (Bkb c) false=true:=by
 have ho:=Odt (Aj (Af h))
 have hl:=Af (Af h)
 obtain ⟨a0,a1,b0,b1⟩:=Gg (Bi hl)
 have hI:∀ k:Int,(decide (0<=k)&&decide (k<=4))=true->itR c.cap c.node k=true:=fun k hk=>by
  simp only [Bae,Dte] at hk;exact Hr.2 ⟨⟨by omega,a1⟩,⟨b0,b1⟩,hk⟩
 have hU:∀ k:Int,(decide (0<=k)&&decide (k<=4))=true->Dq c.cap c.node k=true:=fun k hk=>by
  simp only [Bae,Dte] at hk;exact E8 ⟨b0,b1⟩ hk
 rw [D8 ho]
 exact Bpc c hl hI hU
theorem Bpd:Bc Tryz.prog (Cb gs) A86:=Fg fun c h=>Aq base (Ah S9 (Ah A7h Ap)) (n:=400) fun k hk=>(Dh (A87 c h) (fun w_ hw=>((seI .i64).ok _ _ ((Tr.merge (O6 c) ((Q7 c (okP (Aj h))).1)).symm.trans hw))) k).trans hk
def A88:Sum:=(146,on1 Dp (fun c=>(decide (Az c=0)&&(decide (c.ob=2)&&levIs c.cap c.node 3))) (fun c=>.int .i64 (f_size_0 c)))
abbrev B2h (c:Conf):Bool:=ba (decide ((IntKind.wrap .i64 ((IntKind.wrap .i64 ((IntKind.wrap .i64 ((IntKind.wrap .i64 ((IntKind.wrap .i64 (1+(Aa c.7 c.8 0)))+(Aa c.7 c.8 1)))+(Aa c.7 c.8 2)))+(Aa c.7 c.8 3)))+(Aa c.7 c.8 4)))=(IntKind.wrap .i64 ((IntKind.wrap .i64 ((IntKind.wrap .i64 (1+(Aa c.7 c.8 0)))+(Aa c.7 c.8 1)))+(Aa c.7 c.8 2))))) Bgt
theorem Bpe (c:Conf) (hl:levIs c.cap c.node 3=true) (hI:Bzn c) (hU:Bzo c):Ai (cfg [Gh,Aa7]) 400 146 [(Byq c).av] (Ih c) false=true:=Eq.trans (b:=(ba (BasZLev.levIs c.7 c.8 3) (ba (O9 c) (ba (BasZLev.levIs c.7 c.8 3) (ba (BasZR3.itR c.7 c.8 1) (ba (BasZLev.levIs c.7 c.8 3) (ba (BasZR3.itR c.7 c.8 2) (ba (BasZLev.levIs c.7 c.8 3) (br (zee4 c) (ba (decide (1=(IntKind.wrap .i64 ((IntKind.wrap .i64 ((IntKind.wrap .i64 (1+(Aa c.7 c.8 0)))+(Aa c.7 c.8 1)))+(Aa c.7 c.8 2))))) Bgt) (ba (Dq c.7 c.8 0) (br (Ec c) (ba (decide ((IntKind.wrap .i64 (1+(Aa c.7 c.8 0)))=(IntKind.wrap .i64 ((IntKind.wrap .i64 ((IntKind.wrap .i64 (1+(Aa c.7 c.8 0)))+(Aa c.7 c.8 1)))+(Aa c.7 c.8 2))))) Bgt) (ba (Dq c.7 c.8 1) (br (A2p c) (ba (decide ((IntKind.wrap .i64 ((IntKind.wrap .i64 (1+(Aa c.7 c.8 0)))+(Aa c.7 c.8 1)))=(IntKind.wrap .i64 ((IntKind.wrap .i64 ((IntKind.wrap .i64 (1+(Aa c.7 c.8 0)))+(Aa c.7 c.8 1)))+(Aa c.7 c.8 2))))) Bgt) (ba (Dq c.7 c.8 2) (br (Bzp c) (ba (decide ((IntKind.wrap .i64 ((IntKind.wrap .i64 ((IntKind.wrap .i64 (1+(Aa c.7 c.8 0)))+(Aa c.7 c.8 1)))+(Aa c.7 c.8 2)))=(IntKind.wrap .i64 ((IntKind.wrap .i64 ((IntKind.wrap .i64 (1+(Aa c.7 c.8 0)))+(Aa c.7 c.8 1)))+(Aa c.7 c.8 2))))) Bgt) (ba (Dq c.7 c.8 3) (br (Bzq c) (ba (decide ((IntKind.wrap .i64 ((IntKind.wrap .i64 ((IntKind.wrap .i64 ((IntKind.wrap .i64 (1+(Aa c.7 c.8 0)))+(Aa c.7 c.8 1)))+(Aa c.7 c.8 2)))+(Aa c.7 c.8 3)))=(IntKind.wrap .i64 ((IntKind.wrap .i64 ((IntKind.wrap .i64 (1+(Aa c.7 c.8 0)))+(Aa c.7 c.8 1)))+(Aa c.7 c.8 2))))) Bgt) (ba (Dq c.7 c.8 4) (br (Bzr c) (B2h c) (B2h c)))))))))))))))))))) (by kernel_rfl) (band hl (band (hI 0 rfl) (band hl (band (hI 1 rfl) (band hl (band (hI 2 rfl) (band hl (btf (Ad (Bi hl)) (band (hU 0 rfl) (btf ((H5 hl).2.1 (by decide)) (band (hU 1 rfl) (btf ((H5 hl).2.2.2.1 (by decide)) (band (hU 2 rfl) (btb ((H5 hl).2.2.2.2.1 rfl) (band (Ddt rfl) rfl)))))))))))))))
theorem A89 (c:Conf) (h:(decide (Az c=0)&&(decide (c.ob=2)&&levIs c.cap c.node 3))=true):Ai (cfg [Gh,Aa7]) 400 146 [c.av] (Bkb c) false=true:=by
 have ho:=Odt (Aj (Af h))
 have hl:=Af (Af h)
 obtain ⟨a0,a1,b0,b1⟩:=Gg (Bi hl)
 have hI:∀ k:Int,(decide (0<=k)&&decide (k<=4))=true->itR c.cap c.node k=true:=fun k hk=>by
  simp only [Bae,Dte] at hk;exact Hr.2 ⟨⟨by omega,a1⟩,⟨b0,b1⟩,hk⟩
 have hU:∀ k:Int,(decide (0<=k)&&decide (k<=4))=true->Dq c.cap c.node k=true:=fun k hk=>by
  simp only [Bae,Dte] at hk;exact E8 ⟨b0,b1⟩ hk
 rw [D8 ho]
 exact Bpe c hl hI hU
theorem Bpf:Bc Tryz.prog (Cb gs) A88:=Fg fun c h=>Aq base (Ah S9 (Ah A7i Ap)) (n:=400) fun k hk=>(Dh (A89 c h) (fun w_ hw=>((seI .i64).ok _ _ ((Tr.merge (O6 c) ((Q7 c (okP (Aj h))).1)).symm.trans hw))) k).trans hk
def A9a:Sum:=(146,on1 Dp (fun c=>(decide (Az c=0)&&(decide (c.ob=2)&&levIs c.cap c.node 4))) (fun c=>.int .i64 (f_size_0 c)))
abbrev Bvx (c:Conf):=BasZLev.levIs c.7 c.8 4
abbrev B2i (c:Conf):Bool:=ba (decide ((IntKind.wrap .i64 ((IntKind.wrap .i64 ((IntKind.wrap .i64 ((IntKind.wrap .i64 ((IntKind.wrap .i64 (1+(Aa c.7 c.8 0)))+(Aa c.7 c.8 1)))+(Aa c.7 c.8 2)))+(Aa c.7 c.8 3)))+(Aa c.7 c.8 4)))=(IntKind.wrap .i64 ((IntKind.wrap .i64 ((IntKind.wrap .i64 ((IntKind.wrap .i64 (1+(Aa c.7 c.8 0)))+(Aa c.7 c.8 1)))+(Aa c.7 c.8 2)))+(Aa c.7 c.8 3))))) Bgt
theorem Bpg (c:Conf) (hl:levIs c.cap c.node 4=true) (hI:Bzn c) (hU:Bzo c):Ai (cfg [Gh,Aod]) 400 146 [(Byq c).av] (Ih c) false=true:=Eq.trans (b:=(ba (Bvx c) (ba (O9 c) (ba (Bvx c) (ba (BasZR3.itR c.7 c.8 1) (ba (Bvx c) (ba (BasZR3.itR c.7 c.8 2) (ba (Bvx c) (ba (BasZR3.itR c.7 c.8 3) (ba (Bvx c) (br (zee4 c) (ba (decide (1=(IntKind.wrap .i64 ((IntKind.wrap .i64 ((IntKind.wrap .i64 ((IntKind.wrap .i64 (1+(Aa c.7 c.8 0)))+(Aa c.7 c.8 1)))+(Aa c.7 c.8 2)))+(Aa c.7 c.8 3))))) Bgt) (ba (Dq c.7 c.8 0) (br (Ec c) (ba (decide ((IntKind.wrap .i64 (1+(Aa c.7 c.8 0)))=(IntKind.wrap .i64 ((IntKind.wrap .i64 ((IntKind.wrap .i64 ((IntKind.wrap .i64 (1+(Aa c.7 c.8 0)))+(Aa c.7 c.8 1)))+(Aa c.7 c.8 2)))+(Aa c.7 c.8 3))))) Bgt) (ba (Dq c.7 c.8 1) (br (A2p c) (ba (decide ((IntKind.wrap .i64 ((IntKind.wrap .i64 (1+(Aa c.7 c.8 0)))+(Aa c.7 c.8 1)))=(IntKind.wrap .i64 ((IntKind.wrap .i64 ((IntKind.wrap .i64 ((IntKind.wrap .i64 (1+(Aa c.7 c.8 0)))+(Aa c.7 c.8 1)))+(Aa c.7 c.8 2)))+(Aa c.7 c.8 3))))) Bgt) (ba (Dq c.7 c.8 2) (br (Bzp c) (ba (decide ((IntKind.wrap .i64 ((IntKind.wrap .i64 ((IntKind.wrap .i64 (1+(Aa c.7 c.8 0)))+(Aa c.7 c.8 1)))+(Aa c.7 c.8 2)))=(IntKind.wrap .i64 ((IntKind.wrap .i64 ((IntKind.wrap .i64 ((IntKind.wrap .i64 (1+(Aa c.7 c.8 0)))+(Aa c.7 c.8 1)))+(Aa c.7 c.8 2)))+(Aa c.7 c.8 3))))) Bgt) (ba (Dq c.7 c.8 3) (br (Bzq c) (ba (decide ((IntKind.wrap .i64 ((IntKind.wrap .i64 ((IntKind.wrap .i64 ((IntKind.wrap .i64 (1+(Aa c.7 c.8 0)))+(Aa c.7 c.8 1)))+(Aa c.7 c.8 2)))+(Aa c.7 c.8 3)))=(IntKind.wrap .i64 ((IntKind.wrap .i64 ((IntKind.wrap .i64 ((IntKind.wrap .i64 (1+(Aa c.7 c.8 0)))+(Aa c.7 c.8 1)))+(Aa c.7 c.8 2)))+(Aa c.7 c.8 3))))) Bgt) (ba (Dq c.7 c.8 4) (br (Bzr c) (B2i c) (B2i c)))))))))))))))))))))) (by kernel_rfl) (band hl (band (hI 0 rfl) (band hl (band (hI 1 rfl) (band hl (band (hI 2 rfl) (band hl (band (hI 3 rfl) (band hl (btf (Ad (Bi hl)) (band (hU 0 rfl) (btf ((H5 hl).2.1 (by decide)) (band (hU 1 rfl) (btf ((H5 hl).2.2.2.1 (by decide)) (band (hU 2 rfl) (btf ((H5 hl).2.2.2.2.2.1 (by decide)) (band (hU 3 rfl) (btb ((H5 hl).2.2.2.2.2.2.1 rfl) (band (Ddt rfl) rfl)))))))))))))))))))
theorem A9b (c:Conf) (h:(decide (Az c=0)&&(decide (c.ob=2)&&levIs c.cap c.node 4))=true):Ai (cfg [Gh,Aod]) 400 146 [c.av] (Bkb c) false=true:=by
 have ho:=Odt (Aj (Af h))
 have hl:=Af (Af h)
 obtain ⟨a0,a1,b0,b1⟩:=Gg (Bi hl)
 have hI:∀ k:Int,(decide (0<=k)&&decide (k<=4))=true->itR c.cap c.node k=true:=fun k hk=>by
  simp only [Bae,Dte] at hk;exact Hr.2 ⟨⟨by omega,a1⟩,⟨b0,b1⟩,hk⟩
 have hU:∀ k:Int,(decide (0<=k)&&decide (k<=4))=true->Dq c.cap c.node k=true:=fun k hk=>by
  simp only [Bae,Dte] at hk;exact E8 ⟨b0,b1⟩ hk
 rw [D8 ho]
 exact Bpg c hl hI hU
theorem Bph:Bc Tryz.prog (Cb gs) A9a:=Fg fun c h=>Aq base (Ah S9 (Ah A7j Ap)) (n:=400) fun k hk=>(Dh (A9b c h) (fun w_ hw=>((seI .i64).ok _ _ ((Tr.merge (O6 c) ((Q7 c (okP (Aj h))).1)).symm.trans hw))) k).trans hk
def A9c:Sum:=(146,on1 Dp (fun c=>(decide (Az c=0)&&(decide (c.ob=2)&&levIs c.cap c.node 5))) (fun c=>.int .i64 (f_size_0 c)))
abbrev Buq (c:Conf):=BasZLev.levIs c.7 c.8 5
abbrev B2j (c:Conf):Bool:=ba (decide ((IntKind.wrap .i64 ((IntKind.wrap .i64 ((IntKind.wrap .i64 ((IntKind.wrap .i64 ((IntKind.wrap .i64 (1+(Aa c.7 c.8 0)))+(Aa c.7 c.8 1)))+(Aa c.7 c.8 2)))+(Aa c.7 c.8 3)))+(Aa c.7 c.8 4)))=(IntKind.wrap .i64 ((IntKind.wrap .i64 ((IntKind.wrap .i64 ((IntKind.wrap .i64 ((IntKind.wrap .i64 (1+(Aa c.7 c.8 0)))+(Aa c.7 c.8 1)))+(Aa c.7 c.8 2)))+(Aa c.7 c.8 3)))+(Aa c.7 c.8 4))))) Bgt
theorem Bpi (c:Conf) (hl:levIs c.cap c.node 5=true) (hI:Bzn c) (hU:Bzo c):Ai (cfg [Gh,Aoe]) 400 146 [(Byq c).av] (Ih c) false=true:=Eq.trans (b:=(ba (Buq c) (ba (O9 c) (ba (Buq c) (ba (BasZR3.itR c.7 c.8 1) (ba (Buq c) (ba (BasZR3.itR c.7 c.8 2) (ba (Buq c) (ba (BasZR3.itR c.7 c.8 3) (ba (Buq c) (ba (BasZR3.itR c.7 c.8 4) (ba (Buq c) (br (zee4 c) (ba (decide (1=(IntKind.wrap .i64 ((IntKind.wrap .i64 ((IntKind.wrap .i64 ((IntKind.wrap .i64 ((IntKind.wrap .i64 (1+(Aa c.7 c.8 0)))+(Aa c.7 c.8 1)))+(Aa c.7 c.8 2)))+(Aa c.7 c.8 3)))+(Aa c.7 c.8 4))))) Bgt) (ba (Dq c.7 c.8 0) (br (Ec c) (ba (decide ((IntKind.wrap .i64 (1+(Aa c.7 c.8 0)))=(IntKind.wrap .i64 ((IntKind.wrap .i64 ((IntKind.wrap .i64 ((IntKind.wrap .i64 ((IntKind.wrap .i64 (1+(Aa c.7 c.8 0)))+(Aa c.7 c.8 1)))+(Aa c.7 c.8 2)))+(Aa c.7 c.8 3)))+(Aa c.7 c.8 4))))) Bgt) (ba (Dq c.7 c.8 1) (br (A2p c) (ba (decide ((IntKind.wrap .i64 ((IntKind.wrap .i64 (1+(Aa c.7 c.8 0)))+(Aa c.7 c.8 1)))=(IntKind.wrap .i64 ((IntKind.wrap .i64 ((IntKind.wrap .i64 ((IntKind.wrap .i64 ((IntKind.wrap .i64 (1+(Aa c.7 c.8 0)))+(Aa c.7 c.8 1)))+(Aa c.7 c.8 2)))+(Aa c.7 c.8 3)))+(Aa c.7 c.8 4))))) Bgt) (ba (Dq c.7 c.8 2) (br (Bzp c) (ba (decide ((IntKind.wrap .i64 ((IntKind.wrap .i64 ((IntKind.wrap .i64 (1+(Aa c.7 c.8 0)))+(Aa c.7 c.8 1)))+(Aa c.7 c.8 2)))=(IntKind.wrap .i64 ((IntKind.wrap .i64 ((IntKind.wrap .i64 ((IntKind.wrap .i64 ((IntKind.wrap .i64 (1+(Aa c.7 c.8 0)))+(Aa c.7 c.8 1)))+(Aa c.7 c.8 2)))+(Aa c.7 c.8 3)))+(Aa c.7 c.8 4))))) Bgt) (ba (Dq c.7 c.8 3) (br (Bzq c) (ba (decide ((IntKind.wrap .i64 ((IntKind.wrap .i64 ((IntKind.wrap .i64 ((IntKind.wrap .i64 (1+(Aa c.7 c.8 0)))+(Aa c.7 c.8 1)))+(Aa c.7 c.8 2)))+(Aa c.7 c.8 3)))=(IntKind.wrap .i64 ((IntKind.wrap .i64 ((IntKind.wrap .i64 ((IntKind.wrap .i64 ((IntKind.wrap .i64 (1+(Aa c.7 c.8 0)))+(Aa c.7 c.8 1)))+(Aa c.7 c.8 2)))+(Aa c.7 c.8 3)))+(Aa c.7 c.8 4))))) Bgt) (ba (Dq c.7 c.8 4) (br (Bzr c) (B2j c) (B2j c)))))))))))))))))))))))) (by kernel_rfl) (band hl (band (hI 0 rfl) (band hl (band (hI 1 rfl) (band hl (band (hI 2 rfl) (band hl (band (hI 3 rfl) (band hl (band (hI 4 rfl) (band hl (btf (Ad (Bi hl)) (band (hU 0 rfl) (btf ((H5 hl).2.1 (by decide)) (band (hU 1 rfl) (btf ((H5 hl).2.2.2.1 (by decide)) (band (hU 2 rfl) (btf ((H5 hl).2.2.2.2.2.1 (by decide)) (band (hU 3 rfl) (btf ((H5 hl).2.2.2.2.2.2.2 (by decide)) (band (hU 4 rfl) (bdt (fun h_1=>(band (Ddt rfl) rfl)) (fun h_1=>(band (Ddt rfl) rfl))))))))))))))))))))))))
theorem A9d (c:Conf) (h:(decide (Az c=0)&&(decide (c.ob=2)&&levIs c.cap c.node 5))=true):Ai (cfg [Gh,Aoe]) 400 146 [c.av] (Bkb c) false=true:=by
 have ho:=Odt (Aj (Af h))
 have hl:=Af (Af h)
 obtain ⟨a0,a1,b0,b1⟩:=Gg (Bi hl)
 have hI:∀ k:Int,(decide (0<=k)&&decide (k<=4))=true->itR c.cap c.node k=true:=fun k hk=>by
  simp only [Bae,Dte] at hk;exact Hr.2 ⟨⟨by omega,a1⟩,⟨b0,b1⟩,hk⟩
 have hU:∀ k:Int,(decide (0<=k)&&decide (k<=4))=true->Dq c.cap c.node k=true:=fun k hk=>by
  simp only [Bae,Dte] at hk;exact E8 ⟨b0,b1⟩ hk
 rw [D8 ho]
 exact Bpi c hl hI hU
theorem Bpj:Bc Tryz.prog (Cb gs) A9c:=Fg fun c h=>Aq base (Ah S9 (Ah A7k Ap)) (n:=400) fun k hk=>(Dh (A9d c h) (fun w_ hw=>((seI .i64).ok _ _ ((Tr.merge (O6 c) ((Q7 c (okP (Aj h))).1)).symm.trans hw))) k).trans hk
def Aye:Sum:=(146,on1 Dp (fun c=>decide (Az c=0)) (fun c=>.int .i64 (f_size_0 c)))
theorem Bg4:Bc Tryz.prog (Cb gs) Aye:=Fg fun c he=>by
 cases ho:decide (c.ob=2) with
 | false=>exact s_grA [c.av] (.int .i64 (f_size_0 c)) ((show Bkh.2 [c.av]=some ((decide (Az c=0)&&!(decide (c.ob=2))),.int .i64 (f_size_0 c)) from by kernel_rfl).trans (by rw [he,ho];rfl))
 | true =>
  rcases Ab8 (Ky he ho) with hl|hl|hl|hl|hl
  ·exact Bpb [c.av] (.int .i64 (f_size_0 c)) ((show A8w.2 [c.av]=some ((decide (Az c=0)&&(decide (c.ob=2)&&levIs c.cap c.node 1)),.int .i64 (f_size_0 c)) from by kernel_rfl).trans (by rw [he,ho,hl];rfl))
  ·exact Bpd [c.av] (.int .i64 (f_size_0 c)) ((show A86.2 [c.av]=some ((decide (Az c=0)&&(decide (c.ob=2)&&levIs c.cap c.node 2)),.int .i64 (f_size_0 c)) from by kernel_rfl).trans (by rw [he,ho,hl];rfl))
  ·exact Bpf [c.av] (.int .i64 (f_size_0 c)) ((show A88.2 [c.av]=some ((decide (Az c=0)&&(decide (c.ob=2)&&levIs c.cap c.node 3)),.int .i64 (f_size_0 c)) from by kernel_rfl).trans (by rw [he,ho,hl];rfl))
  ·exact Bph [c.av] (.int .i64 (f_size_0 c)) ((show A9a.2 [c.av]=some ((decide (Az c=0)&&(decide (c.ob=2)&&levIs c.cap c.node 4)),.int .i64 (f_size_0 c)) from by kernel_rfl).trans (by rw [he,ho,hl];rfl))
  ·exact Bpj [c.av] (.int .i64 (f_size_0 c)) ((show A9c.2 [c.av]=some ((decide (Az c=0)&&(decide (c.ob=2)&&levIs c.cap c.node 5)),.int .i64 (f_size_0 c)) from by kernel_rfl).trans (by rw [he,ho,hl];rfl))
end
end Go.Bas.BasZR4
end
section
namespace Go.Bas.BasZR4w
noncomputable section
open Go.RowKit Go.Proofs
open BasZBase BasZRef5 BasZRank BasZRank2 BasZR4 BasZAt4 BasZOk3
section
variable (z:Int) (c:Conf) (a b:Int)
theorem wh_4:whereS z c ⟨4,a,b⟩=3+a:=rfl
theorem wh_5:whereS z c ⟨5,a,b⟩=3+c.thr+a:=rfl
theorem wh_6:whereS z c ⟨6,a,b⟩=3+2*c.thr+a*c.thr+b:=rfl
theorem wh_7:whereS z c ⟨7,a,b⟩=3+2*c.thr+a*c.str+b:=rfl
theorem wh_8:whereS z c ⟨8,a,b⟩=3+2*c.thr+2*c.str+a*c.str+b:=rfl
theorem wh_9:whereS z c ⟨9,a,b⟩=headS c+a*(1+z):=rfl
theorem wh_10:whereS z c ⟨10,a,b⟩=headS c+a*(1+z)+1+b:=rfl
end
theorem okC {c:Conf} (h:c.ok=true):(1<=c.thr/\c.thr<=16)/\(c.kind=1\/c.kind=2)/\(0<=c.str/\c.str<=4)/\(2<=c.ins/\c.ins<=4):=by
 have h:=Hy.1 h
 simp only [Conf.OkP] at h
 omega
def Bg5:Sum:=(85,on2 Dp Bab (fun c p=>(decide (Az c=0)&&decide (Ol (f_size_0 c) c p))) (fun c p=>.int .i64 (whereS (f_size_0 c) c p)))
abbrev HE0 (c:Conf):Prop:=decide (Az c=0)=true
abbrev zeg0:=cfg [Aye]
abbrev zeg1:=seI .i64
theorem t_wr1 (c:Conf) (a b:Int) (he:HE0 c) (ht:1<=c.thr/\c.thr<=16) (hK:c.kind=1\/c.kind=2) (hs:0<=c.str/\c.str<=4) (hz:0<=f_size_0 c/\f_size_0 c<=200) (ha:0<=a/\a<=16) (hb:0<=b/\b<=200):Ai zeg0 500 85 [c.av,(⟨1,0,0⟩:Plc).av] (fun w_=>zeg1.eq (.int .i64 (whereS (f_size_0 (c)) (c) (⟨1,0,0⟩:Plc))) w_) false=true:=Eq.trans (b:=true) (by kernel_rfl) rfl
theorem t_wr2 (c:Conf) (a b:Int) (he:HE0 c) (ht:1<=c.thr/\c.thr<=16) (hK:c.kind=1\/c.kind=2) (hs:0<=c.str/\c.str<=4) (hz:0<=f_size_0 c/\f_size_0 c<=200) (ha:0<=a/\a<=16) (hb:0<=b/\b<=200):Ai zeg0 500 85 [c.av,(⟨2,0,0⟩:Plc).av] (fun w_=>zeg1.eq (.int .i64 (whereS (f_size_0 (c)) (c) (⟨2,0,0⟩:Plc))) w_) false=true:=Eq.trans (b:=true) (by kernel_rfl) rfl
theorem t_wr3 (c:Conf) (a b:Int) (he:HE0 c) (ht:1<=c.thr/\c.thr<=16) (hK:c.kind=1\/c.kind=2) (hs:0<=c.str/\c.str<=4) (hz:0<=f_size_0 c/\f_size_0 c<=200) (ha:0<=a/\a<=16) (hb:0<=b/\b<=200):Ai zeg0 500 85 [c.av,(⟨3,0,0⟩:Plc).av] (fun w_=>zeg1.eq (.int .i64 (whereS (f_size_0 (c)) (c) (⟨3,0,0⟩:Plc))) w_) false=true:=Eq.trans (b:=true) (by kernel_rfl) rfl
abbrev Bqt:=true
theorem t_wr4 (c:Conf) (a b:Int) (he:HE0 c) (ht:1<=c.thr/\c.thr<=16) (hK:c.kind=1\/c.kind=2) (hs:0<=c.str/\c.str<=4) (hz:0<=f_size_0 c/\f_size_0 c<=200) (ha:0<=a/\a<=16) (hb:0<=b/\b<=200):Ai zeg0 500 85 [c.av,(⟨4,a,0⟩:Plc).av] (fun w_=>zeg1.eq (.int .i64 (whereS (f_size_0 (c)) (c) (⟨4,a,0⟩:Plc))) w_) false=true:=Eq.trans (b:=(ba (decide ((BasZAt4.whereS (f_size_0 c) c (Plc.mk 4 a 0))=(IntKind.wrap .i64 ((IntKind.wrap .i64 (3+(IntKind.wrap .i64 (a*1))))+0)))) Bqt)) (by kernel_rfl) (band (Ddt (by (rw [wh_4];simp (disch:=omega) only [i64_mid];omega))) rfl)
theorem t_wr5 (c:Conf) (a b:Int) (he:HE0 c) (ht:1<=c.thr/\c.thr<=16) (hK:c.kind=1\/c.kind=2) (hs:0<=c.str/\c.str<=4) (hz:0<=f_size_0 c/\f_size_0 c<=200) (ha:0<=a/\a<=16) (hb:0<=b/\b<=200):Ai zeg0 500 85 [c.av,(⟨5,a,0⟩:Plc).av] (fun w_=>zeg1.eq (.int .i64 (whereS (f_size_0 (c)) (c) (⟨5,a,0⟩:Plc))) w_) false=true:=Eq.trans (b:=(ba (decide ((BasZAt4.whereS (f_size_0 c) c (Plc.mk 5 a 0))=(IntKind.wrap .i64 ((IntKind.wrap .i64 ((IntKind.wrap .i64 (3+(IntKind.wrap .i64 (c.3*1))))+(IntKind.wrap .i64 (a*1))))+0)))) Bqt)) (by kernel_rfl) (band (Ddt (by (rw [wh_5];simp (disch:=omega) only [i64_mid];omega))) rfl)
theorem t_wr6 (c:Conf) (a b:Int) (he:HE0 c) (ht:1<=c.thr/\c.thr<=16) (hK:c.kind=1\/c.kind=2) (hs:0<=c.str/\c.str<=4) (hz:0<=f_size_0 c/\f_size_0 c<=200) (ha:0<=a/\a<=16) (hb:0<=b/\b<=200) (hk:c.kind=1) (h4:a=0\/a=1):Ai zeg0 500 85 [c.av,(⟨6,a,b⟩:Plc).av] (fun w_=>zeg1.eq (.int .i64 (whereS (f_size_0 (c)) (c) (⟨6,a,b⟩:Plc))) w_) false=true:=Eq.trans (b:=(br (decide (c.4=1)) (ba (decide ((BasZAt4.whereS (f_size_0 c) c (Plc.mk 6 a b))=(IntKind.wrap .i64 ((IntKind.wrap .i64 ((IntKind.wrap .i64 ((IntKind.wrap .i64 (3+(IntKind.wrap .i64 (c.3*1))))+(IntKind.wrap .i64 (c.3*1))))+(IntKind.wrap .i64 (a*c.3))))+b)))) Bqt) (ba (decide ((BasZAt4.whereS (f_size_0 c) c (Plc.mk 6 a b))=(IntKind.wrap .i64 ((IntKind.wrap .i64 ((IntKind.wrap .i64 ((IntKind.wrap .i64 (3+(IntKind.wrap .i64 (c.3*1))))+(IntKind.wrap .i64 (c.3*1))))+(IntKind.wrap .i64 (a*0))))+b)))) Bqt))) (by kernel_rfl) (btb (Ddt hk) (band (Ddt (by rcases h4 with rfl|rfl<;>(rw [wh_6];simp (disch:=omega) only [i64_mid];omega))) rfl))
abbrev Brk (c:Conf):=decide (c.4=2)
theorem t_wr7 (c:Conf) (a b:Int) (he:HE0 c) (ht:1<=c.thr/\c.thr<=16) (hK:c.kind=1\/c.kind=2) (hs:0<=c.str/\c.str<=4) (hz:0<=f_size_0 c/\f_size_0 c<=200) (ha:0<=a/\a<=16) (hb:0<=b/\b<=200) (hk:¬ c.kind=1) (h4:a=0\/a=1):Ai zeg0 500 85 [c.av,(⟨7,a,b⟩:Plc).av] (fun w_=>zeg1.eq (.int .i64 (whereS (f_size_0 (c)) (c) (⟨7,a,b⟩:Plc))) w_) false=true:=Eq.trans (b:=(br (decide (c.4=1)) (br (Brk c) (ba (decide ((BasZAt4.whereS (f_size_0 c) c (Plc.mk 7 a b))=(IntKind.wrap .i64 ((IntKind.wrap .i64 ((IntKind.wrap .i64 ((IntKind.wrap .i64 ((IntKind.wrap .i64 (3+(IntKind.wrap .i64 (c.3*1))))+(IntKind.wrap .i64 (c.3*1))))+(IntKind.wrap .i64 (2*c.3))))+(IntKind.wrap .i64 (a*c.5))))+b)))) Bqt) (ba (decide ((BasZAt4.whereS (f_size_0 c) c (Plc.mk 7 a b))=(IntKind.wrap .i64 ((IntKind.wrap .i64 ((IntKind.wrap .i64 ((IntKind.wrap .i64 ((IntKind.wrap .i64 (3+(IntKind.wrap .i64 (c.3*1))))+(IntKind.wrap .i64 (c.3*1))))+(IntKind.wrap .i64 (2*c.3))))+(IntKind.wrap .i64 (a*0))))+b)))) Bqt)) (br (Brk c) (ba (decide ((BasZAt4.whereS (f_size_0 c) c (Plc.mk 7 a b))=(IntKind.wrap .i64 ((IntKind.wrap .i64 ((IntKind.wrap .i64 ((IntKind.wrap .i64 ((IntKind.wrap .i64 (3+(IntKind.wrap .i64 (c.3*1))))+(IntKind.wrap .i64 (c.3*1))))+0))+(IntKind.wrap .i64 (a*c.5))))+b)))) Bqt) (ba (decide ((BasZAt4.whereS (f_size_0 c) c (Plc.mk 7 a b))=(IntKind.wrap .i64 ((IntKind.wrap .i64 ((IntKind.wrap .i64 ((IntKind.wrap .i64 ((IntKind.wrap .i64 (3+(IntKind.wrap .i64 (c.3*1))))+(IntKind.wrap .i64 (c.3*1))))+0))+(IntKind.wrap .i64 (a*0))))+b)))) Bqt)))) (by kernel_rfl) (btf (Ddf hk) (btb (Ddt (by omega)) (band (Ddt (by rcases h4 with rfl|rfl<;>(rw [wh_7];simp (disch:=omega) only [i64_mid];omega))) rfl)))
theorem t_wr8 (c:Conf) (a b:Int) (he:HE0 c) (ht:1<=c.thr/\c.thr<=16) (hK:c.kind=1\/c.kind=2) (hs:0<=c.str/\c.str<=4) (hz:0<=f_size_0 c/\f_size_0 c<=200) (ha:0<=a/\a<=16) (hb:0<=b/\b<=200) (hk:¬ c.kind=1) (h4:a=0\/a=1):Ai zeg0 500 85 [c.av,(⟨8,a,b⟩:Plc).av] (fun w_=>zeg1.eq (.int .i64 (whereS (f_size_0 (c)) (c) (⟨8,a,b⟩:Plc))) w_) false=true:=Eq.trans (b:=(br (decide (c.4=1)) (br (Brk c) (br (Brk c) (ba (decide ((BasZAt4.whereS (f_size_0 c) c (Plc.mk 8 a b))=(IntKind.wrap .i64 ((IntKind.wrap .i64 ((IntKind.wrap .i64 ((IntKind.wrap .i64 ((IntKind.wrap .i64 ((IntKind.wrap .i64 (3+(IntKind.wrap .i64 (c.3*1))))+(IntKind.wrap .i64 (c.3*1))))+(IntKind.wrap .i64 (2*c.3))))+(IntKind.wrap .i64 (2*c.5))))+(IntKind.wrap .i64 (a*c.5))))+b)))) Bqt) (ba (decide ((BasZAt4.whereS (f_size_0 c) c (Plc.mk 8 a b))=(IntKind.wrap .i64 ((IntKind.wrap .i64 ((IntKind.wrap .i64 ((IntKind.wrap .i64 ((IntKind.wrap .i64 ((IntKind.wrap .i64 (3+(IntKind.wrap .i64 (c.3*1))))+(IntKind.wrap .i64 (c.3*1))))+(IntKind.wrap .i64 (2*c.3))))+(IntKind.wrap .i64 (2*c.5))))+(IntKind.wrap .i64 (a*0))))+b)))) Bqt)) (br (Brk c) (ba (decide ((BasZAt4.whereS (f_size_0 c) c (Plc.mk 8 a b))=(IntKind.wrap .i64 ((IntKind.wrap .i64 ((IntKind.wrap .i64 ((IntKind.wrap .i64 ((IntKind.wrap .i64 ((IntKind.wrap .i64 (3+(IntKind.wrap .i64 (c.3*1))))+(IntKind.wrap .i64 (c.3*1))))+(IntKind.wrap .i64 (2*c.3))))+0))+(IntKind.wrap .i64 (a*c.5))))+b)))) Bqt) (ba (decide ((BasZAt4.whereS (f_size_0 c) c (Plc.mk 8 a b))=(IntKind.wrap .i64 ((IntKind.wrap .i64 ((IntKind.wrap .i64 ((IntKind.wrap .i64 ((IntKind.wrap .i64 ((IntKind.wrap .i64 (3+(IntKind.wrap .i64 (c.3*1))))+(IntKind.wrap .i64 (c.3*1))))+(IntKind.wrap .i64 (2*c.3))))+0))+(IntKind.wrap .i64 (a*0))))+b)))) Bqt))) (br (Brk c) (br (Brk c) (ba (decide ((BasZAt4.whereS (f_size_0 c) c (Plc.mk 8 a b))=(IntKind.wrap .i64 ((IntKind.wrap .i64 ((IntKind.wrap .i64 ((IntKind.wrap .i64 ((IntKind.wrap .i64 ((IntKind.wrap .i64 (3+(IntKind.wrap .i64 (c.3*1))))+(IntKind.wrap .i64 (c.3*1))))+0))+(IntKind.wrap .i64 (2*c.5))))+(IntKind.wrap .i64 (a*c.5))))+b)))) Bqt) (ba (decide ((BasZAt4.whereS (f_size_0 c) c (Plc.mk 8 a b))=(IntKind.wrap .i64 ((IntKind.wrap .i64 ((IntKind.wrap .i64 ((IntKind.wrap .i64 ((IntKind.wrap .i64 ((IntKind.wrap .i64 (3+(IntKind.wrap .i64 (c.3*1))))+(IntKind.wrap .i64 (c.3*1))))+0))+(IntKind.wrap .i64 (2*c.5))))+(IntKind.wrap .i64 (a*0))))+b)))) Bqt)) (br (Brk c) (ba (decide ((BasZAt4.whereS (f_size_0 c) c (Plc.mk 8 a b))=(IntKind.wrap .i64 ((IntKind.wrap .i64 ((IntKind.wrap .i64 ((IntKind.wrap .i64 ((IntKind.wrap .i64 ((IntKind.wrap .i64 (3+(IntKind.wrap .i64 (c.3*1))))+(IntKind.wrap .i64 (c.3*1))))+0))+0))+(IntKind.wrap .i64 (a*c.5))))+b)))) Bqt) (ba (decide ((BasZAt4.whereS (f_size_0 c) c (Plc.mk 8 a b))=(IntKind.wrap .i64 ((IntKind.wrap .i64 ((IntKind.wrap .i64 ((IntKind.wrap .i64 ((IntKind.wrap .i64 ((IntKind.wrap .i64 (3+(IntKind.wrap .i64 (c.3*1))))+(IntKind.wrap .i64 (c.3*1))))+0))+0))+(IntKind.wrap .i64 (a*0))))+b)))) Bqt))))) (by kernel_rfl) (btf (Ddf hk) (btb (Ddt (by omega)) (btb (Ddt (by omega)) (band (Ddt (by rcases h4 with rfl|rfl<;>(rw [wh_8];simp (disch:=omega) only [i64_mid];omega))) rfl))))
abbrev Bsf (c:Conf):=decide ((Az c)=0)
theorem t_wr9 (c:Conf) (a b:Int) (he:HE0 c) (ht:1<=c.thr/\c.thr<=16) (hK:c.kind=1\/c.kind=2) (hs:0<=c.str/\c.str<=4) (hz:0<=f_size_0 c/\f_size_0 c<=200) (ha:0<=a/\a<=16) (hb:0<=b/\b<=200) (h4:a=0\/a=1\/a=2\/a=3):Ai zeg0 500 85 [c.av,(⟨9,a,0⟩:Plc).av] (fun w_=>zeg1.eq (.int .i64 (whereS (f_size_0 (c)) (c) (⟨9,a,0⟩:Plc))) w_) false=true:=Eq.trans (b:=(br (decide (c.4=1)) (br (Brk c) (br (Brk c) (ba (Bsf c) (ba (decide ((BasZAt4.whereS (f_size_0 c) c (Plc.mk 9 a 0))=(IntKind.wrap .i64 ((IntKind.wrap .i64 ((IntKind.wrap .i64 ((IntKind.wrap .i64 ((IntKind.wrap .i64 ((IntKind.wrap .i64 (3+(IntKind.wrap .i64 (c.3*1))))+(IntKind.wrap .i64 (c.3*1))))+(IntKind.wrap .i64 (2*c.3))))+(IntKind.wrap .i64 (2*c.5))))+(IntKind.wrap .i64 (2*c.5))))+(IntKind.wrap .i64 (a*(IntKind.wrap .i64 (1+(f_size_0 c))))))))) Bqt)) (ba (Bsf c) (ba (decide ((BasZAt4.whereS (f_size_0 c) c (Plc.mk 9 a 0))=(IntKind.wrap .i64 ((IntKind.wrap .i64 ((IntKind.wrap .i64 ((IntKind.wrap .i64 ((IntKind.wrap .i64 ((IntKind.wrap .i64 (3+(IntKind.wrap .i64 (c.3*1))))+(IntKind.wrap .i64 (c.3*1))))+(IntKind.wrap .i64 (2*c.3))))+(IntKind.wrap .i64 (2*c.5))))+0))+(IntKind.wrap .i64 (a*(IntKind.wrap .i64 (1+(f_size_0 c))))))))) Bqt))) (br (Brk c) (ba (Bsf c) (ba (decide ((BasZAt4.whereS (f_size_0 c) c (Plc.mk 9 a 0))=(IntKind.wrap .i64 ((IntKind.wrap .i64 ((IntKind.wrap .i64 ((IntKind.wrap .i64 ((IntKind.wrap .i64 ((IntKind.wrap .i64 (3+(IntKind.wrap .i64 (c.3*1))))+(IntKind.wrap .i64 (c.3*1))))+(IntKind.wrap .i64 (2*c.3))))+0))+(IntKind.wrap .i64 (2*c.5))))+(IntKind.wrap .i64 (a*(IntKind.wrap .i64 (1+(f_size_0 c))))))))) Bqt)) (ba (Bsf c) (ba (decide ((BasZAt4.whereS (f_size_0 c) c (Plc.mk 9 a 0))=(IntKind.wrap .i64 ((IntKind.wrap .i64 ((IntKind.wrap .i64 ((IntKind.wrap .i64 ((IntKind.wrap .i64 ((IntKind.wrap .i64 (3+(IntKind.wrap .i64 (c.3*1))))+(IntKind.wrap .i64 (c.3*1))))+(IntKind.wrap .i64 (2*c.3))))+0))+0))+(IntKind.wrap .i64 (a*(IntKind.wrap .i64 (1+(f_size_0 c))))))))) Bqt)))) (br (Brk c) (br (Brk c) (ba (Bsf c) (ba (decide ((BasZAt4.whereS (f_size_0 c) c (Plc.mk 9 a 0))=(IntKind.wrap .i64 ((IntKind.wrap .i64 ((IntKind.wrap .i64 ((IntKind.wrap .i64 ((IntKind.wrap .i64 ((IntKind.wrap .i64 (3+(IntKind.wrap .i64 (c.3*1))))+(IntKind.wrap .i64 (c.3*1))))+0))+(IntKind.wrap .i64 (2*c.5))))+(IntKind.wrap .i64 (2*c.5))))+(IntKind.wrap .i64 (a*(IntKind.wrap .i64 (1+(f_size_0 c))))))))) Bqt)) (ba (Bsf c) (ba (decide ((BasZAt4.whereS (f_size_0 c) c (Plc.mk 9 a 0))=(IntKind.wrap .i64 ((IntKind.wrap .i64 ((IntKind.wrap .i64 ((IntKind.wrap .i64 ((IntKind.wrap .i64 ((IntKind.wrap .i64 (3+(IntKind.wrap .i64 (c.3*1))))+(IntKind.wrap .i64 (c.3*1))))+0))+(IntKind.wrap .i64 (2*c.5))))+0))+(IntKind.wrap .i64 (a*(IntKind.wrap .i64 (1+(f_size_0 c))))))))) Bqt))) (br (Brk c) (ba (Bsf c) (ba (decide ((BasZAt4.whereS (f_size_0 c) c (Plc.mk 9 a 0))=(IntKind.wrap .i64 ((IntKind.wrap .i64 ((IntKind.wrap .i64 ((IntKind.wrap .i64 ((IntKind.wrap .i64 ((IntKind.wrap .i64 (3+(IntKind.wrap .i64 (c.3*1))))+(IntKind.wrap .i64 (c.3*1))))+0))+0))+(IntKind.wrap .i64 (2*c.5))))+(IntKind.wrap .i64 (a*(IntKind.wrap .i64 (1+(f_size_0 c))))))))) Bqt)) (ba (Bsf c) (ba (decide ((BasZAt4.whereS (f_size_0 c) c (Plc.mk 9 a 0))=(IntKind.wrap .i64 ((IntKind.wrap .i64 ((IntKind.wrap .i64 ((IntKind.wrap .i64 ((IntKind.wrap .i64 ((IntKind.wrap .i64 (3+(IntKind.wrap .i64 (c.3*1))))+(IntKind.wrap .i64 (c.3*1))))+0))+0))+0))+(IntKind.wrap .i64 (a*(IntKind.wrap .i64 (1+(f_size_0 c))))))))) Bqt)))))) (by kernel_rfl) (bdt (fun h_1=>(btf (Fq h_1 rfl) (btf (Fq h_1 rfl) (band he (band (Ddt (by rcases h4 with rfl|rfl|rfl|rfl<;>(rw [wh_9];unfold headS;rw [if_pos (Odt h_1)];simp (disch:=omega) only [i64_mid];omega))) rfl))))) (fun h_1=>(btb (Ddt (by have:=Odf h_1;omega)) (btb (Ddt (by have:=Odf h_1;omega)) (band he (band (Ddt (by rcases h4 with rfl|rfl|rfl|rfl<;>(rw [wh_9];unfold headS;rw [if_neg (Odf h_1)];simp (disch:=omega) only [i64_mid];omega))) rfl))))))
theorem B3p (c:Conf) (a b:Int) (he:HE0 c) (ht:1<=c.thr/\c.thr<=16) (hK:c.kind=1\/c.kind=2) (hs:0<=c.str/\c.str<=4) (hz:0<=f_size_0 c/\f_size_0 c<=200) (ha:0<=a/\a<=16) (hb:0<=b/\b<=200) (h4:a=0\/a=1\/a=2\/a=3):Ai zeg0 500 85 [c.av,(⟨10,a,b⟩:Plc).av] (fun w_=>zeg1.eq (.int .i64 (whereS (f_size_0 (c)) (c) (⟨10,a,b⟩:Plc))) w_) false=true:=Eq.trans (b:=(br (decide (c.4=1)) (br (Brk c) (br (Brk c) (ba (Bsf c) (ba (decide ((BasZAt4.whereS (f_size_0 c) c (Plc.mk 10 a b))=(IntKind.wrap .i64 ((IntKind.wrap .i64 ((IntKind.wrap .i64 ((IntKind.wrap .i64 ((IntKind.wrap .i64 ((IntKind.wrap .i64 ((IntKind.wrap .i64 ((IntKind.wrap .i64 (3+(IntKind.wrap .i64 (c.3*1))))+(IntKind.wrap .i64 (c.3*1))))+(IntKind.wrap .i64 (2*c.3))))+(IntKind.wrap .i64 (2*c.5))))+(IntKind.wrap .i64 (2*c.5))))+(IntKind.wrap .i64 (a*(IntKind.wrap .i64 (1+(f_size_0 c)))))))+1))+b)))) Bqt)) (ba (Bsf c) (ba (decide ((BasZAt4.whereS (f_size_0 c) c (Plc.mk 10 a b))=(IntKind.wrap .i64 ((IntKind.wrap .i64 ((IntKind.wrap .i64 ((IntKind.wrap .i64 ((IntKind.wrap .i64 ((IntKind.wrap .i64 ((IntKind.wrap .i64 ((IntKind.wrap .i64 (3+(IntKind.wrap .i64 (c.3*1))))+(IntKind.wrap .i64 (c.3*1))))+(IntKind.wrap .i64 (2*c.3))))+(IntKind.wrap .i64 (2*c.5))))+0))+(IntKind.wrap .i64 (a*(IntKind.wrap .i64 (1+(f_size_0 c)))))))+1))+b)))) Bqt))) (br (Brk c) (ba (Bsf c) (ba (decide ((BasZAt4.whereS (f_size_0 c) c (Plc.mk 10 a b))=(IntKind.wrap .i64 ((IntKind.wrap .i64 ((IntKind.wrap .i64 ((IntKind.wrap .i64 ((IntKind.wrap .i64 ((IntKind.wrap .i64 ((IntKind.wrap .i64 ((IntKind.wrap .i64 (3+(IntKind.wrap .i64 (c.3*1))))+(IntKind.wrap .i64 (c.3*1))))+(IntKind.wrap .i64 (2*c.3))))+0))+(IntKind.wrap .i64 (2*c.5))))+(IntKind.wrap .i64 (a*(IntKind.wrap .i64 (1+(f_size_0 c)))))))+1))+b)))) Bqt)) (ba (Bsf c) (ba (decide ((BasZAt4.whereS (f_size_0 c) c (Plc.mk 10 a b))=(IntKind.wrap .i64 ((IntKind.wrap .i64 ((IntKind.wrap .i64 ((IntKind.wrap .i64 ((IntKind.wrap .i64 ((IntKind.wrap .i64 ((IntKind.wrap .i64 ((IntKind.wrap .i64 (3+(IntKind.wrap .i64 (c.3*1))))+(IntKind.wrap .i64 (c.3*1))))+(IntKind.wrap .i64 (2*c.3))))+0))+0))+(IntKind.wrap .i64 (a*(IntKind.wrap .i64 (1+(f_size_0 c)))))))+1))+b)))) Bqt)))) (br (Brk c) (br (Brk c) (ba (Bsf c) (ba (decide ((BasZAt4.whereS (f_size_0 c) c (Plc.mk 10 a b))=(IntKind.wrap .i64 ((IntKind.wrap .i64 ((IntKind.wrap .i64 ((IntKind.wrap .i64 ((IntKind.wrap .i64 ((IntKind.wrap .i64 ((IntKind.wrap .i64 ((IntKind.wrap .i64 (3+(IntKind.wrap .i64 (c.3*1))))+(IntKind.wrap .i64 (c.3*1))))+0))+(IntKind.wrap .i64 (2*c.5))))+(IntKind.wrap .i64 (2*c.5))))+(IntKind.wrap .i64 (a*(IntKind.wrap .i64 (1+(f_size_0 c)))))))+1))+b)))) Bqt)) (ba (Bsf c) (ba (decide ((BasZAt4.whereS (f_size_0 c) c (Plc.mk 10 a b))=(IntKind.wrap .i64 ((IntKind.wrap .i64 ((IntKind.wrap .i64 ((IntKind.wrap .i64 ((IntKind.wrap .i64 ((IntKind.wrap .i64 ((IntKind.wrap .i64 ((IntKind.wrap .i64 (3+(IntKind.wrap .i64 (c.3*1))))+(IntKind.wrap .i64 (c.3*1))))+0))+(IntKind.wrap .i64 (2*c.5))))+0))+(IntKind.wrap .i64 (a*(IntKind.wrap .i64 (1+(f_size_0 c)))))))+1))+b)))) Bqt))) (br (Brk c) (ba (Bsf c) (ba (decide ((BasZAt4.whereS (f_size_0 c) c (Plc.mk 10 a b))=(IntKind.wrap .i64 ((IntKind.wrap .i64 ((IntKind.wrap .i64 ((IntKind.wrap .i64 ((IntKind.wrap .i64 ((IntKind.wrap .i64 ((IntKind.wrap .i64 ((IntKind.wrap .i64 (3+(IntKind.wrap .i64 (c.3*1))))+(IntKind.wrap .i64 (c.3*1))))+0))+0))+(IntKind.wrap .i64 (2*c.5))))+(IntKind.wrap .i64 (a*(IntKind.wrap .i64 (1+(f_size_0 c)))))))+1))+b)))) Bqt)) (ba (Bsf c) (ba (decide ((BasZAt4.whereS (f_size_0 c) c (Plc.mk 10 a b))=(IntKind.wrap .i64 ((IntKind.wrap .i64 ((IntKind.wrap .i64 ((IntKind.wrap .i64 ((IntKind.wrap .i64 ((IntKind.wrap .i64 ((IntKind.wrap .i64 ((IntKind.wrap .i64 (3+(IntKind.wrap .i64 (c.3*1))))+(IntKind.wrap .i64 (c.3*1))))+0))+0))+0))+(IntKind.wrap .i64 (a*(IntKind.wrap .i64 (1+(f_size_0 c)))))))+1))+b)))) Bqt)))))) (by kernel_rfl) (bdt (fun h_1=>(btf (Fq h_1 rfl) (btf (Fq h_1 rfl) (band he (band (Ddt (by rcases h4 with rfl|rfl|rfl|rfl<;>(rw [wh_10];unfold headS;rw [if_pos (Odt h_1)];simp (disch:=omega) only [i64_mid];omega))) rfl))))) (fun h_1=>(btb (Ddt (by have:=Odf h_1;omega)) (btb (Ddt (by have:=Odf h_1;omega)) (band he (band (Ddt (by rcases h4 with rfl|rfl|rfl|rfl<;>(rw [wh_10];unfold headS;rw [if_neg (Odf h_1)];simp (disch:=omega) only [i64_mid];omega))) rfl))))))
theorem A2t (c:Conf) (p:Plc) (h:(decide (Az c=0)&&decide (Ol (f_size_0 c) c p))=true):Ai zeg0 500 85 [c.av,p.av] (fun w_=>zeg1.eq (.int .i64 (whereS (f_size_0 c) c p)) w_) false=true:=by
 have he:=Aj h
 have hH:=Odt (Af h)
 have hc:=okP he
 obtain ⟨ht,hK,hs,hi⟩:=okC hc
 have hz:=(Q7 c hc).2
 clear h
 obtain ⟨part,a,b⟩:=p
 unfold Ol at hH
 simp only at hH
 rcases hH with ⟨q|q|q,a0,b0⟩|⟨q|q,a0,a1,b0⟩|⟨q,k1,a0,a1,b0,b1⟩|⟨q|q,k1,a0,a1,b0,b1⟩|⟨q,a0,a1,b0⟩|⟨q,a0,a1,b0,b1⟩
 ·subst q a0 b0
  exact t_wr1 c 0 0 he ht hK hs hz (by omega) (by omega)
 ·subst q a0 b0
  exact t_wr2 c 0 0 he ht hK hs hz (by omega) (by omega)
 ·subst q a0 b0
  exact t_wr3 c 0 0 he ht hK hs hz (by omega) (by omega)
 ·subst q b0
  exact t_wr4 c a 0 he ht hK hs hz ⟨a0,by omega⟩ (by omega)
 ·subst q b0
  exact t_wr5 c a 0 he ht hK hs hz ⟨a0,by omega⟩ (by omega)
 ·subst q
  exact t_wr6 c a b he ht hK hs hz (by omega) ⟨b0,by omega⟩ k1 (by omega)
 ·subst q
  exact t_wr7 c a b he ht hK hs hz (by omega) ⟨b0,by omega⟩ k1 (by omega)
 ·subst q
  exact t_wr8 c a b he ht hK hs hz (by omega) ⟨b0,by omega⟩ k1 (by omega)
 ·subst q b0
  exact t_wr9 c a 0 he ht hK hs hz (by omega) (by omega) (by omega)
 ·subst q
  exact B3p c a b he ht hK hs hz (by omega) ⟨b0,by omega⟩ (by omega)
theorem Bhi:Bc Tryz.prog (Cb gs) Bg5:=Cm fun c p h=>Aq base (Ah Bg4 Ap) (n:=500) fun k hk=>(Dh (A2t c p h) (fun w_ hw=>((seI .i64).ok _ _ hw)) k).trans hk
end
end Go.Bas.BasZR4w
end
section
namespace Go.Bas
open Go.RowKit
structure Lok where
 (tag:Int) (at':Int) (sum:Int)
def Lok.av (l:Lok):AV:=.agg [.int .u64 l.tag,.int .i64 l.at',.int .u64 l.sum]
structure Rdr where
 (pc ver inst batch:Int) (f:Frm) (code v:Int) (us:List AV) (m:Nat) (given:Int)
def Rdr.av (r:Rdr):AV:=.agg ([.int .u8 r.pc,.int .i64 r.ver,.int .i64 r.inst,.int .u64 r.batch] ++ r.f.cells ++ [.int .i64 r.code,.int .u32 r.v,.lst r.us r.m,.int .i64 r.given])
end Go.Bas
end
section
namespace Go.Bas.BasZSign
open Go.RowKit Go.Proofs
open BasZOk
theorem okP {c:Conf} (he:decide (Az c=0)=true):c.ok=true:=Og (Odt he)
end Go.Bas.BasZSign
end
section
namespace Go.Bas.BasZR21
noncomputable section
open Go.RowKit Go.Proofs
open BasZBase BasZRank BasZTreB BasZAt4 BasZR4w
theorem Acv {z:Int} {c:Conf} {p:Plc} (hc:c.ok=true) (h:Ol z c p):atN z c p=whereS z c p/\atE z c p=0:=by
 have e:atE z c p=0:=by
  unfold atE;rw [hc,Ddt h];rfl
 refine ⟨?_,e⟩
 unfold atN
 rw [e]
 rfl
def hasB (c:Conf) (p:Plc):Bool:=decide (Ol (f_size_0 c) c p)
def Qq:Sum:=(85,on2 Dp Bab (fun c p=>decide (Az c=0)&&hasB c p) (fun c p=>.int .i64 (whereS (f_size_0 c) c p)))
theorem A9l:Bc Tryz.prog (Cb gs) Qq:=Je (fun c p h=>⟨h,rfl⟩) Bhi
end
end Go.Bas.BasZR21
end
