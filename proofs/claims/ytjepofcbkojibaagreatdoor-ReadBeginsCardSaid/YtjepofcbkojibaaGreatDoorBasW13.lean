/- R. -/
import Derived.Test.YtjepofcbkojibaaGreatDoorBasW5
import Derived.Test.YtjepofcbkojibaaGreatDoorBasW6
import Derived.Test.YtjepofcbkojibaaGreatDoorBasW10
import Derived.Test.YtjepofcbkojibaaGreatDoorBasW12
set_option maxRecDepth 100000
set_option maxHeartbeats 4000000
set_option linter.unusedVariables false
set_option linter.unusedSimpArgs false
section
namespace Go.Bas.BasZRank2
noncomputable section
open Go.RowKit Go.Proofs BasZBase BasZRank BasZAt4
def chkSz (c:Conf):Bool:=Af4 c&&(decide (0<=f_size_0 c)&&decide (f_size_0 c<=200))
theorem tab2:((List.range 33).all fun n=>(List.range 5).all fun w=>!(Nat.ble 1 n&&Nat.ble 2 w) || chkSz ⟨2,0,0,0,0,0,(n:Int),(w:Int),0,0,0,0⟩)=true:=by kernel_rfl
theorem tab1:((List.range 7).all fun n=>chkSz ⟨1,0,0,0,0,(n:Int),0,0,0,0,0,0⟩)=true:=by kernel_rfl
theorem A8v (c:Conf) (h:c.ok=true):chkSz c=true:=by
 have hO:=Hy.1 h
 clear h
 obtain ⟨ob,ins,thr,kind,str,bits,cap,node,batch,chunk,limit,most⟩:=c
 simp only [Conf.OkP] at hO
 rcases (show ob=1\/ob=2\/(ob=3\/ob=4) by omega) with rfl|rfl|ho
 ·have hb:1<=bits/\bits<=6:=by omega
  have:=List.all_eq_true.1 tab1 bits.toNat (List.mem_range.2 (by omega))
  rw [show ((bits.toNat:Nat):Int)=bits by omega] at this
  exact this
 ·have hc:1<=cap/\cap<=32:=by omega
  have hn:2<=node/\node<=4:=by omega
  have:=List.all_eq_true.1 (List.all_eq_true.1 tab2 cap.toNat (List.mem_range.2 (by omega))) node.toNat (List.mem_range.2 (by omega))
  rw [show ((cap.toNat:Nat):Int)=cap by omega,show ((node.toNat:Nat):Int)=node by omega] at this
  have e1:Nat.ble 1 cap.toNat=true:=Nat.ble_eq_true_of_le (by omega)
  have e2:Nat.ble 2 node.toNat=true:=Nat.ble_eq_true_of_le (by omega)
  rw [e1,e2] at this;simp only [Bool.and_self,Bool.not_true,Bool.false_or] at this;exact this
 ·have hc:1<=cap/\cap<=32:=by omega
  have e:chkSz ⟨ob,ins,thr,kind,str,bits,cap,node,batch,chunk,limit,most⟩=(decide (0<=cap)&&decide (cap<=200)):=by
   rcases ho with rfl|rfl
   ·kernel_rfl
   ·kernel_rfl
  rw [e];simp only [Bae,Dte];omega
theorem Q7 (c:Conf) (h:c.ok=true):Af4 c=true/\0<=f_size_0 c/\f_size_0 c<=200:=by
 have:=A8v c h
 simp only [chkSz,Bae,Dte] at this
 exact this
def Afo:Sum:=(40,on2 Dp Bab (fun _ _=>true) (fun c p=>.tup [.int .i64 (atN (f_size_0 c) c p),.int .i64 (atE (f_size_0 c) c p)]))
theorem s_at:Bc Tryz.prog (Cb gs) Afo:=Bo8 (sz:=f_size_0) (pr:=Af4) Bl9 (fun c h=>(Q7 c h).1) (fun c h=>(Q7 c h).2)
end
end Go.Bas.BasZRank2
end
section
namespace Go.Bas.BasZR4
noncomputable section
open Go.RowKit Go.Proofs
open BasZBase BasZRef5 BasZR14 BasZRank BasZRank3 BasZLev BasZR3 BasZTreB BasZRank2
theorem H5 {n w:Int} {L:Nat} (hl:levIs n w L=true):(L=1->decide (Aa n w 0<=w)=true)/\(2<=L->decide (Aa n w 0<=w)=false)/\(L=2->decide (Aa n w 1<=w)=true)/\(3<=L->decide (Aa n w 1<=w)=false)/\(L=3->decide (Aa n w 2<=w)=true)/\(4<=L->decide (Aa n w 2<=w)=false)/\(L=4->decide (Aa n w 3<=w)=true)/\(5<=L->decide (Aa n w 3<=w)=false):=by
 unfold levIs at hl
 revert hl
 cases (!(Bf n 1 w))<;>cases Dq n w 0<;>cases decide (Aa n w 0<=w)<;>cases Dq n w 1<;>cases decide (Aa n w 1<=w)<;>cases Dq n w 2<;>cases decide (Aa n w 2<=w)<;>cases Dq n w 3<;>cases decide (Aa n w 3<=w)<;>cases Dq n w 4<;>cases decide (Aa n w 4<=w)<;>intro hl<;>first|(cases hl;done)|(have hl:=Nat.eq_of_beq_eq_true hl;subst hl;refine ⟨?_,?_,?_,?_,?_,?_,?_,?_⟩<;>intro h<;>first|rfl|omega)|skip
def Bkh:Sum:=(146,on1 Dp (fun c=>(decide (Az c=0)&&!(decide (c.ob=2)))) (fun c=>.int .i64 (f_size_0 c)))
section
variable (c:Conf)
abbrev yen0:Conf:=⟨1,c.ins,c.thr,c.kind,c.str,1,c.cap,c.node,c.batch,c.chunk,c.limit,c.most⟩
theorem Bgx:Ai (cfg []) 400 146 [(yen0 c).av] (fun w_=>Tr.ev (Ir (yen0 c)) (fun l_=>(seI .i64).eq ((fun l_=>lget l_ 0) l_) w_) false) false=true:=Eq.trans (b:=true) (by kernel_rfl) rfl
abbrev yen1:Conf:=⟨1,c.ins,c.thr,c.kind,c.str,2,c.cap,c.node,c.batch,c.chunk,c.limit,c.most⟩
theorem Bgy:Ai (cfg []) 400 146 [(yen1 c).av] (fun w_=>Tr.ev (Ir (yen1 c)) (fun l_=>(seI .i64).eq ((fun l_=>lget l_ 0) l_) w_) false) false=true:=Eq.trans (b:=true) (by kernel_rfl) rfl
abbrev yen2:Conf:=⟨1,c.ins,c.thr,c.kind,c.str,3,c.cap,c.node,c.batch,c.chunk,c.limit,c.most⟩
theorem Bgz:Ai (cfg []) 400 146 [(yen2 c).av] (fun w_=>Tr.ev (Ir (yen2 c)) (fun l_=>(seI .i64).eq ((fun l_=>lget l_ 0) l_) w_) false) false=true:=Eq.trans (b:=true) (by kernel_rfl) rfl
abbrev yen3:Conf:=⟨1,c.ins,c.thr,c.kind,c.str,4,c.cap,c.node,c.batch,c.chunk,c.limit,c.most⟩
theorem Bg0:Ai (cfg []) 400 146 [(yen3 c).av] (fun w_=>Tr.ev (Ir (yen3 c)) (fun l_=>(seI .i64).eq ((fun l_=>lget l_ 0) l_) w_) false) false=true:=Eq.trans (b:=true) (by kernel_rfl) rfl
abbrev yen4:Conf:=⟨1,c.ins,c.thr,c.kind,c.str,5,c.cap,c.node,c.batch,c.chunk,c.limit,c.most⟩
theorem Bg1:Ai (cfg []) 400 146 [(yen4 c).av] (fun w_=>Tr.ev (Ir (yen4 c)) (fun l_=>(seI .i64).eq ((fun l_=>lget l_ 0) l_) w_) false) false=true:=Eq.trans (b:=true) (by kernel_rfl) rfl
abbrev yen5:Conf:=⟨1,c.ins,c.thr,c.kind,c.str,6,c.cap,c.node,c.batch,c.chunk,c.limit,c.most⟩
theorem Bg2:Ai (cfg []) 400 146 [(yen5 c).av] (fun w_=>Tr.ev (Ir (yen5 c)) (fun l_=>(seI .i64).eq ((fun l_=>lget l_ 0) l_) w_) false) false=true:=Eq.trans (b:=true) (by kernel_rfl) rfl
abbrev yen6:Conf:=⟨3,c.ins,c.thr,c.kind,c.str,c.bits,c.cap,c.node,c.batch,c.chunk,c.limit,c.most⟩
end
abbrev Gm:=true
theorem t_gr3 (c:Conf):Ai (cfg []) 400 146 [(yen6 c).av] (fun w_=>Tr.ev (Ir (yen6 c)) (fun l_=>(seI .i64).eq ((fun l_=>lget l_ 0) l_) w_) false) false=true:=Eq.trans (b:=(ba (decide (c.7=c.7)) Gm)) (by kernel_rfl) (band (Ddt rfl) rfl)
abbrev yen7 (c:Conf):Conf:=⟨4,c.ins,c.thr,c.kind,c.str,c.bits,c.cap,c.node,c.batch,c.chunk,c.limit,c.most⟩
theorem t_gr4 (c:Conf):Ai (cfg []) 400 146 [(yen7 c).av] (fun w_=>Tr.ev (Ir (yen7 c)) (fun l_=>(seI .i64).eq ((fun l_=>lget l_ 0) l_) w_) false) false=true:=Eq.trans (b:=(ba (decide (c.7=c.7)) Gm)) (by kernel_rfl) (band (Ddt rfl) rfl)
abbrev Bkx (c:Conf):AV->Bool:=fun w_=>Tr.ev (Ir c) (fun l_=>(seI .i64).eq ((fun l_=>lget l_ 0) l_) w_) false
theorem Bg3 (c:Conf) (h:(decide (Az c=0)&&!(decide (c.ob=2)))=true):Ai (cfg []) 400 146 [c.av] (Bkx c) false=true:=by
 have he:=Aj h
 have h2:=Odf (Oc (Af h))
 have hO:=Hy.1 (okP he)
 simp only [Conf.OkP] at hO
 have h3:c.ob=1\/c.ob=3\/c.ob=4:=by omega
 have hb:c.ob=1->1<=c.bits/\c.bits<=6:=by omega
 clear h he hO h2
 obtain ⟨ob,ins,thr,kind,str,bits,cap,node,batch,chunk,limit,most⟩:=c
 have h3:ob=1\/ob=3\/ob=4:=h3
 have hb:ob=1->1<=bits/\bits<=6:=hb
 rcases h3 with rfl|rfl|rfl
 ·have hb:=hb rfl
  rcases (show bits=1\/bits=2\/bits=3\/bits=4\/bits=5\/bits=6 by omega) with rfl|rfl|rfl|rfl|rfl|rfl
  ·exact Bgx ⟨1,ins,thr,kind,str,1,cap,node,batch,chunk,limit,most⟩
  ·exact Bgy ⟨1,ins,thr,kind,str,2,cap,node,batch,chunk,limit,most⟩
  ·exact Bgz ⟨1,ins,thr,kind,str,3,cap,node,batch,chunk,limit,most⟩
  ·exact Bg0 ⟨1,ins,thr,kind,str,4,cap,node,batch,chunk,limit,most⟩
  ·exact Bg1 ⟨1,ins,thr,kind,str,5,cap,node,batch,chunk,limit,most⟩
  ·exact Bg2 ⟨1,ins,thr,kind,str,6,cap,node,batch,chunk,limit,most⟩
 ·exact t_gr3 ⟨3,ins,thr,kind,str,bits,cap,node,batch,chunk,limit,most⟩
 ·exact t_gr4 ⟨4,ins,thr,kind,str,bits,cap,node,batch,chunk,limit,most⟩
theorem s_grA:Bc Tryz.prog (Cb gs) Bkh:=Fg fun c h=>Aq base Ap (n:=400) fun k hk=>(Dh (Bg3 c h) (fun w_ hw=>((seI .i64).ok _ _ ((Tr.merge (O6 c) ((Q7 c (okP (Aj h))).1)).symm.trans hw))) k).trans hk
def A8w:Sum:=(146,on1 Dp (fun c=>(decide (Az c=0)&&(decide (c.ob=2)&&levIs c.cap c.node 1))) (fun c=>.int .i64 (f_size_0 c)))
abbrev Bky (c:Conf):Conf:=⟨2,c.ins,c.thr,c.kind,c.str,c.bits,c.cap,c.node,c.batch,c.chunk,c.limit,c.most⟩
abbrev Bmz (c:Conf):Prop:=∀ k:Int,(decide (0<=k)&&decide (k<=4))=true->itR c.cap c.node k=true
abbrev Bm0 (c:Conf):Prop:=∀ k:Int,(decide (0<=k)&&decide (k<=4))=true->Dq c.cap c.node k=true
abbrev Bm1 (c:Conf):AV->Bool:=fun w_=>Tr.ev (Ir (Bky c)) (fun l_=>(seI .i64).eq ((fun l_=>lget l_ 0) l_) w_) false
abbrev Bm2 (c:Conf):=BasZR3.itR c.7 c.8 0
abbrev Bm3 (c:Conf):=!(Bf c.7 1 c.8)
abbrev Bm4 (c:Conf):=decide ((Aa c.7 c.8 0)<=c.8)
abbrev Bm9 (c:Conf):=decide ((Aa c.7 c.8 1)<=c.8)
abbrev Bna (c:Conf):=decide ((Aa c.7 c.8 2)<=c.8)
abbrev Bnb (c:Conf):=decide ((Aa c.7 c.8 3)<=c.8)
abbrev Bnc (c:Conf):=decide ((Aa c.7 c.8 4)<=c.8)
abbrev Bov (c:Conf):Bool:=ba (decide ((IntKind.wrap .i64 ((IntKind.wrap .i64 ((IntKind.wrap .i64 ((IntKind.wrap .i64 ((IntKind.wrap .i64 (1+(Aa c.7 c.8 0)))+(Aa c.7 c.8 1)))+(Aa c.7 c.8 2)))+(Aa c.7 c.8 3)))+(Aa c.7 c.8 4)))=(IntKind.wrap .i64 (1+(Aa c.7 c.8 0))))) Gm
theorem Bpa (c:Conf) (hl:levIs c.cap c.node 1=true) (hI:Bmz c) (hU:Bm0 c):Ai (cfg [Gh,Aia]) 400 146 [(Bky c).av] (Bm1 c) false=true:=Eq.trans (b:=(ba (BasZLev.levIs c.7 c.8 1) (ba (Bm2 c) (ba (BasZLev.levIs c.7 c.8 1) (br (Bm3 c) (ba (decide (1=(IntKind.wrap .i64 (1+(Aa c.7 c.8 0))))) Gm) (ba (Dq c.7 c.8 0) (br (Bm4 c) (ba (decide ((IntKind.wrap .i64 (1+(Aa c.7 c.8 0)))=(IntKind.wrap .i64 (1+(Aa c.7 c.8 0))))) Gm) (ba (Dq c.7 c.8 1) (br (Bm9 c) (ba (decide ((IntKind.wrap .i64 ((IntKind.wrap .i64 (1+(Aa c.7 c.8 0)))+(Aa c.7 c.8 1)))=(IntKind.wrap .i64 (1+(Aa c.7 c.8 0))))) Gm) (ba (Dq c.7 c.8 2) (br (Bna c) (ba (decide ((IntKind.wrap .i64 ((IntKind.wrap .i64 ((IntKind.wrap .i64 (1+(Aa c.7 c.8 0)))+(Aa c.7 c.8 1)))+(Aa c.7 c.8 2)))=(IntKind.wrap .i64 (1+(Aa c.7 c.8 0))))) Gm) (ba (Dq c.7 c.8 3) (br (Bnb c) (ba (decide ((IntKind.wrap .i64 ((IntKind.wrap .i64 ((IntKind.wrap .i64 ((IntKind.wrap .i64 (1+(Aa c.7 c.8 0)))+(Aa c.7 c.8 1)))+(Aa c.7 c.8 2)))+(Aa c.7 c.8 3)))=(IntKind.wrap .i64 (1+(Aa c.7 c.8 0))))) Gm) (ba (Dq c.7 c.8 4) (br (Bnc c) (Bov c) (Bov c)))))))))))))))) (by kernel_rfl) (band hl (band (hI 0 rfl) (band hl (btf (Ad (Bi hl)) (band (hU 0 rfl) (btb ((H5 hl).1 rfl) (band (Ddt rfl) rfl)))))))
theorem A85 (c:Conf) (h:(decide (Az c=0)&&(decide (c.ob=2)&&levIs c.cap c.node 1))=true):Ai (cfg [Gh,Aia]) 400 146 [c.av] (Bkx c) false=true:=by
 have ho:=Odt (Aj (Af h))
 have hl:=Af (Af h)
 obtain ⟨a0,a1,b0,b1⟩:=Gg (Bi hl)
 have hI:∀ k:Int,(decide (0<=k)&&decide (k<=4))=true->itR c.cap c.node k=true:=fun k hk=>by
  simp only [Bae,Dte] at hk;exact Hr.2 ⟨⟨by omega,a1⟩,⟨b0,b1⟩,hk⟩
 have hU:∀ k:Int,(decide (0<=k)&&decide (k<=4))=true->Dq c.cap c.node k=true:=fun k hk=>by
  simp only [Bae,Dte] at hk;exact E8 ⟨b0,b1⟩ hk
 rw [D8 ho]
 exact Bpa c hl hI hU
theorem Bpb:Bc Tryz.prog (Cb gs) A8w:=Fg fun c h=>Aq base (Ah S9 (Ah A7g Ap)) (n:=400) fun k hk=>(Dh (A85 c h) (fun w_ hw=>((seI .i64).ok _ _ ((Tr.merge (O6 c) ((Q7 c (okP (Aj h))).1)).symm.trans hw))) k).trans hk
def A86:Sum:=(146,on1 Dp (fun c=>(decide (Az c=0)&&(decide (c.ob=2)&&levIs c.cap c.node 2))) (fun c=>.int .i64 (f_size_0 c)))
abbrev Bo1 (c:Conf):Bool:=ba (decide ((IntKind.wrap .i64 ((IntKind.wrap .i64 ((IntKind.wrap .i64 ((IntKind.wrap .i64 ((IntKind.wrap .i64 (1+(Aa c.7 c.8 0)))+(Aa c.7 c.8 1)))+(Aa c.7 c.8 2)))+(Aa c.7 c.8 3)))+(Aa c.7 c.8 4)))=(IntKind.wrap .i64 ((IntKind.wrap .i64 (1+(Aa c.7 c.8 0)))+(Aa c.7 c.8 1))))) Gm
theorem Bpc (c:Conf) (hl:levIs c.cap c.node 2=true) (hI:Bmz c) (hU:Bm0 c):Ai (cfg [Gh,Ady]) 400 146 [(Bky c).av] (Bm1 c) false=true:=Eq.trans (b:=(ba (BasZLev.levIs c.7 c.8 2) (ba (Bm2 c) (ba (BasZLev.levIs c.7 c.8 2) (ba (BasZR3.itR c.7 c.8 1) (ba (BasZLev.levIs c.7 c.8 2) (br (Bm3 c) (ba (decide (1=(IntKind.wrap .i64 ((IntKind.wrap .i64 (1+(Aa c.7 c.8 0)))+(Aa c.7 c.8 1))))) Gm) (ba (Dq c.7 c.8 0) (br (Bm4 c) (ba (decide ((IntKind.wrap .i64 (1+(Aa c.7 c.8 0)))=(IntKind.wrap .i64 ((IntKind.wrap .i64 (1+(Aa c.7 c.8 0)))+(Aa c.7 c.8 1))))) Gm) (ba (Dq c.7 c.8 1) (br (Bm9 c) (ba (decide ((IntKind.wrap .i64 ((IntKind.wrap .i64 (1+(Aa c.7 c.8 0)))+(Aa c.7 c.8 1)))=(IntKind.wrap .i64 ((IntKind.wrap .i64 (1+(Aa c.7 c.8 0)))+(Aa c.7 c.8 1))))) Gm) (ba (Dq c.7 c.8 2) (br (Bna c) (ba (decide ((IntKind.wrap .i64 ((IntKind.wrap .i64 ((IntKind.wrap .i64 (1+(Aa c.7 c.8 0)))+(Aa c.7 c.8 1)))+(Aa c.7 c.8 2)))=(IntKind.wrap .i64 ((IntKind.wrap .i64 (1+(Aa c.7 c.8 0)))+(Aa c.7 c.8 1))))) Gm) (ba (Dq c.7 c.8 3) (br (Bnb c) (ba (decide ((IntKind.wrap .i64 ((IntKind.wrap .i64 ((IntKind.wrap .i64 ((IntKind.wrap .i64 (1+(Aa c.7 c.8 0)))+(Aa c.7 c.8 1)))+(Aa c.7 c.8 2)))+(Aa c.7 c.8 3)))=(IntKind.wrap .i64 ((IntKind.wrap .i64 (1+(Aa c.7 c.8 0)))+(Aa c.7 c.8 1))))) Gm) (ba (Dq c.7 c.8 4) (br (Bnc c) (Bo1 c) (Bo1 c)))))))))))))))))) (by kernel_rfl) (band hl (band (hI 0 rfl) (band hl (band (hI 1 rfl) (band hl (btf (Ad (Bi hl)) (band (hU 0 rfl) (btf ((H5 hl).2.1 (by decide)) (band (hU 1 rfl) (btb ((H5 hl).2.2.1 rfl) (band (Ddt rfl) rfl)))))))))))
theorem A87 (c:Conf) (h:(decide (Az c=0)&&(decide (c.ob=2)&&levIs c.cap c.node 2))=true):Ai (cfg [Gh,Ady]) 400 146 [c.av] (Bkx c) false=true:=by
 have ho:=Odt (Aj (Af h))
 have hl:=Af (Af h)
 obtain ⟨a0,a1,b0,b1⟩:=Gg (Bi hl)
 have hI:∀ k:Int,(decide (0<=k)&&decide (k<=4))=true->itR c.cap c.node k=true:=fun k hk=>by
  simp only [Bae,Dte] at hk;exact Hr.2 ⟨⟨by omega,a1⟩,⟨b0,b1⟩,hk⟩
 have hU:∀ k:Int,(decide (0<=k)&&decide (k<=4))=true->Dq c.cap c.node k=true:=fun k hk=>by
  simp only [Bae,Dte] at hk;exact E8 ⟨b0,b1⟩ hk
 rw [D8 ho]
 exact Bpc c hl hI hU
theorem Bpd:Bc Tryz.prog (Cb gs) A86:=Fg fun c h=>Aq base (Ah S9 (Ah A7h Ap)) (n:=400) fun k hk=>(Dh (A87 c h) (fun w_ hw=>((seI .i64).ok _ _ ((Tr.merge (O6 c) ((Q7 c (okP (Aj h))).1)).symm.trans hw))) k).trans hk
def A88:Sum:=(146,on1 Dp (fun c=>(decide (Az c=0)&&(decide (c.ob=2)&&levIs c.cap c.node 3))) (fun c=>.int .i64 (f_size_0 c)))
abbrev Bo2 (c:Conf):Bool:=ba (decide ((IntKind.wrap .i64 ((IntKind.wrap .i64 ((IntKind.wrap .i64 ((IntKind.wrap .i64 ((IntKind.wrap .i64 (1+(Aa c.7 c.8 0)))+(Aa c.7 c.8 1)))+(Aa c.7 c.8 2)))+(Aa c.7 c.8 3)))+(Aa c.7 c.8 4)))=(IntKind.wrap .i64 ((IntKind.wrap .i64 ((IntKind.wrap .i64 (1+(Aa c.7 c.8 0)))+(Aa c.7 c.8 1)))+(Aa c.7 c.8 2))))) Gm
theorem Bpe (c:Conf) (hl:levIs c.cap c.node 3=true) (hI:Bmz c) (hU:Bm0 c):Ai (cfg [Gh,Aa7]) 400 146 [(Bky c).av] (Bm1 c) false=true:=Eq.trans (b:=(ba (BasZLev.levIs c.7 c.8 3) (ba (Bm2 c) (ba (BasZLev.levIs c.7 c.8 3) (ba (BasZR3.itR c.7 c.8 1) (ba (BasZLev.levIs c.7 c.8 3) (ba (BasZR3.itR c.7 c.8 2) (ba (BasZLev.levIs c.7 c.8 3) (br (Bm3 c) (ba (decide (1=(IntKind.wrap .i64 ((IntKind.wrap .i64 ((IntKind.wrap .i64 (1+(Aa c.7 c.8 0)))+(Aa c.7 c.8 1)))+(Aa c.7 c.8 2))))) Gm) (ba (Dq c.7 c.8 0) (br (Bm4 c) (ba (decide ((IntKind.wrap .i64 (1+(Aa c.7 c.8 0)))=(IntKind.wrap .i64 ((IntKind.wrap .i64 ((IntKind.wrap .i64 (1+(Aa c.7 c.8 0)))+(Aa c.7 c.8 1)))+(Aa c.7 c.8 2))))) Gm) (ba (Dq c.7 c.8 1) (br (Bm9 c) (ba (decide ((IntKind.wrap .i64 ((IntKind.wrap .i64 (1+(Aa c.7 c.8 0)))+(Aa c.7 c.8 1)))=(IntKind.wrap .i64 ((IntKind.wrap .i64 ((IntKind.wrap .i64 (1+(Aa c.7 c.8 0)))+(Aa c.7 c.8 1)))+(Aa c.7 c.8 2))))) Gm) (ba (Dq c.7 c.8 2) (br (Bna c) (ba (decide ((IntKind.wrap .i64 ((IntKind.wrap .i64 ((IntKind.wrap .i64 (1+(Aa c.7 c.8 0)))+(Aa c.7 c.8 1)))+(Aa c.7 c.8 2)))=(IntKind.wrap .i64 ((IntKind.wrap .i64 ((IntKind.wrap .i64 (1+(Aa c.7 c.8 0)))+(Aa c.7 c.8 1)))+(Aa c.7 c.8 2))))) Gm) (ba (Dq c.7 c.8 3) (br (Bnb c) (ba (decide ((IntKind.wrap .i64 ((IntKind.wrap .i64 ((IntKind.wrap .i64 ((IntKind.wrap .i64 (1+(Aa c.7 c.8 0)))+(Aa c.7 c.8 1)))+(Aa c.7 c.8 2)))+(Aa c.7 c.8 3)))=(IntKind.wrap .i64 ((IntKind.wrap .i64 ((IntKind.wrap .i64 (1+(Aa c.7 c.8 0)))+(Aa c.7 c.8 1)))+(Aa c.7 c.8 2))))) Gm) (ba (Dq c.7 c.8 4) (br (Bnc c) (Bo2 c) (Bo2 c)))))))))))))))))))) (by kernel_rfl) (band hl (band (hI 0 rfl) (band hl (band (hI 1 rfl) (band hl (band (hI 2 rfl) (band hl (btf (Ad (Bi hl)) (band (hU 0 rfl) (btf ((H5 hl).2.1 (by decide)) (band (hU 1 rfl) (btf ((H5 hl).2.2.2.1 (by decide)) (band (hU 2 rfl) (btb ((H5 hl).2.2.2.2.1 rfl) (band (Ddt rfl) rfl)))))))))))))))
theorem A89 (c:Conf) (h:(decide (Az c=0)&&(decide (c.ob=2)&&levIs c.cap c.node 3))=true):Ai (cfg [Gh,Aa7]) 400 146 [c.av] (Bkx c) false=true:=by
 have ho:=Odt (Aj (Af h))
 have hl:=Af (Af h)
 obtain ⟨a0,a1,b0,b1⟩:=Gg (Bi hl)
 have hI:∀ k:Int,(decide (0<=k)&&decide (k<=4))=true->itR c.cap c.node k=true:=fun k hk=>by
  simp only [Bae,Dte] at hk;exact Hr.2 ⟨⟨by omega,a1⟩,⟨b0,b1⟩,hk⟩
 have hU:∀ k:Int,(decide (0<=k)&&decide (k<=4))=true->Dq c.cap c.node k=true:=fun k hk=>by
  simp only [Bae,Dte] at hk;exact E8 ⟨b0,b1⟩ hk
 rw [D8 ho]
 exact Bpe c hl hI hU
theorem Bpf:Bc Tryz.prog (Cb gs) A88:=Fg fun c h=>Aq base (Ah S9 (Ah A7i Ap)) (n:=400) fun k hk=>(Dh (A89 c h) (fun w_ hw=>((seI .i64).ok _ _ ((Tr.merge (O6 c) ((Q7 c (okP (Aj h))).1)).symm.trans hw))) k).trans hk
def A9a:Sum:=(146,on1 Dp (fun c=>(decide (Az c=0)&&(decide (c.ob=2)&&levIs c.cap c.node 4))) (fun c=>.int .i64 (f_size_0 c)))
abbrev A8x (c:Conf):=BasZLev.levIs c.7 c.8 4
abbrev Bo3 (c:Conf):Bool:=ba (decide ((IntKind.wrap .i64 ((IntKind.wrap .i64 ((IntKind.wrap .i64 ((IntKind.wrap .i64 ((IntKind.wrap .i64 (1+(Aa c.7 c.8 0)))+(Aa c.7 c.8 1)))+(Aa c.7 c.8 2)))+(Aa c.7 c.8 3)))+(Aa c.7 c.8 4)))=(IntKind.wrap .i64 ((IntKind.wrap .i64 ((IntKind.wrap .i64 ((IntKind.wrap .i64 (1+(Aa c.7 c.8 0)))+(Aa c.7 c.8 1)))+(Aa c.7 c.8 2)))+(Aa c.7 c.8 3))))) Gm
theorem Bpg (c:Conf) (hl:levIs c.cap c.node 4=true) (hI:Bmz c) (hU:Bm0 c):Ai (cfg [Gh,Aod]) 400 146 [(Bky c).av] (Bm1 c) false=true:=Eq.trans (b:=(ba (A8x c) (ba (Bm2 c) (ba (A8x c) (ba (BasZR3.itR c.7 c.8 1) (ba (A8x c) (ba (BasZR3.itR c.7 c.8 2) (ba (A8x c) (ba (BasZR3.itR c.7 c.8 3) (ba (A8x c) (br (Bm3 c) (ba (decide (1=(IntKind.wrap .i64 ((IntKind.wrap .i64 ((IntKind.wrap .i64 ((IntKind.wrap .i64 (1+(Aa c.7 c.8 0)))+(Aa c.7 c.8 1)))+(Aa c.7 c.8 2)))+(Aa c.7 c.8 3))))) Gm) (ba (Dq c.7 c.8 0) (br (Bm4 c) (ba (decide ((IntKind.wrap .i64 (1+(Aa c.7 c.8 0)))=(IntKind.wrap .i64 ((IntKind.wrap .i64 ((IntKind.wrap .i64 ((IntKind.wrap .i64 (1+(Aa c.7 c.8 0)))+(Aa c.7 c.8 1)))+(Aa c.7 c.8 2)))+(Aa c.7 c.8 3))))) Gm) (ba (Dq c.7 c.8 1) (br (Bm9 c) (ba (decide ((IntKind.wrap .i64 ((IntKind.wrap .i64 (1+(Aa c.7 c.8 0)))+(Aa c.7 c.8 1)))=(IntKind.wrap .i64 ((IntKind.wrap .i64 ((IntKind.wrap .i64 ((IntKind.wrap .i64 (1+(Aa c.7 c.8 0)))+(Aa c.7 c.8 1)))+(Aa c.7 c.8 2)))+(Aa c.7 c.8 3))))) Gm) (ba (Dq c.7 c.8 2) (br (Bna c) (ba (decide ((IntKind.wrap .i64 ((IntKind.wrap .i64 ((IntKind.wrap .i64 (1+(Aa c.7 c.8 0)))+(Aa c.7 c.8 1)))+(Aa c.7 c.8 2)))=(IntKind.wrap .i64 ((IntKind.wrap .i64 ((IntKind.wrap .i64 ((IntKind.wrap .i64 (1+(Aa c.7 c.8 0)))+(Aa c.7 c.8 1)))+(Aa c.7 c.8 2)))+(Aa c.7 c.8 3))))) Gm) (ba (Dq c.7 c.8 3) (br (Bnb c) (ba (decide ((IntKind.wrap .i64 ((IntKind.wrap .i64 ((IntKind.wrap .i64 ((IntKind.wrap .i64 (1+(Aa c.7 c.8 0)))+(Aa c.7 c.8 1)))+(Aa c.7 c.8 2)))+(Aa c.7 c.8 3)))=(IntKind.wrap .i64 ((IntKind.wrap .i64 ((IntKind.wrap .i64 ((IntKind.wrap .i64 (1+(Aa c.7 c.8 0)))+(Aa c.7 c.8 1)))+(Aa c.7 c.8 2)))+(Aa c.7 c.8 3))))) Gm) (ba (Dq c.7 c.8 4) (br (Bnc c) (Bo3 c) (Bo3 c)))))))))))))))))))))) (by kernel_rfl) (band hl (band (hI 0 rfl) (band hl (band (hI 1 rfl) (band hl (band (hI 2 rfl) (band hl (band (hI 3 rfl) (band hl (btf (Ad (Bi hl)) (band (hU 0 rfl) (btf ((H5 hl).2.1 (by decide)) (band (hU 1 rfl) (btf ((H5 hl).2.2.2.1 (by decide)) (band (hU 2 rfl) (btf ((H5 hl).2.2.2.2.2.1 (by decide)) (band (hU 3 rfl) (btb ((H5 hl).2.2.2.2.2.2.1 rfl) (band (Ddt rfl) rfl)))))))))))))))))))
theorem A9b (c:Conf) (h:(decide (Az c=0)&&(decide (c.ob=2)&&levIs c.cap c.node 4))=true):Ai (cfg [Gh,Aod]) 400 146 [c.av] (Bkx c) false=true:=by
 have ho:=Odt (Aj (Af h))
 have hl:=Af (Af h)
 obtain ⟨a0,a1,b0,b1⟩:=Gg (Bi hl)
 have hI:∀ k:Int,(decide (0<=k)&&decide (k<=4))=true->itR c.cap c.node k=true:=fun k hk=>by
  simp only [Bae,Dte] at hk;exact Hr.2 ⟨⟨by omega,a1⟩,⟨b0,b1⟩,hk⟩
 have hU:∀ k:Int,(decide (0<=k)&&decide (k<=4))=true->Dq c.cap c.node k=true:=fun k hk=>by
  simp only [Bae,Dte] at hk;exact E8 ⟨b0,b1⟩ hk
 rw [D8 ho]
 exact Bpg c hl hI hU
theorem Bph:Bc Tryz.prog (Cb gs) A9a:=Fg fun c h=>Aq base (Ah S9 (Ah A7j Ap)) (n:=400) fun k hk=>(Dh (A9b c h) (fun w_ hw=>((seI .i64).ok _ _ ((Tr.merge (O6 c) ((Q7 c (okP (Aj h))).1)).symm.trans hw))) k).trans hk
def A9c:Sum:=(146,on1 Dp (fun c=>(decide (Az c=0)&&(decide (c.ob=2)&&levIs c.cap c.node 5))) (fun c=>.int .i64 (f_size_0 c)))
abbrev Ayk (c:Conf):=BasZLev.levIs c.7 c.8 5
abbrev Bo6 (c:Conf):Bool:=ba (decide ((IntKind.wrap .i64 ((IntKind.wrap .i64 ((IntKind.wrap .i64 ((IntKind.wrap .i64 ((IntKind.wrap .i64 (1+(Aa c.7 c.8 0)))+(Aa c.7 c.8 1)))+(Aa c.7 c.8 2)))+(Aa c.7 c.8 3)))+(Aa c.7 c.8 4)))=(IntKind.wrap .i64 ((IntKind.wrap .i64 ((IntKind.wrap .i64 ((IntKind.wrap .i64 ((IntKind.wrap .i64 (1+(Aa c.7 c.8 0)))+(Aa c.7 c.8 1)))+(Aa c.7 c.8 2)))+(Aa c.7 c.8 3)))+(Aa c.7 c.8 4))))) Gm
theorem Bpi (c:Conf) (hl:levIs c.cap c.node 5=true) (hI:Bmz c) (hU:Bm0 c):Ai (cfg [Gh,Aoe]) 400 146 [(Bky c).av] (Bm1 c) false=true:=Eq.trans (b:=(ba (Ayk c) (ba (Bm2 c) (ba (Ayk c) (ba (BasZR3.itR c.7 c.8 1) (ba (Ayk c) (ba (BasZR3.itR c.7 c.8 2) (ba (Ayk c) (ba (BasZR3.itR c.7 c.8 3) (ba (Ayk c) (ba (BasZR3.itR c.7 c.8 4) (ba (Ayk c) (br (Bm3 c) (ba (decide (1=(IntKind.wrap .i64 ((IntKind.wrap .i64 ((IntKind.wrap .i64 ((IntKind.wrap .i64 ((IntKind.wrap .i64 (1+(Aa c.7 c.8 0)))+(Aa c.7 c.8 1)))+(Aa c.7 c.8 2)))+(Aa c.7 c.8 3)))+(Aa c.7 c.8 4))))) Gm) (ba (Dq c.7 c.8 0) (br (Bm4 c) (ba (decide ((IntKind.wrap .i64 (1+(Aa c.7 c.8 0)))=(IntKind.wrap .i64 ((IntKind.wrap .i64 ((IntKind.wrap .i64 ((IntKind.wrap .i64 ((IntKind.wrap .i64 (1+(Aa c.7 c.8 0)))+(Aa c.7 c.8 1)))+(Aa c.7 c.8 2)))+(Aa c.7 c.8 3)))+(Aa c.7 c.8 4))))) Gm) (ba (Dq c.7 c.8 1) (br (Bm9 c) (ba (decide ((IntKind.wrap .i64 ((IntKind.wrap .i64 (1+(Aa c.7 c.8 0)))+(Aa c.7 c.8 1)))=(IntKind.wrap .i64 ((IntKind.wrap .i64 ((IntKind.wrap .i64 ((IntKind.wrap .i64 ((IntKind.wrap .i64 (1+(Aa c.7 c.8 0)))+(Aa c.7 c.8 1)))+(Aa c.7 c.8 2)))+(Aa c.7 c.8 3)))+(Aa c.7 c.8 4))))) Gm) (ba (Dq c.7 c.8 2) (br (Bna c) (ba (decide ((IntKind.wrap .i64 ((IntKind.wrap .i64 ((IntKind.wrap .i64 (1+(Aa c.7 c.8 0)))+(Aa c.7 c.8 1)))+(Aa c.7 c.8 2)))=(IntKind.wrap .i64 ((IntKind.wrap .i64 ((IntKind.wrap .i64 ((IntKind.wrap .i64 ((IntKind.wrap .i64 (1+(Aa c.7 c.8 0)))+(Aa c.7 c.8 1)))+(Aa c.7 c.8 2)))+(Aa c.7 c.8 3)))+(Aa c.7 c.8 4))))) Gm) (ba (Dq c.7 c.8 3) (br (Bnb c) (ba (decide ((IntKind.wrap .i64 ((IntKind.wrap .i64 ((IntKind.wrap .i64 ((IntKind.wrap .i64 (1+(Aa c.7 c.8 0)))+(Aa c.7 c.8 1)))+(Aa c.7 c.8 2)))+(Aa c.7 c.8 3)))=(IntKind.wrap .i64 ((IntKind.wrap .i64 ((IntKind.wrap .i64 ((IntKind.wrap .i64 ((IntKind.wrap .i64 (1+(Aa c.7 c.8 0)))+(Aa c.7 c.8 1)))+(Aa c.7 c.8 2)))+(Aa c.7 c.8 3)))+(Aa c.7 c.8 4))))) Gm) (ba (Dq c.7 c.8 4) (br (Bnc c) (Bo6 c) (Bo6 c)))))))))))))))))))))))) (by kernel_rfl) (band hl (band (hI 0 rfl) (band hl (band (hI 1 rfl) (band hl (band (hI 2 rfl) (band hl (band (hI 3 rfl) (band hl (band (hI 4 rfl) (band hl (btf (Ad (Bi hl)) (band (hU 0 rfl) (btf ((H5 hl).2.1 (by decide)) (band (hU 1 rfl) (btf ((H5 hl).2.2.2.1 (by decide)) (band (hU 2 rfl) (btf ((H5 hl).2.2.2.2.2.1 (by decide)) (band (hU 3 rfl) (btf ((H5 hl).2.2.2.2.2.2.2 (by decide)) (band (hU 4 rfl) (bdt (fun h_1=>(band (Ddt rfl) rfl)) (fun h_1=>(band (Ddt rfl) rfl))))))))))))))))))))))))
theorem A9d (c:Conf) (h:(decide (Az c=0)&&(decide (c.ob=2)&&levIs c.cap c.node 5))=true):Ai (cfg [Gh,Aoe]) 400 146 [c.av] (Bkx c) false=true:=by
 have ho:=Odt (Aj (Af h))
 have hl:=Af (Af h)
 obtain ⟨a0,a1,b0,b1⟩:=Gg (Bi hl)
 have hI:∀ k:Int,(decide (0<=k)&&decide (k<=4))=true->itR c.cap c.node k=true:=fun k hk=>by
  simp only [Bae,Dte] at hk;exact Hr.2 ⟨⟨by omega,a1⟩,⟨b0,b1⟩,hk⟩
 have hU:∀ k:Int,(decide (0<=k)&&decide (k<=4))=true->Dq c.cap c.node k=true:=fun k hk=>by
  simp only [Bae,Dte] at hk;exact E8 ⟨b0,b1⟩ hk
 rw [D8 ho]
 exact Bpi c hl hI hU
theorem Bpj:Bc Tryz.prog (Cb gs) A9c:=Fg fun c h=>Aq base (Ah S9 (Ah A7k Ap)) (n:=400) fun k hk=>(Dh (A9d c h) (fun w_ hw=>((seI .i64).ok _ _ ((Tr.merge (O6 c) ((Q7 c (okP (Aj h))).1)).symm.trans hw))) k).trans hk
def Aye:Sum:=(146,on1 Dp (fun c=>decide (Az c=0)) (fun c=>.int .i64 (f_size_0 c)))
theorem Bg4:Bc Tryz.prog (Cb gs) Aye:=Fg fun c he=>by
 cases ho:decide (c.ob=2) with
 | false=>exact s_grA [c.av] (.int .i64 (f_size_0 c)) ((show Bkh.2 [c.av]=some ((decide (Az c=0)&&!(decide (c.ob=2))),.int .i64 (f_size_0 c)) from by kernel_rfl).trans (by rw [he,ho];rfl))
 | true =>
  rcases Ab8 (Ky he ho) with hl|hl|hl|hl|hl
  ·exact Bpb [c.av] (.int .i64 (f_size_0 c)) ((show A8w.2 [c.av]=some ((decide (Az c=0)&&(decide (c.ob=2)&&levIs c.cap c.node 1)),.int .i64 (f_size_0 c)) from by kernel_rfl).trans (by rw [he,ho,hl];rfl))
  ·exact Bpd [c.av] (.int .i64 (f_size_0 c)) ((show A86.2 [c.av]=some ((decide (Az c=0)&&(decide (c.ob=2)&&levIs c.cap c.node 2)),.int .i64 (f_size_0 c)) from by kernel_rfl).trans (by rw [he,ho,hl];rfl))
  ·exact Bpf [c.av] (.int .i64 (f_size_0 c)) ((show A88.2 [c.av]=some ((decide (Az c=0)&&(decide (c.ob=2)&&levIs c.cap c.node 3)),.int .i64 (f_size_0 c)) from by kernel_rfl).trans (by rw [he,ho,hl];rfl))
  ·exact Bph [c.av] (.int .i64 (f_size_0 c)) ((show A9a.2 [c.av]=some ((decide (Az c=0)&&(decide (c.ob=2)&&levIs c.cap c.node 4)),.int .i64 (f_size_0 c)) from by kernel_rfl).trans (by rw [he,ho,hl];rfl))
  ·exact Bpj [c.av] (.int .i64 (f_size_0 c)) ((show A9c.2 [c.av]=some ((decide (Az c=0)&&(decide (c.ob=2)&&levIs c.cap c.node 5)),.int .i64 (f_size_0 c)) from by kernel_rfl).trans (by rw [he,ho,hl];rfl))
end
end Go.Bas.BasZR4
end
section
namespace Go.Bas.BasZR4w
noncomputable section
open Go.RowKit Go.Proofs
open BasZBase BasZRef5 BasZRank BasZRank2 BasZR4 BasZAt4 BasZOk3
section
variable (z:Int) (c:Conf) (a b:Int)
theorem wh_4:whereS z c ⟨4,a,b⟩=3+a:=rfl
theorem wh_5:whereS z c ⟨5,a,b⟩=3+c.thr+a:=rfl
theorem wh_6:whereS z c ⟨6,a,b⟩=3+2*c.thr+a*c.thr+b:=rfl
theorem wh_7:whereS z c ⟨7,a,b⟩=3+2*c.thr+a*c.str+b:=rfl
theorem wh_8:whereS z c ⟨8,a,b⟩=3+2*c.thr+2*c.str+a*c.str+b:=rfl
theorem Asv:whereS z c ⟨9,a,b⟩=C9 c+a*(1+z):=rfl
theorem Ae0:whereS z c ⟨10,a,b⟩=C9 c+a*(1+z)+1+b:=rfl
end
theorem okC {c:Conf} (h:c.ok=true):(1<=c.thr/\c.thr<=16)/\(c.kind=1\/c.kind=2)/\(0<=c.str/\c.str<=4)/\(2<=c.ins/\c.ins<=4):=by
 have h:=Hy.1 h
 simp only [Conf.OkP] at h
 omega
def Bg5:Sum:=(85,on2 Dp Bab (fun c p=>(decide (Az c=0)&&decide (Ol (f_size_0 c) c p))) (fun c p=>.int .i64 (whereS (f_size_0 c) c p)))
abbrev HE0 (c:Conf):Prop:=decide (Az c=0)=true
abbrev Uf:=cfg [Aye]
abbrev zep1:=seI .i64
theorem t_wr1 (c:Conf) (a b:Int) (he:HE0 c) (ht:1<=c.thr/\c.thr<=16) (hK:c.kind=1\/c.kind=2) (hs:0<=c.str/\c.str<=4) (hz:0<=f_size_0 c/\f_size_0 c<=200) (ha:0<=a/\a<=16) (hb:0<=b/\b<=200):Ai Uf 500 85 [c.av,(⟨1,0,0⟩:Plc).av] (fun w_=>zep1.eq (.int .i64 (whereS (f_size_0 (c)) (c) (⟨1,0,0⟩:Plc))) w_) false=true:=Eq.trans (b:=true) (by kernel_rfl) rfl
theorem t_wr2 (c:Conf) (a b:Int) (he:HE0 c) (ht:1<=c.thr/\c.thr<=16) (hK:c.kind=1\/c.kind=2) (hs:0<=c.str/\c.str<=4) (hz:0<=f_size_0 c/\f_size_0 c<=200) (ha:0<=a/\a<=16) (hb:0<=b/\b<=200):Ai Uf 500 85 [c.av,(⟨2,0,0⟩:Plc).av] (fun w_=>zep1.eq (.int .i64 (whereS (f_size_0 (c)) (c) (⟨2,0,0⟩:Plc))) w_) false=true:=Eq.trans (b:=true) (by kernel_rfl) rfl
theorem t_wr3 (c:Conf) (a b:Int) (he:HE0 c) (ht:1<=c.thr/\c.thr<=16) (hK:c.kind=1\/c.kind=2) (hs:0<=c.str/\c.str<=4) (hz:0<=f_size_0 c/\f_size_0 c<=200) (ha:0<=a/\a<=16) (hb:0<=b/\b<=200):Ai Uf 500 85 [c.av,(⟨3,0,0⟩:Plc).av] (fun w_=>zep1.eq (.int .i64 (whereS (f_size_0 (c)) (c) (⟨3,0,0⟩:Plc))) w_) false=true:=Eq.trans (b:=true) (by kernel_rfl) rfl
abbrev U8:=true
theorem t_wr4 (c:Conf) (a b:Int) (he:HE0 c) (ht:1<=c.thr/\c.thr<=16) (hK:c.kind=1\/c.kind=2) (hs:0<=c.str/\c.str<=4) (hz:0<=f_size_0 c/\f_size_0 c<=200) (ha:0<=a/\a<=16) (hb:0<=b/\b<=200):Ai Uf 500 85 [c.av,(⟨4,a,0⟩:Plc).av] (fun w_=>zep1.eq (.int .i64 (whereS (f_size_0 (c)) (c) (⟨4,a,0⟩:Plc))) w_) false=true:=Eq.trans (b:=(ba (decide ((BasZAt4.whereS (f_size_0 c) c (Plc.mk 4 a 0))=(IntKind.wrap .i64 ((IntKind.wrap .i64 (3+(IntKind.wrap .i64 (a*1))))+0)))) U8)) (by kernel_rfl) (band (Ddt (by rw [wh_4];simp (disch:=omega) only [Bv];omega)) rfl)
theorem t_wr5 (c:Conf) (a b:Int) (he:HE0 c) (ht:1<=c.thr/\c.thr<=16) (hK:c.kind=1\/c.kind=2) (hs:0<=c.str/\c.str<=4) (hz:0<=f_size_0 c/\f_size_0 c<=200) (ha:0<=a/\a<=16) (hb:0<=b/\b<=200):Ai Uf 500 85 [c.av,(⟨5,a,0⟩:Plc).av] (fun w_=>zep1.eq (.int .i64 (whereS (f_size_0 (c)) (c) (⟨5,a,0⟩:Plc))) w_) false=true:=Eq.trans (b:=(ba (decide ((BasZAt4.whereS (f_size_0 c) c (Plc.mk 5 a 0))=(IntKind.wrap .i64 ((IntKind.wrap .i64 ((IntKind.wrap .i64 (3+(IntKind.wrap .i64 (c.3*1))))+(IntKind.wrap .i64 (a*1))))+0)))) U8)) (by kernel_rfl) (band (Ddt (by rw [wh_5];simp (disch:=omega) only [Bv];omega)) rfl)
abbrev Eg (c:Conf):=decide (c.4=1)
theorem Bg6 (c:Conf) (a b:Int) (he:HE0 c) (ht:1<=c.thr/\c.thr<=16) (hK:c.kind=1\/c.kind=2) (hs:0<=c.str/\c.str<=4) (hz:0<=f_size_0 c/\f_size_0 c<=200) (ha:0<=a/\a<=16) (hb:0<=b/\b<=200) (hk:c.kind=1):Ai Uf 500 85 [c.av,(⟨6,0,b⟩:Plc).av] (fun w_=>zep1.eq (.int .i64 (whereS (f_size_0 (c)) (c) (⟨6,0,b⟩:Plc))) w_) false=true:=Eq.trans (b:=(br (Eg c) (ba (decide ((BasZAt4.whereS (f_size_0 c) c (Plc.mk 6 0 b))=(IntKind.wrap .i64 ((IntKind.wrap .i64 ((IntKind.wrap .i64 ((IntKind.wrap .i64 (3+(IntKind.wrap .i64 (c.3*1))))+(IntKind.wrap .i64 (c.3*1))))+(IntKind.wrap .i64 (0*c.3))))+b)))) U8) (ba (decide ((BasZAt4.whereS (f_size_0 c) c (Plc.mk 6 0 b))=(IntKind.wrap .i64 ((IntKind.wrap .i64 ((IntKind.wrap .i64 ((IntKind.wrap .i64 (3+(IntKind.wrap .i64 (c.3*1))))+(IntKind.wrap .i64 (c.3*1))))+0))+b)))) U8))) (by kernel_rfl) (btb (Ddt hk) (band (Ddt (by rw [wh_6];simp (disch:=omega) only [Bv];omega)) rfl))
theorem Bg7 (c:Conf) (a b:Int) (he:HE0 c) (ht:1<=c.thr/\c.thr<=16) (hK:c.kind=1\/c.kind=2) (hs:0<=c.str/\c.str<=4) (hz:0<=f_size_0 c/\f_size_0 c<=200) (ha:0<=a/\a<=16) (hb:0<=b/\b<=200) (hk:c.kind=1):Ai Uf 500 85 [c.av,(⟨6,1,b⟩:Plc).av] (fun w_=>zep1.eq (.int .i64 (whereS (f_size_0 (c)) (c) (⟨6,1,b⟩:Plc))) w_) false=true:=Eq.trans (b:=(br (Eg c) (ba (decide ((BasZAt4.whereS (f_size_0 c) c (Plc.mk 6 1 b))=(IntKind.wrap .i64 ((IntKind.wrap .i64 ((IntKind.wrap .i64 ((IntKind.wrap .i64 (3+(IntKind.wrap .i64 (c.3*1))))+(IntKind.wrap .i64 (c.3*1))))+(IntKind.wrap .i64 (1*c.3))))+b)))) U8) (ba (decide ((BasZAt4.whereS (f_size_0 c) c (Plc.mk 6 1 b))=(IntKind.wrap .i64 ((IntKind.wrap .i64 ((IntKind.wrap .i64 ((IntKind.wrap .i64 (3+(IntKind.wrap .i64 (c.3*1))))+(IntKind.wrap .i64 (c.3*1))))+0))+b)))) U8))) (by kernel_rfl) (btb (Ddt hk) (band (Ddt (by rw [wh_6];simp (disch:=omega) only [Bv];omega)) rfl))
abbrev D5 (c:Conf):=decide (c.4=2)
section
variable (c:Conf) (a b:Int)
theorem Bg9 (he:HE0 c) (ht:1<=c.thr/\c.thr<=16) (hK:c.kind=1\/c.kind=2) (hs:0<=c.str/\c.str<=4) (hz:0<=f_size_0 c/\f_size_0 c<=200) (ha:0<=a/\a<=16) (hb:0<=b/\b<=200) (hk:¬ c.kind=1):Ai Uf 500 85 [c.av,(⟨7,0,b⟩:Plc).av] (fun w_=>zep1.eq (.int .i64 (whereS (f_size_0 (c)) (c) (⟨7,0,b⟩:Plc))) w_) false=true:=Eq.trans (b:=(br (Eg c) (br (D5 c) (ba (decide ((BasZAt4.whereS (f_size_0 c) c (Plc.mk 7 0 b))=(IntKind.wrap .i64 ((IntKind.wrap .i64 ((IntKind.wrap .i64 ((IntKind.wrap .i64 ((IntKind.wrap .i64 (3+(IntKind.wrap .i64 (c.3*1))))+(IntKind.wrap .i64 (c.3*1))))+(IntKind.wrap .i64 (2*c.3))))+(IntKind.wrap .i64 (0*c.5))))+b)))) U8) (ba (decide ((BasZAt4.whereS (f_size_0 c) c (Plc.mk 7 0 b))=(IntKind.wrap .i64 ((IntKind.wrap .i64 ((IntKind.wrap .i64 ((IntKind.wrap .i64 ((IntKind.wrap .i64 (3+(IntKind.wrap .i64 (c.3*1))))+(IntKind.wrap .i64 (c.3*1))))+(IntKind.wrap .i64 (2*c.3))))+0))+b)))) U8)) (br (D5 c) (ba (decide ((BasZAt4.whereS (f_size_0 c) c (Plc.mk 7 0 b))=(IntKind.wrap .i64 ((IntKind.wrap .i64 ((IntKind.wrap .i64 ((IntKind.wrap .i64 ((IntKind.wrap .i64 (3+(IntKind.wrap .i64 (c.3*1))))+(IntKind.wrap .i64 (c.3*1))))+0))+(IntKind.wrap .i64 (0*c.5))))+b)))) U8) (ba (decide ((BasZAt4.whereS (f_size_0 c) c (Plc.mk 7 0 b))=(IntKind.wrap .i64 ((IntKind.wrap .i64 ((IntKind.wrap .i64 ((IntKind.wrap .i64 ((IntKind.wrap .i64 (3+(IntKind.wrap .i64 (c.3*1))))+(IntKind.wrap .i64 (c.3*1))))+0))+0))+b)))) U8)))) (by kernel_rfl) (btf (Ddf hk) (btb (Ddt (by omega)) (band (Ddt (by rw [wh_7];simp (disch:=omega) only [Bv];omega)) rfl)))
theorem Bhb (he:HE0 c) (ht:1<=c.thr/\c.thr<=16) (hK:c.kind=1\/c.kind=2) (hs:0<=c.str/\c.str<=4) (hz:0<=f_size_0 c/\f_size_0 c<=200) (ha:0<=a/\a<=16) (hb:0<=b/\b<=200) (hk:¬ c.kind=1):Ai Uf 500 85 [c.av,(⟨7,1,b⟩:Plc).av] (fun w_=>zep1.eq (.int .i64 (whereS (f_size_0 (c)) (c) (⟨7,1,b⟩:Plc))) w_) false=true:=Eq.trans (b:=(br (Eg c) (br (D5 c) (ba (decide ((BasZAt4.whereS (f_size_0 c) c (Plc.mk 7 1 b))=(IntKind.wrap .i64 ((IntKind.wrap .i64 ((IntKind.wrap .i64 ((IntKind.wrap .i64 ((IntKind.wrap .i64 (3+(IntKind.wrap .i64 (c.3*1))))+(IntKind.wrap .i64 (c.3*1))))+(IntKind.wrap .i64 (2*c.3))))+(IntKind.wrap .i64 (1*c.5))))+b)))) U8) (ba (decide ((BasZAt4.whereS (f_size_0 c) c (Plc.mk 7 1 b))=(IntKind.wrap .i64 ((IntKind.wrap .i64 ((IntKind.wrap .i64 ((IntKind.wrap .i64 ((IntKind.wrap .i64 (3+(IntKind.wrap .i64 (c.3*1))))+(IntKind.wrap .i64 (c.3*1))))+(IntKind.wrap .i64 (2*c.3))))+0))+b)))) U8)) (br (D5 c) (ba (decide ((BasZAt4.whereS (f_size_0 c) c (Plc.mk 7 1 b))=(IntKind.wrap .i64 ((IntKind.wrap .i64 ((IntKind.wrap .i64 ((IntKind.wrap .i64 ((IntKind.wrap .i64 (3+(IntKind.wrap .i64 (c.3*1))))+(IntKind.wrap .i64 (c.3*1))))+0))+(IntKind.wrap .i64 (1*c.5))))+b)))) U8) (ba (decide ((BasZAt4.whereS (f_size_0 c) c (Plc.mk 7 1 b))=(IntKind.wrap .i64 ((IntKind.wrap .i64 ((IntKind.wrap .i64 ((IntKind.wrap .i64 ((IntKind.wrap .i64 (3+(IntKind.wrap .i64 (c.3*1))))+(IntKind.wrap .i64 (c.3*1))))+0))+0))+b)))) U8)))) (by kernel_rfl) (btf (Ddf hk) (btb (Ddt (by omega)) (band (Ddt (by rw [wh_7];simp (disch:=omega) only [Bv];omega)) rfl)))
theorem Bhc (he:HE0 c) (ht:1<=c.thr/\c.thr<=16) (hK:c.kind=1\/c.kind=2) (hs:0<=c.str/\c.str<=4) (hz:0<=f_size_0 c/\f_size_0 c<=200) (ha:0<=a/\a<=16) (hb:0<=b/\b<=200) (hk:¬ c.kind=1):Ai Uf 500 85 [c.av,(⟨8,0,b⟩:Plc).av] (fun w_=>zep1.eq (.int .i64 (whereS (f_size_0 (c)) (c) (⟨8,0,b⟩:Plc))) w_) false=true:=Eq.trans (b:=(br (Eg c) (br (D5 c) (br (D5 c) (ba (decide ((BasZAt4.whereS (f_size_0 c) c (Plc.mk 8 0 b))=(IntKind.wrap .i64 ((IntKind.wrap .i64 ((IntKind.wrap .i64 ((IntKind.wrap .i64 ((IntKind.wrap .i64 ((IntKind.wrap .i64 (3+(IntKind.wrap .i64 (c.3*1))))+(IntKind.wrap .i64 (c.3*1))))+(IntKind.wrap .i64 (2*c.3))))+(IntKind.wrap .i64 (2*c.5))))+(IntKind.wrap .i64 (0*c.5))))+b)))) U8) (ba (decide ((BasZAt4.whereS (f_size_0 c) c (Plc.mk 8 0 b))=(IntKind.wrap .i64 ((IntKind.wrap .i64 ((IntKind.wrap .i64 ((IntKind.wrap .i64 ((IntKind.wrap .i64 ((IntKind.wrap .i64 (3+(IntKind.wrap .i64 (c.3*1))))+(IntKind.wrap .i64 (c.3*1))))+(IntKind.wrap .i64 (2*c.3))))+(IntKind.wrap .i64 (2*c.5))))+0))+b)))) U8)) (br (D5 c) (ba (decide ((BasZAt4.whereS (f_size_0 c) c (Plc.mk 8 0 b))=(IntKind.wrap .i64 ((IntKind.wrap .i64 ((IntKind.wrap .i64 ((IntKind.wrap .i64 ((IntKind.wrap .i64 ((IntKind.wrap .i64 (3+(IntKind.wrap .i64 (c.3*1))))+(IntKind.wrap .i64 (c.3*1))))+(IntKind.wrap .i64 (2*c.3))))+0))+(IntKind.wrap .i64 (0*c.5))))+b)))) U8) (ba (decide ((BasZAt4.whereS (f_size_0 c) c (Plc.mk 8 0 b))=(IntKind.wrap .i64 ((IntKind.wrap .i64 ((IntKind.wrap .i64 ((IntKind.wrap .i64 ((IntKind.wrap .i64 ((IntKind.wrap .i64 (3+(IntKind.wrap .i64 (c.3*1))))+(IntKind.wrap .i64 (c.3*1))))+(IntKind.wrap .i64 (2*c.3))))+0))+0))+b)))) U8))) (br (D5 c) (br (D5 c) (ba (decide ((BasZAt4.whereS (f_size_0 c) c (Plc.mk 8 0 b))=(IntKind.wrap .i64 ((IntKind.wrap .i64 ((IntKind.wrap .i64 ((IntKind.wrap .i64 ((IntKind.wrap .i64 ((IntKind.wrap .i64 (3+(IntKind.wrap .i64 (c.3*1))))+(IntKind.wrap .i64 (c.3*1))))+0))+(IntKind.wrap .i64 (2*c.5))))+(IntKind.wrap .i64 (0*c.5))))+b)))) U8) (ba (decide ((BasZAt4.whereS (f_size_0 c) c (Plc.mk 8 0 b))=(IntKind.wrap .i64 ((IntKind.wrap .i64 ((IntKind.wrap .i64 ((IntKind.wrap .i64 ((IntKind.wrap .i64 ((IntKind.wrap .i64 (3+(IntKind.wrap .i64 (c.3*1))))+(IntKind.wrap .i64 (c.3*1))))+0))+(IntKind.wrap .i64 (2*c.5))))+0))+b)))) U8)) (br (D5 c) (ba (decide ((BasZAt4.whereS (f_size_0 c) c (Plc.mk 8 0 b))=(IntKind.wrap .i64 ((IntKind.wrap .i64 ((IntKind.wrap .i64 ((IntKind.wrap .i64 ((IntKind.wrap .i64 ((IntKind.wrap .i64 (3+(IntKind.wrap .i64 (c.3*1))))+(IntKind.wrap .i64 (c.3*1))))+0))+0))+(IntKind.wrap .i64 (0*c.5))))+b)))) U8) (ba (decide ((BasZAt4.whereS (f_size_0 c) c (Plc.mk 8 0 b))=(IntKind.wrap .i64 ((IntKind.wrap .i64 ((IntKind.wrap .i64 ((IntKind.wrap .i64 ((IntKind.wrap .i64 ((IntKind.wrap .i64 (3+(IntKind.wrap .i64 (c.3*1))))+(IntKind.wrap .i64 (c.3*1))))+0))+0))+0))+b)))) U8))))) (by kernel_rfl) (btf (Ddf hk) (btb (Ddt (by omega)) (btb (Ddt (by omega)) (band (Ddt (by rw [wh_8];simp (disch:=omega) only [Bv];omega)) rfl))))
theorem Bhd (he:HE0 c) (ht:1<=c.thr/\c.thr<=16) (hK:c.kind=1\/c.kind=2) (hs:0<=c.str/\c.str<=4) (hz:0<=f_size_0 c/\f_size_0 c<=200) (ha:0<=a/\a<=16) (hb:0<=b/\b<=200) (hk:¬ c.kind=1):Ai Uf 500 85 [c.av,(⟨8,1,b⟩:Plc).av] (fun w_=>zep1.eq (.int .i64 (whereS (f_size_0 (c)) (c) (⟨8,1,b⟩:Plc))) w_) false=true:=Eq.trans (b:=(br (Eg c) (br (D5 c) (br (D5 c) (ba (decide ((BasZAt4.whereS (f_size_0 c) c (Plc.mk 8 1 b))=(IntKind.wrap .i64 ((IntKind.wrap .i64 ((IntKind.wrap .i64 ((IntKind.wrap .i64 ((IntKind.wrap .i64 ((IntKind.wrap .i64 (3+(IntKind.wrap .i64 (c.3*1))))+(IntKind.wrap .i64 (c.3*1))))+(IntKind.wrap .i64 (2*c.3))))+(IntKind.wrap .i64 (2*c.5))))+(IntKind.wrap .i64 (1*c.5))))+b)))) U8) (ba (decide ((BasZAt4.whereS (f_size_0 c) c (Plc.mk 8 1 b))=(IntKind.wrap .i64 ((IntKind.wrap .i64 ((IntKind.wrap .i64 ((IntKind.wrap .i64 ((IntKind.wrap .i64 ((IntKind.wrap .i64 (3+(IntKind.wrap .i64 (c.3*1))))+(IntKind.wrap .i64 (c.3*1))))+(IntKind.wrap .i64 (2*c.3))))+(IntKind.wrap .i64 (2*c.5))))+0))+b)))) U8)) (br (D5 c) (ba (decide ((BasZAt4.whereS (f_size_0 c) c (Plc.mk 8 1 b))=(IntKind.wrap .i64 ((IntKind.wrap .i64 ((IntKind.wrap .i64 ((IntKind.wrap .i64 ((IntKind.wrap .i64 ((IntKind.wrap .i64 (3+(IntKind.wrap .i64 (c.3*1))))+(IntKind.wrap .i64 (c.3*1))))+(IntKind.wrap .i64 (2*c.3))))+0))+(IntKind.wrap .i64 (1*c.5))))+b)))) U8) (ba (decide ((BasZAt4.whereS (f_size_0 c) c (Plc.mk 8 1 b))=(IntKind.wrap .i64 ((IntKind.wrap .i64 ((IntKind.wrap .i64 ((IntKind.wrap .i64 ((IntKind.wrap .i64 ((IntKind.wrap .i64 (3+(IntKind.wrap .i64 (c.3*1))))+(IntKind.wrap .i64 (c.3*1))))+(IntKind.wrap .i64 (2*c.3))))+0))+0))+b)))) U8))) (br (D5 c) (br (D5 c) (ba (decide ((BasZAt4.whereS (f_size_0 c) c (Plc.mk 8 1 b))=(IntKind.wrap .i64 ((IntKind.wrap .i64 ((IntKind.wrap .i64 ((IntKind.wrap .i64 ((IntKind.wrap .i64 ((IntKind.wrap .i64 (3+(IntKind.wrap .i64 (c.3*1))))+(IntKind.wrap .i64 (c.3*1))))+0))+(IntKind.wrap .i64 (2*c.5))))+(IntKind.wrap .i64 (1*c.5))))+b)))) U8) (ba (decide ((BasZAt4.whereS (f_size_0 c) c (Plc.mk 8 1 b))=(IntKind.wrap .i64 ((IntKind.wrap .i64 ((IntKind.wrap .i64 ((IntKind.wrap .i64 ((IntKind.wrap .i64 ((IntKind.wrap .i64 (3+(IntKind.wrap .i64 (c.3*1))))+(IntKind.wrap .i64 (c.3*1))))+0))+(IntKind.wrap .i64 (2*c.5))))+0))+b)))) U8)) (br (D5 c) (ba (decide ((BasZAt4.whereS (f_size_0 c) c (Plc.mk 8 1 b))=(IntKind.wrap .i64 ((IntKind.wrap .i64 ((IntKind.wrap .i64 ((IntKind.wrap .i64 ((IntKind.wrap .i64 ((IntKind.wrap .i64 (3+(IntKind.wrap .i64 (c.3*1))))+(IntKind.wrap .i64 (c.3*1))))+0))+0))+(IntKind.wrap .i64 (1*c.5))))+b)))) U8) (ba (decide ((BasZAt4.whereS (f_size_0 c) c (Plc.mk 8 1 b))=(IntKind.wrap .i64 ((IntKind.wrap .i64 ((IntKind.wrap .i64 ((IntKind.wrap .i64 ((IntKind.wrap .i64 ((IntKind.wrap .i64 (3+(IntKind.wrap .i64 (c.3*1))))+(IntKind.wrap .i64 (c.3*1))))+0))+0))+0))+b)))) U8))))) (by kernel_rfl) (btf (Ddf hk) (btb (Ddt (by omega)) (btb (Ddt (by omega)) (band (Ddt (by rw [wh_8];simp (disch:=omega) only [Bv];omega)) rfl))))
end
abbrev Ae4 (c:Conf):=decide ((Az c)=0)
section
variable (c:Conf) (a b:Int)
theorem Bhe (he:HE0 c) (ht:1<=c.thr/\c.thr<=16) (hK:c.kind=1\/c.kind=2) (hs:0<=c.str/\c.str<=4) (hz:0<=f_size_0 c/\f_size_0 c<=200) (ha:0<=a/\a<=16) (hb:0<=b/\b<=200):Ai Uf 500 85 [c.av,(⟨9,0,0⟩:Plc).av] (fun w_=>zep1.eq (.int .i64 (whereS (f_size_0 (c)) (c) (⟨9,0,0⟩:Plc))) w_) false=true:=Eq.trans (b:=(br (Eg c) (br (D5 c) (br (D5 c) (ba (Ae4 c) (ba (decide ((BasZAt4.whereS (f_size_0 c) c (Plc.mk 9 0 0))=(IntKind.wrap .i64 ((IntKind.wrap .i64 ((IntKind.wrap .i64 ((IntKind.wrap .i64 ((IntKind.wrap .i64 ((IntKind.wrap .i64 (3+(IntKind.wrap .i64 (c.3*1))))+(IntKind.wrap .i64 (c.3*1))))+(IntKind.wrap .i64 (2*c.3))))+(IntKind.wrap .i64 (2*c.5))))+(IntKind.wrap .i64 (2*c.5))))+(IntKind.wrap .i64 (0*(IntKind.wrap .i64 (1+(f_size_0 c))))))))) U8)) (ba (Ae4 c) (ba (decide ((BasZAt4.whereS (f_size_0 c) c (Plc.mk 9 0 0))=(IntKind.wrap .i64 ((IntKind.wrap .i64 ((IntKind.wrap .i64 ((IntKind.wrap .i64 ((IntKind.wrap .i64 ((IntKind.wrap .i64 (3+(IntKind.wrap .i64 (c.3*1))))+(IntKind.wrap .i64 (c.3*1))))+(IntKind.wrap .i64 (2*c.3))))+(IntKind.wrap .i64 (2*c.5))))+0))+(IntKind.wrap .i64 (0*(IntKind.wrap .i64 (1+(f_size_0 c))))))))) U8))) (br (D5 c) (ba (Ae4 c) (ba (decide ((BasZAt4.whereS (f_size_0 c) c (Plc.mk 9 0 0))=(IntKind.wrap .i64 ((IntKind.wrap .i64 ((IntKind.wrap .i64 ((IntKind.wrap .i64 ((IntKind.wrap .i64 ((IntKind.wrap .i64 (3+(IntKind.wrap .i64 (c.3*1))))+(IntKind.wrap .i64 (c.3*1))))+(IntKind.wrap .i64 (2*c.3))))+0))+(IntKind.wrap .i64 (2*c.5))))+(IntKind.wrap .i64 (0*(IntKind.wrap .i64 (1+(f_size_0 c))))))))) U8)) (ba (Ae4 c) (ba (decide ((BasZAt4.whereS (f_size_0 c) c (Plc.mk 9 0 0))=(IntKind.wrap .i64 ((IntKind.wrap .i64 ((IntKind.wrap .i64 ((IntKind.wrap .i64 ((IntKind.wrap .i64 ((IntKind.wrap .i64 (3+(IntKind.wrap .i64 (c.3*1))))+(IntKind.wrap .i64 (c.3*1))))+(IntKind.wrap .i64 (2*c.3))))+0))+0))+(IntKind.wrap .i64 (0*(IntKind.wrap .i64 (1+(f_size_0 c))))))))) U8)))) (br (D5 c) (br (D5 c) (ba (Ae4 c) (ba (decide ((BasZAt4.whereS (f_size_0 c) c (Plc.mk 9 0 0))=(IntKind.wrap .i64 ((IntKind.wrap .i64 ((IntKind.wrap .i64 ((IntKind.wrap .i64 ((IntKind.wrap .i64 ((IntKind.wrap .i64 (3+(IntKind.wrap .i64 (c.3*1))))+(IntKind.wrap .i64 (c.3*1))))+0))+(IntKind.wrap .i64 (2*c.5))))+(IntKind.wrap .i64 (2*c.5))))+(IntKind.wrap .i64 (0*(IntKind.wrap .i64 (1+(f_size_0 c))))))))) U8)) (ba (Ae4 c) (ba (decide ((BasZAt4.whereS (f_size_0 c) c (Plc.mk 9 0 0))=(IntKind.wrap .i64 ((IntKind.wrap .i64 ((IntKind.wrap .i64 ((IntKind.wrap .i64 ((IntKind.wrap .i64 ((IntKind.wrap .i64 (3+(IntKind.wrap .i64 (c.3*1))))+(IntKind.wrap .i64 (c.3*1))))+0))+(IntKind.wrap .i64 (2*c.5))))+0))+(IntKind.wrap .i64 (0*(IntKind.wrap .i64 (1+(f_size_0 c))))))))) U8))) (br (D5 c) (ba (Ae4 c) (ba (decide ((BasZAt4.whereS (f_size_0 c) c (Plc.mk 9 0 0))=(IntKind.wrap .i64 ((IntKind.wrap .i64 ((IntKind.wrap .i64 ((IntKind.wrap .i64 ((IntKind.wrap .i64 ((IntKind.wrap .i64 (3+(IntKind.wrap .i64 (c.3*1))))+(IntKind.wrap .i64 (c.3*1))))+0))+0))+(IntKind.wrap .i64 (2*c.5))))+(IntKind.wrap .i64 (0*(IntKind.wrap .i64 (1+(f_size_0 c))))))))) U8)) (ba (Ae4 c) (ba (decide ((BasZAt4.whereS (f_size_0 c) c (Plc.mk 9 0 0))=(IntKind.wrap .i64 ((IntKind.wrap .i64 ((IntKind.wrap .i64 ((IntKind.wrap .i64 ((IntKind.wrap .i64 ((IntKind.wrap .i64 (3+(IntKind.wrap .i64 (c.3*1))))+(IntKind.wrap .i64 (c.3*1))))+0))+0))+0))+(IntKind.wrap .i64 (0*(IntKind.wrap .i64 (1+(f_size_0 c))))))))) U8)))))) (by kernel_rfl) (bdt (fun h_1=>(btf (Fq h_1 rfl) (btf (Fq h_1 rfl) (band he (band (Ddt (by rw [Asv];unfold C9;rw [if_pos (Odt h_1)];simp (disch:=omega) only [Bv];omega)) rfl))))) (fun h_1=>(btb (Ddt (by have:=Odf h_1;omega)) (btb (Ddt (by have:=Odf h_1;omega)) (band he (band (Ddt (by rw [Asv];unfold C9;rw [if_neg (Odf h_1)];simp (disch:=omega) only [Bv];omega)) rfl))))))
theorem Bhf (he:HE0 c) (ht:1<=c.thr/\c.thr<=16) (hK:c.kind=1\/c.kind=2) (hs:0<=c.str/\c.str<=4) (hz:0<=f_size_0 c/\f_size_0 c<=200) (ha:0<=a/\a<=16) (hb:0<=b/\b<=200):Ai Uf 500 85 [c.av,(⟨9,1,0⟩:Plc).av] (fun w_=>zep1.eq (.int .i64 (whereS (f_size_0 (c)) (c) (⟨9,1,0⟩:Plc))) w_) false=true:=Eq.trans (b:=(br (Eg c) (br (D5 c) (br (D5 c) (ba (Ae4 c) (ba (decide ((BasZAt4.whereS (f_size_0 c) c (Plc.mk 9 1 0))=(IntKind.wrap .i64 ((IntKind.wrap .i64 ((IntKind.wrap .i64 ((IntKind.wrap .i64 ((IntKind.wrap .i64 ((IntKind.wrap .i64 (3+(IntKind.wrap .i64 (c.3*1))))+(IntKind.wrap .i64 (c.3*1))))+(IntKind.wrap .i64 (2*c.3))))+(IntKind.wrap .i64 (2*c.5))))+(IntKind.wrap .i64 (2*c.5))))+(IntKind.wrap .i64 (1*(IntKind.wrap .i64 (1+(f_size_0 c))))))))) U8)) (ba (Ae4 c) (ba (decide ((BasZAt4.whereS (f_size_0 c) c (Plc.mk 9 1 0))=(IntKind.wrap .i64 ((IntKind.wrap .i64 ((IntKind.wrap .i64 ((IntKind.wrap .i64 ((IntKind.wrap .i64 ((IntKind.wrap .i64 (3+(IntKind.wrap .i64 (c.3*1))))+(IntKind.wrap .i64 (c.3*1))))+(IntKind.wrap .i64 (2*c.3))))+(IntKind.wrap .i64 (2*c.5))))+0))+(IntKind.wrap .i64 (1*(IntKind.wrap .i64 (1+(f_size_0 c))))))))) U8))) (br (D5 c) (ba (Ae4 c) (ba (decide ((BasZAt4.whereS (f_size_0 c) c (Plc.mk 9 1 0))=(IntKind.wrap .i64 ((IntKind.wrap .i64 ((IntKind.wrap .i64 ((IntKind.wrap .i64 ((IntKind.wrap .i64 ((IntKind.wrap .i64 (3+(IntKind.wrap .i64 (c.3*1))))+(IntKind.wrap .i64 (c.3*1))))+(IntKind.wrap .i64 (2*c.3))))+0))+(IntKind.wrap .i64 (2*c.5))))+(IntKind.wrap .i64 (1*(IntKind.wrap .i64 (1+(f_size_0 c))))))))) U8)) (ba (Ae4 c) (ba (decide ((BasZAt4.whereS (f_size_0 c) c (Plc.mk 9 1 0))=(IntKind.wrap .i64 ((IntKind.wrap .i64 ((IntKind.wrap .i64 ((IntKind.wrap .i64 ((IntKind.wrap .i64 ((IntKind.wrap .i64 (3+(IntKind.wrap .i64 (c.3*1))))+(IntKind.wrap .i64 (c.3*1))))+(IntKind.wrap .i64 (2*c.3))))+0))+0))+(IntKind.wrap .i64 (1*(IntKind.wrap .i64 (1+(f_size_0 c))))))))) U8)))) (br (D5 c) (br (D5 c) (ba (Ae4 c) (ba (decide ((BasZAt4.whereS (f_size_0 c) c (Plc.mk 9 1 0))=(IntKind.wrap .i64 ((IntKind.wrap .i64 ((IntKind.wrap .i64 ((IntKind.wrap .i64 ((IntKind.wrap .i64 ((IntKind.wrap .i64 (3+(IntKind.wrap .i64 (c.3*1))))+(IntKind.wrap .i64 (c.3*1))))+0))+(IntKind.wrap .i64 (2*c.5))))+(IntKind.wrap .i64 (2*c.5))))+(IntKind.wrap .i64 (1*(IntKind.wrap .i64 (1+(f_size_0 c))))))))) U8)) (ba (Ae4 c) (ba (decide ((BasZAt4.whereS (f_size_0 c) c (Plc.mk 9 1 0))=(IntKind.wrap .i64 ((IntKind.wrap .i64 ((IntKind.wrap .i64 ((IntKind.wrap .i64 ((IntKind.wrap .i64 ((IntKind.wrap .i64 (3+(IntKind.wrap .i64 (c.3*1))))+(IntKind.wrap .i64 (c.3*1))))+0))+(IntKind.wrap .i64 (2*c.5))))+0))+(IntKind.wrap .i64 (1*(IntKind.wrap .i64 (1+(f_size_0 c))))))))) U8))) (br (D5 c) (ba (Ae4 c) (ba (decide ((BasZAt4.whereS (f_size_0 c) c (Plc.mk 9 1 0))=(IntKind.wrap .i64 ((IntKind.wrap .i64 ((IntKind.wrap .i64 ((IntKind.wrap .i64 ((IntKind.wrap .i64 ((IntKind.wrap .i64 (3+(IntKind.wrap .i64 (c.3*1))))+(IntKind.wrap .i64 (c.3*1))))+0))+0))+(IntKind.wrap .i64 (2*c.5))))+(IntKind.wrap .i64 (1*(IntKind.wrap .i64 (1+(f_size_0 c))))))))) U8)) (ba (Ae4 c) (ba (decide ((BasZAt4.whereS (f_size_0 c) c (Plc.mk 9 1 0))=(IntKind.wrap .i64 ((IntKind.wrap .i64 ((IntKind.wrap .i64 ((IntKind.wrap .i64 ((IntKind.wrap .i64 ((IntKind.wrap .i64 (3+(IntKind.wrap .i64 (c.3*1))))+(IntKind.wrap .i64 (c.3*1))))+0))+0))+0))+(IntKind.wrap .i64 (1*(IntKind.wrap .i64 (1+(f_size_0 c))))))))) U8)))))) (by kernel_rfl) (bdt (fun h_1=>(btf (Fq h_1 rfl) (btf (Fq h_1 rfl) (band he (band (Ddt (by rw [Asv];unfold C9;rw [if_pos (Odt h_1)];simp (disch:=omega) only [Bv];omega)) rfl))))) (fun h_1=>(btb (Ddt (by have:=Odf h_1;omega)) (btb (Ddt (by have:=Odf h_1;omega)) (band he (band (Ddt (by rw [Asv];unfold C9;rw [if_neg (Odf h_1)];simp (disch:=omega) only [Bv];omega)) rfl))))))
theorem Bhg (he:HE0 c) (ht:1<=c.thr/\c.thr<=16) (hK:c.kind=1\/c.kind=2) (hs:0<=c.str/\c.str<=4) (hz:0<=f_size_0 c/\f_size_0 c<=200) (ha:0<=a/\a<=16) (hb:0<=b/\b<=200):Ai Uf 500 85 [c.av,(⟨9,2,0⟩:Plc).av] (fun w_=>zep1.eq (.int .i64 (whereS (f_size_0 (c)) (c) (⟨9,2,0⟩:Plc))) w_) false=true:=Eq.trans (b:=(br (Eg c) (br (D5 c) (br (D5 c) (ba (Ae4 c) (ba (decide ((BasZAt4.whereS (f_size_0 c) c (Plc.mk 9 2 0))=(IntKind.wrap .i64 ((IntKind.wrap .i64 ((IntKind.wrap .i64 ((IntKind.wrap .i64 ((IntKind.wrap .i64 ((IntKind.wrap .i64 (3+(IntKind.wrap .i64 (c.3*1))))+(IntKind.wrap .i64 (c.3*1))))+(IntKind.wrap .i64 (2*c.3))))+(IntKind.wrap .i64 (2*c.5))))+(IntKind.wrap .i64 (2*c.5))))+(IntKind.wrap .i64 (2*(IntKind.wrap .i64 (1+(f_size_0 c))))))))) U8)) (ba (Ae4 c) (ba (decide ((BasZAt4.whereS (f_size_0 c) c (Plc.mk 9 2 0))=(IntKind.wrap .i64 ((IntKind.wrap .i64 ((IntKind.wrap .i64 ((IntKind.wrap .i64 ((IntKind.wrap .i64 ((IntKind.wrap .i64 (3+(IntKind.wrap .i64 (c.3*1))))+(IntKind.wrap .i64 (c.3*1))))+(IntKind.wrap .i64 (2*c.3))))+(IntKind.wrap .i64 (2*c.5))))+0))+(IntKind.wrap .i64 (2*(IntKind.wrap .i64 (1+(f_size_0 c))))))))) U8))) (br (D5 c) (ba (Ae4 c) (ba (decide ((BasZAt4.whereS (f_size_0 c) c (Plc.mk 9 2 0))=(IntKind.wrap .i64 ((IntKind.wrap .i64 ((IntKind.wrap .i64 ((IntKind.wrap .i64 ((IntKind.wrap .i64 ((IntKind.wrap .i64 (3+(IntKind.wrap .i64 (c.3*1))))+(IntKind.wrap .i64 (c.3*1))))+(IntKind.wrap .i64 (2*c.3))))+0))+(IntKind.wrap .i64 (2*c.5))))+(IntKind.wrap .i64 (2*(IntKind.wrap .i64 (1+(f_size_0 c))))))))) U8)) (ba (Ae4 c) (ba (decide ((BasZAt4.whereS (f_size_0 c) c (Plc.mk 9 2 0))=(IntKind.wrap .i64 ((IntKind.wrap .i64 ((IntKind.wrap .i64 ((IntKind.wrap .i64 ((IntKind.wrap .i64 ((IntKind.wrap .i64 (3+(IntKind.wrap .i64 (c.3*1))))+(IntKind.wrap .i64 (c.3*1))))+(IntKind.wrap .i64 (2*c.3))))+0))+0))+(IntKind.wrap .i64 (2*(IntKind.wrap .i64 (1+(f_size_0 c))))))))) U8)))) (br (D5 c) (br (D5 c) (ba (Ae4 c) (ba (decide ((BasZAt4.whereS (f_size_0 c) c (Plc.mk 9 2 0))=(IntKind.wrap .i64 ((IntKind.wrap .i64 ((IntKind.wrap .i64 ((IntKind.wrap .i64 ((IntKind.wrap .i64 ((IntKind.wrap .i64 (3+(IntKind.wrap .i64 (c.3*1))))+(IntKind.wrap .i64 (c.3*1))))+0))+(IntKind.wrap .i64 (2*c.5))))+(IntKind.wrap .i64 (2*c.5))))+(IntKind.wrap .i64 (2*(IntKind.wrap .i64 (1+(f_size_0 c))))))))) U8)) (ba (Ae4 c) (ba (decide ((BasZAt4.whereS (f_size_0 c) c (Plc.mk 9 2 0))=(IntKind.wrap .i64 ((IntKind.wrap .i64 ((IntKind.wrap .i64 ((IntKind.wrap .i64 ((IntKind.wrap .i64 ((IntKind.wrap .i64 (3+(IntKind.wrap .i64 (c.3*1))))+(IntKind.wrap .i64 (c.3*1))))+0))+(IntKind.wrap .i64 (2*c.5))))+0))+(IntKind.wrap .i64 (2*(IntKind.wrap .i64 (1+(f_size_0 c))))))))) U8))) (br (D5 c) (ba (Ae4 c) (ba (decide ((BasZAt4.whereS (f_size_0 c) c (Plc.mk 9 2 0))=(IntKind.wrap .i64 ((IntKind.wrap .i64 ((IntKind.wrap .i64 ((IntKind.wrap .i64 ((IntKind.wrap .i64 ((IntKind.wrap .i64 (3+(IntKind.wrap .i64 (c.3*1))))+(IntKind.wrap .i64 (c.3*1))))+0))+0))+(IntKind.wrap .i64 (2*c.5))))+(IntKind.wrap .i64 (2*(IntKind.wrap .i64 (1+(f_size_0 c))))))))) U8)) (ba (Ae4 c) (ba (decide ((BasZAt4.whereS (f_size_0 c) c (Plc.mk 9 2 0))=(IntKind.wrap .i64 ((IntKind.wrap .i64 ((IntKind.wrap .i64 ((IntKind.wrap .i64 ((IntKind.wrap .i64 ((IntKind.wrap .i64 (3+(IntKind.wrap .i64 (c.3*1))))+(IntKind.wrap .i64 (c.3*1))))+0))+0))+0))+(IntKind.wrap .i64 (2*(IntKind.wrap .i64 (1+(f_size_0 c))))))))) U8)))))) (by kernel_rfl) (bdt (fun h_1=>(btf (Fq h_1 rfl) (btf (Fq h_1 rfl) (band he (band (Ddt (by rw [Asv];unfold C9;rw [if_pos (Odt h_1)];simp (disch:=omega) only [Bv];omega)) rfl))))) (fun h_1=>(btb (Ddt (by have:=Odf h_1;omega)) (btb (Ddt (by have:=Odf h_1;omega)) (band he (band (Ddt (by rw [Asv];unfold C9;rw [if_neg (Odf h_1)];simp (disch:=omega) only [Bv];omega)) rfl))))))
theorem Bhh (he:HE0 c) (ht:1<=c.thr/\c.thr<=16) (hK:c.kind=1\/c.kind=2) (hs:0<=c.str/\c.str<=4) (hz:0<=f_size_0 c/\f_size_0 c<=200) (ha:0<=a/\a<=16) (hb:0<=b/\b<=200):Ai Uf 500 85 [c.av,(⟨9,3,0⟩:Plc).av] (fun w_=>zep1.eq (.int .i64 (whereS (f_size_0 (c)) (c) (⟨9,3,0⟩:Plc))) w_) false=true:=Eq.trans (b:=(br (Eg c) (br (D5 c) (br (D5 c) (ba (Ae4 c) (ba (decide ((BasZAt4.whereS (f_size_0 c) c (Plc.mk 9 3 0))=(IntKind.wrap .i64 ((IntKind.wrap .i64 ((IntKind.wrap .i64 ((IntKind.wrap .i64 ((IntKind.wrap .i64 ((IntKind.wrap .i64 (3+(IntKind.wrap .i64 (c.3*1))))+(IntKind.wrap .i64 (c.3*1))))+(IntKind.wrap .i64 (2*c.3))))+(IntKind.wrap .i64 (2*c.5))))+(IntKind.wrap .i64 (2*c.5))))+(IntKind.wrap .i64 (3*(IntKind.wrap .i64 (1+(f_size_0 c))))))))) U8)) (ba (Ae4 c) (ba (decide ((BasZAt4.whereS (f_size_0 c) c (Plc.mk 9 3 0))=(IntKind.wrap .i64 ((IntKind.wrap .i64 ((IntKind.wrap .i64 ((IntKind.wrap .i64 ((IntKind.wrap .i64 ((IntKind.wrap .i64 (3+(IntKind.wrap .i64 (c.3*1))))+(IntKind.wrap .i64 (c.3*1))))+(IntKind.wrap .i64 (2*c.3))))+(IntKind.wrap .i64 (2*c.5))))+0))+(IntKind.wrap .i64 (3*(IntKind.wrap .i64 (1+(f_size_0 c))))))))) U8))) (br (D5 c) (ba (Ae4 c) (ba (decide ((BasZAt4.whereS (f_size_0 c) c (Plc.mk 9 3 0))=(IntKind.wrap .i64 ((IntKind.wrap .i64 ((IntKind.wrap .i64 ((IntKind.wrap .i64 ((IntKind.wrap .i64 ((IntKind.wrap .i64 (3+(IntKind.wrap .i64 (c.3*1))))+(IntKind.wrap .i64 (c.3*1))))+(IntKind.wrap .i64 (2*c.3))))+0))+(IntKind.wrap .i64 (2*c.5))))+(IntKind.wrap .i64 (3*(IntKind.wrap .i64 (1+(f_size_0 c))))))))) U8)) (ba (Ae4 c) (ba (decide ((BasZAt4.whereS (f_size_0 c) c (Plc.mk 9 3 0))=(IntKind.wrap .i64 ((IntKind.wrap .i64 ((IntKind.wrap .i64 ((IntKind.wrap .i64 ((IntKind.wrap .i64 ((IntKind.wrap .i64 (3+(IntKind.wrap .i64 (c.3*1))))+(IntKind.wrap .i64 (c.3*1))))+(IntKind.wrap .i64 (2*c.3))))+0))+0))+(IntKind.wrap .i64 (3*(IntKind.wrap .i64 (1+(f_size_0 c))))))))) U8)))) (br (D5 c) (br (D5 c) (ba (Ae4 c) (ba (decide ((BasZAt4.whereS (f_size_0 c) c (Plc.mk 9 3 0))=(IntKind.wrap .i64 ((IntKind.wrap .i64 ((IntKind.wrap .i64 ((IntKind.wrap .i64 ((IntKind.wrap .i64 ((IntKind.wrap .i64 (3+(IntKind.wrap .i64 (c.3*1))))+(IntKind.wrap .i64 (c.3*1))))+0))+(IntKind.wrap .i64 (2*c.5))))+(IntKind.wrap .i64 (2*c.5))))+(IntKind.wrap .i64 (3*(IntKind.wrap .i64 (1+(f_size_0 c))))))))) U8)) (ba (Ae4 c) (ba (decide ((BasZAt4.whereS (f_size_0 c) c (Plc.mk 9 3 0))=(IntKind.wrap .i64 ((IntKind.wrap .i64 ((IntKind.wrap .i64 ((IntKind.wrap .i64 ((IntKind.wrap .i64 ((IntKind.wrap .i64 (3+(IntKind.wrap .i64 (c.3*1))))+(IntKind.wrap .i64 (c.3*1))))+0))+(IntKind.wrap .i64 (2*c.5))))+0))+(IntKind.wrap .i64 (3*(IntKind.wrap .i64 (1+(f_size_0 c))))))))) U8))) (br (D5 c) (ba (Ae4 c) (ba (decide ((BasZAt4.whereS (f_size_0 c) c (Plc.mk 9 3 0))=(IntKind.wrap .i64 ((IntKind.wrap .i64 ((IntKind.wrap .i64 ((IntKind.wrap .i64 ((IntKind.wrap .i64 ((IntKind.wrap .i64 (3+(IntKind.wrap .i64 (c.3*1))))+(IntKind.wrap .i64 (c.3*1))))+0))+0))+(IntKind.wrap .i64 (2*c.5))))+(IntKind.wrap .i64 (3*(IntKind.wrap .i64 (1+(f_size_0 c))))))))) U8)) (ba (Ae4 c) (ba (decide ((BasZAt4.whereS (f_size_0 c) c (Plc.mk 9 3 0))=(IntKind.wrap .i64 ((IntKind.wrap .i64 ((IntKind.wrap .i64 ((IntKind.wrap .i64 ((IntKind.wrap .i64 ((IntKind.wrap .i64 (3+(IntKind.wrap .i64 (c.3*1))))+(IntKind.wrap .i64 (c.3*1))))+0))+0))+0))+(IntKind.wrap .i64 (3*(IntKind.wrap .i64 (1+(f_size_0 c))))))))) U8)))))) (by kernel_rfl) (bdt (fun h_1=>(btf (Fq h_1 rfl) (btf (Fq h_1 rfl) (band he (band (Ddt (by rw [Asv];unfold C9;rw [if_pos (Odt h_1)];simp (disch:=omega) only [Bv];omega)) rfl))))) (fun h_1=>(btb (Ddt (by have:=Odf h_1;omega)) (btb (Ddt (by have:=Odf h_1;omega)) (band he (band (Ddt (by rw [Asv];unfold C9;rw [if_neg (Odf h_1)];simp (disch:=omega) only [Bv];omega)) rfl))))))
theorem A9f (he:HE0 c) (ht:1<=c.thr/\c.thr<=16) (hK:c.kind=1\/c.kind=2) (hs:0<=c.str/\c.str<=4) (hz:0<=f_size_0 c/\f_size_0 c<=200) (ha:0<=a/\a<=16) (hb:0<=b/\b<=200):Ai Uf 500 85 [c.av,(⟨10,0,b⟩:Plc).av] (fun w_=>zep1.eq (.int .i64 (whereS (f_size_0 (c)) (c) (⟨10,0,b⟩:Plc))) w_) false=true:=Eq.trans (b:=(br (Eg c) (br (D5 c) (br (D5 c) (ba (Ae4 c) (ba (decide ((BasZAt4.whereS (f_size_0 c) c (Plc.mk 10 0 b))=(IntKind.wrap .i64 ((IntKind.wrap .i64 ((IntKind.wrap .i64 ((IntKind.wrap .i64 ((IntKind.wrap .i64 ((IntKind.wrap .i64 ((IntKind.wrap .i64 ((IntKind.wrap .i64 (3+(IntKind.wrap .i64 (c.3*1))))+(IntKind.wrap .i64 (c.3*1))))+(IntKind.wrap .i64 (2*c.3))))+(IntKind.wrap .i64 (2*c.5))))+(IntKind.wrap .i64 (2*c.5))))+(IntKind.wrap .i64 (0*(IntKind.wrap .i64 (1+(f_size_0 c)))))))+1))+b)))) U8)) (ba (Ae4 c) (ba (decide ((BasZAt4.whereS (f_size_0 c) c (Plc.mk 10 0 b))=(IntKind.wrap .i64 ((IntKind.wrap .i64 ((IntKind.wrap .i64 ((IntKind.wrap .i64 ((IntKind.wrap .i64 ((IntKind.wrap .i64 ((IntKind.wrap .i64 ((IntKind.wrap .i64 (3+(IntKind.wrap .i64 (c.3*1))))+(IntKind.wrap .i64 (c.3*1))))+(IntKind.wrap .i64 (2*c.3))))+(IntKind.wrap .i64 (2*c.5))))+0))+(IntKind.wrap .i64 (0*(IntKind.wrap .i64 (1+(f_size_0 c)))))))+1))+b)))) U8))) (br (D5 c) (ba (Ae4 c) (ba (decide ((BasZAt4.whereS (f_size_0 c) c (Plc.mk 10 0 b))=(IntKind.wrap .i64 ((IntKind.wrap .i64 ((IntKind.wrap .i64 ((IntKind.wrap .i64 ((IntKind.wrap .i64 ((IntKind.wrap .i64 ((IntKind.wrap .i64 ((IntKind.wrap .i64 (3+(IntKind.wrap .i64 (c.3*1))))+(IntKind.wrap .i64 (c.3*1))))+(IntKind.wrap .i64 (2*c.3))))+0))+(IntKind.wrap .i64 (2*c.5))))+(IntKind.wrap .i64 (0*(IntKind.wrap .i64 (1+(f_size_0 c)))))))+1))+b)))) U8)) (ba (Ae4 c) (ba (decide ((BasZAt4.whereS (f_size_0 c) c (Plc.mk 10 0 b))=(IntKind.wrap .i64 ((IntKind.wrap .i64 ((IntKind.wrap .i64 ((IntKind.wrap .i64 ((IntKind.wrap .i64 ((IntKind.wrap .i64 ((IntKind.wrap .i64 ((IntKind.wrap .i64 (3+(IntKind.wrap .i64 (c.3*1))))+(IntKind.wrap .i64 (c.3*1))))+(IntKind.wrap .i64 (2*c.3))))+0))+0))+(IntKind.wrap .i64 (0*(IntKind.wrap .i64 (1+(f_size_0 c)))))))+1))+b)))) U8)))) (br (D5 c) (br (D5 c) (ba (Ae4 c) (ba (decide ((BasZAt4.whereS (f_size_0 c) c (Plc.mk 10 0 b))=(IntKind.wrap .i64 ((IntKind.wrap .i64 ((IntKind.wrap .i64 ((IntKind.wrap .i64 ((IntKind.wrap .i64 ((IntKind.wrap .i64 ((IntKind.wrap .i64 ((IntKind.wrap .i64 (3+(IntKind.wrap .i64 (c.3*1))))+(IntKind.wrap .i64 (c.3*1))))+0))+(IntKind.wrap .i64 (2*c.5))))+(IntKind.wrap .i64 (2*c.5))))+(IntKind.wrap .i64 (0*(IntKind.wrap .i64 (1+(f_size_0 c)))))))+1))+b)))) U8)) (ba (Ae4 c) (ba (decide ((BasZAt4.whereS (f_size_0 c) c (Plc.mk 10 0 b))=(IntKind.wrap .i64 ((IntKind.wrap .i64 ((IntKind.wrap .i64 ((IntKind.wrap .i64 ((IntKind.wrap .i64 ((IntKind.wrap .i64 ((IntKind.wrap .i64 ((IntKind.wrap .i64 (3+(IntKind.wrap .i64 (c.3*1))))+(IntKind.wrap .i64 (c.3*1))))+0))+(IntKind.wrap .i64 (2*c.5))))+0))+(IntKind.wrap .i64 (0*(IntKind.wrap .i64 (1+(f_size_0 c)))))))+1))+b)))) U8))) (br (D5 c) (ba (Ae4 c) (ba (decide ((BasZAt4.whereS (f_size_0 c) c (Plc.mk 10 0 b))=(IntKind.wrap .i64 ((IntKind.wrap .i64 ((IntKind.wrap .i64 ((IntKind.wrap .i64 ((IntKind.wrap .i64 ((IntKind.wrap .i64 ((IntKind.wrap .i64 ((IntKind.wrap .i64 (3+(IntKind.wrap .i64 (c.3*1))))+(IntKind.wrap .i64 (c.3*1))))+0))+0))+(IntKind.wrap .i64 (2*c.5))))+(IntKind.wrap .i64 (0*(IntKind.wrap .i64 (1+(f_size_0 c)))))))+1))+b)))) U8)) (ba (Ae4 c) (ba (decide ((BasZAt4.whereS (f_size_0 c) c (Plc.mk 10 0 b))=(IntKind.wrap .i64 ((IntKind.wrap .i64 ((IntKind.wrap .i64 ((IntKind.wrap .i64 ((IntKind.wrap .i64 ((IntKind.wrap .i64 ((IntKind.wrap .i64 ((IntKind.wrap .i64 (3+(IntKind.wrap .i64 (c.3*1))))+(IntKind.wrap .i64 (c.3*1))))+0))+0))+0))+(IntKind.wrap .i64 (0*(IntKind.wrap .i64 (1+(f_size_0 c)))))))+1))+b)))) U8)))))) (by kernel_rfl) (bdt (fun h_1=>(btf (Fq h_1 rfl) (btf (Fq h_1 rfl) (band he (band (Ddt (by rw [Ae0];unfold C9;rw [if_pos (Odt h_1)];simp (disch:=omega) only [Bv];omega)) rfl))))) (fun h_1=>(btb (Ddt (by have:=Odf h_1;omega)) (btb (Ddt (by have:=Odf h_1;omega)) (band he (band (Ddt (by rw [Ae0];unfold C9;rw [if_neg (Odf h_1)];simp (disch:=omega) only [Bv];omega)) rfl))))))
theorem A9g (he:HE0 c) (ht:1<=c.thr/\c.thr<=16) (hK:c.kind=1\/c.kind=2) (hs:0<=c.str/\c.str<=4) (hz:0<=f_size_0 c/\f_size_0 c<=200) (ha:0<=a/\a<=16) (hb:0<=b/\b<=200):Ai Uf 500 85 [c.av,(⟨10,1,b⟩:Plc).av] (fun w_=>zep1.eq (.int .i64 (whereS (f_size_0 (c)) (c) (⟨10,1,b⟩:Plc))) w_) false=true:=Eq.trans (b:=(br (Eg c) (br (D5 c) (br (D5 c) (ba (Ae4 c) (ba (decide ((BasZAt4.whereS (f_size_0 c) c (Plc.mk 10 1 b))=(IntKind.wrap .i64 ((IntKind.wrap .i64 ((IntKind.wrap .i64 ((IntKind.wrap .i64 ((IntKind.wrap .i64 ((IntKind.wrap .i64 ((IntKind.wrap .i64 ((IntKind.wrap .i64 (3+(IntKind.wrap .i64 (c.3*1))))+(IntKind.wrap .i64 (c.3*1))))+(IntKind.wrap .i64 (2*c.3))))+(IntKind.wrap .i64 (2*c.5))))+(IntKind.wrap .i64 (2*c.5))))+(IntKind.wrap .i64 (1*(IntKind.wrap .i64 (1+(f_size_0 c)))))))+1))+b)))) U8)) (ba (Ae4 c) (ba (decide ((BasZAt4.whereS (f_size_0 c) c (Plc.mk 10 1 b))=(IntKind.wrap .i64 ((IntKind.wrap .i64 ((IntKind.wrap .i64 ((IntKind.wrap .i64 ((IntKind.wrap .i64 ((IntKind.wrap .i64 ((IntKind.wrap .i64 ((IntKind.wrap .i64 (3+(IntKind.wrap .i64 (c.3*1))))+(IntKind.wrap .i64 (c.3*1))))+(IntKind.wrap .i64 (2*c.3))))+(IntKind.wrap .i64 (2*c.5))))+0))+(IntKind.wrap .i64 (1*(IntKind.wrap .i64 (1+(f_size_0 c)))))))+1))+b)))) U8))) (br (D5 c) (ba (Ae4 c) (ba (decide ((BasZAt4.whereS (f_size_0 c) c (Plc.mk 10 1 b))=(IntKind.wrap .i64 ((IntKind.wrap .i64 ((IntKind.wrap .i64 ((IntKind.wrap .i64 ((IntKind.wrap .i64 ((IntKind.wrap .i64 ((IntKind.wrap .i64 ((IntKind.wrap .i64 (3+(IntKind.wrap .i64 (c.3*1))))+(IntKind.wrap .i64 (c.3*1))))+(IntKind.wrap .i64 (2*c.3))))+0))+(IntKind.wrap .i64 (2*c.5))))+(IntKind.wrap .i64 (1*(IntKind.wrap .i64 (1+(f_size_0 c)))))))+1))+b)))) U8)) (ba (Ae4 c) (ba (decide ((BasZAt4.whereS (f_size_0 c) c (Plc.mk 10 1 b))=(IntKind.wrap .i64 ((IntKind.wrap .i64 ((IntKind.wrap .i64 ((IntKind.wrap .i64 ((IntKind.wrap .i64 ((IntKind.wrap .i64 ((IntKind.wrap .i64 ((IntKind.wrap .i64 (3+(IntKind.wrap .i64 (c.3*1))))+(IntKind.wrap .i64 (c.3*1))))+(IntKind.wrap .i64 (2*c.3))))+0))+0))+(IntKind.wrap .i64 (1*(IntKind.wrap .i64 (1+(f_size_0 c)))))))+1))+b)))) U8)))) (br (D5 c) (br (D5 c) (ba (Ae4 c) (ba (decide ((BasZAt4.whereS (f_size_0 c) c (Plc.mk 10 1 b))=(IntKind.wrap .i64 ((IntKind.wrap .i64 ((IntKind.wrap .i64 ((IntKind.wrap .i64 ((IntKind.wrap .i64 ((IntKind.wrap .i64 ((IntKind.wrap .i64 ((IntKind.wrap .i64 (3+(IntKind.wrap .i64 (c.3*1))))+(IntKind.wrap .i64 (c.3*1))))+0))+(IntKind.wrap .i64 (2*c.5))))+(IntKind.wrap .i64 (2*c.5))))+(IntKind.wrap .i64 (1*(IntKind.wrap .i64 (1+(f_size_0 c)))))))+1))+b)))) U8)) (ba (Ae4 c) (ba (decide ((BasZAt4.whereS (f_size_0 c) c (Plc.mk 10 1 b))=(IntKind.wrap .i64 ((IntKind.wrap .i64 ((IntKind.wrap .i64 ((IntKind.wrap .i64 ((IntKind.wrap .i64 ((IntKind.wrap .i64 ((IntKind.wrap .i64 ((IntKind.wrap .i64 (3+(IntKind.wrap .i64 (c.3*1))))+(IntKind.wrap .i64 (c.3*1))))+0))+(IntKind.wrap .i64 (2*c.5))))+0))+(IntKind.wrap .i64 (1*(IntKind.wrap .i64 (1+(f_size_0 c)))))))+1))+b)))) U8))) (br (D5 c) (ba (Ae4 c) (ba (decide ((BasZAt4.whereS (f_size_0 c) c (Plc.mk 10 1 b))=(IntKind.wrap .i64 ((IntKind.wrap .i64 ((IntKind.wrap .i64 ((IntKind.wrap .i64 ((IntKind.wrap .i64 ((IntKind.wrap .i64 ((IntKind.wrap .i64 ((IntKind.wrap .i64 (3+(IntKind.wrap .i64 (c.3*1))))+(IntKind.wrap .i64 (c.3*1))))+0))+0))+(IntKind.wrap .i64 (2*c.5))))+(IntKind.wrap .i64 (1*(IntKind.wrap .i64 (1+(f_size_0 c)))))))+1))+b)))) U8)) (ba (Ae4 c) (ba (decide ((BasZAt4.whereS (f_size_0 c) c (Plc.mk 10 1 b))=(IntKind.wrap .i64 ((IntKind.wrap .i64 ((IntKind.wrap .i64 ((IntKind.wrap .i64 ((IntKind.wrap .i64 ((IntKind.wrap .i64 ((IntKind.wrap .i64 ((IntKind.wrap .i64 (3+(IntKind.wrap .i64 (c.3*1))))+(IntKind.wrap .i64 (c.3*1))))+0))+0))+0))+(IntKind.wrap .i64 (1*(IntKind.wrap .i64 (1+(f_size_0 c)))))))+1))+b)))) U8)))))) (by kernel_rfl) (bdt (fun h_1=>(btf (Fq h_1 rfl) (btf (Fq h_1 rfl) (band he (band (Ddt (by rw [Ae0];unfold C9;rw [if_pos (Odt h_1)];simp (disch:=omega) only [Bv];omega)) rfl))))) (fun h_1=>(btb (Ddt (by have:=Odf h_1;omega)) (btb (Ddt (by have:=Odf h_1;omega)) (band he (band (Ddt (by rw [Ae0];unfold C9;rw [if_neg (Odf h_1)];simp (disch:=omega) only [Bv];omega)) rfl))))))
theorem A9h (he:HE0 c) (ht:1<=c.thr/\c.thr<=16) (hK:c.kind=1\/c.kind=2) (hs:0<=c.str/\c.str<=4) (hz:0<=f_size_0 c/\f_size_0 c<=200) (ha:0<=a/\a<=16) (hb:0<=b/\b<=200):Ai Uf 500 85 [c.av,(⟨10,2,b⟩:Plc).av] (fun w_=>zep1.eq (.int .i64 (whereS (f_size_0 (c)) (c) (⟨10,2,b⟩:Plc))) w_) false=true:=Eq.trans (b:=(br (Eg c) (br (D5 c) (br (D5 c) (ba (Ae4 c) (ba (decide ((BasZAt4.whereS (f_size_0 c) c (Plc.mk 10 2 b))=(IntKind.wrap .i64 ((IntKind.wrap .i64 ((IntKind.wrap .i64 ((IntKind.wrap .i64 ((IntKind.wrap .i64 ((IntKind.wrap .i64 ((IntKind.wrap .i64 ((IntKind.wrap .i64 (3+(IntKind.wrap .i64 (c.3*1))))+(IntKind.wrap .i64 (c.3*1))))+(IntKind.wrap .i64 (2*c.3))))+(IntKind.wrap .i64 (2*c.5))))+(IntKind.wrap .i64 (2*c.5))))+(IntKind.wrap .i64 (2*(IntKind.wrap .i64 (1+(f_size_0 c)))))))+1))+b)))) U8)) (ba (Ae4 c) (ba (decide ((BasZAt4.whereS (f_size_0 c) c (Plc.mk 10 2 b))=(IntKind.wrap .i64 ((IntKind.wrap .i64 ((IntKind.wrap .i64 ((IntKind.wrap .i64 ((IntKind.wrap .i64 ((IntKind.wrap .i64 ((IntKind.wrap .i64 ((IntKind.wrap .i64 (3+(IntKind.wrap .i64 (c.3*1))))+(IntKind.wrap .i64 (c.3*1))))+(IntKind.wrap .i64 (2*c.3))))+(IntKind.wrap .i64 (2*c.5))))+0))+(IntKind.wrap .i64 (2*(IntKind.wrap .i64 (1+(f_size_0 c)))))))+1))+b)))) U8))) (br (D5 c) (ba (Ae4 c) (ba (decide ((BasZAt4.whereS (f_size_0 c) c (Plc.mk 10 2 b))=(IntKind.wrap .i64 ((IntKind.wrap .i64 ((IntKind.wrap .i64 ((IntKind.wrap .i64 ((IntKind.wrap .i64 ((IntKind.wrap .i64 ((IntKind.wrap .i64 ((IntKind.wrap .i64 (3+(IntKind.wrap .i64 (c.3*1))))+(IntKind.wrap .i64 (c.3*1))))+(IntKind.wrap .i64 (2*c.3))))+0))+(IntKind.wrap .i64 (2*c.5))))+(IntKind.wrap .i64 (2*(IntKind.wrap .i64 (1+(f_size_0 c)))))))+1))+b)))) U8)) (ba (Ae4 c) (ba (decide ((BasZAt4.whereS (f_size_0 c) c (Plc.mk 10 2 b))=(IntKind.wrap .i64 ((IntKind.wrap .i64 ((IntKind.wrap .i64 ((IntKind.wrap .i64 ((IntKind.wrap .i64 ((IntKind.wrap .i64 ((IntKind.wrap .i64 ((IntKind.wrap .i64 (3+(IntKind.wrap .i64 (c.3*1))))+(IntKind.wrap .i64 (c.3*1))))+(IntKind.wrap .i64 (2*c.3))))+0))+0))+(IntKind.wrap .i64 (2*(IntKind.wrap .i64 (1+(f_size_0 c)))))))+1))+b)))) U8)))) (br (D5 c) (br (D5 c) (ba (Ae4 c) (ba (decide ((BasZAt4.whereS (f_size_0 c) c (Plc.mk 10 2 b))=(IntKind.wrap .i64 ((IntKind.wrap .i64 ((IntKind.wrap .i64 ((IntKind.wrap .i64 ((IntKind.wrap .i64 ((IntKind.wrap .i64 ((IntKind.wrap .i64 ((IntKind.wrap .i64 (3+(IntKind.wrap .i64 (c.3*1))))+(IntKind.wrap .i64 (c.3*1))))+0))+(IntKind.wrap .i64 (2*c.5))))+(IntKind.wrap .i64 (2*c.5))))+(IntKind.wrap .i64 (2*(IntKind.wrap .i64 (1+(f_size_0 c)))))))+1))+b)))) U8)) (ba (Ae4 c) (ba (decide ((BasZAt4.whereS (f_size_0 c) c (Plc.mk 10 2 b))=(IntKind.wrap .i64 ((IntKind.wrap .i64 ((IntKind.wrap .i64 ((IntKind.wrap .i64 ((IntKind.wrap .i64 ((IntKind.wrap .i64 ((IntKind.wrap .i64 ((IntKind.wrap .i64 (3+(IntKind.wrap .i64 (c.3*1))))+(IntKind.wrap .i64 (c.3*1))))+0))+(IntKind.wrap .i64 (2*c.5))))+0))+(IntKind.wrap .i64 (2*(IntKind.wrap .i64 (1+(f_size_0 c)))))))+1))+b)))) U8))) (br (D5 c) (ba (Ae4 c) (ba (decide ((BasZAt4.whereS (f_size_0 c) c (Plc.mk 10 2 b))=(IntKind.wrap .i64 ((IntKind.wrap .i64 ((IntKind.wrap .i64 ((IntKind.wrap .i64 ((IntKind.wrap .i64 ((IntKind.wrap .i64 ((IntKind.wrap .i64 ((IntKind.wrap .i64 (3+(IntKind.wrap .i64 (c.3*1))))+(IntKind.wrap .i64 (c.3*1))))+0))+0))+(IntKind.wrap .i64 (2*c.5))))+(IntKind.wrap .i64 (2*(IntKind.wrap .i64 (1+(f_size_0 c)))))))+1))+b)))) U8)) (ba (Ae4 c) (ba (decide ((BasZAt4.whereS (f_size_0 c) c (Plc.mk 10 2 b))=(IntKind.wrap .i64 ((IntKind.wrap .i64 ((IntKind.wrap .i64 ((IntKind.wrap .i64 ((IntKind.wrap .i64 ((IntKind.wrap .i64 ((IntKind.wrap .i64 ((IntKind.wrap .i64 (3+(IntKind.wrap .i64 (c.3*1))))+(IntKind.wrap .i64 (c.3*1))))+0))+0))+0))+(IntKind.wrap .i64 (2*(IntKind.wrap .i64 (1+(f_size_0 c)))))))+1))+b)))) U8)))))) (by kernel_rfl) (bdt (fun h_1=>(btf (Fq h_1 rfl) (btf (Fq h_1 rfl) (band he (band (Ddt (by rw [Ae0];unfold C9;rw [if_pos (Odt h_1)];simp (disch:=omega) only [Bv];omega)) rfl))))) (fun h_1=>(btb (Ddt (by have:=Odf h_1;omega)) (btb (Ddt (by have:=Odf h_1;omega)) (band he (band (Ddt (by rw [Ae0];unfold C9;rw [if_neg (Odf h_1)];simp (disch:=omega) only [Bv];omega)) rfl))))))
theorem A9i (he:HE0 c) (ht:1<=c.thr/\c.thr<=16) (hK:c.kind=1\/c.kind=2) (hs:0<=c.str/\c.str<=4) (hz:0<=f_size_0 c/\f_size_0 c<=200) (ha:0<=a/\a<=16) (hb:0<=b/\b<=200):Ai Uf 500 85 [c.av,(⟨10,3,b⟩:Plc).av] (fun w_=>zep1.eq (.int .i64 (whereS (f_size_0 (c)) (c) (⟨10,3,b⟩:Plc))) w_) false=true:=Eq.trans (b:=(br (Eg c) (br (D5 c) (br (D5 c) (ba (Ae4 c) (ba (decide ((BasZAt4.whereS (f_size_0 c) c (Plc.mk 10 3 b))=(IntKind.wrap .i64 ((IntKind.wrap .i64 ((IntKind.wrap .i64 ((IntKind.wrap .i64 ((IntKind.wrap .i64 ((IntKind.wrap .i64 ((IntKind.wrap .i64 ((IntKind.wrap .i64 (3+(IntKind.wrap .i64 (c.3*1))))+(IntKind.wrap .i64 (c.3*1))))+(IntKind.wrap .i64 (2*c.3))))+(IntKind.wrap .i64 (2*c.5))))+(IntKind.wrap .i64 (2*c.5))))+(IntKind.wrap .i64 (3*(IntKind.wrap .i64 (1+(f_size_0 c)))))))+1))+b)))) U8)) (ba (Ae4 c) (ba (decide ((BasZAt4.whereS (f_size_0 c) c (Plc.mk 10 3 b))=(IntKind.wrap .i64 ((IntKind.wrap .i64 ((IntKind.wrap .i64 ((IntKind.wrap .i64 ((IntKind.wrap .i64 ((IntKind.wrap .i64 ((IntKind.wrap .i64 ((IntKind.wrap .i64 (3+(IntKind.wrap .i64 (c.3*1))))+(IntKind.wrap .i64 (c.3*1))))+(IntKind.wrap .i64 (2*c.3))))+(IntKind.wrap .i64 (2*c.5))))+0))+(IntKind.wrap .i64 (3*(IntKind.wrap .i64 (1+(f_size_0 c)))))))+1))+b)))) U8))) (br (D5 c) (ba (Ae4 c) (ba (decide ((BasZAt4.whereS (f_size_0 c) c (Plc.mk 10 3 b))=(IntKind.wrap .i64 ((IntKind.wrap .i64 ((IntKind.wrap .i64 ((IntKind.wrap .i64 ((IntKind.wrap .i64 ((IntKind.wrap .i64 ((IntKind.wrap .i64 ((IntKind.wrap .i64 (3+(IntKind.wrap .i64 (c.3*1))))+(IntKind.wrap .i64 (c.3*1))))+(IntKind.wrap .i64 (2*c.3))))+0))+(IntKind.wrap .i64 (2*c.5))))+(IntKind.wrap .i64 (3*(IntKind.wrap .i64 (1+(f_size_0 c)))))))+1))+b)))) U8)) (ba (Ae4 c) (ba (decide ((BasZAt4.whereS (f_size_0 c) c (Plc.mk 10 3 b))=(IntKind.wrap .i64 ((IntKind.wrap .i64 ((IntKind.wrap .i64 ((IntKind.wrap .i64 ((IntKind.wrap .i64 ((IntKind.wrap .i64 ((IntKind.wrap .i64 ((IntKind.wrap .i64 (3+(IntKind.wrap .i64 (c.3*1))))+(IntKind.wrap .i64 (c.3*1))))+(IntKind.wrap .i64 (2*c.3))))+0))+0))+(IntKind.wrap .i64 (3*(IntKind.wrap .i64 (1+(f_size_0 c)))))))+1))+b)))) U8)))) (br (D5 c) (br (D5 c) (ba (Ae4 c) (ba (decide ((BasZAt4.whereS (f_size_0 c) c (Plc.mk 10 3 b))=(IntKind.wrap .i64 ((IntKind.wrap .i64 ((IntKind.wrap .i64 ((IntKind.wrap .i64 ((IntKind.wrap .i64 ((IntKind.wrap .i64 ((IntKind.wrap .i64 ((IntKind.wrap .i64 (3+(IntKind.wrap .i64 (c.3*1))))+(IntKind.wrap .i64 (c.3*1))))+0))+(IntKind.wrap .i64 (2*c.5))))+(IntKind.wrap .i64 (2*c.5))))+(IntKind.wrap .i64 (3*(IntKind.wrap .i64 (1+(f_size_0 c)))))))+1))+b)))) U8)) (ba (Ae4 c) (ba (decide ((BasZAt4.whereS (f_size_0 c) c (Plc.mk 10 3 b))=(IntKind.wrap .i64 ((IntKind.wrap .i64 ((IntKind.wrap .i64 ((IntKind.wrap .i64 ((IntKind.wrap .i64 ((IntKind.wrap .i64 ((IntKind.wrap .i64 ((IntKind.wrap .i64 (3+(IntKind.wrap .i64 (c.3*1))))+(IntKind.wrap .i64 (c.3*1))))+0))+(IntKind.wrap .i64 (2*c.5))))+0))+(IntKind.wrap .i64 (3*(IntKind.wrap .i64 (1+(f_size_0 c)))))))+1))+b)))) U8))) (br (D5 c) (ba (Ae4 c) (ba (decide ((BasZAt4.whereS (f_size_0 c) c (Plc.mk 10 3 b))=(IntKind.wrap .i64 ((IntKind.wrap .i64 ((IntKind.wrap .i64 ((IntKind.wrap .i64 ((IntKind.wrap .i64 ((IntKind.wrap .i64 ((IntKind.wrap .i64 ((IntKind.wrap .i64 (3+(IntKind.wrap .i64 (c.3*1))))+(IntKind.wrap .i64 (c.3*1))))+0))+0))+(IntKind.wrap .i64 (2*c.5))))+(IntKind.wrap .i64 (3*(IntKind.wrap .i64 (1+(f_size_0 c)))))))+1))+b)))) U8)) (ba (Ae4 c) (ba (decide ((BasZAt4.whereS (f_size_0 c) c (Plc.mk 10 3 b))=(IntKind.wrap .i64 ((IntKind.wrap .i64 ((IntKind.wrap .i64 ((IntKind.wrap .i64 ((IntKind.wrap .i64 ((IntKind.wrap .i64 ((IntKind.wrap .i64 ((IntKind.wrap .i64 (3+(IntKind.wrap .i64 (c.3*1))))+(IntKind.wrap .i64 (c.3*1))))+0))+0))+0))+(IntKind.wrap .i64 (3*(IntKind.wrap .i64 (1+(f_size_0 c)))))))+1))+b)))) U8)))))) (by kernel_rfl) (bdt (fun h_1=>(btf (Fq h_1 rfl) (btf (Fq h_1 rfl) (band he (band (Ddt (by rw [Ae0];unfold C9;rw [if_pos (Odt h_1)];simp (disch:=omega) only [Bv];omega)) rfl))))) (fun h_1=>(btb (Ddt (by have:=Odf h_1;omega)) (btb (Ddt (by have:=Odf h_1;omega)) (band he (band (Ddt (by rw [Ae0];unfold C9;rw [if_neg (Odf h_1)];simp (disch:=omega) only [Bv];omega)) rfl))))))
end
theorem A2t (c:Conf) (p:Plc) (h:(decide (Az c=0)&&decide (Ol (f_size_0 c) c p))=true):Ai Uf 500 85 [c.av,p.av] (fun w_=>zep1.eq (.int .i64 (whereS (f_size_0 c) c p)) w_) false=true:=by
 have he:=Aj h
 have hH:=Odt (Af h)
 have hc:=okP he
 obtain ⟨ht,hK,hs,hi⟩:=okC hc
 have hz:=(Q7 c hc).2
 clear h
 obtain ⟨part,a,b⟩:=p
 unfold Ol at hH
 simp only at hH
 rcases hH with ⟨q|q|q,a0,b0⟩|⟨q|q,a0,a1,b0⟩|⟨q,k1,a0,a1,b0,b1⟩|⟨q|q,k1,a0,a1,b0,b1⟩|⟨q,a0,a1,b0⟩|⟨q,a0,a1,b0,b1⟩
 ·subst q a0 b0
  exact t_wr1 c 0 0 he ht hK hs hz (by omega) (by omega)
 ·subst q a0 b0
  exact t_wr2 c 0 0 he ht hK hs hz (by omega) (by omega)
 ·subst q a0 b0
  exact t_wr3 c 0 0 he ht hK hs hz (by omega) (by omega)
 ·subst q b0
  exact t_wr4 c a 0 he ht hK hs hz ⟨a0,by omega⟩ (by omega)
 ·subst q b0
  exact t_wr5 c a 0 he ht hK hs hz ⟨a0,by omega⟩ (by omega)
 ·subst q
  rcases (show a=0\/a=1 by omega) with rfl|rfl
  ·exact Bg6 c 0 b he ht hK hs hz (by omega) ⟨b0,by omega⟩ k1
  ·exact Bg7 c 0 b he ht hK hs hz (by omega) ⟨b0,by omega⟩ k1
 ·subst q
  rcases (show a=0\/a=1 by omega) with rfl|rfl
  ·exact Bg9 c 0 b he ht hK hs hz (by omega) ⟨b0,by omega⟩ k1
  ·exact Bhb c 0 b he ht hK hs hz (by omega) ⟨b0,by omega⟩ k1
 ·subst q
  rcases (show a=0\/a=1 by omega) with rfl|rfl
  ·exact Bhc c 0 b he ht hK hs hz (by omega) ⟨b0,by omega⟩ k1
  ·exact Bhd c 0 b he ht hK hs hz (by omega) ⟨b0,by omega⟩ k1
 ·subst q b0
  rcases (show a=0\/a=1\/a=2\/a=3 by omega) with rfl|rfl|rfl|rfl
  ·exact Bhe c 0 0 he ht hK hs hz (by omega) (by omega)
  ·exact Bhf c 0 0 he ht hK hs hz (by omega) (by omega)
  ·exact Bhg c 0 0 he ht hK hs hz (by omega) (by omega)
  ·exact Bhh c 0 0 he ht hK hs hz (by omega) (by omega)
 ·subst q
  rcases (show a=0\/a=1\/a=2\/a=3 by omega) with rfl|rfl|rfl|rfl
  ·exact A9f c 0 b he ht hK hs hz (by omega) ⟨b0,by omega⟩
  ·exact A9g c 0 b he ht hK hs hz (by omega) ⟨b0,by omega⟩
  ·exact A9h c 0 b he ht hK hs hz (by omega) ⟨b0,by omega⟩
  ·exact A9i c 0 b he ht hK hs hz (by omega) ⟨b0,by omega⟩
theorem Bhi:Bc Tryz.prog (Cb gs) Bg5:=Cm fun c p h=>Aq base (Ah Bg4 Ap) (n:=500) fun k hk=>(Dh (A2t c p h) (fun w_ hw=>((seI .i64).ok _ _ hw)) k).trans hk
end
end Go.Bas.BasZR4w
end
section
namespace Go.Bas.BasZSign
noncomputable section
open Go.RowKit Go.Proofs
open BasZBase BasZRank BasZRank2 BasZOk
theorem okP {c:Conf} (he:decide (Az c=0)=true):c.ok=true:=Og (Odt he)
theorem Acu {c:Conf} (he:decide (Az c=0)=true) (hk:decide (c.kind=1)=false):1<=c.str/\c.str<=4:=by
 have h:=Hy.1 (okP he)
 have hk:=Odf hk
 simp only [Conf.OkP] at h
 omega
theorem Yc {c:Conf} (he:decide (Az c=0)=true) (hk:decide (c.kind=1)=false):decide (c.str=0)=false:=Ddf (by have:=Acu he hk;omega)
def sp_sarr:Sp:=sT [sG [sI .u8,sI .i64,sI .u64,sI .u64,sI .u64,sI .u64,sI .u64,sI .u64,sI .u64,sI .u64],sI .i64]
section
variable (c:Conf) (v:Int) (t:Int)
def Ht:AV:=Wv (cfg [Bq,Afo]) 400 41 [c.av,.int .i64 v,.int .i64 t]
def Yd:Int:=AV.toI (AV.ix (AV.ix (Ht c v t) 0) 0)
def Ye:Int:=AV.toI (AV.ix (AV.ix (Ht c v t) 0) 1)
def Yf:Int:=AV.toI (AV.ix (AV.ix (Ht c v t) 0) 2)
def Yg:Int:=AV.toI (AV.ix (AV.ix (Ht c v t) 0) 3)
def Yh:Int:=AV.toI (AV.ix (AV.ix (Ht c v t) 0) 4)
def Yi:Int:=AV.toI (AV.ix (AV.ix (Ht c v t) 0) 5)
def Yj:Int:=AV.toI (AV.ix (AV.ix (Ht c v t) 0) 6)
def Yk:Int:=AV.toI (AV.ix (AV.ix (Ht c v t) 0) 7)
def Yl:Int:=AV.toI (AV.ix (AV.ix (Ht c v t) 0) 8)
def Ym:Int:=AV.toI (AV.ix (AV.ix (Ht c v t) 0) 9)
def Pe:Int:=AV.toI (AV.ix (Ht c v t) 1)
def Ao7:AV:=.tup [.agg [.int .u8 (Yd c v t),.int .i64 (Ye c v t),.int .u64 (Yf c v t),.int .u64 (Yg c v t),.int .u64 (Yh c v t),.int .u64 (Yi c v t),.int .u64 (Yj c v t),.int .u64 (Yk c v t),.int .u64 (Yl c v t),.int .u64 (Ym c v t)],.int .i64 (Pe c v t)]
end
def Ail:Sum:=(41,on3 Dp (rI .i64) (rI .i64) (fun c v t=>true) (fun c v t=>Ao7 c v t))
theorem Ayf (c:Conf) (v:Int) (t:Int):sp_sarr.bd (Ht c v t)=Ao7 c v t:=by kernel_rfl
abbrev Bof:=cfg [Bq,Afo]
abbrev zeq1 (c:Conf) (t:Int) (v:Int):Bool:=br (!decide ((Az c)=0)) true (br (!decide (c.4=1)) true (br (decide (v<0)) true (br (decide (v>=2)) true (br (decide (t<0)) true (br (decide (t>=c.3)) true true)))))
theorem Bpm (c:Conf) (v:Int) (t:Int):Ai Bof 400 41 [c.av,.int .i64 v,.int .i64 t] sp_sarr.has false=true:=Eq.trans (b:=(br (!decide ((Az c)=0)) (ba (!decide ((Az c)=0)) true) (br (decide (c.4=1)) (zeq1 c t v) (br (decide ((Az c)=0)) (br (!decide (c.4=2)) true (br (decide (t<0)) true (br (decide (t>=c.3)) true (br (decide (c.5=0)) false (br (!decide ((BasZAt4.atE (f_size_0 c) c (Plc.mk 7 v (Int.tmod t c.5)))=0)) true true))))) true)))) (by kernel_rfl) (bdt (fun h_1=>(band h_1 rfl)) (fun h_1=>(bdt (fun h_2=>(btf h_1 (bdt (fun h_3=>rfl) (fun h_3=>(bdt (fun h_4=>rfl) (fun h_4=>(bdt (fun h_5=>rfl) (fun h_5=>(bdt (fun h_6=>rfl) (fun h_6=>(bdt (fun h_7=>rfl) (fun h_7=>rfl)))))))))))) (fun h_2=>(bdt (fun h_3=>(bdt (fun h_4=>rfl) (fun h_4=>(bdt (fun h_5=>rfl) (fun h_5=>(bdt (fun h_6=>rfl) (fun h_6=>(btf (Yc h_3 h_2) (bdt (fun h_7=>rfl) (fun h_7=>rfl)))))))))) (fun h_3=>rfl))))))
theorem A9j (c:Conf) (v:Int) (t:Int) (h:true=true):Ai Bof 400 41 [c.av,.int .i64 v,.int .i64 t] sp_sarr.has false=true:=Bpm c v t
theorem Bpn:Bc Tryz.prog (Cb gs) Ail:=Hz fun c v t hp=>(H9 base (Ah Jn (Ah s_at Ap)) (n:=400) sp_sarr (A9j c v t hp)).mono fun v_ hv_=>hv_.trans (Ayf c v t)
def sp_sdep:Sp:=sT [sG [sI .u8,sI .i64,sI .u64,sI .u64,sI .u64,sI .u64,sI .u64,sI .u64,sI .u64,sI .u64],sI .i64]
section
variable (c:Conf) (v:Int) (t:Int)
def Hu:AV:=Wv (cfg [Bq,Afo]) 400 42 [c.av,.int .i64 v,.int .i64 t]
def Yn:Int:=AV.toI (AV.ix (AV.ix (Hu c v t) 0) 0)
def Yo:Int:=AV.toI (AV.ix (AV.ix (Hu c v t) 0) 1)
def Yp:Int:=AV.toI (AV.ix (AV.ix (Hu c v t) 0) 2)
def Yq:Int:=AV.toI (AV.ix (AV.ix (Hu c v t) 0) 3)
def Yr:Int:=AV.toI (AV.ix (AV.ix (Hu c v t) 0) 4)
def Yt:Int:=AV.toI (AV.ix (AV.ix (Hu c v t) 0) 5)
def Yu:Int:=AV.toI (AV.ix (AV.ix (Hu c v t) 0) 6)
def Yv:Int:=AV.toI (AV.ix (AV.ix (Hu c v t) 0) 7)
def Yw:Int:=AV.toI (AV.ix (AV.ix (Hu c v t) 0) 8)
def Yx:Int:=AV.toI (AV.ix (AV.ix (Hu c v t) 0) 9)
def Ny:Int:=AV.toI (AV.ix (Hu c v t) 1)
def Ao8:AV:=.tup [.agg [.int .u8 (Yn c v t),.int .i64 (Yo c v t),.int .u64 (Yp c v t),.int .u64 (Yq c v t),.int .u64 (Yr c v t),.int .u64 (Yt c v t),.int .u64 (Yu c v t),.int .u64 (Yv c v t),.int .u64 (Yw c v t),.int .u64 (Yx c v t)],.int .i64 (Ny c v t)]
end
def Aim:Sum:=(42,on3 Dp (rI .i64) (rI .i64) (fun c v t=>true) (fun c v t=>Ao8 c v t))
section
variable (c:Conf) (v:Int) (t:Int)
theorem Ayg:sp_sdep.bd (Hu c v t)=Ao8 c v t:=by kernel_rfl
theorem Bpo:Ai Bof 400 42 [c.av,.int .i64 v,.int .i64 t] sp_sdep.has false=true:=Eq.trans (b:=(br (!decide ((Az c)=0)) (ba (!decide ((Az c)=0)) true) (br (decide (c.4=1)) (zeq1 c t v) (br (decide ((Az c)=0)) (br (!decide (c.4=2)) true (br (decide (t<0)) true (br (decide (t>=c.3)) true (br (decide (c.5=0)) false (br (!decide ((BasZAt4.atE (f_size_0 c) c (Plc.mk 8 v (Int.tmod t c.5)))=0)) true true))))) true)))) (by kernel_rfl) (bdt (fun h_1=>(band h_1 rfl)) (fun h_1=>(bdt (fun h_2=>(btf h_1 (bdt (fun h_3=>rfl) (fun h_3=>(bdt (fun h_4=>rfl) (fun h_4=>(bdt (fun h_5=>rfl) (fun h_5=>(bdt (fun h_6=>rfl) (fun h_6=>(bdt (fun h_7=>rfl) (fun h_7=>rfl)))))))))))) (fun h_2=>(bdt (fun h_3=>(bdt (fun h_4=>rfl) (fun h_4=>(bdt (fun h_5=>rfl) (fun h_5=>(bdt (fun h_6=>rfl) (fun h_6=>(btf (Yc h_3 h_2) (bdt (fun h_7=>rfl) (fun h_7=>rfl)))))))))) (fun h_3=>rfl))))))
theorem A9k (h:true=true):Ai Bof 400 42 [c.av,.int .i64 v,.int .i64 t] sp_sdep.has false=true:=Bpo c v t
end
theorem Bpp:Bc Tryz.prog (Cb gs) Aim:=Hz fun c v t hp=>(H9 base (Ah Jn (Ah s_at Ap)) (n:=400) sp_sdep (A9k c v t hp)).mono fun v_ hv_=>hv_.trans (Ayg c v t)
end
end Go.Bas.BasZSign
end
section
namespace Go.Bas.BasZR21
noncomputable section
open Go.RowKit Go.Proofs
open BasZBase BasZR14 BasZRank BasZTreB BasZR13c BasZRank2 BasZAt4 BasZR4w BasZSign
theorem Acv {z:Int} {c:Conf} {p:Plc} (hc:c.ok=true) (h:Ol z c p):atN z c p=whereS z c p/\atE z c p=0:=by
 have e:atE z c p=0:=by
  unfold atE;rw [hc,Ddt h];rfl
 refine ⟨?_,e⟩
 unfold atN
 rw [e]
 rfl
theorem Ae9 {z:Int} {c:Conf} {p:Plc} (hc:c.ok=true) (h:(!decide (atE z c p=0))=false):Ol z c p:=by
 have h:=Odt (Ar h)
 unfold atE at h
 rw [hc] at h
 by_cases hp:Ol z c p
 ·exact hp
 ·rw [Ddf hp] at h
  exact absurd h (by decide)
theorem Ayh {z:Int} {c:Conf} {p:Plc} (hc:c.ok=true) (h:(!decide (atE z c p=0))=true):atE z c p=2:=by
 have h:=Odf (Oc h)
 unfold atE at h ⊢
 rw [hc] at h ⊢
 by_cases hp:Ol z c p
 ·rw [Ddt hp] at h
  exact absurd rfl h
 ·rw [Ddf hp]
  rfl
theorem no_E {z:Int} {c:Conf} {p:Plc} (hc:c.ok=true) (h:(!decide (atE z c p=0))=true):¬ Ol z c p:=fun hp=>by
 have e:=(Acv hc hp).2
 rw [e] at h
 cases h
theorem Ayi {z:Int} {c:Conf} {v t:Int} (hk:decide (c.kind=1)=true) (h1:decide (v<0)=false) (h2:decide (v>=2)=false) (h3:decide (t<0)=false) (h4:decide (t>=c.thr)=false):Ol z c ⟨6,v,t⟩:=by
 have hk:=Odt hk
 have h1:=Odf h1
 have h2:=Odf h2
 have h3:=Odf h3
 have h4:=Odf h4
 exact .inr (.inr (.inl ⟨rfl,hk,(show 0<=v by omega),(show v<2 by omega),(show 0<=t by omega),(show t<c.thr by omega)⟩))
theorem Ayj {z:Int} {c:Conf} {v b:Int} {k:Int} (hk:k=7\/k=8) (h:Ol z c ⟨k,v,b⟩):0<=v/\v<2:=by
 unfold Ol at h
 simp only at h
 omega
theorem no_v {z:Int} {c:Conf} {v t:Int} {k:Int} (hk:k=7\/k=8) (hkd:decide (c.kind=1)=false) (hs:1<=c.str) (ht:decide (t<0)=false) (h:¬ Ol z c ⟨k,v,Int.tmod t c.str⟩):v<0\/v>1:=by
 have hkd:=Odf hkd
 have ht:=Odf ht
 have h0:0<=Int.tmod t c.str:=Int.tmod_nonneg _ (by omega)
 have h1:Int.tmod t c.str<c.str:=Int.tmod_lt_of_pos _ (by omega)
 have q:¬ (0<=v/\v<2):=fun hv=>h (.inr (.inr (.inr (.inl ⟨by rcases hk with rfl|rfl;exact .inl rfl;exact .inr rfl,hkd,hv.1,hv.2,h0,h1⟩))))
 omega
def hasB (c:Conf) (p:Plc):Bool:=decide (Ol (f_size_0 c) c p)
def Qq:Sum:=(85,on2 Dp Bab (fun c p=>decide (Az c=0)&&hasB c p) (fun c p=>.int .i64 (whereS (f_size_0 c) c p)))
theorem A9l:Bc Tryz.prog (Cb gs) Qq:=Je (fun c p h=>⟨h,rfl⟩) Bhi
abbrev HE0 (c:Conf):Prop:=decide (Az c=0)=true
abbrev Bkz (c:Conf):=!decide ((Az c)=0)
abbrev Ae5 (c:Conf):=decide (c.4=1)
abbrev A2m (c:Conf):=!decide (c.4=1)
abbrev Ip:=true
abbrev Bk0 (c:Conf):Bool:=ba (decide ((Az c)=40)&&true) Ip
abbrev Tj (v:Int):=decide (v<0)
abbrev Asj (c:Conf):Bool:=ba (decide ((Az c)=2)&&true) Ip
abbrev U9 (v:Int):=decide (v>1)
abbrev Oo (t:Int):=decide (t<0)
abbrev Qr (c:Conf) (t:Int):=decide (t>=c.3)
abbrev Eo:=false
abbrev Ayl (c:Conf) (t:Int) (v:Int):Bool:=ba (decide ((Az c)=0)&&(BasZR21.hasB c (Plc.mk 6 v t))) Eo
abbrev Bo7 (c:Conf) (t:Int) (v:Int):Bool:=br (Conf.ok c) (br (A2m c) (Bk0 c) (br (Tj v) (Asj c) (br (U9 v) (Asj c) (br (Oo t) (Asj c) (br (Qr c t) (Asj c) (Ayl c t v)))))) (Bk0 c)
abbrev Ti (c:Conf):=!decide (c.4=2)
section
variable (c:Conf) (t:Int) (v:Int)
abbrev A8z:Bool:=br (decide (c.5=0)) Eo (ba (decide ((Az c)=0)&&(BasZR21.hasB c (Plc.mk 7 v (Int.tmod t c.5)))) Eo)
abbrev Bo9:Bool:=br (Conf.ok c) (br (A2m c) Ip (br (Tj v) Eo (br (U9 v) Eo (br (Oo t) Eo (br (Qr c t) Eo (Ayl c t v)))))) Ip
abbrev Bkk:Bool:=br (Ae5 c) (Bo9 c t v) (br (Conf.ok c) (br (Ti c) Ip (br (Tj v) Eo (br (U9 v) Eo (br (Oo t) Eo (br (Qr c t) Eo (A8z c t v)))))) Ip)
abbrev Bps:Bool:=ba (Conf.ok c) (br (A2m c) Eo (br (Tj v) Ip (br (U9 v) Ip (br (Oo t) Ip (br (Qr c t) Ip (Ayl c t v))))))
abbrev Aym:Bool:=br (Ae5 c) (Bps c t v) (ba (Conf.ok c) (br (Ti c) Eo (br (Tj v) Ip (br (U9 v) Ip (br (Oo t) Ip (br (Qr c t) Ip (A8z c t v)))))))
abbrev Bpy:Bool:=ba (Conf.ok c) (br (A2m c) Eo (br (Tj v) Eo (br (U9 v) Eo (br (Oo t) Eo (br (Qr c t) Eo (ba (decide ((Az c)=0)&&(BasZR21.hasB c (Plc.mk 6 v t))) (ba ((decide ((BasZAt4.atN (f_size_0 c) c (Plc.mk 6 v t))=(BasZAt4.whereS (f_size_0 c) c (Plc.mk 6 v t)))&&true)&&true) Ip)))))))
end
abbrev Bnd (c:Conf) (t:Int) (v:Int):=BasZAt4.atE (f_size_0 c) c (Plc.mk 7 v (Int.tmod t c.5))
section
variable (c:Conf)
abbrev Bkl (t:Int) (v:Int):Bool:=ba (decide ((Bnd c t v)=40)&&true) Ip
abbrev Aov (t:Int) (v:Int):Bool:=ba (decide ((Bnd c t v)=2)&&true) Ip
abbrev Bp9 (t:Int) (v:Int):Bool:=ba (Conf.ok c) (br (A2m c) Eo (br (Tj v) Eo (br (U9 v) Eo (br (Oo t) Eo (br (Qr c t) Eo (Ayl c t v))))))
theorem Bhk (v:Int) (t:Int) (he:HE0 c) (hc:c.ok=true):Ai (cfg [Bq,Afo]) 400 41 [c.av,.int .i64 v,.int .i64 t] (fun v_=>sp_sarr.has v_&&(Ai (cfg [Ia,Qq]) 400 86 [c.av,.int .i64 v,.int .i64 t] (fun w_=>(seT [seG [seI .u8,seI .i64,seI .u64,seI .u64,seI .u64,seI .u64,seI .u64,seI .u64,seI .u64,seI .u64],seI .i64]).eq v_ w_) false)) false=true:=Eq.trans (b:=(br (Bkz c) (ba (Bkz c) (br (Ae5 c) (Bo7 c t v) (br (Conf.ok c) (br (Ti c) (Bk0 c) (br (Tj v) (Asj c) (br (U9 v) (Asj c) (br (Oo t) (Asj c) (br (Qr c t) (Asj c) (A8z c t v)))))) (Bk0 c)))) (br (Ae5 c) (br (Bkz c) (Bkk c t v) (br (A2m c) (Bkk c t v) (br (Tj v) (Aym c t v) (br (decide (v>=2)) (Aym c t v) (br (Oo t) (Aym c t v) (br (Qr c t) (Aym c t v) (br (Ae5 c) (Bpy c t v) (ba (Conf.ok c) (br (Ti c) Eo (br (Tj v) Eo (br (U9 v) Eo (br (Oo t) Eo (br (Qr c t) Eo (A8z c t v)))))))))))))) (br (decide ((Az c)=0)) (br (Ti c) (Bkk c t v) (br (Oo t) (Aym c t v) (br (Qr c t) (Aym c t v) (br (decide (c.5=0)) Eo (br (!decide ((Bnd c t v)=0)) (br (Ae5 c) (br (Conf.ok c) (br (A2m c) (Bkl c t v) (br (Tj v) (Aov c t v) (br (U9 v) (Aov c t v) (br (Oo t) (Aov c t v) (br (Qr c t) (Aov c t v) (Ayl c t v)))))) (Bkl c t v)) (br (Conf.ok c) (br (Ti c) (Bkl c t v) (br (Tj v) (Aov c t v) (br (U9 v) (Aov c t v) (br (Oo t) (Aov c t v) (br (Qr c t) (Aov c t v) (A8z c t v)))))) (Bkl c t v))) (br (Ae5 c) (Bp9 c t v) (ba (Conf.ok c) (br (Ti c) Eo (br (Tj v) Eo (br (U9 v) Eo (br (Oo t) Eo (br (Qr c t) Eo (br (decide (c.5=0)) Eo (ba (decide ((Az c)=0)&&(BasZR21.hasB c (Plc.mk 7 v (Int.tmod t c.5)))) (ba ((decide ((BasZAt4.atN (f_size_0 c) c (Plc.mk 7 v (Int.tmod t c.5)))=(BasZAt4.whereS (f_size_0 c) c (Plc.mk 7 v (Int.tmod t c.5))))&&true)&&true) Ip))))))))))))))) (Bkk c t v))))) (by kernel_rfl) (btf (Ad he) (bdt (fun h_1=>(btf (Ad he) (btf (Ad h_1) (bdt (fun h_2=>(btb h_1 (band hc (btf (Ad h_1) (btb h_2 rfl))))) (fun h_2=>(bdt (fun h_3=>(btb h_1 (band hc (btf (Ad h_1) (btf h_2 (btb (Ddt (by have g0:=Odf h_2;have g1:=Odt h_3;omega)) rfl)))))) (fun h_3=>(bdt (fun h_4=>(btb h_1 (band hc (btf (Ad h_1) (btf h_2 (btf (Ddf (by have g0:=Odf h_2;have g1:=Odf h_3;omega)) (btb h_4 rfl))))))) (fun h_4=>(bdt (fun h_5=>(btb h_1 (band hc (btf (Ad h_1) (btf h_2 (btf (Ddf (by have g0:=Odf h_2;have g1:=Odf h_3;omega)) (btf h_4 (btb h_5 rfl)))))))) (fun h_5=>(btb h_1 (band hc (btf (Ad h_1) (btf h_2 (btf (Ddf (by have g0:=Odf h_2;have g1:=Odf h_3;omega)) (btf h_4 (btf h_5 (band (A8 he (Ddt (Ayi h_1 h_2 h_3 h_4 h_5))) (band (Aw (Aw (Ddt (Acv hc (Ayi h_1 h_2 h_3 h_4 h_5)).1))) rfl)))))))))))))))))))) (fun h_1=>(btb he (btf (Ad (Ddt (by have:=Odf h_1;have:=(okC hc).2.1;omega))) (bdt (fun h_2=>(btf h_1 (band hc (btf (Ad (Ddt (by have:=Odf h_1;have:=(okC hc).2.1;omega))) (bdt (fun h_3=>rfl) (fun h_3=>(bdt (fun h_4=>rfl) (fun h_4=>(btb h_2 rfl))))))))) (fun h_2=>(bdt (fun h_3=>(btf h_1 (band hc (btf (Ad (Ddt (by have:=Odf h_1;have:=(okC hc).2.1;omega))) (bdt (fun h_4=>rfl) (fun h_4=>(bdt (fun h_5=>rfl) (fun h_5=>(btf h_2 (btb h_3 rfl)))))))))) (fun h_3=>(btf (Yc he h_1) (bdt (fun h_4=>(btf h_1 (btb hc (btf (Ad (Ddt (by have:=Odf h_1;have:=(okC hc).2.1;omega))) (bdt (fun h_5=>(band (Aw (Ddt (Ayh hc h_4))) rfl)) (fun h_5=>(btb (Ddt (by have:=no_v (.inl rfl) h_1 (Acu he h_1).1 h_2 (no_E hc h_4);have:=Odf h_5;omega)) (band (Aw (Ddt (Ayh hc h_4))) rfl)))))))) (fun h_4=>(btf h_1 (band hc (btf (Ad (Ddt (by have:=Odf h_1;have:=(okC hc).2.1;omega))) (btf (Ddf (by have:=Ayj (.inl rfl) (Ae9 hc h_4);omega)) (btf (Ddf (by have:=Ayj (.inl rfl) (Ae9 hc h_4);omega)) (btf h_2 (btf h_3 (btf (Yc he h_1) (band (A8 he (Ddt (Ae9 hc h_4))) (band (Aw (Aw (Ddt (Acv hc (Ae9 hc h_4)).1))) rfl))))))))))))))))))))))
abbrev A80 (t:Int) (v:Int):Bool:=br (decide (c.5=0)) Eo (ba (decide ((Az c)=0)&&(BasZR21.hasB c (Plc.mk 8 v (Int.tmod t c.5)))) Eo)
abbrev Bkm (t:Int) (v:Int):Bool:=br (Ae5 c) (Bo9 c t v) (br (Conf.ok c) (br (Ti c) Ip (br (Tj v) Eo (br (U9 v) Eo (br (Oo t) Eo (br (Qr c t) Eo (A80 c t v)))))) Ip)
abbrev Ayn (t:Int) (v:Int):Bool:=br (Ae5 c) (Bps c t v) (ba (Conf.ok c) (br (Ti c) Eo (br (Tj v) Ip (br (U9 v) Ip (br (Oo t) Ip (br (Qr c t) Ip (A80 c t v)))))))
end
abbrev Bne (c:Conf) (t:Int) (v:Int):=BasZAt4.atE (f_size_0 c) c (Plc.mk 8 v (Int.tmod t c.5))
abbrev Bkn (c:Conf) (t:Int) (v:Int):Bool:=ba (decide ((Bne c t v)=40)&&true) Ip
abbrev Aoy (c:Conf) (t:Int) (v:Int):Bool:=ba (decide ((Bne c t v)=2)&&true) Ip
theorem Bhl (c:Conf) (v:Int) (t:Int) (he:HE0 c) (hc:c.ok=true):Ai (cfg [Bq,Afo]) 400 42 [c.av,.int .i64 v,.int .i64 t] (fun v_=>sp_sdep.has v_&&(Ai (cfg [Ia,Qq]) 400 88 [c.av,.int .i64 v,.int .i64 t] (fun w_=>(seT [seG [seI .u8,seI .i64,seI .u64,seI .u64,seI .u64,seI .u64,seI .u64,seI .u64,seI .u64,seI .u64],seI .i64]).eq v_ w_) false)) false=true:=Eq.trans (b:=(br (Bkz c) (ba (Bkz c) (br (Ae5 c) (Bo7 c t v) (br (Conf.ok c) (br (Ti c) (Bk0 c) (br (Tj v) (Asj c) (br (U9 v) (Asj c) (br (Oo t) (Asj c) (br (Qr c t) (Asj c) (A80 c t v)))))) (Bk0 c)))) (br (Ae5 c) (br (Bkz c) (Bkm c t v) (br (A2m c) (Bkm c t v) (br (Tj v) (Ayn c t v) (br (decide (v>=2)) (Ayn c t v) (br (Oo t) (Ayn c t v) (br (Qr c t) (Ayn c t v) (br (Ae5 c) (Bpy c t v) (ba (Conf.ok c) (br (Ti c) Eo (br (Tj v) Eo (br (U9 v) Eo (br (Oo t) Eo (br (Qr c t) Eo (A80 c t v)))))))))))))) (br (decide ((Az c)=0)) (br (Ti c) (Bkm c t v) (br (Oo t) (Ayn c t v) (br (Qr c t) (Ayn c t v) (br (decide (c.5=0)) Eo (br (!decide ((Bne c t v)=0)) (br (Ae5 c) (br (Conf.ok c) (br (A2m c) (Bkn c t v) (br (Tj v) (Aoy c t v) (br (U9 v) (Aoy c t v) (br (Oo t) (Aoy c t v) (br (Qr c t) (Aoy c t v) (Ayl c t v)))))) (Bkn c t v)) (br (Conf.ok c) (br (Ti c) (Bkn c t v) (br (Tj v) (Aoy c t v) (br (U9 v) (Aoy c t v) (br (Oo t) (Aoy c t v) (br (Qr c t) (Aoy c t v) (A80 c t v)))))) (Bkn c t v))) (br (Ae5 c) (Bp9 c t v) (ba (Conf.ok c) (br (Ti c) Eo (br (Tj v) Eo (br (U9 v) Eo (br (Oo t) Eo (br (Qr c t) Eo (br (decide (c.5=0)) Eo (ba (decide ((Az c)=0)&&(BasZR21.hasB c (Plc.mk 8 v (Int.tmod t c.5)))) (ba ((decide ((BasZAt4.atN (f_size_0 c) c (Plc.mk 8 v (Int.tmod t c.5)))=(BasZAt4.whereS (f_size_0 c) c (Plc.mk 8 v (Int.tmod t c.5))))&&true)&&true) Ip))))))))))))))) (Bkm c t v))))) (by kernel_rfl) (btf (Ad he) (bdt (fun h_1=>(btf (Ad he) (btf (Ad h_1) (bdt (fun h_2=>(btb h_1 (band hc (btf (Ad h_1) (btb h_2 rfl))))) (fun h_2=>(bdt (fun h_3=>(btb h_1 (band hc (btf (Ad h_1) (btf h_2 (btb (Ddt (by have g0:=Odf h_2;have g1:=Odt h_3;omega)) rfl)))))) (fun h_3=>(bdt (fun h_4=>(btb h_1 (band hc (btf (Ad h_1) (btf h_2 (btf (Ddf (by have g0:=Odf h_2;have g1:=Odf h_3;omega)) (btb h_4 rfl))))))) (fun h_4=>(bdt (fun h_5=>(btb h_1 (band hc (btf (Ad h_1) (btf h_2 (btf (Ddf (by have g0:=Odf h_2;have g1:=Odf h_3;omega)) (btf h_4 (btb h_5 rfl)))))))) (fun h_5=>(btb h_1 (band hc (btf (Ad h_1) (btf h_2 (btf (Ddf (by have g0:=Odf h_2;have g1:=Odf h_3;omega)) (btf h_4 (btf h_5 (band (A8 he (Ddt (Ayi h_1 h_2 h_3 h_4 h_5))) (band (Aw (Aw (Ddt (Acv hc (Ayi h_1 h_2 h_3 h_4 h_5)).1))) rfl)))))))))))))))))))) (fun h_1=>(btb he (btf (Ad (Ddt (by have:=Odf h_1;have:=(okC hc).2.1;omega))) (bdt (fun h_2=>(btf h_1 (band hc (btf (Ad (Ddt (by have:=Odf h_1;have:=(okC hc).2.1;omega))) (bdt (fun h_3=>rfl) (fun h_3=>(bdt (fun h_4=>rfl) (fun h_4=>(btb h_2 rfl))))))))) (fun h_2=>(bdt (fun h_3=>(btf h_1 (band hc (btf (Ad (Ddt (by have:=Odf h_1;have:=(okC hc).2.1;omega))) (bdt (fun h_4=>rfl) (fun h_4=>(bdt (fun h_5=>rfl) (fun h_5=>(btf h_2 (btb h_3 rfl)))))))))) (fun h_3=>(btf (Yc he h_1) (bdt (fun h_4=>(btf h_1 (btb hc (btf (Ad (Ddt (by have:=Odf h_1;have:=(okC hc).2.1;omega))) (bdt (fun h_5=>(band (Aw (Ddt (Ayh hc h_4))) rfl)) (fun h_5=>(btb (Ddt (by have:=no_v (.inr rfl) h_1 (Acu he h_1).1 h_2 (no_E hc h_4);have:=Odf h_5;omega)) (band (Aw (Ddt (Ayh hc h_4))) rfl)))))))) (fun h_4=>(btf h_1 (band hc (btf (Ad (Ddt (by have:=Odf h_1;have:=(okC hc).2.1;omega))) (btf (Ddf (by have:=Ayj (.inr rfl) (Ae9 hc h_4);omega)) (btf (Ddf (by have:=Ayj (.inr rfl) (Ae9 hc h_4);omega)) (btf h_2 (btf h_3 (btf (Yc he h_1) (band (A8 he (Ddt (Ae9 hc h_4))) (band (Aw (Aw (Ddt (Acv hc (Ae9 hc h_4)).1))) rfl))))))))))))))))))))))
theorem Bpq (c:Conf) (v t:Int) (he:decide (Az c=0)=true):(sp_sarr.has (Ht c v t)&&(Ai (cfg [Ia,Qq]) 400 86 [c.av,.int .i64 v,.int .i64 t] (fun w_=>(seT [seG [seI .u8,seI .i64,seI .u64,seI .u64,seI .u64,seI .u64,seI .u64,seI .u64,seI .u64,seI .u64],seI .i64]).eq (Ht c v t) w_) false))=true:=Gx (P:=fun v_=>sp_sarr.has v_&&(Ai (cfg [Ia,Qq]) 400 86 [c.av,.int .i64 v,.int .i64 t] (fun w_=>(seT [seG [seI .u8,seI .i64,seI .u64,seI .u64,seI .u64,seI .u64,seI .u64,seI .u64,seI .u64,seI .u64],seI .i64]).eq v_ w_) false)) (X:=Ht c v t) (Bhk c v t he (BasZSign.okP he)) rfl
def Pn:Sum:=(86,on3 Dp (rI .i64) (rI .i64) (fun c _ _=>decide (Az c=0)) (fun c v t=>Ao7 c v t))
theorem Bhm:Bc Tryz.prog (Cb gs) Pn:=Hz fun c v t he=>Aq base (Ah Afz (Ah A9l Ap)) (n:=400) fun k hk=>by
 have q:=Bpq c v t he
 have e:Ao7 c v t=Ht c v t:=(Ayf c v t).symm.trans (sp_sarr.ok _ (Aj q)).symm
 rw [e] at hk
 exact (Dh (Af q) (fun w_ hw=>((seT [seG [seI .u8,seI .i64,seI .u64,seI .u64,seI .u64,seI .u64,seI .u64,seI .u64,seI .u64,seI .u64],seI .i64])).ok _ _ hw) k).trans hk
theorem Bpr (c:Conf) (v t:Int) (he:decide (Az c=0)=true):(sp_sdep.has (Hu c v t)&&(Ai (cfg [Ia,Qq]) 400 88 [c.av,.int .i64 v,.int .i64 t] (fun w_=>(seT [seG [seI .u8,seI .i64,seI .u64,seI .u64,seI .u64,seI .u64,seI .u64,seI .u64,seI .u64,seI .u64],seI .i64]).eq (Hu c v t) w_) false))=true:=Gx (P:=fun v_=>sp_sdep.has v_&&(Ai (cfg [Ia,Qq]) 400 88 [c.av,.int .i64 v,.int .i64 t] (fun w_=>(seT [seG [seI .u8,seI .i64,seI .u64,seI .u64,seI .u64,seI .u64,seI .u64,seI .u64,seI .u64,seI .u64],seI .i64]).eq v_ w_) false)) (X:=Hu c v t) (Bhl c v t he (BasZSign.okP he)) rfl
def Po:Sum:=(88,on3 Dp (rI .i64) (rI .i64) (fun c _ _=>decide (Az c=0)) (fun c v t=>Ao8 c v t))
theorem Bhn:Bc Tryz.prog (Cb gs) Po:=Hz fun c v t he=>Aq base (Ah Afz (Ah A9l Ap)) (n:=400) fun k hk=>by
 have q:=Bpr c v t he
 have e:Ao8 c v t=Hu c v t:=(Ayg c v t).symm.trans (sp_sdep.ok _ (Aj q)).symm
 rw [e] at hk
 exact (Dh (Af q) (fun w_ hw=>((seT [seG [seI .u8,seI .i64,seI .u64,seI .u64,seI .u64,seI .u64,seI .u64,seI .u64,seI .u64,seI .u64],seI .i64])).ok _ _ hw) k).trans hk
end
end Go.Bas.BasZR21
end
