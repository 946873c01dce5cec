/- The document's program of an index: its acts are the program's, whatever the levels. -/
import Derived.Test.YtjepofcbkojibaaGreatDoorBasW10
set_option maxRecDepth 100000
set_option maxHeartbeats 4000000
set_option linter.unusedVariables false
set_option linter.unusedSimpArgs false
namespace Go.Bas.BasZR13s
noncomputable section
open Go.RowKit Go.Proofs
open BasZBase BasZOk BasZRank BasZRank3 BasZLev BasZR3 BasZEnd2 BasZTreB BasZTre BasZR13c
def qLt (m:Nat) (q:Int):Bool:=decide (0<=q)&&decide (q<(m:Int))
structure HS (c:Conf) (n h:Int):Prop where
 hv:Ey (lvL c.cap c.node) (lvN c.cap c.node)=true
 h8:qOk (lvN c.cap c.node) h=true
 h0:qOk (lvN c.cap c.node) 0=true
 ew:IntKind.wrap .i64 h=h
 hl:levIs c.cap c.node (lvN c.cap c.node)=true
 hq:qLt (lvN c.cap c.node) (IntKind.wrap .i64 h)=true
 hz:qLt (lvN c.cap c.node) 0=true
 hN:itR (IntKind.wrap .i64 n) c.node (IntKind.wrap .i64 h)=true
 hC:Dz (IntKind.wrap .i64 n) c.node (IntKind.wrap .i64 h)=Aa (IntKind.wrap .i64 n) c.node (IntKind.wrap .i64 h)
structure HN (c:Conf) (i n h:Int):Prop where
 h9:qOk (lvN c.cap c.node) (IntKind.wrap .u8 (h-1))=true
 e9:IntKind.wrap .u8 (h-1)=IntKind.wrap .i64 (IntKind.wrap .i64 h-1)
 hq:qLt (lvN c.cap c.node) (IntKind.wrap .i64 (IntKind.wrap .i64 h-1))=true
 hE:endOk (IntKind.wrap .i64 n) c.node (IntKind.wrap .i64 h) (IntKind.wrap .i64 i)=true
 h1:P9 (IntKind.wrap .i64 n) c.node (IntKind.wrap .i64 h) (IntKind.wrap .i64 i)=0
theorem Av6 {m:Nat} {q:Int} (h0:0<=q) (h1:q<(m:Int)):qLt m q=true:=by
 unfold qLt
 rw [Ddt h0,Ddt h1]
 rfl
theorem Acj {c:Conf} (hw:Bf c.cap 1 c.node=true):∀ k:Int,(decide (0<=k)&&decide (k<=4))=true->itR c.cap c.node k=true:=fun k hk=>by
 obtain ⟨a0,a1,b0,b1⟩:=Gg hw
 simp only [Bae,Dte] at hk
 exact Hr.2 ⟨⟨by omega,a1⟩,⟨b0,b1⟩,hk⟩
def Af8:Sum:=(219,on3 Dp (rI .i64) (rI .i64) (fun c q _=>levIs c.cap c.node (lvN c.cap c.node)&&qLt (lvN c.cap c.node) q) (fun c q i=>.int .i64 (offT (lvL c.cap c.node) (lvN c.cap c.node) q i)))
def Axv:Sum:=(219,on3 Dp (rI .i64) (rI .i64) (fun c q i=>(levIs c.cap c.node 1&&(decide (0<=q)&&decide (q<1)))) (fun c q i=>.int .i64 (offT [.int .i64 (Aa c.cap c.node 0)] 1 q i)))
abbrev Aa9 (c:Conf):Prop:=∀ k:Int,(decide (0<=k)&&decide (k<=4))=true->itR c.cap c.node k=true
abbrev A1o (c:Conf):=Aa (c).cap (c).node 0
abbrev Aba (i:Int):=decide (i<0)
abbrev Iu:=true
abbrev zdh3 (c:Conf) (i:Int):Bool:=br (Aba i) Iu (br (decide (i>=(Aa c.7 c.8 0))) Iu (ba (decide ((IntKind.wrap .i64 (1+i))=(-1))) Iu))
abbrev A71 (c:Conf):=BasZR3.itR c.7 c.8 0
abbrev Bng (c:Conf) (i:Int):Bool:=br (Aba i) (zdh3 c i) (ba (A71 c) (br (decide (i>=(Aa c.7 c.8 0))) (zdh3 c i) (br (Aba i) (ba (decide ((-1)=(IntKind.wrap .i64 (1+i)))) Iu) (br (decide (i>=(Aa c.7 c.8 0))) (ba (decide ((-1)=(IntKind.wrap .i64 (1+i)))) Iu) (ba (decide ((IntKind.wrap .i64 (1+i))=(IntKind.wrap .i64 (1+i)))) Iu)))))
theorem A1p (c:Conf) (i:Int) (hl:levIs c.cap c.node 1=true) (hI:Aa9 c):Ai (cfg [Gh,Aia]) 400 219 [c.av,.int .i64 0,.int .i64 i] (fun w_=>Tr.ev (Et [.int .i64 (A1o c)] 1 (0) (i)) (fun l_=>(seI .i64).eq ((fun l_=>lget l_ 0) l_) w_) false) false=true:=Eq.trans (b:=(ba (BasZLev.levIs c.7 c.8 1) (Bng c i))) (by kernel_rfl) (band hl (bdt (fun h_1=>(btb h_1 rfl)) (fun h_1=>(band (hI 0 rfl) (bdt (fun h_2=>(btf h_1 (btb h_2 rfl))) (fun h_2=>(btf h_1 (btf h_2 (band (Ddt rfl) rfl)))))))))
abbrev Beu (c:Conf):=Aa c.cap c.node 0
theorem A1q (c:Conf) (q:Int) (i:Int) (h:(levIs c.cap c.node 1&&(decide (0<=q)&&decide (q<1)))=true):Ai (cfg [Gh,Aia]) 400 219 [c.av,.int .i64 q,.int .i64 i] (fun w_=>Tr.ev (Et [.int .i64 (Beu c)] 1 q i) (fun l_=>(seI .i64).eq ((fun l_=>lget l_ 0) l_) w_) false) false=true:=by
 have hl:=Aj h
 have h0:=Odt (Aj (Af h))
 have h1:=Odt (Af (Af h))
 have hI:=Acj (Bi hl)
 rcases (show q=0 by omega) with rfl
 ·exact A1p c i hl hI
theorem Bet:Bc Tryz.prog (Cb gs) Axv:=Hz fun c q i h=>Aq base (Ah S9 (Ah A7g Ap)) (n:=400) fun k hk=>(Dh (A1q c q i h) (fun w_ hw=>((seI .i64).ok _ _ ((Tr.merge (U6 [.int .i64 (Aa c.cap c.node 0)] 1 q i) (Zj [.int .i64 (Aa c.cap c.node 0)] 1 q i)).symm.trans hw))) k).trans hk
def Axw:Sum:=(219,on3 Dp (rI .i64) (rI .i64) (fun c q i=>(levIs c.cap c.node 2&&(decide (0<=q)&&decide (q<2)))) (fun c q i=>.int .i64 (offT [.int .i64 (Aa c.cap c.node 0),.int .i64 (Aa c.cap c.node 1)] 2 q i)))
abbrev Bnh (c:Conf):=Aa (c).cap (c).node 1
section
variable (c:Conf) (i:Int)
theorem A1r (hl:levIs c.cap c.node 2=true) (hI:Aa9 c):Ai (cfg [Gh,Ady]) 400 219 [c.av,.int .i64 0,.int .i64 i] (fun w_=>Tr.ev (Et [.int .i64 (A1o c),.int .i64 (Bnh c)] 2 (0) (i)) (fun l_=>(seI .i64).eq ((fun l_=>lget l_ 0) l_) w_) false) false=true:=Eq.trans (b:=(ba (BasZLev.levIs c.7 c.8 2) (Bng c i))) (by kernel_rfl) (band hl (bdt (fun h_1=>(btb h_1 rfl)) (fun h_1=>(band (hI 0 rfl) (bdt (fun h_2=>(btf h_1 (btb h_2 rfl))) (fun h_2=>(btf h_1 (btf h_2 (band (Ddt rfl) rfl)))))))))
abbrev zdh8:Bool:=br (Aba i) Iu (br (decide (i>=(Aa c.7 c.8 1))) Iu (ba (decide ((IntKind.wrap .i64 ((IntKind.wrap .i64 (1+(Aa c.7 c.8 0)))+i))=(-1))) Iu))
abbrev zdh9:Bool:=ba (decide ((-1)=(IntKind.wrap .i64 ((IntKind.wrap .i64 (1+(Aa c.7 c.8 0)))+i)))) Iu
abbrev A72:Bool:=br (Aba i) (zdh8 c i) (ba (BasZR3.itR c.7 c.8 1) (br (decide (i>=(Aa c.7 c.8 1))) (zdh8 c i) (ba (A71 c) (br (Aba i) (zdh9 c i) (br (decide (i>=(Aa c.7 c.8 1))) (zdh9 c i) (ba (decide ((IntKind.wrap .i64 ((IntKind.wrap .i64 (1+(Aa c.7 c.8 0)))+i))=(IntKind.wrap .i64 ((IntKind.wrap .i64 (1+(Aa c.7 c.8 0)))+i)))) Iu))))))
theorem A1s (hl:levIs c.cap c.node 2=true) (hI:Aa9 c):Ai (cfg [Gh,Ady]) 400 219 [c.av,.int .i64 1,.int .i64 i] (fun w_=>Tr.ev (Et [.int .i64 (A1o c),.int .i64 (Bnh c)] 2 (1) (i)) (fun l_=>(seI .i64).eq ((fun l_=>lget l_ 0) l_) w_) false) false=true:=Eq.trans (b:=(ba (BasZLev.levIs c.7 c.8 2) (A72 c i))) (by kernel_rfl) (band hl (bdt (fun h_1=>(btb h_1 rfl)) (fun h_1=>(band (hI 1 rfl) (bdt (fun h_2=>(btf h_1 (btb h_2 rfl))) (fun h_2=>(band (hI 0 rfl) (btf h_1 (btf h_2 (band (Ddt rfl) rfl))))))))))
end
theorem A1t (c:Conf) (q:Int) (i:Int) (h:(levIs c.cap c.node 2&&(decide (0<=q)&&decide (q<2)))=true):Ai (cfg [Gh,Ady]) 400 219 [c.av,.int .i64 q,.int .i64 i] (fun w_=>Tr.ev (Et [.int .i64 (Beu c),.int .i64 (Aa c.cap c.node 1)] 2 q i) (fun l_=>(seI .i64).eq ((fun l_=>lget l_ 0) l_) w_) false) false=true:=by
 have hl:=Aj h
 have h0:=Odt (Aj (Af h))
 have h1:=Odt (Af (Af h))
 have hI:=Acj (Bi hl)
 rcases (show q=0\/q=1 by omega) with rfl|rfl
 ·exact A1r c i hl hI
 ·exact A1s c i hl hI
theorem Bev:Bc Tryz.prog (Cb gs) Axw:=Hz fun c q i h=>Aq base (Ah S9 (Ah A7h Ap)) (n:=400) fun k hk=>(Dh (A1t c q i h) (fun w_ hw=>((seI .i64).ok _ _ ((Tr.merge (U6 [.int .i64 (Aa c.cap c.node 0),.int .i64 (Aa c.cap c.node 1)] 2 q i) (Zj [.int .i64 (Aa c.cap c.node 0),.int .i64 (Aa c.cap c.node 1)] 2 q i)).symm.trans hw))) k).trans hk
def Axx:Sum:=(219,on3 Dp (rI .i64) (rI .i64) (fun c q i=>(levIs c.cap c.node 3&&(decide (0<=q)&&decide (q<3)))) (fun c q i=>.int .i64 (offT [.int .i64 (Aa c.cap c.node 0),.int .i64 (Aa c.cap c.node 1),.int .i64 (Aa c.cap c.node 2)] 3 q i)))
abbrev Asb:=cfg [Gh,Aa7]
section
variable (c:Conf)
abbrev Axz:List AV:=[.int .i64 (A1o c),.int .i64 (Bnh c),.int .i64 (Aa (c).cap (c).node 2)]
theorem A1u (i:Int) (hl:levIs c.cap c.node 3=true) (hI:Aa9 c):Ai Asb 400 219 [c.av,.int .i64 0,.int .i64 i] (fun w_=>Tr.ev (Et (Axz c) 3 (0) (i)) (fun l_=>(seI .i64).eq ((fun l_=>lget l_ 0) l_) w_) false) false=true:=Eq.trans (b:=(ba (BasZLev.levIs c.7 c.8 3) (Bng c i))) (by kernel_rfl) (band hl (bdt (fun h_1=>(btb h_1 rfl)) (fun h_1=>(band (hI 0 rfl) (bdt (fun h_2=>(btf h_1 (btb h_2 rfl))) (fun h_2=>(btf h_1 (btf h_2 (band (Ddt rfl) rfl)))))))))
theorem A1v (i:Int) (hl:levIs c.cap c.node 3=true) (hI:Aa9 c):Ai Asb 400 219 [c.av,.int .i64 1,.int .i64 i] (fun w_=>Tr.ev (Et (Axz c) 3 (1) (i)) (fun l_=>(seI .i64).eq ((fun l_=>lget l_ 0) l_) w_) false) false=true:=Eq.trans (b:=(ba (BasZLev.levIs c.7 c.8 3) (A72 c i))) (by kernel_rfl) (band hl (bdt (fun h_1=>(btb h_1 rfl)) (fun h_1=>(band (hI 1 rfl) (bdt (fun h_2=>(btf h_1 (btb h_2 rfl))) (fun h_2=>(band (hI 0 rfl) (btf h_1 (btf h_2 (band (Ddt rfl) rfl))))))))))
abbrev Bju (i:Int):Bool:=br (Aba i) Iu (br (decide (i>=(Aa c.7 c.8 2))) Iu (ba (decide ((IntKind.wrap .i64 ((IntKind.wrap .i64 ((IntKind.wrap .i64 (1+(Aa c.7 c.8 0)))+(Aa c.7 c.8 1)))+i))=(-1))) Iu))
abbrev Bjv (i:Int):Bool:=ba (decide ((-1)=(IntKind.wrap .i64 ((IntKind.wrap .i64 ((IntKind.wrap .i64 (1+(Aa c.7 c.8 0)))+(Aa c.7 c.8 1)))+i)))) Iu
abbrev Bjw (i:Int):Bool:=br (Aba i) (Bju c i) (ba (BasZR3.itR c.7 c.8 2) (br (decide (i>=(Aa c.7 c.8 2))) (Bju c i) (ba (A71 c) (ba (BasZR3.itR c.7 c.8 1) (br (Aba i) (Bjv c i) (br (decide (i>=(Aa c.7 c.8 2))) (Bjv c i) (ba (decide ((IntKind.wrap .i64 ((IntKind.wrap .i64 ((IntKind.wrap .i64 (1+(Aa c.7 c.8 0)))+(Aa c.7 c.8 1)))+i))=(IntKind.wrap .i64 ((IntKind.wrap .i64 ((IntKind.wrap .i64 (1+(Aa c.7 c.8 0)))+(Aa c.7 c.8 1)))+i)))) Iu)))))))
theorem A1w (i:Int) (hl:levIs c.cap c.node 3=true) (hI:Aa9 c):Ai Asb 400 219 [c.av,.int .i64 2,.int .i64 i] (fun w_=>Tr.ev (Et (Axz c) 3 (2) (i)) (fun l_=>(seI .i64).eq ((fun l_=>lget l_ 0) l_) w_) false) false=true:=Eq.trans (b:=(ba (BasZLev.levIs c.7 c.8 3) (Bjw c i))) (by kernel_rfl) (band hl (bdt (fun h_1=>(btb h_1 rfl)) (fun h_1=>(band (hI 2 rfl) (bdt (fun h_2=>(btf h_1 (btb h_2 rfl))) (fun h_2=>(band (hI 0 rfl) (band (hI 1 rfl) (btf h_1 (btf h_2 (band (Ddt rfl) rfl)))))))))))
end
theorem A1x (c:Conf) (q:Int) (i:Int) (h:(levIs c.cap c.node 3&&(decide (0<=q)&&decide (q<3)))=true):Ai Asb 400 219 [c.av,.int .i64 q,.int .i64 i] (fun w_=>Tr.ev (Et [.int .i64 (Beu c),.int .i64 (Aa c.cap c.node 1),.int .i64 (Aa c.cap c.node 2)] 3 q i) (fun l_=>(seI .i64).eq ((fun l_=>lget l_ 0) l_) w_) false) false=true:=by
 have hl:=Aj h
 have h0:=Odt (Aj (Af h))
 have h1:=Odt (Af (Af h))
 have hI:=Acj (Bi hl)
 rcases (show q=0\/q=1\/q=2 by omega) with rfl|rfl|rfl
 ·exact A1u c i hl hI
 ·exact A1v c i hl hI
 ·exact A1w c i hl hI
theorem Bew:Bc Tryz.prog (Cb gs) Axx:=Hz fun c q i h=>Aq base (Ah S9 (Ah A7i Ap)) (n:=400) fun k hk=>(Dh (A1x c q i h) (fun w_ hw=>((seI .i64).ok _ _ ((Tr.merge (U6 [.int .i64 (Aa c.cap c.node 0),.int .i64 (Aa c.cap c.node 1),.int .i64 (Aa c.cap c.node 2)] 3 q i) (Zj [.int .i64 (Aa c.cap c.node 0),.int .i64 (Aa c.cap c.node 1),.int .i64 (Aa c.cap c.node 2)] 3 q i)).symm.trans hw))) k).trans hk
def Axy:Sum:=(219,on3 Dp (rI .i64) (rI .i64) (fun c q i=>(levIs c.cap c.node 4&&(decide (0<=q)&&decide (q<4)))) (fun c q i=>.int .i64 (offT [.int .i64 (Aa c.cap c.node 0),.int .i64 (Aa c.cap c.node 1),.int .i64 (Aa c.cap c.node 2),.int .i64 (Aa c.cap c.node 3)] 4 q i)))
abbrev Al3:=cfg [Gh,Aod]
section
variable (c:Conf)
abbrev Asd:List AV:=[.int .i64 (A1o c),.int .i64 (Bnh c),.int .i64 (Aa (c).cap (c).node 2),.int .i64 (Aa (c).cap (c).node 3)]
theorem A1y (i:Int) (hl:levIs c.cap c.node 4=true) (hI:Aa9 c):Ai Al3 400 219 [c.av,.int .i64 0,.int .i64 i] (fun w_=>Tr.ev (Et (Asd c) 4 (0) (i)) (fun l_=>(seI .i64).eq ((fun l_=>lget l_ 0) l_) w_) false) false=true:=Eq.trans (b:=(ba (BasZLev.levIs c.7 c.8 4) (Bng c i))) (by kernel_rfl) (band hl (bdt (fun h_1=>(btb h_1 rfl)) (fun h_1=>(band (hI 0 rfl) (bdt (fun h_2=>(btf h_1 (btb h_2 rfl))) (fun h_2=>(btf h_1 (btf h_2 (band (Ddt rfl) rfl)))))))))
theorem A1z (i:Int) (hl:levIs c.cap c.node 4=true) (hI:Aa9 c):Ai Al3 400 219 [c.av,.int .i64 1,.int .i64 i] (fun w_=>Tr.ev (Et (Asd c) 4 (1) (i)) (fun l_=>(seI .i64).eq ((fun l_=>lget l_ 0) l_) w_) false) false=true:=Eq.trans (b:=(ba (BasZLev.levIs c.7 c.8 4) (A72 c i))) (by kernel_rfl) (band hl (bdt (fun h_1=>(btb h_1 rfl)) (fun h_1=>(band (hI 1 rfl) (bdt (fun h_2=>(btf h_1 (btb h_2 rfl))) (fun h_2=>(band (hI 0 rfl) (btf h_1 (btf h_2 (band (Ddt rfl) rfl))))))))))
theorem A10 (i:Int) (hl:levIs c.cap c.node 4=true) (hI:Aa9 c):Ai Al3 400 219 [c.av,.int .i64 2,.int .i64 i] (fun w_=>Tr.ev (Et (Asd c) 4 (2) (i)) (fun l_=>(seI .i64).eq ((fun l_=>lget l_ 0) l_) w_) false) false=true:=Eq.trans (b:=(ba (BasZLev.levIs c.7 c.8 4) (Bjw c i))) (by kernel_rfl) (band hl (bdt (fun h_1=>(btb h_1 rfl)) (fun h_1=>(band (hI 2 rfl) (bdt (fun h_2=>(btf h_1 (btb h_2 rfl))) (fun h_2=>(band (hI 0 rfl) (band (hI 1 rfl) (btf h_1 (btf h_2 (band (Ddt rfl) rfl)))))))))))
abbrev Bjx (i:Int):Bool:=br (Aba i) Iu (br (decide (i>=(Aa c.7 c.8 3))) Iu (ba (decide ((IntKind.wrap .i64 ((IntKind.wrap .i64 ((IntKind.wrap .i64 ((IntKind.wrap .i64 (1+(Aa c.7 c.8 0)))+(Aa c.7 c.8 1)))+(Aa c.7 c.8 2)))+i))=(-1))) Iu))
abbrev Bjy (i:Int):Bool:=ba (decide ((-1)=(IntKind.wrap .i64 ((IntKind.wrap .i64 ((IntKind.wrap .i64 ((IntKind.wrap .i64 (1+(Aa c.7 c.8 0)))+(Aa c.7 c.8 1)))+(Aa c.7 c.8 2)))+i)))) Iu
abbrev Ku (i:Int):Bool:=br (Aba i) (Bjx c i) (ba (BasZR3.itR c.7 c.8 3) (br (decide (i>=(Aa c.7 c.8 3))) (Bjx c i) (ba (A71 c) (ba (BasZR3.itR c.7 c.8 1) (ba (BasZR3.itR c.7 c.8 2) (br (Aba i) (Bjy c i) (br (decide (i>=(Aa c.7 c.8 3))) (Bjy c i) (ba (decide ((IntKind.wrap .i64 ((IntKind.wrap .i64 ((IntKind.wrap .i64 ((IntKind.wrap .i64 (1+(Aa c.7 c.8 0)))+(Aa c.7 c.8 1)))+(Aa c.7 c.8 2)))+i))=(IntKind.wrap .i64 ((IntKind.wrap .i64 ((IntKind.wrap .i64 ((IntKind.wrap .i64 (1+(Aa c.7 c.8 0)))+(Aa c.7 c.8 1)))+(Aa c.7 c.8 2)))+i)))) Iu))))))))
theorem A11 (i:Int) (hl:levIs c.cap c.node 4=true) (hI:Aa9 c):Ai Al3 400 219 [c.av,.int .i64 3,.int .i64 i] (fun w_=>Tr.ev (Et (Asd c) 4 (3) (i)) (fun l_=>(seI .i64).eq ((fun l_=>lget l_ 0) l_) w_) false) false=true:=Eq.trans (b:=(ba (BasZLev.levIs c.7 c.8 4) (Ku c i))) (by kernel_rfl) (band hl (bdt (fun h_1=>(btb h_1 rfl)) (fun h_1=>(band (hI 3 rfl) (bdt (fun h_2=>(btf h_1 (btb h_2 rfl))) (fun h_2=>(band (hI 0 rfl) (band (hI 1 rfl) (band (hI 2 rfl) (btf h_1 (btf h_2 (band (Ddt rfl) rfl))))))))))))
end
theorem A12 (c:Conf) (q:Int) (i:Int) (h:(levIs c.cap c.node 4&&(decide (0<=q)&&decide (q<4)))=true):Ai Al3 400 219 [c.av,.int .i64 q,.int .i64 i] (fun w_=>Tr.ev (Et [.int .i64 (Beu c),.int .i64 (Aa c.cap c.node 1),.int .i64 (Aa c.cap c.node 2),.int .i64 (Aa c.cap c.node 3)] 4 q i) (fun l_=>(seI .i64).eq ((fun l_=>lget l_ 0) l_) w_) false) false=true:=by
 have hl:=Aj h
 have h0:=Odt (Aj (Af h))
 have h1:=Odt (Af (Af h))
 have hI:=Acj (Bi hl)
 rcases (show q=0\/q=1\/q=2\/q=3 by omega) with rfl|rfl|rfl|rfl
 ·exact A1y c i hl hI
 ·exact A1z c i hl hI
 ·exact A10 c i hl hI
 ·exact A11 c i hl hI
theorem Bex:Bc Tryz.prog (Cb gs) Axy:=Hz fun c q i h=>Aq base (Ah S9 (Ah A7j Ap)) (n:=400) fun k hk=>(Dh (A12 c q i h) (fun w_ hw=>((seI .i64).ok _ _ ((Tr.merge (U6 [.int .i64 (Aa c.cap c.node 0),.int .i64 (Aa c.cap c.node 1),.int .i64 (Aa c.cap c.node 2),.int .i64 (Aa c.cap c.node 3)] 4 q i) (Zj [.int .i64 (Aa c.cap c.node 0),.int .i64 (Aa c.cap c.node 1),.int .i64 (Aa c.cap c.node 2),.int .i64 (Aa c.cap c.node 3)] 4 q i)).symm.trans hw))) k).trans hk
def Ax0:Sum:=(219,on3 Dp (rI .i64) (rI .i64) (fun c q i=>(levIs c.cap c.node 5&&(decide (0<=q)&&decide (q<5)))) (fun c q i=>.int .i64 (offT [.int .i64 (Aa c.cap c.node 0),.int .i64 (Aa c.cap c.node 1),.int .i64 (Aa c.cap c.node 2),.int .i64 (Aa c.cap c.node 3),.int .i64 (Aa c.cap c.node 4)] 5 q i)))
abbrev Kv:=cfg [Gh,Aoe]
abbrev Gy (c:Conf):List AV:=[.int .i64 (A1o c),.int .i64 (Bnh c),.int .i64 (Aa (c).cap (c).node 2),.int .i64 (Aa (c).cap (c).node 3),.int .i64 (Aa (c).cap (c).node 4)]
abbrev A73 (c:Conf):=BasZLev.levIs c.7 c.8 5
section
variable (c:Conf) (i:Int)
theorem A13 (hl:levIs c.cap c.node 5=true) (hI:Aa9 c):Ai Kv 400 219 [c.av,.int .i64 0,.int .i64 i] (fun w_=>Tr.ev (Et (Gy c) 5 (0) (i)) (fun l_=>(seI .i64).eq ((fun l_=>lget l_ 0) l_) w_) false) false=true:=Eq.trans (b:=(ba (A73 c) (Bng c i))) (by kernel_rfl) (band hl (bdt (fun h_1=>(btb h_1 rfl)) (fun h_1=>(band (hI 0 rfl) (bdt (fun h_2=>(btf h_1 (btb h_2 rfl))) (fun h_2=>(btf h_1 (btf h_2 (band (Ddt rfl) rfl)))))))))
theorem A14 (hl:levIs c.cap c.node 5=true) (hI:Aa9 c):Ai Kv 400 219 [c.av,.int .i64 1,.int .i64 i] (fun w_=>Tr.ev (Et (Gy c) 5 (1) (i)) (fun l_=>(seI .i64).eq ((fun l_=>lget l_ 0) l_) w_) false) false=true:=Eq.trans (b:=(ba (A73 c) (A72 c i))) (by kernel_rfl) (band hl (bdt (fun h_1=>(btb h_1 rfl)) (fun h_1=>(band (hI 1 rfl) (bdt (fun h_2=>(btf h_1 (btb h_2 rfl))) (fun h_2=>(band (hI 0 rfl) (btf h_1 (btf h_2 (band (Ddt rfl) rfl))))))))))
theorem A15 (hl:levIs c.cap c.node 5=true) (hI:Aa9 c):Ai Kv 400 219 [c.av,.int .i64 2,.int .i64 i] (fun w_=>Tr.ev (Et (Gy c) 5 (2) (i)) (fun l_=>(seI .i64).eq ((fun l_=>lget l_ 0) l_) w_) false) false=true:=Eq.trans (b:=(ba (A73 c) (Bjw c i))) (by kernel_rfl) (band hl (bdt (fun h_1=>(btb h_1 rfl)) (fun h_1=>(band (hI 2 rfl) (bdt (fun h_2=>(btf h_1 (btb h_2 rfl))) (fun h_2=>(band (hI 0 rfl) (band (hI 1 rfl) (btf h_1 (btf h_2 (band (Ddt rfl) rfl)))))))))))
theorem A16 (hl:levIs c.cap c.node 5=true) (hI:Aa9 c):Ai Kv 400 219 [c.av,.int .i64 3,.int .i64 i] (fun w_=>Tr.ev (Et (Gy c) 5 (3) (i)) (fun l_=>(seI .i64).eq ((fun l_=>lget l_ 0) l_) w_) false) false=true:=Eq.trans (b:=(ba (A73 c) (Ku c i))) (by kernel_rfl) (band hl (bdt (fun h_1=>(btb h_1 rfl)) (fun h_1=>(band (hI 3 rfl) (bdt (fun h_2=>(btf h_1 (btb h_2 rfl))) (fun h_2=>(band (hI 0 rfl) (band (hI 1 rfl) (band (hI 2 rfl) (btf h_1 (btf h_2 (band (Ddt rfl) rfl))))))))))))
abbrev A74:Bool:=br (Aba i) Iu (br (decide (i>=(Aa c.7 c.8 4))) Iu (ba (decide ((IntKind.wrap .i64 ((IntKind.wrap .i64 ((IntKind.wrap .i64 ((IntKind.wrap .i64 ((IntKind.wrap .i64 (1+(Aa c.7 c.8 0)))+(Aa c.7 c.8 1)))+(Aa c.7 c.8 2)))+(Aa c.7 c.8 3)))+i))=(-1))) Iu))
abbrev Bjz:Bool:=ba (decide ((-1)=(IntKind.wrap .i64 ((IntKind.wrap .i64 ((IntKind.wrap .i64 ((IntKind.wrap .i64 ((IntKind.wrap .i64 (1+(Aa c.7 c.8 0)))+(Aa c.7 c.8 1)))+(Aa c.7 c.8 2)))+(Aa c.7 c.8 3)))+i)))) Iu
theorem A17 (hl:levIs c.cap c.node 5=true) (hI:Aa9 c):Ai Kv 400 219 [c.av,.int .i64 4,.int .i64 i] (fun w_=>Tr.ev (Et (Gy c) 5 (4) (i)) (fun l_=>(seI .i64).eq ((fun l_=>lget l_ 0) l_) w_) false) false=true:=Eq.trans (b:=(ba (A73 c) (br (Aba i) (A74 c i) (ba (BasZR3.itR c.7 c.8 4) (br (decide (i>=(Aa c.7 c.8 4))) (A74 c i) (ba (A71 c) (ba (BasZR3.itR c.7 c.8 1) (ba (BasZR3.itR c.7 c.8 2) (ba (BasZR3.itR c.7 c.8 3) (br (Aba i) (Bjz c i) (br (decide (i>=(Aa c.7 c.8 4))) (Bjz c i) (ba (decide ((IntKind.wrap .i64 ((IntKind.wrap .i64 ((IntKind.wrap .i64 ((IntKind.wrap .i64 ((IntKind.wrap .i64 (1+(Aa c.7 c.8 0)))+(Aa c.7 c.8 1)))+(Aa c.7 c.8 2)))+(Aa c.7 c.8 3)))+i))=(IntKind.wrap .i64 ((IntKind.wrap .i64 ((IntKind.wrap .i64 ((IntKind.wrap .i64 ((IntKind.wrap .i64 (1+(Aa c.7 c.8 0)))+(Aa c.7 c.8 1)))+(Aa c.7 c.8 2)))+(Aa c.7 c.8 3)))+i)))) Iu)))))))))))) (by kernel_rfl) (band hl (bdt (fun h_1=>(btb h_1 rfl)) (fun h_1=>(band (hI 4 rfl) (bdt (fun h_2=>(btf h_1 (btb h_2 rfl))) (fun h_2=>(band (hI 0 rfl) (band (hI 1 rfl) (band (hI 2 rfl) (band (hI 3 rfl) (btf h_1 (btf h_2 (band (Ddt rfl) rfl)))))))))))))
end
theorem A18 (c:Conf) (q:Int) (i:Int) (h:(levIs c.cap c.node 5&&(decide (0<=q)&&decide (q<5)))=true):Ai Kv 400 219 [c.av,.int .i64 q,.int .i64 i] (fun w_=>Tr.ev (Et [.int .i64 (Beu c),.int .i64 (Aa c.cap c.node 1),.int .i64 (Aa c.cap c.node 2),.int .i64 (Aa c.cap c.node 3),.int .i64 (Aa c.cap c.node 4)] 5 q i) (fun l_=>(seI .i64).eq ((fun l_=>lget l_ 0) l_) w_) false) false=true:=by
 have hl:=Aj h
 have h0:=Odt (Aj (Af h))
 have h1:=Odt (Af (Af h))
 have hI:=Acj (Bi hl)
 rcases (show q=0\/q=1\/q=2\/q=3\/q=4 by omega) with rfl|rfl|rfl|rfl|rfl
 ·exact A13 c i hl hI
 ·exact A14 c i hl hI
 ·exact A15 c i hl hI
 ·exact A16 c i hl hI
 ·exact A17 c i hl hI
theorem Bey:Bc Tryz.prog (Cb gs) Ax0:=Hz fun c q i h=>Aq base (Ah S9 (Ah A7k Ap)) (n:=400) fun k hk=>(Dh (A18 c q i h) (fun w_ hw=>((seI .i64).ok _ _ ((Tr.merge (U6 [.int .i64 (Aa c.cap c.node 0),.int .i64 (Aa c.cap c.node 1),.int .i64 (Aa c.cap c.node 2),.int .i64 (Aa c.cap c.node 3),.int .i64 (Aa c.cap c.node 4)] 5 q i) (Zj [.int .i64 (Aa c.cap c.node 0),.int .i64 (Aa c.cap c.node 1),.int .i64 (Aa c.cap c.node 2),.int .i64 (Aa c.cap c.node 3),.int .i64 (Aa c.cap c.node 4)] 5 q i)).symm.trans hw))) k).trans hk
theorem Bez:Bc Tryz.prog (Cb gs) Af8:=Hz fun c q i h=>by
 have hb:=X3 (Bi (Aj h))
 rcases (show lvN c.cap c.node=1\/lvN c.cap c.node=2\/lvN c.cap c.node=3\/lvN c.cap c.node=4\/lvN c.cap c.node=5 by omega) with e|e|e|e|e
 ·have el:lvL c.cap c.node=[.int .i64 (Aa c.cap c.node 0)]:=by
   unfold lvL;rw [e];rfl
  rw [e] at h;rw [el,e]
  exact Bet [c.av,.int .i64 q,.int .i64 i] (.int .i64 (offT [.int .i64 (Aa c.cap c.node 0)] 1 q i)) ((show Axv.2 [c.av,.int .i64 q,.int .i64 i]=some ((levIs c.cap c.node 1&&(decide (0<=q)&&decide (q<1))),.int .i64 (offT [.int .i64 (Aa c.cap c.node 0)] 1 q i)) from by kernel_rfl).trans (by rw [show (levIs c.cap c.node 1&&(decide (0<=q)&&decide (q<1)))=true from h]))
 ·have el:lvL c.cap c.node=[.int .i64 (Aa c.cap c.node 0),.int .i64 (Aa c.cap c.node 1)]:=by
   unfold lvL;rw [e];rfl
  rw [e] at h;rw [el,e]
  exact Bev [c.av,.int .i64 q,.int .i64 i] (.int .i64 (offT [.int .i64 (Aa c.cap c.node 0),.int .i64 (Aa c.cap c.node 1)] 2 q i)) ((show Axw.2 [c.av,.int .i64 q,.int .i64 i]=some ((levIs c.cap c.node 2&&(decide (0<=q)&&decide (q<2))),.int .i64 (offT [.int .i64 (Aa c.cap c.node 0),.int .i64 (Aa c.cap c.node 1)] 2 q i)) from by kernel_rfl).trans (by rw [show (levIs c.cap c.node 2&&(decide (0<=q)&&decide (q<2)))=true from h]))
 ·have el:lvL c.cap c.node=[.int .i64 (Aa c.cap c.node 0),.int .i64 (Aa c.cap c.node 1),.int .i64 (Aa c.cap c.node 2)]:=by
   unfold lvL;rw [e];rfl
  rw [e] at h;rw [el,e]
  exact Bew [c.av,.int .i64 q,.int .i64 i] (.int .i64 (offT [.int .i64 (Aa c.cap c.node 0),.int .i64 (Aa c.cap c.node 1),.int .i64 (Aa c.cap c.node 2)] 3 q i)) ((show Axx.2 [c.av,.int .i64 q,.int .i64 i]=some ((levIs c.cap c.node 3&&(decide (0<=q)&&decide (q<3))),.int .i64 (offT [.int .i64 (Aa c.cap c.node 0),.int .i64 (Aa c.cap c.node 1),.int .i64 (Aa c.cap c.node 2)] 3 q i)) from by kernel_rfl).trans (by rw [show (levIs c.cap c.node 3&&(decide (0<=q)&&decide (q<3)))=true from h]))
 ·have el:lvL c.cap c.node=[.int .i64 (Aa c.cap c.node 0),.int .i64 (Aa c.cap c.node 1),.int .i64 (Aa c.cap c.node 2),.int .i64 (Aa c.cap c.node 3)]:=by
   unfold lvL;rw [e];rfl
  rw [e] at h;rw [el,e]
  exact Bex [c.av,.int .i64 q,.int .i64 i] (.int .i64 (offT [.int .i64 (Aa c.cap c.node 0),.int .i64 (Aa c.cap c.node 1),.int .i64 (Aa c.cap c.node 2),.int .i64 (Aa c.cap c.node 3)] 4 q i)) ((show Axy.2 [c.av,.int .i64 q,.int .i64 i]=some ((levIs c.cap c.node 4&&(decide (0<=q)&&decide (q<4))),.int .i64 (offT [.int .i64 (Aa c.cap c.node 0),.int .i64 (Aa c.cap c.node 1),.int .i64 (Aa c.cap c.node 2),.int .i64 (Aa c.cap c.node 3)] 4 q i)) from by kernel_rfl).trans (by rw [show (levIs c.cap c.node 4&&(decide (0<=q)&&decide (q<4)))=true from h]))
 ·have el:lvL c.cap c.node=[.int .i64 (Aa c.cap c.node 0),.int .i64 (Aa c.cap c.node 1),.int .i64 (Aa c.cap c.node 2),.int .i64 (Aa c.cap c.node 3),.int .i64 (Aa c.cap c.node 4)]:=by
   unfold lvL;rw [e];rfl
  rw [e] at h;rw [el,e]
  exact Bey [c.av,.int .i64 q,.int .i64 i] (.int .i64 (offT [.int .i64 (Aa c.cap c.node 0),.int .i64 (Aa c.cap c.node 1),.int .i64 (Aa c.cap c.node 2),.int .i64 (Aa c.cap c.node 3),.int .i64 (Aa c.cap c.node 4)] 5 q i)) ((show Ax0.2 [c.av,.int .i64 q,.int .i64 i]=some ((levIs c.cap c.node 5&&(decide (0<=q)&&decide (q<5))),.int .i64 (offT [.int .i64 (Aa c.cap c.node 0),.int .i64 (Aa c.cap c.node 1),.int .i64 (Aa c.cap c.node 2),.int .i64 (Aa c.cap c.node 3),.int .i64 (Aa c.cap c.node 4)] 5 q i)) from by kernel_rfl).trans (by rw [show (levIs c.cap c.node 5&&(decide (0<=q)&&decide (q<5)))=true from h]))
abbrev Ack:=cfg [J6,Ald,Al1]
abbrev Acl:=cfg [Gh,Aof,Af8]
theorem Bn1 (c:Conf) (kind a b i j n p h x y:Int) (H:HS c n h):Ai Ack 400 277 [(TRa.av (⟨(⟨kind,a,b,0,i,j,n,p,h,x,y⟩:Frm),c,lvL c.cap c.node,lvN c.cap c.node,0,0,false⟩:TRa))] (fun v=>sp_act.has v&&(Ai Acl 400 151 [c.av,(⟨kind,a,b,0,i,j,n,p,h,x,y⟩:Frm).av] (fun w_=>(seG [seI .u8,seI .i64,seI .u64,seI .u64,seI .u64,seI .i64,seI .u32]).eq v w_) false)) false=true:=Eq.trans (b:=true) (by kernel_rfl) rfl
abbrev A75 (c:Conf):=lvN c.7 c.8
abbrev Bj0 (c:Conf) (h:Int):=(Ey (lvL c.7 c.8) (A75 c))&&(BasZTre.qOk (A75 c) h)
abbrev Bj1 (c:Conf) (h:Int):=(BasZLev.levIs c.7 c.8 (A75 c))&&(BasZR13s.qLt (A75 c) (IntKind.wrap .i64 h))
abbrev Bqd (c:Conf) (h:Int) (i:Int):=decide ((BasZTre.offT (lvL c.7 c.8) (A75 c) h (IntKind.wrap .i64 i))=(BasZTre.offT (lvL c.7 c.8) (A75 c) (IntKind.wrap .i64 h) (IntKind.wrap .i64 i)))&&true
theorem Bn2 (c:Conf) (kind a b i j n p h x y:Int) (H:HS c n h):Ai Ack 400 277 [(TRa.av (⟨(⟨kind,a,b,1,i,j,n,p,h,x,y⟩:Frm),c,lvL c.cap c.node,lvN c.cap c.node,0,0,false⟩:TRa))] (fun v=>sp_act.has v&&(Ai Acl 400 151 [c.av,(⟨kind,a,b,1,i,j,n,p,h,x,y⟩:Frm).av] (fun w_=>(seG [seI .u8,seI .i64,seI .u64,seI .u64,seI .u64,seI .i64,seI .u32]).eq v w_) false)) false=true:=Eq.trans (b:=(ba (Bj0 c h) (ba (Bj1 c h) (ba (Bqd c h i) Iu)))) (by kernel_rfl) (band (G6 H.hv H.h8) (band (G6 H.hl H.hq) (band (Aw (Ddt (by rw [H.ew]))) rfl)))
abbrev Ae6 (c:Conf):=(Ey (lvL c.7 c.8) (A75 c))&&(BasZTre.qOk (A75 c) 0)
abbrev Ae7 (c:Conf):=(BasZLev.levIs c.7 c.8 (A75 c))&&(BasZR13s.qLt (A75 c) 0)
theorem Bn3 (c:Conf) (kind a b i j n p h x y:Int) (H:HS c n h):Ai Ack 400 277 [(TRa.av (⟨(⟨kind,a,b,3,i,j,n,p,h,x,y⟩:Frm),c,lvL c.cap c.node,lvN c.cap c.node,0,0,false⟩:TRa))] (fun v=>sp_act.has v&&(Ai Acl 400 151 [c.av,(⟨kind,a,b,3,i,j,n,p,h,x,y⟩:Frm).av] (fun w_=>(seG [seI .u8,seI .i64,seI .u64,seI .u64,seI .u64,seI .i64,seI .u32]).eq v w_) false)) false=true:=Eq.trans (b:=(ba (Ae6 c) (ba (Ae7 c) (ba (decide ((BasZTre.offT (lvL c.7 c.8) (A75 c) 0 (IntKind.wrap .i64 ((IntKind.wrap .i64 p)-1)))=(BasZTre.offT (lvL c.7 c.8) (A75 c) 0 (IntKind.wrap .i64 ((IntKind.wrap .i64 p)-1))))&&true) Iu)))) (by kernel_rfl) (band (G6 H.hv H.h0) (band (G6 H.hl H.hz) (band (Aw (Ddt rfl)) rfl)))
abbrev Bni (c:Conf) (p:Int):=decide ((BasZTre.offT (lvL c.7 c.8) (A75 c) 0 (IntKind.wrap .i64 p))=(BasZTre.offT (lvL c.7 c.8) (A75 c) 0 (IntKind.wrap .i64 p)))&&true
theorem Bn4 (c:Conf) (kind a b i j n p h x y:Int) (H:HS c n h):Ai Ack 400 277 [(TRa.av (⟨(⟨kind,a,b,4,i,j,n,p,h,x,y⟩:Frm),c,lvL c.cap c.node,lvN c.cap c.node,0,0,false⟩:TRa))] (fun v=>sp_act.has v&&(Ai Acl 400 151 [c.av,(⟨kind,a,b,4,i,j,n,p,h,x,y⟩:Frm).av] (fun w_=>(seG [seI .u8,seI .i64,seI .u64,seI .u64,seI .u64,seI .i64,seI .u32]).eq v w_) false)) false=true:=Eq.trans (b:=(ba (Ae6 c) (ba (Ae7 c) (ba (Bni c p) (ba (decide ((IntKind.wrap .u64 a)=(IntKind.wrap .u64 a))&&true) (ba (decide ((IntKind.wrap .u64 b)=(IntKind.wrap .u64 b))&&true) Iu)))))) (by kernel_rfl) (band (G6 H.hv H.h0) (band (G6 H.hl H.hz) (band (Aw (Ddt rfl)) (band (Aw (Ddt rfl)) (band (Aw (Ddt rfl)) rfl)))))
theorem Bn5 (c:Conf) (kind a b i j n p h x y:Int) (H:HS c n h):Ai Ack 400 277 [(TRa.av (⟨(⟨kind,a,b,5,i,j,n,p,h,x,y⟩:Frm),c,lvL c.cap c.node,lvN c.cap c.node,0,0,false⟩:TRa))] (fun v=>sp_act.has v&&(Ai Acl 400 151 [c.av,(⟨kind,a,b,5,i,j,n,p,h,x,y⟩:Frm).av] (fun w_=>(seG [seI .u8,seI .i64,seI .u64,seI .u64,seI .u64,seI .i64,seI .u32]).eq v w_) false)) false=true:=Eq.trans (b:=(ba (Ae6 c) (ba (Ae7 c) (ba (decide ((BasZTre.offT (lvL c.7 c.8) (A75 c) 0 (IntKind.wrap .i64 ((IntKind.wrap .i64 i)-1)))=(BasZTre.offT (lvL c.7 c.8) (A75 c) 0 (IntKind.wrap .i64 ((IntKind.wrap .i64 i)-1))))&&true) Iu)))) (by kernel_rfl) (band (G6 H.hv H.h0) (band (G6 H.hl H.hz) (band (Aw (Ddt rfl)) rfl)))
abbrev Bqe (c:Conf) (i:Int):=decide ((BasZTre.offT (lvL c.7 c.8) (A75 c) 0 (IntKind.wrap .i64 i))=(BasZTre.offT (lvL c.7 c.8) (A75 c) 0 (IntKind.wrap .i64 i)))&&true
abbrev Bqf (x:Int) (y:Int):Bool:=ba (decide ((IntKind.wrap .u64 x)=(IntKind.wrap .u64 x))&&true) (ba (decide ((IntKind.wrap .u64 y)=(IntKind.wrap .u64 y))&&true) Iu)
section
variable (c:Conf)
theorem Bn6 (kind a b i j n p h x y:Int) (H:HS c n h):Ai Ack 400 277 [(TRa.av (⟨(⟨kind,a,b,6,i,j,n,p,h,x,y⟩:Frm),c,lvL c.cap c.node,lvN c.cap c.node,0,0,false⟩:TRa))] (fun v=>sp_act.has v&&(Ai Acl 400 151 [c.av,(⟨kind,a,b,6,i,j,n,p,h,x,y⟩:Frm).av] (fun w_=>(seG [seI .u8,seI .i64,seI .u64,seI .u64,seI .u64,seI .i64,seI .u32]).eq v w_) false)) false=true:=Eq.trans (b:=(ba (Ae6 c) (ba (Ae7 c) (ba (Bqe c i) (Bqf x y))))) (by kernel_rfl) (band (G6 H.hv H.h0) (band (G6 H.hl H.hz) (band (Aw (Ddt rfl)) (band (Aw (Ddt rfl)) (band (Aw (Ddt rfl)) rfl)))))
theorem Bn7 (kind a b i j n p h x y:Int) (H:HS c n h):Ai Ack 400 277 [(TRa.av (⟨(⟨kind,a,b,7,i,j,n,p,h,x,y⟩:Frm),c,lvL c.cap c.node,lvN c.cap c.node,0,0,false⟩:TRa))] (fun v=>sp_act.has v&&(Ai Acl 400 151 [c.av,(⟨kind,a,b,7,i,j,n,p,h,x,y⟩:Frm).av] (fun w_=>(seG [seI .u8,seI .i64,seI .u64,seI .u64,seI .u64,seI .i64,seI .u32]).eq v w_) false)) false=true:=Eq.trans (b:=(ba (Ae6 c) (ba (Ae7 c) (ba (Bni c p) (ba (decide ((IntKind.wrap .u64 a)=(IntKind.wrap .u64 a))&&true) (ba (decide ((IntKind.wrap .u64 b)=(IntKind.wrap .u64 b))&&true) Iu)))))) (by kernel_rfl) (band (G6 H.hv H.h0) (band (G6 H.hl H.hz) (band (Aw (Ddt rfl)) (band (Aw (Ddt rfl)) (band (Aw (Ddt rfl)) rfl)))))
theorem Bn8 (kind a b i j n p h x y:Int) (H:HS c n h):Ai Ack 400 277 [(TRa.av (⟨(⟨kind,a,b,8,i,j,n,p,h,x,y⟩:Frm),c,lvL c.cap c.node,lvN c.cap c.node,0,0,false⟩:TRa))] (fun v=>sp_act.has v&&(Ai Acl 400 151 [c.av,(⟨kind,a,b,8,i,j,n,p,h,x,y⟩:Frm).av] (fun w_=>(seG [seI .u8,seI .i64,seI .u64,seI .u64,seI .u64,seI .i64,seI .u32]).eq v w_) false)) false=true:=Eq.trans (b:=(ba (decide ((IntKind.wrap .u64 n)=(IntKind.wrap .u64 n))&&true) Iu)) (by kernel_rfl) (band (Aw (Ddt rfl)) rfl)
theorem Bn9 (kind a b i j n p h x y:Int) (H:HS c n h) (K:HN c i n h):Ai Ack 400 277 [(TRa.av (⟨(⟨kind,a,b,9,i,j,n,p,h,x,y⟩:Frm),c,lvL c.cap c.node,lvN c.cap c.node,0,0,false⟩:TRa))] (fun v=>sp_act.has v&&(Ai Acl 400 151 [c.av,(⟨kind,a,b,9,i,j,n,p,h,x,y⟩:Frm).av] (fun w_=>(seG [seI .u8,seI .i64,seI .u64,seI .u64,seI .u64,seI .i64,seI .u32]).eq v w_) false)) false=true:=Eq.trans (b:=(br (!decide ((P9 (IntKind.wrap .i64 n) c.8 (IntKind.wrap .i64 h) (IntKind.wrap .i64 i))=0)) (ba ((Ey (lvL c.7 c.8) (A75 c))&&(BasZTre.qOk (A75 c) (IntKind.wrap .u8 (h-1)))) (ba (BasZEnd2.endOk (IntKind.wrap .i64 n) c.8 (IntKind.wrap .i64 h) (IntKind.wrap .i64 i)) (ba ((BasZLev.levIs c.7 c.8 (A75 c))&&(BasZR13s.qLt (A75 c) (IntKind.wrap .i64 ((IntKind.wrap .i64 h)-1)))) (ba (decide ((BasZTre.offT (lvL c.7 c.8) (A75 c) (IntKind.wrap .u8 (h-1)) (-1))=(BasZTre.offT (lvL c.7 c.8) (A75 c) (IntKind.wrap .i64 ((IntKind.wrap .i64 h)-1)) (P8 (IntKind.wrap .i64 n) c.8 (IntKind.wrap .i64 h) (IntKind.wrap .i64 i))))&&true) Iu)))) (ba ((Ey (lvL c.7 c.8) (A75 c))&&(BasZTre.qOk (A75 c) (IntKind.wrap .u8 (h-1)))) (ba (BasZEnd2.endOk (IntKind.wrap .i64 n) c.8 (IntKind.wrap .i64 h) (IntKind.wrap .i64 i)) (ba ((BasZLev.levIs c.7 c.8 (A75 c))&&(BasZR13s.qLt (A75 c) (IntKind.wrap .i64 ((IntKind.wrap .i64 h)-1)))) (ba (decide ((BasZTre.offT (lvL c.7 c.8) (A75 c) (IntKind.wrap .u8 (h-1)) (P8 (IntKind.wrap .i64 n) c.8 (IntKind.wrap .i64 h) (IntKind.wrap .i64 i)))=(BasZTre.offT (lvL c.7 c.8) (A75 c) (IntKind.wrap .i64 ((IntKind.wrap .i64 h)-1)) (P8 (IntKind.wrap .i64 n) c.8 (IntKind.wrap .i64 h) (IntKind.wrap .i64 i))))&&true) Iu)))))) (by kernel_rfl) (btf (Ad (Ddt K.h1)) (band (G6 H.hv K.h9) (band K.hE (band (G6 H.hl K.hq) (band (Aw (Ddt (by rw [K.e9]))) rfl)))))
theorem Be0 (kind a b i j n p h x y:Int) (H:HS c n h):Ai Ack 400 277 [(TRa.av (⟨(⟨kind,a,b,11,i,j,n,p,h,x,y⟩:Frm),c,lvL c.cap c.node,lvN c.cap c.node,0,0,false⟩:TRa))] (fun v=>sp_act.has v&&(Ai Acl 400 151 [c.av,(⟨kind,a,b,11,i,j,n,p,h,x,y⟩:Frm).av] (fun w_=>(seG [seI .u8,seI .i64,seI .u64,seI .u64,seI .u64,seI .i64,seI .u32]).eq v w_) false)) false=true:=Eq.trans (b:=(ba (Bj0 c h) (ba (Bj1 c h) (ba (Bqd c h i) (ba (decide ((IntKind.wrap .u64 x)=(IntKind.wrap .u64 x))&&true) Iu))))) (by kernel_rfl) (band (G6 H.hv H.h8) (band (G6 H.hl H.hq) (band (Aw (Ddt (by rw [H.ew]))) (band (Aw (Ddt rfl)) rfl))))
theorem Be1 (kind a b i j n p h x y:Int) (H:HS c n h):Ai Ack 400 277 [(TRa.av (⟨(⟨kind,a,b,12,i,j,n,p,h,x,y⟩:Frm),c,lvL c.cap c.node,lvN c.cap c.node,0,0,false⟩:TRa))] (fun v=>sp_act.has v&&(Ai Acl 400 151 [c.av,(⟨kind,a,b,12,i,j,n,p,h,x,y⟩:Frm).av] (fun w_=>(seG [seI .u8,seI .i64,seI .u64,seI .u64,seI .u64,seI .i64,seI .u32]).eq v w_) false)) false=true:=Eq.trans (b:=(ba (Bj0 c h) (ba (BasZR3.itR (IntKind.wrap .i64 n) c.8 (IntKind.wrap .i64 h)) (ba (Bj1 c h) (ba (decide ((BasZTre.offT (lvL c.7 c.8) (A75 c) h (Dz (IntKind.wrap .i64 n) c.8 (IntKind.wrap .i64 h)))=(BasZTre.offT (lvL c.7 c.8) (A75 c) (IntKind.wrap .i64 h) (Aa (IntKind.wrap .i64 n) c.8 (IntKind.wrap .i64 h))))&&true) Iu))))) (by kernel_rfl) (band (G6 H.hv H.h8) (band H.hN (band (G6 H.hl H.hq) (band (Aw (Ddt (by rw [H.hC,H.ew]))) rfl))))
theorem Be2 (kind a b i j n p h x y:Int) (H:HS c n h):Ai Ack 400 277 [(TRa.av (⟨(⟨kind,a,b,13,i,j,n,p,h,x,y⟩:Frm),c,lvL c.cap c.node,lvN c.cap c.node,0,0,false⟩:TRa))] (fun v=>sp_act.has v&&(Ai Acl 400 151 [c.av,(⟨kind,a,b,13,i,j,n,p,h,x,y⟩:Frm).av] (fun w_=>(seG [seI .u8,seI .i64,seI .u64,seI .u64,seI .u64,seI .i64,seI .u32]).eq v w_) false)) false=true:=Eq.trans (b:=(ba (Ae6 c) (ba (Ae7 c) (ba (Bqe c i) Iu)))) (by kernel_rfl) (band (G6 H.hv H.h0) (band (G6 H.hl H.hz) (band (Aw (Ddt rfl)) rfl)))
theorem Be3 (kind a b i j n p h x y:Int) (H:HS c n h):Ai Ack 400 277 [(TRa.av (⟨(⟨kind,a,b,14,i,j,n,p,h,x,y⟩:Frm),c,lvL c.cap c.node,lvN c.cap c.node,0,0,false⟩:TRa))] (fun v=>sp_act.has v&&(Ai Acl 400 151 [c.av,(⟨kind,a,b,14,i,j,n,p,h,x,y⟩:Frm).av] (fun w_=>(seG [seI .u8,seI .i64,seI .u64,seI .u64,seI .u64,seI .i64,seI .u32]).eq v w_) false)) false=true:=Eq.trans (b:=(ba (Ae6 c) (ba (Ae7 c) (ba (decide ((BasZTre.offT (lvL c.7 c.8) (A75 c) 0 (IntKind.wrap .i64 ((IntKind.wrap .i64 i)-1)))=(BasZTre.offT (lvL c.7 c.8) (A75 c) 0 (IntKind.wrap .i64 ((IntKind.wrap .i64 i)-1))))&&true) (Bqf x y))))) (by kernel_rfl) (band (G6 H.hv H.h0) (band (G6 H.hl H.hz) (band (Aw (Ddt rfl)) (band (Aw (Ddt rfl)) (band (Aw (Ddt rfl)) rfl)))))
theorem Be4 (kind a b i j n p h x y:Int) (H:HS c n h):Ai Ack 400 277 [(TRa.av (⟨(⟨kind,a,b,15,i,j,n,p,h,x,y⟩:Frm),c,lvL c.cap c.node,lvN c.cap c.node,0,0,false⟩:TRa))] (fun v=>sp_act.has v&&(Ai Acl 400 151 [c.av,(⟨kind,a,b,15,i,j,n,p,h,x,y⟩:Frm).av] (fun w_=>(seG [seI .u8,seI .i64,seI .u64,seI .u64,seI .u64,seI .i64,seI .u32]).eq v w_) false)) false=true:=Eq.trans (b:=(ba (Ae6 c) (ba (Ae7 c) (ba (decide ((BasZTre.offT (lvL c.7 c.8) (A75 c) 0 (IntKind.wrap .i64 ((IntKind.wrap .i64 n)-1)))=(BasZTre.offT (lvL c.7 c.8) (A75 c) 0 (IntKind.wrap .i64 ((IntKind.wrap .i64 n)-1))))&&true) Iu)))) (by kernel_rfl) (band (G6 H.hv H.h0) (band (G6 H.hl H.hz) (band (Aw (Ddt rfl)) rfl)))
theorem Be5 (kind a b i j n p h x y:Int) (H:HS c n h):Ai Ack 400 277 [(TRa.av (⟨(⟨kind,a,b,16,i,j,n,p,h,x,y⟩:Frm),c,lvL c.cap c.node,lvN c.cap c.node,0,0,false⟩:TRa))] (fun v=>sp_act.has v&&(Ai Acl 400 151 [c.av,(⟨kind,a,b,16,i,j,n,p,h,x,y⟩:Frm).av] (fun w_=>(seG [seI .u8,seI .i64,seI .u64,seI .u64,seI .u64,seI .i64,seI .u32]).eq v w_) false)) false=true:=Eq.trans (b:=true) (by kernel_rfl) rfl
theorem Be6 (kind a b i j n p h x y:Int) (H:HS c n h):Ai Ack 400 277 [(TRa.av (⟨(⟨kind,a,b,17,i,j,n,p,h,x,y⟩:Frm),c,lvL c.cap c.node,lvN c.cap c.node,0,0,false⟩:TRa))] (fun v=>sp_act.has v&&(Ai Acl 400 151 [c.av,(⟨kind,a,b,17,i,j,n,p,h,x,y⟩:Frm).av] (fun w_=>(seG [seI .u8,seI .i64,seI .u64,seI .u64,seI .u64,seI .i64,seI .u32]).eq v w_) false)) false=true:=Eq.trans (b:=(ba (Ae6 c) (ba (Ae7 c) (ba (Bni c p) Iu)))) (by kernel_rfl) (band (G6 H.hv H.h0) (band (G6 H.hl H.hz) (band (Aw (Ddt rfl)) rfl)))
theorem Be7 (kind a b i j n p h x y:Int) (H:HS c n h):Ai Ack 400 277 [(TRa.av (⟨(⟨kind,a,b,20,i,j,n,p,h,x,y⟩:Frm),c,lvL c.cap c.node,lvN c.cap c.node,0,0,false⟩:TRa))] (fun v=>sp_act.has v&&(Ai Acl 400 151 [c.av,(⟨kind,a,b,20,i,j,n,p,h,x,y⟩:Frm).av] (fun w_=>(seG [seI .u8,seI .i64,seI .u64,seI .u64,seI .u64,seI .i64,seI .u32]).eq v w_) false)) false=true:=Eq.trans (b:=true) (by kernel_rfl) rfl
theorem Be8 (kind a b i j n p h x y:Int) (H:HS c n h):Ai Ack 400 277 [(TRa.av (⟨(⟨kind,a,b,21,i,j,n,p,h,x,y⟩:Frm),c,lvL c.cap c.node,lvN c.cap c.node,0,0,false⟩:TRa))] (fun v=>sp_act.has v&&(Ai Acl 400 151 [c.av,(⟨kind,a,b,21,i,j,n,p,h,x,y⟩:Frm).av] (fun w_=>(seG [seI .u8,seI .i64,seI .u64,seI .u64,seI .u64,seI .i64,seI .u32]).eq v w_) false)) false=true:=Eq.trans (b:=true) (by kernel_rfl) rfl
theorem Be9 (kind a b i j n p h x y:Int) (H:HS c n h):Ai Ack 400 277 [(TRa.av (⟨(⟨kind,a,b,22,i,j,n,p,h,x,y⟩:Frm),c,lvL c.cap c.node,lvN c.cap c.node,0,0,false⟩:TRa))] (fun v=>sp_act.has v&&(Ai Acl 400 151 [c.av,(⟨kind,a,b,22,i,j,n,p,h,x,y⟩:Frm).av] (fun w_=>(seG [seI .u8,seI .i64,seI .u64,seI .u64,seI .u64,seI .i64,seI .u32]).eq v w_) false)) false=true:=Eq.trans (b:=true) (by kernel_rfl) rfl
theorem Bfa (kind a b i j n p h x y:Int) (H:HS c n h):Ai Ack 400 277 [(TRa.av (⟨(⟨kind,a,b,23,i,j,n,p,h,x,y⟩:Frm),c,lvL c.cap c.node,lvN c.cap c.node,0,0,false⟩:TRa))] (fun v=>sp_act.has v&&(Ai Acl 400 151 [c.av,(⟨kind,a,b,23,i,j,n,p,h,x,y⟩:Frm).av] (fun w_=>(seG [seI .u8,seI .i64,seI .u64,seI .u64,seI .u64,seI .i64,seI .u32]).eq v w_) false)) false=true:=Eq.trans (b:=(ba (decide ((IntKind.wrap .u32 (y+1))=(IntKind.wrap .u32 (y+1)))&&true) Iu)) (by kernel_rfl) (band (Aw (Ddt rfl)) rfl)
theorem Bfb (kind a b i j n p h x y:Int) (H:HS c n h):Ai Ack 400 277 [(TRa.av (⟨(⟨kind,a,b,24,i,j,n,p,h,x,y⟩:Frm),c,lvL c.cap c.node,lvN c.cap c.node,0,0,false⟩:TRa))] (fun v=>sp_act.has v&&(Ai Acl 400 151 [c.av,(⟨kind,a,b,24,i,j,n,p,h,x,y⟩:Frm).av] (fun w_=>(seG [seI .u8,seI .i64,seI .u64,seI .u64,seI .u64,seI .i64,seI .u32]).eq v w_) false)) false=true:=Eq.trans (b:=true) (by kernel_rfl) rfl
theorem Bfc (kind a b i j n p h x y:Int) (H:HS c n h):Ai Ack 400 277 [(TRa.av (⟨(⟨kind,a,b,25,i,j,n,p,h,x,y⟩:Frm),c,lvL c.cap c.node,lvN c.cap c.node,0,0,false⟩:TRa))] (fun v=>sp_act.has v&&(Ai Acl 400 151 [c.av,(⟨kind,a,b,25,i,j,n,p,h,x,y⟩:Frm).av] (fun w_=>(seG [seI .u8,seI .i64,seI .u64,seI .u64,seI .u64,seI .i64,seI .u32]).eq v w_) false)) false=true:=Eq.trans (b:=(ba (decide (b=b)&&true) Iu)) (by kernel_rfl) (band (Aw (Ddt rfl)) rfl)
def qst (f:Frm) (v:AV):Bool:=sp_act.has v&&(Ai (cfg [Gh,Aof,Af8]) 400 151 [c.av,f.av] (fun w_=>(seG [seI .u8,seI .i64,seI .u64,seI .u64,seI .u64,seI .i64,seI .u32]).eq v w_) false)
end
theorem stp (c:Conf) (f:Frm) (h:preS (lvN c.cap c.node) c f=true):qst c f (Ld (⟨f,c,lvL c.cap c.node,lvN c.cap c.node,0,0,false⟩:TRa))=true:=by
 obtain ⟨hl,hp,hin,hI,hN,h0,hh,h9,h11,hC⟩:=Bes h
 have hb:=X3 (Bi hl)
 have ew:IntKind.wrap .i64 f.h=f.h:=Du h0 (by omega)
 have hk:(decide (0<=f.h)&&decide (f.h<=4))=true:=by
  rw [Ddt h0,Ddt (show f.h<=4 by omega)]
  rfl
 have H:HS c f.n f.h:=⟨H6 (Bi hl),Adz h0 hh,Adz (Int.le_refl 0) (by omega),ew,hl,by rw [ew];exact Av6 h0 hh,Av6 (Int.le_refl 0) (by omega),by rw [ew];exact hN f.h hk,by rw [ew];exact hC f.h hk⟩
 have K:f.pc=9->HN c f.i f.n f.h:=fun q=>by
  obtain ⟨q1,q2,q3⟩:=h9 q;have e1:IntKind.wrap .i64 (f.h-1)=f.h-1:=Du (by omega) (by omega)
  refine ⟨A7p h0 hh (by omega),?_,?_,by rw [ew];exact q2,by rw [ew];exact q3⟩
  ·rw [ew,e1]
   exact Uc (by simp [Lit.wf,IntKind.min,IntKind.max,IntKind.signed,IntKind.bits];omega)
  ·rw [ew,e1]
   exact Av6 (by omega) (by omega)
 obtain ⟨kind,a,b,pc,i,j,n,p,hq,x,y⟩:=f
 have hin:inPc pc=true:=hin
 have H:HS c n hq:=H
 rcases Auw hin with rfl|rfl|rfl|rfl|rfl|rfl|rfl|rfl|rfl|rfl|rfl|rfl|rfl|rfl|rfl|rfl|rfl|rfl|rfl|rfl|rfl|rfl
 ·exact Gx (P:=qst c _) (Bn1 c kind a b i j n p hq x y H) rfl
 ·exact Gx (P:=qst c _) (Bn2 c kind a b i j n p hq x y H) rfl
 ·exact Gx (P:=qst c _) (Bn3 c kind a b i j n p hq x y H) rfl
 ·exact Gx (P:=qst c _) (Bn4 c kind a b i j n p hq x y H) rfl
 ·exact Gx (P:=qst c _) (Bn5 c kind a b i j n p hq x y H) rfl
 ·exact Gx (P:=qst c _) (Bn6 c kind a b i j n p hq x y H) rfl
 ·exact Gx (P:=qst c _) (Bn7 c kind a b i j n p hq x y H) rfl
 ·exact Gx (P:=qst c _) (Bn8 c kind a b i j n p hq x y H) rfl
 ·exact Gx (P:=qst c _) (Bn9 c kind a b i j n p hq x y H (K rfl)) rfl
 ·exact Gx (P:=qst c _) (Be0 c kind a b i j n p hq x y H) rfl
 ·exact Gx (P:=qst c _) (Be1 c kind a b i j n p hq x y H) rfl
 ·exact Gx (P:=qst c _) (Be2 c kind a b i j n p hq x y H) rfl
 ·exact Gx (P:=qst c _) (Be3 c kind a b i j n p hq x y H) rfl
 ·exact Gx (P:=qst c _) (Be4 c kind a b i j n p hq x y H) rfl
 ·exact Gx (P:=qst c _) (Be5 c kind a b i j n p hq x y H) rfl
 ·exact Gx (P:=qst c _) (Be6 c kind a b i j n p hq x y H) rfl
 ·exact Gx (P:=qst c _) (Be7 c kind a b i j n p hq x y H) rfl
 ·exact Gx (P:=qst c _) (Be8 c kind a b i j n p hq x y H) rfl
 ·exact Gx (P:=qst c _) (Be9 c kind a b i j n p hq x y H) rfl
 ·exact Gx (P:=qst c _) (Bfa c kind a b i j n p hq x y H) rfl
 ·exact Gx (P:=qst c _) (Bfb c kind a b i j n p hq x y H) rfl
 ·exact Gx (P:=qst c _) (Bfc c kind a b i j n p hq x y H) rfl
def Aae:Sum:=(151,on2 Dp Ji (fun c f=>preS (lvN c.cap c.node) c f) (fun c f=>Aex (⟨f,c,lvL c.cap c.node,lvN c.cap c.node,0,0,false⟩:TRa)))
theorem Bj2:Bc Tryz.prog (Cb gs) Aae:=Cm fun c f h=>Aq base (Ah S9 (Ah Bnt (Ah Bez Ap))) (n:=400) fun k hk=>by
 have q:(sp_act.has (Ld (⟨f,c,lvL c.cap c.node,lvN c.cap c.node,0,0,false⟩:TRa))&&(Ai (cfg [Gh,Aof,Af8]) 400 151 [c.av,f.av] (fun w_=>(seG [seI .u8,seI .i64,seI .u64,seI .u64,seI .u64,seI .i64,seI .u32]).eq (Ld (⟨f,c,lvL c.cap c.node,lvN c.cap c.node,0,0,false⟩:TRa)) w_) false))=true:=stp c f h
 have e:Aex (⟨f,c,lvL c.cap c.node,lvN c.cap c.node,0,0,false⟩:TRa)=Ld (⟨f,c,lvL c.cap c.node,lvN c.cap c.node,0,0,false⟩:TRa):=(A7q _).symm.trans (sp_act.ok _ (Aj q)).symm
 rw [e] at hk
 exact (Dh (Af q) (fun w_ hw=>((seG [seI .u8,seI .i64,seI .u64,seI .u64,seI .u64,seI .i64,seI .u32])).ok _ _ hw) k).trans hk
end
end Go.Bas.BasZR13s
