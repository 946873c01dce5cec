/- The document's program of an index: its acts are the program's, whatever the levels. -/
import Derived.Test.YtjepofcbkojibaaGreatDoorBasW10
set_option maxRecDepth 100000
set_option maxHeartbeats 4000000
set_option linter.unusedVariables false
set_option linter.unusedSimpArgs false
namespace Go.Bas.BasZR13s
noncomputable section
open Go.RowKit Go.Proofs
open BasZBase BasZOk BasZRank BasZRank3 BasZLev BasZR3 BasZEnd2 BasZTreB BasZTre BasZR13c
def qLt (m:Nat) (q:Int):Bool:=decide (0<=q)&&decide (q<(m:Int))
structure HS (c:Conf) (n h:Int):Prop where
 hv:Ey (lvL c.cap c.node) (lvN c.cap c.node)=true
 h8:qOk (lvN c.cap c.node) h=true
 h0:qOk (lvN c.cap c.node) 0=true
 ew:IntKind.wrap .i64 h=h
 hl:levIs c.cap c.node (lvN c.cap c.node)=true
 hq:qLt (lvN c.cap c.node) (IntKind.wrap .i64 h)=true
 hz:qLt (lvN c.cap c.node) 0=true
 hN:itR (IntKind.wrap .i64 n) c.node (IntKind.wrap .i64 h)=true
 hC:Dz (IntKind.wrap .i64 n) c.node (IntKind.wrap .i64 h)=Aa (IntKind.wrap .i64 n) c.node (IntKind.wrap .i64 h)
structure HN (c:Conf) (i n h:Int):Prop where
 h9:qOk (lvN c.cap c.node) (IntKind.wrap .u8 (h-1))=true
 e9:IntKind.wrap .u8 (h-1)=IntKind.wrap .i64 (IntKind.wrap .i64 h-1)
 hq:qLt (lvN c.cap c.node) (IntKind.wrap .i64 (IntKind.wrap .i64 h-1))=true
 hE:endOk (IntKind.wrap .i64 n) c.node (IntKind.wrap .i64 h) (IntKind.wrap .i64 i)=true
 h1:P9 (IntKind.wrap .i64 n) c.node (IntKind.wrap .i64 h) (IntKind.wrap .i64 i)=0
theorem Av6 {m:Nat} {q:Int} (h0:0<=q) (h1:q<(m:Int)):qLt m q=true:=by
 unfold qLt
 rw [Ddt h0,Ddt h1]
 rfl
theorem Acj {c:Conf} (hw:Bf c.cap 1 c.node=true):∀ k:Int,(decide (0<=k)&&decide (k<=4))=true->itR c.cap c.node k=true:=fun k hk=>by
 obtain ⟨a0,a1,b0,b1⟩:=Gg hw
 simp only [Bae,Dte] at hk
 exact Hr.2 ⟨⟨by omega,a1⟩,⟨b0,b1⟩,hk⟩
def Af8:Sum:=(219,on3 Dp (rI .i64) (rI .i64) (fun c q _=>levIs c.cap c.node (lvN c.cap c.node)&&qLt (lvN c.cap c.node) q) (fun c q i=>.int .i64 (offT (lvL c.cap c.node) (lvN c.cap c.node) q i)))
def Axv:Sum:=(219,on3 Dp (rI .i64) (rI .i64) (fun c q i=>(levIs c.cap c.node 1&&(decide (0<=q)&&decide (q<1)))) (fun c q i=>.int .i64 (offT [.int .i64 (Aa c.cap c.node 0)] 1 q i)))
abbrev Bs1 (c:Conf):Prop:=∀ k:Int,(decide (0<=k)&&decide (k<=4))=true->itR c.cap c.node k=true
abbrev By3 (c:Conf):=Aa (c).cap (c).node 0
abbrev Bs2 (i:Int):=decide (i<0)
abbrev Boa:=true
abbrev zcy3 (c:Conf) (i:Int):Bool:=br (Bs2 i) Boa (br (decide (i>=(Aa c.7 c.8 0))) Boa (ba (decide ((IntKind.wrap .i64 (1+i))=(-1))) Boa))
abbrev B0i (c:Conf):=BasZR3.itR c.7 c.8 0
abbrev B0j (c:Conf) (i:Int):Bool:=br (Bs2 i) (zcy3 c i) (ba (B0i c) (br (decide (i>=(Aa c.7 c.8 0))) (zcy3 c i) (br (Bs2 i) (ba (decide ((-1)=(IntKind.wrap .i64 (1+i)))) Boa) (br (decide (i>=(Aa c.7 c.8 0))) (ba (decide ((-1)=(IntKind.wrap .i64 (1+i)))) Boa) (ba (decide ((IntKind.wrap .i64 (1+i))=(IntKind.wrap .i64 (1+i)))) Boa)))))
theorem A1p (c:Conf) (i:Int) (hl:levIs c.cap c.node 1=true) (hI:Bs1 c):Ai (cfg [Gh,Aia]) 400 219 [c.av,.int .i64 0,.int .i64 i] (fun w_=>Tr.ev (Et [.int .i64 (By3 c)] 1 (0) (i)) (fun l_=>(seI .i64).eq ((fun l_=>lget l_ 0) l_) w_) false) false=true:=Eq.trans (b:=(ba (BasZLev.levIs c.7 c.8 1) (B0j c i))) (by kernel_rfl) (band hl (bdt (fun h_1=>(btb h_1 rfl)) (fun h_1=>(band (hI 0 rfl) (bdt (fun h_2=>(btf h_1 (btb h_2 rfl))) (fun h_2=>(btf h_1 (btf h_2 (band (Ddt rfl) rfl)))))))))
abbrev B0k (c:Conf):=Aa c.cap c.node 0
theorem A1q (c:Conf) (q:Int) (i:Int) (h:(levIs c.cap c.node 1&&(decide (0<=q)&&decide (q<1)))=true):Ai (cfg [Gh,Aia]) 400 219 [c.av,.int .i64 q,.int .i64 i] (fun w_=>Tr.ev (Et [.int .i64 (B0k c)] 1 q i) (fun l_=>(seI .i64).eq ((fun l_=>lget l_ 0) l_) w_) false) false=true:=by
 have hl:=Aj h
 have h0:=Odt (Aj (Af h))
 have h1:=Odt (Af (Af h))
 have hI:=Acj (Bi hl)
 rcases (show q=0 by omega) with rfl
 ·exact A1p c i hl hI
theorem Bet:Bc Tryz.prog (Cb gs) Axv:=Hz fun c q i h=>Aq base (Ah S9 (Ah A7g Ap)) (n:=400) fun k hk=>(Dh (A1q c q i h) (fun w_ hw=>((seI .i64).ok _ _ ((Tr.merge (U6 [.int .i64 (Aa c.cap c.node 0)] 1 q i) (Zj [.int .i64 (Aa c.cap c.node 0)] 1 q i)).symm.trans hw))) k).trans hk
def Axw:Sum:=(219,on3 Dp (rI .i64) (rI .i64) (fun c q i=>(levIs c.cap c.node 2&&(decide (0<=q)&&decide (q<2)))) (fun c q i=>.int .i64 (offT [.int .i64 (Aa c.cap c.node 0),.int .i64 (Aa c.cap c.node 1)] 2 q i)))
abbrev B0l (c:Conf):=Aa (c).cap (c).node 1
section
variable (c:Conf) (i:Int)
theorem A1r (hl:levIs c.cap c.node 2=true) (hI:Bs1 c):Ai (cfg [Gh,Ady]) 400 219 [c.av,.int .i64 0,.int .i64 i] (fun w_=>Tr.ev (Et [.int .i64 (By3 c),.int .i64 (B0l c)] 2 (0) (i)) (fun l_=>(seI .i64).eq ((fun l_=>lget l_ 0) l_) w_) false) false=true:=Eq.trans (b:=(ba (BasZLev.levIs c.7 c.8 2) (B0j c i))) (by kernel_rfl) (band hl (bdt (fun h_1=>(btb h_1 rfl)) (fun h_1=>(band (hI 0 rfl) (bdt (fun h_2=>(btf h_1 (btb h_2 rfl))) (fun h_2=>(btf h_1 (btf h_2 (band (Ddt rfl) rfl)))))))))
abbrev zcy8:Bool:=br (Bs2 i) Boa (br (decide (i>=(Aa c.7 c.8 1))) Boa (ba (decide ((IntKind.wrap .i64 ((IntKind.wrap .i64 (1+(Aa c.7 c.8 0)))+i))=(-1))) Boa))
abbrev zcy9:Bool:=ba (decide ((-1)=(IntKind.wrap .i64 ((IntKind.wrap .i64 (1+(Aa c.7 c.8 0)))+i)))) Boa
abbrev Bx9:Bool:=br (Bs2 i) (zcy8 c i) (ba (BasZR3.itR c.7 c.8 1) (br (decide (i>=(Aa c.7 c.8 1))) (zcy8 c i) (ba (B0i c) (br (Bs2 i) (zcy9 c i) (br (decide (i>=(Aa c.7 c.8 1))) (zcy9 c i) (ba (decide ((IntKind.wrap .i64 ((IntKind.wrap .i64 (1+(Aa c.7 c.8 0)))+i))=(IntKind.wrap .i64 ((IntKind.wrap .i64 (1+(Aa c.7 c.8 0)))+i)))) Boa))))))
theorem A1s (hl:levIs c.cap c.node 2=true) (hI:Bs1 c):Ai (cfg [Gh,Ady]) 400 219 [c.av,.int .i64 1,.int .i64 i] (fun w_=>Tr.ev (Et [.int .i64 (By3 c),.int .i64 (B0l c)] 2 (1) (i)) (fun l_=>(seI .i64).eq ((fun l_=>lget l_ 0) l_) w_) false) false=true:=Eq.trans (b:=(ba (BasZLev.levIs c.7 c.8 2) (Bx9 c i))) (by kernel_rfl) (band hl (bdt (fun h_1=>(btb h_1 rfl)) (fun h_1=>(band (hI 1 rfl) (bdt (fun h_2=>(btf h_1 (btb h_2 rfl))) (fun h_2=>(band (hI 0 rfl) (btf h_1 (btf h_2 (band (Ddt rfl) rfl))))))))))
end
theorem A1t (c:Conf) (q:Int) (i:Int) (h:(levIs c.cap c.node 2&&(decide (0<=q)&&decide (q<2)))=true):Ai (cfg [Gh,Ady]) 400 219 [c.av,.int .i64 q,.int .i64 i] (fun w_=>Tr.ev (Et [.int .i64 (B0k c),.int .i64 (Aa c.cap c.node 1)] 2 q i) (fun l_=>(seI .i64).eq ((fun l_=>lget l_ 0) l_) w_) false) false=true:=by
 have hl:=Aj h
 have h0:=Odt (Aj (Af h))
 have h1:=Odt (Af (Af h))
 have hI:=Acj (Bi hl)
 rcases (show q=0\/q=1 by omega) with rfl|rfl
 ·exact A1r c i hl hI
 ·exact A1s c i hl hI
theorem Bev:Bc Tryz.prog (Cb gs) Axw:=Hz fun c q i h=>Aq base (Ah S9 (Ah A7h Ap)) (n:=400) fun k hk=>(Dh (A1t c q i h) (fun w_ hw=>((seI .i64).ok _ _ ((Tr.merge (U6 [.int .i64 (Aa c.cap c.node 0),.int .i64 (Aa c.cap c.node 1)] 2 q i) (Zj [.int .i64 (Aa c.cap c.node 0),.int .i64 (Aa c.cap c.node 1)] 2 q i)).symm.trans hw))) k).trans hk
def Axx:Sum:=(219,on3 Dp (rI .i64) (rI .i64) (fun c q i=>(levIs c.cap c.node 3&&(decide (0<=q)&&decide (q<3)))) (fun c q i=>.int .i64 (offT [.int .i64 (Aa c.cap c.node 0),.int .i64 (Aa c.cap c.node 1),.int .i64 (Aa c.cap c.node 2)] 3 q i)))
abbrev Bya:=cfg [Gh,Aa7]
section
variable (c:Conf)
abbrev B0m:List AV:=[.int .i64 (By3 c),.int .i64 (B0l c),.int .i64 (Aa (c).cap (c).node 2)]
theorem A1u (i:Int) (hl:levIs c.cap c.node 3=true) (hI:Bs1 c):Ai Bya 400 219 [c.av,.int .i64 0,.int .i64 i] (fun w_=>Tr.ev (Et (B0m c) 3 (0) (i)) (fun l_=>(seI .i64).eq ((fun l_=>lget l_ 0) l_) w_) false) false=true:=Eq.trans (b:=(ba (BasZLev.levIs c.7 c.8 3) (B0j c i))) (by kernel_rfl) (band hl (bdt (fun h_1=>(btb h_1 rfl)) (fun h_1=>(band (hI 0 rfl) (bdt (fun h_2=>(btf h_1 (btb h_2 rfl))) (fun h_2=>(btf h_1 (btf h_2 (band (Ddt rfl) rfl)))))))))
theorem A1v (i:Int) (hl:levIs c.cap c.node 3=true) (hI:Bs1 c):Ai Bya 400 219 [c.av,.int .i64 1,.int .i64 i] (fun w_=>Tr.ev (Et (B0m c) 3 (1) (i)) (fun l_=>(seI .i64).eq ((fun l_=>lget l_ 0) l_) w_) false) false=true:=Eq.trans (b:=(ba (BasZLev.levIs c.7 c.8 3) (Bx9 c i))) (by kernel_rfl) (band hl (bdt (fun h_1=>(btb h_1 rfl)) (fun h_1=>(band (hI 1 rfl) (bdt (fun h_2=>(btf h_1 (btb h_2 rfl))) (fun h_2=>(band (hI 0 rfl) (btf h_1 (btf h_2 (band (Ddt rfl) rfl))))))))))
abbrev B24 (i:Int):Bool:=br (Bs2 i) Boa (br (decide (i>=(Aa c.7 c.8 2))) Boa (ba (decide ((IntKind.wrap .i64 ((IntKind.wrap .i64 ((IntKind.wrap .i64 (1+(Aa c.7 c.8 0)))+(Aa c.7 c.8 1)))+i))=(-1))) Boa))
abbrev B25 (i:Int):Bool:=ba (decide ((-1)=(IntKind.wrap .i64 ((IntKind.wrap .i64 ((IntKind.wrap .i64 (1+(Aa c.7 c.8 0)))+(Aa c.7 c.8 1)))+i)))) Boa
abbrev B0n (i:Int):Bool:=br (Bs2 i) (B24 c i) (ba (BasZR3.itR c.7 c.8 2) (br (decide (i>=(Aa c.7 c.8 2))) (B24 c i) (ba (B0i c) (ba (BasZR3.itR c.7 c.8 1) (br (Bs2 i) (B25 c i) (br (decide (i>=(Aa c.7 c.8 2))) (B25 c i) (ba (decide ((IntKind.wrap .i64 ((IntKind.wrap .i64 ((IntKind.wrap .i64 (1+(Aa c.7 c.8 0)))+(Aa c.7 c.8 1)))+i))=(IntKind.wrap .i64 ((IntKind.wrap .i64 ((IntKind.wrap .i64 (1+(Aa c.7 c.8 0)))+(Aa c.7 c.8 1)))+i)))) Boa)))))))
theorem A1w (i:Int) (hl:levIs c.cap c.node 3=true) (hI:Bs1 c):Ai Bya 400 219 [c.av,.int .i64 2,.int .i64 i] (fun w_=>Tr.ev (Et (B0m c) 3 (2) (i)) (fun l_=>(seI .i64).eq ((fun l_=>lget l_ 0) l_) w_) false) false=true:=Eq.trans (b:=(ba (BasZLev.levIs c.7 c.8 3) (B0n c i))) (by kernel_rfl) (band hl (bdt (fun h_1=>(btb h_1 rfl)) (fun h_1=>(band (hI 2 rfl) (bdt (fun h_2=>(btf h_1 (btb h_2 rfl))) (fun h_2=>(band (hI 0 rfl) (band (hI 1 rfl) (btf h_1 (btf h_2 (band (Ddt rfl) rfl)))))))))))
end
theorem A1x (c:Conf) (q:Int) (i:Int) (h:(levIs c.cap c.node 3&&(decide (0<=q)&&decide (q<3)))=true):Ai Bya 400 219 [c.av,.int .i64 q,.int .i64 i] (fun w_=>Tr.ev (Et [.int .i64 (B0k c),.int .i64 (Aa c.cap c.node 1),.int .i64 (Aa c.cap c.node 2)] 3 q i) (fun l_=>(seI .i64).eq ((fun l_=>lget l_ 0) l_) w_) false) false=true:=by
 have hl:=Aj h
 have h0:=Odt (Aj (Af h))
 have h1:=Odt (Af (Af h))
 have hI:=Acj (Bi hl)
 rcases (show q=0\/q=1\/q=2 by omega) with rfl|rfl|rfl
 ·exact A1u c i hl hI
 ·exact A1v c i hl hI
 ·exact A1w c i hl hI
theorem Bew:Bc Tryz.prog (Cb gs) Axx:=Hz fun c q i h=>Aq base (Ah S9 (Ah A7i Ap)) (n:=400) fun k hk=>(Dh (A1x c q i h) (fun w_ hw=>((seI .i64).ok _ _ ((Tr.merge (U6 [.int .i64 (Aa c.cap c.node 0),.int .i64 (Aa c.cap c.node 1),.int .i64 (Aa c.cap c.node 2)] 3 q i) (Zj [.int .i64 (Aa c.cap c.node 0),.int .i64 (Aa c.cap c.node 1),.int .i64 (Aa c.cap c.node 2)] 3 q i)).symm.trans hw))) k).trans hk
def Axy:Sum:=(219,on3 Dp (rI .i64) (rI .i64) (fun c q i=>(levIs c.cap c.node 4&&(decide (0<=q)&&decide (q<4)))) (fun c q i=>.int .i64 (offT [.int .i64 (Aa c.cap c.node 0),.int .i64 (Aa c.cap c.node 1),.int .i64 (Aa c.cap c.node 2),.int .i64 (Aa c.cap c.node 3)] 4 q i)))
abbrev Bwp:=cfg [Gh,Aod]
section
variable (c:Conf)
abbrev Byb:List AV:=[.int .i64 (By3 c),.int .i64 (B0l c),.int .i64 (Aa (c).cap (c).node 2),.int .i64 (Aa (c).cap (c).node 3)]
theorem A1y (i:Int) (hl:levIs c.cap c.node 4=true) (hI:Bs1 c):Ai Bwp 400 219 [c.av,.int .i64 0,.int .i64 i] (fun w_=>Tr.ev (Et (Byb c) 4 (0) (i)) (fun l_=>(seI .i64).eq ((fun l_=>lget l_ 0) l_) w_) false) false=true:=Eq.trans (b:=(ba (BasZLev.levIs c.7 c.8 4) (B0j c i))) (by kernel_rfl) (band hl (bdt (fun h_1=>(btb h_1 rfl)) (fun h_1=>(band (hI 0 rfl) (bdt (fun h_2=>(btf h_1 (btb h_2 rfl))) (fun h_2=>(btf h_1 (btf h_2 (band (Ddt rfl) rfl)))))))))
theorem A1z (i:Int) (hl:levIs c.cap c.node 4=true) (hI:Bs1 c):Ai Bwp 400 219 [c.av,.int .i64 1,.int .i64 i] (fun w_=>Tr.ev (Et (Byb c) 4 (1) (i)) (fun l_=>(seI .i64).eq ((fun l_=>lget l_ 0) l_) w_) false) false=true:=Eq.trans (b:=(ba (BasZLev.levIs c.7 c.8 4) (Bx9 c i))) (by kernel_rfl) (band hl (bdt (fun h_1=>(btb h_1 rfl)) (fun h_1=>(band (hI 1 rfl) (bdt (fun h_2=>(btf h_1 (btb h_2 rfl))) (fun h_2=>(band (hI 0 rfl) (btf h_1 (btf h_2 (band (Ddt rfl) rfl))))))))))
theorem A10 (i:Int) (hl:levIs c.cap c.node 4=true) (hI:Bs1 c):Ai Bwp 400 219 [c.av,.int .i64 2,.int .i64 i] (fun w_=>Tr.ev (Et (Byb c) 4 (2) (i)) (fun l_=>(seI .i64).eq ((fun l_=>lget l_ 0) l_) w_) false) false=true:=Eq.trans (b:=(ba (BasZLev.levIs c.7 c.8 4) (B0n c i))) (by kernel_rfl) (band hl (bdt (fun h_1=>(btb h_1 rfl)) (fun h_1=>(band (hI 2 rfl) (bdt (fun h_2=>(btf h_1 (btb h_2 rfl))) (fun h_2=>(band (hI 0 rfl) (band (hI 1 rfl) (btf h_1 (btf h_2 (band (Ddt rfl) rfl)))))))))))
abbrev B26 (i:Int):Bool:=br (Bs2 i) Boa (br (decide (i>=(Aa c.7 c.8 3))) Boa (ba (decide ((IntKind.wrap .i64 ((IntKind.wrap .i64 ((IntKind.wrap .i64 ((IntKind.wrap .i64 (1+(Aa c.7 c.8 0)))+(Aa c.7 c.8 1)))+(Aa c.7 c.8 2)))+i))=(-1))) Boa))
abbrev B27 (i:Int):Bool:=ba (decide ((-1)=(IntKind.wrap .i64 ((IntKind.wrap .i64 ((IntKind.wrap .i64 ((IntKind.wrap .i64 (1+(Aa c.7 c.8 0)))+(Aa c.7 c.8 1)))+(Aa c.7 c.8 2)))+i)))) Boa
abbrev B28 (i:Int):Bool:=br (Bs2 i) (B26 c i) (ba (BasZR3.itR c.7 c.8 3) (br (decide (i>=(Aa c.7 c.8 3))) (B26 c i) (ba (B0i c) (ba (BasZR3.itR c.7 c.8 1) (ba (BasZR3.itR c.7 c.8 2) (br (Bs2 i) (B27 c i) (br (decide (i>=(Aa c.7 c.8 3))) (B27 c i) (ba (decide ((IntKind.wrap .i64 ((IntKind.wrap .i64 ((IntKind.wrap .i64 ((IntKind.wrap .i64 (1+(Aa c.7 c.8 0)))+(Aa c.7 c.8 1)))+(Aa c.7 c.8 2)))+i))=(IntKind.wrap .i64 ((IntKind.wrap .i64 ((IntKind.wrap .i64 ((IntKind.wrap .i64 (1+(Aa c.7 c.8 0)))+(Aa c.7 c.8 1)))+(Aa c.7 c.8 2)))+i)))) Boa))))))))
theorem A11 (i:Int) (hl:levIs c.cap c.node 4=true) (hI:Bs1 c):Ai Bwp 400 219 [c.av,.int .i64 3,.int .i64 i] (fun w_=>Tr.ev (Et (Byb c) 4 (3) (i)) (fun l_=>(seI .i64).eq ((fun l_=>lget l_ 0) l_) w_) false) false=true:=Eq.trans (b:=(ba (BasZLev.levIs c.7 c.8 4) (B28 c i))) (by kernel_rfl) (band hl (bdt (fun h_1=>(btb h_1 rfl)) (fun h_1=>(band (hI 3 rfl) (bdt (fun h_2=>(btf h_1 (btb h_2 rfl))) (fun h_2=>(band (hI 0 rfl) (band (hI 1 rfl) (band (hI 2 rfl) (btf h_1 (btf h_2 (band (Ddt rfl) rfl))))))))))))
end
theorem A12 (c:Conf) (q:Int) (i:Int) (h:(levIs c.cap c.node 4&&(decide (0<=q)&&decide (q<4)))=true):Ai Bwp 400 219 [c.av,.int .i64 q,.int .i64 i] (fun w_=>Tr.ev (Et [.int .i64 (B0k c),.int .i64 (Aa c.cap c.node 1),.int .i64 (Aa c.cap c.node 2),.int .i64 (Aa c.cap c.node 3)] 4 q i) (fun l_=>(seI .i64).eq ((fun l_=>lget l_ 0) l_) w_) false) false=true:=by
 have hl:=Aj h
 have h0:=Odt (Aj (Af h))
 have h1:=Odt (Af (Af h))
 have hI:=Acj (Bi hl)
 rcases (show q=0\/q=1\/q=2\/q=3 by omega) with rfl|rfl|rfl|rfl
 ·exact A1y c i hl hI
 ·exact A1z c i hl hI
 ·exact A10 c i hl hI
 ·exact A11 c i hl hI
theorem Bex:Bc Tryz.prog (Cb gs) Axy:=Hz fun c q i h=>Aq base (Ah S9 (Ah A7j Ap)) (n:=400) fun k hk=>(Dh (A12 c q i h) (fun w_ hw=>((seI .i64).ok _ _ ((Tr.merge (U6 [.int .i64 (Aa c.cap c.node 0),.int .i64 (Aa c.cap c.node 1),.int .i64 (Aa c.cap c.node 2),.int .i64 (Aa c.cap c.node 3)] 4 q i) (Zj [.int .i64 (Aa c.cap c.node 0),.int .i64 (Aa c.cap c.node 1),.int .i64 (Aa c.cap c.node 2),.int .i64 (Aa c.cap c.node 3)] 4 q i)).symm.trans hw))) k).trans hk
def Ax0:Sum:=(219,on3 Dp (rI .i64) (rI .i64) (fun c q i=>(levIs c.cap c.node 5&&(decide (0<=q)&&decide (q<5)))) (fun c q i=>.int .i64 (offT [.int .i64 (Aa c.cap c.node 0),.int .i64 (Aa c.cap c.node 1),.int .i64 (Aa c.cap c.node 2),.int .i64 (Aa c.cap c.node 3),.int .i64 (Aa c.cap c.node 4)] 5 q i)))
abbrev Bu0:=cfg [Gh,Aoe]
abbrev Bwq (c:Conf):List AV:=[.int .i64 (By3 c),.int .i64 (B0l c),.int .i64 (Aa (c).cap (c).node 2),.int .i64 (Aa (c).cap (c).node 3),.int .i64 (Aa (c).cap (c).node 4)]
abbrev Bwr (c:Conf):=BasZLev.levIs c.7 c.8 5
section
variable (c:Conf) (i:Int)
theorem A13 (hl:levIs c.cap c.node 5=true) (hI:Bs1 c):Ai Bu0 400 219 [c.av,.int .i64 0,.int .i64 i] (fun w_=>Tr.ev (Et (Bwq c) 5 (0) (i)) (fun l_=>(seI .i64).eq ((fun l_=>lget l_ 0) l_) w_) false) false=true:=Eq.trans (b:=(ba (Bwr c) (B0j c i))) (by kernel_rfl) (band hl (bdt (fun h_1=>(btb h_1 rfl)) (fun h_1=>(band (hI 0 rfl) (bdt (fun h_2=>(btf h_1 (btb h_2 rfl))) (fun h_2=>(btf h_1 (btf h_2 (band (Ddt rfl) rfl)))))))))
theorem A14 (hl:levIs c.cap c.node 5=true) (hI:Bs1 c):Ai Bu0 400 219 [c.av,.int .i64 1,.int .i64 i] (fun w_=>Tr.ev (Et (Bwq c) 5 (1) (i)) (fun l_=>(seI .i64).eq ((fun l_=>lget l_ 0) l_) w_) false) false=true:=Eq.trans (b:=(ba (Bwr c) (Bx9 c i))) (by kernel_rfl) (band hl (bdt (fun h_1=>(btb h_1 rfl)) (fun h_1=>(band (hI 1 rfl) (bdt (fun h_2=>(btf h_1 (btb h_2 rfl))) (fun h_2=>(band (hI 0 rfl) (btf h_1 (btf h_2 (band (Ddt rfl) rfl))))))))))
theorem A15 (hl:levIs c.cap c.node 5=true) (hI:Bs1 c):Ai Bu0 400 219 [c.av,.int .i64 2,.int .i64 i] (fun w_=>Tr.ev (Et (Bwq c) 5 (2) (i)) (fun l_=>(seI .i64).eq ((fun l_=>lget l_ 0) l_) w_) false) false=true:=Eq.trans (b:=(ba (Bwr c) (B0n c i))) (by kernel_rfl) (band hl (bdt (fun h_1=>(btb h_1 rfl)) (fun h_1=>(band (hI 2 rfl) (bdt (fun h_2=>(btf h_1 (btb h_2 rfl))) (fun h_2=>(band (hI 0 rfl) (band (hI 1 rfl) (btf h_1 (btf h_2 (band (Ddt rfl) rfl)))))))))))
theorem A16 (hl:levIs c.cap c.node 5=true) (hI:Bs1 c):Ai Bu0 400 219 [c.av,.int .i64 3,.int .i64 i] (fun w_=>Tr.ev (Et (Bwq c) 5 (3) (i)) (fun l_=>(seI .i64).eq ((fun l_=>lget l_ 0) l_) w_) false) false=true:=Eq.trans (b:=(ba (Bwr c) (B28 c i))) (by kernel_rfl) (band hl (bdt (fun h_1=>(btb h_1 rfl)) (fun h_1=>(band (hI 3 rfl) (bdt (fun h_2=>(btf h_1 (btb h_2 rfl))) (fun h_2=>(band (hI 0 rfl) (band (hI 1 rfl) (band (hI 2 rfl) (btf h_1 (btf h_2 (band (Ddt rfl) rfl))))))))))))
abbrev B29:Bool:=br (Bs2 i) Boa (br (decide (i>=(Aa c.7 c.8 4))) Boa (ba (decide ((IntKind.wrap .i64 ((IntKind.wrap .i64 ((IntKind.wrap .i64 ((IntKind.wrap .i64 ((IntKind.wrap .i64 (1+(Aa c.7 c.8 0)))+(Aa c.7 c.8 1)))+(Aa c.7 c.8 2)))+(Aa c.7 c.8 3)))+i))=(-1))) Boa))
abbrev B3a:Bool:=ba (decide ((-1)=(IntKind.wrap .i64 ((IntKind.wrap .i64 ((IntKind.wrap .i64 ((IntKind.wrap .i64 ((IntKind.wrap .i64 (1+(Aa c.7 c.8 0)))+(Aa c.7 c.8 1)))+(Aa c.7 c.8 2)))+(Aa c.7 c.8 3)))+i)))) Boa
theorem A17 (hl:levIs c.cap c.node 5=true) (hI:Bs1 c):Ai Bu0 400 219 [c.av,.int .i64 4,.int .i64 i] (fun w_=>Tr.ev (Et (Bwq c) 5 (4) (i)) (fun l_=>(seI .i64).eq ((fun l_=>lget l_ 0) l_) w_) false) false=true:=Eq.trans (b:=(ba (Bwr c) (br (Bs2 i) (B29 c i) (ba (BasZR3.itR c.7 c.8 4) (br (decide (i>=(Aa c.7 c.8 4))) (B29 c i) (ba (B0i c) (ba (BasZR3.itR c.7 c.8 1) (ba (BasZR3.itR c.7 c.8 2) (ba (BasZR3.itR c.7 c.8 3) (br (Bs2 i) (B3a c i) (br (decide (i>=(Aa c.7 c.8 4))) (B3a c i) (ba (decide ((IntKind.wrap .i64 ((IntKind.wrap .i64 ((IntKind.wrap .i64 ((IntKind.wrap .i64 ((IntKind.wrap .i64 (1+(Aa c.7 c.8 0)))+(Aa c.7 c.8 1)))+(Aa c.7 c.8 2)))+(Aa c.7 c.8 3)))+i))=(IntKind.wrap .i64 ((IntKind.wrap .i64 ((IntKind.wrap .i64 ((IntKind.wrap .i64 ((IntKind.wrap .i64 (1+(Aa c.7 c.8 0)))+(Aa c.7 c.8 1)))+(Aa c.7 c.8 2)))+(Aa c.7 c.8 3)))+i)))) Boa)))))))))))) (by kernel_rfl) (band hl (bdt (fun h_1=>(btb h_1 rfl)) (fun h_1=>(band (hI 4 rfl) (bdt (fun h_2=>(btf h_1 (btb h_2 rfl))) (fun h_2=>(band (hI 0 rfl) (band (hI 1 rfl) (band (hI 2 rfl) (band (hI 3 rfl) (btf h_1 (btf h_2 (band (Ddt rfl) rfl)))))))))))))
end
theorem A18 (c:Conf) (q:Int) (i:Int) (h:(levIs c.cap c.node 5&&(decide (0<=q)&&decide (q<5)))=true):Ai Bu0 400 219 [c.av,.int .i64 q,.int .i64 i] (fun w_=>Tr.ev (Et [.int .i64 (B0k c),.int .i64 (Aa c.cap c.node 1),.int .i64 (Aa c.cap c.node 2),.int .i64 (Aa c.cap c.node 3),.int .i64 (Aa c.cap c.node 4)] 5 q i) (fun l_=>(seI .i64).eq ((fun l_=>lget l_ 0) l_) w_) false) false=true:=by
 have hl:=Aj h
 have h0:=Odt (Aj (Af h))
 have h1:=Odt (Af (Af h))
 have hI:=Acj (Bi hl)
 rcases (show q=0\/q=1\/q=2\/q=3\/q=4 by omega) with rfl|rfl|rfl|rfl|rfl
 ·exact A13 c i hl hI
 ·exact A14 c i hl hI
 ·exact A15 c i hl hI
 ·exact A16 c i hl hI
 ·exact A17 c i hl hI
theorem Bey:Bc Tryz.prog (Cb gs) Ax0:=Hz fun c q i h=>Aq base (Ah S9 (Ah A7k Ap)) (n:=400) fun k hk=>(Dh (A18 c q i h) (fun w_ hw=>((seI .i64).ok _ _ ((Tr.merge (U6 [.int .i64 (Aa c.cap c.node 0),.int .i64 (Aa c.cap c.node 1),.int .i64 (Aa c.cap c.node 2),.int .i64 (Aa c.cap c.node 3),.int .i64 (Aa c.cap c.node 4)] 5 q i) (Zj [.int .i64 (Aa c.cap c.node 0),.int .i64 (Aa c.cap c.node 1),.int .i64 (Aa c.cap c.node 2),.int .i64 (Aa c.cap c.node 3),.int .i64 (Aa c.cap c.node 4)] 5 q i)).symm.trans hw))) k).trans hk
theorem Bez:Bc Tryz.prog (Cb gs) Af8:=Hz fun c q i h=>by
 have hb:=X3 (Bi (Aj h))
 rcases (show lvN c.cap c.node=1\/lvN c.cap c.node=2\/lvN c.cap c.node=3\/lvN c.cap c.node=4\/lvN c.cap c.node=5 by omega) with e|e|e|e|e
 ·have el:lvL c.cap c.node=[.int .i64 (Aa c.cap c.node 0)]:=by
   unfold lvL;rw [e];rfl
  rw [e] at h;rw [el,e]
  exact Bet [c.av,.int .i64 q,.int .i64 i] (.int .i64 (offT [.int .i64 (Aa c.cap c.node 0)] 1 q i)) ((show Axv.2 [c.av,.int .i64 q,.int .i64 i]=some ((levIs c.cap c.node 1&&(decide (0<=q)&&decide (q<1))),.int .i64 (offT [.int .i64 (Aa c.cap c.node 0)] 1 q i)) from by kernel_rfl).trans (by rw [show (levIs c.cap c.node 1&&(decide (0<=q)&&decide (q<1)))=true from h]))
 ·have el:lvL c.cap c.node=[.int .i64 (Aa c.cap c.node 0),.int .i64 (Aa c.cap c.node 1)]:=by
   unfold lvL;rw [e];rfl
  rw [e] at h;rw [el,e]
  exact Bev [c.av,.int .i64 q,.int .i64 i] (.int .i64 (offT [.int .i64 (Aa c.cap c.node 0),.int .i64 (Aa c.cap c.node 1)] 2 q i)) ((show Axw.2 [c.av,.int .i64 q,.int .i64 i]=some ((levIs c.cap c.node 2&&(decide (0<=q)&&decide (q<2))),.int .i64 (offT [.int .i64 (Aa c.cap c.node 0),.int .i64 (Aa c.cap c.node 1)] 2 q i)) from by kernel_rfl).trans (by rw [show (levIs c.cap c.node 2&&(decide (0<=q)&&decide (q<2)))=true from h]))
 ·have el:lvL c.cap c.node=[.int .i64 (Aa c.cap c.node 0),.int .i64 (Aa c.cap c.node 1),.int .i64 (Aa c.cap c.node 2)]:=by
   unfold lvL;rw [e];rfl
  rw [e] at h;rw [el,e]
  exact Bew [c.av,.int .i64 q,.int .i64 i] (.int .i64 (offT [.int .i64 (Aa c.cap c.node 0),.int .i64 (Aa c.cap c.node 1),.int .i64 (Aa c.cap c.node 2)] 3 q i)) ((show Axx.2 [c.av,.int .i64 q,.int .i64 i]=some ((levIs c.cap c.node 3&&(decide (0<=q)&&decide (q<3))),.int .i64 (offT [.int .i64 (Aa c.cap c.node 0),.int .i64 (Aa c.cap c.node 1),.int .i64 (Aa c.cap c.node 2)] 3 q i)) from by kernel_rfl).trans (by rw [show (levIs c.cap c.node 3&&(decide (0<=q)&&decide (q<3)))=true from h]))
 ·have el:lvL c.cap c.node=[.int .i64 (Aa c.cap c.node 0),.int .i64 (Aa c.cap c.node 1),.int .i64 (Aa c.cap c.node 2),.int .i64 (Aa c.cap c.node 3)]:=by
   unfold lvL;rw [e];rfl
  rw [e] at h;rw [el,e]
  exact Bex [c.av,.int .i64 q,.int .i64 i] (.int .i64 (offT [.int .i64 (Aa c.cap c.node 0),.int .i64 (Aa c.cap c.node 1),.int .i64 (Aa c.cap c.node 2),.int .i64 (Aa c.cap c.node 3)] 4 q i)) ((show Axy.2 [c.av,.int .i64 q,.int .i64 i]=some ((levIs c.cap c.node 4&&(decide (0<=q)&&decide (q<4))),.int .i64 (offT [.int .i64 (Aa c.cap c.node 0),.int .i64 (Aa c.cap c.node 1),.int .i64 (Aa c.cap c.node 2),.int .i64 (Aa c.cap c.node 3)] 4 q i)) from by kernel_rfl).trans (by rw [show (levIs c.cap c.node 4&&(decide (0<=q)&&decide (q<4)))=true from h]))
 ·have el:lvL c.cap c.node=[.int .i64 (Aa c.cap c.node 0),.int .i64 (Aa c.cap c.node 1),.int .i64 (Aa c.cap c.node 2),.int .i64 (Aa c.cap c.node 3),.int .i64 (Aa c.cap c.node 4)]:=by
   unfold lvL;rw [e];rfl
  rw [e] at h;rw [el,e]
  exact Bey [c.av,.int .i64 q,.int .i64 i] (.int .i64 (offT [.int .i64 (Aa c.cap c.node 0),.int .i64 (Aa c.cap c.node 1),.int .i64 (Aa c.cap c.node 2),.int .i64 (Aa c.cap c.node 3),.int .i64 (Aa c.cap c.node 4)] 5 q i)) ((show Ax0.2 [c.av,.int .i64 q,.int .i64 i]=some ((levIs c.cap c.node 5&&(decide (0<=q)&&decide (q<5))),.int .i64 (offT [.int .i64 (Aa c.cap c.node 0),.int .i64 (Aa c.cap c.node 1),.int .i64 (Aa c.cap c.node 2),.int .i64 (Aa c.cap c.node 3),.int .i64 (Aa c.cap c.node 4)] 5 q i)) from by kernel_rfl).trans (by rw [show (levIs c.cap c.node 5&&(decide (0<=q)&&decide (q<5)))=true from h]))
abbrev Bqr:=cfg [J6,Ald,Al1]
abbrev Bqs:=cfg [Gh,Aof,Af8]
theorem Bn1 (c:Conf) (kind a b i j n p h x y:Int) (H:HS c n h):Ai Bqr 400 277 [(TRa.av (⟨(⟨kind,a,b,0,i,j,n,p,h,x,y⟩:Frm),c,lvL c.cap c.node,lvN c.cap c.node,0,0,false⟩:TRa))] (fun v=>sp_act.has v&&(Ai Bqs 400 151 [c.av,(⟨kind,a,b,0,i,j,n,p,h,x,y⟩:Frm).av] (fun w_=>(seG [seI .u8,seI .i64,seI .u64,seI .u64,seI .u64,seI .i64,seI .u32]).eq v w_) false)) false=true:=Eq.trans (b:=true) (by kernel_rfl) rfl
abbrev A2a (c:Conf):=lvN c.7 c.8
abbrev B0o (c:Conf) (h:Int):=(Ey (lvL c.7 c.8) (A2a c))&&(BasZTre.qOk (A2a c) h)
abbrev B0p (c:Conf) (h:Int):=(BasZLev.levIs c.7 c.8 (A2a c))&&(BasZR13s.qLt (A2a c) (IntKind.wrap .i64 h))
abbrev B3b (c:Conf) (h:Int) (i:Int):=decide ((BasZTre.offT (lvL c.7 c.8) (A2a c) h (IntKind.wrap .i64 i))=(BasZTre.offT (lvL c.7 c.8) (A2a c) (IntKind.wrap .i64 h) (IntKind.wrap .i64 i)))&&true
theorem Bn2 (c:Conf) (kind a b i j n p h x y:Int) (H:HS c n h):Ai Bqr 400 277 [(TRa.av (⟨(⟨kind,a,b,1,i,j,n,p,h,x,y⟩:Frm),c,lvL c.cap c.node,lvN c.cap c.node,0,0,false⟩:TRa))] (fun v=>sp_act.has v&&(Ai Bqs 400 151 [c.av,(⟨kind,a,b,1,i,j,n,p,h,x,y⟩:Frm).av] (fun w_=>(seG [seI .u8,seI .i64,seI .u64,seI .u64,seI .u64,seI .i64,seI .u32]).eq v w_) false)) false=true:=Eq.trans (b:=(ba (B0o c h) (ba (B0p c h) (ba (B3b c h i) Boa)))) (by kernel_rfl) (band (G6 H.hv H.h8) (band (G6 H.hl H.hq) (band (Aw (Ddt (by rw [H.ew]))) rfl)))
abbrev Bs4 (c:Conf):=(Ey (lvL c.7 c.8) (A2a c))&&(BasZTre.qOk (A2a c) 0)
abbrev Bs5 (c:Conf):=(BasZLev.levIs c.7 c.8 (A2a c))&&(BasZR13s.qLt (A2a c) 0)
theorem Bn3 (c:Conf) (kind a b i j n p h x y:Int) (H:HS c n h):Ai Bqr 400 277 [(TRa.av (⟨(⟨kind,a,b,3,i,j,n,p,h,x,y⟩:Frm),c,lvL c.cap c.node,lvN c.cap c.node,0,0,false⟩:TRa))] (fun v=>sp_act.has v&&(Ai Bqs 400 151 [c.av,(⟨kind,a,b,3,i,j,n,p,h,x,y⟩:Frm).av] (fun w_=>(seG [seI .u8,seI .i64,seI .u64,seI .u64,seI .u64,seI .i64,seI .u32]).eq v w_) false)) false=true:=Eq.trans (b:=(ba (Bs4 c) (ba (Bs5 c) (ba (decide ((BasZTre.offT (lvL c.7 c.8) (A2a c) 0 (IntKind.wrap .i64 ((IntKind.wrap .i64 p)-1)))=(BasZTre.offT (lvL c.7 c.8) (A2a c) 0 (IntKind.wrap .i64 ((IntKind.wrap .i64 p)-1))))&&true) Boa)))) (by kernel_rfl) (band (G6 H.hv H.h0) (band (G6 H.hl H.hz) (band (Aw (Ddt rfl)) rfl)))
abbrev B0q (c:Conf) (p:Int):=decide ((BasZTre.offT (lvL c.7 c.8) (A2a c) 0 (IntKind.wrap .i64 p))=(BasZTre.offT (lvL c.7 c.8) (A2a c) 0 (IntKind.wrap .i64 p)))&&true
theorem Bn4 (c:Conf) (kind a b i j n p h x y:Int) (H:HS c n h):Ai Bqr 400 277 [(TRa.av (⟨(⟨kind,a,b,4,i,j,n,p,h,x,y⟩:Frm),c,lvL c.cap c.node,lvN c.cap c.node,0,0,false⟩:TRa))] (fun v=>sp_act.has v&&(Ai Bqs 400 151 [c.av,(⟨kind,a,b,4,i,j,n,p,h,x,y⟩:Frm).av] (fun w_=>(seG [seI .u8,seI .i64,seI .u64,seI .u64,seI .u64,seI .i64,seI .u32]).eq v w_) false)) false=true:=Eq.trans (b:=(ba (Bs4 c) (ba (Bs5 c) (ba (B0q c p) (ba (decide ((IntKind.wrap .u64 a)=(IntKind.wrap .u64 a))&&true) (ba (decide ((IntKind.wrap .u64 b)=(IntKind.wrap .u64 b))&&true) Boa)))))) (by kernel_rfl) (band (G6 H.hv H.h0) (band (G6 H.hl H.hz) (band (Aw (Ddt rfl)) (band (Aw (Ddt rfl)) (band (Aw (Ddt rfl)) rfl)))))
theorem Bn5 (c:Conf) (kind a b i j n p h x y:Int) (H:HS c n h):Ai Bqr 400 277 [(TRa.av (⟨(⟨kind,a,b,5,i,j,n,p,h,x,y⟩:Frm),c,lvL c.cap c.node,lvN c.cap c.node,0,0,false⟩:TRa))] (fun v=>sp_act.has v&&(Ai Bqs 400 151 [c.av,(⟨kind,a,b,5,i,j,n,p,h,x,y⟩:Frm).av] (fun w_=>(seG [seI .u8,seI .i64,seI .u64,seI .u64,seI .u64,seI .i64,seI .u32]).eq v w_) false)) false=true:=Eq.trans (b:=(ba (Bs4 c) (ba (Bs5 c) (ba (decide ((BasZTre.offT (lvL c.7 c.8) (A2a c) 0 (IntKind.wrap .i64 ((IntKind.wrap .i64 i)-1)))=(BasZTre.offT (lvL c.7 c.8) (A2a c) 0 (IntKind.wrap .i64 ((IntKind.wrap .i64 i)-1))))&&true) Boa)))) (by kernel_rfl) (band (G6 H.hv H.h0) (band (G6 H.hl H.hz) (band (Aw (Ddt rfl)) rfl)))
abbrev B3c (c:Conf) (i:Int):=decide ((BasZTre.offT (lvL c.7 c.8) (A2a c) 0 (IntKind.wrap .i64 i))=(BasZTre.offT (lvL c.7 c.8) (A2a c) 0 (IntKind.wrap .i64 i)))&&true
abbrev B3d (x:Int) (y:Int):Bool:=ba (decide ((IntKind.wrap .u64 x)=(IntKind.wrap .u64 x))&&true) (ba (decide ((IntKind.wrap .u64 y)=(IntKind.wrap .u64 y))&&true) Boa)
section
variable (c:Conf)
theorem Bn6 (kind a b i j n p h x y:Int) (H:HS c n h):Ai Bqr 400 277 [(TRa.av (⟨(⟨kind,a,b,6,i,j,n,p,h,x,y⟩:Frm),c,lvL c.cap c.node,lvN c.cap c.node,0,0,false⟩:TRa))] (fun v=>sp_act.has v&&(Ai Bqs 400 151 [c.av,(⟨kind,a,b,6,i,j,n,p,h,x,y⟩:Frm).av] (fun w_=>(seG [seI .u8,seI .i64,seI .u64,seI .u64,seI .u64,seI .i64,seI .u32]).eq v w_) false)) false=true:=Eq.trans (b:=(ba (Bs4 c) (ba (Bs5 c) (ba (B3c c i) (B3d x y))))) (by kernel_rfl) (band (G6 H.hv H.h0) (band (G6 H.hl H.hz) (band (Aw (Ddt rfl)) (band (Aw (Ddt rfl)) (band (Aw (Ddt rfl)) rfl)))))
theorem Bn7 (kind a b i j n p h x y:Int) (H:HS c n h):Ai Bqr 400 277 [(TRa.av (⟨(⟨kind,a,b,7,i,j,n,p,h,x,y⟩:Frm),c,lvL c.cap c.node,lvN c.cap c.node,0,0,false⟩:TRa))] (fun v=>sp_act.has v&&(Ai Bqs 400 151 [c.av,(⟨kind,a,b,7,i,j,n,p,h,x,y⟩:Frm).av] (fun w_=>(seG [seI .u8,seI .i64,seI .u64,seI .u64,seI .u64,seI .i64,seI .u32]).eq v w_) false)) false=true:=Eq.trans (b:=(ba (Bs4 c) (ba (Bs5 c) (ba (B0q c p) (ba (decide ((IntKind.wrap .u64 a)=(IntKind.wrap .u64 a))&&true) (ba (decide ((IntKind.wrap .u64 b)=(IntKind.wrap .u64 b))&&true) Boa)))))) (by kernel_rfl) (band (G6 H.hv H.h0) (band (G6 H.hl H.hz) (band (Aw (Ddt rfl)) (band (Aw (Ddt rfl)) (band (Aw (Ddt rfl)) rfl)))))
theorem Bn8 (kind a b i j n p h x y:Int) (H:HS c n h):Ai Bqr 400 277 [(TRa.av (⟨(⟨kind,a,b,8,i,j,n,p,h,x,y⟩:Frm),c,lvL c.cap c.node,lvN c.cap c.node,0,0,false⟩:TRa))] (fun v=>sp_act.has v&&(Ai Bqs 400 151 [c.av,(⟨kind,a,b,8,i,j,n,p,h,x,y⟩:Frm).av] (fun w_=>(seG [seI .u8,seI .i64,seI .u64,seI .u64,seI .u64,seI .i64,seI .u32]).eq v w_) false)) false=true:=Eq.trans (b:=(ba (decide ((IntKind.wrap .u64 n)=(IntKind.wrap .u64 n))&&true) Boa)) (by kernel_rfl) (band (Aw (Ddt rfl)) rfl)
theorem Bn9 (kind a b i j n p h x y:Int) (H:HS c n h) (K:HN c i n h):Ai Bqr 400 277 [(TRa.av (⟨(⟨kind,a,b,9,i,j,n,p,h,x,y⟩:Frm),c,lvL c.cap c.node,lvN c.cap c.node,0,0,false⟩:TRa))] (fun v=>sp_act.has v&&(Ai Bqs 400 151 [c.av,(⟨kind,a,b,9,i,j,n,p,h,x,y⟩:Frm).av] (fun w_=>(seG [seI .u8,seI .i64,seI .u64,seI .u64,seI .u64,seI .i64,seI .u32]).eq v w_) false)) false=true:=Eq.trans (b:=(br (!decide ((P9 (IntKind.wrap .i64 n) c.8 (IntKind.wrap .i64 h) (IntKind.wrap .i64 i))=0)) (ba ((Ey (lvL c.7 c.8) (A2a c))&&(BasZTre.qOk (A2a c) (IntKind.wrap .u8 (h-1)))) (ba (BasZEnd2.endOk (IntKind.wrap .i64 n) c.8 (IntKind.wrap .i64 h) (IntKind.wrap .i64 i)) (ba ((BasZLev.levIs c.7 c.8 (A2a c))&&(BasZR13s.qLt (A2a c) (IntKind.wrap .i64 ((IntKind.wrap .i64 h)-1)))) (ba (decide ((BasZTre.offT (lvL c.7 c.8) (A2a c) (IntKind.wrap .u8 (h-1)) (-1))=(BasZTre.offT (lvL c.7 c.8) (A2a c) (IntKind.wrap .i64 ((IntKind.wrap .i64 h)-1)) (P8 (IntKind.wrap .i64 n) c.8 (IntKind.wrap .i64 h) (IntKind.wrap .i64 i))))&&true) Boa)))) (ba ((Ey (lvL c.7 c.8) (A2a c))&&(BasZTre.qOk (A2a c) (IntKind.wrap .u8 (h-1)))) (ba (BasZEnd2.endOk (IntKind.wrap .i64 n) c.8 (IntKind.wrap .i64 h) (IntKind.wrap .i64 i)) (ba ((BasZLev.levIs c.7 c.8 (A2a c))&&(BasZR13s.qLt (A2a c) (IntKind.wrap .i64 ((IntKind.wrap .i64 h)-1)))) (ba (decide ((BasZTre.offT (lvL c.7 c.8) (A2a c) (IntKind.wrap .u8 (h-1)) (P8 (IntKind.wrap .i64 n) c.8 (IntKind.wrap .i64 h) (IntKind.wrap .i64 i)))=(BasZTre.offT (lvL c.7 c.8) (A2a c) (IntKind.wrap .i64 ((IntKind.wrap .i64 h)-1)) (P8 (IntKind.wrap .i64 n) c.8 (IntKind.wrap .i64 h) (IntKind.wrap .i64 i))))&&true) Boa)))))) (by kernel_rfl) (btf (Ad (Ddt K.h1)) (band (G6 H.hv K.h9) (band K.hE (band (G6 H.hl K.hq) (band (Aw (Ddt (by rw [K.e9]))) rfl)))))
theorem Be0 (kind a b i j n p h x y:Int) (H:HS c n h):Ai Bqr 400 277 [(TRa.av (⟨(⟨kind,a,b,11,i,j,n,p,h,x,y⟩:Frm),c,lvL c.cap c.node,lvN c.cap c.node,0,0,false⟩:TRa))] (fun v=>sp_act.has v&&(Ai Bqs 400 151 [c.av,(⟨kind,a,b,11,i,j,n,p,h,x,y⟩:Frm).av] (fun w_=>(seG [seI .u8,seI .i64,seI .u64,seI .u64,seI .u64,seI .i64,seI .u32]).eq v w_) false)) false=true:=Eq.trans (b:=(ba (B0o c h) (ba (B0p c h) (ba (B3b c h i) (ba (decide ((IntKind.wrap .u64 x)=(IntKind.wrap .u64 x))&&true) Boa))))) (by kernel_rfl) (band (G6 H.hv H.h8) (band (G6 H.hl H.hq) (band (Aw (Ddt (by rw [H.ew]))) (band (Aw (Ddt rfl)) rfl))))
theorem Be1 (kind a b i j n p h x y:Int) (H:HS c n h):Ai Bqr 400 277 [(TRa.av (⟨(⟨kind,a,b,12,i,j,n,p,h,x,y⟩:Frm),c,lvL c.cap c.node,lvN c.cap c.node,0,0,false⟩:TRa))] (fun v=>sp_act.has v&&(Ai Bqs 400 151 [c.av,(⟨kind,a,b,12,i,j,n,p,h,x,y⟩:Frm).av] (fun w_=>(seG [seI .u8,seI .i64,seI .u64,seI .u64,seI .u64,seI .i64,seI .u32]).eq v w_) false)) false=true:=Eq.trans (b:=(ba (B0o c h) (ba (BasZR3.itR (IntKind.wrap .i64 n) c.8 (IntKind.wrap .i64 h)) (ba (B0p c h) (ba (decide ((BasZTre.offT (lvL c.7 c.8) (A2a c) h (Dz (IntKind.wrap .i64 n) c.8 (IntKind.wrap .i64 h)))=(BasZTre.offT (lvL c.7 c.8) (A2a c) (IntKind.wrap .i64 h) (Aa (IntKind.wrap .i64 n) c.8 (IntKind.wrap .i64 h))))&&true) Boa))))) (by kernel_rfl) (band (G6 H.hv H.h8) (band H.hN (band (G6 H.hl H.hq) (band (Aw (Ddt (by rw [H.hC,H.ew]))) rfl))))
theorem Be2 (kind a b i j n p h x y:Int) (H:HS c n h):Ai Bqr 400 277 [(TRa.av (⟨(⟨kind,a,b,13,i,j,n,p,h,x,y⟩:Frm),c,lvL c.cap c.node,lvN c.cap c.node,0,0,false⟩:TRa))] (fun v=>sp_act.has v&&(Ai Bqs 400 151 [c.av,(⟨kind,a,b,13,i,j,n,p,h,x,y⟩:Frm).av] (fun w_=>(seG [seI .u8,seI .i64,seI .u64,seI .u64,seI .u64,seI .i64,seI .u32]).eq v w_) false)) false=true:=Eq.trans (b:=(ba (Bs4 c) (ba (Bs5 c) (ba (B3c c i) Boa)))) (by kernel_rfl) (band (G6 H.hv H.h0) (band (G6 H.hl H.hz) (band (Aw (Ddt rfl)) rfl)))
theorem Be3 (kind a b i j n p h x y:Int) (H:HS c n h):Ai Bqr 400 277 [(TRa.av (⟨(⟨kind,a,b,14,i,j,n,p,h,x,y⟩:Frm),c,lvL c.cap c.node,lvN c.cap c.node,0,0,false⟩:TRa))] (fun v=>sp_act.has v&&(Ai Bqs 400 151 [c.av,(⟨kind,a,b,14,i,j,n,p,h,x,y⟩:Frm).av] (fun w_=>(seG [seI .u8,seI .i64,seI .u64,seI .u64,seI .u64,seI .i64,seI .u32]).eq v w_) false)) false=true:=Eq.trans (b:=(ba (Bs4 c) (ba (Bs5 c) (ba (decide ((BasZTre.offT (lvL c.7 c.8) (A2a c) 0 (IntKind.wrap .i64 ((IntKind.wrap .i64 i)-1)))=(BasZTre.offT (lvL c.7 c.8) (A2a c) 0 (IntKind.wrap .i64 ((IntKind.wrap .i64 i)-1))))&&true) (B3d x y))))) (by kernel_rfl) (band (G6 H.hv H.h0) (band (G6 H.hl H.hz) (band (Aw (Ddt rfl)) (band (Aw (Ddt rfl)) (band (Aw (Ddt rfl)) rfl)))))
theorem Be4 (kind a b i j n p h x y:Int) (H:HS c n h):Ai Bqr 400 277 [(TRa.av (⟨(⟨kind,a,b,15,i,j,n,p,h,x,y⟩:Frm),c,lvL c.cap c.node,lvN c.cap c.node,0,0,false⟩:TRa))] (fun v=>sp_act.has v&&(Ai Bqs 400 151 [c.av,(⟨kind,a,b,15,i,j,n,p,h,x,y⟩:Frm).av] (fun w_=>(seG [seI .u8,seI .i64,seI .u64,seI .u64,seI .u64,seI .i64,seI .u32]).eq v w_) false)) false=true:=Eq.trans (b:=(ba (Bs4 c) (ba (Bs5 c) (ba (decide ((BasZTre.offT (lvL c.7 c.8) (A2a c) 0 (IntKind.wrap .i64 ((IntKind.wrap .i64 n)-1)))=(BasZTre.offT (lvL c.7 c.8) (A2a c) 0 (IntKind.wrap .i64 ((IntKind.wrap .i64 n)-1))))&&true) Boa)))) (by kernel_rfl) (band (G6 H.hv H.h0) (band (G6 H.hl H.hz) (band (Aw (Ddt rfl)) rfl)))
theorem Be5 (kind a b i j n p h x y:Int) (H:HS c n h):Ai Bqr 400 277 [(TRa.av (⟨(⟨kind,a,b,16,i,j,n,p,h,x,y⟩:Frm),c,lvL c.cap c.node,lvN c.cap c.node,0,0,false⟩:TRa))] (fun v=>sp_act.has v&&(Ai Bqs 400 151 [c.av,(⟨kind,a,b,16,i,j,n,p,h,x,y⟩:Frm).av] (fun w_=>(seG [seI .u8,seI .i64,seI .u64,seI .u64,seI .u64,seI .i64,seI .u32]).eq v w_) false)) false=true:=Eq.trans (b:=true) (by kernel_rfl) rfl
theorem Be6 (kind a b i j n p h x y:Int) (H:HS c n h):Ai Bqr 400 277 [(TRa.av (⟨(⟨kind,a,b,17,i,j,n,p,h,x,y⟩:Frm),c,lvL c.cap c.node,lvN c.cap c.node,0,0,false⟩:TRa))] (fun v=>sp_act.has v&&(Ai Bqs 400 151 [c.av,(⟨kind,a,b,17,i,j,n,p,h,x,y⟩:Frm).av] (fun w_=>(seG [seI .u8,seI .i64,seI .u64,seI .u64,seI .u64,seI .i64,seI .u32]).eq v w_) false)) false=true:=Eq.trans (b:=(ba (Bs4 c) (ba (Bs5 c) (ba (B0q c p) Boa)))) (by kernel_rfl) (band (G6 H.hv H.h0) (band (G6 H.hl H.hz) (band (Aw (Ddt rfl)) rfl)))
theorem Be7 (kind a b i j n p h x y:Int) (H:HS c n h):Ai Bqr 400 277 [(TRa.av (⟨(⟨kind,a,b,20,i,j,n,p,h,x,y⟩:Frm),c,lvL c.cap c.node,lvN c.cap c.node,0,0,false⟩:TRa))] (fun v=>sp_act.has v&&(Ai Bqs 400 151 [c.av,(⟨kind,a,b,20,i,j,n,p,h,x,y⟩:Frm).av] (fun w_=>(seG [seI .u8,seI .i64,seI .u64,seI .u64,seI .u64,seI .i64,seI .u32]).eq v w_) false)) false=true:=Eq.trans (b:=true) (by kernel_rfl) rfl
theorem Be8 (kind a b i j n p h x y:Int) (H:HS c n h):Ai Bqr 400 277 [(TRa.av (⟨(⟨kind,a,b,21,i,j,n,p,h,x,y⟩:Frm),c,lvL c.cap c.node,lvN c.cap c.node,0,0,false⟩:TRa))] (fun v=>sp_act.has v&&(Ai Bqs 400 151 [c.av,(⟨kind,a,b,21,i,j,n,p,h,x,y⟩:Frm).av] (fun w_=>(seG [seI .u8,seI .i64,seI .u64,seI .u64,seI .u64,seI .i64,seI .u32]).eq v w_) false)) false=true:=Eq.trans (b:=true) (by kernel_rfl) rfl
theorem Be9 (kind a b i j n p h x y:Int) (H:HS c n h):Ai Bqr 400 277 [(TRa.av (⟨(⟨kind,a,b,22,i,j,n,p,h,x,y⟩:Frm),c,lvL c.cap c.node,lvN c.cap c.node,0,0,false⟩:TRa))] (fun v=>sp_act.has v&&(Ai Bqs 400 151 [c.av,(⟨kind,a,b,22,i,j,n,p,h,x,y⟩:Frm).av] (fun w_=>(seG [seI .u8,seI .i64,seI .u64,seI .u64,seI .u64,seI .i64,seI .u32]).eq v w_) false)) false=true:=Eq.trans (b:=true) (by kernel_rfl) rfl
theorem Bfa (kind a b i j n p h x y:Int) (H:HS c n h):Ai Bqr 400 277 [(TRa.av (⟨(⟨kind,a,b,23,i,j,n,p,h,x,y⟩:Frm),c,lvL c.cap c.node,lvN c.cap c.node,0,0,false⟩:TRa))] (fun v=>sp_act.has v&&(Ai Bqs 400 151 [c.av,(⟨kind,a,b,23,i,j,n,p,h,x,y⟩:Frm).av] (fun w_=>(seG [seI .u8,seI .i64,seI .u64,seI .u64,seI .u64,seI .i64,seI .u32]).eq v w_) false)) false=true:=Eq.trans (b:=(ba (decide ((IntKind.wrap .u32 (y+1))=(IntKind.wrap .u32 (y+1)))&&true) Boa)) (by kernel_rfl) (band (Aw (Ddt rfl)) rfl)
theorem Bfb (kind a b i j n p h x y:Int) (H:HS c n h):Ai Bqr 400 277 [(TRa.av (⟨(⟨kind,a,b,24,i,j,n,p,h,x,y⟩:Frm),c,lvL c.cap c.node,lvN c.cap c.node,0,0,false⟩:TRa))] (fun v=>sp_act.has v&&(Ai Bqs 400 151 [c.av,(⟨kind,a,b,24,i,j,n,p,h,x,y⟩:Frm).av] (fun w_=>(seG [seI .u8,seI .i64,seI .u64,seI .u64,seI .u64,seI .i64,seI .u32]).eq v w_) false)) false=true:=Eq.trans (b:=true) (by kernel_rfl) rfl
theorem Bfc (kind a b i j n p h x y:Int) (H:HS c n h):Ai Bqr 400 277 [(TRa.av (⟨(⟨kind,a,b,25,i,j,n,p,h,x,y⟩:Frm),c,lvL c.cap c.node,lvN c.cap c.node,0,0,false⟩:TRa))] (fun v=>sp_act.has v&&(Ai Bqs 400 151 [c.av,(⟨kind,a,b,25,i,j,n,p,h,x,y⟩:Frm).av] (fun w_=>(seG [seI .u8,seI .i64,seI .u64,seI .u64,seI .u64,seI .i64,seI .u32]).eq v w_) false)) false=true:=Eq.trans (b:=(ba (decide (b=b)&&true) Boa)) (by kernel_rfl) (band (Aw (Ddt rfl)) rfl)
def qst (f:Frm) (v:AV):Bool:=sp_act.has v&&(Ai (cfg [Gh,Aof,Af8]) 400 151 [c.av,f.av] (fun w_=>(seG [seI .u8,seI .i64,seI .u64,seI .u64,seI .u64,seI .i64,seI .u32]).eq v w_) false)
end
theorem stp (c:Conf) (f:Frm) (h:preS (lvN c.cap c.node) c f=true):qst c f (Ld (⟨f,c,lvL c.cap c.node,lvN c.cap c.node,0,0,false⟩:TRa))=true:=by
 obtain ⟨hl,hp,hin,hI,hN,h0,hh,h9,h11,hC⟩:=Bes h
 have hb:=X3 (Bi hl)
 have ew:IntKind.wrap .i64 f.h=f.h:=Du h0 (by omega)
 have hk:(decide (0<=f.h)&&decide (f.h<=4))=true:=by
  rw [Ddt h0,Ddt (show f.h<=4 by omega)]
  rfl
 have H:HS c f.n f.h:=⟨H6 (Bi hl),Adz h0 hh,Adz (Int.le_refl 0) (by omega),ew,hl,by rw [ew];exact Av6 h0 hh,Av6 (Int.le_refl 0) (by omega),by rw [ew];exact hN f.h hk,by rw [ew];exact hC f.h hk⟩
 have K:f.pc=9->HN c f.i f.n f.h:=fun q=>by
  obtain ⟨q1,q2,q3⟩:=h9 q;have e1:IntKind.wrap .i64 (f.h-1)=f.h-1:=Du (by omega) (by omega)
  refine ⟨A7p h0 hh (by omega),?_,?_,by rw [ew];exact q2,by rw [ew];exact q3⟩
  ·rw [ew,e1]
   exact Uc (by simp [Lit.wf,IntKind.min,IntKind.max,IntKind.signed,IntKind.bits];omega)
  ·rw [ew,e1]
   exact Av6 (by omega) (by omega)
 obtain ⟨kind,a,b,pc,i,j,n,p,hq,x,y⟩:=f
 have hin:inPc pc=true:=hin
 have H:HS c n hq:=H
 rcases Auw hin with rfl|rfl|rfl|rfl|rfl|rfl|rfl|rfl|rfl|rfl|rfl|rfl|rfl|rfl|rfl|rfl|rfl|rfl|rfl|rfl|rfl|rfl
 ·exact Gx (P:=qst c _) (Bn1 c kind a b i j n p hq x y H) rfl
 ·exact Gx (P:=qst c _) (Bn2 c kind a b i j n p hq x y H) rfl
 ·exact Gx (P:=qst c _) (Bn3 c kind a b i j n p hq x y H) rfl
 ·exact Gx (P:=qst c _) (Bn4 c kind a b i j n p hq x y H) rfl
 ·exact Gx (P:=qst c _) (Bn5 c kind a b i j n p hq x y H) rfl
 ·exact Gx (P:=qst c _) (Bn6 c kind a b i j n p hq x y H) rfl
 ·exact Gx (P:=qst c _) (Bn7 c kind a b i j n p hq x y H) rfl
 ·exact Gx (P:=qst c _) (Bn8 c kind a b i j n p hq x y H) rfl
 ·exact Gx (P:=qst c _) (Bn9 c kind a b i j n p hq x y H (K rfl)) rfl
 ·exact Gx (P:=qst c _) (Be0 c kind a b i j n p hq x y H) rfl
 ·exact Gx (P:=qst c _) (Be1 c kind a b i j n p hq x y H) rfl
 ·exact Gx (P:=qst c _) (Be2 c kind a b i j n p hq x y H) rfl
 ·exact Gx (P:=qst c _) (Be3 c kind a b i j n p hq x y H) rfl
 ·exact Gx (P:=qst c _) (Be4 c kind a b i j n p hq x y H) rfl
 ·exact Gx (P:=qst c _) (Be5 c kind a b i j n p hq x y H) rfl
 ·exact Gx (P:=qst c _) (Be6 c kind a b i j n p hq x y H) rfl
 ·exact Gx (P:=qst c _) (Be7 c kind a b i j n p hq x y H) rfl
 ·exact Gx (P:=qst c _) (Be8 c kind a b i j n p hq x y H) rfl
 ·exact Gx (P:=qst c _) (Be9 c kind a b i j n p hq x y H) rfl
 ·exact Gx (P:=qst c _) (Bfa c kind a b i j n p hq x y H) rfl
 ·exact Gx (P:=qst c _) (Bfb c kind a b i j n p hq x y H) rfl
 ·exact Gx (P:=qst c _) (Bfc c kind a b i j n p hq x y H) rfl
def Aae:Sum:=(151,on2 Dp Ji (fun c f=>preS (lvN c.cap c.node) c f) (fun c f=>Aex (⟨f,c,lvL c.cap c.node,lvN c.cap c.node,0,0,false⟩:TRa)))
theorem Bj2:Bc Tryz.prog (Cb gs) Aae:=Cm fun c f h=>Aq base (Ah S9 (Ah Bnt (Ah Bez Ap))) (n:=400) fun k hk=>by
 have q:(sp_act.has (Ld (⟨f,c,lvL c.cap c.node,lvN c.cap c.node,0,0,false⟩:TRa))&&(Ai (cfg [Gh,Aof,Af8]) 400 151 [c.av,f.av] (fun w_=>(seG [seI .u8,seI .i64,seI .u64,seI .u64,seI .u64,seI .i64,seI .u32]).eq (Ld (⟨f,c,lvL c.cap c.node,lvN c.cap c.node,0,0,false⟩:TRa)) w_) false))=true:=stp c f h
 have e:Aex (⟨f,c,lvL c.cap c.node,lvN c.cap c.node,0,0,false⟩:TRa)=Ld (⟨f,c,lvL c.cap c.node,lvN c.cap c.node,0,0,false⟩:TRa):=(A7q _).symm.trans (sp_act.ok _ (Aj q)).symm
 rw [e] at hk
 exact (Dh (Af q) (fun w_ hw=>((seG [seI .u8,seI .i64,seI .u64,seI .u64,seI .u64,seI .i64,seI .u32])).ok _ _ hw) k).trans hk
end
end Go.Bas.BasZR13s
