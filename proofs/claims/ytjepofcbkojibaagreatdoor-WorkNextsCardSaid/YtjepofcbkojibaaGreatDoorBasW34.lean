/- The document's program of an index: where a frame may be; all cases. -/
import Derived.Test.YtjepofcbkojibaaGreatDoorBasW22
import Derived.Test.YtjepofcbkojibaaGreatDoorBasW23
import Derived.Test.YtjepofcbkojibaaGreatDoorBasW24
import Derived.Test.YtjepofcbkojibaaGreatDoorBasW25
import Derived.Test.YtjepofcbkojibaaGreatDoorBasW26
import Derived.Test.YtjepofcbkojibaaGreatDoorBasW27
import Derived.Test.YtjepofcbkojibaaGreatDoorBasW28
import Derived.Test.YtjepofcbkojibaaGreatDoorBasW29
import Derived.Test.YtjepofcbkojibaaGreatDoorBasW30
import Derived.Test.YtjepofcbkojibaaGreatDoorBasW31
import Derived.Test.YtjepofcbkojibaaGreatDoorBasW32
import Derived.Test.YtjepofcbkojibaaGreatDoorBasW33
set_option maxRecDepth 100000
set_option maxHeartbeats 4000000
set_option linter.unusedVariables false
set_option linter.unusedSimpArgs false
namespace Go.Bas.BasZR13n
noncomputable section
open Go.RowKit Go.Proofs
open BasZBase BasZOp BasZOk BasZRef14 BasZR14 BasZRank BasZR3 BasZTreB BasZTre BasZR13 BasZR13c BasZR13s BasZR13m BasZR13ma BasZR13mb BasZR13mc BasZR13md BasZR13me BasZR13mf BasZR13mg BasZR13mh BasZR13mi BasZR13mj BasZR13mk BasZR13ml
def Ayb:Sum:=(281,on2 (rI .u8) (rI .u8) (fun kd q=>(decide (4<=kd)&&decide (kd<=8))&&!(thB kd q)) (fun _ _=>.bool false))
theorem Bgg:Bc Tryz.prog (Cb gs) Ayb:=Je (fun kd q h=>⟨Aj h,by rw [Oc (Af h)]⟩) Bjt
abbrev A8g:AV->Bool:=fun w_=>seB.eq (.bool false) w_
abbrev Awa (f:Frm):=BasZRef5b.posR (Opr.mk f.1 f.2 0 0)
abbrev Aoz (f:Frm):Bool:=ba ((decide (4<=f.1)&&decide (f.1<=8))&&(!(BasZR13.thB f.1 f.4))) true
abbrev Bgc (f:Frm):=BasZRef5b.posR (Opr.mk f.1 f.2 f.3 0)
abbrev B0t (c:Conf) (f:Frm):=Ag c (Opr.mk f.1 f.2 f.3 0)
theorem t_mNx (c:Conf) (f:Frm) (hp:posH f=true) (hop:decide (Ag c (BasZR13m.opD f)=0)=true) (hq:((decide (4<=f.kind)&&decide (f.kind<=8))&&!(thB f.kind f.pc))=true):Ai (cfg [Jp,Ayb]) 400 209 [c.av,f.av] A8g false=true:=Eq.trans (b:=(br (decide (f.1=5)) (ba ((Awa f)&&decide ((Ag c (Opr.mk f.1 f.2 0 0))=0)) (Aoz f)) (ba ((Bgc f)&&decide ((B0t c f)=0)) (Aoz f)))) (by kernel_rfl) (bdt (fun h_1=>(band (A8 (Ov hp) (Qo h_1 hop)) (band hq rfl))) (fun h_1=>(band (A8 (Bg (Fz hp)) (Qp h_1 hop)) (band hq rfl))))
theorem Bos (c:Conf) (f:Frm) (hp:posH f=true) (hop:decide (Ag c (BasZR13m.opD f)=10)=true):Ai (cfg [Ace]) 400 209 [c.av,f.av] A8g false=true:=Eq.trans (b:=(br (decide (f.1=5)) (ba ((Awa f)&&decide ((Ag c (Opr.mk f.1 f.2 0 0))=10)) true) (ba ((Bgc f)&&decide ((B0t c f)=10)) true))) (by kernel_rfl) (bdt (fun h_1=>(band (A8 (Ov hp) (Qo h_1 hop)) rfl)) (fun h_1=>(band (A8 (Bg (Fz hp)) (Qp h_1 hop)) rfl)))
theorem Bot (c:Conf) (f:Frm) (hp:posH f=true) (hop:decide (Ag c (BasZR13m.opD f)=40)=true):Ai (cfg [Acf]) 400 209 [c.av,f.av] A8g false=true:=Eq.trans (b:=(br (decide (f.1=5)) (ba ((Awa f)&&decide ((Ag c (Opr.mk f.1 f.2 0 0))=40)) true) (ba ((Bgc f)&&decide ((B0t c f)=40)) true))) (by kernel_rfl) (bdt (fun h_1=>(band (A8 (Ov hp) (Qo h_1 hop)) rfl)) (fun h_1=>(band (A8 (Bg (Fz hp)) (Qp h_1 hop)) rfl)))
theorem Bou (c:Conf) (f:Frm) (hp:posH f=true) (hop:decide (Ag c (BasZR13m.opD f)=50)=true):Ai (cfg [Acg]) 400 209 [c.av,f.av] A8g false=true:=Eq.trans (b:=(br (decide (f.1=5)) (ba ((Awa f)&&decide ((Ag c (Opr.mk f.1 f.2 0 0))=50)) true) (ba ((Bgc f)&&decide ((B0t c f)=50)) true))) (by kernel_rfl) (bdt (fun h_1=>(band (A8 (Ov hp) (Qo h_1 hop)) rfl)) (fun h_1=>(band (A8 (Bg (Fz hp)) (Qp h_1 hop)) rfl)))
section
variable (c:Conf) (f:Frm)
abbrev B15:Bool:=ba ((Ey (lvL c.7 c.8) (lvN c.7 c.8))&&(decide (0<=f.9)&&decide (f.9<(Int.ofNat (lvN c.7 c.8))))) (!decide ((Bj (TRa.mk f c (lvL c.7 c.8) (lvN c.7 c.8) 0 0 false))>=0))
abbrev zdw6:Bool:=br (decide (f.9<1)) true (br (decide ((IntKind.wrap .i64 f.5)>=(Dz (IntKind.wrap .i64 f.7) c.8 (IntKind.wrap .i64 f.9)))) true (B15 c f))
abbrev zdw7:Bool:=br (decide (f.4=9)) (zdw6 c f) (br (decide (f.4=11)) (zdw6 c f) (br (decide (f.4=12)) (br (decide (f.9<1)) true (B15 c f)) (br (decide (f.4=6)) (br (decide (f.5<1)) true (B15 c f)) (B15 c f))))
abbrev zdw8:Bool:=br (!(G7 (TRa.mk f c (lvL c.7 c.8) (lvN c.7 c.8) 0 0 false))) true (br (decide ((IntKind.wrap .i64 f.7)>c.7)) true (br (decide ((IntKind.wrap .i64 f.8)>c.7)) true (br (decide ((IntKind.wrap .i64 f.6)>c.10)) true (ba (Ey (lvL c.7 c.8) (lvN c.7 c.8)) (br (decide (f.9>((Int.ofNat (lvN c.7 c.8))-1))) true (br (!decide (f.4=16)) (br (decide ((IntKind.wrap .i64 f.6)=c.10)) true (zdw7 c f)) (zdw7 c f)))))))
end
theorem t_mPn (c:Conf) (f:Frm) (hp:posH f=true) (hop:decide (Ag c (BasZR13m.opD f)=0)=false):Ai (cfg [Qk,Wq,J6,Wp,Qm]) 400 309 [(TRa.av (⟨f,c,lvL c.cap c.node,lvN c.cap c.node,0,0,false⟩:TRa))] (fun v_=>seB.eq (.bool false) v_) false=true:=Eq.trans (b:=(br (decide (f.1=5)) (ba (Ie (Opr.mk f.1 f.2 0 0)) (br (!decide ((Ag c (Opr.mk f.1 f.2 0 0))=0)) true (zdw8 c f))) (ba (Ie (Opr.mk f.1 f.2 f.3 0)) (br (!decide ((B0t c f)=0)) true (zdw8 c f))))) (by kernel_rfl) (bdt (fun h_1=>(band (Aj (Ov hp)) (btb (Am (opN_t h_1 hop)) rfl))) (fun h_1=>(band (Aj (Bg (Fz hp))) (btb (Am (opN_f h_1 hop)) rfl))))
theorem Zk {c:Conf} {F:Frm} {T:Tr} (hP:Ai (cfg [Qk,Wq,J6,Wp,Qm]) 400 309 [(TRa.av (mkr c F))] (fun v_=>Tr.ev T (fun l_=>seB.eq (lget l_ 0) v_) false) false=true)
  (hR:Ai (cfg [Jp,Aey,Gh,X5,Aae]) 400 209 [c.av,F.av] (fun v_=>Tr.ev T (fun l_=>seB.eq (lget l_ 0) v_) false) false=true):∀ k:AV->Bool,Ai (cfg [Jp,Aey,Gh,X5,Aae]) 400 209 [c.av,F.av] k false=k (.bool (Ce (mkr c F))):=by
 have hv:Tr.ev T (fun l_=>seB.eq (lget l_ 0) (Oh (mkr c F))) false=true:=Gx (P:=fun v_=>Tr.ev T (fun l_=>seB.eq (lget l_ 0) v_) false) (X:=Oh (mkr c F)) hP rfl
 have e:Oh (mkr c F)=.bool (Ce (mkr c F)):=(sp_may.ok _ (Bfd hv)).trans (Av5 (mkr c F))
 exact Dh hR (fun w hw=>(Av7 hv hw).trans e)
theorem may_L (c:Conf) (f:Frm) (hw:Bf c.cap 1 c.node=true) (hp:posH f=true) (hop:decide (Ag c (BasZR13m.opD f)=0)=true) (h48:(decide (4<=f.kind)&&decide (f.kind<=8))=true) (hk:thB f.kind f.pc=true):∀ k:AV->Bool,Ai (cfg [Jp,Aey,Gh,X5,Aae]) 400 209 [c.av,f.av] k false=k (.bool (Ce (mkr c f))):=by
 have hin:=th_in hk
 have hH:=(Aoi (mkr c f) h48).trans hk
 have hT:=A8 h48 hk
 have hh:=(F5 hp).2.2.2
 have hn:=(Ik.1 hp).2.2.2.2.1
 obtain ⟨kind,a,b,pc,i,j,n,p,h,x,y⟩:=f
 have hin:inPc pc=true:=hin
 have hh:0<=h/\h<=255:=hh
 have hn:0<=n/\n<=255:=hn
 by_cases n6:pc=6
 ·subst n6
  exact Zk (A8a c kind a b i j n p h x y hw hop hp hh hn hH) (Bop c kind a b i j n p h x y hw hop hp hh hn hT hin)
 by_cases n9:pc=9
 ·subst n9
  exact Zk (A8c c kind a b i j n p h x y hw hop hp hh hn hH) (Boq c kind a b i j n p h x y hw hop hp hh hn hT hin)
 by_cases n11:pc=11
 ·subst n11
  exact Zk (Ax9 c kind a b i j n p h x y hw hop hp hh hn hH) (Bge c kind a b i j n p h x y hw hop hp hh hn hT hin)
 by_cases n12:pc=12
 ·subst n12
  exact Zk (Aya c kind a b i j n p h x y hw hop hp hh hn hH) (Bgf c kind a b i j n p h x y hw hop hp hh hn hT hin)
 by_cases n16:pc=16
 ·subst n16
  exact Zk (Ax6 c kind a b i j n p h x y hw hop hp hh hn hH) (Bgb c kind a b i j n p h x y hw hop hp hh hn hT hin)
 exact Zk (Ax7 c kind a b pc i j n p h x y hw hop hp hh hn n6 n9 n11 n12 n16 hH) (Bgd c kind a b pc i j n p h x y hw hop hp hh hn n6 n9 n11 n12 n16 hT hin)
theorem La {b:Bool} {y:Tr} (h:(Tr.br b (.leaf [.bool false]) y).ev (fun l_=>seB.eq (lget l_ 0) (.bool true)) false=true):b=false/\y.ev (fun l_=>seB.eq (lget l_ 0) (.bool true)) false=true:=by
 cases b with
 | true=>cases (show (false:Bool)=true from h)
 | false=>exact ⟨rfl,h⟩
theorem U7 {c:Conf} {F:Frm} {T:Tr} (hP:Ai (cfg [Qk,Wq,J6,Wp,Qm]) 400 309 [(TRa.av (mkr c F))] (fun v_=>Tr.ev T (fun l_=>seB.eq (lget l_ 0) v_) false) false=true) (hm:Ce (mkr c F)=true):T.ev (fun l_=>seB.eq (lget l_ 0) (.bool true)) false=true:=by
 have hv:Tr.ev T (fun l_=>seB.eq (lget l_ 0) (Oh (mkr c F))) false=true:=Gx (P:=fun v_=>Tr.ev T (fun l_=>seB.eq (lget l_ 0) v_) false) (X:=Oh (mkr c F)) hP rfl
 have e:Oh (mkr c F)=.bool (Ce (mkr c F)):=(sp_may.ok _ (Bfd hv)).trans (Av5 (mkr c F))
 rw [e,hm] at hv
 exact hv
theorem A8h (c:Conf) (f:Frm) (hw:Bf c.cap 1 c.node=true) (hp:posH f=true) (hop:decide (Ag c (BasZR13m.opD f)=0)=true) (h48:(decide (4<=f.kind)&&decide (f.kind<=8))=true) (hk:thB f.kind f.pc=true) (hm:Ce (mkr c f)=true):preS (lvN c.cap c.node) c f=true:=by
 have hin:=th_in hk
 have hH:=(Aoi (mkr c f) h48).trans hk
 have hh:=(F5 hp).2.2.2
 have hn:=(Ik.1 hp).2.2.2.2.1
 obtain ⟨kind,a,b,pc,i,j,n,p,h,x,y⟩:=f
 have hin:inPc pc=true:=hin
 have hh:0<=h/\h<=255:=hh
 have hn:0<=n/\n<=255:=hn
 by_cases n6:pc=6
 ·subst n6
  have h0:=U7 (A8a c kind a b i j n p h x y hw hop hp hh hn hH) hm;obtain ⟨c1,t⟩:=La h0;obtain ⟨c2,t⟩:=La t;obtain ⟨c3,t⟩:=La t;obtain ⟨c4,t⟩:=La t;exact Ib hw hp hin c1 c4 (nb6 rfl)
 by_cases n9:pc=9
 ·subst n9
  have h0:=U7 (A8c c kind a b i j n p h x y hw hop hp hh hn hH) hm;obtain ⟨c1,t⟩:=La h0;obtain ⟨c2,t⟩:=La t;obtain ⟨c3,t⟩:=La t;obtain ⟨c4,t⟩:=La t;obtain ⟨c5,t⟩:=La t;obtain ⟨c6,t⟩:=La t;obtain ⟨c7,t⟩:=La t;exact Ib hw hp hin c1 c4 (nb9 (.inl rfl) c6 c7)
 by_cases n11:pc=11
 ·subst n11
  have h0:=U7 (Ax9 c kind a b i j n p h x y hw hop hp hh hn hH) hm;obtain ⟨c1,t⟩:=La h0;obtain ⟨c2,t⟩:=La t;obtain ⟨c3,t⟩:=La t;obtain ⟨c4,t⟩:=La t;obtain ⟨c5,t⟩:=La t;obtain ⟨c6,t⟩:=La t;obtain ⟨c7,t⟩:=La t;exact Ib hw hp hin c1 c4 (nb9 (.inr rfl) c6 c7)
 by_cases n12:pc=12
 ·subst n12
  have h0:=U7 (Aya c kind a b i j n p h x y hw hop hp hh hn hH) hm;obtain ⟨c1,t⟩:=La h0;obtain ⟨c2,t⟩:=La t;obtain ⟨c3,t⟩:=La t;obtain ⟨c4,t⟩:=La t;obtain ⟨c5,t⟩:=La t;obtain ⟨c6,t⟩:=La t;exact Ib hw hp hin c1 c4 (nb12 rfl c6)
 by_cases n16:pc=16
 ·subst n16
  have h0:=U7 (Ax6 c kind a b i j n p h x y hw hop hp hh hn hH) hm;obtain ⟨c1,t⟩:=La h0;obtain ⟨c2,t⟩:=La t;obtain ⟨c3,t⟩:=La t;obtain ⟨c4,t⟩:=La t;exact Ib hw hp hin c1 c4 (nbx (show ¬ (16:Int)=9 by decide) (show ¬ (16:Int)=11 by decide) (show ¬ (16:Int)=12 by decide))
 have h0:=U7 (Ax7 c kind a b pc i j n p h x y hw hop hp hh hn n6 n9 n11 n12 n16 hH) hm
 obtain ⟨c1,t⟩:=La h0
 obtain ⟨c2,t⟩:=La t
 obtain ⟨c3,t⟩:=La t
 obtain ⟨c4,t⟩:=La t
 exact Ib hw hp hin c1 c4 (nbx n9 n11 n12)
theorem A8i (c:Conf) (f:Frm) (hp:posH f=true) (hop:decide (Ag c (BasZR13m.opD f)=0)=false):Ce (mkr c f)=false:=by
 have h:seB.eq (.bool false) (Oh (mkr c f))=true:=Gx (P:=fun v_=>seB.eq (.bool false) v_) (X:=Oh (mkr c f)) (t_mPn c f hp hop) rfl
 have e:Oh (mkr c f)=.bool false:=seB.ok _ _ h
 unfold Ce
 rw [e]
 rfl
def Ao2:Sum:=(209,on2 Dp Ji (fun c f=>decide (Az c=0)&&(decide (c.ob=2)&&posH f)) (fun c f=>.bool (Ce (mkr c f))))
theorem Bgl:Bc Tryz.prog (Cb gs) Ao2:=Cm fun c f h=>by
 have he:=Aj h
 have ho:=Aj (Af h)
 have hp:=Af (Af h)
 have hw:=Ky he ho
 have hr:=Bj3 hp
 have hn:=F5 hp
 cases hop:decide (Ag c (BasZR13m.opD f)=0) with
 | true =>
  have q:=Aen (o:=BasZR13m.opD f) hn.1.1 hn.1.2 (Aj hr |> fun z=>by unfold Ie at z;simp only [Bae,Dte] at z;exact z.2.2) (Odt hop)
  have k:Be f.kind=c.ob:=q.1;have hob:=Odt ho
  have h48:(decide (4<=f.kind)&&decide (f.kind<=8))=true:=by
   have:=Aa1 hn.1.1 hn.1.2;rw [Ddt (show 4<=f.kind by omega),Ddt (show f.kind<=8 by omega)]
   rfl
  cases ht:thB f.kind f.pc with
  | true=>exact Aq base (Ah Zh (Ah s_thT (Ah S9 (Ah Adx (Ah Bj2 Ap))))) (n:=400) fun k hk=>(may_L c f hw hp hop h48 ht k).trans hk
  | false =>
   have hm:Ce (mkr c f)=false:=by
    cases hm:Ce (mkr c f) with
    | false=>rfl
    | true =>
     have e:=(X7 (mkr c f) (Dn hp) (H6 hw) hm).2;rw [Aoi _ h48] at e;exact ht.symm.trans e |>.symm
   rw [hm];exact Aq base (Ah Zh (Ah Bgg Ap)) (n:=400) fun k hk=>(Dh (t_mNx c f hp hop (by rw [h48,ht];rfl)) (fun w_ hw=>seB.ok _ _ hw) k).trans hk
 | false =>
  rw [A8i c f hp hop];have h0:=Odf hop
  rcases Aw3 (c:=c) (Aj hr) with h|h|h|h
  ·exact absurd h h0
  ·exact Aq base (Ah Ark Ap) (n:=400) fun k hk=>(Dh (Bos c f hp (Ddt h)) (fun w_ hw=>seB.ok _ _ hw) k).trans hk
  ·exact Aq base (Ah Arl Ap) (n:=400) fun k hk=>(Dh (Bot c f hp (Ddt h)) (fun w_ hw=>seB.ok _ _ hw) k).trans hk
  ·exact Aq base (Ah Arm Ap) (n:=400) fun k hk=>(Dh (Bou c f hp (Ddt h)) (fun w_ hw=>seB.ok _ _ hw) k).trans hk
theorem Bgm (c:Conf) (f:Frm) (he:decide (Az c=0)=true) (ho:decide (c.ob=2)=true) (hp:posH f=true) (hm:Ce (mkr c f)=true):preS (lvN c.cap c.node) c f=true:=by
 have hw:=Ky he ho
 have hr:=Bj3 hp
 have hn:=F5 hp
 cases hop:decide (Ag c (BasZR13m.opD f)=0) with
 | false=>exact absurd (hm.symm.trans (A8i c f hp hop)) (by decide)
 | true =>
  have q:=Aen (o:=BasZR13m.opD f) hn.1.1 hn.1.2 (Aj hr |> fun z=>by unfold Ie at z;simp only [Bae,Dte] at z;exact z.2.2) (Odt hop)
  have k:Be f.kind=c.ob:=q.1;have hob:=Odt ho
  have h48:(decide (4<=f.kind)&&decide (f.kind<=8))=true:=by
   have:=Aa1 hn.1.1 hn.1.2;rw [Ddt (show 4<=f.kind by omega),Ddt (show f.kind<=8 by omega)]
   rfl
  have e:=(X7 (mkr c f) (Dn hp) (H6 hw) hm).2;rw [Aoi _ h48] at e;exact A8h c f hw hp hop h48 e hm
end
end Go.Bas.BasZR13n
