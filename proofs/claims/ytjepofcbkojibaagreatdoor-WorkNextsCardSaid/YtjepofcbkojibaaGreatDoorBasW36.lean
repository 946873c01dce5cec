/- An act is to read, to write or to end, where the kind writes. -/
import Derived.Test.YtjepofcbkojibaaGreatDoorBasW35
set_option maxRecDepth 100000
set_option maxHeartbeats 4000000
set_option linter.unusedVariables false
set_option linter.unusedSimpArgs false
namespace Go.Bas.BasZR25a
noncomputable section
open Go.RowKit Go.Proofs
open BasZBase BasZOp BasZOk BasZOk2 BasZOk3 BasZOk4 BasZR14 BasZGate BasZTrie BasZBranch BasZR15 BasZR15e BasZR16 BasZR16b BasZRank BasZRank3 BasZTreB BasZTre BasZProg
def isK (n:Int):Prop:=n=1\/n=2\/n=4
def K (T:Tr):Prop:=T.ok=true->T.int 7=0->isK (T.int 0)
def K6 (T:Tr):Prop:=T.ok=true->isK (T.int 0)
theorem brK {b:Bool} {x y:Tr} (hx:b=true->K x) (hy:b=false->K y):K (.br b x y):=by
 cases b
 ·exact hy rfl
 ·exact hx rfl
theorem brK6 {b:Bool} {x y:Tr} (hx:K6 x) (hy:K6 y):K6 (.br b x y):=by
 cases b
 ·exact hy
 ·exact hx
theorem k_3 {c:Conf} {f:Frm} (hp:posH f=true) (h7:O5 c f=0):isK (L9 c f):=by
 have q:K (G5 c f):=by
  unfold G5
  repeat' (first
   | exact fun _ _=>.inl rfl
   | exact fun _ _=>.inr (.inl rfl)
   | exact fun _ _=>.inr (.inr rfl)
   | (intro h;cases h;done)
   | (exact fun _ h=>absurd (show Gf c f=0 from h) (Odf (Oc (by assumption))))
   | refine brK (fun _=>?_) (fun _=>?_))
 exact q (Acb (Dn hp)) h7
theorem k_1 {c:Conf} {f:Frm} (hp:posH f=true) (h7:O7 c f=0):isK (Nk c f):=by
 have q:K (Eh c f):=by
  unfold Eh;try simp only [Bt7,Bt8,Bt9,Bw1,Bw2,Br1,Bsq,Bw3]
  repeat' (first
   | exact fun _ _=>.inl rfl
   | exact fun _ _=>.inr (.inl rfl)
   | exact fun _ _=>.inr (.inr rfl)
   | (intro h;cases h;done)
   | (exact fun _ h=>absurd (show (2:Int)=0 from h) (by decide))
   | (exact fun _ h=>absurd (show (40:Int)=0 from h) (by decide))
   | (exact fun _ h=>absurd (show Az c=0 from h) (Odf (Oc (by assumption))))
   | refine brK (fun _=>?_) (fun _=>?_))
 exact q (Acd (Dn hp)) h7
theorem k_4 {c:Conf} {f:Frm} {m:Int} (hp:posH f=true) (hm:1<=m/\m<=3) (hw:f_wmay_0 (A7 c f m) c=true):isK (Ha (A7 c f m)):=by
 have h2:=Jz (size:=c.cap) (n0:=iand .u32 f.a 65535) (n1:=ishr .u32 f.a 16) (n2:=f.b) (Arf (Dn hp) hm.2 hw) hm
 have q:K6 (Dy (A7 c f m)):=by
  unfold Dy;try simp only [Bu8]
  repeat' (first
   | exact fun _=>.inl rfl
   | exact fun _=>.inr (.inl rfl)
   | exact fun _=>.inr (.inr rfl)
   | (intro h;cases h;done)
   | refine brK6 ?_ ?_)
 exact q h2
section
variable (r:TRa)
abbrev Buh:Bool:=br (decide (r.1.4=16)) (ba (decide (r.1.1=8)) true) true
abbrev Bxq:Bool:=br (decide (r.1.1=4)) (Buh r) true
abbrev Bxr:Bool:=br (decide (r.1.1=5)) (Buh r) true
abbrev zem3:Bool:=br (decide (r.1.1=4)) (Buh r) (Bxr r)
abbrev zem4:Bool:=br (decide (r.1.1=8)) (Buh r) true
theorem B4p:Ai (cfg []) 300 329 [(TRa.av r)] (fun v=>sp_has.has v&&(bif v.toB then (bif decide (r.f.pc=16) then (bif decide (r.f.kind=8) then true else false) else true) else true)) false=true:=Eq.trans (b:=(br (decide (r.1.4=0)) (Buh r) (br (decide (r.1.4=1)) (Buh r) (br (decide (r.1.4=3)) (br (decide (r.1.1=7)) (Buh r) true) (br (decide (r.1.4=4)) (Bxq r) (br (decide (r.1.4=5)) (Bxq r) (br (decide (r.1.4=6)) (Bxq r) (br (decide (r.1.4=7)) (Bxq r) (br (decide (r.1.4=22)) (Bxq r) (br (decide (r.1.4=24)) (Bxq r) (br (decide (r.1.4=8)) (zem3 r) (br (decide (r.1.4=9)) (zem3 r) (br (decide (r.1.4=11)) (zem3 r) (br (decide (r.1.4=12)) (Bxr r) (br (decide (r.1.4=13)) (Bxr r) (br (decide (r.1.4=14)) (Bxr r) (br (decide (r.1.4=15)) (Bxr r) (br (decide (r.1.4=25)) (Bxr r) (br (decide (r.1.4=16)) (zem4 r) (br (decide (r.1.4=17)) (zem4 r) (br (decide (r.1.4=20)) (br (decide (r.1.1=7)) (Buh r) (zem4 r)) (br (decide (r.1.4=21)) (br (decide (r.1.1=6)) (Buh r) (br (decide (r.1.1=7)) (Buh r) (Bxr r))) (br (decide (r.1.4=23)) (br (decide (r.1.1=6)) (Buh r) (Bxq r)) true))))))))))))))))))))))) (by kernel_rfl) (bdt (fun h_1=>(btf (Fq h_1 rfl) rfl)) (fun h_1=>(bdt (fun h_2=>(btf (Fq h_2 rfl) rfl)) (fun h_2=>(bdt (fun h_3=>(bdt (fun h_4=>(btf (Fq h_3 rfl) rfl)) (fun h_4=>rfl))) (fun h_3=>(bdt (fun h_4=>(bdt (fun h_5=>(btf (Fq h_4 rfl) rfl)) (fun h_5=>rfl))) (fun h_4=>(bdt (fun h_5=>(bdt (fun h_6=>(btf (Fq h_5 rfl) rfl)) (fun h_6=>rfl))) (fun h_5=>(bdt (fun h_6=>(bdt (fun h_7=>(btf (Fq h_6 rfl) rfl)) (fun h_7=>rfl))) (fun h_6=>(bdt (fun h_7=>(bdt (fun h_8=>(btf (Fq h_7 rfl) rfl)) (fun h_8=>rfl))) (fun h_7=>(bdt (fun h_8=>(bdt (fun h_9=>(btf (Fq h_8 rfl) rfl)) (fun h_9=>rfl))) (fun h_8=>(bdt (fun h_9=>(bdt (fun h_10=>(btf (Fq h_9 rfl) rfl)) (fun h_10=>rfl))) (fun h_9=>(bdt (fun h_10=>(bdt (fun h_11=>(btf (Fq h_10 rfl) rfl)) (fun h_11=>(bdt (fun h_12=>(btf (Fq h_10 rfl) rfl)) (fun h_12=>rfl))))) (fun h_10=>(bdt (fun h_11=>(bdt (fun h_12=>(btf (Fq h_11 rfl) rfl)) (fun h_12=>(bdt (fun h_13=>(btf (Fq h_11 rfl) rfl)) (fun h_13=>rfl))))) (fun h_11=>(bdt (fun h_12=>(bdt (fun h_13=>(btf (Fq h_12 rfl) rfl)) (fun h_13=>(bdt (fun h_14=>(btf (Fq h_12 rfl) rfl)) (fun h_14=>rfl))))) (fun h_12=>(bdt (fun h_13=>(bdt (fun h_14=>(btf (Fq h_13 rfl) rfl)) (fun h_14=>rfl))) (fun h_13=>(bdt (fun h_14=>(bdt (fun h_15=>(btf (Fq h_14 rfl) rfl)) (fun h_15=>rfl))) (fun h_14=>(bdt (fun h_15=>(bdt (fun h_16=>(btf (Fq h_15 rfl) rfl)) (fun h_16=>rfl))) (fun h_15=>(bdt (fun h_16=>(bdt (fun h_17=>(btf (Fq h_16 rfl) rfl)) (fun h_17=>rfl))) (fun h_16=>(bdt (fun h_17=>(bdt (fun h_18=>(btf (Fq h_17 rfl) rfl)) (fun h_18=>rfl))) (fun h_17=>(bdt (fun h_18=>(bdt (fun h_19=>(btb h_18 (band h_19 rfl))) (fun h_19=>rfl))) (fun h_18=>(bdt (fun h_19=>(bdt (fun h_20=>(btf h_18 rfl)) (fun h_20=>rfl))) (fun h_19=>(bdt (fun h_20=>(bdt (fun h_21=>(btf h_18 rfl)) (fun h_21=>(bdt (fun h_22=>(btf h_18 rfl)) (fun h_22=>rfl))))) (fun h_20=>(bdt (fun h_21=>(bdt (fun h_22=>(btf h_18 rfl)) (fun h_22=>(bdt (fun h_23=>(btf h_18 rfl)) (fun h_23=>(bdt (fun h_24=>(btf h_18 rfl)) (fun h_24=>rfl))))))) (fun h_21=>(bdt (fun h_22=>(bdt (fun h_23=>(btf h_18 rfl)) (fun h_23=>(bdt (fun h_24=>(btf h_18 rfl)) (fun h_24=>rfl))))) (fun h_22=>rfl))))))))))))))))))))))))))))))))))))))))))))
abbrev Bup:Bool:=br (decide (r.1.4=16)) true true
abbrev zem6:Bool:=ba ((Ey r.3 r.4)&&(BasZTre.qOk r.4 r.1.9)) (Bup r)
abbrev Bui:Bool:=ba ((Ey r.3 r.4)&&(BasZTre.qOk r.4 0)) (Bup r)
abbrev zem8:Bool:=ba ((Ey r.3 r.4)&&(BasZTre.qOk r.4 (IntKind.wrap .u8 (r.1.9-1)))) (Bup r)
end
theorem B4r (r:TRa) (hv:Ey r.us r.m=true) (hq:qOk r.m r.f.h=true) (h0:qOk r.m 0=true) (h9:qOk r.m (IntKind.wrap .u8 (r.f.h-1))=true):Ai (cfg [J6,Ald,Al1]) 400 277 [(TRa.av r)] (fun v_=>sp_act.has v_&&(bif decide (r.f.pc=16) then true else (bif decide (AV.toI (AV.ix v_ 0)=1) then true else (bif decide (AV.toI (AV.ix v_ 0)=2) then true else (bif decide (AV.toI (AV.ix v_ 0)=4) then true else false))))) false=true:=Eq.trans (b:=(br (decide (r.1.4=0)) (Bup r) (br (decide (r.1.4=1)) (zem6 r) (br (decide (r.1.4=3)) (Bui r) (br (decide (r.1.4=4)) (Bui r) (br (decide (r.1.4=7)) (Bui r) (br (decide (r.1.4=5)) (Bui r) (br (decide (r.1.4=6)) (Bui r) (br (decide (r.1.4=8)) (Bup r) (br (decide (r.1.4=9)) (br (!decide ((P9 (IntKind.wrap .i64 r.1.7) r.2.8 (IntKind.wrap .i64 r.1.9) (IntKind.wrap .i64 r.1.5))=0)) (zem8 r) (zem8 r)) (br (decide (r.1.4=11)) (zem6 r) (br (decide (r.1.4=12)) (zem6 r) (br (decide (r.1.4=13)) (br (decide (r.1.4=17)) (Bui r) (Bui r)) (br (decide (r.1.4=17)) (br (decide (r.1.4=17)) (Bui r) (Bui r)) (br (decide (r.1.4=14)) (Bui r) (br (decide (r.1.4=15)) (Bui r) (br (decide (r.1.4=16)) (ba (decide (r.1.4=16)) true) (br (decide (r.1.4=21)) (Bup r) (br (decide (r.1.4=22)) (Bup r) (br (decide (r.1.4=23)) (Bup r) (br (decide (r.1.4=25)) (Bup r) (Bup r)))))))))))))))))))))) (by kernel_rfl) (bdt (fun h_1=>(btf (Fq h_1 rfl) rfl)) (fun h_1=>(bdt (fun h_2=>(band (G6 hv hq) (btf (Fq h_2 rfl) rfl))) (fun h_2=>(bdt (fun h_3=>(band (G6 hv h0) (btf (Fq h_3 rfl) rfl))) (fun h_3=>(bdt (fun h_4=>(band (G6 hv h0) (btf (Fq h_4 rfl) rfl))) (fun h_4=>(bdt (fun h_5=>(band (G6 hv h0) (btf (Fq h_5 rfl) rfl))) (fun h_5=>(bdt (fun h_6=>(band (G6 hv h0) (btf (Fq h_6 rfl) rfl))) (fun h_6=>(bdt (fun h_7=>(band (G6 hv h0) (btf (Fq h_7 rfl) rfl))) (fun h_7=>(bdt (fun h_8=>(btf (Fq h_8 rfl) rfl)) (fun h_8=>(bdt (fun h_9=>(bdt (fun h_10=>(band (G6 hv h9) (btf (Fq h_9 rfl) rfl))) (fun h_10=>(band (G6 hv h9) (btf (Fq h_9 rfl) rfl))))) (fun h_9=>(bdt (fun h_10=>(band (G6 hv hq) (btf (Fq h_10 rfl) rfl))) (fun h_10=>(bdt (fun h_11=>(band (G6 hv hq) (btf (Fq h_11 rfl) rfl))) (fun h_11=>(bdt (fun h_12=>(btf (Fq h_12 rfl) (band (G6 hv h0) (btf (Fq h_12 rfl) rfl)))) (fun h_12=>(bdt (fun h_13=>(btb h_13 (band (G6 hv h0) (btf (Fq h_13 rfl) rfl)))) (fun h_13=>(bdt (fun h_14=>(band (G6 hv h0) (btf (Fq h_14 rfl) rfl))) (fun h_14=>(bdt (fun h_15=>(band (G6 hv h0) (btf (Fq h_15 rfl) rfl))) (fun h_15=>(bdt (fun h_16=>(band h_16 rfl)) (fun h_16=>(bdt (fun h_17=>(btf h_16 rfl)) (fun h_17=>(bdt (fun h_18=>(btf h_16 rfl)) (fun h_18=>(bdt (fun h_19=>(btf h_16 rfl)) (fun h_19=>(bdt (fun h_20=>(btf h_16 rfl)) (fun h_20=>(btf h_16 rfl)))))))))))))))))))))))))))))))))))))))))
theorem of_3 {n:Int} {b:Bool} (hb:b=false) (h:(bif b then true else (bif decide (n=1) then true else (bif decide (n=2) then true else (bif decide (n=4) then true else false))))=true):isK n:=by
 rw [hb] at h
 by_cases h1:n=1
 ·exact .inl h1
 by_cases h2:n=2
 ·exact .inr (.inl h2)
 by_cases h4:n=4
 ·exact .inr (.inr h4)
 rw [Ddf h1,Ddf h2,Ddf h4] at h
 cases h
theorem k_2 {c:Conf} {f:Frm} (he:decide (Az c=0)=true) (ho:c.ob=2) (hp:posH f=true) (hm:Ce (mkr c f)=true) (hw:Gs f.kind=true):isK (Le (mkr c f)):=by
 have hv:Ey (mkr c f).us (mkr c f).m=true:=H6 (Ky he (Ddt ho))
 have hv2:=X3 (Ky he (Ddt ho))
 have q:=H7.1 (Dn hp)
 have hM:=X7 (mkr c f) (Dn hp) hv hm
 have hpc:decide (f.pc=16)=false:=by
  cases hd:decide (f.pc=16) with
  | false=>rfl
  | true =>
   have h2:=A5k (Af (I4 (B4p (mkr c f))).1) hM.2;have h3:=A5k h2 hd;have h4:f.kind=8:=Odt (Bo h3).1;rw [h4] at hw;exact absurd hw (by decide +kernel)
 exact of_3 hpc (Af (I4 (B4r (mkr c f) hv (Adz q.2.2.2.1 hM.1) (Adz (Int.le_refl 0) (by show (0:Int)<(lvN c.cap c.node:Int);omega)) (A7p q.2.2.2.1 hM.1 hv2.2.2))).1)
theorem B0u {c:Conf} {f:Frm} (he:decide (Az c=0)=true) (hp:posH f=true) (h7:decide (Fj c f=0)=true) (hw:Gs f.kind=true):isK (Ee c f):=by
 rcases A8n he with ho|ho|ho|ho
 ·have e7:Fj c f=O7 c f:=by
   unfold Fj;rw [Asn he ho hp];rfl
  have e:Ee c f=Nk c f:=by
   unfold Ee;rw [Asn he ho hp];rfl
  rw [e];exact k_1 hp (e7 ▸ Odt h7)
 ·have hm:Ce (mkr c f)=true:=by
   rw [<- (A78 he ho hp).1,<- h7];unfold Fj;rw [Aso he ho hp];rfl
  have e:Ee c f=Le (mkr c f):=by
   unfold Ee;rw [(Aso he ho hp).trans ((A78 he ho hp).2 hm)];rfl
  rw [e];exact k_2 he ho hp hm hw
 ·have e7:Fj c f=O5 c f:=by
   unfold Fj;rw [Asp he ho hp];rfl
  have e:Ee c f=L9 c f:=by
   unfold Ee;rw [Asp he ho hp];rfl
  rw [e];exact k_3 hp (e7 ▸ Odt h7)
 ·have hm:f_wmay_0 (A7 c f (mny f)) c=true:=by
   rw [<- bN_e he ho hp,<- h7];unfold Fj;rw [Asq he ho hp];rfl
  have e:Ee c f=Ri c f:=by
   unfold Ee;rw [Asq he ho hp];rfl
  have e2:Ri c f=Ha (A7 c f (mny f)):=congrArg (fun v=>AV.toI (AV.ix v 0)) (A8o he ho hp hm)
  rw [e,e2]
  have hop:decide (Ag c (opF 12 f)=0)=true:=by
   cases hop:decide (Ag c (opF 12 f)=0) with
   | true=>rfl
   | false=>exact absurd (hm.symm.trans (Ax2 hop)) (by decide)
  have hM:=Ax3 ho hp hop;exact k_4 hp (by rw [hM.1];omega) hm
end
end Go.Bas.BasZR25a
