/- The document's program of an index: where a frame may be, asv the program's; What the program of all objects answers, object by object; The document's program of settings, put together: where a frame may be, and its act. -/
import Derived.Test.YtjepofcbkojibaaGreatDoorBasW7
import Derived.Test.YtjepofcbkojibaaGreatDoorBasW11
import Derived.Test.YtjepofcbkojibaaGreatDoorBasW16
import Derived.Test.YtjepofcbkojibaaGreatDoorBasW18
import Derived.Test.YtjepofcbkojibaaGreatDoorBasW19
import Derived.Test.YtjepofcbkojibaaGreatDoorBasW20
set_option maxRecDepth 100000
set_option maxHeartbeats 4000000
set_option linter.unusedVariables false
set_option linter.unusedSimpArgs false
section
namespace Go.Bas.BasZR13m
noncomputable section
open Go.RowKit Go.Proofs
open BasZBase BasZOp BasZOk BasZRef5b BasZRef14 BasZR14 BasZRank BasZRank3 BasZR3 BasZTreB BasZTre BasZR13 BasZR13c
theorem Aoi (r:TRa) (h:(decide (4<=r.f.kind)&&decide (r.f.kind<=8))=true):G7 r=thB r.f.kind r.f.pc:=by
 have e:Aog r=.bool (thB r.f.kind r.f.pc):=Adh (Dh (A70 r h) (fun w_ hw=>seB.ok _ _ hw))
 unfold G7
 rw [e]
 rfl
def opD (f:Frm):Opr:=⟨f.kind,f.a,cond (decide (f.kind=5)) 0 f.b,0⟩
theorem Ib {c:Conf} {f:Frm} (hw:Bf c.cap 1 c.node=true) (hp:posH f=true) (hin:inPc f.pc=true) (hn:decide (IntKind.wrap .i64 f.n>c.cap)=false) (ht:decide (f.h>Int.ofNat (lvN c.cap c.node)-1)=false) (hu:Aig c f=true):preS (lvN c.cap c.node) c f=true:=by
 have hb:=X3 hw
 have hx:=Ik.1 hp
 have hn:=Odf hn
 rw [Du hx.2.2.2.2.1.1 hx.2.2.2.2.1.2] at hn
 unfold preS
 rw [hb.1,hp,hin,Ddt (show f.n<=c.cap by omega),J7 ht,Nat.ble_eq_true_of_le hb.2.2,hu]
 rfl
theorem Qn {c:Conf} {n h:Int} (hw:Bf c.cap 1 c.node=true) (hn:0<=n/\n<=255) (hh:0<=h/\h<=255) (h1:decide (IntKind.wrap .i64 n>c.cap)=false) (ht:decide (h>Int.ofNat (lvN c.cap c.node)-1)=false):itR (IntKind.wrap .i64 n) c.node (IntKind.wrap .i64 h)=true:=by
 have hb:=X3 hw
 obtain ⟨a0,a1,b0,b1⟩:=Gg hw
 have h1:=Odf h1
 have h2:=Odt (J7 ht)
 rw [Du hn.1 hn.2] at h1 ⊢
 rw [Du hh.1 hh.2]
 exact Hr.2 ⟨⟨hn.1,by omega⟩,⟨b0,b1⟩,hh.1,by omega⟩
theorem nb9 {c:Conf} {f:Frm} (hp:f.pc=9\/f.pc=11) (h1:decide (f.h<1)=false) (hi:decide (IntKind.wrap .i64 f.i>=Dz (IntKind.wrap .i64 f.n) c.node (IntKind.wrap .i64 f.h))=false):Aig c f=true:=by
 have h1:=Odf h1
 have hi:=Odf hi
 unfold Aig
 rw [Ddt hp]
 exact Ddt ⟨by omega,by omega⟩
theorem nb12 {c:Conf} {f:Frm} (hp:f.pc=12) (h1:decide (f.h<1)=false):Aig c f=true:=by
 have h1:=Odf h1
 unfold Aig
 rw [Ddf (show ¬ (f.pc=9\/f.pc=11) by omega),Ddt hp]
 exact Ddt (by omega)
theorem nbx {c:Conf} {f:Frm} (h9:¬ f.pc=9) (h11:¬ f.pc=11) (h12:¬ f.pc=12):Aig c f=true:=by
 unfold Aig
 rw [Ddf (show ¬ (f.pc=9\/f.pc=11) by omega),Ddf h12]
 rfl
theorem Av7 {v w:AV}:∀ {T:Tr},T.ev (fun l=>seB.eq (lget l 0) v) false=true->T.ev (fun l=>seB.eq (lget l 0) w) false=true->w=v
 | .leaf l,hv,hw=>(seB.ok _ _ hw).trans (seB.ok _ _ hv).symm
 | .bad,hv,_=>by cases hv
 | .br b x y,hv,hw=>by
  cases b with
  | true=>exact Av7 (T:=x) hv hw
  | false=>exact Av7 (T:=y) hv hw
theorem Bfd {v:AV}:∀ {T:Tr},T.ev (fun l=>seB.eq (lget l 0) v) false=true->sp_may.has v=true
 | .leaf l,hv=>by
  have hv:seB.eq (lget l 0) v=true:=hv;cases v<;>first|rfl|(exfalso;revert hv;show (seB.eq (lget l 0) _=true->False);cases lget l 0<;>(intro h;cases h))
 | .bad,hv=>by cases hv
 | .br b x y,hv=>by
  cases b with
  | true=>exact Bfd (T:=x) hv
  | false=>exact Bfd (T:=y) hv
theorem Qi {c:Conf} {n h i:Int} {b:Bool} (hr:itR (IntKind.wrap .i64 n) c.node (IntKind.wrap .i64 h)=true) (hi:decide (IntKind.wrap .i64 i<Aa (IntKind.wrap .i64 n) c.node (IntKind.wrap .i64 h))=b):decide (IntKind.wrap .i64 i>=Dz (IntKind.wrap .i64 n) c.node (IntKind.wrap .i64 h))=!b:=by
 rw [Aih hr,<- hi,<- decide_not]
 exact decide_eq_decide.2 (by omega)
theorem Em {c:Conf} {h:Int} {b:Bool} (hh:0<=h/\h<=255) (ht:decide (IntKind.wrap .i64 h>Int.ofNat (lvN c.cap c.node)-1)=b):decide (h>Int.ofNat (lvN c.cap c.node)-1)=b:=by
 rw [Du hh.1 hh.2] at ht
 exact ht
theorem ge1 {h:Int} (q:decide (h>=1)=true):decide (h<1)=false:=Ddf (by have:=Odt q;omega)
theorem Qo {c:Conf} {f:Frm} {e:Int} (h:decide (f.kind=5)=true) (hop:decide (Ag c (BasZR13m.opD f)=e)=true):decide (Ag c ⟨f.kind,f.a,0,0⟩=e)=true:=by
 unfold BasZR13m.opD at hop
 rw [h] at hop
 exact hop
theorem Qp {c:Conf} {f:Frm} {e:Int} (h:decide (f.kind=5)=false) (hop:decide (Ag c (BasZR13m.opD f)=e)=true):decide (Ag c ⟨f.kind,f.a,f.b,0⟩=e)=true:=by
 unfold BasZR13m.opD at hop
 rw [h] at hop
 exact hop
theorem opN_t {c:Conf} {f:Frm} (h:decide (f.kind=5)=true) (hop:decide (Ag c (BasZR13m.opD f)=0)=false):decide (Ag c ⟨f.kind,f.a,0,0⟩=0)=false:=by
 unfold BasZR13m.opD at hop
 rw [h] at hop
 exact hop
theorem opN_f {c:Conf} {f:Frm} (h:decide (f.kind=5)=false) (hop:decide (Ag c (BasZR13m.opD f)=0)=false):decide (Ag c ⟨f.kind,f.a,f.b,0⟩=0)=false:=by
 unfold BasZR13m.opD at hop
 rw [h] at hop
 exact hop
theorem Ov {f:Frm} (hp:posH f=true):posR ⟨f.kind,f.a,0,0⟩=true:=by
 have q:=F5 hp
 exact H8.2 ⟨⟨q.1.1,q.1.2,Int.le_refl 0⟩,q.2.1.1,q.2.1.2,by show (0:Int)<4294967296;decide⟩
theorem Bj3 {f:Frm} (hp:posH f=true):posR (BasZR13m.opD f)=true:=by
 unfold BasZR13m.opD
 cases decide (f.kind=5) with
 | true=>exact Ov hp
 | false=>exact Bg (Fz hp)
theorem nb6 {c:Conf} {f:Frm} (h6:f.pc=6):Aig c f=true:=nbx (by omega) (by omega) (by omega)
theorem th_in {k q:Int} (h:thB k q=true):inPc q=true:=by
 unfold thB at h
 rcases Odt h with ⟨rfl,rfl|rfl|rfl|rfl|rfl|rfl|rfl|rfl|rfl|rfl|rfl|rfl⟩|⟨rfl,rfl|rfl|rfl|rfl|rfl|rfl|rfl|rfl|rfl|rfl|rfl⟩|⟨rfl,rfl|rfl|rfl|rfl⟩|⟨rfl,rfl|rfl|rfl|rfl|rfl⟩|⟨rfl,rfl|rfl|rfl|rfl|rfl⟩<;>rfl
def Aey:Sum:=(281,on2 (rI .u8) (rI .u8) (fun kd q=>(decide (4<=kd)&&decide (kd<=8))&&thB kd q) (fun _ _=>.bool true))
theorem s_thT:Bc Tryz.prog (Cb gs) Aey:=Je (fun kd q h=>⟨Aj h,by rw [Af h]⟩) Bjt
end
end Go.Bas.BasZR13m
end
section
namespace Go.Bas.BasZR16
noncomputable section
open Go.RowKit Go.Proofs
open BasZBase BasZOk BasZGate BasZOk2 BasZR14 BasZTrie BasZBranch BasZRank BasZTreB BasZTre BasZTreN BasZTreC BasZOk6
abbrev B13:=cfg [Bq,Arh,Ari,Arj,A77]
abbrev zdi1:=seT [seG [seI .u8,seI .i64,seI .u64,seI .u64,seI .u64,seI .i64,seI .u32],seI .i64]
abbrev Bq8 (c:Conf):=Conf.mk 1 c.2 c.3 c.4 c.5 c.6 c.7 c.8 c.9 c.10 c.11 c.12
theorem t_pv1 (c:Conf) (f:Frm) (he:decide (Az (⟨1,c.ins,c.thr,c.kind,c.str,c.bits,c.cap,c.node,c.batch,c.chunk,c.limit,c.most⟩:Conf)=0)=true) (hp:Ep f=true):Ai B13 400 80 [(⟨1,c.ins,c.thr,c.kind,c.str,c.bits,c.cap,c.node,c.batch,c.chunk,c.limit,c.most⟩:Conf).av,f.av] (fun v_=>zdi1.eq (Af5 (⟨1,c.ins,c.thr,c.kind,c.str,c.bits,c.cap,c.node,c.batch,c.chunk,c.limit,c.most⟩:Conf) f) v_) false=true:=Eq.trans (b:=(br (!decide ((Az (Bq8 c))=0)) (ba ((decide ((Nk (Bq8 c) f)=0)&&Bool.true)&&((decide ((Ij (Bq8 c) f)=0)&&Bool.true)&&((decide ((Nl (Bq8 c) f)=0)&&Bool.true)&&((decide ((Np (Bq8 c) f)=0)&&Bool.true)&&((decide ((Nq (Bq8 c) f)=0)&&Bool.true)&&((decide ((Nr (Bq8 c) f)=0)&&Bool.true)&&((decide ((Ns (Bq8 c) f)=0)&&Bool.true)&&Bool.true))))))) (ba (decide ((O7 (Bq8 c) f)=(Az (Bq8 c)))&&Bool.true) true)) (ba (Ep f) (ba ((decide ((Nk (Bq8 c) f)=(Nk (Bq8 c) f))&&Bool.true)&&((decide ((Ij (Bq8 c) f)=(Ij (Bq8 c) f))&&Bool.true)&&((decide ((Nl (Bq8 c) f)=(Nl (Bq8 c) f))&&Bool.true)&&((decide ((Np (Bq8 c) f)=(Np (Bq8 c) f))&&Bool.true)&&((decide ((Nq (Bq8 c) f)=(Nq (Bq8 c) f))&&Bool.true)&&((decide ((Nr (Bq8 c) f)=(Nr (Bq8 c) f))&&Bool.true)&&((decide ((Ns (Bq8 c) f)=(Ns (Bq8 c) f))&&Bool.true)&&Bool.true))))))) (ba (decide ((O7 (Bq8 c) f)=(O7 (Bq8 c) f))&&Bool.true) true))))) (by kernel_rfl) (btf (Ad he) (band hp (band (A8 (Aw (Ddt rfl)) (A8 (Aw (Ddt rfl)) (A8 (Aw (Ddt rfl)) (A8 (Aw (Ddt rfl)) (A8 (Aw (Ddt rfl)) (A8 (Aw (Ddt rfl)) (Aw (Aw (Ddt rfl))))))))) (band (Aw (Ddt rfl)) rfl))))
abbrev Bq2 (c:Conf):=Conf.mk 2 c.2 c.3 c.4 c.5 c.6 c.7 c.8 c.9 c.10 c.11 c.12
theorem t_pv2 (c:Conf) (f:Frm) (he:decide (Az (⟨2,c.ins,c.thr,c.kind,c.str,c.bits,c.cap,c.node,c.batch,c.chunk,c.limit,c.most⟩:Conf)=0)=true) (hp:Ep f=true):Ai B13 400 80 [(⟨2,c.ins,c.thr,c.kind,c.str,c.bits,c.cap,c.node,c.batch,c.chunk,c.limit,c.most⟩:Conf).av,f.av] (fun v_=>zdi1.eq (Aor (⟨2,c.ins,c.thr,c.kind,c.str,c.bits,c.cap,c.node,c.batch,c.chunk,c.limit,c.most⟩:Conf) f) v_) false=true:=Eq.trans (b:=(br (!decide ((Az (Bq2 c))=0)) (ba ((decide ((Aok (Bq2 c) f)=0)&&Bool.true)&&((decide ((Aol (Bq2 c) f)=0)&&Bool.true)&&((decide ((Aom (Bq2 c) f)=0)&&Bool.true)&&((decide ((Aon (Bq2 c) f)=0)&&Bool.true)&&((decide ((Aoo (Bq2 c) f)=0)&&Bool.true)&&((decide ((Aop (Bq2 c) f)=0)&&Bool.true)&&((decide ((Aoq (Bq2 c) f)=0)&&Bool.true)&&Bool.true))))))) (ba (decide ((V4 (Bq2 c) f)=(Az (Bq2 c)))&&Bool.true) true)) (ba (Ep f) (ba ((decide ((Aok (Bq2 c) f)=(Aok (Bq2 c) f))&&Bool.true)&&((decide ((Aol (Bq2 c) f)=(Aol (Bq2 c) f))&&Bool.true)&&((decide ((Aom (Bq2 c) f)=(Aom (Bq2 c) f))&&Bool.true)&&((decide ((Aon (Bq2 c) f)=(Aon (Bq2 c) f))&&Bool.true)&&((decide ((Aoo (Bq2 c) f)=(Aoo (Bq2 c) f))&&Bool.true)&&((decide ((Aop (Bq2 c) f)=(Aop (Bq2 c) f))&&Bool.true)&&((decide ((Aoq (Bq2 c) f)=(Aoq (Bq2 c) f))&&Bool.true)&&Bool.true))))))) (ba (decide ((V4 (Bq2 c) f)=(V4 (Bq2 c) f))&&Bool.true) true))))) (by kernel_rfl) (btf (Ad he) (band hp (band (A8 (Aw (Ddt rfl)) (A8 (Aw (Ddt rfl)) (A8 (Aw (Ddt rfl)) (A8 (Aw (Ddt rfl)) (A8 (Aw (Ddt rfl)) (A8 (Aw (Ddt rfl)) (Aw (Aw (Ddt rfl))))))))) (band (Aw (Ddt rfl)) rfl))))
abbrev Bq9 (c:Conf):=Conf.mk 3 c.2 c.3 c.4 c.5 c.6 c.7 c.8 c.9 c.10 c.11 c.12
theorem t_pv3 (c:Conf) (f:Frm) (he:decide (Az (⟨3,c.ins,c.thr,c.kind,c.str,c.bits,c.cap,c.node,c.batch,c.chunk,c.limit,c.most⟩:Conf)=0)=true) (hp:Ep f=true):Ai B13 400 80 [(⟨3,c.ins,c.thr,c.kind,c.str,c.bits,c.cap,c.node,c.batch,c.chunk,c.limit,c.most⟩:Conf).av,f.av] (fun v_=>zdi1.eq (Af1 (⟨3,c.ins,c.thr,c.kind,c.str,c.bits,c.cap,c.node,c.batch,c.chunk,c.limit,c.most⟩:Conf) f) v_) false=true:=Eq.trans (b:=(br (!decide ((Az (Bq9 c))=0)) (ba ((decide ((L9 (Bq9 c) f)=0)&&Bool.true)&&((decide ((Ii (Bq9 c) f)=0)&&Bool.true)&&((decide ((Na (Bq9 c) f)=0)&&Bool.true)&&((decide ((Nb (Bq9 c) f)=0)&&Bool.true)&&((decide ((Nc (Bq9 c) f)=0)&&Bool.true)&&((decide ((Nh (Bq9 c) f)=0)&&Bool.true)&&((decide ((Nj (Bq9 c) f)=0)&&Bool.true)&&Bool.true))))))) (ba (decide ((O5 (Bq9 c) f)=(Az (Bq9 c)))&&Bool.true) true)) (ba (Ep f) (ba ((decide ((L9 (Bq9 c) f)=(L9 (Bq9 c) f))&&Bool.true)&&((decide ((Ii (Bq9 c) f)=(Ii (Bq9 c) f))&&Bool.true)&&((decide ((Na (Bq9 c) f)=(Na (Bq9 c) f))&&Bool.true)&&((decide ((Nb (Bq9 c) f)=(Nb (Bq9 c) f))&&Bool.true)&&((decide ((Nc (Bq9 c) f)=(Nc (Bq9 c) f))&&Bool.true)&&((decide ((Nh (Bq9 c) f)=(Nh (Bq9 c) f))&&Bool.true)&&((decide ((Nj (Bq9 c) f)=(Nj (Bq9 c) f))&&Bool.true)&&Bool.true))))))) (ba (decide ((O5 (Bq9 c) f)=(O5 (Bq9 c) f))&&Bool.true) true))))) (by kernel_rfl) (btf (Ad he) (band hp (band (A8 (Aw (Ddt rfl)) (A8 (Aw (Ddt rfl)) (A8 (Aw (Ddt rfl)) (A8 (Aw (Ddt rfl)) (A8 (Aw (Ddt rfl)) (A8 (Aw (Ddt rfl)) (Aw (Aw (Ddt rfl))))))))) (band (Aw (Ddt rfl)) rfl))))
abbrev Bra (c:Conf):=Conf.mk 4 c.2 c.3 c.4 c.5 c.6 c.7 c.8 c.9 c.10 c.11 c.12
theorem t_pv4 (c:Conf) (f:Frm) (he:decide (Az (⟨4,c.ins,c.thr,c.kind,c.str,c.bits,c.cap,c.node,c.batch,c.chunk,c.limit,c.most⟩:Conf)=0)=true) (hp:Ep f=true):Ai B13 400 80 [(⟨4,c.ins,c.thr,c.kind,c.str,c.bits,c.cap,c.node,c.batch,c.chunk,c.limit,c.most⟩:Conf).av,f.av] (fun v_=>zdi1.eq (Af6 (⟨4,c.ins,c.thr,c.kind,c.str,c.bits,c.cap,c.node,c.batch,c.chunk,c.limit,c.most⟩:Conf) f) v_) false=true:=Eq.trans (b:=(br (!decide ((Az (Bra c))=0)) (ba ((decide ((Ri (Bra c) f)=0)&&Bool.true)&&((decide ((Nu (Bra c) f)=0)&&Bool.true)&&((decide ((Rj (Bra c) f)=0)&&Bool.true)&&((decide ((Rk (Bra c) f)=0)&&Bool.true)&&((decide ((Rn (Bra c) f)=0)&&Bool.true)&&((decide ((Ro (Bra c) f)=0)&&Bool.true)&&((decide ((Rq (Bra c) f)=0)&&Bool.true)&&Bool.true))))))) (ba (decide ((O8 (Bra c) f)=(Az (Bra c)))&&Bool.true) true)) (ba (Ep f) (ba ((decide ((Ri (Bra c) f)=(Ri (Bra c) f))&&Bool.true)&&((decide ((Nu (Bra c) f)=(Nu (Bra c) f))&&Bool.true)&&((decide ((Rj (Bra c) f)=(Rj (Bra c) f))&&Bool.true)&&((decide ((Rk (Bra c) f)=(Rk (Bra c) f))&&Bool.true)&&((decide ((Rn (Bra c) f)=(Rn (Bra c) f))&&Bool.true)&&((decide ((Ro (Bra c) f)=(Ro (Bra c) f))&&Bool.true)&&((decide ((Rq (Bra c) f)=(Rq (Bra c) f))&&Bool.true)&&Bool.true))))))) (ba (decide ((O8 (Bra c) f)=(O8 (Bra c) f))&&Bool.true) true))))) (by kernel_rfl) (btf (Ad he) (band hp (band (A8 (Aw (Ddt rfl)) (A8 (Aw (Ddt rfl)) (A8 (Aw (Ddt rfl)) (A8 (Aw (Ddt rfl)) (A8 (Aw (Ddt rfl)) (A8 (Aw (Ddt rfl)) (Aw (Aw (Ddt rfl))))))))) (band (Aw (Ddt rfl)) rfl))))
abbrev HW0 (c:Conf):Prop:=Bf c.cap 1 c.node=true
abbrev Bre (c:Conf) (f:Frm):=TRa.mk f (Bq2 c) (lvL c.7 c.8) (lvN c.7 c.8) 0 0 Bool.false
theorem t_tv1 (c:Conf) (f:Frm) (he:decide (Az (⟨2,c.ins,c.thr,c.kind,c.str,c.bits,c.cap,c.node,c.batch,c.chunk,c.limit,c.most⟩:Conf)=0)=true) (hw:HW0 c) (hm:((Ep f&&Ey (lvL c.cap c.node) (lvN c.cap c.node))&&Ce (⟨f,(⟨2,c.ins,c.thr,c.kind,c.str,c.bits,c.cap,c.node,c.batch,c.chunk,c.limit,c.most⟩:Conf),lvL c.cap c.node,lvN c.cap c.node,0,0,false⟩:TRa))=true) (ha:(Ey (lvL c.cap c.node) (lvN c.cap c.node)&&(decide (0<=f.h)&&decide (f.h<(lvN c.cap c.node:Int))))=true):Ai (cfg [Bq,Vw,Aib,Qm]) 400 206 [(⟨2,c.ins,c.thr,c.kind,c.str,c.bits,c.cap,c.node,c.batch,c.chunk,c.limit,c.most⟩:Conf).av,f.av] (fun v_=>zdi1.eq (.tup [Aex (⟨f,(⟨2,c.ins,c.thr,c.kind,c.str,c.bits,c.cap,c.node,c.batch,c.chunk,c.limit,c.most⟩:Conf),lvL c.cap c.node,lvN c.cap c.node,0,0,false⟩:TRa),.int .i64 0]) v_) false=true:=Eq.trans (b:=(br (!decide ((Az (Bq2 c))=0)) (ba ((decide ((Le (Bre c f))=0)&&Bool.true)&&((decide ((Bj (Bre c f))=0)&&Bool.true)&&((decide ((Lh (Bre c f))=0)&&Bool.true)&&((decide ((Lj (Bre c f))=0)&&Bool.true)&&((decide ((Ll (Bre c f))=0)&&Bool.true)&&((decide ((Lm (Bre c f))=0)&&Bool.true)&&((decide ((Lp (Bre c f))=0)&&Bool.true)&&Bool.true))))))) false) (ba (Bf c.7 1 c.8) (ba (((Ep f)&&(Ey (lvL c.7 c.8) (lvN c.7 c.8)))&&(Ce (Bre c f))) (ba ((Ey (lvL c.7 c.8) (lvN c.7 c.8))&&(decide (0<=f.9)&&decide (f.9<(Int.ofNat (lvN c.7 c.8))))) (ba ((decide ((Le (Bre c f))=(Le (Bre c f)))&&Bool.true)&&((decide ((Bj (Bre c f))=(Bj (Bre c f)))&&Bool.true)&&((decide ((Lh (Bre c f))=(Lh (Bre c f)))&&Bool.true)&&((decide ((Lj (Bre c f))=(Lj (Bre c f)))&&Bool.true)&&((decide ((Ll (Bre c f))=(Ll (Bre c f)))&&Bool.true)&&((decide ((Lm (Bre c f))=(Lm (Bre c f)))&&Bool.true)&&((decide ((Lp (Bre c f))=(Lp (Bre c f)))&&Bool.true)&&Bool.true))))))) true)))))) (by kernel_rfl) (btf (Ad he) (band hw (band hm (band ha (band (A8 (Aw (Ddt rfl)) (A8 (Aw (Ddt rfl)) (A8 (Aw (Ddt rfl)) (A8 (Aw (Ddt rfl)) (A8 (Aw (Ddt rfl)) (A8 (Aw (Ddt rfl)) (Aw (Aw (Ddt rfl))))))))) rfl)))))
theorem t_tv2 (c:Conf) (f:Frm) (he:decide (Az (⟨2,c.ins,c.thr,c.kind,c.str,c.bits,c.cap,c.node,c.batch,c.chunk,c.limit,c.most⟩:Conf)=0)=true) (hw:HW0 c) (hm:((Ep f&&Ey (lvL c.cap c.node) (lvN c.cap c.node))&&!(Ce (⟨f,(⟨2,c.ins,c.thr,c.kind,c.str,c.bits,c.cap,c.node,c.batch,c.chunk,c.limit,c.most⟩:Conf),lvL c.cap c.node,lvN c.cap c.node,0,0,false⟩:TRa)))=true):Ai (cfg [Bq,Vw,Aic]) 400 206 [(⟨2,c.ins,c.thr,c.kind,c.str,c.bits,c.cap,c.node,c.batch,c.chunk,c.limit,c.most⟩:Conf).av,f.av] (fun v_=>(seI .i64).eq (.int .i64 2) (AV.ix v_ 1)) false=true:=Eq.trans (b:=(br (!decide ((Az (Bq2 c))=0)) false (ba (Bf c.7 1 c.8) (ba (((Ep f)&&(Ey (lvL c.7 c.8) (lvN c.7 c.8)))&&(!(Ce (Bre c f)))) true)))) (by kernel_rfl) (btf (Ad he) (band hw (band hm rfl)))
theorem brI {b:Bool} {x y:Tr} {j:Nat} {v:Int} (hx:b=true->x.int j=v) (hy:b=false->y.int j=v):(Tr.br b x y).int j=v:=by
 cases b
 ·exact hy rfl
 ·exact hx rfl
theorem brT {b:Bool} {x y:Tr} {j:Nat} {v:Int} (h:b=true) (hx:x.int j=v):(Tr.br b x y).int j=v:=by
 cases h
 exact hx
theorem brF {b:Bool} {x y:Tr} {j:Nat} {v:Int} (h:b=false) (hy:y.int j=v):(Tr.br b x y).int j=v:=by
 cases h
 exact hy
theorem eq0 {n:Int} {b:Bool} (h1:b=true->n=0) (h2:b=false->n=2):decide (n=0)=b:=by
 cases b
 ·rw [h2 rfl];rfl
 ·rw [h1 rfl];rfl
theorem gN_e {c:Conf} {f:Frm} (he:decide (Az c=0)=true) (ho:c.ob=3) (hp:posH f=true):decide (O5 c f=0)=F9 c f:=by
 refine eq0 (fun hm=>?_) (fun hm=>?_)
 ·have e:=A50 he ho (Dn hp) hm
  unfold O5 G5;refine brT (Ue (Dn hp)) (brF (by rw [e];rfl) ?_)
  repeat' (first|rfl|refine brI (fun _=>?_) (fun _=>?_))
 ·have e:=Bmr he ho (Dn hp) hm
  unfold O5 G5;exact brT (Ue (Dn hp)) (brT (by rw [e];rfl) e)
theorem rN_e {c:Conf} {f:Frm} (he:decide (Az c=0)=true) (ho:c.ob=1) (hp:posH f=true):decide (O7 c f=0)=Df ⟨f,c⟩:=by
 refine eq0 (fun hm=>?_) (fun hm=>?_)
 ·unfold O7 Eh;try simp only [Bt7,Bt8,Bt9,Bw1,Bw2,Br1,Bsq,Bw3]
  refine brF (by rw [he];rfl) (brF (by rw [Ddt ho];rfl) (brT (Nv (Dn hp)) (brF (by rw [hm];rfl) ?_)))
  repeat' (first|rfl|refine brI (fun _=>?_) (fun _=>?_))
 ·unfold O7 Eh;try simp only [Bt7,Bt8,Bt9,Bw1,Bw2,Br1,Bsq,Bw3]
  exact brF (by rw [he];rfl) (brF (by rw [Ddt ho];rfl) (brT (Nv (Dn hp)) (brT (by rw [hm];rfl) rfl)))
theorem A78 {c:Conf} {f:Frm} (he:decide (Az c=0)=true) (ho:c.ob=2) (hp:posH f=true):decide (V4 c f=0)=Ce (mkr c f)/\(Ce (mkr c f)=true->Aor c f=.tup [Aex (mkr c f),.int .i64 0]):=by
 have hod:=Ddt ho
 have hw:=Ky he hod
 have hg:A19 c=true:=by unfold A19;rw [he,hod];rfl
 have hv:=H6 hw
 cases hm:Ce (mkr c f) with
 | true =>
  have hM:Bf6 c f=true:=hm;have hP:=X7 (mkr c f) (Dn hp) hv hm;have e:Zm c f=Aaf c f:=by unfold Zm;rw [hg,hM];rfl
  have h0:0<=f.h:=(F5 hp).2.2.2.1;have h1:f.h<(lvN c.cap c.node:Int):=hP.1;have t:=t_tv1 c f (by rw [<- D8 ho];exact he) hw (by rw [<- D8 ho,Dn hp,hv];exact hm) (by rw [hv,Ddt h0,Ddt h1];rfl)
  rw [<- D8 ho] at t;have o:Pi c f=.tup [Aex (mkr c f),.int .i64 0]:=Adh (Dh t (fun w_ hw=>((seT [seG [seI .u8,seI .i64,seI .u64,seI .u64,seI .u64,seI .i64,seI .u32],seI .i64])).ok _ _ hw))
  have e2:Aor c f=.tup [Aex (mkr c f),.int .i64 0]:=(Ax1 c f e).trans (by rw [<- Av8,o];rfl)
  refine ⟨?_,fun _=>e2⟩
  have e3:V4 c f=0:=by unfold V4;rw [e,<- Av8,o];rfl
  rw [e3];rfl
 | false =>
  have hM:Bf6 c f=false:=hm;have e:Zm c f=Aag c f:=by unfold Zm;rw [hg,hM];rfl
  refine ⟨?_,fun h=>by cases h⟩
  have t:=t_tv2 c f (by rw [<- D8 ho];exact he) hw (by rw [<- D8 ho,Dn hp,hv];show (!(Ce (mkr c f)))=true;rw [hm];rfl)
  rw [<- D8 ho] at t;have o:=(I4 t).1;have o:AV.ix (Oi c f) 1=.int .i64 2:=(seI .i64).ok _ _ o;have e3:V4 c f=2:=by unfold V4;rw [e,<- A76];show AV.toI (AV.ix (Oi c f) 1)=2;rw [o];rfl
  rw [e3];rfl
end
end Go.Bas.BasZR16
end
section
namespace Go.Bas.BasZR15e
noncomputable section
open Go.RowKit Go.Proofs BasZOp BasZRef5b BasZR14 BasZBranch BasZOk4 BasZR15
theorem A79 {w:Walk} {c:Conf} (h:f_wmay_0 w c=true):(w.f.kind=12/\Ag c ⟨w.f.kind,w.f.a,w.f.b,w.f.y⟩=0)\/(¬ w.f.kind=12/\Ag c ⟨w.f.kind,w.f.a,w.f.b,0⟩=0):=by
 unfold f_wmay_0 Cj at h;try simp only [Br3,Bvw,Bw4] at h
 revert h
 repeat' (first|(intro h;cases h;done)|refine prx (fun h=>?_) (fun h=>?_))
 all_goals
  intro hv;clear hv;simp only [Dte,Dni,Bool.not_eq_true',Bool.not_eq_false'] at *
  first|exact .inl ⟨by assumption,by assumption⟩|exact .inr ⟨by assumption,by assumption⟩|omega
theorem Ax2 {c:Conf} {f:Frm} {m:Int} (h:decide (Ag c (opF 12 f)=0)=false):f_wmay_0 (A7 c f m) c=false:=by
 cases hm:f_wmay_0 (A7 c f m) c with
 | false=>rfl
 | true =>
  have h:=Odf h;unfold opF at h
  rcases A79 hm with q|q
  ·have q1:f.kind=12:=q.1
   rw [Ddt q1] at h;exact absurd q.2 h
  ·have q1:¬ f.kind=12:=q.1
   rw [Ddf q1] at h;exact absurd q.2 h
theorem n0_is {a:Int} (ha:0<=a/\a<4294967296):(!decide (Int.tmod a 65536=0))=(!decide (iand .u32 a 65535=0)):=by rw [Aui ha.1 ha.2]
theorem n1_is {a:Int} (ha:0<=a/\a<4294967296):(!decide (IntKind.wrap .u32 (Int.tdiv a 65536)=0))=(!decide (ishr .u32 a 16=0)):=by rw [A4u ha.1,A4v ha.1 ha.2]
def mny (f:Frm):Int:=cond (!decide (iand .u32 f.a 65535=0)) (cond (!decide (ishr .u32 f.a 16=0)) (cond (!decide (f.b=0)) 3 2) (cond (!decide (f.b=0)) 2 1)) (cond (!decide (ishr .u32 f.a 16=0)) (cond (!decide (f.b=0)) 2 1) (cond (!decide (f.b=0)) 1 0))
theorem Bok {a b:Int} (h:Gv a b=true):(!decide (iand .u32 a 65535=0))=true/\((!decide (ishr .u32 a 16=0))=true\/(!decide (b=0))=false):=by
 unfold Gv Aas at h;try simp only [Bq3] at h
 revert h
 repeat' (first|(intro h;cases h;done)|refine prx (fun h=>?_) (fun h=>?_))
 all_goals
  intro hv
  try have hv:=lf hv
  simp only [Dte,Dni,Bool.not_eq_true',Bool.not_eq_false'] at *
  first|exact ⟨by assumption,.inl (by assumption)⟩|exact ⟨by assumption,.inr (by assumption)⟩
theorem Ax3 {c:Conf} {f:Frm} (ho:c.ob=4) (hp:posH f=true) (hop:decide (Ag c (opF 12 f)=0)=true):mny f=lng f/\(lng f=1\/lng f=2\/lng f=3):=by
 have hn:=F5 hp
 have q:=Aen (o:=opF 12 f) hn.1.1 hn.1.2 hn.2.2.1.1 (Odt hop)
 have k:Be f.kind=c.ob:=q.1
 have k3:f.kind=12\/f.kind=13\/f.kind=14:=Bik hn.1.1 hn.1.2 (k.trans ho)
 have r:=Bok (fits_path q.2.1 k3)
 have r1:(!decide (iand .u32 f.a 65535=0))=true:=r.1
 have r2:(!decide (ishr .u32 f.a 16=0))=true\/(!decide (f.b=0))=false:=r.2
 unfold mny lng
 rw [n0_is hn.2.1,n1_is hn.2.1,r1]
 rcases r2 with r2|r2
 ·rw [r2]
  cases (!decide (f.b=0)) with
  | true=>exact ⟨rfl,.inr (.inr rfl)⟩
  | false=>exact ⟨rfl,.inr (.inl rfl)⟩
 ·rw [r2]
  cases (!decide (ishr .u32 f.a 16=0)) with
  | true=>exact ⟨rfl,.inr (.inl rfl)⟩
  | false=>exact ⟨rfl,.inl rfl⟩
theorem evbr {Ω:Type} {b:Bool} {x y:Tr} {K:List AV->Ω} {z:Ω}:(Tr.br b x y).ev K z=cond b (x.ev K z) (y.ev K z):=rfl
def L0 (c:Conf) (f:Frm) (m:Int):List AV:=[.int .u8 (Ha (A7 c f m)),.int .i64 (Fa (A7 c f m)),.int .u64 (He (A7 c f m)),.int .u64 (Hf (A7 c f m)),.int .u64 (Hg (A7 c f m)),.int .i64 (Hl (A7 c f m)),.int .u32 (Hm (A7 c f m)),.int .i64 0]
def L2:List AV:=[.int .u8 0,.int .i64 0,.int .u64 0,.int .u64 0,.int .u64 0,.int .i64 0,.int .u32 0,.int .i64 2]
theorem Ax4 {Ω:Type} {c:Conf} {f:Frm} {m:Int} {K:List AV->Ω} {z:Ω} (hp:posH f=true) (hm:1<=m/\m<=3):(Tr.br (Kr (A7 c f m) c) (Tr.br (!(f_wmay_0 (A7 c f m) c)) (.leaf L2) (Tr.br (I7 (A7 c f m)) (.leaf (L0 c f m)) .bad)) .bad).ev K z=cond (f_wmay_0 (A7 c f m) c) (K (L0 c f m)) (K L2):=by
 have e:Kr (A7 c f m) c=true:=Nw (w:=A7 c f m) (Dn hp)
 show cond (Kr (A7 c f m) c) (cond (!(f_wmay_0 (A7 c f m) c)) (K L2) (cond (I7 (A7 c f m)) (K (L0 c f m)) z)) z=_
 rw [e]
 cases hw:f_wmay_0 (A7 c f m) c with
 | false=>rfl
 | true =>
  have h2:=Jz (size:=c.cap) (n0:=iand .u32 f.a 65535) (n1:=ishr .u32 f.a 16) (n2:=f.b) (Arf (Dn hp) hm.2 hw) hm;show cond (I7 (A7 c f m)) (K (L0 c f m)) z=_;rw [h2];rfl
theorem Ax5 {Ω:Type} {c:Conf} {f:Frm} {K:List AV->Ω} {z:Ω} (ho:c.ob=4) (hp:posH f=true) (h0:(!decide (iand .u32 f.a 65535=0))=false) (m:Int):(Tr.br (Kr (A7 c f m) c) (Tr.br (!(f_wmay_0 (A7 c f m) c)) (.leaf L2) (Tr.br (I7 (A7 c f m)) (.leaf (L0 c f m)) .bad)) .bad).ev K z=cond (f_wmay_0 (A7 c f m) c) (K (L0 c f m)) (K L2):=by
 have e:Kr (A7 c f m) c=true:=Nw (w:=A7 c f m) (Dn hp)
 have hw:f_wmay_0 (A7 c f m) c=false:=by
  cases hw:f_wmay_0 (A7 c f m) c with
  | false=>rfl
  | true=>exact absurd (Odt (Ar h0)) (Bil (Dn hp) ho hw)
 show cond (Kr (A7 c f m) c) (cond (!(f_wmay_0 (A7 c f m) c)) (K L2) (cond (I7 (A7 c f m)) (K (L0 c f m)) z)) z=_
 rw [e,hw]
 rfl
theorem Asg {Ω:Type} {c:Conf} {f:Frm} (he:decide (Az c=0)=true) (ho:c.ob=4) (hp:posH f=true) (K:List AV->Ω) (z:Ω):(Il c f).ev K z=cond (f_wmay_0 (A7 c f (mny f)) c) (K (L0 c f (mny f))) (K L2):=by
 have he':(!decide (Az c=0))=false:=by rw [he];rfl
 have ho':(!decide (c.ob=4))=false:=by rw [Ddt ho];rfl
 unfold Il;try simp only [Brw,Btr,Bts,Bzl,Btt,Bzm]
 rw [evbr,he',cond_false,evbr,ho',cond_false]
 unfold mny
 cases h0:(!decide (iand .u32 f.a 65535=0)) with
 | true =>
  cases h1:(!decide (ishr .u32 f.a 16=0)) with
  | true =>
   cases h2:(!decide (f.b=0)) with
   | true=>exact Ax4 hp (by omega)
   | false=>exact Ax4 hp (by omega)
  | false =>
   cases h2:(!decide (f.b=0)) with
   | true=>exact Ax4 hp (by omega)
   | false=>exact Ax4 hp (by omega)
 | false =>
  cases h1:(!decide (ishr .u32 f.a 16=0)) with
  | true =>
   cases h2:(!decide (f.b=0)) with
   | true=>exact Ax5 ho hp h0 2
   | false=>exact Ax5 ho hp h0 1
  | false =>
   cases h2:(!decide (f.b=0)) with
   | true=>exact Ax5 ho hp h0 1
   | false=>exact Ax5 ho hp h0 0
end
end Go.Bas.BasZR15e
end
