/- The document's program of settings: it answers what the program's does. -/
import Derived.Test.YtjepofcbkojibaaGreatDoorBasW7
set_option maxRecDepth 100000
set_option maxHeartbeats 4000000
set_option linter.unusedVariables false
set_option linter.unusedSimpArgs false
namespace Go.Bas.BasZR15
noncomputable section
open Go.RowKit Go.Proofs
open BasZBase BasZOp BasZOk BasZRef5b BasZRef14 BasZR14 BasZBranch BasZOk4
def lng (f:Frm):Int:=cond (!decide (Int.tmod f.a 65536=0)) (cond (!decide (IntKind.wrap .u32 (Int.tdiv f.a 65536)=0)) (cond (!decide (f.b=0)) 3 2) 1) 0
abbrev A7 (c:Conf) (f:Frm) (m:Int):Walk:=⟨f,c.cap,iand .u32 f.a 65535,ishr .u32 f.a 16,f.b,m⟩
abbrev wlk (c:Conf) (f:Frm):Walk:=A7 c f (lng f)
def Am6:Sum:=(222,on1 Ji (fun f=>decide (lng f=1)) (fun f=>.int .i64 1))
def Am7:Sum:=(222,on1 Ji (fun f=>decide (lng f=2)) (fun f=>.int .i64 2))
def Am8:Sum:=(222,on1 Ji (fun f=>decide (lng f=3)) (fun f=>.int .i64 3))
theorem w8s {n:Int} (h0:0<=n) (h1:n<=255):IntKind.wrap .u8 n=n:=Uc (by simp [Lit.wf,IntKind.min,IntKind.max,IntKind.signed,IntKind.bits];omega)
theorem Am9 {x y z:Int}:Dc x y>z ↔ x>z\/y>z:=by
 unfold Dc
 split<;>omega
theorem Ac {i j n p cap:Int} (hr:(0<=i/\i<=255)/\(0<=j/\j<=255)/\(0<=n/\n<=255)/\(0<=p/\p<=255)) (hc:1<=cap/\cap<=32):decide (Dc (Dc (Dc i j) n) p>IntKind.wrap .u8 cap)=(decide (IntKind.wrap .i64 i>cap) || (decide (IntKind.wrap .i64 j>cap) || (decide (IntKind.wrap .i64 n>cap) || decide (IntKind.wrap .i64 p>cap)))):=by
 rw [Du hr.1.1 hr.1.2,Du hr.2.1.1 hr.2.1.2,Du hr.2.2.1.1 hr.2.2.1.2,Du hr.2.2.2.1 hr.2.2.2.2,w8s (by omega) (by omega),<- Bool.decide_or,<- Bool.decide_or,<- Bool.decide_or]
 exact decide_eq_decide.2 (by rw [Am9,Am9,Am9];omega)
theorem Ahw {c:Conf} (h:c.ok=true):1<=c.cap/\c.cap<=32:=by
 have h:=Hy.1 h
 simp only [Conf.OkP] at h
 omega
theorem Axf {a:Int} (ha:0<=a/\a<4294967296):decide (IntKind.wrap .u64 (iand .u32 a 65535)=IntKind.wrap .u64 (Int.tmod a 65536))=true:=Ddt (by rw [Aui ha.1 ha.2])
theorem A6n {a:Int} (ha:0<=a/\a<4294967296):decide (IntKind.wrap .u64 (ishr .u32 a 16)=IntKind.wrap .u64 (IntKind.wrap .u32 (Int.tdiv a 65536)))=true:=Ddt (by rw [A4u ha.1,A4v ha.1 ha.2])
theorem pb {b:Bool} {x y:Tr} (hx:b=true->x.bool 0=false) (hy:b=false->y.bool 0=false):(Tr.br b x y).bool 0=false:=by
 cases b
 ·exact hy rfl
 ·exact hx rfl
theorem Ach {w:Walk} {c:Conf} (h:f_wmay_0 w c=true):Qa w=true:=by
 unfold f_wmay_0 Cj at h;try simp only [Br3,Bvw,Bw4] at h
 revert h
 repeat' (first|(intro h;cases h;done)|refine prx (fun h=>?_) (fun h=>?_))
 all_goals
  intro _;simp only [Bool.not_eq_false'] at *
  assumption
theorem Bdb {w:Walk} (h:Qa w=true):w.f.pc=0\/w.f.pc=3\/w.f.pc=5\/w.f.pc=6\/w.f.pc=20\/w.f.pc=21\/w.f.pc=22\/w.f.pc=23\/w.f.pc=4\/w.f.pc=2:=by
 unfold Qa Am4 at h;try simp only [Bzk,Br3] at h
 revert h
 repeat' (first|(intro h;cases h;done)|refine prx (fun h=>?_) (fun h=>?_))
 all_goals
  intro _;simp only [Dte] at *;omega
theorem Ana {w:Walk} {c:Conf} (h:f_wmay_0 w c=true):w.f.pc=0\/w.f.pc=3\/w.f.pc=5\/w.f.pc=6\/w.f.pc=20\/w.f.pc=21\/w.f.pc=22\/w.f.pc=23\/w.f.pc=4\/w.f.pc=2:=Bdb (Ach h)
theorem Bdc {a b pc i j n p h x y s w0 w1 w2 m:Int} (n0:¬ pc=0) (n2:¬ pc=2) (n3:¬ pc=3) (n4:¬ pc=4) (n20:¬ pc=20) (n22:¬ pc=22):Qa (⟨(⟨12,a,b,pc,i,j,n,p,h,x,y⟩:Frm),s,w0,w1,w2,m⟩:Walk)=false:=pb (fun h=>absurd (Odt h) n0) (fun _=>pb (fun h=>absurd (Odt h) n20) (fun _=>pb (fun h=>absurd (Odt h) n2) (fun _=>pb (fun h=>absurd (Odt h) n3) (fun _=>pb (fun h=>absurd (Odt h) n4) (fun _=>pb (fun h=>absurd (Odt h) n22) (fun _=>pb (fun h=>rfl) (fun _=>pb (fun h=>rfl) (fun _=>pb (fun h=>rfl) (fun _=>pb (fun h=>rfl) (fun _=>rfl))))))))))
theorem A6o {c:Conf} {a b pc i j n p h x y s w0 w1 w2 m:Int} (n0:¬ pc=0) (n2:¬ pc=2) (n3:¬ pc=3) (n4:¬ pc=4) (n20:¬ pc=20) (n22:¬ pc=22):f_wmay_0 (⟨(⟨12,a,b,pc,i,j,n,p,h,x,y⟩:Frm),s,w0,w1,w2,m⟩:Walk) c=false:=by
 cases hw:f_wmay_0 (⟨(⟨12,a,b,pc,i,j,n,p,h,x,y⟩:Frm),s,w0,w1,w2,m⟩:Walk) c with
 | false=>rfl
 | true=>exact (Ach hw).symm.trans (Bdc n0 n2 n3 n4 n20 n22)
theorem Bdd {a b pc i j n p h x y s w0 w1 w2 m:Int} (n0:¬ pc=0) (n5:¬ pc=5) (n6:¬ pc=6) (n20:¬ pc=20) (n21:¬ pc=21) (n23:¬ pc=23):Qa (⟨(⟨13,a,b,pc,i,j,n,p,h,x,y⟩:Frm),s,w0,w1,w2,m⟩:Walk)=false:=pb (fun h=>absurd (Odt h) n0) (fun _=>pb (fun h=>absurd (Odt h) n20) (fun _=>pb (fun h=>rfl) (fun _=>pb (fun h=>rfl) (fun _=>pb (fun h=>rfl) (fun _=>pb (fun h=>rfl) (fun _=>pb (fun h=>absurd (Odt h) n5) (fun _=>pb (fun h=>absurd (Odt h) n6) (fun _=>pb (fun h=>absurd (Odt h) n23) (fun _=>pb (fun h=>absurd (Odt h) n21) (fun _=>rfl))))))))))
theorem A6p {c:Conf} {a b pc i j n p h x y s w0 w1 w2 m:Int} (n0:¬ pc=0) (n5:¬ pc=5) (n6:¬ pc=6) (n20:¬ pc=20) (n21:¬ pc=21) (n23:¬ pc=23):f_wmay_0 (⟨(⟨13,a,b,pc,i,j,n,p,h,x,y⟩:Frm),s,w0,w1,w2,m⟩:Walk) c=false:=by
 cases hw:f_wmay_0 (⟨(⟨13,a,b,pc,i,j,n,p,h,x,y⟩:Frm),s,w0,w1,w2,m⟩:Walk) c with
 | false=>rfl
 | true=>exact (Ach hw).symm.trans (Bdd n0 n5 n6 n20 n21 n23)
theorem Bde {a b pc i j n p h x y s w0 w1 w2 m:Int} (n0:¬ pc=0) (n20:¬ pc=20) (n21:¬ pc=21):Qa (⟨(⟨14,a,b,pc,i,j,n,p,h,x,y⟩:Frm),s,w0,w1,w2,m⟩:Walk)=false:=pb (fun h=>absurd (Odt h) n0) (fun _=>pb (fun h=>absurd (Odt h) n20) (fun _=>pb (fun h=>rfl) (fun _=>pb (fun h=>rfl) (fun _=>pb (fun h=>rfl) (fun _=>pb (fun h=>rfl) (fun _=>pb (fun h=>rfl) (fun _=>pb (fun h=>rfl) (fun _=>pb (fun h=>rfl) (fun _=>pb (fun h=>absurd (Odt h) n21) (fun _=>rfl))))))))))
theorem A6q {c:Conf} {a b pc i j n p h x y s w0 w1 w2 m:Int} (n0:¬ pc=0) (n20:¬ pc=20) (n21:¬ pc=21):f_wmay_0 (⟨(⟨14,a,b,pc,i,j,n,p,h,x,y⟩:Frm),s,w0,w1,w2,m⟩:Walk) c=false:=by
 cases hw:f_wmay_0 (⟨(⟨14,a,b,pc,i,j,n,p,h,x,y⟩:Frm),s,w0,w1,w2,m⟩:Walk) c with
 | false=>rfl
 | true=>exact (Ach hw).symm.trans (Bde n0 n20 n21)
def noPc (k q:Int):Bool:=decide ((k=12/\¬ q=0/\¬ q=2/\¬ q=3/\¬ q=4/\¬ q=20/\¬ q=22)\/(k=13/\¬ q=0/\¬ q=5/\¬ q=6/\¬ q=20/\¬ q=21/\¬ q=23)\/(k=14/\¬ q=0/\¬ q=20/\¬ q=21))
theorem Avm {q:Int} (h:(!(noPc 12 q))=true):q=0\/q=2\/q=3\/q=4\/q=20\/q=22:=by
 unfold noPc at h
 have h:¬ (((12:Int)=12/\¬ q=0/\¬ q=2/\¬ q=3/\¬ q=4/\¬ q=20/\¬ q=22)\/((12:Int)=13/\¬ q=0/\¬ q=5/\¬ q=6/\¬ q=20/\¬ q=21/\¬ q=23)\/((12:Int)=14/\¬ q=0/\¬ q=20/\¬ q=21)):=Odf (Oc h)
 omega
theorem Avn {q:Int} (h:(!(noPc 13 q))=true):q=0\/q=5\/q=6\/q=20\/q=21\/q=23:=by
 unfold noPc at h
 have h:¬ (((13:Int)=12/\¬ q=0/\¬ q=2/\¬ q=3/\¬ q=4/\¬ q=20/\¬ q=22)\/((13:Int)=13/\¬ q=0/\¬ q=5/\¬ q=6/\¬ q=20/\¬ q=21/\¬ q=23)\/((13:Int)=14/\¬ q=0/\¬ q=20/\¬ q=21)):=Odf (Oc h)
 omega
theorem Avo {q:Int} (h:(!(noPc 14 q))=true):q=0\/q=20\/q=21:=by
 unfold noPc at h
 have h:¬ (((14:Int)=12/\¬ q=0/\¬ q=2/\¬ q=3/\¬ q=4/\¬ q=20/\¬ q=22)\/((14:Int)=13/\¬ q=0/\¬ q=5/\¬ q=6/\¬ q=20/\¬ q=21/\¬ q=23)\/((14:Int)=14/\¬ q=0/\¬ q=20/\¬ q=21)):=Odf (Oc h)
 omega
theorem Avp {f:Frm} {c:Conf} {size n0 n1 n2 many:Int} (hp:Ep f=true) (hm:many<=3) (h:f_wmay_0 ⟨f,size,n0,n1,n2,many⟩ c=true):f.pc=2->0<=f.h/\f.h<=2:=Arf hp hm h
def Bm7:Sum:=(222,on1 Ji (fun f=>true) (fun f=>.int .i64 (lng f)))
theorem Bm8 (f:Frm):Ai (cfg []) 400 222 [f.av] (fun w_=>(seI .i64).eq (.int .i64 (lng f)) w_) false=true:=Eq.trans (b:=(br (!decide ((Int.tmod f.2 65536)=0)) (br (!decide ((IntKind.wrap .u32 (Int.tdiv f.2 65536))=0)) (br (!decide (f.3=0)) (ba (decide ((BasZR15.lng f)=3)) true) (ba (decide ((BasZR15.lng f)=2)) true)) (ba (decide ((BasZR15.lng f)=1)) true)) (ba (decide ((BasZR15.lng f)=0)) true))) (by kernel_rfl) (bdt (fun h_1=>(bdt (fun h_2=>(bdt (fun h_3=>(band (Ddt (show lng f=_ from (cT h_1 (cT h_2 (cT h_3 rfl))))) rfl)) (fun h_3=>(band (Ddt (show lng f=_ from (cT h_1 (cT h_2 (cF h_3 rfl))))) rfl)))) (fun h_2=>(band (Ddt (show lng f=_ from (cT h_1 (cF h_2 rfl)))) rfl)))) (fun h_1=>(band (Ddt (show lng f=_ from (cF h_1 rfl))) rfl)))
theorem A6r (f:Frm) (h:true=true):Ai (cfg []) 400 222 [f.av] (fun w_=>(seI .i64).eq (.int .i64 (lng f)) w_) false=true:=Bm8 f
theorem Avq:Bc Tryz.prog (Cb gs) Bm7:=Fg fun f h=>Aq base Ap (n:=400) fun k hk=>(Dh (A6r f h) (fun w_ hw=>((seI .i64).ok _ _ hw)) k).trans hk
theorem Axg:Bc Tryz.prog (Cb gs) Am6:=Ab9 (fun f hp=>⟨rfl,by rw [Odt hp]⟩) Avq
theorem Axh:Bc Tryz.prog (Cb gs) Am7:=Ab9 (fun f hp=>⟨rfl,by rw [Odt hp]⟩) Avq
theorem Axi:Bc Tryz.prog (Cb gs) Am8:=Ab9 (fun f hp=>⟨rfl,by rw [Odt hp]⟩) Avq
def A6s:Sum:=(283,on2 (rI .u8) (rI .u8) (fun kd q=>noPc kd q) (fun kd q=>.bool false))
abbrev Btx:AV->Bool:=fun w_=>seB.eq (.bool false) w_
theorem A6t (q:Int) (n0:¬ q=0) (n2:¬ q=2) (n3:¬ q=3) (n4:¬ q=4) (n20:¬ q=20) (n22:¬ q=22):Ai (cfg []) 300 283 [.int .u8 12,.int .u8 q] Btx false=true:=Eq.trans (b:=(br (decide (q=0)) false (br (decide (q=20)) false (br (decide (q=2)) false (br (decide (q=3)) false (br (decide (q=4)) false (!decide (q=22)))))))) (by kernel_rfl) (btf (Ddf n0) (btf (Ddf n20) (btf (Ddf n2) (btf (Ddf n3) (btf (Ddf n4) (Am (Ddf n22)))))))
theorem A6u (q:Int) (n0:¬ q=0) (n5:¬ q=5) (n6:¬ q=6) (n20:¬ q=20) (n21:¬ q=21) (n23:¬ q=23):Ai (cfg []) 300 283 [.int .u8 13,.int .u8 q] Btx false=true:=Eq.trans (b:=(br (decide (q=0)) false (br (decide (q=20)) false (br (decide (q=5)) false (br (decide (q=6)) false (br (decide (q=21)) false (!decide (q=23)))))))) (by kernel_rfl) (btf (Ddf n0) (btf (Ddf n20) (btf (Ddf n5) (btf (Ddf n6) (btf (Ddf n21) (Am (Ddf n23)))))))
theorem A6v (q:Int) (n0:¬ q=0) (n20:¬ q=20) (n21:¬ q=21):Ai (cfg []) 300 283 [.int .u8 14,.int .u8 q] Btx false=true:=Eq.trans (b:=(br (decide (q=0)) false (br (decide (q=20)) false (!decide (q=21))))) (by kernel_rfl) (btf (Ddf n0) (btf (Ddf n20) (Am (Ddf n21))))
theorem Bdf (kd:Int) (q:Int) (h:noPc kd q=true):Ai (cfg []) 300 283 [.int .u8 kd,.int .u8 q] Btx false=true:=by
 unfold noPc at h
 have h:=Odt h
 rcases h with ⟨rfl,n0,n2,n3,n4,n20,n22⟩|⟨rfl,n0,n5,n6,n20,n21,n23⟩|⟨rfl,n0,n20,n21⟩
 ·exact A6t q n0 n2 n3 n4 n20 n22
 ·exact A6u q n0 n5 n6 n20 n21 n23
 ·exact A6v q n0 n20 n21
theorem s_thF:Bc Tryz.prog (Cb gs) A6s:=Cm fun kd q h=>Aq base Ap (n:=300) fun k hk=>(Dh (Bdf kd q h) (fun w_ hw=>(seB.ok _ _ hw)) k).trans hk
def Alf:Sum:=(144,on2 Dp Ji (fun c f=>(decide (c.ob=4)&&(posH f&&decide (Ag c (opF 12 f)=10)))) (fun c f=>.bool false))
abbrev Bv6 (c:Conf):Conf:=⟨4,c.ins,c.thr,c.kind,c.str,c.bits,c.cap,c.node,c.batch,c.chunk,c.limit,c.most⟩
abbrev B1w (f:Frm):=BasZRef5b.posR (Opr.mk f.1 f.2 f.3 f.11)
abbrev B1x (c:Conf) (f:Frm):=Ag (Conf.mk 4 c.2 c.3 c.4 c.5 c.6 c.7 c.8 c.9 c.10 c.11 c.12) (Opr.mk f.1 f.2 f.3 f.11)
abbrev B1y (f:Frm):=BasZRef5b.posR (Opr.mk f.1 f.2 f.3 0)
abbrev B1z (c:Conf) (f:Frm):=Ag (Conf.mk 4 c.2 c.3 c.4 c.5 c.6 c.7 c.8 c.9 c.10 c.11 c.12) (Opr.mk f.1 f.2 f.3 0)
theorem A0l (c:Conf) (f:Frm) (hg:Eu f=true) (hop:decide (Ag (Bv6 c) (opF 12 f)=10)=true):Ai (cfg [Ace]) 400 144 [(Bv6 c).av,f.av] Btx false=true:=Eq.trans (b:=(br (decide (f.1=12)) (ba ((B1w f)&&decide ((B1x c f)=10)) true) (ba ((B1y f)&&decide ((B1z c f)=10)) true))) (by kernel_rfl) (bdt (fun h_1=>(band (A8 (Bg hg) (Aw1 h_1 hop)) rfl)) (fun h_1=>(band (A8 (Bg hg) (Aw2 h_1 hop)) rfl)))
theorem Art (c:Conf) (f:Frm) (h:(decide (c.ob=4)&&(posH f&&decide (Ag c (opF 12 f)=10)))=true):Ai (cfg [Ace]) 400 144 [c.av,f.av] Btx false=true:=by
 have ho:=Odt (Aj h)
 have hg:=Fz (Aj (Af h))
 have hop:=Af (Af h)
 rw [D8 ho] at hop ⊢
 exact A0l c f hg hop
theorem A0m:Bc Tryz.prog (Cb gs) Alf:=Cm fun c f h=>Aq base (Ah Ark Ap) (n:=400) fun k hk=>(Dh (Art c f h) (fun w_ hw=>(seB.ok _ _ hw)) k).trans hk
def Alg:Sum:=(144,on2 Dp Ji (fun c f=>(decide (c.ob=4)&&(posH f&&decide (Ag c (opF 12 f)=40)))) (fun c f=>.bool false))
theorem A0n (c:Conf) (f:Frm) (hg:Eu f=true) (hop:decide (Ag (Bv6 c) (opF 12 f)=40)=true):Ai (cfg [Acf]) 400 144 [(Bv6 c).av,f.av] Btx false=true:=Eq.trans (b:=(br (decide (f.1=12)) (ba ((B1w f)&&decide ((B1x c f)=40)) true) (ba ((B1y f)&&decide ((B1z c f)=40)) true))) (by kernel_rfl) (bdt (fun h_1=>(band (A8 (Bg hg) (Aw1 h_1 hop)) rfl)) (fun h_1=>(band (A8 (Bg hg) (Aw2 h_1 hop)) rfl)))
theorem Aru (c:Conf) (f:Frm) (h:(decide (c.ob=4)&&(posH f&&decide (Ag c (opF 12 f)=40)))=true):Ai (cfg [Acf]) 400 144 [c.av,f.av] Btx false=true:=by
 have ho:=Odt (Aj h)
 have hg:=Fz (Aj (Af h))
 have hop:=Af (Af h)
 rw [D8 ho] at hop ⊢
 exact A0n c f hg hop
theorem A0o:Bc Tryz.prog (Cb gs) Alg:=Cm fun c f h=>Aq base (Ah Arl Ap) (n:=400) fun k hk=>(Dh (Aru c f h) (fun w_ hw=>(seB.ok _ _ hw)) k).trans hk
def Alh:Sum:=(144,on2 Dp Ji (fun c f=>(decide (c.ob=4)&&(posH f&&decide (Ag c (opF 12 f)=50)))) (fun c f=>.bool false))
theorem A0p (c:Conf) (f:Frm) (hg:Eu f=true) (hop:decide (Ag (Bv6 c) (opF 12 f)=50)=true):Ai (cfg [Acg]) 400 144 [(Bv6 c).av,f.av] Btx false=true:=Eq.trans (b:=(br (decide (f.1=12)) (ba ((B1w f)&&decide ((B1x c f)=50)) true) (ba ((B1y f)&&decide ((B1z c f)=50)) true))) (by kernel_rfl) (bdt (fun h_1=>(band (A8 (Bg hg) (Aw1 h_1 hop)) rfl)) (fun h_1=>(band (A8 (Bg hg) (Aw2 h_1 hop)) rfl)))
theorem Arv (c:Conf) (f:Frm) (h:(decide (c.ob=4)&&(posH f&&decide (Ag c (opF 12 f)=50)))=true):Ai (cfg [Acg]) 400 144 [c.av,f.av] Btx false=true:=by
 have ho:=Odt (Aj h)
 have hg:=Fz (Aj (Af h))
 have hop:=Af (Af h)
 rw [D8 ho] at hop ⊢
 exact A0p c f hg hop
theorem A0q:Bc Tryz.prog (Cb gs) Alh:=Cm fun c f h=>Aq base (Ah Arm Ap) (n:=400) fun k hk=>(Dh (Arv c f h) (fun w_ hw=>(seB.ok _ _ hw)) k).trans hk
def Axj:Sum:=(144,on2 Dp Ji (fun c f=>(decide (c.ob=4)&&(posH f&&(decide (Ag c (opF 12 f)=0)&&noPc f.kind f.pc)))) (fun c f=>.bool false))
theorem Bdk (c:Conf) (f:Frm) (hg:Eu f=true) (hop:decide (Ag (Bv6 c) (opF 12 f)=0)=true) (hq:noPc f.kind f.pc=true):Ai (cfg [Jp,A6s]) 400 144 [(Bv6 c).av,f.av] Btx false=true:=Eq.trans (b:=(br (decide (f.1=12)) (ba ((B1w f)&&decide ((B1x c f)=0)) (ba (BasZR15.noPc f.1 f.4) true)) (ba ((B1y f)&&decide ((B1z c f)=0)) (ba (BasZR15.noPc f.1 f.4) true)))) (by kernel_rfl) (bdt (fun h_1=>(band (A8 (Bg hg) (Aw1 h_1 hop)) (band hq rfl))) (fun h_1=>(band (A8 (Bg hg) (Aw2 h_1 hop)) (band hq rfl))))
theorem A0r (c:Conf) (f:Frm) (h:(decide (c.ob=4)&&(posH f&&(decide (Ag c (opF 12 f)=0)&&noPc f.kind f.pc)))=true):Ai (cfg [Jp,A6s]) 400 144 [c.av,f.av] Btx false=true:=by
 have ho:=Odt (Aj h)
 have hg:=Fz (Aj (Af h))
 have hop:=Aj (Af (Af h))
 have hq:=Af (Af (Af h))
 rw [D8 ho] at hop ⊢
 exact Bdk c f hg hop hq
theorem Bdl:Bc Tryz.prog (Cb gs) Axj:=Cm fun c f h=>Aq base (Ah Zh (Ah s_thF Ap)) (n:=400) fun k hk=>(Dh (A0r c f h) (fun w_ hw=>(seB.ok _ _ hw)) k).trans hk
end
end Go.Bas.BasZR15
