/- What a helper does next: the document's answer is the program's. -/
import Derived.Test.YtjepofcbkojibaaGreatDoorBasW15
import Derived.Test.YtjepofcbkojibaaGreatDoorBasW36
import Derived.Test.YtjepofcbkojibaaGreatDoorBasW37
set_option maxRecDepth 100000
set_option maxHeartbeats 4000000
set_option linter.unusedVariables false
set_option linter.unusedSimpArgs false
namespace Go.Bas.BasZR25
noncomputable section
open Go.RowKit Go.Proofs
open BasZBase BasZOp BasZOk BasZRef5 BasZRef14 BasZR14 BasZRank BasZR13c BasZRank2 BasZAt4 BasZR4w BasZR21 BasZR16b BasZProg BasZR17b BasZR25a BasZStage BasZStage5 BasZBack BasZPop BasZCounts BasZCounts2 BasZReg2 BasZR11 BasZWork BasZWnx
section
variable {c:Conf} {s:Stg}
theorem B0v {k:AV->Bool} (hk:k (.agg [.int .u8 (jobK c s),.int .i64 (jobN c s)])=true):∀ K N:Int,jobK c s=K->jobN c s=N->k (.agg [.int .u8 K,.int .i64 N])=true:=by
 rintro _ _ rfl rfl
 exact hk
theorem B4s (hc:chk mayP c s=0) (hb:0<=s.batch):ACalls Tryz.prog (Cb gs) 101 [c.av,s.av] (fun v=>v=.agg [.int .u8 (jobK c s),.int .i64 (jobN c s)]) :=
 Aq base Ap (n:=300) fun k hk=>by
  rw [t_job];have L:=B0v hk;have S:=sok hc;have N:=nums S hb;have ho:=S.ok;simp only [Conf.OkP] at ho;have hz:=S.z;have hn2:=S.n2;have hn1:=S.n1;have i1:¬ c.ins=0:=by omega
  rw [N.a1,N.a2,N.a3,N.a4];refine condI (fun h=>condI (fun h=>absurd (Odt h) i1) (fun _=>?_)) (fun h6=>?_)
  ·have h:s.number<c.ins:=Odt h
   have hb0:¬ s.batch=0:=fun e=>by have:=hz e;omega
   rw [N.a6 hb0,N.a7 hb0];have g0:¬ s.number-c.ins=0:=by omega
   have g1:¬ s.number-c.ins=1:=by omega
   have g2:¬ s.number-c.ins=2:=by omega
   have g3:¬ s.number-c.ins=3:=by omega
   have g4:¬ s.number-c.ins=4:=by omega
   have g5:¬ s.number-c.ins=5:=by omega
   refine L _ _ (by simp [jobK,g0,g1,g2,g3,g5]) ?_
   rw [Bqn (by omega),Bkj (by omega) (by omega)]
   simp [jobN,g0,g1,g2,g3,g4,g5]
  refine condI (fun h=>condI (fun h=>absurd (Odt h) i1) (fun _=>?_)) (fun h0=>?_)
  ·have h:=Odt h
   refine L _ _ (by simp [jobK,h]) ?_
   rw [Bqn hb,Bkj (by omega) (by omega)]
   simp [jobN,h]
  have h0:=Odf h0;refine condI (fun h=>?_) (fun h1=>?_)
  ·have h:=Odt h
   refine L _ _ (by simp [jobK,h]) ?_
   rw [Bqn hb,Bkj (by omega) (by omega)]
   simp [jobN,h]
  have h1:=Odf h1;refine condI (fun h=>?_) (fun h2=>?_)
  ·have h:=Odt h
   refine L _ _ (by simp [jobK,h]) ?_
   rw [Bqn hb,Bkj (by omega) (by omega)]
   simp [jobN,h]
  have h2:=Odf h2;refine condI (fun h=>?_) (fun h3=>?_)
  ·have h:=Odt h
   refine L _ _ (by simp [jobK,h]) ?_
   rw [Bqn (by omega),Bkj (by omega) (by omega)]
   simp [jobN,h]
  have h3:=Odf h3;refine condI (fun h=>condI (fun h=>absurd (Odt h) i1) (fun _=>?_)) (fun h4=>?_)
  ·have h:=Odt h
   have hb0:¬ s.batch=0:=fun e=>by have:=hz e;omega
   rw [N.a6 hb0];refine L _ _ (by simp [jobK,h]) ?_
   rw [Bqn (by omega),Bkj (by omega) (by omega)]
   simp [jobN,h]
  have h4:=Odf h4;have h6:¬ s.number<c.ins:=Odf h6;have h5:s.number-c.ins=5:=by omega
  refine L _ _ (by simp [jobK,h5]) (by simp [jobN,h5])
theorem B17 (S:SOk c s) (h:jobK c s=1):0<=jobN c s/\jobN c s<c.ins:=by
 have ho:=S.ok
 simp only [Conf.OkP] at ho
 have m1:=fun a:Int=>Int.emod_nonneg a (show c.ins ≠ 0 by omega)
 have m2:=fun a:Int=>Int.emod_lt_of_pos a (show 0<c.ins by omega)
 by_cases g0:s.number-c.ins=0
 ·simp [jobK,g0] at h
 by_cases g1:s.number-c.ins=1
 ·simp [jobK,g1] at h
 by_cases g2:s.number-c.ins=2
 ·simp [jobK,g2] at h
 by_cases g3:s.number-c.ins=3
 ·simp [jobK,g3] at h
 by_cases g5:s.number-c.ins=5
 ·simp [jobK,g5] at h
 by_cases g4:s.number-c.ins=4
 ·have e:jobN c s=(s.batch-1) % c.ins:=by simp [jobN,g4]
  rw [e];exact ⟨m1 _,m2 _⟩
 ·have e:jobN c s=(s.batch+s.number-1) % c.ins:=by simp [jobN,g0,g1,g2,g3,g4,g5]
  rw [e];exact ⟨m1 _,m2 _⟩
theorem Bww (h:(!decide (chk mayP c s=0))=false):chk mayP c s=0:=Odt (Ar h)
theorem zK {x:Int} (h:(!decide (chk mayP c s=0))=false):zif (chk mayP c s) x=x:=Bub (Bww h)
theorem job_t (h:(!decide (chk mayP c s=0))=false) (hj:(!decide (zif (chk mayP c s) (jobK c s)=1))=false):decide (jobK c s=1)=true:=by
 rw [zK h] at hj
 exact Ar hj
theorem N_in (h:(!decide (chk mayP c s=0))=false) (hj:(!decide (zif (chk mayP c s) (jobK c s)=1))=false):0<=jobN c s/\jobN c s<c.ins:=B17 (sok (Bww h)) (Odt (job_t h hj))
theorem zN (h:(!decide (chk mayP c s=0))=false) (hj:(!decide (zif (chk mayP c s) (jobK c s)=1))=false):decide (zif (chk mayP c s) (jobN c s)<0)=false:=by
 rw [zK h]
 exact Ddf (by have:=N_in h hj;omega)
theorem B3e (hm:(decide (0<=s.1)&&decide (0<=s.3))=true) (h:(!decide (chk mayP c s=0))=false):Bvv c s=true:=by
 have h:=Bww h
 rw [Bzt (Odt (Af hm))] at h
 exact (chk0.1 h).2
theorem may_f (hm:(decide (0<=s.1)&&decide (0<=s.3))=true) (hc:c.ok=true) (h:(!decide (chk mayP c s=0))=true):Bvv c s=false:=by
 have h:=Odf (Oc h)
 rw [Bzt (Odt (Af hm))] at h
 cases hr:Bvv c s with
 | false=>rfl
 | true=>exact absurd (chk0.2 ⟨hc,hr⟩) h
theorem Brb (hm:(decide (0<=s.1)&&decide (0<=s.3))=true) (h:(!decide (chk mayP c s=0))=false):IntKind.wrap .u64 (65536*IntKind.wrap .u64 (s.1+1))=IntKind.wrap .u64 (IntKind.wrap .u64 (s.1*65536)+65536):=by
 have S:=sok (Bww h)
 have hb:0<=s.batch:=Odt (Aj hm)
 have h1:=S.ok
 have h4:=S.b
 simp only [Conf.OkP] at h1
 show IntKind.wrap .u64 (65536*IntKind.wrap .u64 (s.batch+1))=IntKind.wrap .u64 (IntKind.wrap .u64 (s.batch*65536)+65536)
 have e1:IntKind.wrap .u64 (s.batch+1)=s.batch+1:=Go.Bas.BasZBack.w64 (by omega) (by omega)
 have e2:IntKind.wrap .u64 (s.batch*65536)=s.batch*65536:=Go.Bas.BasZBack.w64 (by omega) (by omega)
 rw [e1,e2]
 congr 1
 omega
theorem Br4:IntKind.wrap .u64 (65536*s.1)=IntKind.wrap .u64 (s.1*65536):=by rw [Int.mul_comm]
theorem Brz {a X Y:Int} {b:Bool} (e:Y=X) (h:decide (a>=X)=b):decide (a>=Y)=b:=by rw [e];exact h
theorem Brf {a X Y:Int} {b:Bool} (e:Y=X) (h:decide (a<X)=b):decide (a<Y)=b:=by rw [e];exact h
theorem Bwx {a X Y:Int} {b:Bool} (e:Y=X) (h:decide (a>=X)=b):decide (a<Y)=!b:=by
 rw [e,<- h]
 by_cases g:a>=X
 ·rw [Ddt g,Ddf (by omega)];rfl
 ·rw [Ddf g,Ddt (by omega)];rfl
theorem th_in {k:Int} (hp:(decide (0<=s.1)&&decide (0<=s.3))=true) (hm:lt64 s.mask=true) (h:(!decide (chk mayP c s=0))=false):0<=cond (ltk k s.mask) (nthI s.mask k) 0/\cond (ltk k s.mask) (nthI s.mask k) 0<c.thr:=by
 have ho:=(sok (Bww h)).ok
 simp only [Conf.OkP] at ho
 have hM:=Odt hm
 have hr:=(Br5.1 (B3e hp h)).2.2.2.2.2.1
 cases hk:ltk k s.mask with
 | false=>exact ⟨Int.le_refl 0,by show (0:Int)<c.thr;omega⟩
 | true =>
  have hk:=Odt hk;have hn:=Bw8 (x:=s.mask.toNat) (k:=k.toNat) (by unfold Bq0 at hk;omega)
  have h2:=Nat.ge_two_pow_of_testBit hn.1;refine ⟨by show (0:Int)<=((Bqu s.mask.toNat k.toNat:Nat):Int);omega,?_⟩
  show ((Bqu s.mask.toNat k.toNat:Nat):Int)<c.thr;unfold Bt2 at hr
  by_cases g:c.thr.toNat<=Bqu s.mask.toNat k.toNat
  ·have h3:=Nat.pow_le_pow_right (n:=2) (by decide) g
   have e:(2:Int) ^ c.thr.toNat=((2 ^ c.thr.toNat:Nat):Int):=by simp
   rw [e] at hr;omega
  ·omega
end
theorem B4t (l:Cel):posH (Bsg l)=true:=by
 have q:=Bua l
 refine Ik.2 ⟨?_,w8 _,w8 _,w8 _,w8 _,w8 _,?_,?_⟩
 ·unfold Eu
  have ha:0<=(Bsg l).a/\(Bsg l).a<=4294967295:=w32 _;have hb:0<=(Bsg l).b/\(Bsg l).b<=4294967295:=w32 _;rw [q,Ddt ha.1,Ddt (show (Bsg l).a<4294967296 by omega),Ddt (show (Bsg l).b<4294967296 by omega)]
  rfl
 ·have h:0<=(Bsg l).x/\(Bsg l).x<=4294967295:=w32 _
  omega
 ·have h:0<=(Bsg l).y/\(Bsg l).y<=4294967295:=w32 _
  omega
def B0w:Sum:=(101,Amm A3w (fun c s=>decide (chk mayP c s=0)&&pS s) fun c s=>.agg [.int .u8 (zif (chk mayP c s) (jobK c s)),.int .i64 (zif (chk mayP c s) (jobN c s))])
theorem B4u:Bc Tryz.prog (Cb gs) B0w:=Aq0 (fun _ _=>At4) fun c s hp=>(B4s (Odt (Aj hp)) (Bxy.1 (Af hp)).1).mono fun v hv=>by
 rw [Bub (Odt (Aj hp)),Bub (Odt (Aj hp))]
 exact hv
theorem By8 {P:Program} {G:Nat->Option (List AV)} {f:FuncId} {β:Type} {rd:AV->Option β} {p p':Conf->β->Bool} {g g':Conf->β->AV} (hp:∀ c s,p c s=true->p' c s=true/\g c s=g' c s) (hs:Bc P G (f,Amm rd p' g')):Bc P G (f,Amm rd p g):=fun args r hr=>by
 refine hs args r ?_
 simp only at hr ⊢
 unfold Amm at hr ⊢
 split at hr
 ·split at hr
  ·rename_i x y hx hy
   simp only [Option.some.injEq,Prod.mk.injEq] at hr;obtain ⟨h1,h2⟩:=hr;obtain ⟨q1,q2⟩:=hp x y h1;simp only [hx,hy,q1,<- q2,h2]
  ·cases hr
 ·cases hr
def Bye:Sum:=(92,Amm A3w (fun c s=>decide (Az c=0)&&pS s) fun c s=>.bool (decide (chk mayP c s=0)))
theorem B18:Bc Tryz.prog (Cb gs) Bye:=By8 (fun c s hp=>by
 have hE:=Aj hp
 have hS:=Af hp
 have e:decide (chk mayP c s=0)=Bvv c s:=by
  cases h:decide (chk mayP c s=0) with
  | true=>exact (B3e hS (show (!decide (chk mayP c s=0))=false by rw [h];rfl)).symm
  | false=>exact (may_f hS (BasZSign.okP hE) (show (!decide (chk mayP c s=0))=true by rw [h];rfl)).symm
 exact ⟨Ddt (okC (BasZSign.okP hE)).1.2,by rw [e]⟩) B3l
abbrev Byf:Sum:=Bq6 Bq0 lt64
theorem s_rsz:Bc Tryz.prog (Cb gs) Byf:=Bve
theorem okN {c:Conf} (h:(!decide (Az c=0))=true):c.ok=false:=by
 unfold Az at h
 cases hc:c.ok
 ·rfl
 ·rw [hc] at h;cases h
theorem okY {c:Conf} (h:(!decide (Az c=0))=false):c.ok=true:=BasZSign.okP (Ar h)
theorem Afc {c:Conf} (h:(!decide (Az c=0))=true):decide (Az c=40)=true:=by
 have e:=okN h
 unfold Az
 rw [e]
 rfl
theorem Bri {n:Int} (h:Qh n=true):(decide (0<=n)&&decide (n<=255))=true:=by
 unfold Qh at h
 exact h
theorem hB_4 {z:Int} {c:Conf} {a:Int} (h:0<=a/\a<c.thr):Ol z c ⟨4,a,0⟩:=.inr (.inl ⟨.inl rfl,h.1,h.2,rfl⟩)
theorem hB_5 {z:Int} {c:Conf} {a:Int} (h:0<=a/\a<c.thr):Ol z c ⟨5,a,0⟩:=.inr (.inl ⟨.inr rfl,h.1,h.2,rfl⟩)
theorem hB_X {c:Conf} {s:Stg} {f:Frm} (hE:(!decide (Az c=0))=false) (hp:posH f=true) (h:(!decide (chk mayP c s=0))=false) (hj:(!decide (zif (chk mayP c s) (jobK c s)=1))=false) (h7:(!decide (Fj c f=0))=false):Ol (f_size_0 c) c ⟨10,zif (chk mayP c s) (jobN c s),f_pnx_1 c f⟩:=by
 rw [zK h]
 have q:=Bpx (Ar hE) hp (Ar h7)
 have n:=N_in h hj
 exact .inr (.inr (.inr (.inr (.inr ⟨rfl,n.1,n.2,q.1,q.2⟩))))
theorem B0x {c:Conf} {p:Plc} (hE:(!decide (Az c=0))=false) (h:Ol (f_size_0 c) c p):decide (BasZAt4.atN (f_size_0 c) c p=whereS (f_size_0 c) c p)=true:=Ddt (Acv (okY hE) h).1
theorem one_k {c:Conf} {f:Frm} (hE:(!decide (Az c=0))=false) (hp:posH f=true) (h7:(!decide (Fj c f=0))=false) (hw:(!Gs f.kind)=false) (h4:decide (Ee c f=4)=false) (h2:decide (Ee c f=2)=false):decide (Ee c f=1)=true:=by
 have h4:=Odf h4
 have h2:=Odf h2
 rcases B0u (Ar hE) hp (Ar h7) (Ar hw) with h|h|h
 ·exact Ddt h
 ·exact absurd h h2
 ·exact absurd h h4
def apl (c:Conf) (s:Stg):Int:=cond (decide (zif (chk mayP c s) (jobK c s)=1)) (zif (chk mayP c s) (jobN c s)) (-1)
theorem B0y {c:Conf} {s:Stg} (h:(!decide (zif (chk mayP c s) (jobK c s)=1))=false):apl c s=zif (chk mayP c s) (jobN c s):=by
 unfold apl
 rw [Ar h]
 rfl
theorem apl_n {c:Conf} {s:Stg} (h:(!decide (zif (chk mayP c s) (jobK c s)=1))=true):apl c s=-1:=by
 unfold apl
 rw [Oc h]
 rfl
theorem apl_0 {c:Conf} {s:Stg} (hC:(!decide (chk mayP c s=0))=false) (h:(!decide (zif (chk mayP c s) (jobK c s)=1))=false):decide (apl c s<0)=false:=by
 rw [B0y h]
 exact zN hC h
theorem apl_c {c:Conf} {s:Stg} {k:AV->Bool} (hk:k (.int .i64 (apl c s))=true):(bif (!decide (zif (chk mayP c s) (jobK c s)=1)) then k (.int .i64 (-1)) else k (.int .i64 (zif (chk mayP c s) (jobN c s))))=true:=by
 unfold apl at hk
 cases h:decide (zif (chk mayP c s) (jobK c s)=1) with
 | true=>rw [h] at hk;exact hk
 | false=>rw [h] at hk;exact hk
abbrev zfe0 (s:Stg):=decide (0<=s.1)&&decide (0<=s.3)
abbrev zfe1 (c:Conf) (s:Stg):=!decide (zif (chk mayP c s) (jobK c s)=1)
theorem B4v (c:Conf) (s:Stg) (k:AV->Bool):Ai (cfg [B0w]) 300 51 [c.av,s.av] k false=((decide (chk mayP c s=0)&&(zfe0 s))&&(bif (zfe1 c s) then k (.int .i64 (-1)) else k (.int .i64 (zif (chk mayP c s) (jobN c s))))):=by kernel_rfl
def Buj:Sum:=(51,Amm A3w (fun c s=>decide (chk mayP c s=0)&&pS s) fun c s=>.int .i64 (apl c s))
theorem B0z:Bc Tryz.prog (Cb gs) Buj:=Aq0 (fun _ _=>At4) fun c s hp=>Aq base (Ah B4u Ap) (n:=300) fun k hk=>by
 rw [B4v]
 exact andI hp (apl_c hk)
section
variable (a b e g:Bool) (v:AV)
def TN:Tr:=.br a (.leaf [(.tup [.agg [.int .u8 0,.int .i64 0,.int .i64 0],.int .i64 40])]) (.br b (.leaf [(.tup [.agg [.int .u8 0,.int .i64 0,.int .i64 0],.int .i64 2])]) (.br e (.leaf [(.tup [.agg [.int .u8 0,.int .i64 0,.int .i64 0],.int .i64 2])]) (.br g (.leaf [v]) (.leaf [(.tup [.agg [.int .u8 0,.int .i64 0,.int .i64 0],.int .i64 2])]))))
def TV:AV:=cond a (.tup [.agg [.int .u8 0,.int .i64 0,.int .i64 0],.int .i64 40]) (cond b (.tup [.agg [.int .u8 0,.int .i64 0,.int .i64 0],.int .i64 2]) (cond e (.tup [.agg [.int .u8 0,.int .i64 0,.int .i64 0],.int .i64 2]) (cond g v (.tup [.agg [.int .u8 0,.int .i64 0,.int .i64 0],.int .i64 2]))))
def EB:Bool:=cond a ((seT [seG [seI .u8,seI .i64,seI .i64],seI .i64]).eq (.tup [.agg [.int .u8 0,.int .i64 0,.int .i64 0],.int .i64 40]) v) (cond b ((seT [seG [seI .u8,seI .i64,seI .i64],seI .i64]).eq (.tup [.agg [.int .u8 0,.int .i64 0,.int .i64 0],.int .i64 2]) v) (cond e ((seT [seG [seI .u8,seI .i64,seI .i64],seI .i64]).eq (.tup [.agg [.int .u8 0,.int .i64 0,.int .i64 0],.int .i64 2]) v) (cond g true ((seT [seG [seI .u8,seI .i64,seI .i64],seI .i64]).eq (.tup [.agg [.int .u8 0,.int .i64 0,.int .i64 0],.int .i64 2]) v))))
end
theorem TN_ev {a b e g:Bool} {v w:AV} (h:(TN a b e g v).ev (fun l_=>(seT [seG [seI .u8,seI .i64,seI .i64],seI .i64]).eq (lget l_ 0) w) false=true):w=TV a b e g v:=by
 cases a<;>cases b<;>cases e<;>cases g<;>exact ((seT [seG [seI .u8,seI .i64,seI .i64],seI .i64]).ok _ _ h)
theorem EB_v {a b e g:Bool} {v w:AV} (h:EB a b e g v=true) (hg:g=true->v=w):v=TV a b e g w:=by
 cases a
 ·cases b
  ·cases e
   ·cases g
    ·exact (seT [seG [seI .u8,seI .i64,seI .i64],seI .i64]).ok _ _ h
    ·exact hg rfl
   ·exact (seT [seG [seI .u8,seI .i64,seI .i64],seI .i64]).ok _ _ h
  ·exact (seT [seG [seI .u8,seI .i64,seI .i64],seI .i64]).ok _ _ h
 ·exact (seT [seG [seI .u8,seI .i64,seI .i64],seI .i64]).ok _ _ h
def pT (c:Conf) (s:Stg) (d:Cel):Bool:=(decide (Az c=0)&&(decide (chk mayP c s=0)&&decide (zif (chk mayP c s) (jobK c s)=1)))&&(pW s d&&pos64 d)
def Byg:Sum:=(47,on3 Dp rStg Bza pT (fun c s d=>.tup [.agg [.int .u8 (Bqv c s d),.int .i64 (Bqw c s d),.int .i64 (Bqx c s d)],.bool (decide (Bqy c s d=0))]))
theorem hB_A {c:Conf} {s:Stg} {f:Frm} (hE:(!decide (Az c=0))=false) (hp:posH f=true) (h:(!decide (chk mayP c s=0))=false) (hj:(!decide (zif (chk mayP c s) (jobK c s)=1))=false) (h7:(!decide (Fj c f=0))=false):Ol (f_size_0 c) c ⟨10,apl c s,f_pnx_1 c f⟩:=by
 rw [B0y hj]
 exact hB_X hE hp h hj h7
theorem B00 {c:Conf} {s:Stg} {f:Frm} (hE:(!decide (Az c=0))=false) (hp:posH f=true) (h:(!decide (chk mayP c s=0))=false) (hj:(!decide (zif (chk mayP c s) (jobK c s)=1))=false) (h7:(!decide (Fj c f=0))=false):decide (BasZAt4.atN (f_size_0 c) c ⟨10,zif (chk mayP c s) (jobN c s),f_pnx_1 c f⟩=whereS (f_size_0 c) c ⟨10,apl c s,f_pnx_1 c f⟩)=true:=by
 rw [B0y hj]
 exact B0x hE (hB_X hE hp h hj h7)
theorem cfgT {c:Conf} (h:(!(c.ok))=true):decide (Az c=0)=false:=by
 have e:=Oc h
 unfold Az
 rw [e]
 rfl
theorem Dk {c:Conf} (h:(!(c.ok))=false):decide (Az c=0)=true:=by
 have e:=Ar h
 unfold Az
 rw [e]
 rfl
theorem Bt1 {c:Conf} {s:Stg} (h:decide (apl c s<0)=false):decide (zif (chk mayP c s) (jobK c s)=1)=true:=by
 cases hj:decide (zif (chk mayP c s) (jobK c s)=1) with
 | true=>rfl
 | false =>
  rw [apl_n (by rw [hj];rfl)] at h
  exact absurd h (by decide)
theorem B01 {c:Conf} {s:Stg} (hC:(!decide (chk mayP c s=0))=false) (h:decide (apl c s<0)=true):decide (zif (chk mayP c s) (jobK c s)=1)=false:=by
 cases hj:decide (zif (chk mayP c s) (jobK c s)=1) with
 | false=>rfl
 | true =>
  rw [apl_0 hC (by rw [hj];rfl)] at h
  cases h
theorem B3f {c:Conf} {s:Stg} {d:Cel} (h1:decide (Az c=0)=true) (h2:decide (chk mayP c s=0)=true) (h3:decide (zif (chk mayP c s) (jobK c s)=1)=true) (hq:(pW s d&&pos64 d)=true):pT c s d=true:=A8 (A8 h1 (A8 h2 h3)) hq
abbrev Hfe0 (s:Stg):Prop:=(decide (0<=s.1)&&decide (0<=s.3))=true
abbrev Gl:=cfg [Bq,Bva,Btz,Afo,Bx1,Bz6,Ase,Ab5]
abbrev Asw (c:Conf):=!decide ((Az c)=0)
abbrev Om (c:Conf) (s:Stg):=decide ((chk mayP c s)=0)&&(zfe0 s)
abbrev Asx (d:Cel):=BasZR11.pos64 d
abbrev A2s:=false
abbrev A2u (s:Stg):=BasZCounts.lt64 s.3
abbrev A2v (d:Cel) (s:Stg):=decide ((IntKind.wrap .i64 (Brj d))>=(Bq0 s.3))
abbrev Bkc (d:Cel):=decide ((Bq4 d)=0)
abbrev Asi (d:Cel) (s:Stg):=bif (BasZCounts.ltk (IntKind.wrap .i64 (Brj d)) s.3) then (BasZCounts.nthI s.3 (IntKind.wrap .i64 (Brj d))) else 0
abbrev Aah (c:Conf) (d:Cel) (s:Stg):Bool:=ba (decide ((Az c)=0)&&(BasZR21.hasB c (Plc.mk 4 (Asi d s) 0))) A2s
abbrev Afb (d:Cel):=decide (0<=(Al6 d))&&decide ((Al6 d)<=255)
abbrev Afp (d:Cel):=Gs (Al6 d)
abbrev Asy (d:Cel):=Frm.mk (Al6 d) (Br6 d) (Br7 d) (Br8 d) (Br9 d) (Bsa d) (Bsb d) (Brr d) (Brs d) (Brt d) (Bru d)
abbrev Ff (c:Conf) (d:Cel):=decide ((Az c)=0)&&(BasZR14.posH (Asy d))
abbrev Bqh (c:Conf) (d:Cel):=decide ((Fj c (Asy d))=0)
abbrev J8 (d:Cel):=decide ((Bq4 d)<=64)
abbrev Bnp (c:Conf) (d:Cel):=(Ff c d)&&decide ((Fj c (Asy d))=0)
abbrev Lc (c:Conf) (d:Cel):=decide ((Ee c (Asy d))=1)
abbrev Bqi (c:Conf) (d:Cel) (s:Stg):=decide ((Az c)=0)&&(BasZR21.hasB c (Plc.mk 10 (BasZR25.apl c s) (f_pnx_1 c (Asy d))))
abbrev Wh (c:Conf) (d:Cel):=decide ((Ee c (Asy d))=2)
abbrev B02 (c:Conf) (d:Cel) (s:Stg):Bool:=ba (decide (s.2=1)) (ba (decide ((Az c)=0)&&(BasZR21.hasB c (Plc.mk 5 (Asi d s) 0))) A2s)
abbrev B03 (c:Conf) (d:Cel) (s:Stg):Bool:=ba (Bnp c d) (br (Lc c d) (ba (Bqi c d s) A2s) (br (Wh c d) (ba (Bqi c d s) A2s) (B02 c d s)))
abbrev Bs7 (c:Conf) (s:Stg):=!decide ((chk mayP c s)=0)
abbrev Bu1 (c:Conf) (d:Cel) (s:Stg):Bool:=ba (Om c s) (ba (Asx d) (br (decide (d.1>=(IntKind.wrap .u64 (65536*(IntKind.wrap .u64 (s.1+1)))))) A2s (br (decide (d.1<(IntKind.wrap .u64 (65536*s.1)))) A2s (ba (A2u s) (br (A2v d s) A2s (ba (A2u s) (br (Bkc d) (Aah c d s) (ba (Asx d) (ba (Afb d) (br (Afp d) (ba (Ff c d) (br (Bqh c d) (br (J8 d) (br (!decide ((IntKind.wrap .u64 (d.1+1))<(IntKind.wrap .u64 (65536*(IntKind.wrap .u64 (s.1+1)))))) true (B03 c d s)) true) true)) true))))))))))
abbrev Btp (c:Conf) (s:Stg):=!decide ((zif (chk mayP c s) (BasZStage5.jobK c s))=1)
abbrev Byh (c:Conf) (d:Cel) (s:Stg):Bool:=ba (Asx d) (ba (Afb d) (ba (Afp d) (ba (Ff c d) (ba (Bqh c d) (ba (J8 d) (br (!decide ((IntKind.wrap .u64 (d.1+1))<(IntKind.wrap .u64 (65536*(IntKind.wrap .u64 (s.1+1)))))) A2s (B03 c d s)))))))
abbrev Byi (d:Cel) (s:Stg):=(decide ((AV.toI (AV.int .i64 (Asi d s)))=(AV.toI (AV.int .i64 (Asi d s))))&&true)&&true
abbrev B3g (c:Conf) (d:Cel) (s:Stg):Bool:=ba (Bqi c d s) (ba ((decide ((BasZAt4.atN (f_size_0 c) c (Plc.mk 10 (zif (chk mayP c s) (BasZStage5.jobN c s)) (f_pnx_1 c (Asy d))))=(BasZAt4.whereS (f_size_0 c) c (Plc.mk 10 (BasZR25.apl c s) (f_pnx_1 c (Asy d)))))&&true)&&(Byi d s)) true)
theorem B19 (c:Conf) (s:Stg) (d:Cel) (hpS:Hfe0 s) (h64:lt64 s.3=true) (h0:decide (0<=d.tag)=true) (hps:prS s.3=true) (hF:Ep (Bsg d)=true) (hW:Qh (Al6 d)=true) (hH:posH (Bsg d)=true) (h6:pos64 d=true) (hE:(!decide (Az c=0))=false) (hC:(!decide (chk mayP c s=0))=false) (hJ:(!decide (zif (chk mayP c s) (jobK c s)=1))=false):Ai Gl 600 14 [c.av,s.av,d.av] (fun v_=>sp_wnx.has v_&&(Ai (cfg [Buj,Byc,Byf,Bv2,Uy,Pj,Pm,Qq]) 600 47 [c.av,s.av,d.av] (fun w_=>(seT [seG [seI .u8,seI .i64,seI .i64],seB]).eq (.tup [AV.ix v_ 0,.bool (decide (AV.toI (AV.ix v_ 1)=0))]) w_) false)) false=true:=Eq.trans (b:=(br (Asw c) (ba (Om c s) (ba (Asx d) (br (decide (d.1>=(IntKind.wrap .u64 (65536*(IntKind.wrap .u64 (s.1+1)))))) A2s (br (decide (d.1<(IntKind.wrap .u64 (65536*s.1)))) A2s (ba (A2u s) (br (A2v d s) A2s (ba (A2u s) (br (Bkc d) (Aah c d s) (ba (Asx d) (ba (Afb d) (br (Afp d) (ba (Ff c d) (br (Bqh c d) (br (J8 d) (br (!decide ((IntKind.wrap .u64 (d.1+1))<(IntKind.wrap .u64 (65536*(IntKind.wrap .u64 (s.1+1)))))) (ba (Asw c) true) (B03 c d s)) (ba (Asw c) true)) (ba (Asw c) true))) (ba (Asw c) true)))))))))))) (ba (zfe0 s) (br (Bs7 c s) (Bu1 c d s) (br (Btp c s) (Bu1 c d s) (br (decide (d.1>=(IntKind.wrap .u64 ((IntKind.wrap .u64 (s.1*65536))+65536)))) (ba (Om c s) (ba (Asx d) (br (decide (d.1>=(IntKind.wrap .u64 (65536*(IntKind.wrap .u64 (s.1+1)))))) true (br (decide (d.1<(IntKind.wrap .u64 (65536*s.1)))) A2s (ba (A2u s) (br (A2v d s) A2s (ba (A2u s) (br (Bkc d) (Aah c d s) (Byh c d s))))))))) (br (decide (d.1<(IntKind.wrap .u64 (s.1*65536)))) (ba (Om c s) (ba (Asx d) (br (decide (d.1>=(IntKind.wrap .u64 (65536*(IntKind.wrap .u64 (s.1+1)))))) A2s (br (decide (d.1<(IntKind.wrap .u64 (65536*s.1)))) true (ba (A2u s) (br (A2v d s) A2s (ba (A2u s) (br (Bkc d) (Aah c d s) (Byh c d s))))))))) (ba (BasZPop.prS s.3) (br (A2v d s) (ba (Om c s) (ba (Asx d) (br (decide (d.1>=(IntKind.wrap .u64 (65536*(IntKind.wrap .u64 (s.1+1)))))) A2s (br (decide (d.1<(IntKind.wrap .u64 (65536*s.1)))) A2s (ba (A2u s) (br (A2v d s) true (ba (A2u s) (br (Bkc d) (Aah c d s) (Byh c d s))))))))) (ba (A2u s) (br (Bkc d) (ba (Om c s) (ba (Asx d) (br (decide (d.1>=(IntKind.wrap .u64 (65536*(IntKind.wrap .u64 (s.1+1)))))) A2s (br (decide (d.1<(IntKind.wrap .u64 (65536*s.1)))) A2s (ba (A2u s) (br (A2v d s) A2s (ba (A2u s) (br (Bkc d) (ba (decide ((Az c)=0)&&(BasZR21.hasB c (Plc.mk 4 (Asi d s) 0))) (ba ((decide ((BasZAt4.atN (f_size_0 c) c (Plc.mk 4 (AV.toI (AV.int .i64 (Asi d s))) 0))=(BasZAt4.whereS (f_size_0 c) c (Plc.mk 4 (Asi d s) 0)))&&true)&&(Byi d s)) true)) (Byh c d s))))))))) (ba (Ep (Asy d)) (br (!decide ((Fj c (Asy d))=0)) (Bu1 c d s) (ba (Qh (Al6 d)) (br (!(Afp d)) (Bu1 c d s) (br (decide ((Bq4 d)>64)) (Bu1 c d s) (br (decide ((IntKind.wrap .u64 (d.1+1))>=(IntKind.wrap .u64 ((IntKind.wrap .u64 (s.1*65536))+65536)))) (Bu1 c d s) (br (decide ((Ee c (Asy d))=4)) (br (decide (s.2=1)) (ba (Om c s) (ba (Asx d) (br (decide (d.1>=(IntKind.wrap .u64 (65536*(IntKind.wrap .u64 (s.1+1)))))) A2s (br (decide (d.1<(IntKind.wrap .u64 (65536*s.1)))) A2s (ba (A2u s) (br (A2v d s) A2s (ba (A2u s) (br (Bkc d) (Aah c d s) (ba (Asx d) (ba (Afb d) (ba (Afp d) (ba (Ff c d) (ba (Bqh c d) (ba (J8 d) (br (!decide ((IntKind.wrap .u64 (d.1+1))<(IntKind.wrap .u64 (65536*(IntKind.wrap .u64 (s.1+1)))))) A2s (ba (Bnp c d) (br (Lc c d) (ba (Bqi c d s) A2s) (br (Wh c d) (ba (Bqi c d s) A2s) (ba (decide (s.2=1)) (ba (decide ((Az c)=0)&&(BasZR21.hasB c (Plc.mk 5 (Asi d s) 0))) (ba ((decide ((BasZAt4.atN (f_size_0 c) c (Plc.mk 5 (AV.toI (AV.int .i64 (Asi d s))) 0))=(BasZAt4.whereS (f_size_0 c) c (Plc.mk 5 (Asi d s) 0)))&&true)&&(Byi d s)) true))))))))))))))))))))) (ba (Om c s) (ba (Asx d) (br (decide (d.1>=(IntKind.wrap .u64 (65536*(IntKind.wrap .u64 (s.1+1)))))) A2s (br (decide (d.1<(IntKind.wrap .u64 (65536*s.1)))) A2s (ba (A2u s) (br (A2v d s) A2s (ba (A2u s) (br (Bkc d) (Aah c d s) (ba (Asx d) (ba (Afb d) (ba (Afp d) (ba (Ff c d) (ba (Bqh c d) (ba (J8 d) (br (!decide ((IntKind.wrap .u64 (d.1+1))<(IntKind.wrap .u64 (65536*(IntKind.wrap .u64 (s.1+1)))))) A2s (ba (Bnp c d) (br (Lc c d) (ba (Bqi c d s) A2s) (br (Wh c d) (ba (Bqi c d s) A2s) (br (decide (s.2=1)) (ba (decide ((Az c)=0)&&(BasZR21.hasB c (Plc.mk 5 (Asi d s) 0))) A2s) (ba (Byi d s) true))))))))))))))))))))) (br (Wh c d) (ba (Om c s) (ba (Asx d) (br (decide (d.1>=(IntKind.wrap .u64 (65536*(IntKind.wrap .u64 (s.1+1)))))) A2s (br (decide (d.1<(IntKind.wrap .u64 (65536*s.1)))) A2s (ba (A2u s) (br (A2v d s) A2s (ba (A2u s) (br (Bkc d) (Aah c d s) (ba (Asx d) (ba (Afb d) (ba (Afp d) (ba (Ff c d) (ba (Bqh c d) (ba (J8 d) (br (!decide ((IntKind.wrap .u64 (d.1+1))<(IntKind.wrap .u64 (65536*(IntKind.wrap .u64 (s.1+1)))))) A2s (ba (Bnp c d) (br (Lc c d) (ba (Bqi c d s) A2s) (br (Wh c d) (B3g c d s) (B02 c d s))))))))))))))))))) (ba (Om c s) (ba (Asx d) (br (decide (d.1>=(IntKind.wrap .u64 (65536*(IntKind.wrap .u64 (s.1+1)))))) A2s (br (decide (d.1<(IntKind.wrap .u64 (65536*s.1)))) A2s (ba (A2u s) (br (A2v d s) A2s (ba (A2u s) (br (Bkc d) (Aah c d s) (ba (Asx d) (ba (Afb d) (ba (Afp d) (ba (Ff c d) (ba (Bqh c d) (ba (J8 d) (br (!decide ((IntKind.wrap .u64 (d.1+1))<(IntKind.wrap .u64 (65536*(IntKind.wrap .u64 (s.1+1)))))) A2s (ba (Bnp c d) (br (Lc c d) (B3g c d s) (br (Wh c d) (ba (Bqi c d s) A2s) (B02 c d s)))))))))))))))))))))))))))))))))))))) (by kernel_rfl) (btf hE (band hpS (btf hC (btf hJ (bdt (fun h_4=>(band (A8 (Ar hC) hpS) (band h6 (btb (Brz (Brb hpS hC) h_4) rfl)))) (fun h_4=>(bdt (fun h_5=>(band (A8 (Ar hC) hpS) (band h6 (btf (Brz (Brb hpS hC) h_4) (btb (Brf Br4 h_5) rfl))))) (fun h_5=>(band hps (bdt (fun h_6=>(band (A8 (Ar hC) hpS) (band h6 (btf (Brz (Brb hpS hC) h_4) (btf (Brf Br4 h_5) (band h64 (btb h_6 rfl))))))) (fun h_6=>(band h64 (bdt (fun h_7=>(band (A8 (Ar hC) hpS) (band h6 (btf (Brz (Brb hpS hC) h_4) (btf (Brf Br4 h_5) (band h64 (btf h_6 (band h64 (btb h_7 (band (A8 (Ar hE) (Ddt (hB_4 (th_in hpS h64 hC)))) (band (A8 (Aw (B0x hE (hB_4 (th_in hpS h64 hC)))) (Aw (Aw (Ddt rfl)))) rfl))))))))))) (fun h_7=>(band hF (bdt (fun h_8=>(band (A8 (Ar hC) hpS) (band h6 (btf (Brz (Brb hpS hC) h_4) (btf (Brf Br4 h_5) (band h64 (btf h_6 (band h64 (btf h_7 (band h6 (band (Bri hW) (bdt (fun h_9=>(band (A8 (Ar hE) hH) (btf (Oc h_8) rfl))) (fun h_9=>rfl))))))))))))) (fun h_8=>(band hW (bdt (fun h_9=>(band (A8 (Ar hC) hpS) (band h6 (btf (Brz (Brb hpS hC) h_4) (btf (Brf Br4 h_5) (band h64 (btf h_6 (band h64 (btf h_7 (band h6 (band (Bri hW) (btf (Oc h_9) rfl)))))))))))) (fun h_9=>(bdt (fun h_10=>(band (A8 (Ar hC) hpS) (band h6 (btf (Brz (Brb hpS hC) h_4) (btf (Brf Br4 h_5) (band h64 (btf h_6 (band h64 (btf h_7 (band h6 (band (Bri hW) (btb (Ar h_9) (band (A8 (Ar hE) hH) (btb (Ar h_8) (btf (Ddf (by have g0:=Odt h_10;omega)) rfl))))))))))))))) (fun h_10=>(bdt (fun h_11=>(band (A8 (Ar hC) hpS) (band h6 (btf (Brz (Brb hpS hC) h_4) (btf (Brf Br4 h_5) (band h64 (btf h_6 (band h64 (btf h_7 (band h6 (band (Bri hW) (btb (Ar h_9) (band (A8 (Ar hE) hH) (btb (Ar h_8) (btb (Ddt (by have g0:=Odf h_10;omega)) (btb (Am (Bwx (Brb hpS hC) h_11)) rfl)))))))))))))))) (fun h_11=>(bdt (fun h_12=>(bdt (fun h_13=>(band (A8 (Ar hC) hpS) (band h6 (btf (Brz (Brb hpS hC) h_4) (btf (Brf Br4 h_5) (band h64 (btf h_6 (band h64 (btf h_7 (band h6 (band (Bri hW) (band (Ar h_9) (band (A8 (Ar hE) hH) (band (Ar h_8) (band (Ddt (by have g0:=Odf h_10;omega)) (btf (Ad (Bwx (Brb hpS hC) h_11)) (band (A8 (A8 (Ar hE) hH) (Ar h_8)) (btf (Fq h_12 rfl) (btf (Fq h_12 rfl) (band h_13 (band (A8 (Ar hE) (Ddt (hB_5 (th_in hpS h64 hC)))) (band (A8 (Aw (B0x hE (hB_5 (th_in hpS h64 hC)))) (Aw (Aw (Ddt rfl)))) rfl)))))))))))))))))))))) (fun h_13=>(band (A8 (Ar hC) hpS) (band h6 (btf (Brz (Brb hpS hC) h_4) (btf (Brf Br4 h_5) (band h64 (btf h_6 (band h64 (btf h_7 (band h6 (band (Bri hW) (band (Ar h_9) (band (A8 (Ar hE) hH) (band (Ar h_8) (band (Ddt (by have g0:=Odf h_10;omega)) (btf (Ad (Bwx (Brb hpS hC) h_11)) (band (A8 (A8 (Ar hE) hH) (Ar h_8)) (btf (Fq h_12 rfl) (btf (Fq h_12 rfl) (btf h_13 (band (Aw (Aw (Ddt rfl))) rfl))))))))))))))))))))))) (fun h_12=>(bdt (fun h_13=>(band (A8 (Ar hC) hpS) (band h6 (btf (Brz (Brb hpS hC) h_4) (btf (Brf Br4 h_5) (band h64 (btf h_6 (band h64 (btf h_7 (band h6 (band (Bri hW) (band (Ar h_9) (band (A8 (Ar hE) hH) (band (Ar h_8) (band (Ddt (by have g0:=Odf h_10;omega)) (btf (Ad (Bwx (Brb hpS hC) h_11)) (band (A8 (A8 (Ar hE) hH) (Ar h_8)) (btf (Fq h_13 rfl) (btb h_13 (band (A8 (Ar hE) (Ddt (hB_A hE hH hC hJ h_8))) (band (A8 (Aw (B00 hE hH hC hJ h_8)) (Aw (Aw (Ddt rfl)))) rfl))))))))))))))))))))) (fun h_13=>(band (A8 (Ar hC) hpS) (band h6 (btf (Brz (Brb hpS hC) h_4) (btf (Brf Br4 h_5) (band h64 (btf h_6 (band h64 (btf h_7 (band h6 (band (Bri hW) (band (Ar h_9) (band (A8 (Ar hE) hH) (band (Ar h_8) (band (Ddt (by have g0:=Odf h_10;omega)) (btf (Ad (Bwx (Brb hpS hC) h_11)) (band (A8 (A8 (Ar hE) hH) (Ar h_8)) (btb (one_k hE hH h_8 h_9 h_12 h_13) (band (A8 (Ar hE) (Ddt (hB_A hE hH hC hJ h_8))) (band (A8 (Aw (B00 hE hH hC hJ h_8)) (Aw (Aw (Ddt rfl)))) rfl)))))))))))))))))))))))))))))))))))))))))))))))
section
variable (c:Conf)
abbrev B04:Bool:=ba (decide (2=(Az c))&&true) true
abbrev Bu2 (s:Stg):Bool:=br (Asw c) A2s (br (Bs7 c s) true (br (Btp c s) true true))
abbrev Btq (s:Stg):Bool:=br (Asw c) A2s (br (Bs7 c s) A2s (!(Btp c s)))
theorem t_xwe (s:Stg) (d:Cel) (hpS:Hfe0 s) (h64:lt64 s.3=true) (h0:decide (0<=d.tag)=true) (hps:prS s.3=true) (hF:Ep (Bsg d)=true) (hW:Qh (Al6 d)=true):Ai Gl 600 14 [c.av,s.av,d.av] (fun v_=>sp_wnx.has v_&&EB (!decide (Az c=0)) (!decide (chk mayP c s=0)) (zfe1 c s) (decide (AV.toI (AV.ix v_ 1)=0)) v_) false=true:=Eq.trans (b:=(br (Asw c) (br (Asw c) (ba (decide (40=(Az c))&&true) true) (br (Bs7 c s) (B04 c) (br (Btp c s) (B04 c) (br (decide ((Az c)=0)) true (B04 c))))) (ba (zfe0 s) (br (Bs7 c s) (Bu2 c s) (br (Btp c s) (Bu2 c s) (br (decide (d.1>=(IntKind.wrap .u64 ((IntKind.wrap .u64 (s.1*65536))+65536)))) (Btq c s) (br (decide (d.1<(IntKind.wrap .u64 (s.1*65536)))) (Btq c s) (ba (BasZPop.prS s.3) (br (A2v d s) (Btq c s) (ba (A2u s) (br (Bkc d) (Btq c s) (ba (Ep (Asy d)) (br (!decide ((Fj c (Asy d))=0)) (Bu2 c s) (ba (Qh (Al6 d)) (br (!(Afp d)) (Bu2 c s) (br (decide ((Bq4 d)>64)) (Bu2 c s) (br (decide ((IntKind.wrap .u64 (d.1+1))>=(IntKind.wrap .u64 ((IntKind.wrap .u64 (s.1*65536))+65536)))) (Bu2 c s) (br (decide ((Ee c (Asy d))=4)) (br (decide (s.2=1)) (Btq c s) (Btq c s)) (br (Wh c d) (Btq c s) (Btq c s)))))))))))))))))))) (by kernel_rfl) (bdt (fun h_1=>(btb h_1 (band (Aw (Ddt (Odt (Afc h_1)).symm)) rfl))) (fun h_1=>(band hpS (bdt (fun h_2=>(btf h_1 (btb h_2 rfl))) (fun h_2=>(bdt (fun h_3=>(btf h_1 (btf h_2 (btb h_3 rfl)))) (fun h_3=>(bdt (fun h_4=>(btf h_1 (btf h_2 (Am h_3)))) (fun h_4=>(bdt (fun h_5=>(btf h_1 (btf h_2 (Am h_3)))) (fun h_5=>(band hps (bdt (fun h_6=>(btf h_1 (btf h_2 (Am h_3)))) (fun h_6=>(band h64 (bdt (fun h_7=>(btf h_1 (btf h_2 (Am h_3)))) (fun h_7=>(band hF (bdt (fun h_8=>(btf h_1 (btf h_2 (btf h_3 rfl)))) (fun h_8=>(band hW (bdt (fun h_9=>(btf h_1 (btf h_2 (btf h_3 rfl)))) (fun h_9=>(bdt (fun h_10=>(btf h_1 (btf h_2 (btf h_3 rfl)))) (fun h_10=>(bdt (fun h_11=>(btf h_1 (btf h_2 (btf h_3 rfl)))) (fun h_11=>(bdt (fun h_12=>(bdt (fun h_13=>(btf h_1 (btf h_2 (Am h_3)))) (fun h_13=>(btf h_1 (btf h_2 (Am h_3)))))) (fun h_12=>(bdt (fun h_13=>(btf h_1 (btf h_2 (Am h_3)))) (fun h_13=>(btf h_1 (btf h_2 (Am h_3))))))))))))))))))))))))))))))))))
abbrev B3h (d:Cel) (s:Stg):Bool:=ba ((decide ((Bqv c s d)=0)&&true)&&((decide ((Bqw c s d)=0)&&true)&&((decide ((Bqx c s d)=0)&&true)&&true))) A2s
abbrev B05 (d:Cel) (s:Stg):Bool:=br (Asw c) A2s (br (Bs7 c s) true (br (Btp c s) true (br (decide ((Bqy c s d)=0)) (B3h c d s) true)))
abbrev Byj (d:Cel) (s:Stg):Bool:=ba ((decide (0=(Bqv c s d))&&true)&&((decide (0=(Bqw c s d))&&true)&&((decide (0=(Bqx c s d))&&true)&&true))) A2s
theorem B4x (s:Stg) (d:Cel) (hpS:Hfe0 s) (hq:(pW s d&&pos64 d)=true):Ai (cfg [Ia,Bye,Buj,Byg]) 600 15 [c.av,s.av,d.av] (fun w_=>(TN (!decide (Az c=0)) (!decide (chk mayP c s=0)) (zfe1 c s) (decide (Bqy c s d=0)) (.tup [.agg [.int .u8 (Bqv c s d),.int .i64 (Bqw c s d),.int .i64 (Bqx c s d)],.int .i64 0])).ev (fun l_=>(seT [seG [seI .u8,seI .i64,seI .i64],seI .i64]).eq (lget l_ 0) w_) false) false=true:=Eq.trans (b:=(br (!(Conf.ok c)) (br (Asw c) true (br (Bs7 c s) A2s (br (Btp c s) A2s (ba (decide ((Bqy c s d)=0)) (B3h c d s))))) (ba (decide ((Az c)=0)&&(zfe0 s)) (br (Bs7 c s) (B05 c d s) (ba (Om c s) (br (decide ((BasZR25.apl c s)<0)) (B05 c d s) (ba (BasZR25.pT c s d) (br (!decide ((Bqy c s d)=0)) (B05 c d s) (ba (BasZR25.pT c s d) (br (Asw c) (Byj c d s) (br (Bs7 c s) (Byj c d s) (br (Btp c s) (Byj c d s) (br (decide ((Bqy c s d)=0)) (ba ((decide ((Bqv c s d)=(Bqv c s d))&&true)&&((decide ((Bqw c s d)=(Bqw c s d))&&true)&&((decide ((Bqx c s d)=(Bqx c s d))&&true)&&true))) true) (Byj c d s)))))))))))))) (by kernel_rfl) (bdt (fun h_1=>(btb (Am (cfgT h_1)) rfl)) (fun h_1=>(band (A8 (Dk h_1) hpS) (bdt (fun h_2=>(btf (Ad (Dk h_1)) (btb h_2 rfl))) (fun h_2=>(band (A8 (Ar h_2) hpS) (bdt (fun h_3=>(btf (Ad (Dk h_1)) (btf h_2 (btb (Am (B01 h_2 h_3)) rfl)))) (fun h_3=>(band (B3f (Dk h_1) (Ar h_2) (Bt1 h_3) hq) (bdt (fun h_4=>(btf (Ad (Dk h_1)) (btf h_2 (btf (Ad (Bt1 h_3)) (btf (Oc h_4) rfl))))) (fun h_4=>(band (B3f (Dk h_1) (Ar h_2) (Bt1 h_3) hq) (btf (Ad (Dk h_1)) (btf h_2 (btf (Ad (Bt1 h_3)) (btb (Ar h_4) (band (A8 (Aw (Ddt rfl)) (A8 (Aw (Ddt rfl)) (Aw (Aw (Ddt rfl))))) rfl)))))))))))))))))
end
theorem B4y (c:Conf) (s:Stg) (d:Cel) (hp:pT c s d=true):(sp_wnx.has (A8y c s d)&&(Ai (cfg [Buj,Byc,Byf,Bv2,Uy,Pj,Pm,Qq]) 600 47 [c.av,s.av,d.av] (fun w_=>(seT [seG [seI .u8,seI .i64,seI .i64],seB]).eq (.tup [AV.ix (A8y c s d) 0,.bool (decide (AV.toI (AV.ix (A8y c s d) 1)=0))]) w_) false))=true:=by
 have h:=Aj (Af hp)
 have q:=Aj hp
 exact Gx (P:=fun v_=>sp_wnx.has v_&&(Ai (cfg [Buj,Byc,Byf,Bv2,Uy,Pj,Pm,Qq]) 600 47 [c.av,s.av,d.av] (fun w_=>(seT [seG [seI .u8,seI .i64,seI .i64],seB]).eq (.tup [AV.ix v_ 0,.bool (decide (AV.toI (AV.ix v_ 1)=0))]) w_) false)) (X:=A8y c s d) (B19 c s d (Aj h) (Aj (Af h)) (Af (Af h)) (Bxc (Aj (Af h))) (Bua d) (Bxb d) (B4t d) (Af (Af hp)) (Ad (Aj q)) (Ad (Aj (Af q))) (Ad (Af (Af q)))) rfl
theorem B2a:Bc Tryz.prog (Cb gs) Byg:=Hz fun c s d h=>Aq base (Ah B0z (Ah s_ofR (Ah s_rsz (Ah s_rth (Ah Bie (Ah Bgo (Ah Bgp (Ah A9l Ap)))))))) (n:=600) fun k hk=>by
 have q:=B4y c s d h
 have e:A8y c s d=Bue c s d:=(sp_wnx.ok _ (Aj q)).trans (Bxd c s d)
 refine (Dh (Af q) (fun w_ hw=>((seT [seG [seI .u8,seI .i64,seI .i64],seB])).ok _ _ hw) k).trans ?_
 have e2:AV.tup [AV.ix (A8y c s d) 0,.bool (decide (AV.toI (AV.ix (A8y c s d) 1)=0))]=.tup [.agg [.int .u8 (Bqv c s d),.int .i64 (Bqw c s d),.int .i64 (Bqx c s d)],.bool (decide (Bqy c s d=0))]:=by
  have e3:AV.ix (A8y c s d) 0=.agg [.int .u8 (Bqv c s d),.int .i64 (Bqw c s d),.int .i64 (Bqx c s d)]:=congrArg (fun v=>AV.ix v 0) e
  rw [e3];rfl
 rw [e2]
 exact hk
theorem B2b (c:Conf) (s:Stg) (d:Cel) (h:pW s d=true):Bue c s d=TV (!decide (Az c=0)) (!decide (chk mayP c s=0)) (!decide (zif (chk mayP c s) (jobK c s)=1)) (decide (Bqy c s d=0)) (.tup [.agg [.int .u8 (Bqv c s d),.int .i64 (Bqw c s d),.int .i64 (Bqx c s d)],.int .i64 0]):=by
 have q:(sp_wnx.has (A8y c s d)&&EB (!decide (Az c=0)) (!decide (chk mayP c s=0)) (!decide (zif (chk mayP c s) (jobK c s)=1)) (decide (AV.toI (AV.ix (A8y c s d) 1)=0)) (A8y c s d))=true:=Gx (P:=fun v_=>sp_wnx.has v_&&EB (!decide (Az c=0)) (!decide (chk mayP c s=0)) (!decide (zif (chk mayP c s) (jobK c s)=1)) (decide (AV.toI (AV.ix v_ 1)=0)) v_) (X:=A8y c s d) (t_xwe c s d (Aj h) (Aj (Af h)) (Af (Af h)) (Bxc (Aj (Af h))) (Bua d) (Bxb d)) rfl
 have e:A8y c s d=Bue c s d:=(sp_wnx.ok _ (Aj q)).trans (Bxd c s d)
 refine e.symm.trans (EB_v (g:=decide (Bqy c s d=0)) (Af q) fun hg=>e.trans ?_)
 unfold Bue
 rw [Odt hg]
def B06:Sum:=(15,on3 Dp rStg Bza (fun _ s d=>pW s d&&pos64 d) (fun c s d=>Bue c s d))
theorem B4z:Bc Tryz.prog (Cb gs) B06:=Hz fun c s d h=>Aq base (Ah Afz (Ah B18 (Ah B0z (Ah B2a Ap)))) (n:=600) fun k hk=>by
 rw [B2b c s d (Aj h)] at hk
 exact (Dh (B4x c s d (Aj (Aj h)) h) (fun w_ hw=>TN_ev hw) k).trans hk
end
end Go.Bas.BasZR25
