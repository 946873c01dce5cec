/- The document's program of routes: it answers what the program's does. -/
import Derived.Test.YtjepofcbkojibaaGreatDoorBasW7
set_option maxRecDepth 100000
set_option maxHeartbeats 4000000
set_option linter.unusedVariables false
set_option linter.unusedSimpArgs false
namespace Go.Bas.BasZR12
noncomputable section
open Go.RowKit Go.Proofs
open BasZBase BasZOp BasZOk BasZRef5d BasZOk2 BasZRef14 BasZR14 BasZTrie BasZOk3
def abvN:Nat->Int->Int
 | 0,n=>n
 | k+1,n=>abvN k (IntKind.wrap .i64 (Int.tdiv n 2))
def abv (n k:Int):Int:=abvN k.toNat n
def p2N:Nat->Int
 | 0=>1
 | k+1=>2*p2N k
def p2 (k:Int):Int:=p2N k.toNat
def bitsB (c:Conf) (f:Frm):Int:=cond (decide (f.kind=3)) c.bits (IntKind.wrap .i64 f.b)
theorem s7 {k:Int} (h:(decide (0<=k)&&decide (k<=6))=true):k=0\/k=1\/k=2\/k=3\/k=4\/k=5\/k=6:=by
 simp only [Bae,Dte] at h
 omega
def Bmv (b h a:Nat):Bool:=decide (ishr .i64 (ior .i64 (Gz .i64 1 (b:Int)) (IntKind.wrap .i64 (a:Int))) (IntKind.wrap .i64 ((b:Int)-IntKind.wrap .i64 (h:Int)))=abv (IntKind.wrap .i64 (IntKind.wrap .i64 (a:Int)+p2 (b:Int))) (IntKind.wrap .i64 ((b:Int)-IntKind.wrap .i64 (h:Int))))
def Bmw (b a:Nat):Bool:=decide (ior .i64 (Gz .i64 1 (b:Int)) (IntKind.wrap .i64 (a:Int))=IntKind.wrap .i64 (IntKind.wrap .i64 (a:Int)+p2 (b:Int)))
def Bmx (b h a:Nat):Bool:=decide (0<=ishr .i64 (ior .i64 (Gz .i64 1 (b:Int)) (IntKind.wrap .i64 (a:Int))) (IntKind.wrap .i64 ((b:Int)-IntKind.wrap .i64 (h:Int)))/\ishr .i64 (ior .i64 (Gz .i64 1 (b:Int)) (IntKind.wrap .i64 (a:Int))) (IntKind.wrap .i64 ((b:Int)-IntKind.wrap .i64 (h:Int)))<2 ^ (b+1))&&decide (0<=ior .i64 (Gz .i64 1 (b:Int)) (IntKind.wrap .i64 (a:Int))/\ior .i64 (Gz .i64 1 (b:Int)) (IntKind.wrap .i64 (a:Int))<2 ^ (b+1))
theorem A57:(List.range 7).all (fun b=>(List.range (b+1)).all fun h=>(List.range (2 ^ b)).all fun a=>Bmv b h a&&(Bmw b a&&Bmx b h a))=true:=by decide +kernel
theorem Aw6 {b h a:Int} (hb0:0<=b) (hb:b<=6) (hh0:0<=h) (hh:h<=b) (ha0:0<=a) (ha:a<2 ^ b.toNat):ishr .i64 (ior .i64 (Gz .i64 1 b) (IntKind.wrap .i64 a)) (IntKind.wrap .i64 (b-IntKind.wrap .i64 h))=abv (IntKind.wrap .i64 (IntKind.wrap .i64 a+p2 b)) (IntKind.wrap .i64 (b-IntKind.wrap .i64 h))/\ior .i64 (Gz .i64 1 b) (IntKind.wrap .i64 a)=IntKind.wrap .i64 (IntKind.wrap .i64 a+p2 b)/\(0<=ishr .i64 (ior .i64 (Gz .i64 1 b) (IntKind.wrap .i64 a)) (IntKind.wrap .i64 (b-IntKind.wrap .i64 h))/\ishr .i64 (ior .i64 (Gz .i64 1 b) (IntKind.wrap .i64 a)) (IntKind.wrap .i64 (b-IntKind.wrap .i64 h))<2 ^ (b.toNat+1))/\(0<=ior .i64 (Gz .i64 1 b) (IntKind.wrap .i64 a)/\ior .i64 (Gz .i64 1 b) (IntKind.wrap .i64 a)<2 ^ (b.toNat+1)):=by
 obtain ⟨B,rfl⟩:=Int.eq_ofNat_of_zero_le hb0
 obtain ⟨H,rfl⟩:=Int.eq_ofNat_of_zero_le hh0
 obtain ⟨A,rfl⟩:=Int.eq_ofNat_of_zero_le ha0
 rw [Int.toNat_natCast] at ha ⊢
 have ha:A<2 ^ B:=by
  have e:((2:Int) ^ B)=((2 ^ B:Nat):Int):=by simp
  rw [e] at ha;omega
 have q:=List.all_eq_true.1 (List.all_eq_true.1 (List.all_eq_true.1 A57 B (List.mem_range.2 (by omega))) H (List.mem_range.2 (by omega))) A (List.mem_range.2 ha)
 have r:=Af q
 exact ⟨Odt (Aj q),Odt (Aj r),Odt (Aj (Af r)),Odt (Af (Af r))⟩
def A58 (f:Frm):Bool:=decide (f.kind=1\/f.kind=2\/f.kind=3)
def preW (c:Conf) (f:Frm):Bool:=(decide (0<=bitsB c f)&&decide (bitsB c f<=6))&&(posH f&&A58 f)
theorem A59 {c:Conf} {f:Frm} {y:Int} (hg:Eu f=true) (n1:¬ f.kind=1) (n2:¬ f.kind=2) (n3:¬ f.kind=3):decide (Ag (⟨1,c.ins,c.thr,c.kind,c.str,c.bits,c.cap,c.node,c.batch,c.chunk,c.limit,c.most⟩:Conf) ⟨f.kind,f.a,f.b,y⟩=0)=false:=by
 refine Ddf fun h=>?_
 have q:=H7.1 (Aj hg)
 have k:=(Aen (o:=⟨f.kind,f.a,f.b,y⟩) q.1 q.2.1 q.2.2.1 h).1
 have k:Be f.kind=1:=k
 have:=Aa1 q.1 q.2.1
 omega
theorem n_1 {n:Int} (h:0<=n/\n<=255):Int.tmod (IntKind.wrap .u64 (IntKind.wrap .u8 (n+1))) 64=Int.tmod (IntKind.wrap .u64 (IntKind.wrap .u64 n+1)) 64:=by
 obtain ⟨N,rfl⟩:=Int.eq_ofNat_of_zero_le h.1
 have q:(List.range 256).all (fun n=>decide (Int.tmod (IntKind.wrap .u64 (IntKind.wrap .u8 ((n:Int)+1))) 64=Int.tmod (IntKind.wrap .u64 (IntKind.wrap .u64 (n:Int)+1)) 64))=true:=by decide +kernel
 exact Odt (List.all_eq_true.1 q N (List.mem_range.2 (by omega)))
theorem n_63 {n:Int} (h:0<=n/\n<=255):Int.tmod (IntKind.wrap .u64 (IntKind.wrap .u8 (n+63))) 64=Int.tmod (IntKind.wrap .u64 (IntKind.wrap .u64 n+63)) 64:=by
 obtain ⟨N,rfl⟩:=Int.eq_ofNat_of_zero_le h.1
 have q:(List.range 256).all (fun n=>decide (Int.tmod (IntKind.wrap .u64 (IntKind.wrap .u8 ((n:Int)+63))) 64=Int.tmod (IntKind.wrap .u64 (IntKind.wrap .u64 (n:Int)+63)) 64))=true:=by decide +kernel
 exact Odt (List.all_eq_true.1 q N (List.mem_range.2 (by omega)))
theorem n_64 {n:Int} (h:0<=n/\n<=255):IntKind.wrap .u64 (Int.tmod n 64)=Int.tmod (IntKind.wrap .u64 n) 64:=by
 obtain ⟨N,rfl⟩:=Int.eq_ofNat_of_zero_le h.1
 have q:(List.range 256).all (fun n=>decide (IntKind.wrap .u64 (Int.tmod (n:Int) 64)=Int.tmod (IntKind.wrap .u64 (n:Int)) 64))=true:=by decide +kernel
 exact Odt (List.all_eq_true.1 q N (List.mem_range.2 (by omega)))
theorem lfb {b:Bool} (h:(Tr.leaf [.bool b]).bool 0=true):b=true:=h
theorem Bcg {c:Conf} {o:Opr} (h:E9 c o=true):(o.kind=1\/o.kind=2->o.b<=IntKind.wrap .u32 c.bits/\o.a<Gz .u32 1 o.b)/\(o.kind=3->o.a<Gz .u32 1 c.bits):=by
 unfold E9 Ic at h;try simp only [Bq3,Bze,Byl,Bzf,Bym] at h
 revert h
 repeat' (first|(intro h;cases h;done)|refine prx (fun h=>?_) (fun h=>?_))
 all_goals
  intro hl
  try have hl:=lfb hl
  simp only [Dte,Dni,Bool.not_eq_true',Bool.not_eq_false'] at *;refine ⟨fun hk=>?_,fun hk=>?_⟩<;>first|omega|(exfalso;omega)
theorem Bip {b:Int} (h0:0<=b) (h6:b<=6):Gz .u32 1 b=2 ^ b.toNat:=by
 rcases (show b=0\/b=1\/b=2\/b=3\/b=4\/b=5\/b=6 by omega) with rfl|rfl|rfl|rfl|rfl|rfl|rfl<;>rfl
theorem Aro {c:Conf} {f:Frm} (h:Df ⟨f,c⟩=true):(f.kind=1/\Ag c ⟨f.kind,f.a,f.b,f.y⟩=0)\/(¬ f.kind=1/\Ag c ⟨f.kind,f.a,f.b,0⟩=0):=by
 unfold Df Sm at h;try simp only [Bs8,Buk,Bzi,Bw0,Bzj] at h
 revert h
 repeat' (first|(intro h;cases h;done)|refine prx (fun h=>?_) (fun h=>?_))
 all_goals
  intro _;simp only [Dte,Dni,Bool.not_eq_true',Bool.not_eq_false'] at *
  first|exact .inl ⟨by assumption,by assumption⟩|exact .inr ⟨by assumption,by assumption⟩|omega
theorem A6a {c:Conf} {f:Frm} (he:decide (Az c=0)=true) (ho:c.ob=1) (hp:posH f=true) (hm:Df ⟨f,c⟩=true):(f.kind=1\/f.kind=2\/f.kind=3)/\0<=bitsB c f/\bitsB c f<=c.bits/\c.bits<=6/\f.h<=bitsB c f/\f.a<2 ^ (bitsB c f).toNat:=by
 have hn:=F5 hp
 have hb:=Af7 (Odt he) ho
 have hx:=Adj hm
 rw [Uz (by omega) (by omega),Uz (by omega) (by omega)] at hx
 have key:∀ y:Int,Ag c ⟨f.kind,f.a,f.b,y⟩=0->(f.kind=1\/f.kind=2\/f.kind=3)/\(f.kind=1\/f.kind=2->f.b<=IntKind.wrap .u32 c.bits/\f.a<Gz .u32 1 f.b)/\(f.kind=3->f.a<Gz .u32 1 c.bits):=fun y h=>by
  have q:=Aen (o:=⟨f.kind,f.a,f.b,y⟩) hn.1.1 hn.1.2 hn.2.2.1.1 h;have k:Be f.kind=c.ob:=q.1;have:=Aa1 hn.1.1 hn.1.2;exact ⟨by omega,Bcg q.2.1⟩
 have q:(f.kind=1\/f.kind=2\/f.kind=3)/\(f.kind=1\/f.kind=2->f.b<=IntKind.wrap .u32 c.bits/\f.a<Gz .u32 1 f.b)/\(f.kind=3->f.a<Gz .u32 1 c.bits):=by
  rcases Aro hm with h|h
  ·exact key _ h.2
  ·exact key _ h.2
 rw [Uz (n:=c.bits) (by omega) (by omega)] at q
 refine ⟨q.1,?_⟩
 unfold Ahv at hx
 by_cases k3:f.kind=3
 ·have eb:bitsB c f=c.bits:=by unfold bitsB;rw [Ddt k3];rfl
  have:=q.2.2 k3;rw [Bip (by omega) (by omega)] at this
  rw [eb];have h1:=(hx.1 k3).1;exact ⟨by omega,by omega,by omega,by omega,this⟩
 ·have eb:bitsB c f=f.b:=by unfold bitsB;rw [Ddf k3];exact i64_mid (by omega) (by omega)
  have r:=q.2.1 (by omega)
  rw [Bip (by omega) (by omega)] at r
  rw [eb];have h1:=(hx.2 k3).1;exact ⟨by omega,by omega,by omega,by omega,r.2⟩
theorem Bmy {c:Conf} {f:Frm} (hg:Eu f=true) (n1:¬ f.kind=1) (n2:¬ f.kind=2) (n3:¬ f.kind=3):Df ⟨f,(⟨1,c.ins,c.thr,c.kind,c.str,c.bits,c.cap,c.node,c.batch,c.chunk,c.limit,c.most⟩:Conf)⟩=false:=by
 cases hm:Df ⟨f,(⟨1,c.ins,c.thr,c.kind,c.str,c.bits,c.cap,c.node,c.batch,c.chunk,c.limit,c.most⟩:Conf)⟩ with
 | false=>rfl
 | true =>
  rcases Aro hm with h|h
  ·exact absurd h.1 n1
  ·exact absurd h.2 (Odf (A59 hg n1 n2 n3))
def Aw7:Sum:=(217,on2 Dp Ji (fun c f=>preW c f) (fun c f=>.tup [.int .i64 (IntKind.wrap .i64 (IntKind.wrap .i64 f.a+p2 (bitsB c f))),.int .i64 (bitsB c f)]))
abbrev Bxe (f:Frm):Frm:=⟨3,f.a,f.b,f.pc,f.i,f.j,f.n,f.p,f.h,f.x,f.y⟩
abbrev Bq1:=cfg []
abbrev zcl1:=seI .i64
abbrev zcl2:=seT [zcl1,zcl1]
abbrev zcl3 (f:Frm):AV->Bool:=fun w_=>zcl2.eq (.tup [.int .i64 (IntKind.wrap .i64 (IntKind.wrap .i64 f.a+1)),.int .i64 0]) w_
abbrev Al5:=true
theorem Bch (c:Conf) (f:Frm):Ai Bq1 400 217 [(⟨c.ob,c.ins,c.thr,c.kind,c.str,0,c.cap,c.node,c.batch,c.chunk,c.limit,c.most⟩:Conf).av,(Bxe f).av] (zcl3 f) false=true:=Eq.trans (b:=(ba (decide ((IntKind.wrap .i64 ((IntKind.wrap .i64 f.2)+1))=(IntKind.wrap .i64 ((IntKind.wrap .i64 f.2)+1)))&&true) Al5)) (by kernel_rfl) (band (Aw (Ddt rfl)) rfl)
abbrev zcl5 (f:Frm):AV->Bool:=fun w_=>zcl2.eq (.tup [.int .i64 (IntKind.wrap .i64 (IntKind.wrap .i64 f.a+2)),.int .i64 1]) w_
theorem Bci (c:Conf) (f:Frm):Ai Bq1 400 217 [(⟨c.ob,c.ins,c.thr,c.kind,c.str,1,c.cap,c.node,c.batch,c.chunk,c.limit,c.most⟩:Conf).av,(Bxe f).av] (zcl5 f) false=true:=Eq.trans (b:=(ba (decide ((IntKind.wrap .i64 ((IntKind.wrap .i64 f.2)+2))=(IntKind.wrap .i64 ((IntKind.wrap .i64 f.2)+2)))&&true) Al5)) (by kernel_rfl) (band (Aw (Ddt rfl)) rfl)
abbrev zcl6 (f:Frm):AV->Bool:=fun w_=>zcl2.eq (.tup [.int .i64 (IntKind.wrap .i64 (IntKind.wrap .i64 f.a+4)),.int .i64 2]) w_
theorem Bcj (c:Conf) (f:Frm):Ai Bq1 400 217 [(⟨c.ob,c.ins,c.thr,c.kind,c.str,2,c.cap,c.node,c.batch,c.chunk,c.limit,c.most⟩:Conf).av,(Bxe f).av] (zcl6 f) false=true:=Eq.trans (b:=(ba (decide ((IntKind.wrap .i64 ((IntKind.wrap .i64 f.2)+4))=(IntKind.wrap .i64 ((IntKind.wrap .i64 f.2)+4)))&&true) Al5)) (by kernel_rfl) (band (Aw (Ddt rfl)) rfl)
abbrev zcl7 (f:Frm):AV->Bool:=fun w_=>zcl2.eq (.tup [.int .i64 (IntKind.wrap .i64 (IntKind.wrap .i64 f.a+8)),.int .i64 3]) w_
theorem Bck (c:Conf) (f:Frm):Ai Bq1 400 217 [(⟨c.ob,c.ins,c.thr,c.kind,c.str,3,c.cap,c.node,c.batch,c.chunk,c.limit,c.most⟩:Conf).av,(Bxe f).av] (zcl7 f) false=true:=Eq.trans (b:=(ba (decide ((IntKind.wrap .i64 ((IntKind.wrap .i64 f.2)+8))=(IntKind.wrap .i64 ((IntKind.wrap .i64 f.2)+8)))&&true) Al5)) (by kernel_rfl) (band (Aw (Ddt rfl)) rfl)
abbrev zcl8 (f:Frm):AV->Bool:=fun w_=>zcl2.eq (.tup [.int .i64 (IntKind.wrap .i64 (IntKind.wrap .i64 f.a+16)),.int .i64 4]) w_
theorem Bcl (c:Conf) (f:Frm):Ai Bq1 400 217 [(⟨c.ob,c.ins,c.thr,c.kind,c.str,4,c.cap,c.node,c.batch,c.chunk,c.limit,c.most⟩:Conf).av,(Bxe f).av] (zcl8 f) false=true:=Eq.trans (b:=(ba (decide ((IntKind.wrap .i64 ((IntKind.wrap .i64 f.2)+16))=(IntKind.wrap .i64 ((IntKind.wrap .i64 f.2)+16)))&&true) Al5)) (by kernel_rfl) (band (Aw (Ddt rfl)) rfl)
abbrev zcl9 (f:Frm):AV->Bool:=fun w_=>zcl2.eq (.tup [.int .i64 (IntKind.wrap .i64 (IntKind.wrap .i64 f.a+32)),.int .i64 5]) w_
theorem Bcm (c:Conf) (f:Frm):Ai Bq1 400 217 [(⟨c.ob,c.ins,c.thr,c.kind,c.str,5,c.cap,c.node,c.batch,c.chunk,c.limit,c.most⟩:Conf).av,(Bxe f).av] (zcl9 f) false=true:=Eq.trans (b:=(ba (decide ((IntKind.wrap .i64 ((IntKind.wrap .i64 f.2)+32))=(IntKind.wrap .i64 ((IntKind.wrap .i64 f.2)+32)))&&true) Al5)) (by kernel_rfl) (band (Aw (Ddt rfl)) rfl)
abbrev Bz7 (f:Frm):AV->Bool:=fun w_=>zcl2.eq (.tup [.int .i64 (IntKind.wrap .i64 (IntKind.wrap .i64 f.a+64)),.int .i64 6]) w_
section
variable (c:Conf) (f:Frm)
theorem Bcn:Ai Bq1 400 217 [(⟨c.ob,c.ins,c.thr,c.kind,c.str,6,c.cap,c.node,c.batch,c.chunk,c.limit,c.most⟩:Conf).av,(Bxe f).av] (Bz7 f) false=true:=Eq.trans (b:=(ba (decide ((IntKind.wrap .i64 ((IntKind.wrap .i64 f.2)+64))=(IntKind.wrap .i64 ((IntKind.wrap .i64 f.2)+64)))&&true) Al5)) (by kernel_rfl) (band (Aw (Ddt rfl)) rfl)
theorem Bco:Ai Bq1 400 217 [c.av,(⟨1,f.a,0,f.pc,f.i,f.j,f.n,f.p,f.h,f.x,f.y⟩:Frm).av] (zcl3 f) false=true:=Eq.trans (b:=(ba (decide ((IntKind.wrap .i64 ((IntKind.wrap .i64 f.2)+1))=(IntKind.wrap .i64 ((IntKind.wrap .i64 f.2)+1)))&&true) Al5)) (by kernel_rfl) (band (Aw (Ddt rfl)) rfl)
theorem Bcp:Ai Bq1 400 217 [c.av,(⟨1,f.a,1,f.pc,f.i,f.j,f.n,f.p,f.h,f.x,f.y⟩:Frm).av] (zcl5 f) false=true:=Eq.trans (b:=(ba (decide ((IntKind.wrap .i64 ((IntKind.wrap .i64 f.2)+2))=(IntKind.wrap .i64 ((IntKind.wrap .i64 f.2)+2)))&&true) Al5)) (by kernel_rfl) (band (Aw (Ddt rfl)) rfl)
theorem Bcq:Ai Bq1 400 217 [c.av,(⟨1,f.a,2,f.pc,f.i,f.j,f.n,f.p,f.h,f.x,f.y⟩:Frm).av] (zcl6 f) false=true:=Eq.trans (b:=(ba (decide ((IntKind.wrap .i64 ((IntKind.wrap .i64 f.2)+4))=(IntKind.wrap .i64 ((IntKind.wrap .i64 f.2)+4)))&&true) Al5)) (by kernel_rfl) (band (Aw (Ddt rfl)) rfl)
theorem Bcr:Ai Bq1 400 217 [c.av,(⟨1,f.a,3,f.pc,f.i,f.j,f.n,f.p,f.h,f.x,f.y⟩:Frm).av] (zcl7 f) false=true:=Eq.trans (b:=(ba (decide ((IntKind.wrap .i64 ((IntKind.wrap .i64 f.2)+8))=(IntKind.wrap .i64 ((IntKind.wrap .i64 f.2)+8)))&&true) Al5)) (by kernel_rfl) (band (Aw (Ddt rfl)) rfl)
theorem Bcs:Ai Bq1 400 217 [c.av,(⟨1,f.a,4,f.pc,f.i,f.j,f.n,f.p,f.h,f.x,f.y⟩:Frm).av] (zcl8 f) false=true:=Eq.trans (b:=(ba (decide ((IntKind.wrap .i64 ((IntKind.wrap .i64 f.2)+16))=(IntKind.wrap .i64 ((IntKind.wrap .i64 f.2)+16)))&&true) Al5)) (by kernel_rfl) (band (Aw (Ddt rfl)) rfl)
theorem Bct:Ai Bq1 400 217 [c.av,(⟨1,f.a,5,f.pc,f.i,f.j,f.n,f.p,f.h,f.x,f.y⟩:Frm).av] (zcl9 f) false=true:=Eq.trans (b:=(ba (decide ((IntKind.wrap .i64 ((IntKind.wrap .i64 f.2)+32))=(IntKind.wrap .i64 ((IntKind.wrap .i64 f.2)+32)))&&true) Al5)) (by kernel_rfl) (band (Aw (Ddt rfl)) rfl)
theorem Bcu:Ai Bq1 400 217 [c.av,(⟨1,f.a,6,f.pc,f.i,f.j,f.n,f.p,f.h,f.x,f.y⟩:Frm).av] (Bz7 f) false=true:=Eq.trans (b:=(ba (decide ((IntKind.wrap .i64 ((IntKind.wrap .i64 f.2)+64))=(IntKind.wrap .i64 ((IntKind.wrap .i64 f.2)+64)))&&true) Al5)) (by kernel_rfl) (band (Aw (Ddt rfl)) rfl)
theorem Bcv:Ai Bq1 400 217 [c.av,(⟨2,f.a,0,f.pc,f.i,f.j,f.n,f.p,f.h,f.x,f.y⟩:Frm).av] (zcl3 f) false=true:=Eq.trans (b:=(ba (decide ((IntKind.wrap .i64 ((IntKind.wrap .i64 f.2)+1))=(IntKind.wrap .i64 ((IntKind.wrap .i64 f.2)+1)))&&true) Al5)) (by kernel_rfl) (band (Aw (Ddt rfl)) rfl)
theorem Bcw:Ai Bq1 400 217 [c.av,(⟨2,f.a,1,f.pc,f.i,f.j,f.n,f.p,f.h,f.x,f.y⟩:Frm).av] (zcl5 f) false=true:=Eq.trans (b:=(ba (decide ((IntKind.wrap .i64 ((IntKind.wrap .i64 f.2)+2))=(IntKind.wrap .i64 ((IntKind.wrap .i64 f.2)+2)))&&true) Al5)) (by kernel_rfl) (band (Aw (Ddt rfl)) rfl)
theorem Bcx:Ai Bq1 400 217 [c.av,(⟨2,f.a,2,f.pc,f.i,f.j,f.n,f.p,f.h,f.x,f.y⟩:Frm).av] (zcl6 f) false=true:=Eq.trans (b:=(ba (decide ((IntKind.wrap .i64 ((IntKind.wrap .i64 f.2)+4))=(IntKind.wrap .i64 ((IntKind.wrap .i64 f.2)+4)))&&true) Al5)) (by kernel_rfl) (band (Aw (Ddt rfl)) rfl)
theorem Bcy:Ai Bq1 400 217 [c.av,(⟨2,f.a,3,f.pc,f.i,f.j,f.n,f.p,f.h,f.x,f.y⟩:Frm).av] (zcl7 f) false=true:=Eq.trans (b:=(ba (decide ((IntKind.wrap .i64 ((IntKind.wrap .i64 f.2)+8))=(IntKind.wrap .i64 ((IntKind.wrap .i64 f.2)+8)))&&true) Al5)) (by kernel_rfl) (band (Aw (Ddt rfl)) rfl)
theorem Bcz:Ai Bq1 400 217 [c.av,(⟨2,f.a,4,f.pc,f.i,f.j,f.n,f.p,f.h,f.x,f.y⟩:Frm).av] (zcl8 f) false=true:=Eq.trans (b:=(ba (decide ((IntKind.wrap .i64 ((IntKind.wrap .i64 f.2)+16))=(IntKind.wrap .i64 ((IntKind.wrap .i64 f.2)+16)))&&true) Al5)) (by kernel_rfl) (band (Aw (Ddt rfl)) rfl)
theorem Bc0:Ai Bq1 400 217 [c.av,(⟨2,f.a,5,f.pc,f.i,f.j,f.n,f.p,f.h,f.x,f.y⟩:Frm).av] (zcl9 f) false=true:=Eq.trans (b:=(ba (decide ((IntKind.wrap .i64 ((IntKind.wrap .i64 f.2)+32))=(IntKind.wrap .i64 ((IntKind.wrap .i64 f.2)+32)))&&true) Al5)) (by kernel_rfl) (band (Aw (Ddt rfl)) rfl)
theorem Bc1:Ai Bq1 400 217 [c.av,(⟨2,f.a,6,f.pc,f.i,f.j,f.n,f.p,f.h,f.x,f.y⟩:Frm).av] (Bz7 f) false=true:=Eq.trans (b:=(ba (decide ((IntKind.wrap .i64 ((IntKind.wrap .i64 f.2)+64))=(IntKind.wrap .i64 ((IntKind.wrap .i64 f.2)+64)))&&true) Al5)) (by kernel_rfl) (band (Aw (Ddt rfl)) rfl)
end
theorem A0j (c:Conf) (f:Frm) (h:preW c f=true):Ai Bq1 400 217 [c.av,f.av] (fun w_=>zcl2.eq (.tup [.int .i64 (IntKind.wrap .i64 (IntKind.wrap .i64 f.a+p2 (bitsB c f))),.int .i64 (bitsB c f)]) w_) false=true:=by
 have q:=s7 (Aj h)
 have hn:=F5 (Aj (Af h))
 have k3:=Af (Af h)
 unfold A58 at k3
 simp only [Dte] at k3
 rcases k3 with hk|hk|hk
 ·have eb:bitsB c f=IntKind.wrap .i64 f.b:=by unfold bitsB;rw [Ddf (show ¬ f.kind=3 by omega)];rfl
  rw [i64_mid (n:=f.b) (by omega) (by omega)] at eb
  rw [eb] at q ⊢;have ef:∀ {m:Int},f.b=m->f=(⟨1,f.a,m,f.pc,f.i,f.j,f.n,f.p,f.h,f.x,f.y⟩:Frm):=fun {m} hm=>by cases f;cases hm;cases hk;rfl
  rcases q with q|q|q|q|q|q|q<;>rw [q,ef q]
  ·exact Bco c f
  ·exact Bcp c f
  ·exact Bcq c f
  ·exact Bcr c f
  ·exact Bcs c f
  ·exact Bct c f
  ·exact Bcu c f
 ·have eb:bitsB c f=IntKind.wrap .i64 f.b:=by unfold bitsB;rw [Ddf (show ¬ f.kind=3 by omega)];rfl
  rw [i64_mid (n:=f.b) (by omega) (by omega)] at eb
  rw [eb] at q ⊢;have ef:∀ {m:Int},f.b=m->f=(⟨2,f.a,m,f.pc,f.i,f.j,f.n,f.p,f.h,f.x,f.y⟩:Frm):=fun {m} hm=>by cases f;cases hm;cases hk;rfl
  rcases q with q|q|q|q|q|q|q<;>rw [q,ef q]
  ·exact Bcv c f
  ·exact Bcw c f
  ·exact Bcx c f
  ·exact Bcy c f
  ·exact Bcz c f
  ·exact Bc0 c f
  ·exact Bc1 c f
 ·have eb:bitsB c f=c.bits:=by unfold bitsB;rw [Ddt hk];rfl
  rw [eb] at q ⊢;have ef:f=(⟨3,f.a,f.b,f.pc,f.i,f.j,f.n,f.p,f.h,f.x,f.y⟩:Frm):=by cases f;cases hk;rfl
  have ec:∀ {m:Int},c.bits=m->c=⟨c.ob,c.ins,c.thr,c.kind,c.str,m,c.cap,c.node,c.batch,c.chunk,c.limit,c.most⟩:=fun {m} hm=>by cases c;cases hm;rfl
  rcases q with q|q|q|q|q|q|q<;>rw [q,ef,ec q]
  ·exact Bch c f
  ·exact Bci c f
  ·exact Bcj c f
  ·exact Bck c f
  ·exact Bcl c f
  ·exact Bcm c f
  ·exact Bcn c f
theorem Bc2:Bc Tryz.prog (Cb gs) Aw7:=Cm fun c f h=>Aq base Ap (n:=400) fun k hk=>(Dh (A0j c f h) (fun w_ hw=>((seT [(seI .i64),(seI .i64)]).ok _ _ hw)) k).trans hk
def Aw8:Sum:=(218,on2 (rI .i64) (rI .i64) (fun n q=>(decide (0<=q)&&decide (q<=6))) (fun n q=>.int .i64 (abv n q)))
section
variable (n:Int)
theorem Bc3:Ai Bq1 400 218 [.int .i64 n,.int .i64 0] (fun w_=>zcl1.eq (.int .i64 n) w_) false=true:=Eq.trans (b:=(ba (decide (n=n)) Al5)) (by kernel_rfl) (band (Ddt rfl) rfl)
theorem Bc4:Ai Bq1 400 218 [.int .i64 n,.int .i64 1] (fun w_=>zcl1.eq (.int .i64 (IntKind.wrap .i64 (Int.tdiv n 2))) w_) false=true:=Eq.trans (b:=(ba (decide ((IntKind.wrap .i64 (Int.tdiv n 2))=(IntKind.wrap .i64 (Int.tdiv n 2)))) Al5)) (by kernel_rfl) (band (Ddt rfl) rfl)
theorem Bc5:Ai Bq1 400 218 [.int .i64 n,.int .i64 2] (fun w_=>zcl1.eq (.int .i64 (IntKind.wrap .i64 (Int.tdiv (IntKind.wrap .i64 (Int.tdiv n 2)) 2))) w_) false=true:=Eq.trans (b:=(ba (decide ((IntKind.wrap .i64 (Int.tdiv (IntKind.wrap .i64 (Int.tdiv n 2)) 2))=(IntKind.wrap .i64 (Int.tdiv (IntKind.wrap .i64 (Int.tdiv n 2)) 2)))) Al5)) (by kernel_rfl) (band (Ddt rfl) rfl)
theorem Bc6:Ai Bq1 400 218 [.int .i64 n,.int .i64 3] (fun w_=>zcl1.eq (.int .i64 (IntKind.wrap .i64 (Int.tdiv (IntKind.wrap .i64 (Int.tdiv (IntKind.wrap .i64 (Int.tdiv n 2)) 2)) 2))) w_) false=true:=Eq.trans (b:=(ba (decide ((IntKind.wrap .i64 (Int.tdiv (IntKind.wrap .i64 (Int.tdiv (IntKind.wrap .i64 (Int.tdiv n 2)) 2)) 2))=(IntKind.wrap .i64 (Int.tdiv (IntKind.wrap .i64 (Int.tdiv (IntKind.wrap .i64 (Int.tdiv n 2)) 2)) 2)))) Al5)) (by kernel_rfl) (band (Ddt rfl) rfl)
theorem Bc7:Ai Bq1 400 218 [.int .i64 n,.int .i64 4] (fun w_=>zcl1.eq (.int .i64 (IntKind.wrap .i64 (Int.tdiv (IntKind.wrap .i64 (Int.tdiv (IntKind.wrap .i64 (Int.tdiv (IntKind.wrap .i64 (Int.tdiv n 2)) 2)) 2)) 2))) w_) false=true:=Eq.trans (b:=(ba (decide ((IntKind.wrap .i64 (Int.tdiv (IntKind.wrap .i64 (Int.tdiv (IntKind.wrap .i64 (Int.tdiv (IntKind.wrap .i64 (Int.tdiv n 2)) 2)) 2)) 2))=(IntKind.wrap .i64 (Int.tdiv (IntKind.wrap .i64 (Int.tdiv (IntKind.wrap .i64 (Int.tdiv (IntKind.wrap .i64 (Int.tdiv n 2)) 2)) 2)) 2)))) Al5)) (by kernel_rfl) (band (Ddt rfl) rfl)
theorem Bc8:Ai Bq1 400 218 [.int .i64 n,.int .i64 5] (fun w_=>zcl1.eq (.int .i64 (IntKind.wrap .i64 (Int.tdiv (IntKind.wrap .i64 (Int.tdiv (IntKind.wrap .i64 (Int.tdiv (IntKind.wrap .i64 (Int.tdiv (IntKind.wrap .i64 (Int.tdiv n 2)) 2)) 2)) 2)) 2))) w_) false=true:=Eq.trans (b:=(ba (decide ((IntKind.wrap .i64 (Int.tdiv (IntKind.wrap .i64 (Int.tdiv (IntKind.wrap .i64 (Int.tdiv (IntKind.wrap .i64 (Int.tdiv (IntKind.wrap .i64 (Int.tdiv n 2)) 2)) 2)) 2)) 2))=(IntKind.wrap .i64 (Int.tdiv (IntKind.wrap .i64 (Int.tdiv (IntKind.wrap .i64 (Int.tdiv (IntKind.wrap .i64 (Int.tdiv (IntKind.wrap .i64 (Int.tdiv n 2)) 2)) 2)) 2)) 2)))) Al5)) (by kernel_rfl) (band (Ddt rfl) rfl)
theorem Bc9:Ai Bq1 400 218 [.int .i64 n,.int .i64 6] (fun w_=>zcl1.eq (.int .i64 (IntKind.wrap .i64 (Int.tdiv (IntKind.wrap .i64 (Int.tdiv (IntKind.wrap .i64 (Int.tdiv (IntKind.wrap .i64 (Int.tdiv (IntKind.wrap .i64 (Int.tdiv (IntKind.wrap .i64 (Int.tdiv n 2)) 2)) 2)) 2)) 2)) 2))) w_) false=true:=Eq.trans (b:=(ba (decide ((IntKind.wrap .i64 (Int.tdiv (IntKind.wrap .i64 (Int.tdiv (IntKind.wrap .i64 (Int.tdiv (IntKind.wrap .i64 (Int.tdiv (IntKind.wrap .i64 (Int.tdiv (IntKind.wrap .i64 (Int.tdiv n 2)) 2)) 2)) 2)) 2)) 2))=(IntKind.wrap .i64 (Int.tdiv (IntKind.wrap .i64 (Int.tdiv (IntKind.wrap .i64 (Int.tdiv (IntKind.wrap .i64 (Int.tdiv (IntKind.wrap .i64 (Int.tdiv (IntKind.wrap .i64 (Int.tdiv n 2)) 2)) 2)) 2)) 2)) 2)))) Al5)) (by kernel_rfl) (band (Ddt rfl) rfl)
end
theorem A0k (n:Int) (q:Int) (h:(decide (0<=q)&&decide (q<=6))=true):Ai Bq1 400 218 [.int .i64 n,.int .i64 q] (fun w_=>zcl1.eq (.int .i64 (abv n q)) w_) false=true:=by
 rcases s7 h with rfl|rfl|rfl|rfl|rfl|rfl|rfl
 ·exact Bc3 n
 ·exact Bc4 n
 ·exact Bc5 n
 ·exact Bc6 n
 ·exact Bc7 n
 ·exact Bc8 n
 ·exact Bc9 n
theorem Bda:Bc Tryz.prog (Cb gs) Aw8:=Cm fun n q h=>Aq base Ap (n:=400) fun k hk=>(Dh (A0k n q h) (fun w_ hw=>((seI .i64).ok _ _ hw)) k).trans hk
def A6c:Sum:=(144,on2 Dp Ji (fun c f=>(decide (c.ob=1)&&posH f)) (fun c f=>.bool (Df ⟨f,c⟩)))
abbrev Ajw (c:Conf):Conf:=⟨1,c.ins,c.thr,c.kind,c.str,c.bits,c.cap,c.node,c.batch,c.chunk,c.limit,c.most⟩
abbrev Aiz (c:Conf):=Conf.mk 1 c.2 c.3 c.4 c.5 c.6 c.7 c.8 c.9 c.10 c.11 c.12
abbrev Brx (b:Int) (h:Int):=decide ((IntKind.wrap .u32 h)<=b)
abbrev Bv3 (b:Int) (h:Int):=!decide ((IntKind.wrap .u32 h)<=b)
abbrev B2n (b:Int) (h:Int) (pc:Int):Bool:=br (decide (pc=6)) (ba (Brx b h) Al5) (br (decide (pc=0)) (ba (Brx b h) Al5) (br (decide (pc=2)) (ba (Brx b h) Al5) (br (decide (pc=3)) (ba (Brx b h) Al5) (Bv3 b h))))
abbrev B2o (a:Int) (b:Int) (c:Conf) (h:Int) (pc:Int) (y:Int):Bool:=ba (D6 (Aiz c) (Opr.mk 1 a b y)) (br (decide ((Ag (Aiz c) (Opr.mk 1 a b y))=0)) (br (Brx b h) (br (decide (pc=1)) (ba (Brx b h) Al5) (br (decide (pc=5)) (ba (Brx b h) Al5) (br (decide (pc=7)) (ba (Brx b h) Al5) (B2n b h pc)))) (Bv3 b h)) (Bv3 b h))
abbrev Aou:=false
abbrev B2p (pc:Int):Bool:=br (decide (pc=6)) Aou (br (decide (pc=0)) Aou (br (decide (pc=2)) Aou (!decide (pc=3))))
abbrev Bz8 (a:Int) (b:Int) (c:Conf) (h:Int) (pc:Int) (y:Int):Bool:=ba (D6 (Aiz c) (Opr.mk 1 a b y)) (br (decide ((Ag (Aiz c) (Opr.mk 1 a b y))=0)) (br (Brx b h) (br (decide (pc=1)) Aou (br (decide (pc=5)) Aou (br (decide (pc=7)) Aou (B2p pc)))) Al5) Al5)
theorem A6e (c:Conf) (a b pc i j n p h x y:Int) (hg:Eu (⟨1,a,b,pc,i,j,n,p,h,x,y⟩:Frm)=true) (hpc:0<=pc):Ai (cfg [Sl]) 400 144 [(Ajw c).av,(⟨1,a,b,pc,i,j,n,p,h,x,y⟩:Frm).av] (fun w_=>Tr.ev (Sm ⟨(⟨1,a,b,pc,i,j,n,p,h,x,y⟩:Frm),(Ajw c)⟩) (fun l_=>seB.eq (Aca l_) w_) false) false=true:=Eq.trans (b:=(ba (BasZRef5b.posR (Opr.mk 1 a b y)) (br (decide ((Ag (Aiz c) (Opr.mk 1 a b y))=0)) (br (decide (pc<=3)) (B2o a b c h pc y) (br (decide (pc>=5)) (br (decide (pc<=7)) (B2o a b c h pc y) (Bz8 a b c h pc y)) (Bz8 a b c h pc y))) (Bz8 a b c h pc y)))) (by kernel_rfl) (band (Bg hg) (bdt (fun h_1=>(bdt (fun h_2=>(band (Ae hg) (btb h_1 (bdt (fun h_3=>(bdt (fun h_4=>(band h_3 rfl)) (fun h_4=>(btf (Ddf (by have g0:=Odt h_2;omega)) (btf (Ddf (by have g0:=Odt h_2;omega)) (btf (Ddf (by have g0:=Odt h_2;omega)) (bdt (fun h_5=>(band h_3 rfl)) (fun h_5=>(bdt (fun h_6=>(band h_3 rfl)) (fun h_6=>(bdt (fun h_7=>(band h_3 rfl)) (fun h_7=>(False.elim (by simp only [Dte,Dni] at h_2 h_4 h_5 h_6 h_7;omega)))))))))))))) (fun h_3=>(Am h_3)))))) (fun h_2=>(bdt (fun h_3=>(bdt (fun h_4=>(band (Ae hg) (btb h_1 (bdt (fun h_5=>(btf (Ddf (by simp only [Dte,Dni] at h_2 h_3 h_4;omega)) (bdt (fun h_6=>(band h_5 rfl)) (fun h_6=>(bdt (fun h_7=>(band h_5 rfl)) (fun h_7=>(bdt (fun h_8=>(band h_5 rfl)) (fun h_8=>(btf (Ddf (by simp only [Dte,Dni] at h_2 h_3 h_4;omega)) (btf (Ddf (by simp only [Dte,Dni] at h_2 h_3 h_4;omega)) (btf (Ddf (by have g0:=Odf h_2;omega)) (False.elim (by simp only [Dte,Dni] at h_2 h_3 h_4 h_6 h_7 h_8;omega))))))))))))) (fun h_5=>(Am h_5)))))) (fun h_4=>(band (Ae hg) (btb h_1 (bdt (fun h_5=>(btf (Ddf (by simp only [Dte,Dni] at h_2 h_3 h_4;omega)) (btf (Ddf (by simp only [Dte,Dni] at h_2 h_3 h_4;omega)) (btf (Ddf (by have g0:=Odf h_4;omega)) (btf (Ddf (by simp only [Dte,Dni] at h_2 h_3 h_4;omega)) (btf (Ddf (by simp only [Dte,Dni] at h_2 h_3 h_4;omega)) (btf (Ddf (by simp only [Dte,Dni] at h_2 h_3 h_4;omega)) (Am (Ddf (by have g0:=Odf h_2;omega)))))))))) (fun h_5=>rfl))))))) (fun h_3=>(band (Ae hg) (btb h_1 (bdt (fun h_4=>(btf (Ddf (by have g0:=Odf h_2;have g1:=Odf h_3;omega)) (btf (Ddf (by have g0:=Odf h_3;omega)) (btf (Ddf (by have g0:=Odf h_2;have g1:=Odf h_3;omega)) (btf (Ddf (by have g0:=Odf h_2;have g1:=Odf h_3;omega)) (btf (Ddf (by have g0:=Odf h_2;have g1:=Odf h_3;omega)) (btf (Ddf (by have g0:=Odf h_2;have g1:=Odf h_3;omega)) (Am (Ddf (by have g0:=Odf h_2;omega)))))))))) (fun h_4=>rfl))))))))) (fun h_1=>(band (Ae hg) (btf h_1 rfl)))))
abbrev Bv4 (a:Int) (b:Int) (c:Conf) (h:Int) (pc:Int):Bool:=ba (D6 (Aiz c) (Opr.mk 2 a b 0)) (br (decide ((Ag (Aiz c) (Opr.mk 2 a b 0))=0)) (br (Brx b h) (br (decide (pc=8)) (ba (Brx b h) Al5) (B2n b h pc)) (Bv3 b h)) (Bv3 b h))
abbrev B2q (a:Int) (b:Int) (c:Conf) (h:Int) (pc:Int):Bool:=ba (D6 (Aiz c) (Opr.mk 2 a b 0)) (br (decide ((Ag (Aiz c) (Opr.mk 2 a b 0))=0)) (br (Brx b h) (br (decide (pc=8)) Aou (B2p pc)) Al5) Al5)
theorem A6f (c:Conf) (a b pc i j n p h x y:Int) (hg:Eu (⟨2,a,b,pc,i,j,n,p,h,x,y⟩:Frm)=true) (hpc:0<=pc):Ai (cfg [Sl]) 400 144 [(Ajw c).av,(⟨2,a,b,pc,i,j,n,p,h,x,y⟩:Frm).av] (fun w_=>Tr.ev (Sm ⟨(⟨2,a,b,pc,i,j,n,p,h,x,y⟩:Frm),(Ajw c)⟩) (fun l_=>seB.eq (Aca l_) w_) false) false=true:=Eq.trans (b:=(ba (BasZRef5b.posR (Opr.mk 2 a b 0)) (br (decide ((Ag (Aiz c) (Opr.mk 2 a b 0))=0)) (br (decide (pc=0)) (Bv4 a b c h pc) (br (decide (pc=2)) (Bv4 a b c h pc) (br (decide (pc=3)) (Bv4 a b c h pc) (br (decide (pc=6)) (Bv4 a b c h pc) (br (decide (pc=8)) (Bv4 a b c h pc) (B2q a b c h pc)))))) (B2q a b c h pc)))) (by kernel_rfl) (band (Bg hg) (bdt (fun h_1=>(bdt (fun h_2=>(band (Ae hg) (btb h_1 (bdt (fun h_3=>(btf (Fq h_2 rfl) (btf (Fq h_2 rfl) (btb h_2 (band h_3 rfl))))) (fun h_3=>(Am h_3)))))) (fun h_2=>(bdt (fun h_3=>(band (Ae hg) (btb h_1 (bdt (fun h_4=>(btf (Fq h_3 rfl) (btf (Fq h_3 rfl) (btf h_2 (btb h_3 (band h_4 rfl)))))) (fun h_4=>(Am h_4)))))) (fun h_3=>(bdt (fun h_4=>(band (Ae hg) (btb h_1 (bdt (fun h_5=>(btf (Fq h_4 rfl) (btf (Fq h_4 rfl) (btf h_2 (btf h_3 (btb h_4 (band h_5 rfl))))))) (fun h_5=>(Am h_5)))))) (fun h_4=>(bdt (fun h_5=>(band (Ae hg) (btb h_1 (bdt (fun h_6=>(btf (Fq h_5 rfl) (btb h_5 (band h_6 rfl)))) (fun h_6=>(Am h_6)))))) (fun h_5=>(bdt (fun h_6=>(band (Ae hg) (btb h_1 (bdt (fun h_7=>(btb h_6 (band h_7 rfl))) (fun h_7=>(Am h_7)))))) (fun h_6=>(band (Ae hg) (btb h_1 (bdt (fun h_7=>(btf h_6 (btf h_5 (btf h_2 (btf h_3 (Am h_4)))))) (fun h_7=>rfl))))))))))))))) (fun h_1=>(band (Ae hg) (btf h_1 rfl)))))
abbrev Bv5 (c:Conf) (h:Int):=decide ((IntKind.wrap .u32 h)<=(IntKind.wrap .u32 c.6))
abbrev Bz9 (c:Conf) (h:Int):=!decide ((IntKind.wrap .u32 h)<=(IntKind.wrap .u32 c.6))
abbrev B0a (a:Int) (b:Int) (c:Conf) (h:Int) (pc:Int):Bool:=ba (D6 (Aiz c) (Opr.mk 3 a b 0)) (br (decide ((Ag (Aiz c) (Opr.mk 3 a b 0))=0)) (br (Bv5 c h) (br (decide (pc=0)) (ba (Bv5 c h) Al5) (br (decide (pc=8)) (ba (Bv5 c h) Al5) (br (decide (pc=6)) (ba (Bv5 c h) Al5) (Bz9 c h)))) (Bz9 c h)) (Bz9 c h))
abbrev B2r (a:Int) (b:Int) (c:Conf) (h:Int) (pc:Int):Bool:=ba (D6 (Aiz c) (Opr.mk 3 a b 0)) (br (decide ((Ag (Aiz c) (Opr.mk 3 a b 0))=0)) (br (Bv5 c h) (br (decide (pc=0)) Aou (br (decide (pc=8)) Aou (!decide (pc=6)))) Al5) Al5)
theorem A6i (c:Conf) (a b pc i j n p h x y:Int) (hg:Eu (⟨3,a,b,pc,i,j,n,p,h,x,y⟩:Frm)=true) (hpc:0<=pc):Ai (cfg [Sl]) 400 144 [(Ajw c).av,(⟨3,a,b,pc,i,j,n,p,h,x,y⟩:Frm).av] (fun w_=>Tr.ev (Sm ⟨(⟨3,a,b,pc,i,j,n,p,h,x,y⟩:Frm),(Ajw c)⟩) (fun l_=>seB.eq (Aca l_) w_) false) false=true:=Eq.trans (b:=(ba (BasZRef5b.posR (Opr.mk 3 a b 0)) (br (decide ((Ag (Aiz c) (Opr.mk 3 a b 0))=0)) (br (decide (pc=0)) (B0a a b c h pc) (br (decide (pc=6)) (B0a a b c h pc) (br (decide (pc=8)) (B0a a b c h pc) (B2r a b c h pc)))) (B2r a b c h pc)))) (by kernel_rfl) (band (Bg hg) (bdt (fun h_1=>(bdt (fun h_2=>(band (Ae hg) (btb h_1 (bdt (fun h_3=>(btb h_2 (band h_3 rfl))) (fun h_3=>(Am h_3)))))) (fun h_2=>(bdt (fun h_3=>(band (Ae hg) (btb h_1 (bdt (fun h_4=>(btf h_2 (btf (Fq h_3 rfl) (btb h_3 (band h_4 rfl))))) (fun h_4=>(Am h_4)))))) (fun h_3=>(bdt (fun h_4=>(band (Ae hg) (btb h_1 (bdt (fun h_5=>(btf h_2 (btb h_4 (band h_5 rfl)))) (fun h_5=>(Am h_5)))))) (fun h_4=>(band (Ae hg) (btb h_1 (bdt (fun h_5=>(btf h_2 (btf h_4 (Am h_3)))) (fun h_5=>rfl))))))))))) (fun h_1=>(band (Ae hg) (btf h_1 rfl)))))
abbrev Bsj (c:Conf) (f:Frm):=!decide ((IntKind.wrap .u32 f.9)<=(IntKind.wrap .u32 c.6))
abbrev B2s (c:Conf) (f:Frm):Bool:=br (decide (f.1=1)) (br (decide (f.4<=3)) (Bsj c f) (br (decide (f.4>=5)) (br (decide (f.4<=7)) (Bsj c f) Al5) Al5)) (br (decide (f.1=2)) (br (decide (f.4=0)) (Bsj c f) (br (decide (f.4=2)) (Bsj c f) (br (decide (f.4=3)) (Bsj c f) (br (decide (f.4=6)) (Bsj c f) (br (decide (f.4=8)) (Bsj c f) Al5))))) (br (decide (f.4=0)) (Bsj c f) (br (decide (f.4=6)) (Bsj c f) (br (decide (f.4=8)) (Bsj c f) Al5))))
abbrev Btm (f:Frm):=!decide ((IntKind.wrap .u32 f.9)<=f.3)
abbrev B2t (f:Frm):Bool:=br (decide (f.4=6)) (Btm f) (br (decide (f.4=8)) (Btm f) Al5)
abbrev B2u (f:Frm):Bool:=br (decide (f.1=1)) (br (decide (f.4<=3)) (Btm f) (br (decide (f.4>=5)) (br (decide (f.4<=7)) (Btm f) Al5) Al5)) (br (decide (f.1=2)) (br (decide (f.4=0)) (Btm f) (br (decide (f.4=2)) (Btm f) (br (decide (f.4=3)) (Btm f) (B2t f)))) (br (decide (f.4=0)) (Btm f) (B2t f)))
theorem A6j (c:Conf) (f:Frm) (hg:Eu f=true) (n1:¬ f.kind=1) (n2:¬ f.kind=2) (n3:¬ f.kind=3):Ai (cfg [Sl]) 400 144 [(Ajw c).av,f.av] (fun w_=>seB.eq (.bool false) w_) false=true:=Eq.trans (b:=(br (decide (f.1=1)) (br (decide (f.1=3)) (ba (BasZRef5b.posR (Opr.mk f.1 f.2 f.3 f.11)) (br (decide ((Ag (Aiz c) (Opr.mk f.1 f.2 f.3 f.11))=0)) (B2s c f) Al5)) (ba (BasZRef5b.posR (Opr.mk f.1 f.2 f.3 f.11)) (br (decide ((Ag (Aiz c) (Opr.mk f.1 f.2 f.3 f.11))=0)) (B2u f) Al5))) (br (decide (f.1=3)) (ba (BasZRef5b.posR (Opr.mk f.1 f.2 f.3 0)) (br (decide ((Ag (Aiz c) (Opr.mk f.1 f.2 f.3 0))=0)) (B2s c f) Al5)) (ba (BasZRef5b.posR (Opr.mk f.1 f.2 f.3 0)) (br (decide ((Ag (Aiz c) (Opr.mk f.1 f.2 f.3 0))=0)) (B2u f) Al5))))) (by kernel_rfl) (btf (Ddf n1) (btf (Ddf n3) (band (Bg hg) (btf (A59 hg n1 n2 n3) rfl))))
theorem A6k (c:Conf) (f:Frm) (h:(decide (c.ob=1)&&posH f)=true):Ai (cfg [Sl]) 400 144 [c.av,f.av] (fun w_=>Tr.ev (Sm ⟨f,c⟩) (fun l_=>seB.eq (Aca l_) w_) false) false=true:=by
 have ho:=Odt (Aj h)
 have hg:=Fz (Af h)
 have hpc:0<=f.pc:=(Ik.1 (Af h)).2.1.1
 rw [D8 ho]
 by_cases n1:f.kind=1
 ·obtain ⟨kind,a,b,pc,i,j,n,p,hh,x,y⟩:=f
  cases n1;exact A6e c a b pc i j n p hh x y hg hpc
 by_cases n2:f.kind=2
 ·obtain ⟨kind,a,b,pc,i,j,n,p,hh,x,y⟩:=f
  cases n2;exact A6f c a b pc i j n p hh x y hg hpc
 by_cases n3:f.kind=3
 ·obtain ⟨kind,a,b,pc,i,j,n,p,hh,x,y⟩:=f
  cases n3;exact A6i c a b pc i j n p hh x y hg hpc
 exact A0d (fun w_=>(Tr.merge (Adi _) (Nv (Aj hg))).trans (congrArg (fun b=>seB.eq (.bool b) w_) (Bmy hg n1 n2 n3))) (A6j c f hg n1 n2 n3)
theorem Bm5:Bc Tryz.prog (Cb gs) A6c:=Cm fun c f h=>Aq base (Ah Aau Ap) (n:=400) fun k hk=>(Dh (A6k c f h) (fun w_ hw=>(seB.ok _ _ ((Tr.merge (Adi ⟨f,c⟩) (Nv (Dn (Af h)))).symm.trans hw))) k).trans hk
def A6l:Sum:=(87,on2 Dp Ji (fun c f=>(decide (Az c=0)&&(decide (c.ob=1)&&(posH f&&Df ⟨f,c⟩)))) (fun c f=>.agg [.int .u8 (Nk c f),.int .i64 (Ij c f),.int .u64 (Nl c f),.int .u64 (Np c f),.int .u64 (Nq c f),.int .i64 (Nr c f),.int .u32 (Ns c f)]))
abbrev Bs9 (a b h i j n p x y:Int):Frm:=⟨1,a,b,0,i,j,n,p,h,x,y⟩
abbrev Bsw (r0_:Conf):Prop:=decide (Az r0_=0)=true
abbrev Bsx (r0_:Frm) (r1_:Conf):Prop:=Gu (⟨r0_,r1_⟩:TRun)=true
abbrev Bsy (r0_:Frm) (r1_:Conf):Prop:=Df (⟨r0_,r1_⟩:TRun)=true
abbrev Bsz (r0_:Conf) (r1_:Frm):Prop:=preW r0_ r1_=true
abbrev Bs0 (r0_:Conf) (r1_:Frm) (h:Int):Prop:=(decide (0<=IntKind.wrap .i64 ((bitsB r0_ r1_)-IntKind.wrap .i64 h))&&decide (IntKind.wrap .i64 ((bitsB r0_ r1_)-IntKind.wrap .i64 h)<=6))=true
abbrev Btv (r0_:Frm) (r1_:Conf) (b:Int):Prop:=Ig (⟨r0_,r1_⟩:TRun) (IntKind.wrap .i64 b)=true
abbrev Btw (r0_:Frm) (r1_:Conf):Prop:=Kz (⟨r0_,r1_⟩:TRun)=true
abbrev Brd:=cfg [Aw7,Aw8]
abbrev Bq7 (c:Conf):=!decide ((Az (Aiz c))=0)
theorem Au7 (c:Conf) (a b i j n p h x y:Int) (he:Bsw (Ajw c)) (ho:Bsx (Bs9 a b h i j n p x y) (Ajw c)) (hm:Bsy (Bs9 a b h i j n p x y) (Ajw c)) (hw:Bsz (Ajw c) (Bs9 a b h i j n p x y)) (hk:Bs0 (Ajw c) (Bs9 a b h i j n p x y) h) (hn:0<=n/\n<=255) (h1:Btv (Bs9 a b h i j n p x y) (Ajw c) b) (e1:Di (⟨(Bs9 a b h i j n p x y),(Ajw c)⟩:TRun) (IntKind.wrap .i64 b)=abv (IntKind.wrap .i64 (IntKind.wrap .i64 a+p2 (bitsB (Ajw c) (Bs9 a b h i j n p x y)))) (IntKind.wrap .i64 ((bitsB (Ajw c) (Bs9 a b h i j n p x y))-IntKind.wrap .i64 h))) (h2:Btw (Bs9 a b h i j n p x y) (Ajw c)) (e2:D9 (⟨(Bs9 a b h i j n p x y),(Ajw c)⟩:TRun)=IntKind.wrap .i64 (IntKind.wrap .i64 a+p2 (bitsB (Ajw c) (Bs9 a b h i j n p x y)))):Ai Brd 400 87 [(Ajw c).av,(Bs9 a b h i j n p x y).av] (fun w_=>Tr.ev (Eh (Ajw c) (Bs9 a b h i j n p x y)) (fun l_=>(seG [(seI .u8),zcl1,(seI .u64),(seI .u64),(seI .u64),zcl1,(seI .u32)]).eq ((fun l_=>.agg [lget l_ 0,lget l_ 1,lget l_ 2,lget l_ 3,lget l_ 4,lget l_ 5,lget l_ 6]) l_) w_) false) false=true:=Eq.trans (b:=(ba (BasZR12.preW (Aiz c) (Frm.mk 1 a b 0 i j n p h x y)) (ba (decide (0<=(IntKind.wrap .i64 ((BasZR12.bitsB (Aiz c) (Frm.mk 1 a b 0 i j n p h x y))-(IntKind.wrap .i64 h))))&&decide ((IntKind.wrap .i64 ((BasZR12.bitsB (Aiz c) (Frm.mk 1 a b 0 i j n p h x y))-(IntKind.wrap .i64 h)))<=6)) (br (Bq7 c) Aou (ba (Gu (TRun.mk (Frm.mk 1 a b 0 i j n p h x y) (Aiz c))) (br (!(Df (TRun.mk (Frm.mk 1 a b 0 i j n p h x y) (Aiz c)))) Aou (ba (Kz (TRun.mk (Frm.mk 1 a b 0 i j n p h x y) (Aiz c))) (ba (decide ((D9 (TRun.mk (Frm.mk 1 a b 0 i j n p h x y) (Aiz c)))=(IntKind.wrap .i64 ((IntKind.wrap .i64 a)+(BasZR12.p2 (BasZR12.bitsB (Aiz c) (Frm.mk 1 a b 0 i j n p h x y))))))&&true) Al5)))))))) (by kernel_rfl) (band hw (band hk (btf (Ad he) (band ho (btf (Ad hm) (band h2 (band (Aw (Ddt e2)) rfl)))))))
abbrev Bta (a b h i j n p x y:Int):Frm:=⟨1,a,b,1,i,j,n,p,h,x,y⟩
theorem Au8 (c:Conf) (a b i j n p h x y:Int) (he:Bsw (Ajw c)) (ho:Bsx (Bta a b h i j n p x y) (Ajw c)) (hm:Bsy (Bta a b h i j n p x y) (Ajw c)) (hw:Bsz (Ajw c) (Bta a b h i j n p x y)) (hk:Bs0 (Ajw c) (Bta a b h i j n p x y) h) (hn:0<=n/\n<=255) (h1:Btv (Bta a b h i j n p x y) (Ajw c) b) (e1:Di (⟨(Bta a b h i j n p x y),(Ajw c)⟩:TRun) (IntKind.wrap .i64 b)=abv (IntKind.wrap .i64 (IntKind.wrap .i64 a+p2 (bitsB (Ajw c) (Bta a b h i j n p x y)))) (IntKind.wrap .i64 ((bitsB (Ajw c) (Bta a b h i j n p x y))-IntKind.wrap .i64 h))) (h2:Btw (Bta a b h i j n p x y) (Ajw c)) (e2:D9 (⟨(Bta a b h i j n p x y),(Ajw c)⟩:TRun)=IntKind.wrap .i64 (IntKind.wrap .i64 a+p2 (bitsB (Ajw c) (Bta a b h i j n p x y)))):Ai Brd 400 87 [(Ajw c).av,(Bta a b h i j n p x y).av] (fun w_=>Tr.ev (Eh (Ajw c) (Bta a b h i j n p x y)) (fun l_=>(seG [(seI .u8),zcl1,(seI .u64),(seI .u64),(seI .u64),zcl1,(seI .u32)]).eq ((fun l_=>.agg [lget l_ 0,lget l_ 1,lget l_ 2,lget l_ 3,lget l_ 4,lget l_ 5,lget l_ 6]) l_) w_) false) false=true:=Eq.trans (b:=(ba (BasZR12.preW (Aiz c) (Frm.mk 1 a b 1 i j n p h x y)) (ba (decide (0<=(IntKind.wrap .i64 ((BasZR12.bitsB (Aiz c) (Frm.mk 1 a b 1 i j n p h x y))-(IntKind.wrap .i64 h))))&&decide ((IntKind.wrap .i64 ((BasZR12.bitsB (Aiz c) (Frm.mk 1 a b 1 i j n p h x y))-(IntKind.wrap .i64 h)))<=6)) (br (Bq7 c) Aou (ba (Gu (TRun.mk (Frm.mk 1 a b 1 i j n p h x y) (Aiz c))) (br (!(Df (TRun.mk (Frm.mk 1 a b 1 i j n p h x y) (Aiz c)))) Aou (br (decide (0>=(IntKind.wrap .u64 c.7))) Al5 Al5))))))) (by kernel_rfl) (band hw (band hk (btf (Ad he) (band ho (btf (Ad hm) (bdt (fun h_1=>rfl) (fun h_1=>rfl)))))))
abbrev Btb (a b h i j n p x y:Int):Frm:=⟨1,a,b,2,i,j,n,p,h,x,y⟩
theorem Au9 (c:Conf) (a b i j n p h x y:Int) (he:Bsw (Ajw c)) (ho:Bsx (Btb a b h i j n p x y) (Ajw c)) (hm:Bsy (Btb a b h i j n p x y) (Ajw c)) (hw:Bsz (Ajw c) (Btb a b h i j n p x y)) (hk:Bs0 (Ajw c) (Btb a b h i j n p x y) h) (hn:0<=n/\n<=255) (h1:Btv (Btb a b h i j n p x y) (Ajw c) b) (e1:Di (⟨(Btb a b h i j n p x y),(Ajw c)⟩:TRun) (IntKind.wrap .i64 b)=abv (IntKind.wrap .i64 (IntKind.wrap .i64 a+p2 (bitsB (Ajw c) (Btb a b h i j n p x y)))) (IntKind.wrap .i64 ((bitsB (Ajw c) (Btb a b h i j n p x y))-IntKind.wrap .i64 h))) (h2:Btw (Btb a b h i j n p x y) (Ajw c)) (e2:D9 (⟨(Btb a b h i j n p x y),(Ajw c)⟩:TRun)=IntKind.wrap .i64 (IntKind.wrap .i64 a+p2 (bitsB (Ajw c) (Btb a b h i j n p x y)))):Ai Brd 400 87 [(Ajw c).av,(Btb a b h i j n p x y).av] (fun w_=>Tr.ev (Eh (Ajw c) (Btb a b h i j n p x y)) (fun l_=>(seG [(seI .u8),zcl1,(seI .u64),(seI .u64),(seI .u64),zcl1,(seI .u32)]).eq ((fun l_=>.agg [lget l_ 0,lget l_ 1,lget l_ 2,lget l_ 3,lget l_ 4,lget l_ 5,lget l_ 6]) l_) w_) false) false=true:=Eq.trans (b:=(ba (BasZR12.preW (Aiz c) (Frm.mk 1 a b 2 i j n p h x y)) (ba (decide (0<=(IntKind.wrap .i64 ((BasZR12.bitsB (Aiz c) (Frm.mk 1 a b 2 i j n p h x y))-(IntKind.wrap .i64 h))))&&decide ((IntKind.wrap .i64 ((BasZR12.bitsB (Aiz c) (Frm.mk 1 a b 2 i j n p h x y))-(IntKind.wrap .i64 h)))<=6)) (br (Bq7 c) Aou (ba (Gu (TRun.mk (Frm.mk 1 a b 2 i j n p h x y) (Aiz c))) (br (!(Df (TRun.mk (Frm.mk 1 a b 2 i j n p h x y) (Aiz c)))) Aou (ba (Ig (TRun.mk (Frm.mk 1 a b 2 i j n p h x y) (Aiz c)) (IntKind.wrap .i64 b)) (ba (decide ((Di (TRun.mk (Frm.mk 1 a b 2 i j n p h x y) (Aiz c)) (IntKind.wrap .i64 b))=(BasZR12.abv (IntKind.wrap .i64 ((IntKind.wrap .i64 a)+(BasZR12.p2 (BasZR12.bitsB (Aiz c) (Frm.mk 1 a b 2 i j n p h x y))))) (IntKind.wrap .i64 ((BasZR12.bitsB (Aiz c) (Frm.mk 1 a b 2 i j n p h x y))-(IntKind.wrap .i64 h)))))&&true) Al5)))))))) (by kernel_rfl) (band hw (band hk (btf (Ad he) (band ho (btf (Ad hm) (band h1 (band (Aw (Ddt e1)) rfl)))))))
abbrev Btc (a b h i j n p x y:Int):Frm:=⟨1,a,b,3,i,j,n,p,h,x,y⟩
abbrev Bqm (b:Int) (h:Int):=decide ((IntKind.wrap .u32 h)=b)
abbrev Bx2 (n:Int):Bool:=ba (decide ((Int.tmod (IntKind.wrap .u64 (IntKind.wrap .u8 (n+1))) 64)=(Int.tmod (IntKind.wrap .u64 ((IntKind.wrap .u64 n)+1)) 64))&&true) Al5
section
variable (a:Int) (b:Int) (c:Conf)
abbrev Bx3 (h:Int) (i:Int) (j:Int) (n:Int) (p:Int) (x:Int) (y:Int):Bool:=ba (decide ((Di (TRun.mk (Frm.mk 1 a b 3 i j n p h x y) (Aiz c)) (IntKind.wrap .i64 b))=(BasZR12.abv (IntKind.wrap .i64 ((IntKind.wrap .i64 a)+(BasZR12.p2 (BasZR12.bitsB (Aiz c) (Frm.mk 1 a b 3 i j n p h x y))))) (IntKind.wrap .i64 ((BasZR12.bitsB (Aiz c) (Frm.mk 1 a b 3 i j n p h x y))-(IntKind.wrap .i64 h)))))&&true) (ba (decide ((IntKind.wrap .u64 ((IntKind.wrap .u64 y)+1))=(IntKind.wrap .u64 ((IntKind.wrap .u64 y)+1)))&&true) (Bx2 n))
abbrev Bx4 (h:Int) (i:Int) (j:Int) (n:Int) (p:Int) (x:Int) (y:Int):Bool:=ba (decide ((Di (TRun.mk (Frm.mk 1 a b 3 i j n p h x y) (Aiz c)) (IntKind.wrap .i64 b))=(BasZR12.abv (IntKind.wrap .i64 ((IntKind.wrap .i64 a)+(BasZR12.p2 (BasZR12.bitsB (Aiz c) (Frm.mk 1 a b 3 i j n p h x y))))) (IntKind.wrap .i64 ((BasZR12.bitsB (Aiz c) (Frm.mk 1 a b 3 i j n p h x y))-(IntKind.wrap .i64 h)))))&&true) (ba (decide ((IntKind.wrap .u64 x)=(IntKind.wrap .u64 ((IntKind.wrap .u64 y)+1)))&&true) (Bx2 n))
abbrev Bx5 (h:Int) (i:Int) (j:Int) (n:Int) (p:Int) (x:Int) (y:Int):Bool:=ba (decide ((Di (TRun.mk (Frm.mk 1 a b 3 i j n p h x y) (Aiz c)) (IntKind.wrap .i64 b))=(BasZR12.abv (IntKind.wrap .i64 ((IntKind.wrap .i64 a)+(BasZR12.p2 (BasZR12.bitsB (Aiz c) (Frm.mk 1 a b 3 i j n p h x y))))) (IntKind.wrap .i64 ((BasZR12.bitsB (Aiz c) (Frm.mk 1 a b 3 i j n p h x y))-(IntKind.wrap .i64 h)))))&&true) (ba (decide ((IntKind.wrap .u64 ((IntKind.wrap .u64 y)+1))=(IntKind.wrap .u64 x))&&true) (Bx2 n))
abbrev Bx6 (h:Int) (i:Int) (j:Int) (n:Int) (p:Int) (x:Int) (y:Int):Bool:=ba (decide ((Di (TRun.mk (Frm.mk 1 a b 3 i j n p h x y) (Aiz c)) (IntKind.wrap .i64 b))=(BasZR12.abv (IntKind.wrap .i64 ((IntKind.wrap .i64 a)+(BasZR12.p2 (BasZR12.bitsB (Aiz c) (Frm.mk 1 a b 3 i j n p h x y))))) (IntKind.wrap .i64 ((BasZR12.bitsB (Aiz c) (Frm.mk 1 a b 3 i j n p h x y))-(IntKind.wrap .i64 h)))))&&true) (ba (decide ((IntKind.wrap .u64 x)=(IntKind.wrap .u64 x))&&true) (Bx2 n))
end
theorem Ava (c:Conf) (a b i j n p h x y:Int) (he:Bsw (Ajw c)) (ho:Bsx (Btc a b h i j n p x y) (Ajw c)) (hm:Bsy (Btc a b h i j n p x y) (Ajw c)) (hw:Bsz (Ajw c) (Btc a b h i j n p x y)) (hk:Bs0 (Ajw c) (Btc a b h i j n p x y) h) (hn:0<=n/\n<=255) (h1:Btv (Btc a b h i j n p x y) (Ajw c) b) (e1:Di (⟨(Btc a b h i j n p x y),(Ajw c)⟩:TRun) (IntKind.wrap .i64 b)=abv (IntKind.wrap .i64 (IntKind.wrap .i64 a+p2 (bitsB (Ajw c) (Btc a b h i j n p x y)))) (IntKind.wrap .i64 ((bitsB (Ajw c) (Btc a b h i j n p x y))-IntKind.wrap .i64 h))) (h2:Btw (Btc a b h i j n p x y) (Ajw c)) (e2:D9 (⟨(Btc a b h i j n p x y),(Ajw c)⟩:TRun)=IntKind.wrap .i64 (IntKind.wrap .i64 a+p2 (bitsB (Ajw c) (Btc a b h i j n p x y)))):Ai Brd 400 87 [(Ajw c).av,(Btc a b h i j n p x y).av] (fun w_=>Tr.ev (Eh (Ajw c) (Btc a b h i j n p x y)) (fun l_=>(seG [(seI .u8),zcl1,(seI .u64),(seI .u64),(seI .u64),zcl1,(seI .u32)]).eq ((fun l_=>.agg [lget l_ 0,lget l_ 1,lget l_ 2,lget l_ 3,lget l_ 4,lget l_ 5,lget l_ 6]) l_) w_) false) false=true:=Eq.trans (b:=(ba (BasZR12.preW (Aiz c) (Frm.mk 1 a b 3 i j n p h x y)) (ba (decide (0<=(IntKind.wrap .i64 ((BasZR12.bitsB (Aiz c) (Frm.mk 1 a b 3 i j n p h x y))-(IntKind.wrap .i64 h))))&&decide ((IntKind.wrap .i64 ((BasZR12.bitsB (Aiz c) (Frm.mk 1 a b 3 i j n p h x y))-(IntKind.wrap .i64 h)))<=6)) (br (Bqm b h) (br (Bq7 c) Aou (ba (Gu (TRun.mk (Frm.mk 1 a b 3 i j n p h x y) (Aiz c))) (br (!(Df (TRun.mk (Frm.mk 1 a b 3 i j n p h x y) (Aiz c)))) Aou (ba (Ig (TRun.mk (Frm.mk 1 a b 3 i j n p h x y) (Aiz c)) (IntKind.wrap .i64 b)) (br (Bqm b h) (br (Bqm b h) (br (Bqm b h) (Bx3 a b c h i j n p x y) (Bx3 a b c h i j n p x y)) (br (Bqm b h) (Bx4 a b c h i j n p x y) (Bx4 a b c h i j n p x y))) (br (Bqm b h) (br (Bqm b h) (Bx3 a b c h i j n p x y) (Bx3 a b c h i j n p x y)) (br (Bqm b h) (Bx4 a b c h i j n p x y) (Bx4 a b c h i j n p x y)))))))) (br (Bq7 c) Aou (ba (Gu (TRun.mk (Frm.mk 1 a b 3 i j n p h x y) (Aiz c))) (br (!(Df (TRun.mk (Frm.mk 1 a b 3 i j n p h x y) (Aiz c)))) Aou (ba (Ig (TRun.mk (Frm.mk 1 a b 3 i j n p h x y) (Aiz c)) (IntKind.wrap .i64 b)) (br (Bqm b h) (br (Bqm b h) (br (Bqm b h) (Bx5 a b c h i j n p x y) (Bx5 a b c h i j n p x y)) (br (Bqm b h) (Bx6 a b c h i j n p x y) (Bx6 a b c h i j n p x y))) (br (Bqm b h) (br (Bqm b h) (Bx5 a b c h i j n p x y) (Bx5 a b c h i j n p x y)) (br (Bqm b h) (Bx6 a b c h i j n p x y) (Bx6 a b c h i j n p x y)))))))))))) (by kernel_rfl) (band hw (band hk (bdt (fun h_1=>(btf (Ad he) (band ho (btf (Ad hm) (band h1 (btb h_1 (btb h_1 (btb h_1 (band (Aw (Ddt e1)) (band (Aw (Ddt rfl)) (band (Aw (Ddt (n_1 hn))) rfl))))))))))) (fun h_1=>(btf (Ad he) (band ho (btf (Ad hm) (band h1 (btf h_1 (btf h_1 (btf h_1 (band (Aw (Ddt e1)) (band (Aw (Ddt rfl)) (band (Aw (Ddt (n_1 hn))) rfl))))))))))))))
abbrev Btd (a b h i j n p x y:Int):Frm:=⟨1,a,b,5,i,j,n,p,h,x,y⟩
theorem Avb (c:Conf) (a b i j n p h x y:Int) (he:Bsw (Ajw c)) (ho:Bsx (Btd a b h i j n p x y) (Ajw c)) (hm:Bsy (Btd a b h i j n p x y) (Ajw c)) (hw:Bsz (Ajw c) (Btd a b h i j n p x y)) (hk:Bs0 (Ajw c) (Btd a b h i j n p x y) h) (hn:0<=n/\n<=255) (h1:Btv (Btd a b h i j n p x y) (Ajw c) b) (e1:Di (⟨(Btd a b h i j n p x y),(Ajw c)⟩:TRun) (IntKind.wrap .i64 b)=abv (IntKind.wrap .i64 (IntKind.wrap .i64 a+p2 (bitsB (Ajw c) (Btd a b h i j n p x y)))) (IntKind.wrap .i64 ((bitsB (Ajw c) (Btd a b h i j n p x y))-IntKind.wrap .i64 h))) (h2:Btw (Btd a b h i j n p x y) (Ajw c)) (e2:D9 (⟨(Btd a b h i j n p x y),(Ajw c)⟩:TRun)=IntKind.wrap .i64 (IntKind.wrap .i64 a+p2 (bitsB (Ajw c) (Btd a b h i j n p x y)))):Ai Brd 400 87 [(Ajw c).av,(Btd a b h i j n p x y).av] (fun w_=>Tr.ev (Eh (Ajw c) (Btd a b h i j n p x y)) (fun l_=>(seG [(seI .u8),zcl1,(seI .u64),(seI .u64),(seI .u64),zcl1,(seI .u32)]).eq ((fun l_=>.agg [lget l_ 0,lget l_ 1,lget l_ 2,lget l_ 3,lget l_ 4,lget l_ 5,lget l_ 6]) l_) w_) false) false=true:=Eq.trans (b:=(ba (BasZR12.preW (Aiz c) (Frm.mk 1 a b 5 i j n p h x y)) (ba (decide (0<=(IntKind.wrap .i64 ((BasZR12.bitsB (Aiz c) (Frm.mk 1 a b 5 i j n p h x y))-(IntKind.wrap .i64 h))))&&decide ((IntKind.wrap .i64 ((BasZR12.bitsB (Aiz c) (Frm.mk 1 a b 5 i j n p h x y))-(IntKind.wrap .i64 h)))<=6)) (br (Bq7 c) Aou (ba (Gu (TRun.mk (Frm.mk 1 a b 5 i j n p h x y) (Aiz c))) (br (!(Df (TRun.mk (Frm.mk 1 a b 5 i j n p h x y) (Aiz c)))) Aou (ba (Kz (TRun.mk (Frm.mk 1 a b 6 i j n p h x y) (Aiz c))) (ba (decide ((D9 (TRun.mk (Frm.mk 1 a b 6 i j n p h x y) (Aiz c)))=(IntKind.wrap .i64 ((IntKind.wrap .i64 a)+(BasZR12.p2 (BasZR12.bitsB (Aiz c) (Frm.mk 1 a b 5 i j n p h x y))))))&&true) (ba (decide ((IntKind.wrap .u64 ((IntKind.wrap .u64 y)+1))=(IntKind.wrap .u64 ((IntKind.wrap .u64 y)+1)))&&true) (ba (decide ((IntKind.wrap .u64 (Int.tmod n 64))=(Int.tmod (IntKind.wrap .u64 n) 64))&&true) Al5)))))))))) (by kernel_rfl) (band hw (band hk (btf (Ad he) (band ho (btf (Ad hm) (band h2 (band (Aw (Ddt e2)) (band (Aw (Ddt rfl)) (band (Aw (Ddt (n_64 hn))) rfl)))))))))
abbrev Bte (a b h i j n p x y:Int):Frm:=⟨1,a,b,6,i,j,n,p,h,x,y⟩
theorem Avc (c:Conf) (a b i j n p h x y:Int) (he:Bsw (Ajw c)) (ho:Bsx (Bte a b h i j n p x y) (Ajw c)) (hm:Bsy (Bte a b h i j n p x y) (Ajw c)) (hw:Bsz (Ajw c) (Bte a b h i j n p x y)) (hk:Bs0 (Ajw c) (Bte a b h i j n p x y) h) (hn:0<=n/\n<=255) (h1:Btv (Bte a b h i j n p x y) (Ajw c) b) (e1:Di (⟨(Bte a b h i j n p x y),(Ajw c)⟩:TRun) (IntKind.wrap .i64 b)=abv (IntKind.wrap .i64 (IntKind.wrap .i64 a+p2 (bitsB (Ajw c) (Bte a b h i j n p x y)))) (IntKind.wrap .i64 ((bitsB (Ajw c) (Bte a b h i j n p x y))-IntKind.wrap .i64 h))) (h2:Btw (Bte a b h i j n p x y) (Ajw c)) (e2:D9 (⟨(Bte a b h i j n p x y),(Ajw c)⟩:TRun)=IntKind.wrap .i64 (IntKind.wrap .i64 a+p2 (bitsB (Ajw c) (Bte a b h i j n p x y)))):Ai Brd 400 87 [(Ajw c).av,(Bte a b h i j n p x y).av] (fun w_=>Tr.ev (Eh (Ajw c) (Bte a b h i j n p x y)) (fun l_=>(seG [(seI .u8),zcl1,(seI .u64),(seI .u64),(seI .u64),zcl1,(seI .u32)]).eq ((fun l_=>.agg [lget l_ 0,lget l_ 1,lget l_ 2,lget l_ 3,lget l_ 4,lget l_ 5,lget l_ 6]) l_) w_) false) false=true:=Eq.trans (b:=(ba (BasZR12.preW (Aiz c) (Frm.mk 1 a b 6 i j n p h x y)) (ba (decide (0<=(IntKind.wrap .i64 ((BasZR12.bitsB (Aiz c) (Frm.mk 1 a b 6 i j n p h x y))-(IntKind.wrap .i64 h))))&&decide ((IntKind.wrap .i64 ((BasZR12.bitsB (Aiz c) (Frm.mk 1 a b 6 i j n p h x y))-(IntKind.wrap .i64 h)))<=6)) (br (Bq7 c) Aou (ba (Gu (TRun.mk (Frm.mk 1 a b 6 i j n p h x y) (Aiz c))) (br (!(Df (TRun.mk (Frm.mk 1 a b 6 i j n p h x y) (Aiz c)))) Aou (ba (decide (x=x)&&true) Al5))))))) (by kernel_rfl) (band hw (band hk (btf (Ad he) (band ho (btf (Ad hm) (band (Aw (Ddt rfl)) rfl))))))
abbrev Btf (a b h i j n p x y:Int):Frm:=⟨1,a,b,7,i,j,n,p,h,x,y⟩
theorem Avd (c:Conf) (a b i j n p h x y:Int) (he:Bsw (Ajw c)) (ho:Bsx (Btf a b h i j n p x y) (Ajw c)) (hm:Bsy (Btf a b h i j n p x y) (Ajw c)) (hw:Bsz (Ajw c) (Btf a b h i j n p x y)) (hk:Bs0 (Ajw c) (Btf a b h i j n p x y) h) (hn:0<=n/\n<=255) (h1:Btv (Btf a b h i j n p x y) (Ajw c) b) (e1:Di (⟨(Btf a b h i j n p x y),(Ajw c)⟩:TRun) (IntKind.wrap .i64 b)=abv (IntKind.wrap .i64 (IntKind.wrap .i64 a+p2 (bitsB (Ajw c) (Btf a b h i j n p x y)))) (IntKind.wrap .i64 ((bitsB (Ajw c) (Btf a b h i j n p x y))-IntKind.wrap .i64 h))) (h2:Btw (Btf a b h i j n p x y) (Ajw c)) (e2:D9 (⟨(Btf a b h i j n p x y),(Ajw c)⟩:TRun)=IntKind.wrap .i64 (IntKind.wrap .i64 a+p2 (bitsB (Ajw c) (Btf a b h i j n p x y)))):Ai Brd 400 87 [(Ajw c).av,(Btf a b h i j n p x y).av] (fun w_=>Tr.ev (Eh (Ajw c) (Btf a b h i j n p x y)) (fun l_=>(seG [(seI .u8),zcl1,(seI .u64),(seI .u64),(seI .u64),zcl1,(seI .u32)]).eq ((fun l_=>.agg [lget l_ 0,lget l_ 1,lget l_ 2,lget l_ 3,lget l_ 4,lget l_ 5,lget l_ 6]) l_) w_) false) false=true:=Eq.trans (b:=(ba (BasZR12.preW (Aiz c) (Frm.mk 1 a b 7 i j n p h x y)) (ba (decide (0<=(IntKind.wrap .i64 ((BasZR12.bitsB (Aiz c) (Frm.mk 1 a b 7 i j n p h x y))-(IntKind.wrap .i64 h))))&&decide ((IntKind.wrap .i64 ((BasZR12.bitsB (Aiz c) (Frm.mk 1 a b 7 i j n p h x y))-(IntKind.wrap .i64 h)))<=6)) (br (Bq7 c) Aou (ba (Gu (TRun.mk (Frm.mk 1 a b 7 i j n p h x y) (Aiz c))) (!(!(Df (TRun.mk (Frm.mk 1 a b 7 i j n p h x y) (Aiz c)))))))))) (by kernel_rfl) (band hw (band hk (btf (Ad he) (band ho (Am (Ad hm))))))
abbrev Btg (a b h i j n p x y:Int):Frm:=⟨2,a,b,0,i,j,n,p,h,x,y⟩
theorem Ave (c:Conf) (a b i j n p h x y:Int) (he:Bsw (Ajw c)) (ho:Bsx (Btg a b h i j n p x y) (Ajw c)) (hm:Bsy (Btg a b h i j n p x y) (Ajw c)) (hw:Bsz (Ajw c) (Btg a b h i j n p x y)) (hk:Bs0 (Ajw c) (Btg a b h i j n p x y) h) (hn:0<=n/\n<=255) (h1:Btv (Btg a b h i j n p x y) (Ajw c) b) (e1:Di (⟨(Btg a b h i j n p x y),(Ajw c)⟩:TRun) (IntKind.wrap .i64 b)=abv (IntKind.wrap .i64 (IntKind.wrap .i64 a+p2 (bitsB (Ajw c) (Btg a b h i j n p x y)))) (IntKind.wrap .i64 ((bitsB (Ajw c) (Btg a b h i j n p x y))-IntKind.wrap .i64 h))) (h2:Btw (Btg a b h i j n p x y) (Ajw c)) (e2:D9 (⟨(Btg a b h i j n p x y),(Ajw c)⟩:TRun)=IntKind.wrap .i64 (IntKind.wrap .i64 a+p2 (bitsB (Ajw c) (Btg a b h i j n p x y)))):Ai Brd 400 87 [(Ajw c).av,(Btg a b h i j n p x y).av] (fun w_=>Tr.ev (Eh (Ajw c) (Btg a b h i j n p x y)) (fun l_=>(seG [(seI .u8),zcl1,(seI .u64),(seI .u64),(seI .u64),zcl1,(seI .u32)]).eq ((fun l_=>.agg [lget l_ 0,lget l_ 1,lget l_ 2,lget l_ 3,lget l_ 4,lget l_ 5,lget l_ 6]) l_) w_) false) false=true:=Eq.trans (b:=(ba (BasZR12.preW (Aiz c) (Frm.mk 2 a b 0 i j n p h x y)) (ba (decide (0<=(IntKind.wrap .i64 ((BasZR12.bitsB (Aiz c) (Frm.mk 2 a b 0 i j n p h x y))-(IntKind.wrap .i64 h))))&&decide ((IntKind.wrap .i64 ((BasZR12.bitsB (Aiz c) (Frm.mk 2 a b 0 i j n p h x y))-(IntKind.wrap .i64 h)))<=6)) (br (Bq7 c) Aou (ba (Gu (TRun.mk (Frm.mk 2 a b 0 i j n p h x y) (Aiz c))) (br (!(Df (TRun.mk (Frm.mk 2 a b 0 i j n p h x y) (Aiz c)))) Aou (ba (Kz (TRun.mk (Frm.mk 2 a b 0 i j n p h x y) (Aiz c))) (ba (decide ((D9 (TRun.mk (Frm.mk 2 a b 0 i j n p h x y) (Aiz c)))=(IntKind.wrap .i64 ((IntKind.wrap .i64 a)+(BasZR12.p2 (BasZR12.bitsB (Aiz c) (Frm.mk 2 a b 0 i j n p h x y))))))&&true) Al5)))))))) (by kernel_rfl) (band hw (band hk (btf (Ad he) (band ho (btf (Ad hm) (band h2 (band (Aw (Ddt e2)) rfl)))))))
abbrev Brn (a b h i j n p x y:Int):Frm:=⟨2,a,b,2,i,j,n,p,h,x,y⟩
theorem Avf (c:Conf) (a b i j n p h x y:Int) (he:Bsw (Ajw c)) (ho:Bsx (Brn a b h i j n p x y) (Ajw c)) (hm:Bsy (Brn a b h i j n p x y) (Ajw c)) (hw:Bsz (Ajw c) (Brn a b h i j n p x y)) (hk:Bs0 (Ajw c) (Brn a b h i j n p x y) h) (hn:0<=n/\n<=255) (h1:Btv (Brn a b h i j n p x y) (Ajw c) b) (e1:Di (⟨(Brn a b h i j n p x y),(Ajw c)⟩:TRun) (IntKind.wrap .i64 b)=abv (IntKind.wrap .i64 (IntKind.wrap .i64 a+p2 (bitsB (Ajw c) (Brn a b h i j n p x y)))) (IntKind.wrap .i64 ((bitsB (Ajw c) (Brn a b h i j n p x y))-IntKind.wrap .i64 h))) (h2:Btw (Brn a b h i j n p x y) (Ajw c)) (e2:D9 (⟨(Brn a b h i j n p x y),(Ajw c)⟩:TRun)=IntKind.wrap .i64 (IntKind.wrap .i64 a+p2 (bitsB (Ajw c) (Brn a b h i j n p x y)))):Ai Brd 400 87 [(Ajw c).av,(Brn a b h i j n p x y).av] (fun w_=>Tr.ev (Eh (Ajw c) (Brn a b h i j n p x y)) (fun l_=>(seG [(seI .u8),zcl1,(seI .u64),(seI .u64),(seI .u64),zcl1,(seI .u32)]).eq ((fun l_=>.agg [lget l_ 0,lget l_ 1,lget l_ 2,lget l_ 3,lget l_ 4,lget l_ 5,lget l_ 6]) l_) w_) false) false=true:=Eq.trans (b:=(ba (BasZR12.preW (Aiz c) (Frm.mk 2 a b 2 i j n p h x y)) (ba (decide (0<=(IntKind.wrap .i64 ((BasZR12.bitsB (Aiz c) (Frm.mk 2 a b 2 i j n p h x y))-(IntKind.wrap .i64 h))))&&decide ((IntKind.wrap .i64 ((BasZR12.bitsB (Aiz c) (Frm.mk 2 a b 2 i j n p h x y))-(IntKind.wrap .i64 h)))<=6)) (br (Bq7 c) Aou (ba (Gu (TRun.mk (Frm.mk 2 a b 2 i j n p h x y) (Aiz c))) (br (!(Df (TRun.mk (Frm.mk 2 a b 2 i j n p h x y) (Aiz c)))) Aou (ba (Ig (TRun.mk (Frm.mk 2 a b 2 i j n p h x y) (Aiz c)) (IntKind.wrap .i64 b)) (ba (decide ((Di (TRun.mk (Frm.mk 2 a b 2 i j n p h x y) (Aiz c)) (IntKind.wrap .i64 b))=(BasZR12.abv (IntKind.wrap .i64 ((IntKind.wrap .i64 a)+(BasZR12.p2 (BasZR12.bitsB (Aiz c) (Frm.mk 2 a b 2 i j n p h x y))))) (IntKind.wrap .i64 ((BasZR12.bitsB (Aiz c) (Frm.mk 2 a b 2 i j n p h x y))-(IntKind.wrap .i64 h)))))&&true) Al5)))))))) (by kernel_rfl) (band hw (band hk (btf (Ad he) (band ho (btf (Ad hm) (band h1 (band (Aw (Ddt e1)) rfl)))))))
abbrev Bro (a b h i j n p x y:Int):Frm:=⟨2,a,b,3,i,j,n,p,h,x,y⟩
abbrev Bus (n:Int):Bool:=ba (decide ((Int.tmod (IntKind.wrap .u64 (IntKind.wrap .u8 (n+63))) 64)=(Int.tmod (IntKind.wrap .u64 ((IntKind.wrap .u64 n)+63)) 64))&&true) Al5
section
variable (a:Int) (b:Int) (c:Conf)
abbrev B2v (h:Int) (i:Int) (j:Int) (n:Int) (p:Int) (x:Int) (y:Int):Bool:=ba (decide ((Di (TRun.mk (Frm.mk 2 a b 3 i j n p h x y) (Aiz c)) (IntKind.wrap .i64 b))=(BasZR12.abv (IntKind.wrap .i64 ((IntKind.wrap .i64 a)+(BasZR12.p2 (BasZR12.bitsB (Aiz c) (Frm.mk 2 a b 3 i j n p h x y))))) (IntKind.wrap .i64 ((BasZR12.bitsB (Aiz c) (Frm.mk 2 a b 3 i j n p h x y))-(IntKind.wrap .i64 h)))))&&true) (Bus n)
abbrev B2w (h:Int) (i:Int) (j:Int) (n:Int) (p:Int) (x:Int) (y:Int):Bool:=ba (decide ((Di (TRun.mk (Frm.mk 2 a b 3 i j n p h x y) (Aiz c)) (IntKind.wrap .i64 b))=(BasZR12.abv (IntKind.wrap .i64 ((IntKind.wrap .i64 a)+(BasZR12.p2 (BasZR12.bitsB (Aiz c) (Frm.mk 2 a b 3 i j n p h x y))))) (IntKind.wrap .i64 ((BasZR12.bitsB (Aiz c) (Frm.mk 2 a b 3 i j n p h x y))-(IntKind.wrap .i64 h)))))&&true) (ba (decide ((IntKind.wrap .u64 ((IntKind.wrap .u64 y)+1))=0)&&true) (Bus n))
abbrev B2x (h:Int) (i:Int) (j:Int) (n:Int) (p:Int) (x:Int) (y:Int):Bool:=ba (decide ((Di (TRun.mk (Frm.mk 2 a b 3 i j n p h x y) (Aiz c)) (IntKind.wrap .i64 b))=(BasZR12.abv (IntKind.wrap .i64 ((IntKind.wrap .i64 a)+(BasZR12.p2 (BasZR12.bitsB (Aiz c) (Frm.mk 2 a b 3 i j n p h x y))))) (IntKind.wrap .i64 ((BasZR12.bitsB (Aiz c) (Frm.mk 2 a b 3 i j n p h x y))-(IntKind.wrap .i64 h)))))&&true) (ba (decide ((IntKind.wrap .u64 x)=0)&&true) (Bus n))
abbrev B2y (h:Int) (i:Int) (j:Int) (n:Int) (p:Int) (x:Int) (y:Int):Bool:=ba (decide ((Di (TRun.mk (Frm.mk 2 a b 3 i j n p h x y) (Aiz c)) (IntKind.wrap .i64 b))=(BasZR12.abv (IntKind.wrap .i64 ((IntKind.wrap .i64 a)+(BasZR12.p2 (BasZR12.bitsB (Aiz c) (Frm.mk 2 a b 3 i j n p h x y))))) (IntKind.wrap .i64 ((BasZR12.bitsB (Aiz c) (Frm.mk 2 a b 3 i j n p h x y))-(IntKind.wrap .i64 h)))))&&true) (ba (decide (0=(IntKind.wrap .u64 x))&&true) (Bus n))
abbrev B2z (h:Int) (i:Int) (j:Int) (n:Int) (p:Int) (x:Int) (y:Int):Bool:=ba (decide ((Di (TRun.mk (Frm.mk 2 a b 3 i j n p h x y) (Aiz c)) (IntKind.wrap .i64 b))=(BasZR12.abv (IntKind.wrap .i64 ((IntKind.wrap .i64 a)+(BasZR12.p2 (BasZR12.bitsB (Aiz c) (Frm.mk 2 a b 3 i j n p h x y))))) (IntKind.wrap .i64 ((BasZR12.bitsB (Aiz c) (Frm.mk 2 a b 3 i j n p h x y))-(IntKind.wrap .i64 h)))))&&true) (ba (decide ((IntKind.wrap .u64 ((IntKind.wrap .u64 y)+1))=(IntKind.wrap .u64 x))&&true) (Bus n))
abbrev B20 (h:Int) (i:Int) (j:Int) (n:Int) (p:Int) (x:Int) (y:Int):Bool:=ba (decide ((Di (TRun.mk (Frm.mk 2 a b 3 i j n p h x y) (Aiz c)) (IntKind.wrap .i64 b))=(BasZR12.abv (IntKind.wrap .i64 ((IntKind.wrap .i64 a)+(BasZR12.p2 (BasZR12.bitsB (Aiz c) (Frm.mk 2 a b 3 i j n p h x y))))) (IntKind.wrap .i64 ((BasZR12.bitsB (Aiz c) (Frm.mk 2 a b 3 i j n p h x y))-(IntKind.wrap .i64 h)))))&&true) (ba (decide ((IntKind.wrap .u64 x)=(IntKind.wrap .u64 x))&&true) (Bus n))
end
theorem Avg (c:Conf) (a b i j n p h x y:Int) (he:Bsw (Ajw c)) (ho:Bsx (Bro a b h i j n p x y) (Ajw c)) (hm:Bsy (Bro a b h i j n p x y) (Ajw c)) (hw:Bsz (Ajw c) (Bro a b h i j n p x y)) (hk:Bs0 (Ajw c) (Bro a b h i j n p x y) h) (hn:0<=n/\n<=255) (h1:Btv (Bro a b h i j n p x y) (Ajw c) b) (e1:Di (⟨(Bro a b h i j n p x y),(Ajw c)⟩:TRun) (IntKind.wrap .i64 b)=abv (IntKind.wrap .i64 (IntKind.wrap .i64 a+p2 (bitsB (Ajw c) (Bro a b h i j n p x y)))) (IntKind.wrap .i64 ((bitsB (Ajw c) (Bro a b h i j n p x y))-IntKind.wrap .i64 h))) (h2:Btw (Bro a b h i j n p x y) (Ajw c)) (e2:D9 (⟨(Bro a b h i j n p x y),(Ajw c)⟩:TRun)=IntKind.wrap .i64 (IntKind.wrap .i64 a+p2 (bitsB (Ajw c) (Bro a b h i j n p x y)))):Ai Brd 400 87 [(Ajw c).av,(Bro a b h i j n p x y).av] (fun w_=>Tr.ev (Eh (Ajw c) (Bro a b h i j n p x y)) (fun l_=>(seG [(seI .u8),zcl1,(seI .u64),(seI .u64),(seI .u64),zcl1,(seI .u32)]).eq ((fun l_=>.agg [lget l_ 0,lget l_ 1,lget l_ 2,lget l_ 3,lget l_ 4,lget l_ 5,lget l_ 6]) l_) w_) false) false=true:=Eq.trans (b:=(ba (BasZR12.preW (Aiz c) (Frm.mk 2 a b 3 i j n p h x y)) (ba (decide (0<=(IntKind.wrap .i64 ((BasZR12.bitsB (Aiz c) (Frm.mk 2 a b 3 i j n p h x y))-(IntKind.wrap .i64 h))))&&decide ((IntKind.wrap .i64 ((BasZR12.bitsB (Aiz c) (Frm.mk 2 a b 3 i j n p h x y))-(IntKind.wrap .i64 h)))<=6)) (br (Bqm b h) (br (Bq7 c) Aou (ba (Gu (TRun.mk (Frm.mk 2 a b 3 i j n p h x y) (Aiz c))) (br (!(Df (TRun.mk (Frm.mk 2 a b 3 i j n p h x y) (Aiz c)))) Aou (ba (Ig (TRun.mk (Frm.mk 2 a b 3 i j n p h x y) (Aiz c)) (IntKind.wrap .i64 b)) (br (Bqm b h) (br (Bqm b h) (B2v a b c h i j n p x y) (B2v a b c h i j n p x y)) (br (Bqm b h) (br (Bqm b h) (B2w a b c h i j n p x y) (B2w a b c h i j n p x y)) (br (Bqm b h) (B2x a b c h i j n p x y) (B2x a b c h i j n p x y)))))))) (br (Bq7 c) Aou (ba (Gu (TRun.mk (Frm.mk 2 a b 3 i j n p h x y) (Aiz c))) (br (!(Df (TRun.mk (Frm.mk 2 a b 3 i j n p h x y) (Aiz c)))) Aou (ba (Ig (TRun.mk (Frm.mk 2 a b 3 i j n p h x y) (Aiz c)) (IntKind.wrap .i64 b)) (br (Bqm b h) (br (Bqm b h) (B2y a b c h i j n p x y) (B2y a b c h i j n p x y)) (br (Bqm b h) (br (Bqm b h) (B2z a b c h i j n p x y) (B2z a b c h i j n p x y)) (br (Bqm b h) (B20 a b c h i j n p x y) (B20 a b c h i j n p x y)))))))))))) (by kernel_rfl) (band hw (band hk (bdt (fun h_1=>(btf (Ad he) (band ho (btf (Ad hm) (band h1 (btb h_1 (btb h_1 (band (Aw (Ddt e1)) (band (Aw (Ddt (n_63 hn))) rfl))))))))) (fun h_1=>(btf (Ad he) (band ho (btf (Ad hm) (band h1 (btf h_1 (btf h_1 (btf h_1 (band (Aw (Ddt e1)) (band (Aw (Ddt rfl)) (band (Aw (Ddt (n_63 hn))) rfl))))))))))))))
abbrev Brp (a b h i j n p x y:Int):Frm:=⟨2,a,b,6,i,j,n,p,h,x,y⟩
theorem Avh (c:Conf) (a b i j n p h x y:Int) (he:Bsw (Ajw c)) (ho:Bsx (Brp a b h i j n p x y) (Ajw c)) (hm:Bsy (Brp a b h i j n p x y) (Ajw c)) (hw:Bsz (Ajw c) (Brp a b h i j n p x y)) (hk:Bs0 (Ajw c) (Brp a b h i j n p x y) h) (hn:0<=n/\n<=255) (h1:Btv (Brp a b h i j n p x y) (Ajw c) b) (e1:Di (⟨(Brp a b h i j n p x y),(Ajw c)⟩:TRun) (IntKind.wrap .i64 b)=abv (IntKind.wrap .i64 (IntKind.wrap .i64 a+p2 (bitsB (Ajw c) (Brp a b h i j n p x y)))) (IntKind.wrap .i64 ((bitsB (Ajw c) (Brp a b h i j n p x y))-IntKind.wrap .i64 h))) (h2:Btw (Brp a b h i j n p x y) (Ajw c)) (e2:D9 (⟨(Brp a b h i j n p x y),(Ajw c)⟩:TRun)=IntKind.wrap .i64 (IntKind.wrap .i64 a+p2 (bitsB (Ajw c) (Brp a b h i j n p x y)))):Ai Brd 400 87 [(Ajw c).av,(Brp a b h i j n p x y).av] (fun w_=>Tr.ev (Eh (Ajw c) (Brp a b h i j n p x y)) (fun l_=>(seG [(seI .u8),zcl1,(seI .u64),(seI .u64),(seI .u64),zcl1,(seI .u32)]).eq ((fun l_=>.agg [lget l_ 0,lget l_ 1,lget l_ 2,lget l_ 3,lget l_ 4,lget l_ 5,lget l_ 6]) l_) w_) false) false=true:=Eq.trans (b:=(ba (BasZR12.preW (Aiz c) (Frm.mk 2 a b 6 i j n p h x y)) (ba (decide (0<=(IntKind.wrap .i64 ((BasZR12.bitsB (Aiz c) (Frm.mk 2 a b 6 i j n p h x y))-(IntKind.wrap .i64 h))))&&decide ((IntKind.wrap .i64 ((BasZR12.bitsB (Aiz c) (Frm.mk 2 a b 6 i j n p h x y))-(IntKind.wrap .i64 h)))<=6)) (br (Bq7 c) Aou (ba (Gu (TRun.mk (Frm.mk 2 a b 6 i j n p h x y) (Aiz c))) (br (!(Df (TRun.mk (Frm.mk 2 a b 6 i j n p h x y) (Aiz c)))) Aou (ba (decide (x=x)&&true) Al5))))))) (by kernel_rfl) (band hw (band hk (btf (Ad he) (band ho (btf (Ad hm) (band (Aw (Ddt rfl)) rfl))))))
abbrev Brq (a b h i j n p x y:Int):Frm:=⟨2,a,b,8,i,j,n,p,h,x,y⟩
theorem Avi (c:Conf) (a b i j n p h x y:Int) (he:Bsw (Ajw c)) (ho:Bsx (Brq a b h i j n p x y) (Ajw c)) (hm:Bsy (Brq a b h i j n p x y) (Ajw c)) (hw:Bsz (Ajw c) (Brq a b h i j n p x y)) (hk:Bs0 (Ajw c) (Brq a b h i j n p x y) h) (hn:0<=n/\n<=255) (h1:Btv (Brq a b h i j n p x y) (Ajw c) b) (e1:Di (⟨(Brq a b h i j n p x y),(Ajw c)⟩:TRun) (IntKind.wrap .i64 b)=abv (IntKind.wrap .i64 (IntKind.wrap .i64 a+p2 (bitsB (Ajw c) (Brq a b h i j n p x y)))) (IntKind.wrap .i64 ((bitsB (Ajw c) (Brq a b h i j n p x y))-IntKind.wrap .i64 h))) (h2:Btw (Brq a b h i j n p x y) (Ajw c)) (e2:D9 (⟨(Brq a b h i j n p x y),(Ajw c)⟩:TRun)=IntKind.wrap .i64 (IntKind.wrap .i64 a+p2 (bitsB (Ajw c) (Brq a b h i j n p x y)))):Ai Brd 400 87 [(Ajw c).av,(Brq a b h i j n p x y).av] (fun w_=>Tr.ev (Eh (Ajw c) (Brq a b h i j n p x y)) (fun l_=>(seG [(seI .u8),zcl1,(seI .u64),(seI .u64),(seI .u64),zcl1,(seI .u32)]).eq ((fun l_=>.agg [lget l_ 0,lget l_ 1,lget l_ 2,lget l_ 3,lget l_ 4,lget l_ 5,lget l_ 6]) l_) w_) false) false=true:=Eq.trans (b:=(ba (BasZR12.preW (Aiz c) (Frm.mk 2 a b 8 i j n p h x y)) (ba (decide (0<=(IntKind.wrap .i64 ((BasZR12.bitsB (Aiz c) (Frm.mk 2 a b 8 i j n p h x y))-(IntKind.wrap .i64 h))))&&decide ((IntKind.wrap .i64 ((BasZR12.bitsB (Aiz c) (Frm.mk 2 a b 8 i j n p h x y))-(IntKind.wrap .i64 h)))<=6)) (br (Bq7 c) Aou (ba (Gu (TRun.mk (Frm.mk 2 a b 8 i j n p h x y) (Aiz c))) (!(!(Df (TRun.mk (Frm.mk 2 a b 8 i j n p h x y) (Aiz c)))))))))) (by kernel_rfl) (band hw (band hk (btf (Ad he) (band ho (Am (Ad hm))))))
abbrev Bsk (a b h i j n p x y:Int):Frm:=⟨3,a,b,0,i,j,n,p,h,x,y⟩
abbrev Bx7 (a:Int) (b:Int) (c:Conf) (h:Int) (i:Int) (j:Int) (n:Int) (p:Int) (x:Int) (y:Int):Bool:=ba (decide ((Di (TRun.mk (Frm.mk 3 a b 0 i j n p h x y) (Aiz c)) c.6)=(BasZR12.abv (IntKind.wrap .i64 ((IntKind.wrap .i64 a)+(BasZR12.p2 (BasZR12.bitsB (Aiz c) (Frm.mk 3 a b 0 i j n p h x y))))) (IntKind.wrap .i64 ((BasZR12.bitsB (Aiz c) (Frm.mk 3 a b 0 i j n p h x y))-(IntKind.wrap .i64 h)))))&&true) Al5
theorem Avj (c:Conf) (a b i j n p h x y:Int) (he:Bsw (Ajw c)) (ho:Bsx (Bsk a b h i j n p x y) (Ajw c)) (hm:Bsy (Bsk a b h i j n p x y) (Ajw c)) (hw:Bsz (Ajw c) (Bsk a b h i j n p x y)) (hk:Bs0 (Ajw c) (Bsk a b h i j n p x y) h) (hn:0<=n/\n<=255) (h1:Ig (⟨(Bsk a b h i j n p x y),(Ajw c)⟩:TRun) (Ajw c).bits=true) (e1:Di (⟨(Bsk a b h i j n p x y),(Ajw c)⟩:TRun) (Ajw c).bits=abv (IntKind.wrap .i64 (IntKind.wrap .i64 a+p2 (bitsB (Ajw c) (Bsk a b h i j n p x y)))) (IntKind.wrap .i64 ((bitsB (Ajw c) (Bsk a b h i j n p x y))-IntKind.wrap .i64 h))):Ai Brd 400 87 [(Ajw c).av,(Bsk a b h i j n p x y).av] (fun w_=>Tr.ev (Eh (Ajw c) (Bsk a b h i j n p x y)) (fun l_=>(seG [(seI .u8),zcl1,(seI .u64),(seI .u64),(seI .u64),zcl1,(seI .u32)]).eq ((fun l_=>.agg [lget l_ 0,lget l_ 1,lget l_ 2,lget l_ 3,lget l_ 4,lget l_ 5,lget l_ 6]) l_) w_) false) false=true:=Eq.trans (b:=(ba (BasZR12.preW (Aiz c) (Frm.mk 3 a b 0 i j n p h x y)) (ba (decide (0<=(IntKind.wrap .i64 ((BasZR12.bitsB (Aiz c) (Frm.mk 3 a b 0 i j n p h x y))-(IntKind.wrap .i64 h))))&&decide ((IntKind.wrap .i64 ((BasZR12.bitsB (Aiz c) (Frm.mk 3 a b 0 i j n p h x y))-(IntKind.wrap .i64 h)))<=6)) (br (Bq7 c) Aou (ba (Gu (TRun.mk (Frm.mk 3 a b 0 i j n p h x y) (Aiz c))) (br (!(Df (TRun.mk (Frm.mk 3 a b 0 i j n p h x y) (Aiz c)))) Aou (ba (Ig (TRun.mk (Frm.mk 3 a b 0 i j n p h x y) (Aiz c)) c.6) (br (decide ((IntKind.wrap .i64 h)<c.6)) (br (!decide (x=0)) (Bx7 a b c h i j n p x y) (Bx7 a b c h i j n p x y)) (br (!decide (x=0)) (Bx7 a b c h i j n p x y) (Bx7 a b c h i j n p x y)))))))))) (by kernel_rfl) (band hw (band hk (btf (Ad he) (band ho (btf (Ad hm) (band h1 (bdt (fun h_1=>(bdt (fun h_2=>(band (Aw (Ddt e1)) rfl)) (fun h_2=>(band (Aw (Ddt e1)) rfl)))) (fun h_1=>(bdt (fun h_2=>(band (Aw (Ddt e1)) rfl)) (fun h_2=>(band (Aw (Ddt e1)) rfl)))))))))))
abbrev Bsl (a b h i j n p x y:Int):Frm:=⟨3,a,b,6,i,j,n,p,h,x,y⟩
theorem Avk (c:Conf) (a b i j n p h x y:Int) (he:Bsw (Ajw c)) (ho:Bsx (Bsl a b h i j n p x y) (Ajw c)) (hm:Bsy (Bsl a b h i j n p x y) (Ajw c)) (hw:Bsz (Ajw c) (Bsl a b h i j n p x y)) (hk:Bs0 (Ajw c) (Bsl a b h i j n p x y) h) (hn:0<=n/\n<=255) (h1:Ig (⟨(Bsl a b h i j n p x y),(Ajw c)⟩:TRun) (Ajw c).bits=true) (e1:Di (⟨(Bsl a b h i j n p x y),(Ajw c)⟩:TRun) (Ajw c).bits=abv (IntKind.wrap .i64 (IntKind.wrap .i64 a+p2 (bitsB (Ajw c) (Bsl a b h i j n p x y)))) (IntKind.wrap .i64 ((bitsB (Ajw c) (Bsl a b h i j n p x y))-IntKind.wrap .i64 h))):Ai Brd 400 87 [(Ajw c).av,(Bsl a b h i j n p x y).av] (fun w_=>Tr.ev (Eh (Ajw c) (Bsl a b h i j n p x y)) (fun l_=>(seG [(seI .u8),zcl1,(seI .u64),(seI .u64),(seI .u64),zcl1,(seI .u32)]).eq ((fun l_=>.agg [lget l_ 0,lget l_ 1,lget l_ 2,lget l_ 3,lget l_ 4,lget l_ 5,lget l_ 6]) l_) w_) false) false=true:=Eq.trans (b:=(ba (BasZR12.preW (Aiz c) (Frm.mk 3 a b 6 i j n p h x y)) (ba (decide (0<=(IntKind.wrap .i64 ((BasZR12.bitsB (Aiz c) (Frm.mk 3 a b 6 i j n p h x y))-(IntKind.wrap .i64 h))))&&decide ((IntKind.wrap .i64 ((BasZR12.bitsB (Aiz c) (Frm.mk 3 a b 6 i j n p h x y))-(IntKind.wrap .i64 h)))<=6)) (br (Bq7 c) Aou (ba (Gu (TRun.mk (Frm.mk 3 a b 6 i j n p h x y) (Aiz c))) (br (!(Df (TRun.mk (Frm.mk 3 a b 6 i j n p h x y) (Aiz c)))) Aou (ba (decide (x=x)&&true) Al5))))))) (by kernel_rfl) (band hw (band hk (btf (Ad he) (band ho (btf (Ad hm) (band (Aw (Ddt rfl)) rfl))))))
abbrev Bsm (a b h i j n p x y:Int):Frm:=⟨3,a,b,8,i,j,n,p,h,x,y⟩
theorem Avl (c:Conf) (a b i j n p h x y:Int) (he:Bsw (Ajw c)) (ho:Bsx (Bsm a b h i j n p x y) (Ajw c)) (hm:Bsy (Bsm a b h i j n p x y) (Ajw c)) (hw:Bsz (Ajw c) (Bsm a b h i j n p x y)) (hk:Bs0 (Ajw c) (Bsm a b h i j n p x y) h) (hn:0<=n/\n<=255) (h1:Ig (⟨(Bsm a b h i j n p x y),(Ajw c)⟩:TRun) (Ajw c).bits=true) (e1:Di (⟨(Bsm a b h i j n p x y),(Ajw c)⟩:TRun) (Ajw c).bits=abv (IntKind.wrap .i64 (IntKind.wrap .i64 a+p2 (bitsB (Ajw c) (Bsm a b h i j n p x y)))) (IntKind.wrap .i64 ((bitsB (Ajw c) (Bsm a b h i j n p x y))-IntKind.wrap .i64 h))):Ai Brd 400 87 [(Ajw c).av,(Bsm a b h i j n p x y).av] (fun w_=>Tr.ev (Eh (Ajw c) (Bsm a b h i j n p x y)) (fun l_=>(seG [(seI .u8),zcl1,(seI .u64),(seI .u64),(seI .u64),zcl1,(seI .u32)]).eq ((fun l_=>.agg [lget l_ 0,lget l_ 1,lget l_ 2,lget l_ 3,lget l_ 4,lget l_ 5,lget l_ 6]) l_) w_) false) false=true:=Eq.trans (b:=(ba (BasZR12.preW (Aiz c) (Frm.mk 3 a b 8 i j n p h x y)) (ba (decide (0<=(IntKind.wrap .i64 ((BasZR12.bitsB (Aiz c) (Frm.mk 3 a b 8 i j n p h x y))-(IntKind.wrap .i64 h))))&&decide ((IntKind.wrap .i64 ((BasZR12.bitsB (Aiz c) (Frm.mk 3 a b 8 i j n p h x y))-(IntKind.wrap .i64 h)))<=6)) (br (Bq7 c) Aou (ba (Gu (TRun.mk (Frm.mk 3 a b 8 i j n p h x y) (Aiz c))) (!(!(Df (TRun.mk (Frm.mk 3 a b 8 i j n p h x y) (Aiz c)))))))))) (by kernel_rfl) (band hw (band hk (btf (Ad he) (band ho (Am (Ad hm))))))
theorem A6m (c:Conf) (f:Frm) (h:(decide (Az c=0)&&(decide (c.ob=1)&&(posH f&&Df ⟨f,c⟩)))=true):Ai Brd 400 87 [c.av,f.av] (fun w_=>Tr.ev (Eh c f) (fun l_=>(seG [(seI .u8),zcl1,(seI .u64),(seI .u64),(seI .u64),zcl1,(seI .u32)]).eq ((fun l_=>.agg [lget l_ 0,lget l_ 1,lget l_ 2,lget l_ 3,lget l_ 4,lget l_ 5,lget l_ 6]) l_) w_) false) false=true:=by
 have he:=Aj h
 have ho:=Odt (Aj (Af h))
 have hp:=Aj (Af (Af h))
 have hm:=Af (Af (Af h))
 obtain ⟨k3,b0,b1,b2,b3,ha⟩:=A6a he ho hp hm
 have hn:=F5 hp
 have hx:=Ik.1 hp
 have hw:preW c f=true:=by
  unfold preW A58;rw [Ddt b0,Ddt (show bitsB c f<=6 by omega),hp,Ddt k3]
  rfl
 have ew:IntKind.wrap .i64 f.h=f.h:=i64_mid (by omega) (by omega)
 have hk:(decide (0<=IntKind.wrap .i64 (bitsB c f-IntKind.wrap .i64 f.h))&&decide (IntKind.wrap .i64 (bitsB c f-IntKind.wrap .i64 f.h)<=6))=true:=by
  rw [ew,i64_mid (n:=bitsB c f-f.h) (by omega) (by omega),Ddt (show 0<=bitsB c f-f.h by omega),Ddt (show bitsB c f-f.h<=6 by omega)]
  rfl
 have hok:=Nv (c:=c) (Dn hp)
 have hN:=Aw6 b0 (by omega) hn.2.2.2.1 b3 hn.2.1.1 ha
 have h1:Ig ⟨f,c⟩ (bitsB c f)=true:=ok_tat_pos hn.2.2.2.1 hn.2.2.2.2 b0 (by omega) b3
 have e1:Di ⟨f,c⟩ (bitsB c f)=abv (IntKind.wrap .i64 (IntKind.wrap .i64 f.a+p2 (bitsB c f))) (IntKind.wrap .i64 (bitsB c f-IntKind.wrap .i64 f.h)):=by
  rw [<- hN.1];unfold Di Aho;rw [Ddf (show ¬ bitsB c f<0 by omega),Ddf (show ¬ IntKind.wrap .i64 (bitsB c f-IntKind.wrap .i64 f.h)<0 by rw [ew,i64_mid (n:=bitsB c f-f.h) (by omega) (by omega)];omega)]
  rfl
 have hpc:=Adj hm
 have hr:0<=f.n/\f.n<=255:=hx.2.2.2.2.1
 unfold Ahv at hpc
 by_cases kk:f.kind=3
 ·have eb:bitsB c f=c.bits:=by unfold bitsB;rw [Ddt kk];rfl
  have h1:Ig ⟨f,c⟩ c.bits=true:=eb ▸ h1;have e1:=(congrArg (Di ⟨f,c⟩) eb.symm).trans e1;have hpc:=(hpc.1 kk).2;clear k3 b0 b1 b2 b3 ha hn hx ew hN eb h hp;rw [D8 ho] at he hok hm hw hk h1 e1 ⊢;obtain ⟨kind,a,b,pc,i,j,n,p,hh,x,y⟩:=f;obtain rfl:kind=3:=kk;have hpc:pc=0\/pc=6\/pc=8:=hpc
  rcases hpc with rfl|rfl|rfl
  ·exact Avj c a b i j n p hh x y he hok hm hw hk hr h1 e1
  ·exact Avk c a b i j n p hh x y he hok hm hw hk hr h1 e1
  ·exact Avl c a b i j n p hh x y he hok hm hw hk hr h1 e1
 ·have eb0:bitsB c f=IntKind.wrap .i64 f.b:=by unfold bitsB;rw [Ddf kk];rfl
  have eb:bitsB c f=f.b:=eb0.trans (i64_mid (by omega) (by omega))
  have h1:Ig ⟨f,c⟩ (IntKind.wrap .i64 f.b)=true:=eb0 ▸ h1;have e1:=(congrArg (Di ⟨f,c⟩) eb0.symm).trans e1;have h2:Kz ⟨f,c⟩=true:=Vy hn.2.2.1.1
  have e2:D9 ⟨f,c⟩=IntKind.wrap .i64 (IntKind.wrap .i64 f.a+p2 (bitsB c f)):=by
   rw [<- hN.2.1,eb];unfold D9 Vx;rw [Ddf (show ¬ f.b<0 by omega)]
   rfl
  have hpc:=(hpc.2 kk).2;clear b0 b1 b2 b3 ha hn hx ew hN eb0 eb h hp;rw [D8 ho] at he hok hm hw hk h1 e1 h2 e2 ⊢;obtain ⟨kind,a,b,pc,i,j,n,p,hh,x,y⟩:=f;have k3:kind=1\/kind=2:=by have:kind=1\/kind=2\/kind=3:=k3;have kk:¬ kind=3:=kk;omega
  have hpc:kind=1/\(pc=1\/pc=5\/pc=7)\/kind ≠ 1/\pc=8\/pc=6\/pc=0\/pc=2\/pc=3:=hpc
  rcases k3 with rfl|rfl
  ·rcases (show pc=0\/pc=1\/pc=2\/pc=3\/pc=5\/pc=6\/pc=7 by omega) with rfl|rfl|rfl|rfl|rfl|rfl|rfl
   ·exact Au7 c a b i j n p hh x y he hok hm hw hk hr h1 e1 h2 e2
   ·exact Au8 c a b i j n p hh x y he hok hm hw hk hr h1 e1 h2 e2
   ·exact Au9 c a b i j n p hh x y he hok hm hw hk hr h1 e1 h2 e2
   ·exact Ava c a b i j n p hh x y he hok hm hw hk hr h1 e1 h2 e2
   ·exact Avb c a b i j n p hh x y he hok hm hw hk hr h1 e1 h2 e2
   ·exact Avc c a b i j n p hh x y he hok hm hw hk hr h1 e1 h2 e2
   ·exact Avd c a b i j n p hh x y he hok hm hw hk hr h1 e1 h2 e2
  ·rcases (show pc=0\/pc=2\/pc=3\/pc=6\/pc=8 by omega) with rfl|rfl|rfl|rfl|rfl
   ·exact Ave c a b i j n p hh x y he hok hm hw hk hr h1 e1 h2 e2
   ·exact Avf c a b i j n p hh x y he hok hm hw hk hr h1 e1 h2 e2
   ·exact Avg c a b i j n p hh x y he hok hm hw hk hr h1 e1 h2 e2
   ·exact Avh c a b i j n p hh x y he hok hm hw hk hr h1 e1 h2 e2
   ·exact Avi c a b i j n p hh x y he hok hm hw hk hr h1 e1 h2 e2
theorem Bm6:Bc Tryz.prog (Cb gs) A6l:=Cm fun c f h=>Aq base (Ah Bc2 (Ah Bda Ap)) (n:=400) fun k hk=>(Dh (A6m c f h) (fun w_ hw=>((seG [(seI .u8),(seI .i64),(seI .u64),(seI .u64),(seI .u64),(seI .i64),(seI .u32)]).ok _ _ ((Tr.merge (Aht c f) (Acd (Dn (Aj (Af (Af h)))))).symm.trans hw))) k).trans hk
end
end Go.Bas.BasZR12
