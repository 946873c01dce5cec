/- Divided and rounded up, Apw and Apw. Plain Lean; How many items there are so many levels up: the document's loops; How many items there are so many levels up: the document's function; The document's levels of an index: how many items each has, which is the top one; The last item that an item is for: the document's loop; The last item that an item is for: the document's function answers what the program's does. -/
import Derived.Test.YtjepofcbkojibaaGreatDoorBasW5
import Derived.Test.YtjepofcbkojibaaGreatDoorBasW6
set_option maxRecDepth 100000
set_option maxHeartbeats 4000000
set_option linter.unusedVariables false
set_option linter.unusedSimpArgs false
section
namespace Go.Bas
def cdiv (m w:Nat):Nat:=(m+w-1) / w
def itm (m w:Nat):Nat->Nat
 | 0=>m
 | k+1=>cdiv (itm m w k) w
theorem Aoc {m w j:Nat} (hw:0<w):j<cdiv m w ↔ j*w<m:=by
 unfold cdiv
 rw [show j<(m+w-1) / w ↔ j+1<=(m+w-1) / w from Iff.rfl,Nat.le_div_iff_mul_le hw,Nat.succ_mul]
 omega
theorem Axq {m w:Nat} (hw:0<w):cdiv m w<=m:=by
 rcases Nat.lt_or_ge m (cdiv m w) with h|h
 ·have:=(Aoc hw).1 h
  have h2:m*1<=m*w:=Nat.mul_le_mul_left _ hw;omega
 ·exact h
theorem A7b {m w:Nat} (hw:0<w):∀ k,itm m w k<=m
 | 0=>Nat.le_refl _
 | k+1=>Nat.le_trans (Axq hw) (A7b hw k)
end Go.Bas
namespace Go.Bas
def nlv (m w:Nat):Nat->Nat->Nat
 | 0,h=>h+1
 | f+1,h=>cond (Nat.ble (itm m w h) w) (h+1) (nlv m w f (h+1))
def nl (m w:Nat):Nat:=nlv m w 4 0
def usF (m w:Nat):Nat->Nat
 | 0=>0
 | k+1=>usF m w k+itm m w (k+1)
def us (m w:Nat):Nat:=usF m w (nl m w-1)
end Go.Bas
namespace Go.Bas
end Go.Bas
end
section
namespace Go.Bas.BasZItems
noncomputable section
open Go.RowKit Go.Proofs
open BasZBase
def A7c (m:Int) (w:Int) (h:Int) (k0:Int):St:=⟨fill 25 [(0,.int .i64 m),(1,.int .i64 w),(2,.int .i64 h),(7,.int .i64 k0)],[],⟨[],0,[]⟩⟩
def P_io {Ω:Type} (st:St) (g:(Int)->(Int)->(Int)->(Int)->Ω) (z:Ω):Ω:=match lget st.tmps 0,lget st.tmps 1,lget st.tmps 2,lget st.tmps 7,st.ds,st.m with
 | .int .i64 m,.int .i64 w,.int .i64 h,.int .i64 k0,[],⟨[],z1,[]⟩=>cond (Nat.beq st.tmps.length 25&&(Nat.beq z1 0&&true)) (g m w h k0) z
 | _,_,_,_,_,_=>z
theorem Bds {C:Cfg} {c:Code} {G:(Int)->(Int)->(Int)->(Int)->(Ex->St->Bool)->Bool} (hG:∀ m w h k0 k,G m w h k0 k=true->AWq C c (A7c m w h k0) (fun e s=>k e s=true)):∀ st k,P_io st (fun m w h k0=>G m w h k0 k) false=true->AWq C c st (fun e s=>k e s=true):=by
 intro st k h
 unfold P_io at h
 split at h
 ·rename_i q0 q1 q2 q3 hd hm
  rcases Dt h with ⟨hb,h2⟩|⟨_,h2⟩
  ·simp only [Bae,and_true,Dte,Ea] at hb
   obtain ⟨hb0,hb1⟩:=hb;subst hb1;exact AWq.less (Less.fill hb0 (Bz q0 (Bz q1 (Bz q2 (Bz q3 P6)))) hd hm) (hG _ _ _ _ _ h2)
  ·cases h2
 ·cases h
def A1h (m:Int) (w:Int) (h:Int) (k0:Int) (n:Int) (i:Int):St:=⟨fill 25 [(0,.int .i64 m),(1,.int .i64 w),(2,.int .i64 h),(7,.int .i64 k0),(8,.int .i64 n),(9,.int .i64 i)],[],⟨[],0,[]⟩⟩
def P_ii {Ω:Type} (st:St) (g:(Int)->(Int)->(Int)->(Int)->(Int)->(Int)->Ω) (z:Ω):Ω:=match lget st.tmps 0,lget st.tmps 1,lget st.tmps 2,lget st.tmps 7,lget st.tmps 8,lget st.tmps 9,st.ds,st.m with
 | .int .i64 m,.int .i64 w,.int .i64 h,.int .i64 k0,.int .i64 n,.int .i64 i,[],⟨[],z1,[]⟩=>cond (Nat.beq st.tmps.length 25&&(Nat.beq z1 0&&true)) (g m w h k0 n i) z
 | _,_,_,_,_,_,_,_=>z
theorem Bdt {C:Cfg} {c:Code} {G:(Int)->(Int)->(Int)->(Int)->(Int)->(Int)->(Ex->St->Bool)->Bool} (hG:∀ m w h k0 n i k,G m w h k0 n i k=true->AWq C c (A1h m w h k0 n i) (fun e s=>k e s=true)):∀ st k,P_ii st (fun m w h k0 n i=>G m w h k0 n i k) false=true->AWq C c st (fun e s=>k e s=true):=by
 intro st k h
 unfold P_ii at h
 split at h
 ·rename_i q0 q1 q2 q3 q4 q5 hd hm
  rcases Dt h with ⟨hb,h2⟩|⟨_,h2⟩
  ·simp only [Bae,and_true,Dte,Ea] at hb
   obtain ⟨hb0,hb1⟩:=hb;subst hb1;exact AWq.less (Less.fill hb0 (Bz q0 (Bz q1 (Bz q2 (Bz q3 (Bz q4 (Bz q5 P6)))))) hd hm) (hG _ _ _ _ _ _ _ h2)
  ·cases h2
 ·cases h
def cdI (m w:Int):Int:=(cdiv m.toNat w.toNat:Nat)
def itI (m w h:Int):Int:=(itm m.toNat w.toNat h.toNat:Nat)
def inOk (m w n i:Int):Bool:=decide (0<=m)&&(decide (m<=1000)&&(decide (1<=w)&&(decide (w<=1000)&&(decide (n=0)&&decide (i=0)))))
def outOk (m w h k0:Int):Bool:=decide (0<=m)&&(decide (m<=1000)&&(decide (1<=w)&&(decide (w<=1000)&&(decide (0<=h)&&(decide (h<=1000)&&decide (k0=0))))))
def G_ii (m w h k0 n i:Int) (k:Ex->St->Bool):Bool:=cond (inOk m w n i) (k (.exit 2) ⟨fill 25 [(1,.int .i64 w),(2,.int .i64 h),(7,.int .i64 k0),(8,.int .i64 (cdI m w))],[],⟨[],0,[]⟩⟩) false
def F_ii:LF:=fun st k=>P_ii st (fun m w h k0 n i=>G_ii m w h k0 n i k) false
def G_io (m w h k0:Int) (k:Ex->St->Bool):Bool:=cond (outOk m w h k0) (k (.exit 0) ⟨fill 25 [(0,.int .i64 (itI m w h))],[],⟨[],0,[]⟩⟩) false
def F_io:LF:=fun st k=>P_io st (fun m w h k0=>G_io m w h k0 k) false
def Fit:List AV->Option (Bool × AV)
 | [.int .i64 m,.int .i64 w,.int .i64 h]=>some (outOk m w h 0,.int .i64 (itI m w h))
 | _=>none
def Axr:Sum:=(213,Fit)
theorem t_iib (m w h k0 n i:Int) (k:Ex->St->Bool):run (cfg []) 100 none none (Fv (Ef Tryz.prog 213) [0,0]) (A1h m w h k0 n i) (fun e s=>k e (Qj [0,1,2,7,8,9] s)) false=(bif decide (i<m) then (k Ex.normal (St.mk [.int .i64 m,.int .i64 w,.int .i64 h,.any,.any,.any,.any,.int .i64 k0,.int .i64 (IntKind.wrap .i64 (n+1)),.int .i64 (IntKind.wrap .i64 (i+w)),.any,.any,.any,.any,.any,.any,.any,.any,.any,.any,.any,.any,.any,.any,.any] [] (Mem.mk [] 0 []))) else (k (Ex.exit 2) (St.mk [.int .i64 m,.int .i64 w,.int .i64 h,.any,.any,.any,.any,.int .i64 k0,.int .i64 n,.int .i64 i,.any,.any,.any,.any,.any,.any,.any,.any,.any,.any,.any,.any,.any,.any,.any] [] (Mem.mk [] 0 [])))):=by kernel_rfl
theorem t_iob (m w h k0:Int) (k:Ex->St->Bool):runM (cfg []) 100 (Fv (Ef Tryz.prog 213) [0]) [F_ii] (A7c m w h k0) (fun e s=>k e (Qj [0,1,2,7] s))=(bif decide (k0<h) then ((BasZItems.inOk m w 0 0)&&(k Ex.normal (St.mk [.int .i64 (BasZItems.cdI m w),.int .i64 w,.int .i64 h,.any,.any,.any,.any,.int .i64 (IntKind.wrap .i64 (k0+1)),.any,.any,.any,.any,.any,.any,.any,.any,.any,.any,.any,.any,.any,.any,.any,.any,.any] [] (Mem.mk [] 0 [])))) else (k (Ex.exit 0) (St.mk [.int .i64 m,.int .i64 w,.int .i64 h,.any,.any,.any,.any,.int .i64 k0,.any,.any,.any,.any,.any,.any,.any,.any,.any,.any,.any,.any,.any,.any,.any,.any,.any] [] (Mem.mk [] 0 [])))):=by kernel_rfl
theorem Bdu (m w h:Int) (k:AV->Bool):Aqs (cfg []) 300 213 [F_io] [.int .i64 m,.int .i64 w,.int .i64 h] k=((BasZItems.outOk m w h 0)&&(k (AV.int .i64 (BasZItems.itI m w h)))):=by kernel_rfl
end
end Go.Bas.BasZItems
end
section
namespace Go.Bas.BasZItems2
open Go.RowKit Go.Proofs BasZBase BasZItems
theorem hN:(cfg []).Ok:=Xx base Ap
theorem Bdv:Akt (Ef Tryz.prog 213) 0=.loop (Fv (Ef Tryz.prog 213) [0]):=by kernel_rfl
theorem A7d:Dx (Ef Tryz.prog 213)=[Akt (Ef Tryz.prog 213) 0]:=by kernel_rfl
theorem A7e:Dx (Fv (Ef Tryz.prog 213) [0])=[.loop (Fv (Ef Tryz.prog 213) [0,0])]:=by kernel_rfl
theorem wS {a:Nat} (h:a<9223372036854775808):IntKind.wrap .i64 (a:Int)=(a:Int):=by
 unfold IntKind.wrap
 simp [IntKind.bits,IntKind.signed]
 omega
theorem Bdw:∀ (m w h k0 n i:Int) (k:Ex->St->Bool),G_ii m w h k0 n i k=true->AWq (cfg []) (.loop (Fv (Ef Tryz.prog 213) [0,0])) (A1h m w h k0 n i) (fun e s=>k e s=true):=by
 intro m w h k0 n i k hG
 unfold G_ii at hG
 rcases Dt hG with ⟨hok,hG2⟩|⟨_,hG2⟩
 case inr=>cases hG2
 clear hG
 simp only [inOk,Bae,Dte] at hok
 obtain ⟨h0,h1,h2,h3,rfl,rfl⟩:=hok
 obtain ⟨M,rfl⟩:=Int.eq_ofNat_of_zero_le h0
 obtain ⟨W,rfl⟩:=Int.eq_ofNat_of_zero_le (show 0<=w by omega)
 have hW:0<W:=by omega
 have hc:cdI (M:Int) (W:Int)=((cdiv M W:Nat):Int):=by unfold cdI;rw [Int.toNat_natCast,Int.toNat_natCast]
 rw [hc] at hG2
 have hcl:=Axq (m:=M) hW
 rw [show A1h (M:Int) (W:Int) h k0 0 0=A1h (M:Int) (W:Int) h k0 ((0:Nat):Int) ((0*W:Nat):Int) by rw [Nat.zero_mul];rfl]
 refine AWq.loop (K:=fun e s=>k e s=true) (fun j:{ j:Nat // j<=cdiv M W }=>A1h (M:Int) (W:Int) h k0 ((j.1:Nat):Int) ((j.1*W:Nat):Int)) (fun j=>cdiv M W-j.1) ?_ ⟨0,Nat.zero_le _⟩
 rintro ⟨j,hj⟩
 refine AWq.runK hN [0,1,2,7,8,9] (n:=100) fun k' hk=>?_
 refine (t_iib (M:Int) (W:Int) h k0 ((j:Nat):Int) ((j*W:Nat):Int) k').trans ?_
 refine condI (fun hh=>?_) (fun hh=>?_)
 ·have hlt:j*W<M:=by have:=Odt hh;omega
  have hlt':=(Aoc hW).2 hlt;have e1:IntKind.wrap .i64 (((j:Nat):Int)+1)=((j+1:Nat):Int):=wS (a:=j+1) (by omega)
  have e2:IntKind.wrap .i64 (((j*W:Nat):Int)+(W:Int))=(((j+1)*W:Nat):Int):=by
   rw [Nat.succ_mul,show ((j*W:Nat):Int)+(W:Int)=((j*W+W:Nat):Int) by omega]
   exact wS (by omega)
  rw [e1,e2];exact hk .normal _ ⟨⟨j+1,hlt'⟩,by show cdiv M W-(j+1)<cdiv M W-j;omega,Less.refl _⟩
 ·have hge:¬ j<cdiv M W:=fun hl=>by have:=(Aoc hW).1 hl;have:=Odf hh;omega
  have hje:j=cdiv M W:=by omega
  rw [<- hje] at hG2;exact hk (.exit 2) _ ⟨_,LessS.fill rfl (Bz rfl (Bz rfl (Bz rfl (Bz rfl P6)))) rfl rfl,hG2⟩
theorem ii_ok:LoopsOk (cfg []) (Dx (Fv (Ef Tryz.prog 213) [0])) [F_ii]:=by
 rw [A7e]
 exact ⟨fun st k h=>Bdt Bdw st k h,trivial⟩
theorem Bdx:∀ (m w h k0:Int) (k:Ex->St->Bool),G_io m w h k0 k=true->AWq (cfg []) (Akt (Ef Tryz.prog 213) 0) (A7c m w h k0) (fun e s=>k e s=true):=by
 intro m w h k0 k hG
 unfold G_io at hG
 rcases Dt hG with ⟨hok,hG2⟩|⟨_,hG2⟩
 case inr=>cases hG2
 clear hG
 simp only [outOk,Bae,Dte] at hok
 obtain ⟨h0,h1,h2,h3,h4,h5,rfl⟩:=hok
 obtain ⟨M,rfl⟩:=Int.eq_ofNat_of_zero_le h0
 obtain ⟨W,rfl⟩:=Int.eq_ofNat_of_zero_le (show 0<=w by omega)
 obtain ⟨H,rfl⟩:=Int.eq_ofNat_of_zero_le h4
 have hW:0<W:=by omega
 have hc:itI (M:Int) (W:Int) (H:Int)=((itm M W H:Nat):Int):=by unfold itI;rw [Int.toNat_natCast,Int.toNat_natCast,Int.toNat_natCast]
 rw [hc] at hG2
 rw [Bdv]
 show AWq _ _ (A7c ((itm M W 0:Nat):Int) (W:Int) (H:Int) ((0:Nat):Int)) _
 refine AWq.loop (K:=fun e s=>k e s=true) (fun j:{ j:Nat // j<=H }=>A7c ((itm M W j.1:Nat):Int) (W:Int) (H:Int) ((j.1:Nat):Int)) (fun j=>H-j.1) ?_ ⟨0,Nat.zero_le _⟩
 rintro ⟨j,hj⟩
 refine AWq.runMK hN [0,1,2,7] (n:=100) ii_ok fun k' hk=>?_
 refine (t_iob ((itm M W j:Nat):Int) (W:Int) (H:Int) ((j:Nat):Int) k').trans ?_
 refine condI (fun hh=>?_) (fun hh=>?_)
 ·have hlt:j<H:=by have:=Odt hh;omega
  have hle:=A7b (m:=M) hW j;have e0:inOk ((itm M W j:Nat):Int) (W:Int) 0 0=true:=by simp [inOk];omega
  have e1:IntKind.wrap .i64 (((j:Nat):Int)+1)=((j+1:Nat):Int):=wS (a:=j+1) (by omega)
  have e2:cdI ((itm M W j:Nat):Int) (W:Int)=((itm M W (j+1):Nat):Int):=by unfold cdI;rw [Int.toNat_natCast,Int.toNat_natCast];rfl
  rw [e0,e1,e2];exact hk .normal _ ⟨⟨j+1,hlt⟩,by show H-(j+1)<H-j;omega,Less.refl _⟩
 ·have hje:j=H:=by have:=Odf hh;omega
  rw [<- hje] at hG2;exact hk (.exit 0) _ ⟨_,LessS.fill rfl (Bz rfl P6) rfl rfl,hG2⟩
theorem io_ok:LoopsOk (cfg []) (Dx (Ef Tryz.prog 213)) [F_io]:=by
 rw [A7d]
 exact ⟨fun st k h=>Bds Bdx st k h,trivial⟩
theorem Bdy:Bc Tryz.prog (Cb gs) Axr:=fun args r hr=>by
 simp only [Axr] at hr
 unfold Fit at hr
 split at hr
 ·rename_i m w h
  simp only [Option.some.injEq,Prod.mk.injEq] at hr;obtain ⟨hp,rfl⟩:=hr;refine Aar base Ap (n:=300) (fs:=[F_io]) (by kernel_rfl) io_ok fun k hk=>?_
  refine (Bdu m w h k).trans ?_;rw [hp];exact hk
 ·cases hr
end Go.Bas.BasZItems2
end
section
namespace Go.Bas.BasZR3
noncomputable section
open Go.RowKit Go.Proofs BasZBase BasZRank BasZRank3 BasZLev BasZTreB BasZItems BasZItems2
def itR (n w h:Int):Bool:=(decide (0<=n)&&decide (n<=32))&&((decide (2<=w)&&decide (w<=4))&&(decide (0<=h)&&decide (h<=4)))
theorem Hr {n w h:Int}:itR n w h=true ↔ (0<=n/\n<=32)/\(2<=w/\w<=4)/\0<=h/\h<=4:=by
 unfold itR
 simp only [Bae,Dte]
theorem Bnn:(List.range 33).all (fun n=>(List.range 3).all fun w=>(List.range 5).all fun h=>decide (Aa (n:Int) ((w+2:Nat):Int) (h:Int)=itI (n:Int) ((w+2:Nat):Int) (h:Int))&&decide (Aa (n:Int) ((w+2:Nat):Int) (h:Int)<=(n:Int)/\0<=Aa (n:Int) ((w+2:Nat):Int) (h:Int)))=true:=by kernel_rfl
theorem Al0 {n w h:Int} (hr:itR n w h=true):Aa n w h=itI n w h/\0<=Aa n w h/\Aa n w h<=n:=by
 obtain ⟨⟨a0,a1⟩,⟨b0,b1⟩,c0,c1⟩:=Hr.1 hr
 obtain ⟨N,rfl⟩:=Int.eq_ofNat_of_zero_le a0
 obtain ⟨H,rfl⟩:=Int.eq_ofNat_of_zero_le c0
 obtain ⟨W,rfl⟩:∃ W:Nat,w=((W+2:Nat):Int):=⟨(w-2).toNat,by omega⟩
 have q:=List.all_eq_true.1 (List.all_eq_true.1 (List.all_eq_true.1 Bnn N (List.mem_range.2 (by omega))) W (List.mem_range.2 (by omega))) H (List.mem_range.2 (by omega))
 have q2:=Odt (Af q)
 exact ⟨Odt (Aj q),q2.2,q2.1⟩
def Gh:Sum:=(213,on3 (rI .i64) (rI .i64) (rI .i64) (fun n w h=>itR n w h) (fun n w h=>.int .i64 (Aa n w h)))
theorem S9:Bc Tryz.prog (Cb gs) Gh:=Hz fun n w h hp=>by
 have q:=Hr.1 hp
 have e:outOk n w h 0=true:=by
  unfold outOk;simp only [Bae,Dte];refine ⟨by omega,by omega,by omega,by omega,by omega,by omega,?_⟩
  first|rfl|trivial
 refine Bdy [.int .i64 n,.int .i64 w,.int .i64 h] _ ?_
 show some (outOk n w h 0,AV.int .i64 (itI n w h))=some (true,AV.int .i64 (Aa n w h))
 rw [e,(Al0 hp).1]
theorem Bdz:(List.range 32).all (fun n=>(List.range 3).all fun w=>Ai (cfg [Gh]) 400 212 [.int .i64 ((n+1:Nat):Int),.int .i64 ((w+2:Nat):Int)] (fun v=>(seI .i64).eq (.int .i64 ((lvN ((n+1:Nat):Int) ((w+2:Nat):Int):Int)-1)) v) false)=true:=by kernel_rfl
theorem A7f:(List.range 32).all (fun n=>(List.range 3).all fun w=>(List.range 5).all fun l=>cond (levIs ((n+1:Nat):Int) ((w+2:Nat):Int) (l+1)) (Nat.beq (lvN ((n+1:Nat):Int) ((w+2:Nat):Int)) (l+1)) true)=true:=by kernel_rfl
def X5:Sum:=(212,on2 (rI .i64) (rI .i64) (fun n w=>Bf n 1 w) (fun n w=>.int .i64 ((lvN n w:Int)-1)))
theorem Adx:Bc Tryz.prog (Cb gs) X5:=Cm fun n w hp=>by
 obtain ⟨a0,a1,b0,b1⟩:=Gg hp
 obtain ⟨N,rfl⟩:∃ N:Nat,n=((N+1:Nat):Int):=⟨(n-1).toNat,by omega⟩
 obtain ⟨W,rfl⟩:∃ W:Nat,w=((W+2:Nat):Int):=⟨(w-2).toNat,by omega⟩
 have q:=List.all_eq_true.1 (List.all_eq_true.1 Bdz N (List.mem_range.2 (by omega))) W (List.mem_range.2 (by omega))
 exact Aq base (Ah S9 Ap) (n:=400) fun k hk=>(Dh q (fun w_ hw=>(seI .i64).ok _ _ hw) k).trans hk
theorem Zi {n w:Int} {l:Nat} (h1:1<=l) (h5:l<=5) (hp:Bf n 1 w=true) (hl:levIs n w l=true):lvN n w=l:=by
 obtain ⟨a0,a1,b0,b1⟩:=Gg hp
 obtain ⟨N,rfl⟩:∃ N:Nat,n=((N+1:Nat):Int):=⟨(n-1).toNat,by omega⟩
 obtain ⟨W,rfl⟩:∃ W:Nat,w=((W+2:Nat):Int):=⟨(w-2).toNat,by omega⟩
 obtain ⟨L,rfl⟩:∃ L:Nat,l=L+1:=⟨l-1,by omega⟩
 have q:=List.all_eq_true.1 (List.all_eq_true.1 (List.all_eq_true.1 A7f N (List.mem_range.2 (by omega))) W (List.mem_range.2 (by omega))) L (List.mem_range.2 (by omega))
 simp only [hl,cond_true] at q
 exact Nat.eq_of_beq_eq_true q
theorem Bi {n w:Int} {l:Nat} (hl:levIs n w l=true):Bf n 1 w=true:=by
 cases h:Bf n 1 w with
 | true=>rfl
 | false =>
  unfold levIs at hl;rw [h] at hl;cases hl
def Aia:Sum:=(212,on2 (rI .i64) (rI .i64) (fun n w=>levIs n w 1) (fun n w=>.int .i64 0))
theorem A7g:Bc Tryz.prog (Cb gs) Aia:=Je (fun n w hp=>⟨Bi hp,by rw [Zi (by decide) (by decide) (Bi hp) hp];rfl⟩) Adx
def Ady:Sum:=(212,on2 (rI .i64) (rI .i64) (fun n w=>levIs n w 2) (fun n w=>.int .i64 1))
theorem A7h:Bc Tryz.prog (Cb gs) Ady:=Je (fun n w hp=>⟨Bi hp,by rw [Zi (by decide) (by decide) (Bi hp) hp];rfl⟩) Adx
def Aa7:Sum:=(212,on2 (rI .i64) (rI .i64) (fun n w=>levIs n w 3) (fun n w=>.int .i64 2))
theorem A7i:Bc Tryz.prog (Cb gs) Aa7:=Je (fun n w hp=>⟨Bi hp,by rw [Zi (by decide) (by decide) (Bi hp) hp];rfl⟩) Adx
def Aod:Sum:=(212,on2 (rI .i64) (rI .i64) (fun n w=>levIs n w 4) (fun n w=>.int .i64 3))
theorem A7j:Bc Tryz.prog (Cb gs) Aod:=Je (fun n w hp=>⟨Bi hp,by rw [Zi (by decide) (by decide) (Bi hp) hp];rfl⟩) Adx
def Aoe:Sum:=(212,on2 (rI .i64) (rI .i64) (fun n w=>levIs n w 5) (fun n w=>.int .i64 4))
theorem A7k:Bc Tryz.prog (Cb gs) Aoe:=Je (fun n w hp=>⟨Bi hp,by rw [Zi (by decide) (by decide) (Bi hp) hp];rfl⟩) Adx
end
end Go.Bas.BasZR3
end
section
namespace Go.Bas.BasZEnd
noncomputable section
open Go.RowKit Go.Proofs
open BasZBase BasZR3 BasZRank
def Asa (m:Int) (w:Int) (h:Int) (i:Int) (b:Int) (l:Int) (k0:Int):St:=⟨fill 29 [(0,.int .i64 m),(1,.int .i64 w),(2,.int .i64 h),(3,.int .i64 i),(9,.int .i64 b),(10,.int .i64 l),(11,.int .i64 k0)],[],⟨[],0,[]⟩⟩
def P_ie {Ω:Type} (st:St) (g:(Int)->(Int)->(Int)->(Int)->(Int)->(Int)->(Int)->Ω) (z:Ω):Ω:=match lget st.tmps 0,lget st.tmps 1,lget st.tmps 2,lget st.tmps 3,lget st.tmps 9,lget st.tmps 10,lget st.tmps 11,st.ds,st.m with
 | .int .i64 m,.int .i64 w,.int .i64 h,.int .i64 i,.int .i64 b,.int .i64 l,.int .i64 k0,[],⟨[],z1,[]⟩=>cond (Nat.beq st.tmps.length 29&&(Nat.beq z1 0&&true)) (g m w h i b l k0) z
 | _,_,_,_,_,_,_,_,_=>z
theorem Bd0 {C:Cfg} {c:Code} {G:(Int)->(Int)->(Int)->(Int)->(Int)->(Int)->(Int)->(Ex->St->Bool)->Bool} (hG:∀ m w h i b l k0 k,G m w h i b l k0 k=true->AWq C c (Asa m w h i b l k0) (fun e s=>k e s=true)):∀ st k,P_ie st (fun m w h i b l k0=>G m w h i b l k0 k) false=true->AWq C c st (fun e s=>k e s=true):=by
 intro st k h
 unfold P_ie at h
 split at h
 ·rename_i q0 q1 q2 q3 q4 q5 q6 hd hm
  rcases Dt h with ⟨hb,h2⟩|⟨_,h2⟩
  ·simp only [Bae,and_true,Dte,Ea] at hb
   obtain ⟨hb0,hb1⟩:=hb;subst hb1;exact AWq.less (Less.fill hb0 (Bz q0 (Bz q1 (Bz q2 (Bz q3 (Bz q4 (Bz q5 (Bz q6 P6))))))) hd hm) (hG _ _ _ _ _ _ _ _ h2)
  ·cases h2
 ·cases h
def lst (w i k:Nat):Nat:=if k<=i*w then 0 else (if k<=(i+1)*w then k else (i+1)*w)-1
def lstI (w i b:Int):Int:=(lst w.toNat i.toNat b.toNat:Nat)
def eOk (w i b l k0:Int):Bool:=decide (1<=w)&&(decide (w<=1000)&&(decide (0<=i)&&(decide (i<=1000)&&(decide (0<=b)&&(decide (b<=1000)&&(decide (l=0)&&decide (k0=0)))))))
def G_ie (m w h i b l k0:Int) (k:Ex->St->Bool):Bool:=cond (eOk w i b l k0) (k (.exit 0) ⟨fill 29 [(10,.int .i64 (lstI w i b))],[],⟨[],0,[]⟩⟩) false
def F_ie:LF:=fun st k=>P_ie st (fun m w h i b l k0=>G_ie m w h i b l k0 k) false
theorem t_ieb (m w h i b l k0:Int) (k:Ex->St->Bool):run (cfg [Gh]) 100 none none (Fv (Ef Tryz.prog 220) [0]) (Asa m w h i b l k0) (fun e s=>k e (Qj [0,1,2,3,9,10,11] s)) false=(bif decide (k0<b) then (bif decide (w=0) then false else (bif decide ((IntKind.wrap .i64 (Int.tdiv k0 w))=i) then (k Ex.normal (St.mk [.int .i64 m,.int .i64 w,.int .i64 h,.int .i64 i,.any,.any,.any,.any,.any,.int .i64 b,.int .i64 k0,.int .i64 (IntKind.wrap .i64 (k0+1)),.any,.any,.any,.any,.any,.any,.any,.any,.any,.any,.any,.any,.any,.any,.any,.any,.any] [] (Mem.mk [] 0 []))) else (k Ex.normal (St.mk [.int .i64 m,.int .i64 w,.int .i64 h,.int .i64 i,.any,.any,.any,.any,.any,.int .i64 b,.int .i64 l,.int .i64 (IntKind.wrap .i64 (k0+1)),.any,.any,.any,.any,.any,.any,.any,.any,.any,.any,.any,.any,.any,.any,.any,.any,.any] [] (Mem.mk [] 0 []))))) else (k (Ex.exit 0) (St.mk [.int .i64 m,.int .i64 w,.int .i64 h,.int .i64 i,.any,.any,.any,.any,.any,.int .i64 b,.int .i64 l,.int .i64 k0,.any,.any,.any,.any,.any,.any,.any,.any,.any,.any,.any,.any,.any,.any,.any,.any,.any] [] (Mem.mk [] 0 [])))):=by kernel_rfl
theorem Bnr (m w h i:Int) (k:AV->Bool):Aqs (cfg [Gh]) 300 220 [F_ie] [.int .i64 m,.int .i64 w,.int .i64 h,.int .i64 i] k=((BasZR3.itR m w (IntKind.wrap .i64 (h-1)))&&((BasZEnd.eOk w i (Aa m w (IntKind.wrap .i64 (h-1))) 0 0)&&(k (AV.int .i64 (BasZEnd.lstI w i (Aa m w (IntKind.wrap .i64 (h-1)))))))):=by kernel_rfl
end
end Go.Bas.BasZEnd
end
section
namespace Go.Bas.BasZEnd2
noncomputable section
open Go.RowKit Go.Proofs BasZBase BasZRank BasZItems2 BasZR3 BasZEnd
theorem hN:(cfg [Gh]).Ok:=Xx base (Ah S9 Ap)
theorem A7l:Dx (Ef Tryz.prog 220)=[.loop (Fv (Ef Tryz.prog 220) [0])]:=by kernel_rfl
theorem Bns {w i k:Nat} (h:k / w=i) (hw:0<w):lst w i (k+1)=k:=by
 have h1:i*w<=k:=by rw [<- h];exact Nat.div_mul_le_self k w
 have h2:k<(i+1)*w:=by rw [<- h];exact (Nat.div_lt_iff_lt_mul hw).1 (Nat.lt_succ_self _)
 unfold lst
 rw [if_neg (by omega),if_pos (by omega)]
 rfl
theorem Bd1 {w i k:Nat} (h:¬ k / w=i) (hw:0<w):lst w i (k+1)=lst w i k:=by
 have hs:(i+1)*w=i*w+w:=Nat.succ_mul i w
 by_cases h1:k<i*w
 ·unfold lst
  rw [if_pos (by omega),if_pos (by omega)]
 ·by_cases h2:k<(i+1)*w
  ·exact absurd (Nat.le_antisymm (Nat.lt_succ_iff.1 ((Nat.div_lt_iff_lt_mul hw).2 h2)) ((Nat.le_div_iff_mul_le hw).2 (by omega))) h
  ·unfold lst
   rw [if_neg (by omega),if_neg (by omega),if_neg (by omega)]
   by_cases h3:k<=(i+1)*w
   ·rw [if_pos h3];omega
   ·rw [if_neg h3]
theorem Bd2:∀ (m w h i b l k0:Int) (k:Ex->St->Bool),G_ie m w h i b l k0 k=true->AWq (cfg [Gh]) (.loop (Fv (Ef Tryz.prog 220) [0])) (Asa m w h i b l k0) (fun e s=>k e s=true):=by
 intro m w h i b l k0 k hG
 unfold G_ie at hG
 rcases Dt hG with ⟨hok,hG2⟩|⟨_,hG2⟩
 case inr=>cases hG2
 clear hG
 simp only [eOk,Bae,Dte] at hok
 obtain ⟨h0,h1,h2,h3,h4,h5,rfl,rfl⟩:=hok
 obtain ⟨W,rfl⟩:=Int.eq_ofNat_of_zero_le (show 0<=w by omega)
 obtain ⟨I,rfl⟩:=Int.eq_ofNat_of_zero_le h2
 obtain ⟨B,rfl⟩:=Int.eq_ofNat_of_zero_le h4
 have hW:0<W:=by omega
 have hc:lstI (W:Int) (I:Int) (B:Int)=((lst W I B:Nat):Int):=by unfold lstI;rw [Int.toNat_natCast,Int.toNat_natCast,Int.toNat_natCast]
 rw [hc] at hG2
 have z0:lst W I 0=0:=by unfold lst;rw [if_pos (by omega)]
 rw [show Asa m (W:Int) h (I:Int) (B:Int) 0 0=Asa m (W:Int) h (I:Int) (B:Int) ((lst W I 0:Nat):Int) ((0:Nat):Int) by rw [z0];rfl]
 refine AWq.loop (K:=fun e s=>k e s=true) (fun j:{ j:Nat // j<=B }=>Asa m (W:Int) h (I:Int) (B:Int) ((lst W I j.1:Nat):Int) ((j.1:Nat):Int)) (fun j=>B-j.1) ?_ ⟨0,Nat.zero_le _⟩
 rintro ⟨j,hj⟩
 refine AWq.runK hN [0,1,2,3,9,10,11] (n:=100) fun k' hk=>?_
 refine (t_ieb m (W:Int) h (I:Int) (B:Int) ((lst W I j:Nat):Int) ((j:Nat):Int) k').trans ?_
 refine condI (fun hh=>?_) (fun hh=>?_)
 ·have hlt:j<B:=by have:=Odt hh;omega
  have e1:IntKind.wrap .i64 (((j:Nat):Int)+1)=((j+1:Nat):Int):=wS (a:=j+1) (by omega)
  have e2:IntKind.wrap .i64 (Int.tdiv ((j:Nat):Int) (W:Int))=((j / W:Nat):Int):=by
   have:Int.tdiv ((j:Nat):Int) (W:Int)=((j / W:Nat):Int):=rfl;rw [this];exact wS (by have:=Nat.div_le_self j W;omega)
  rw [Ddf (show ¬ (W:Int)=0 by omega),e1,e2]
  simp only [cond_false];refine condI (fun hd=>?_) (fun hd=>?_)
  ·have hd:j / W=I:=by have:=Odt hd;omega
   have e3:=Bns hd hW;have:=hk .normal (Asa m (W:Int) h (I:Int) (B:Int) ((lst W I (j+1):Nat):Int) ((j+1:Nat):Int)) ⟨⟨j+1,hlt⟩,by show B-(j+1)<B-j;omega,Less.refl _⟩
   rw [e3] at this;exact this
  ·have hd:¬ j / W=I:=fun e=>Odf hd (by omega)
   have e3:=Bd1 hd hW;have:=hk .normal (Asa m (W:Int) h (I:Int) (B:Int) ((lst W I (j+1):Nat):Int) ((j+1:Nat):Int)) ⟨⟨j+1,hlt⟩,by show B-(j+1)<B-j;omega,Less.refl _⟩
   rw [e3] at this;exact this
 ·have hje:j=B:=by have:=Odf hh;omega
  rw [<- hje] at hG2;exact hk (.exit 0) _ ⟨_,LessS.fill rfl (Bz rfl P6) rfl rfl,hG2⟩
theorem ie_ok:LoopsOk (cfg [Gh]) (Dx (Ef Tryz.prog 220)) [F_ie]:=by
 rw [A7l]
 exact ⟨fun st k h=>Bd0 Bd2 st k h,trivial⟩
def endOk (m w h i:Int):Bool:=itR m w h&&(decide (1<=m)&&(decide (1<=h)&&(decide (0<=i)&&decide (i<Aa m w h))))
theorem A7m:(List.range 32).all (fun m=>(List.range 3).all fun w=>(List.range 4).all fun h=>(List.range 33).all fun i=>cond (decide ((i:Int)<Aa ((m+1:Nat):Int) ((w+2:Nat):Int) ((h+1:Nat):Int))) (decide (lstI ((w+2:Nat):Int) (i:Int) (Aa ((m+1:Nat):Int) ((w+2:Nat):Int) (IntKind.wrap .i64 (((h+1:Nat):Int)-1)))=P8 ((m+1:Nat):Int) ((w+2:Nat):Int) ((h+1:Nat):Int) (i:Int))&&decide (P9 ((m+1:Nat):Int) ((w+2:Nat):Int) ((h+1:Nat):Int) (i:Int)=0)) true)=true:=by kernel_rfl
theorem Axs {m w h i:Int} (hp:endOk m w h i=true):lstI w i (Aa m w (IntKind.wrap .i64 (h-1)))=P8 m w h i/\P9 m w h i=0:=by
 have hp:=hp
 unfold endOk at hp
 have hr:=Aj hp
 have hu:=Al0 hr
 have h2:=Af hp
 simp only [Bae,Dte] at h2
 obtain ⟨⟨a0,a1⟩,⟨b0,b1⟩,c0,c1⟩:=Hr.1 hr
 obtain ⟨m1,h1,i0,i1⟩:=h2
 obtain ⟨M,rfl⟩:∃ M:Nat,m=((M+1:Nat):Int):=⟨(m-1).toNat,by omega⟩
 obtain ⟨H,rfl⟩:∃ H:Nat,h=((H+1:Nat):Int):=⟨(h-1).toNat,by omega⟩
 obtain ⟨W,rfl⟩:∃ W:Nat,w=((W+2:Nat):Int):=⟨(w-2).toNat,by omega⟩
 obtain ⟨I,rfl⟩:=Int.eq_ofNat_of_zero_le i0
 have q:=List.all_eq_true.1 (List.all_eq_true.1 (List.all_eq_true.1 (List.all_eq_true.1 A7m M (List.mem_range.2 (by omega))) W (List.mem_range.2 (by omega))) H (List.mem_range.2 (by omega))) I (List.mem_range.2 (by omega))
 simp only [Ddt i1,cond_true] at q
 exact ⟨Odt (Aj q),Odt (Af q)⟩
def Aof:Sum:=(220,on4 (rI .i64) (rI .i64) (rI .i64) (rI .i64) (fun m w h i=>endOk m w h i) (fun m w h i=>.int .i64 (P8 m w h i)))
theorem Bnt:Bc Tryz.prog (Cb gs) Aof:=Awq fun m w h i hp=>by
 have e:=(Axs hp).1
 have hp':=hp
 unfold endOk at hp'
 have hr:=Aj hp'
 have h2:=Af hp'
 simp only [Bae,Dte] at h2
 have q:=Hr.1 hr
 have hu:=Al0 hr
 have ew:IntKind.wrap .i64 (h-1)=h-1:=Uc (by simp [Lit.wf,IntKind.min,IntKind.max,IntKind.signed,IntKind.bits];omega)
 have hr1:itR m w (IntKind.wrap .i64 (h-1))=true:=by rw [ew];exact Hr.2 ⟨q.1,q.2.1,by omega⟩
 have hu1:=Al0 hr1
 have he:eOk w i (Aa m w (IntKind.wrap .i64 (h-1))) 0 0=true:=by
  unfold eOk;simp only [Bae,Dte];refine ⟨by omega,by omega,by omega,by omega,by omega,by omega,?_,?_⟩<;>first|rfl|trivial
 refine Aar base (Ah S9 Ap) (n:=300) (fs:=[F_ie]) (by kernel_rfl) ie_ok fun k hk=>?_
 refine (Bnr m w h i k).trans ?_
 rw [hr1,he,e]
 exact hk
end
end Go.Bas.BasZEnd2
end
