/- Contracts by a run's outcome: the program of an index. -/
import Derived.Test.YtjepofcbkojibaaGreatDoorBasW6
set_option maxRecDepth 100000
set_option maxHeartbeats 4000000
set_option linter.unusedVariables false
set_option linter.unusedSimpArgs false
namespace Go.Bas.BasZTre
noncomputable section
open Go.RowKit Go.Proofs
open BasZBase BasZOp BasZRank BasZRank3 BasZOk BasZTreB
abbrev W9:=cfg []
theorem t_top (r:TRa) (k:AV->Bool):Ai W9 300 330 [(TRa.av r)] k false=k (.int .u8 (IntKind.wrap .u8 (IntKind.wrap .i64 (Int.ofNat r.m-1)))):=by kernel_rfl
def Wp:Sum:=(330,on1 Aq6 (fun r=>Ey r.us r.m) (fun r=>.int .u8 (Int.ofNat r.m-1)))
theorem Bnu {m:Nat} (h:1<=m/\m<=5):IntKind.wrap .u8 (IntKind.wrap .i64 (Int.ofNat m-1))=Int.ofNat m-1:=by
 rcases (show m=1\/m=2\/m=3\/m=4\/m=5 by omega) with rfl|rfl|rfl|rfl|rfl<;>rfl
theorem s_top:Bc Tryz.prog (Cb gs) Wp:=Fg fun r hp=>Aq base Ap (n:=300) fun k hk=>(t_top r k).trans (by rw [Bnu (Ahj hp)];exact hk)
theorem Bnv (r:TRa) (n h:Int) (k:AV->Bool):Ai (cfg [Bih]) 300 314 [(TRa.av r),.int .u8 n,.int .u8 h] k false=k (.int .i64 (Dz (IntKind.wrap .i64 n) r.c.node (IntKind.wrap .i64 h))):=by kernel_rfl
def J6:Sum:=(314,on3 Aq6 (rI .u8) (rI .u8) (fun _ _ _=>true) (fun r n h=>.int .i64 (Dz (IntKind.wrap .i64 n) r.c.node (IntKind.wrap .i64 h))))
theorem A7n:Bc Tryz.prog (Cb gs) J6:=Hz fun r n h _=>Aq base (Ah s_cnt Ap) (n:=300) fun k hk=>(Bnv r n h k).trans hk
def A7o (us:List AV) (k:Nat):Int:=Nat.rec (motive:=fun _=>Int) 1 (fun k r=>IntKind.wrap .i64 (r+(lget us k).toI)) k
abbrev Js (i:Int):=decide (i<0)
def Et (us:List AV) (m:Nat) (h i:Int):Tr:=.br (decide (h>=Int.ofNat m)) (.leaf [.int .i64 (-1)]) (.br (Js i) (.leaf [.int .i64 (-1)]) (.br (decide (i>=(lget us h.toNat).toI)) (.leaf [.int .i64 (-1)]) (.leaf [.int .i64 (IntKind.wrap .i64 (A7o us h.toNat+i))])))
def offT (us:List AV) (m:Nat) (h i:Int):Int:=(Et us m h i).int 0
theorem U6 (us:List AV) (m:Nat) (h i:Int):(Et us m h i).fits [.i .i64]=true:=by
 unfold Et;try simp only [Js]
 cases decide (h>=Int.ofNat m)<;>cases decide (i<0)<;>cases decide (i>=(lget us h.toNat).toI)<;>rfl
theorem Zj (us:List AV) (m:Nat) (h i:Int):(Et us m h i).ok=true:=by
 unfold Et;try simp only [Js]
 cases decide (h>=Int.ofNat m)<;>cases decide (i<0)<;>cases decide (i>=(lget us h.toNat).toI)<;>rfl
theorem G6 {a b:Bool} (h:a=true) (h':b=true):(a&&b)=true:=by rw [h,h'];rfl
def qOk (m:Nat) (q:Int):Bool:=decide (0<=q)&&(decide (q<(m:Int)) || decide (q=255))
theorem Bnw {m:Nat} {q:Int} (h:qOk m q=true):0<=q/\q<(m:Int)\/q=255:=by
 unfold qOk at h
 simp only [Bae,Bool.or_eq_true,Dte] at h
 omega
theorem Adz {m:Nat} {q:Int} (h0:0<=q) (h1:q<(m:Int)):qOk m q=true:=by
 unfold qOk
 rw [Ddt h0,Ddt h1]
 rfl
theorem A7p {m:Nat} {q:Int} (h0:0<=q) (h1:q<(m:Int)) (h5:m<=5):qOk m (IntKind.wrap .u8 (q-1))=true:=by
 unfold qOk
 simp only [Bae,Bool.or_eq_true,Dte,IntKind.wrap,IntKind.signed,IntKind.bits]
 rcases (show q=0\/1<=q by omega) with rfl|h
 ·exact ⟨by decide,.inr (by decide)⟩
 ·constructor<;>(try simp)<;>omega
theorem J7 {x:Int} {m:Nat} (h:decide (x>Int.ofNat m-1)=false):decide (x<(m:Int))=true:=Ddt (by have:=Odf h;show x<(m:Int);have e:(Int.ofNat m:Int)=(m:Int):=rfl;rw [e] at this;omega)
theorem Dj {x:Int} {us:List AV} {m:Nat} (hv:Ey us m=true) (h0:decide (0<=x)=true) (h:decide (x>Int.ofNat m-1)=false):(Ey us m&&(decide (0<=x)&&decide (x<(m:Int))))=true:=by rw [hv,h0,J7 h];rfl
def sp_has:Sp:=sB
def Aog (r:TRa):AV:=Wv (cfg []) 300 329 [(TRa.av r)]
def G7 (r:TRa):Bool:=AV.toB (Aog r)
def Bjm (r:TRa):AV:=.bool (G7 r)
def Wq:Sum:=(329,on1 Aq6 (fun r=>true) (fun r=>Bjm r))
theorem Bnx (r:TRa):sp_has.bd (Aog r)=Bjm r:=by kernel_rfl
theorem Bjn (r:TRa):Ai (cfg []) 300 329 [(TRa.av r)] (fun v=>sp_has.has v&&(bif v.toB then (bif inPc r.f.pc then (bif upK r.f.pc r.f.kind then true else false) else false) else true)) false=true:=Eq.trans (b:=(br (decide (r.1.4=0)) ((ba ((BasZTreB.inPc r.1.4)) ((ba ((BasZTreB.upK r.1.4 r.1.1)) true)))) ((br (decide (r.1.4=1)) ((ba ((BasZTreB.inPc r.1.4)) ((ba ((BasZTreB.upK r.1.4 r.1.1)) true)))) ((br (decide (r.1.4=3)) ((br (decide (r.1.1=7)) ((ba ((BasZTreB.inPc r.1.4)) ((ba ((BasZTreB.upK r.1.4 r.1.1)) true)))) true)) ((br (decide (r.1.4=4)) ((br (decide (r.1.1=4)) ((ba ((BasZTreB.inPc r.1.4)) ((ba ((BasZTreB.upK r.1.4 r.1.1)) true)))) true)) ((br (decide (r.1.4=5)) ((br (decide (r.1.1=4)) ((ba ((BasZTreB.inPc r.1.4)) ((ba ((BasZTreB.upK r.1.4 r.1.1)) true)))) true)) ((br (decide (r.1.4=6)) ((br (decide (r.1.1=4)) ((ba ((BasZTreB.inPc r.1.4)) ((ba ((BasZTreB.upK r.1.4 r.1.1)) true)))) true)) ((br (decide (r.1.4=7)) ((br (decide (r.1.1=4)) ((ba ((BasZTreB.inPc r.1.4)) ((ba ((BasZTreB.upK r.1.4 r.1.1)) true)))) true)) ((br (decide (r.1.4=22)) ((br (decide (r.1.1=4)) ((ba ((BasZTreB.inPc r.1.4)) ((ba ((BasZTreB.upK r.1.4 r.1.1)) true)))) true)) ((br (decide (r.1.4=24)) ((br (decide (r.1.1=4)) ((ba ((BasZTreB.inPc r.1.4)) ((ba ((BasZTreB.upK r.1.4 r.1.1)) true)))) true)) ((br (decide (r.1.4=8)) ((br (decide (r.1.1=4)) ((ba ((BasZTreB.inPc r.1.4)) ((ba ((BasZTreB.upK r.1.4 r.1.1)) true)))) ((br (decide (r.1.1=5)) ((ba ((BasZTreB.inPc r.1.4)) ((ba ((BasZTreB.upK r.1.4 r.1.1)) true)))) true)))) ((br (decide (r.1.4=9)) ((br (decide (r.1.1=4)) ((ba ((BasZTreB.inPc r.1.4)) ((ba ((BasZTreB.upK r.1.4 r.1.1)) true)))) ((br (decide (r.1.1=5)) ((ba ((BasZTreB.inPc r.1.4)) ((ba ((BasZTreB.upK r.1.4 r.1.1)) true)))) true)))) ((br (decide (r.1.4=11)) ((br (decide (r.1.1=4)) ((ba ((BasZTreB.inPc r.1.4)) ((ba ((BasZTreB.upK r.1.4 r.1.1)) true)))) ((br (decide (r.1.1=5)) ((ba ((BasZTreB.inPc r.1.4)) ((ba ((BasZTreB.upK r.1.4 r.1.1)) true)))) true)))) ((br (decide (r.1.4=12)) ((br (decide (r.1.1=5)) ((ba ((BasZTreB.inPc r.1.4)) ((ba ((BasZTreB.upK r.1.4 r.1.1)) true)))) true)) ((br (decide (r.1.4=13)) ((br (decide (r.1.1=5)) ((ba ((BasZTreB.inPc r.1.4)) ((ba ((BasZTreB.upK r.1.4 r.1.1)) true)))) true)) ((br (decide (r.1.4=14)) ((br (decide (r.1.1=5)) ((ba ((BasZTreB.inPc r.1.4)) ((ba ((BasZTreB.upK r.1.4 r.1.1)) true)))) true)) ((br (decide (r.1.4=15)) ((br (decide (r.1.1=5)) ((ba ((BasZTreB.inPc r.1.4)) ((ba ((BasZTreB.upK r.1.4 r.1.1)) true)))) true)) ((br (decide (r.1.4=25)) ((br (decide (r.1.1=5)) ((ba ((BasZTreB.inPc r.1.4)) ((ba ((BasZTreB.upK r.1.4 r.1.1)) true)))) true)) ((br (decide (r.1.4=16)) ((br (decide (r.1.1=8)) ((ba ((BasZTreB.inPc r.1.4)) ((ba ((BasZTreB.upK r.1.4 r.1.1)) true)))) true)) ((br (decide (r.1.4=17)) ((br (decide (r.1.1=8)) ((ba ((BasZTreB.inPc r.1.4)) ((ba ((BasZTreB.upK r.1.4 r.1.1)) true)))) true)) ((br (decide (r.1.4=20)) ((br (decide (r.1.1=7)) ((ba ((BasZTreB.inPc r.1.4)) ((ba ((BasZTreB.upK r.1.4 r.1.1)) true)))) ((br (decide (r.1.1=8)) ((ba ((BasZTreB.inPc r.1.4)) ((ba ((BasZTreB.upK r.1.4 r.1.1)) true)))) true)))) ((br (decide (r.1.4=21)) ((br (decide (r.1.1=6)) ((ba ((BasZTreB.inPc r.1.4)) ((ba ((BasZTreB.upK r.1.4 r.1.1)) true)))) ((br (decide (r.1.1=7)) ((ba ((BasZTreB.inPc r.1.4)) ((ba ((BasZTreB.upK r.1.4 r.1.1)) true)))) ((br (decide (r.1.1=5)) ((ba ((BasZTreB.inPc r.1.4)) ((ba ((BasZTreB.upK r.1.4 r.1.1)) true)))) true)))))) ((br (decide (r.1.4=23)) ((br (decide (r.1.1=6)) ((ba ((BasZTreB.inPc r.1.4)) ((ba ((BasZTreB.upK r.1.4 r.1.1)) true)))) ((br (decide (r.1.1=4)) ((ba ((BasZTreB.inPc r.1.4)) ((ba ((BasZTreB.upK r.1.4 r.1.1)) true)))) true)))) true)))))))))))))))))))))))))))))))))))))))))))) (by kernel_rfl) (by
 repeat' (first|rfl|refine bdt (fun h=>?_) (fun h=>?_)|refine band ?_ ?_)
 all_goals (first|assumption|(simp only [Dte,Dni] at *;simp_all [inPc,upK];done)))
theorem Bd3 (r:TRa) (h:true=true):Ai W9 300 329 [(TRa.av r)] sp_has.has false=true:=((I4 (Bjn r)).2 sp_has.has).trans (Aj (I4 (Bjn r)).1)
theorem s_has:Bc Tryz.prog (Cb gs) Wq:=Fg fun r hp=>(H9 base Ap (n:=300) sp_has (Bd3 r hp)).mono fun v_ hv_=>hv_.trans (Bnx r)
def Al1:Sum:=(311,on3 Aq6 (rI .u8) (rI .i64) (fun r q i=>(Ey r.us r.m&&qOk r.m q)) (fun r q i=>.int .i64 (offT r.us r.m q i)))
abbrev Ez (c:Conf) (f:Frm) (rk rv u0:Int) (told:Bool):TRa:=⟨f,c,[.int .i64 u0],nat_lit 1,rk,rv,told⟩
abbrev Arz:=true
abbrev zcv8 (i:Int):=IntKind.wrap .i64 (1+i)
theorem Bd4 (f:Frm) (c:Conf) (u0 rk rv:Int) (told:Bool) (i:Int):Ai W9 300 311 [(TRa.av (Ez c f rk rv u0 told)),.int .u8 0,.int .i64 i] (fun w_=>Tr.ev (Et (Ez c f rk rv u0 told).us (Ez c f rk rv u0 told).m (0) (i)) (fun l_=>(seI .i64).eq ((fun l_=>lget l_ 0) l_) w_) false) false=true:=Eq.trans (b:=(br (Js i) (br (Js i) Arz (br (decide (i>=u0)) Arz (ba (decide ((zcv8 i)=(-1))) Arz))) (br (decide (i>=u0)) (br (Js i) Arz (br (decide (i>=u0)) Arz (ba (decide ((zcv8 i)=(-1))) Arz))) (br (Js i) (ba (decide ((-1)=(zcv8 i))) Arz) (br (decide (i>=u0)) (ba (decide ((-1)=(zcv8 i))) Arz) (ba (decide ((zcv8 i)=(zcv8 i))) Arz)))))) (by kernel_rfl) (bdt (fun h_1=>(btb h_1 rfl)) (fun h_1=>(bdt (fun h_2=>(btf h_1 (btb h_2 rfl))) (fun h_2=>(btf h_1 (btf h_2 (band (Ddt rfl) rfl)))))))
abbrev Bu9 (c:Conf) (f:Frm) (rk rv u0 u1:Int) (told:Bool):TRa:=⟨f,c,[.int .i64 u0,.int .i64 u1],nat_lit 2,rk,rv,told⟩
theorem Bd5 (f:Frm) (c:Conf) (u0 u1 rk rv:Int) (told:Bool) (i:Int):Ai W9 300 311 [(TRa.av (Bu9 c f rk rv u0 u1 told)),.int .u8 0,.int .i64 i] (fun w_=>Tr.ev (Et (Bu9 c f rk rv u0 u1 told).us (Bu9 c f rk rv u0 u1 told).m (0) (i)) (fun l_=>(seI .i64).eq ((fun l_=>lget l_ 0) l_) w_) false) false=true:=Eq.trans (b:=(br (Js i) (br (Js i) Arz (br (decide (i>=u0)) Arz (ba (decide ((zcv8 i)=(-1))) Arz))) (br (decide (i>=u0)) (br (Js i) Arz (br (decide (i>=u0)) Arz (ba (decide ((zcv8 i)=(-1))) Arz))) (br (Js i) (ba (decide ((-1)=(zcv8 i))) Arz) (br (decide (i>=u0)) (ba (decide ((-1)=(zcv8 i))) Arz) (ba (decide ((zcv8 i)=(zcv8 i))) Arz)))))) (by kernel_rfl) (bdt (fun h_1=>(btb h_1 rfl)) (fun h_1=>(bdt (fun h_2=>(btf h_1 (btb h_2 rfl))) (fun h_2=>(btf h_1 (btf h_2 (band (Ddt rfl) rfl)))))))
abbrev Ank (i:Int) (u0:Int):=IntKind.wrap .i64 ((IntKind.wrap .i64 (1+u0))+i)
theorem Bd6 (f:Frm) (c:Conf) (u0 u1 rk rv:Int) (told:Bool) (i:Int):Ai W9 300 311 [(TRa.av (Bu9 c f rk rv u0 u1 told)),.int .u8 1,.int .i64 i] (fun w_=>Tr.ev (Et (Bu9 c f rk rv u0 u1 told).us (Bu9 c f rk rv u0 u1 told).m (1) (i)) (fun l_=>(seI .i64).eq ((fun l_=>lget l_ 0) l_) w_) false) false=true:=Eq.trans (b:=(br (Js i) (br (Js i) Arz (br (decide (i>=u1)) Arz (ba (decide ((Ank i u0)=(-1))) Arz))) (br (decide (i>=u1)) (br (Js i) Arz (br (decide (i>=u1)) Arz (ba (decide ((Ank i u0)=(-1))) Arz))) (br (Js i) (ba (decide ((-1)=(Ank i u0))) Arz) (br (decide (i>=u1)) (ba (decide ((-1)=(Ank i u0))) Arz) (ba (decide ((Ank i u0)=(Ank i u0))) Arz)))))) (by kernel_rfl) (bdt (fun h_1=>(btb h_1 rfl)) (fun h_1=>(bdt (fun h_2=>(btf h_1 (btb h_2 rfl))) (fun h_2=>(btf h_1 (btf h_2 (band (Ddt rfl) rfl)))))))
abbrev Btu (c:Conf) (f:Frm) (rk rv u0 u1 u2:Int) (told:Bool):TRa:=⟨f,c,[.int .i64 u0,.int .i64 u1,.int .i64 u2],nat_lit 3,rk,rv,told⟩
section
variable (f:Frm) (c:Conf) (u0 u1 u2 rk rv:Int) (told:Bool) (i:Int)
theorem Bd7:Ai W9 300 311 [(TRa.av (Btu c f rk rv u0 u1 u2 told)),.int .u8 0,.int .i64 i] (fun w_=>Tr.ev (Et (Btu c f rk rv u0 u1 u2 told).us (Btu c f rk rv u0 u1 u2 told).m (0) (i)) (fun l_=>(seI .i64).eq ((fun l_=>lget l_ 0) l_) w_) false) false=true:=Eq.trans (b:=(br (Js i) (br (Js i) Arz (br (decide (i>=u0)) Arz (ba (decide ((zcv8 i)=(-1))) Arz))) (br (decide (i>=u0)) (br (Js i) Arz (br (decide (i>=u0)) Arz (ba (decide ((zcv8 i)=(-1))) Arz))) (br (Js i) (ba (decide ((-1)=(zcv8 i))) Arz) (br (decide (i>=u0)) (ba (decide ((-1)=(zcv8 i))) Arz) (ba (decide ((zcv8 i)=(zcv8 i))) Arz)))))) (by kernel_rfl) (bdt (fun h_1=>(btb h_1 rfl)) (fun h_1=>(bdt (fun h_2=>(btf h_1 (btb h_2 rfl))) (fun h_2=>(btf h_1 (btf h_2 (band (Ddt rfl) rfl)))))))
theorem Bd8:Ai W9 300 311 [(TRa.av (Btu c f rk rv u0 u1 u2 told)),.int .u8 1,.int .i64 i] (fun w_=>Tr.ev (Et (Btu c f rk rv u0 u1 u2 told).us (Btu c f rk rv u0 u1 u2 told).m (1) (i)) (fun l_=>(seI .i64).eq ((fun l_=>lget l_ 0) l_) w_) false) false=true:=Eq.trans (b:=(br (Js i) (br (Js i) Arz (br (decide (i>=u1)) Arz (ba (decide ((Ank i u0)=(-1))) Arz))) (br (decide (i>=u1)) (br (Js i) Arz (br (decide (i>=u1)) Arz (ba (decide ((Ank i u0)=(-1))) Arz))) (br (Js i) (ba (decide ((-1)=(Ank i u0))) Arz) (br (decide (i>=u1)) (ba (decide ((-1)=(Ank i u0))) Arz) (ba (decide ((Ank i u0)=(Ank i u0))) Arz)))))) (by kernel_rfl) (bdt (fun h_1=>(btb h_1 rfl)) (fun h_1=>(bdt (fun h_2=>(btf h_1 (btb h_2 rfl))) (fun h_2=>(btf h_1 (btf h_2 (band (Ddt rfl) rfl)))))))
end
abbrev Bi9 (i:Int) (u0:Int) (u1:Int):=IntKind.wrap .i64 ((IntKind.wrap .i64 ((IntKind.wrap .i64 (1+u0))+u1))+i)
theorem Bd9 (f:Frm) (c:Conf) (u0 u1 u2 rk rv:Int) (told:Bool) (i:Int):Ai W9 300 311 [(TRa.av (Btu c f rk rv u0 u1 u2 told)),.int .u8 2,.int .i64 i] (fun w_=>Tr.ev (Et (Btu c f rk rv u0 u1 u2 told).us (Btu c f rk rv u0 u1 u2 told).m (2) (i)) (fun l_=>(seI .i64).eq ((fun l_=>lget l_ 0) l_) w_) false) false=true:=Eq.trans (b:=(br (Js i) (br (Js i) Arz (br (decide (i>=u2)) Arz (ba (decide ((Bi9 i u0 u1)=(-1))) Arz))) (br (decide (i>=u2)) (br (Js i) Arz (br (decide (i>=u2)) Arz (ba (decide ((Bi9 i u0 u1)=(-1))) Arz))) (br (Js i) (ba (decide ((-1)=(Bi9 i u0 u1))) Arz) (br (decide (i>=u2)) (ba (decide ((-1)=(Bi9 i u0 u1))) Arz) (ba (decide ((Bi9 i u0 u1)=(Bi9 i u0 u1))) Arz)))))) (by kernel_rfl) (bdt (fun h_1=>(btb h_1 rfl)) (fun h_1=>(bdt (fun h_2=>(btf h_1 (btb h_2 rfl))) (fun h_2=>(btf h_1 (btf h_2 (band (Ddt rfl) rfl)))))))
abbrev Bss (c:Conf) (f:Frm) (rk rv u0 u1 u2 u3:Int) (told:Bool):TRa:=⟨f,c,[.int .i64 u0,.int .i64 u1,.int .i64 u2,.int .i64 u3],nat_lit 4,rk,rv,told⟩
section
variable (f:Frm) (c:Conf) (u0 u1 u2 u3 rk rv:Int) (told:Bool) (i:Int)
theorem Bea:Ai W9 300 311 [(TRa.av (Bss c f rk rv u0 u1 u2 u3 told)),.int .u8 0,.int .i64 i] (fun w_=>Tr.ev (Et (Bss c f rk rv u0 u1 u2 u3 told).us (Bss c f rk rv u0 u1 u2 u3 told).m (0) (i)) (fun l_=>(seI .i64).eq ((fun l_=>lget l_ 0) l_) w_) false) false=true:=Eq.trans (b:=(br (Js i) (br (Js i) Arz (br (decide (i>=u0)) Arz (ba (decide ((zcv8 i)=(-1))) Arz))) (br (decide (i>=u0)) (br (Js i) Arz (br (decide (i>=u0)) Arz (ba (decide ((zcv8 i)=(-1))) Arz))) (br (Js i) (ba (decide ((-1)=(zcv8 i))) Arz) (br (decide (i>=u0)) (ba (decide ((-1)=(zcv8 i))) Arz) (ba (decide ((zcv8 i)=(zcv8 i))) Arz)))))) (by kernel_rfl) (bdt (fun h_1=>(btb h_1 rfl)) (fun h_1=>(bdt (fun h_2=>(btf h_1 (btb h_2 rfl))) (fun h_2=>(btf h_1 (btf h_2 (band (Ddt rfl) rfl)))))))
theorem Beb:Ai W9 300 311 [(TRa.av (Bss c f rk rv u0 u1 u2 u3 told)),.int .u8 1,.int .i64 i] (fun w_=>Tr.ev (Et (Bss c f rk rv u0 u1 u2 u3 told).us (Bss c f rk rv u0 u1 u2 u3 told).m (1) (i)) (fun l_=>(seI .i64).eq ((fun l_=>lget l_ 0) l_) w_) false) false=true:=Eq.trans (b:=(br (Js i) (br (Js i) Arz (br (decide (i>=u1)) Arz (ba (decide ((Ank i u0)=(-1))) Arz))) (br (decide (i>=u1)) (br (Js i) Arz (br (decide (i>=u1)) Arz (ba (decide ((Ank i u0)=(-1))) Arz))) (br (Js i) (ba (decide ((-1)=(Ank i u0))) Arz) (br (decide (i>=u1)) (ba (decide ((-1)=(Ank i u0))) Arz) (ba (decide ((Ank i u0)=(Ank i u0))) Arz)))))) (by kernel_rfl) (bdt (fun h_1=>(btb h_1 rfl)) (fun h_1=>(bdt (fun h_2=>(btf h_1 (btb h_2 rfl))) (fun h_2=>(btf h_1 (btf h_2 (band (Ddt rfl) rfl)))))))
theorem Bec:Ai W9 300 311 [(TRa.av (Bss c f rk rv u0 u1 u2 u3 told)),.int .u8 2,.int .i64 i] (fun w_=>Tr.ev (Et (Bss c f rk rv u0 u1 u2 u3 told).us (Bss c f rk rv u0 u1 u2 u3 told).m (2) (i)) (fun l_=>(seI .i64).eq ((fun l_=>lget l_ 0) l_) w_) false) false=true:=Eq.trans (b:=(br (Js i) (br (Js i) Arz (br (decide (i>=u2)) Arz (ba (decide ((Bi9 i u0 u1)=(-1))) Arz))) (br (decide (i>=u2)) (br (Js i) Arz (br (decide (i>=u2)) Arz (ba (decide ((Bi9 i u0 u1)=(-1))) Arz))) (br (Js i) (ba (decide ((-1)=(Bi9 i u0 u1))) Arz) (br (decide (i>=u2)) (ba (decide ((-1)=(Bi9 i u0 u1))) Arz) (ba (decide ((Bi9 i u0 u1)=(Bi9 i u0 u1))) Arz)))))) (by kernel_rfl) (bdt (fun h_1=>(btb h_1 rfl)) (fun h_1=>(bdt (fun h_2=>(btf h_1 (btb h_2 rfl))) (fun h_2=>(btf h_1 (btf h_2 (band (Ddt rfl) rfl)))))))
end
abbrev Bja (i:Int) (u0:Int) (u1:Int) (u2:Int):=IntKind.wrap .i64 ((IntKind.wrap .i64 ((IntKind.wrap .i64 ((IntKind.wrap .i64 (1+u0))+u1))+u2))+i)
theorem Bed (f:Frm) (c:Conf) (u0 u1 u2 u3 rk rv:Int) (told:Bool) (i:Int):Ai W9 300 311 [(TRa.av (Bss c f rk rv u0 u1 u2 u3 told)),.int .u8 3,.int .i64 i] (fun w_=>Tr.ev (Et (Bss c f rk rv u0 u1 u2 u3 told).us (Bss c f rk rv u0 u1 u2 u3 told).m (3) (i)) (fun l_=>(seI .i64).eq ((fun l_=>lget l_ 0) l_) w_) false) false=true:=Eq.trans (b:=(br (Js i) (br (Js i) Arz (br (decide (i>=u3)) Arz (ba (decide ((Bja i u0 u1 u2)=(-1))) Arz))) (br (decide (i>=u3)) (br (Js i) Arz (br (decide (i>=u3)) Arz (ba (decide ((Bja i u0 u1 u2)=(-1))) Arz))) (br (Js i) (ba (decide ((-1)=(Bja i u0 u1 u2))) Arz) (br (decide (i>=u3)) (ba (decide ((-1)=(Bja i u0 u1 u2))) Arz) (ba (decide ((Bja i u0 u1 u2)=(Bja i u0 u1 u2))) Arz)))))) (by kernel_rfl) (bdt (fun h_1=>(btb h_1 rfl)) (fun h_1=>(bdt (fun h_2=>(btf h_1 (btb h_2 rfl))) (fun h_2=>(btf h_1 (btf h_2 (band (Ddt rfl) rfl)))))))
abbrev Br2 (c:Conf) (f:Frm) (rk rv u0 u1 u2 u3 u4:Int) (told:Bool):TRa:=⟨f,c,[.int .i64 u0,.int .i64 u1,.int .i64 u2,.int .i64 u3,.int .i64 u4],nat_lit 5,rk,rv,told⟩
section
variable (f:Frm) (c:Conf) (u0 u1 u2 u3 u4 rk rv:Int) (told:Bool) (i:Int)
theorem Bee:Ai W9 300 311 [(TRa.av (Br2 c f rk rv u0 u1 u2 u3 u4 told)),.int .u8 0,.int .i64 i] (fun w_=>Tr.ev (Et (Br2 c f rk rv u0 u1 u2 u3 u4 told).us (Br2 c f rk rv u0 u1 u2 u3 u4 told).m (0) (i)) (fun l_=>(seI .i64).eq ((fun l_=>lget l_ 0) l_) w_) false) false=true:=Eq.trans (b:=(br (Js i) (br (Js i) Arz (br (decide (i>=u0)) Arz (ba (decide ((zcv8 i)=(-1))) Arz))) (br (decide (i>=u0)) (br (Js i) Arz (br (decide (i>=u0)) Arz (ba (decide ((zcv8 i)=(-1))) Arz))) (br (Js i) (ba (decide ((-1)=(zcv8 i))) Arz) (br (decide (i>=u0)) (ba (decide ((-1)=(zcv8 i))) Arz) (ba (decide ((zcv8 i)=(zcv8 i))) Arz)))))) (by kernel_rfl) (bdt (fun h_1=>(btb h_1 rfl)) (fun h_1=>(bdt (fun h_2=>(btf h_1 (btb h_2 rfl))) (fun h_2=>(btf h_1 (btf h_2 (band (Ddt rfl) rfl)))))))
theorem Bef:Ai W9 300 311 [(TRa.av (Br2 c f rk rv u0 u1 u2 u3 u4 told)),.int .u8 1,.int .i64 i] (fun w_=>Tr.ev (Et (Br2 c f rk rv u0 u1 u2 u3 u4 told).us (Br2 c f rk rv u0 u1 u2 u3 u4 told).m (1) (i)) (fun l_=>(seI .i64).eq ((fun l_=>lget l_ 0) l_) w_) false) false=true:=Eq.trans (b:=(br (Js i) (br (Js i) Arz (br (decide (i>=u1)) Arz (ba (decide ((Ank i u0)=(-1))) Arz))) (br (decide (i>=u1)) (br (Js i) Arz (br (decide (i>=u1)) Arz (ba (decide ((Ank i u0)=(-1))) Arz))) (br (Js i) (ba (decide ((-1)=(Ank i u0))) Arz) (br (decide (i>=u1)) (ba (decide ((-1)=(Ank i u0))) Arz) (ba (decide ((Ank i u0)=(Ank i u0))) Arz)))))) (by kernel_rfl) (bdt (fun h_1=>(btb h_1 rfl)) (fun h_1=>(bdt (fun h_2=>(btf h_1 (btb h_2 rfl))) (fun h_2=>(btf h_1 (btf h_2 (band (Ddt rfl) rfl)))))))
theorem Beg:Ai W9 300 311 [(TRa.av (Br2 c f rk rv u0 u1 u2 u3 u4 told)),.int .u8 2,.int .i64 i] (fun w_=>Tr.ev (Et (Br2 c f rk rv u0 u1 u2 u3 u4 told).us (Br2 c f rk rv u0 u1 u2 u3 u4 told).m (2) (i)) (fun l_=>(seI .i64).eq ((fun l_=>lget l_ 0) l_) w_) false) false=true:=Eq.trans (b:=(br (Js i) (br (Js i) Arz (br (decide (i>=u2)) Arz (ba (decide ((Bi9 i u0 u1)=(-1))) Arz))) (br (decide (i>=u2)) (br (Js i) Arz (br (decide (i>=u2)) Arz (ba (decide ((Bi9 i u0 u1)=(-1))) Arz))) (br (Js i) (ba (decide ((-1)=(Bi9 i u0 u1))) Arz) (br (decide (i>=u2)) (ba (decide ((-1)=(Bi9 i u0 u1))) Arz) (ba (decide ((Bi9 i u0 u1)=(Bi9 i u0 u1))) Arz)))))) (by kernel_rfl) (bdt (fun h_1=>(btb h_1 rfl)) (fun h_1=>(bdt (fun h_2=>(btf h_1 (btb h_2 rfl))) (fun h_2=>(btf h_1 (btf h_2 (band (Ddt rfl) rfl)))))))
theorem Beh:Ai W9 300 311 [(TRa.av (Br2 c f rk rv u0 u1 u2 u3 u4 told)),.int .u8 3,.int .i64 i] (fun w_=>Tr.ev (Et (Br2 c f rk rv u0 u1 u2 u3 u4 told).us (Br2 c f rk rv u0 u1 u2 u3 u4 told).m (3) (i)) (fun l_=>(seI .i64).eq ((fun l_=>lget l_ 0) l_) w_) false) false=true:=Eq.trans (b:=(br (Js i) (br (Js i) Arz (br (decide (i>=u3)) Arz (ba (decide ((Bja i u0 u1 u2)=(-1))) Arz))) (br (decide (i>=u3)) (br (Js i) Arz (br (decide (i>=u3)) Arz (ba (decide ((Bja i u0 u1 u2)=(-1))) Arz))) (br (Js i) (ba (decide ((-1)=(Bja i u0 u1 u2))) Arz) (br (decide (i>=u3)) (ba (decide ((-1)=(Bja i u0 u1 u2))) Arz) (ba (decide ((Bja i u0 u1 u2)=(Bja i u0 u1 u2))) Arz)))))) (by kernel_rfl) (bdt (fun h_1=>(btb h_1 rfl)) (fun h_1=>(bdt (fun h_2=>(btf h_1 (btb h_2 rfl))) (fun h_2=>(btf h_1 (btf h_2 (band (Ddt rfl) rfl)))))))
end
abbrev Ah2 (i:Int) (u0:Int) (u1:Int) (u2:Int) (u3:Int):=IntKind.wrap .i64 ((IntKind.wrap .i64 ((IntKind.wrap .i64 ((IntKind.wrap .i64 ((IntKind.wrap .i64 (1+u0))+u1))+u2))+u3))+i)
section
variable (f:Frm) (c:Conf)
theorem Bei (u0 u1 u2 u3 u4 rk rv:Int) (told:Bool) (i:Int):Ai W9 300 311 [(TRa.av (Br2 c f rk rv u0 u1 u2 u3 u4 told)),.int .u8 4,.int .i64 i] (fun w_=>Tr.ev (Et (Br2 c f rk rv u0 u1 u2 u3 u4 told).us (Br2 c f rk rv u0 u1 u2 u3 u4 told).m (4) (i)) (fun l_=>(seI .i64).eq ((fun l_=>lget l_ 0) l_) w_) false) false=true:=Eq.trans (b:=(br (Js i) (br (Js i) Arz (br (decide (i>=u4)) Arz (ba (decide ((Ah2 i u0 u1 u2 u3)=(-1))) Arz))) (br (decide (i>=u4)) (br (Js i) Arz (br (decide (i>=u4)) Arz (ba (decide ((Ah2 i u0 u1 u2 u3)=(-1))) Arz))) (br (Js i) (ba (decide ((-1)=(Ah2 i u0 u1 u2 u3))) Arz) (br (decide (i>=u4)) (ba (decide ((-1)=(Ah2 i u0 u1 u2 u3))) Arz) (ba (decide ((Ah2 i u0 u1 u2 u3)=(Ah2 i u0 u1 u2 u3))) Arz)))))) (by kernel_rfl) (bdt (fun h_1=>(btb h_1 rfl)) (fun h_1=>(bdt (fun h_2=>(btf h_1 (btb h_2 rfl))) (fun h_2=>(btf h_1 (btf h_2 (band (Ddt rfl) rfl)))))))
theorem A1j (u0 rk rv:Int) (told:Bool) (i:Int):Ai W9 300 311 [(TRa.av (Ez c f rk rv u0 told)),.int .u8 255,.int .i64 i] (fun w_=>Tr.ev (Et (Ez c f rk rv u0 told).us (Ez c f rk rv u0 told).m (255) (i)) (fun l_=>(seI .i64).eq ((fun l_=>lget l_ 0) l_) w_) false) false=true:=Eq.trans (b:=true) (by kernel_rfl) rfl
theorem A1k (u0 u1 rk rv:Int) (told:Bool) (i:Int):Ai W9 300 311 [(TRa.av (Bu9 c f rk rv u0 u1 told)),.int .u8 255,.int .i64 i] (fun w_=>Tr.ev (Et (Bu9 c f rk rv u0 u1 told).us (Bu9 c f rk rv u0 u1 told).m (255) (i)) (fun l_=>(seI .i64).eq ((fun l_=>lget l_ 0) l_) w_) false) false=true:=Eq.trans (b:=true) (by kernel_rfl) rfl
theorem A1l (u0 u1 u2 rk rv:Int) (told:Bool) (i:Int):Ai W9 300 311 [(TRa.av (Btu c f rk rv u0 u1 u2 told)),.int .u8 255,.int .i64 i] (fun w_=>Tr.ev (Et (Btu c f rk rv u0 u1 u2 told).us (Btu c f rk rv u0 u1 u2 told).m (255) (i)) (fun l_=>(seI .i64).eq ((fun l_=>lget l_ 0) l_) w_) false) false=true:=Eq.trans (b:=true) (by kernel_rfl) rfl
theorem A1m (u0 u1 u2 u3 rk rv:Int) (told:Bool) (i:Int):Ai W9 300 311 [(TRa.av (Bss c f rk rv u0 u1 u2 u3 told)),.int .u8 255,.int .i64 i] (fun w_=>Tr.ev (Et (Bss c f rk rv u0 u1 u2 u3 told).us (Bss c f rk rv u0 u1 u2 u3 told).m (255) (i)) (fun l_=>(seI .i64).eq ((fun l_=>lget l_ 0) l_) w_) false) false=true:=Eq.trans (b:=true) (by kernel_rfl) rfl
theorem A1n (u0 u1 u2 u3 u4 rk rv:Int) (told:Bool) (i:Int):Ai W9 300 311 [(TRa.av (Br2 c f rk rv u0 u1 u2 u3 u4 told)),.int .u8 255,.int .i64 i] (fun w_=>Tr.ev (Et (Br2 c f rk rv u0 u1 u2 u3 u4 told).us (Br2 c f rk rv u0 u1 u2 u3 u4 told).m (255) (i)) (fun l_=>(seI .i64).eq ((fun l_=>lget l_ 0) l_) w_) false) false=true:=Eq.trans (b:=true) (by kernel_rfl) rfl
end
theorem Bej (r:TRa) (q:Int) (i:Int) (h:(Ey r.us r.m&&qOk r.m q)=true):Ai W9 300 311 [(TRa.av r),.int .u8 q,.int .i64 i] (fun w_=>Tr.ev (Et r.us r.m q i) (fun l_=>(seI .i64).eq ((fun l_=>lget l_ 0) l_) w_) false) false=true:=by
 obtain ⟨f,c,us,m,rk,rv,told⟩:=r
 have hu:=Aj h
 have hq:0<=q/\q<(m:Int)\/q=255:=Bnw (Af h)
 clear h
 rcases Aur hu with ⟨u0,rfl,rfl⟩|⟨u0,u1,rfl,rfl⟩|⟨u0,u1,u2,rfl,rfl⟩|⟨u0,u1,u2,u3,rfl,rfl⟩|⟨u0,u1,u2,u3,u4,rfl,rfl⟩
 ·rcases (show q=0\/q=255 by omega) with rfl|rfl
  ·exact Bd4 f c u0 rk rv told i
  ·exact A1j f c u0 rk rv told i
 ·rcases (show q=0\/q=1\/q=255 by omega) with rfl|rfl|rfl
  ·exact Bd5 f c u0 u1 rk rv told i
  ·exact Bd6 f c u0 u1 rk rv told i
  ·exact A1k f c u0 u1 rk rv told i
 ·rcases (show q=0\/q=1\/q=2\/q=255 by omega) with rfl|rfl|rfl|rfl
  ·exact Bd7 f c u0 u1 u2 rk rv told i
  ·exact Bd8 f c u0 u1 u2 rk rv told i
  ·exact Bd9 f c u0 u1 u2 rk rv told i
  ·exact A1l f c u0 u1 u2 rk rv told i
 ·rcases (show q=0\/q=1\/q=2\/q=3\/q=255 by omega) with rfl|rfl|rfl|rfl|rfl
  ·exact Bea f c u0 u1 u2 u3 rk rv told i
  ·exact Beb f c u0 u1 u2 u3 rk rv told i
  ·exact Bec f c u0 u1 u2 u3 rk rv told i
  ·exact Bed f c u0 u1 u2 u3 rk rv told i
  ·exact A1m f c u0 u1 u2 u3 rk rv told i
 ·rcases (show q=0\/q=1\/q=2\/q=3\/q=4\/q=255 by omega) with rfl|rfl|rfl|rfl|rfl|rfl
  ·exact Bee f c u0 u1 u2 u3 u4 rk rv told i
  ·exact Bef f c u0 u1 u2 u3 u4 rk rv told i
  ·exact Beg f c u0 u1 u2 u3 u4 rk rv told i
  ·exact Beh f c u0 u1 u2 u3 u4 rk rv told i
  ·exact Bei f c u0 u1 u2 u3 u4 rk rv told i
  ·exact A1n f c u0 u1 u2 u3 u4 rk rv told i
theorem s_off:Bc Tryz.prog (Cb gs) Al1:=Hz fun r q i h=>Aq base Ap (n:=300) fun k hk=>(Dh (Bej r q i h) (fun w_ hw=>((seI .i64).ok _ _ ((Tr.merge (U6 r.us r.m q i) (Zj r.us r.m q i)).symm.trans hw))) k).trans hk
def sp_act:Sp:=sG [sI .u8,sI .i64,sI .u64,sI .u64,sI .u64,sI .i64,sI .u32]
section
variable (r:TRa)
def Ld:AV:=Wv (cfg [J6,Ald,Al1]) 400 277 [(TRa.av r)]
def Le:Int:=AV.toI (AV.ix (Ld r) 0)
def Bj:Int:=AV.toI (AV.ix (Ld r) 1)
def Lh:Int:=AV.toI (AV.ix (Ld r) 2)
def Lj:Int:=AV.toI (AV.ix (Ld r) 3)
def Ll:Int:=AV.toI (AV.ix (Ld r) 4)
def Lm:Int:=AV.toI (AV.ix (Ld r) 5)
def Lp:Int:=AV.toI (AV.ix (Ld r) 6)
def Aex:AV:=.agg [.int .u8 (Le r),.int .i64 (Bj r),.int .u64 (Lh r),.int .u64 (Lj r),.int .u64 (Ll r),.int .i64 (Lm r),.int .u32 (Lp r)]
end
def Qm:Sum:=(277,on1 Aq6 (fun r=>(Ey r.us r.m&&(decide (0<=r.f.h)&&decide (r.f.h<(r.m:Int))))) (fun r=>Aex r))
theorem A7q (r:TRa):sp_act.bd (Ld r)=Aex r:=by kernel_rfl
abbrev Bjb (r:TRa):Bool:=ba ((Ey r.3 r.4)&&(BasZTre.qOk r.4 r.1.9)) Arz
abbrev A61 (r:TRa):Bool:=ba ((Ey r.3 r.4)&&(BasZTre.qOk r.4 0)) Arz
abbrev Bjc (r:TRa):Bool:=ba ((Ey r.3 r.4)&&(BasZTre.qOk r.4 (IntKind.wrap .u8 (r.1.9-1)))) Arz
theorem t_act (r:TRa) (hv:Ey r.us r.m=true) (hq:qOk r.m r.f.h=true) (h0:qOk r.m 0=true) (h9:qOk r.m (IntKind.wrap .u8 (r.f.h-1))=true):Ai (cfg [J6,Ald,Al1]) 400 277 [(TRa.av r)] sp_act.has false=true:=Eq.trans (b:=(br (decide (r.1.4=0)) Arz (br (decide (r.1.4=1)) (Bjb r) (br (decide (r.1.4=3)) (A61 r) (br (decide (r.1.4=4)) (A61 r) (br (decide (r.1.4=7)) (A61 r) (br (decide (r.1.4=5)) (A61 r) (br (decide (r.1.4=6)) (A61 r) (br (decide (r.1.4=8)) Arz (br (decide (r.1.4=9)) (br (!decide ((P9 (IntKind.wrap .i64 r.1.7) r.2.8 (IntKind.wrap .i64 r.1.9) (IntKind.wrap .i64 r.1.5))=0)) (Bjc r) (Bjc r)) (br (decide (r.1.4=11)) (Bjb r) (br (decide (r.1.4=12)) (Bjb r) (br (decide (r.1.4=13)) (br (decide (r.1.4=17)) (A61 r) (A61 r)) (br (decide (r.1.4=17)) (br (decide (r.1.4=17)) (A61 r) (A61 r)) (br (decide (r.1.4=14)) (A61 r) (br (decide (r.1.4=15)) (A61 r) (br (decide (r.1.4=16)) Arz (br (decide (r.1.4=21)) Arz (br (decide (r.1.4=22)) Arz (br (decide (r.1.4=23)) Arz (br (decide (r.1.4=25)) Arz Arz))))))))))))))))))))) (by kernel_rfl) (bdt (fun h_1=>rfl) (fun h_1=>(bdt (fun h_2=>(band (G6 hv hq) rfl)) (fun h_2=>(bdt (fun h_3=>(band (G6 hv h0) rfl)) (fun h_3=>(bdt (fun h_4=>(band (G6 hv h0) rfl)) (fun h_4=>(bdt (fun h_5=>(band (G6 hv h0) rfl)) (fun h_5=>(bdt (fun h_6=>(band (G6 hv h0) rfl)) (fun h_6=>(bdt (fun h_7=>(band (G6 hv h0) rfl)) (fun h_7=>(bdt (fun h_8=>rfl) (fun h_8=>(bdt (fun h_9=>(bdt (fun h_10=>(band (G6 hv h9) rfl)) (fun h_10=>(band (G6 hv h9) rfl)))) (fun h_9=>(bdt (fun h_10=>(band (G6 hv hq) rfl)) (fun h_10=>(bdt (fun h_11=>(band (G6 hv hq) rfl)) (fun h_11=>(bdt (fun h_12=>(btf (Fq h_12 rfl) (band (G6 hv h0) rfl))) (fun h_12=>(bdt (fun h_13=>(btb h_13 (band (G6 hv h0) rfl))) (fun h_13=>(bdt (fun h_14=>(band (G6 hv h0) rfl)) (fun h_14=>(bdt (fun h_15=>(band (G6 hv h0) rfl)) (fun h_15=>(bdt (fun h_16=>rfl) (fun h_16=>(bdt (fun h_17=>rfl) (fun h_17=>(bdt (fun h_18=>rfl) (fun h_18=>(bdt (fun h_19=>rfl) (fun h_19=>(bdt (fun h_20=>rfl) (fun h_20=>rfl))))))))))))))))))))))))))))))))))))))))
theorem Bek (r:TRa) (h:(Ey r.us r.m&&(decide (0<=r.f.h)&&decide (r.f.h<(r.m:Int))))=true):Ai (cfg [J6,Ald,Al1]) 400 277 [(TRa.av r)] sp_act.has false=true:=by
 have hv:=Aj h
 have h0:=Odt (Aj (Af h))
 have h1:=Odt (Af (Af h))
 have hm:=Ahj hv
 exact t_act r hv (Adz h0 h1) (Adz (Int.le_refl 0) (by omega)) (A7p h0 h1 (by omega))
theorem Bjp:Bc Tryz.prog (Cb gs) Qm:=Fg fun r hp=>(H9 base (Ah A7n (Ah s_lst (Ah s_off Ap))) (n:=400) sp_act (Bek r hp)).mono fun v_ hv_=>hv_.trans (A7q r)
def sp_may:Sp:=sB
def Oh (r:TRa):AV:=Wv (cfg [Qk,Wq,J6,Wp,Qm]) 400 309 [(TRa.av r)]
def Ce (r:TRa):Bool:=AV.toB (Oh r)
def Axt (r:TRa):AV:=.bool (Ce r)
def S_may:Sum:=(309,on1 Aq6 (fun r=>(Ep r.f&&Ey r.us r.m)) (fun r=>Axt r))
theorem Av5 (r:TRa):sp_may.bd (Oh r)=Axt r:=by kernel_rfl
abbrev Alo (r:TRa):Bool:=ba ((Ey r.3 r.4)&&(decide (0<=r.1.9)&&decide (r.1.9<(Int.ofNat r.4)))) (br (decide ((Bj r)>=0)) (ba (decide (r.1.9<(Int.ofNat r.4))) (ba (G7 r) Arz)) Arz)
abbrev Bjd (r:TRa):Bool:=br (decide (r.1.9<1)) Arz (br (decide ((IntKind.wrap .i64 r.1.5)>=(Dz (IntKind.wrap .i64 r.1.7) r.2.8 (IntKind.wrap .i64 r.1.9)))) Arz (Alo r))
abbrev Bje (r:TRa):Bool:=br (decide (r.1.4=9)) (Bjd r) (br (decide (r.1.4=11)) (Bjd r) (br (decide (r.1.4=12)) (br (decide (r.1.9<1)) Arz (Alo r)) (br (decide (r.1.4=6)) (br (decide (r.1.5<1)) Arz (Alo r)) (Alo r))))
abbrev Alp (r:TRa):Bool:=br (!(G7 r)) Arz (br (decide ((IntKind.wrap .i64 r.1.7)>r.2.7)) Arz (br (decide ((IntKind.wrap .i64 r.1.8)>r.2.7)) Arz (br (decide ((IntKind.wrap .i64 r.1.6)>r.2.10)) Arz (ba (Ey r.3 r.4) (br (decide (r.1.9>((Int.ofNat r.4)-1))) Arz (br (!decide (r.1.4=16)) (br (decide ((IntKind.wrap .i64 r.1.6)=r.2.10)) Arz (Bje r)) (Bje r)))))))
theorem t_may (r:TRa) (p1:Ie ⟨r.f.kind,r.f.a,r.f.b,0⟩=true) (p0:Ie ⟨r.f.kind,r.f.a,0,0⟩=true) (h0:decide (0<=r.f.h)=true) (hv:Ey r.us r.m=true):Ai (cfg [Qk,Wq,J6,Wp,Qm]) 400 309 [(TRa.av r)] (fun v=>sp_may.has v&&(bif v.toB then (bif decide (r.f.h<(r.m:Int)) then (bif G7 r then true else false) else false) else true)) false=true:=Eq.trans (b:=(br (decide (r.1.1=5)) (ba (Ie (Opr.mk r.1.1 r.1.2 0 0)) (br (!decide ((Ag r.2 (Opr.mk r.1.1 r.1.2 0 0))=0)) Arz (Alp r))) (ba (Ie (Opr.mk r.1.1 r.1.2 r.1.3 0)) (br (!decide ((Ag r.2 (Opr.mk r.1.1 r.1.2 r.1.3 0))=0)) Arz (Alp r))))) (by kernel_rfl) (btt (band p0 (btt rfl (bdt (fun hHas=>rfl) (fun hHas=>(btt rfl (btt rfl (btt rfl (band hv (bdt (fun hH=>rfl) (fun hH=>(btt (btt rfl (btt (btt rfl (btt rfl (band (Dj hv h0 hH) (btt (band (J7 hH) (band (nf hHas) rfl)) rfl)))) (btt (btt rfl (btt rfl (band (Dj hv h0 hH) (btt (band (J7 hH) (band (nf hHas) rfl)) rfl)))) (btt (btt rfl (band (Dj hv h0 hH) (btt (band (J7 hH) (band (nf hHas) rfl)) rfl))) (btt (btt rfl (band (Dj hv h0 hH) (btt (band (J7 hH) (band (nf hHas) rfl)) rfl))) (band (Dj hv h0 hH) (btt (band (J7 hH) (band (nf hHas) rfl)) rfl))))))) (btt (btt rfl (btt rfl (band (Dj hv h0 hH) (btt (band (J7 hH) (band (nf hHas) rfl)) rfl)))) (btt (btt rfl (btt rfl (band (Dj hv h0 hH) (btt (band (J7 hH) (band (nf hHas) rfl)) rfl)))) (btt (btt rfl (band (Dj hv h0 hH) (btt (band (J7 hH) (band (nf hHas) rfl)) rfl))) (btt (btt rfl (band (Dj hv h0 hH) (btt (band (J7 hH) (band (nf hHas) rfl)) rfl))) (band (Dj hv h0 hH) (btt (band (J7 hH) (band (nf hHas) rfl)) rfl))))))))))))))))) (band p1 (btt rfl (bdt (fun hHas=>rfl) (fun hHas=>(btt rfl (btt rfl (btt rfl (band hv (bdt (fun hH=>rfl) (fun hH=>(btt (btt rfl (btt (btt rfl (btt rfl (band (Dj hv h0 hH) (btt (band (J7 hH) (band (nf hHas) rfl)) rfl)))) (btt (btt rfl (btt rfl (band (Dj hv h0 hH) (btt (band (J7 hH) (band (nf hHas) rfl)) rfl)))) (btt (btt rfl (band (Dj hv h0 hH) (btt (band (J7 hH) (band (nf hHas) rfl)) rfl))) (btt (btt rfl (band (Dj hv h0 hH) (btt (band (J7 hH) (band (nf hHas) rfl)) rfl))) (band (Dj hv h0 hH) (btt (band (J7 hH) (band (nf hHas) rfl)) rfl))))))) (btt (btt rfl (btt rfl (band (Dj hv h0 hH) (btt (band (J7 hH) (band (nf hHas) rfl)) rfl)))) (btt (btt rfl (btt rfl (band (Dj hv h0 hH) (btt (band (J7 hH) (band (nf hHas) rfl)) rfl)))) (btt (btt rfl (band (Dj hv h0 hH) (btt (band (J7 hH) (band (nf hHas) rfl)) rfl))) (btt (btt rfl (band (Dj hv h0 hH) (btt (band (J7 hH) (band (nf hHas) rfl)) rfl))) (band (Dj hv h0 hH) (btt (band (J7 hH) (band (nf hHas) rfl)) rfl))))))))))))))))))
theorem Bel (r:TRa) (h:(Ep r.f&&Ey r.us r.m)=true):Ai (cfg [Qk,Wq,J6,Wp,Qm]) 400 309 [(TRa.av r)] sp_may.has false=true:=by
 simp only [Bae] at h
 have q:=H7.1 h.1
 have h2:=t_may r (by unfold Ie;simp only [Bae,Dte];exact ⟨q.1,q.2.1,q.2.2.1⟩) (by unfold Ie;simp only [Bae,Dte];exact ⟨q.1,q.2.1,Int.le_refl 0⟩) (Ddt q.2.2.2.1) h.2
 exact ((I4 h2).2 sp_may.has).trans (Aj (I4 h2).1)
theorem s_may:Bc Tryz.prog (Cb gs) S_may:=Fg fun r hp=>(H9 base (Ah Bic (Ah s_has (Ah A7n (Ah s_top (Ah Bjp Ap))))) (n:=400) sp_may (Bel r hp)).mono fun v_ hv_=>hv_.trans (Av5 r)
theorem X7 (r:TRa) (hp:Ep r.f=true) (hv:Ey r.us r.m=true) (h:Ce r=true):r.f.h<(r.m:Int)/\G7 r=true:=by
 have q:=H7.1 hp
 have h2:=t_may r (by unfold Ie;simp only [Bae,Dte];exact ⟨q.1,q.2.1,q.2.2.1⟩) (by unfold Ie;simp only [Bae,Dte];exact ⟨q.1,q.2.1,Int.le_refl 0⟩) (Ddt q.2.2.2.1) hv
 have:=A5k (Af (I4 h2).1) h
 obtain ⟨q1,q2⟩:=Bo this
 exact ⟨Odt q1,(Bo q2).1⟩
def Aib:Sum:=(309,on1 Aq6 (fun r=>(Ep r.f&&Ey r.us r.m)&&Ce r) (fun _=>.bool true))
theorem Bny:Bc Tryz.prog (Cb gs) Aib:=Ab9 (fun r hp=>by
 rw [Bae] at hp
 exact ⟨hp.1,by unfold Axt;rw [hp.2]⟩) s_may
def Aic:Sum:=(309,on1 Aq6 (fun r=>(Ep r.f&&Ey r.us r.m)&&!(Ce r)) (fun _=>.bool false))
theorem Bnz:Bc Tryz.prog (Cb gs) Aic:=Ab9 (fun r hp=>by
 rw [Bae] at hp
 exact ⟨hp.1,by unfold Axt;rw [show Ce r=false by simpa using hp.2]⟩) s_may
end
end Go.Bas.BasZTre
