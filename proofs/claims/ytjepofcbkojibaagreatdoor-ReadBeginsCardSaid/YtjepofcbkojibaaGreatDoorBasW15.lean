/- R. -/
import Derived.Test.YtjepofcbkojibaaGreatDoorBasW5
import Derived.Test.YtjepofcbkojibaaGreatDoorBasW6
import Derived.Test.YtjepofcbkojibaaGreatDoorBasW11
import Derived.Test.YtjepofcbkojibaaGreatDoorBasW13
set_option maxRecDepth 100000
set_option maxHeartbeats 4000000
set_option linter.unusedVariables false
set_option linter.unusedSimpArgs false
section
namespace Go.Bas.BasZJoin
noncomputable section
open Go.RowKit Go.Proofs
open BasZBase
def onB (P:Prop):Bool:=@decide P (Classical.propDecidable _)
def jA:Code:=Aqr (Akt (Ef Tryz.prog 175) 0)
def jB:Code:=Fv (Ef Tryz.prog 175) [0]
def jT:List AV:=fill 45 [(1,.ptr 0 0),(2,.ptr 1 0),(3,.ptr 2 0),(4,.ptr 3 0),(5,.ptr 4 0),(12,.fn (.func 287) [] [.ptr 5 0,.ptr 8 0,.ptr 6 0])]
def jM (at_ w:Int) (fits:Bool) (s:Nat) (pend:Option Ex) (v0 v1 v2 v3 v4 v5 v6 v7 v8:Int):Mem:=⟨[(8,⟨[.fn (.func 285) [] [.ptr 7 0]],330,false⟩),(7,⟨[.int .i64 at_],3,true⟩),(6,⟨[.fn (.func 254) [] [.ptr 0 0]],330,false⟩),(5,⟨[.int .i64 9],3,true⟩),(4,⟨[.bool fits],4,true⟩),(3,⟨[.int .u64 w],326,true⟩),(2,⟨[.int .i64 0],30,true⟩),(1,⟨[.int .u64 0],22,true⟩),(0,⟨[.lst [.int .i64 5,.int .u64 v0,.int .i64 7,.int .u64 v1,.int .i64 4,.int .u64 v2,.int .i64 5,.int .u64 v3,.int .i64 7,.int .u64 v4,.int .i64 7,.int .u64 v5,.int .i64 6,.int .u64 v6,.int .i64 6,.int .u64 v7,.int .i64 3,.int .u64 v8] 9],289,true⟩)],11,[(10,.lop s pend jT [13,14] jA jB 9),(9,.dfb)]⟩
def I_j (i at_ w:Int) (fits:Bool) (v0 v1 v2 v3 v4 v5 v6 v7 v8:Int):St:=⟨fill 26 [(0,.yld 10),(1,.ptr 5 0),(2,.ptr 8 0),(3,.ptr 6 0),(7,.int .i64 9),(8,.int .i64 i)],[],jM at_ w fits 0 none v0 v1 v2 v3 v4 v5 v6 v7 v8⟩
def Ox (lim msk at_ v:Int) (s:Int × Bool):Int × Bool:=cond (decide (v>lim)) (s.1,false) (ior .u64 (Qv .u64 s.1 msk) (Gz .u64 v at_),s.2)
abbrev zeu0:=Fv (Ef Tryz.prog 287) [0]
section
variable (w:Int) (fits:Bool) (v0 v1 v2 v3 v4 v5 v6 v7 v8:Int)
theorem t_j0 (k:Ex->St->Bool):run (cfg []) 100 none none zeu0 (I_j 0 0 w fits v0 v1 v2 v3 v4 v5 v6 v7 v8) (fun e s=>k e (Qj [0,1,2,3,7,8] s)) false=(bif decide (v0>31) then (k Ex.normal (St.mk [.yld 10,.ptr 5 0,.ptr 8 0,.ptr 6 0,.any,.any,.any,.int .i64 9,.int .i64 1,.any,.any,.any,.any,.any,.any,.any,.any,.any,.any,.any,.any,.any,.any,.any,.any,.any] [] (Mem.mk [(8,(HB.mk [.fn (Fn.func 285) [] [.ptr 7 0]] 330 false)),(7,(HB.mk [.int .i64 5] 3 true)),(6,(HB.mk [.fn (Fn.func 254) [] [.ptr 0 0]] 330 false)),(5,(HB.mk [.int .i64 9] 3 true)),(4,(HB.mk [.bool false] 4 true)),(3,(HB.mk [.int .u64 w] 326 true)),(2,(HB.mk [.int .i64 0] 30 true)),(1,(HB.mk [.int .u64 0] 22 true)),(0,(HB.mk [.lst [.int .i64 5,.int .u64 v0,.int .i64 7,.int .u64 v1,.int .i64 4,.int .u64 v2,.int .i64 5,.int .u64 v3,.int .i64 7,.int .u64 v4,.int .i64 7,.int .u64 v5,.int .i64 6,.int .u64 v6,.int .i64 6,.int .u64 v7,.int .i64 3,.int .u64 v8] 9] 289 true))] 11 [(10,(LB.lop 0 (Option.none) [.any,.ptr 0 0,.ptr 1 0,.ptr 2 0,.ptr 3 0,.ptr 4 0,.any,.any,.any,.any,.any,.any,.fn (Fn.func 287) [] [.ptr 5 0,.ptr 8 0,.ptr 6 0],.any,.any,.any,.any,.any,.any,.any,.any,.any,.any,.any,.any,.any,.any,.any,.any,.any,.any,.any,.any,.any,.any,.any,.any,.any,.any,.any,.any,.any,.any,.any,.any] [13,14] jA jB 9)),(9,LB.dfb)]))) else (k Ex.normal (St.mk [.yld 10,.ptr 5 0,.ptr 8 0,.ptr 6 0,.any,.any,.any,.int .i64 9,.int .i64 1,.any,.any,.any,.any,.any,.any,.any,.any,.any,.any,.any,.any,.any,.any,.any,.any,.any] [] (Mem.mk [(8,(HB.mk [.fn (Fn.func 285) [] [.ptr 7 0]] 330 false)),(7,(HB.mk [.int .i64 5] 3 true)),(6,(HB.mk [.fn (Fn.func 254) [] [.ptr 0 0]] 330 false)),(5,(HB.mk [.int .i64 9] 3 true)),(4,(HB.mk [.bool fits] 4 true)),(3,(HB.mk [.int .u64 (ior .u64 (Qv .u64 w 31) (Gz .u64 v0 0))] 326 true)),(2,(HB.mk [.int .i64 0] 30 true)),(1,(HB.mk [.int .u64 0] 22 true)),(0,(HB.mk [.lst [.int .i64 5,.int .u64 v0,.int .i64 7,.int .u64 v1,.int .i64 4,.int .u64 v2,.int .i64 5,.int .u64 v3,.int .i64 7,.int .u64 v4,.int .i64 7,.int .u64 v5,.int .i64 6,.int .u64 v6,.int .i64 6,.int .u64 v7,.int .i64 3,.int .u64 v8] 9] 289 true))] 11 [(10,(LB.lop 0 (Option.none) [.any,.ptr 0 0,.ptr 1 0,.ptr 2 0,.ptr 3 0,.ptr 4 0,.any,.any,.any,.any,.any,.any,.fn (Fn.func 287) [] [.ptr 5 0,.ptr 8 0,.ptr 6 0],.any,.any,.any,.any,.any,.any,.any,.any,.any,.any,.any,.any,.any,.any,.any,.any,.any,.any,.any,.any,.any,.any,.any,.any,.any,.any,.any,.any,.any,.any,.any,.any] [13,14] jA jB 9)),(9,LB.dfb)])))):=by kernel_rfl
theorem t_j1 (k:Ex->St->Bool):run (cfg []) 100 none none zeu0 (I_j 1 5 w fits v0 v1 v2 v3 v4 v5 v6 v7 v8) (fun e s=>k e (Qj [0,1,2,3,7,8] s)) false=(bif decide (v1>127) then (k Ex.normal (St.mk [.yld 10,.ptr 5 0,.ptr 8 0,.ptr 6 0,.any,.any,.any,.int .i64 9,.int .i64 2,.any,.any,.any,.any,.any,.any,.any,.any,.any,.any,.any,.any,.any,.any,.any,.any,.any] [] (Mem.mk [(8,(HB.mk [.fn (Fn.func 285) [] [.ptr 7 0]] 330 false)),(7,(HB.mk [.int .i64 12] 3 true)),(6,(HB.mk [.fn (Fn.func 254) [] [.ptr 0 0]] 330 false)),(5,(HB.mk [.int .i64 9] 3 true)),(4,(HB.mk [.bool false] 4 true)),(3,(HB.mk [.int .u64 w] 326 true)),(2,(HB.mk [.int .i64 0] 30 true)),(1,(HB.mk [.int .u64 0] 22 true)),(0,(HB.mk [.lst [.int .i64 5,.int .u64 v0,.int .i64 7,.int .u64 v1,.int .i64 4,.int .u64 v2,.int .i64 5,.int .u64 v3,.int .i64 7,.int .u64 v4,.int .i64 7,.int .u64 v5,.int .i64 6,.int .u64 v6,.int .i64 6,.int .u64 v7,.int .i64 3,.int .u64 v8] 9] 289 true))] 11 [(10,(LB.lop 0 (Option.none) [.any,.ptr 0 0,.ptr 1 0,.ptr 2 0,.ptr 3 0,.ptr 4 0,.any,.any,.any,.any,.any,.any,.fn (Fn.func 287) [] [.ptr 5 0,.ptr 8 0,.ptr 6 0],.any,.any,.any,.any,.any,.any,.any,.any,.any,.any,.any,.any,.any,.any,.any,.any,.any,.any,.any,.any,.any,.any,.any,.any,.any,.any,.any,.any,.any,.any,.any,.any] [13,14] jA jB 9)),(9,LB.dfb)]))) else (k Ex.normal (St.mk [.yld 10,.ptr 5 0,.ptr 8 0,.ptr 6 0,.any,.any,.any,.int .i64 9,.int .i64 2,.any,.any,.any,.any,.any,.any,.any,.any,.any,.any,.any,.any,.any,.any,.any,.any,.any] [] (Mem.mk [(8,(HB.mk [.fn (Fn.func 285) [] [.ptr 7 0]] 330 false)),(7,(HB.mk [.int .i64 12] 3 true)),(6,(HB.mk [.fn (Fn.func 254) [] [.ptr 0 0]] 330 false)),(5,(HB.mk [.int .i64 9] 3 true)),(4,(HB.mk [.bool fits] 4 true)),(3,(HB.mk [.int .u64 (ior .u64 (Qv .u64 w 4064) (Gz .u64 v1 5))] 326 true)),(2,(HB.mk [.int .i64 0] 30 true)),(1,(HB.mk [.int .u64 0] 22 true)),(0,(HB.mk [.lst [.int .i64 5,.int .u64 v0,.int .i64 7,.int .u64 v1,.int .i64 4,.int .u64 v2,.int .i64 5,.int .u64 v3,.int .i64 7,.int .u64 v4,.int .i64 7,.int .u64 v5,.int .i64 6,.int .u64 v6,.int .i64 6,.int .u64 v7,.int .i64 3,.int .u64 v8] 9] 289 true))] 11 [(10,(LB.lop 0 (Option.none) [.any,.ptr 0 0,.ptr 1 0,.ptr 2 0,.ptr 3 0,.ptr 4 0,.any,.any,.any,.any,.any,.any,.fn (Fn.func 287) [] [.ptr 5 0,.ptr 8 0,.ptr 6 0],.any,.any,.any,.any,.any,.any,.any,.any,.any,.any,.any,.any,.any,.any,.any,.any,.any,.any,.any,.any,.any,.any,.any,.any,.any,.any,.any,.any,.any,.any,.any,.any] [13,14] jA jB 9)),(9,LB.dfb)])))):=by kernel_rfl
theorem t_j2 (k:Ex->St->Bool):run (cfg []) 100 none none zeu0 (I_j 2 12 w fits v0 v1 v2 v3 v4 v5 v6 v7 v8) (fun e s=>k e (Qj [0,1,2,3,7,8] s)) false=(bif decide (v2>15) then (k Ex.normal (St.mk [.yld 10,.ptr 5 0,.ptr 8 0,.ptr 6 0,.any,.any,.any,.int .i64 9,.int .i64 3,.any,.any,.any,.any,.any,.any,.any,.any,.any,.any,.any,.any,.any,.any,.any,.any,.any] [] (Mem.mk [(8,(HB.mk [.fn (Fn.func 285) [] [.ptr 7 0]] 330 false)),(7,(HB.mk [.int .i64 16] 3 true)),(6,(HB.mk [.fn (Fn.func 254) [] [.ptr 0 0]] 330 false)),(5,(HB.mk [.int .i64 9] 3 true)),(4,(HB.mk [.bool false] 4 true)),(3,(HB.mk [.int .u64 w] 326 true)),(2,(HB.mk [.int .i64 0] 30 true)),(1,(HB.mk [.int .u64 0] 22 true)),(0,(HB.mk [.lst [.int .i64 5,.int .u64 v0,.int .i64 7,.int .u64 v1,.int .i64 4,.int .u64 v2,.int .i64 5,.int .u64 v3,.int .i64 7,.int .u64 v4,.int .i64 7,.int .u64 v5,.int .i64 6,.int .u64 v6,.int .i64 6,.int .u64 v7,.int .i64 3,.int .u64 v8] 9] 289 true))] 11 [(10,(LB.lop 0 (Option.none) [.any,.ptr 0 0,.ptr 1 0,.ptr 2 0,.ptr 3 0,.ptr 4 0,.any,.any,.any,.any,.any,.any,.fn (Fn.func 287) [] [.ptr 5 0,.ptr 8 0,.ptr 6 0],.any,.any,.any,.any,.any,.any,.any,.any,.any,.any,.any,.any,.any,.any,.any,.any,.any,.any,.any,.any,.any,.any,.any,.any,.any,.any,.any,.any,.any,.any,.any,.any] [13,14] jA jB 9)),(9,LB.dfb)]))) else (k Ex.normal (St.mk [.yld 10,.ptr 5 0,.ptr 8 0,.ptr 6 0,.any,.any,.any,.int .i64 9,.int .i64 3,.any,.any,.any,.any,.any,.any,.any,.any,.any,.any,.any,.any,.any,.any,.any,.any,.any] [] (Mem.mk [(8,(HB.mk [.fn (Fn.func 285) [] [.ptr 7 0]] 330 false)),(7,(HB.mk [.int .i64 16] 3 true)),(6,(HB.mk [.fn (Fn.func 254) [] [.ptr 0 0]] 330 false)),(5,(HB.mk [.int .i64 9] 3 true)),(4,(HB.mk [.bool fits] 4 true)),(3,(HB.mk [.int .u64 (ior .u64 (Qv .u64 w 61440) (Gz .u64 v2 12))] 326 true)),(2,(HB.mk [.int .i64 0] 30 true)),(1,(HB.mk [.int .u64 0] 22 true)),(0,(HB.mk [.lst [.int .i64 5,.int .u64 v0,.int .i64 7,.int .u64 v1,.int .i64 4,.int .u64 v2,.int .i64 5,.int .u64 v3,.int .i64 7,.int .u64 v4,.int .i64 7,.int .u64 v5,.int .i64 6,.int .u64 v6,.int .i64 6,.int .u64 v7,.int .i64 3,.int .u64 v8] 9] 289 true))] 11 [(10,(LB.lop 0 (Option.none) [.any,.ptr 0 0,.ptr 1 0,.ptr 2 0,.ptr 3 0,.ptr 4 0,.any,.any,.any,.any,.any,.any,.fn (Fn.func 287) [] [.ptr 5 0,.ptr 8 0,.ptr 6 0],.any,.any,.any,.any,.any,.any,.any,.any,.any,.any,.any,.any,.any,.any,.any,.any,.any,.any,.any,.any,.any,.any,.any,.any,.any,.any,.any,.any,.any,.any,.any,.any] [13,14] jA jB 9)),(9,LB.dfb)])))):=by kernel_rfl
end
end
end Go.Bas.BasZJoin
end
section
namespace Go.Bas.BasZJoin2
open Go.RowKit Go.Proofs BasZBase BasZJoin
set_option maxHeartbeats 1000000
theorem hC0:(cfg []).Ok:=Xx base Ap
section
variable {v0 v1 v2 v3 v4 v5 v6 v7 v8:Int} {K:Ex->St->Prop} {w:Int} {fits:Bool}
theorem st0 (h:AWr (cfg []) none (Fv (Ef Tryz.prog 287) [0]) (I_j 1 5 (Ox 31 31 0 v0 (w,fits)).1 (Ox 31 31 0 v0 (w,fits)).2 v0 v1 v2 v3 v4 v5 v6 v7 v8) K):AWr (cfg []) none (Fv (Ef Tryz.prog 287) [0]) (I_j 0 0 w fits v0 v1 v2 v3 v4 v5 v6 v7 v8) K:=by
 refine AWr.step (AWp.runK hC0 [0,1,2,3,7,8] (n:=100) fun k hk=>?_)
 refine (t_j0 w fits v0 v1 v2 v3 v4 v5 v6 v7 v8 k).trans ?_
 refine andI rfl (andI rfl (andI rfl (condI (fun hv=>?_) (fun hv=>?_))))
 ·have e:Ox 31 31 0 v0 (w,fits)=(w,false):=by unfold Ox;rw [hv];rfl
  rw [e] at h;exact hk .normal _ h
 ·have e:Ox 31 31 0 v0 (w,fits)=(ior .u64 (Qv .u64 w 31) (Gz .u64 v0 0),fits):=by unfold Ox;rw [hv];rfl
  rw [e] at h;exact andI rfl (andI rfl (hk .normal _ h))
theorem st1 (h:AWr (cfg []) none (Fv (Ef Tryz.prog 287) [0]) (I_j 2 12 (Ox 127 4064 5 v1 (w,fits)).1 (Ox 127 4064 5 v1 (w,fits)).2 v0 v1 v2 v3 v4 v5 v6 v7 v8) K):AWr (cfg []) none (Fv (Ef Tryz.prog 287) [0]) (I_j 1 5 w fits v0 v1 v2 v3 v4 v5 v6 v7 v8) K:=by
 refine AWr.step (AWp.runK hC0 [0,1,2,3,7,8] (n:=100) fun k hk=>?_)
 refine (t_j1 w fits v0 v1 v2 v3 v4 v5 v6 v7 v8 k).trans ?_
 refine andI rfl (andI rfl (andI rfl (condI (fun hv=>?_) (fun hv=>?_))))
 ·have e:Ox 127 4064 5 v1 (w,fits)=(w,false):=by unfold Ox;rw [hv];rfl
  rw [e] at h;exact hk .normal _ h
 ·have e:Ox 127 4064 5 v1 (w,fits)=(ior .u64 (Qv .u64 w 4064) (Gz .u64 v1 5),fits):=by unfold Ox;rw [hv];rfl
  rw [e] at h;exact andI rfl (andI rfl (hk .normal _ h))
theorem st2 (h:AWr (cfg []) none (Fv (Ef Tryz.prog 287) [0]) (I_j 3 16 (Ox 15 61440 12 v2 (w,fits)).1 (Ox 15 61440 12 v2 (w,fits)).2 v0 v1 v2 v3 v4 v5 v6 v7 v8) K):AWr (cfg []) none (Fv (Ef Tryz.prog 287) [0]) (I_j 2 12 w fits v0 v1 v2 v3 v4 v5 v6 v7 v8) K:=by
 refine AWr.step (AWp.runK hC0 [0,1,2,3,7,8] (n:=100) fun k hk=>?_)
 refine (t_j2 w fits v0 v1 v2 v3 v4 v5 v6 v7 v8 k).trans ?_
 refine andI rfl (andI rfl (andI rfl (condI (fun hv=>?_) (fun hv=>?_))))
 ·have e:Ox 15 61440 12 v2 (w,fits)=(w,false):=by unfold Ox;rw [hv];rfl
  rw [e] at h;exact hk .normal _ h
 ·have e:Ox 15 61440 12 v2 (w,fits)=(ior .u64 (Qv .u64 w 61440) (Gz .u64 v2 12),fits):=by unfold Ox;rw [hv];rfl
  rw [e] at h;exact andI rfl (andI rfl (hk .normal _ h))
end
end Go.Bas.BasZJoin2
end
section
namespace Go.Bas.BasZReg2
open Go.RowKit Go.Proofs
theorem w8 (n:Int):0<=IntKind.wrap .u8 n/\IntKind.wrap .u8 n<=255:=by
 simp only [IntKind.wrap,IntKind.signed,IntKind.bits]
 constructor<;>(try simp)<;>omega
theorem two {b:Bool} {l1 l2:List AV} (h:(Tr.br b (.leaf l1) (.leaf l2)).int 4=0) (hb:b=true->(lget l1 4).toI ≠ 0):(Tr.br b (.leaf l1) (.leaf l2)).int 0=(lget l2 0).toI:=by
 cases b
 ·rfl
 ·exact absurd h (hb rfl)
end Go.Bas.BasZReg2
end
section
namespace Go.Bas.BasZRead
noncomputable section
open Go.RowKit Go.Proofs
open BasZBase BasZOp BasZRank2 BasZOk BasZProg BasZSign
theorem Ej {f:Frm} (h:Ep f=true):Qh f.kind=true:=by
 have h:=H7.1 h
 unfold Qh
 rw [Ddt h.1,Ddt h.2.1]
 rfl
def sp_rnx:Sp:=sT [sG [sI .u8,sI .i64,sI .u64,sI .u64,sI .u64,sI .u64,sI .u64,sI .u64,sI .u64,sI .u64],sI .i64]
section
variable (c:Conf) (t:Int) (r:Rdr)
def out_rnx:AV:=Wv (cfg [Bq,Ase,Ab5,Afo,Ail,Aim]) 600 11 [c.av,.int .i64 t,r.av]
def Apa:Int:=AV.toI (AV.ix (AV.ix (out_rnx c t r) 0) 0)
def Apb:Int:=AV.toI (AV.ix (AV.ix (out_rnx c t r) 0) 1)
def Apc:Int:=AV.toI (AV.ix (AV.ix (out_rnx c t r) 0) 2)
def Apd:Int:=AV.toI (AV.ix (AV.ix (out_rnx c t r) 0) 3)
def Ape:Int:=AV.toI (AV.ix (AV.ix (out_rnx c t r) 0) 4)
def Apf:Int:=AV.toI (AV.ix (AV.ix (out_rnx c t r) 0) 5)
def Apg:Int:=AV.toI (AV.ix (AV.ix (out_rnx c t r) 0) 6)
def Aph:Int:=AV.toI (AV.ix (AV.ix (out_rnx c t r) 0) 7)
def Api:Int:=AV.toI (AV.ix (AV.ix (out_rnx c t r) 0) 8)
def Apj:Int:=AV.toI (AV.ix (AV.ix (out_rnx c t r) 0) 9)
def Aip:Int:=AV.toI (AV.ix (out_rnx c t r) 1)
def Ayu:AV:=.tup [.agg [.int .u8 (Apa c t r),.int .i64 (Apb c t r),.int .u64 (Apc c t r),.int .u64 (Apd c t r),.int .u64 (Ape c t r),.int .u64 (Apf c t r),.int .u64 (Apg c t r),.int .u64 (Aph c t r),.int .u64 (Api c t r),.int .u64 (Apj c t r)],.int .i64 (Aip c t r)]
end
def Bkr:Sum:=(11,on3 Dp (rI .i64) rRdr (fun c t r=>Ep r.f) (fun c t r=>Ayu c t r))
theorem A9n (c:Conf) (t:Int) (r:Rdr):sp_rnx.bd (out_rnx c t r)=Ayu c t r:=by kernel_rfl
abbrev zez0:=cfg [Bq,Ase,Ab5,Afo,Ail,Aim]
section
variable (c:Conf) (r:Rdr) (t:Int)
abbrev Bg8:Bool:=br (decide (t<0)) true (br (decide (t>=c.3)) true (br (!decide ((Fj c r.5)=0)) true (ba (Qh r.5.1) (br (Gs r.5.1) true (br (decide (r.2<0)) true (br (decide (r.2>1)) true (br (decide (r.3<0)) true (br (decide (r.3>=c.2)) true (br (decide ((Int.ofNat r.9)>c.7)) true (br (decide (r.10<0)) true (br (decide (r.10>(Int.ofNat r.9))) true true)))))))))))
abbrev zez2:Bool:=br (decide (r.1=7)) (Bg8 c r t) (br (decide (t<0)) true (br (decide (t>=c.3)) true (br (!decide ((Fj c r.5)=0)) true (ba (Qh r.5.1) (br (Gs r.5.1) true true)))))
abbrev zez3:Bool:=br (decide (r.1=6)) (br (decide ((Ee c r.5)=4)) (Bg8 c r t) (zez2 c r t)) (zez2 c r t)
abbrev zez4:Bool:=br (decide (r.1=5)) (br (decide ((Ee c r.5)=3)) (Bg8 c r t) (zez3 c r t)) (zez3 c r t)
end
theorem t_rnx (c:Conf) (t:Int) (r:Rdr) (hF:Ep r.f=true):Ai zez0 600 11 [c.av,.int .i64 t,r.av] sp_rnx.has false=true:=Eq.trans (b:=(br (!decide ((Az c)=0)) (br (!decide ((Az c)=0)) true true) (ba (Ep r.5) (br (decide (r.1=1)) (Bg8 c r t) (br (decide (r.1=2)) (Bg8 c r t) (br (decide (r.1=3)) (Bg8 c r t) (br (decide (r.1=4)) (br (decide ((Ee c r.5)=1)) (Bg8 c r t) (zez4 c r t)) (zez4 c r t)))))))) (by kernel_rfl) (bdt (fun h_1=>(btb h_1 rfl)) (fun h_1=>(band hF (bdt (fun h_2=>(bdt (fun h_3=>rfl) (fun h_3=>(bdt (fun h_4=>rfl) (fun h_4=>(bdt (fun h_5=>rfl) (fun h_5=>(band (Ej hF) (bdt (fun h_6=>rfl) (fun h_6=>(bdt (fun h_7=>rfl) (fun h_7=>(bdt (fun h_8=>rfl) (fun h_8=>(bdt (fun h_9=>rfl) (fun h_9=>(bdt (fun h_10=>rfl) (fun h_10=>(bdt (fun h_11=>rfl) (fun h_11=>(bdt (fun h_12=>rfl) (fun h_12=>(bdt (fun h_13=>rfl) (fun h_13=>rfl)))))))))))))))))))))))) (fun h_2=>(bdt (fun h_3=>(bdt (fun h_4=>rfl) (fun h_4=>(bdt (fun h_5=>rfl) (fun h_5=>(bdt (fun h_6=>rfl) (fun h_6=>(band (Ej hF) (bdt (fun h_7=>rfl) (fun h_7=>(bdt (fun h_8=>rfl) (fun h_8=>(bdt (fun h_9=>rfl) (fun h_9=>(bdt (fun h_10=>rfl) (fun h_10=>(bdt (fun h_11=>rfl) (fun h_11=>(bdt (fun h_12=>rfl) (fun h_12=>(bdt (fun h_13=>rfl) (fun h_13=>(bdt (fun h_14=>rfl) (fun h_14=>rfl)))))))))))))))))))))))) (fun h_3=>(bdt (fun h_4=>(bdt (fun h_5=>rfl) (fun h_5=>(bdt (fun h_6=>rfl) (fun h_6=>(bdt (fun h_7=>rfl) (fun h_7=>(band (Ej hF) (bdt (fun h_8=>rfl) (fun h_8=>(bdt (fun h_9=>rfl) (fun h_9=>(bdt (fun h_10=>rfl) (fun h_10=>(bdt (fun h_11=>rfl) (fun h_11=>(bdt (fun h_12=>rfl) (fun h_12=>(bdt (fun h_13=>rfl) (fun h_13=>(bdt (fun h_14=>rfl) (fun h_14=>(bdt (fun h_15=>rfl) (fun h_15=>rfl)))))))))))))))))))))))) (fun h_4=>(bdt (fun h_5=>(bdt (fun h_6=>(bdt (fun h_7=>rfl) (fun h_7=>(bdt (fun h_8=>rfl) (fun h_8=>(bdt (fun h_9=>rfl) (fun h_9=>(band (Ej hF) (bdt (fun h_10=>rfl) (fun h_10=>(bdt (fun h_11=>rfl) (fun h_11=>(bdt (fun h_12=>rfl) (fun h_12=>(bdt (fun h_13=>rfl) (fun h_13=>(bdt (fun h_14=>rfl) (fun h_14=>(bdt (fun h_15=>rfl) (fun h_15=>(bdt (fun h_16=>rfl) (fun h_16=>(bdt (fun h_17=>rfl) (fun h_17=>rfl)))))))))))))))))))))))) (fun h_6=>(bdt (fun h_7=>(bdt (fun h_8=>(bdt (fun h_9=>rfl) (fun h_9=>(bdt (fun h_10=>rfl) (fun h_10=>(bdt (fun h_11=>rfl) (fun h_11=>(band (Ej hF) (bdt (fun h_12=>rfl) (fun h_12=>(bdt (fun h_13=>rfl) (fun h_13=>(bdt (fun h_14=>rfl) (fun h_14=>(bdt (fun h_15=>rfl) (fun h_15=>(bdt (fun h_16=>rfl) (fun h_16=>(bdt (fun h_17=>rfl) (fun h_17=>(bdt (fun h_18=>rfl) (fun h_18=>(bdt (fun h_19=>rfl) (fun h_19=>rfl)))))))))))))))))))))))) (fun h_8=>(bdt (fun h_9=>(bdt (fun h_10=>(bdt (fun h_11=>rfl) (fun h_11=>(bdt (fun h_12=>rfl) (fun h_12=>(bdt (fun h_13=>rfl) (fun h_13=>(band (Ej hF) (bdt (fun h_14=>rfl) (fun h_14=>(bdt (fun h_15=>rfl) (fun h_15=>(bdt (fun h_16=>rfl) (fun h_16=>(bdt (fun h_17=>rfl) (fun h_17=>(bdt (fun h_18=>rfl) (fun h_18=>(bdt (fun h_19=>rfl) (fun h_19=>(bdt (fun h_20=>rfl) (fun h_20=>(bdt (fun h_21=>rfl) (fun h_21=>rfl)))))))))))))))))))))))) (fun h_10=>(bdt (fun h_11=>(bdt (fun h_12=>rfl) (fun h_12=>(bdt (fun h_13=>rfl) (fun h_13=>(bdt (fun h_14=>rfl) (fun h_14=>(band (Ej hF) (bdt (fun h_15=>rfl) (fun h_15=>(bdt (fun h_16=>rfl) (fun h_16=>(bdt (fun h_17=>rfl) (fun h_17=>(bdt (fun h_18=>rfl) (fun h_18=>(bdt (fun h_19=>rfl) (fun h_19=>(bdt (fun h_20=>rfl) (fun h_20=>(bdt (fun h_21=>rfl) (fun h_21=>(bdt (fun h_22=>rfl) (fun h_22=>rfl)))))))))))))))))))))))) (fun h_11=>(bdt (fun h_12=>rfl) (fun h_12=>(bdt (fun h_13=>rfl) (fun h_13=>(bdt (fun h_14=>rfl) (fun h_14=>(band (Ej hF) (bdt (fun h_15=>rfl) (fun h_15=>rfl)))))))))))))) (fun h_9=>(bdt (fun h_10=>(bdt (fun h_11=>rfl) (fun h_11=>(bdt (fun h_12=>rfl) (fun h_12=>(bdt (fun h_13=>rfl) (fun h_13=>(band (Ej hF) (bdt (fun h_14=>rfl) (fun h_14=>(bdt (fun h_15=>rfl) (fun h_15=>(bdt (fun h_16=>rfl) (fun h_16=>(bdt (fun h_17=>rfl) (fun h_17=>(bdt (fun h_18=>rfl) (fun h_18=>(bdt (fun h_19=>rfl) (fun h_19=>(bdt (fun h_20=>rfl) (fun h_20=>(bdt (fun h_21=>rfl) (fun h_21=>rfl)))))))))))))))))))))))) (fun h_10=>(bdt (fun h_11=>rfl) (fun h_11=>(bdt (fun h_12=>rfl) (fun h_12=>(bdt (fun h_13=>rfl) (fun h_13=>(band (Ej hF) (bdt (fun h_14=>rfl) (fun h_14=>rfl)))))))))))))))) (fun h_7=>(bdt (fun h_8=>(bdt (fun h_9=>(bdt (fun h_10=>rfl) (fun h_10=>(bdt (fun h_11=>rfl) (fun h_11=>(bdt (fun h_12=>rfl) (fun h_12=>(band (Ej hF) (bdt (fun h_13=>rfl) (fun h_13=>(bdt (fun h_14=>rfl) (fun h_14=>(bdt (fun h_15=>rfl) (fun h_15=>(bdt (fun h_16=>rfl) (fun h_16=>(bdt (fun h_17=>rfl) (fun h_17=>(bdt (fun h_18=>rfl) (fun h_18=>(bdt (fun h_19=>rfl) (fun h_19=>(bdt (fun h_20=>rfl) (fun h_20=>rfl)))))))))))))))))))))))) (fun h_9=>(bdt (fun h_10=>(bdt (fun h_11=>rfl) (fun h_11=>(bdt (fun h_12=>rfl) (fun h_12=>(bdt (fun h_13=>rfl) (fun h_13=>(band (Ej hF) (bdt (fun h_14=>rfl) (fun h_14=>(bdt (fun h_15=>rfl) (fun h_15=>(bdt (fun h_16=>rfl) (fun h_16=>(bdt (fun h_17=>rfl) (fun h_17=>(bdt (fun h_18=>rfl) (fun h_18=>(bdt (fun h_19=>rfl) (fun h_19=>(bdt (fun h_20=>rfl) (fun h_20=>(bdt (fun h_21=>rfl) (fun h_21=>rfl)))))))))))))))))))))))) (fun h_10=>(bdt (fun h_11=>rfl) (fun h_11=>(bdt (fun h_12=>rfl) (fun h_12=>(bdt (fun h_13=>rfl) (fun h_13=>(band (Ej hF) (bdt (fun h_14=>rfl) (fun h_14=>rfl)))))))))))))) (fun h_8=>(bdt (fun h_9=>(bdt (fun h_10=>rfl) (fun h_10=>(bdt (fun h_11=>rfl) (fun h_11=>(bdt (fun h_12=>rfl) (fun h_12=>(band (Ej hF) (bdt (fun h_13=>rfl) (fun h_13=>(bdt (fun h_14=>rfl) (fun h_14=>(bdt (fun h_15=>rfl) (fun h_15=>(bdt (fun h_16=>rfl) (fun h_16=>(bdt (fun h_17=>rfl) (fun h_17=>(bdt (fun h_18=>rfl) (fun h_18=>(bdt (fun h_19=>rfl) (fun h_19=>(bdt (fun h_20=>rfl) (fun h_20=>rfl)))))))))))))))))))))))) (fun h_9=>(bdt (fun h_10=>rfl) (fun h_10=>(bdt (fun h_11=>rfl) (fun h_11=>(bdt (fun h_12=>rfl) (fun h_12=>(band (Ej hF) (bdt (fun h_13=>rfl) (fun h_13=>rfl)))))))))))))))))) (fun h_5=>(bdt (fun h_6=>(bdt (fun h_7=>(bdt (fun h_8=>rfl) (fun h_8=>(bdt (fun h_9=>rfl) (fun h_9=>(bdt (fun h_10=>rfl) (fun h_10=>(band (Ej hF) (bdt (fun h_11=>rfl) (fun h_11=>(bdt (fun h_12=>rfl) (fun h_12=>(bdt (fun h_13=>rfl) (fun h_13=>(bdt (fun h_14=>rfl) (fun h_14=>(bdt (fun h_15=>rfl) (fun h_15=>(bdt (fun h_16=>rfl) (fun h_16=>(bdt (fun h_17=>rfl) (fun h_17=>(bdt (fun h_18=>rfl) (fun h_18=>rfl)))))))))))))))))))))))) (fun h_7=>(bdt (fun h_8=>(bdt (fun h_9=>(bdt (fun h_10=>rfl) (fun h_10=>(bdt (fun h_11=>rfl) (fun h_11=>(bdt (fun h_12=>rfl) (fun h_12=>(band (Ej hF) (bdt (fun h_13=>rfl) (fun h_13=>(bdt (fun h_14=>rfl) (fun h_14=>(bdt (fun h_15=>rfl) (fun h_15=>(bdt (fun h_16=>rfl) (fun h_16=>(bdt (fun h_17=>rfl) (fun h_17=>(bdt (fun h_18=>rfl) (fun h_18=>(bdt (fun h_19=>rfl) (fun h_19=>(bdt (fun h_20=>rfl) (fun h_20=>rfl)))))))))))))))))))))))) (fun h_9=>(bdt (fun h_10=>(bdt (fun h_11=>rfl) (fun h_11=>(bdt (fun h_12=>rfl) (fun h_12=>(bdt (fun h_13=>rfl) (fun h_13=>(band (Ej hF) (bdt (fun h_14=>rfl) (fun h_14=>(bdt (fun h_15=>rfl) (fun h_15=>(bdt (fun h_16=>rfl) (fun h_16=>(bdt (fun h_17=>rfl) (fun h_17=>(bdt (fun h_18=>rfl) (fun h_18=>(bdt (fun h_19=>rfl) (fun h_19=>(bdt (fun h_20=>rfl) (fun h_20=>(bdt (fun h_21=>rfl) (fun h_21=>rfl)))))))))))))))))))))))) (fun h_10=>(bdt (fun h_11=>rfl) (fun h_11=>(bdt (fun h_12=>rfl) (fun h_12=>(bdt (fun h_13=>rfl) (fun h_13=>(band (Ej hF) (bdt (fun h_14=>rfl) (fun h_14=>rfl)))))))))))))) (fun h_8=>(bdt (fun h_9=>(bdt (fun h_10=>rfl) (fun h_10=>(bdt (fun h_11=>rfl) (fun h_11=>(bdt (fun h_12=>rfl) (fun h_12=>(band (Ej hF) (bdt (fun h_13=>rfl) (fun h_13=>(bdt (fun h_14=>rfl) (fun h_14=>(bdt (fun h_15=>rfl) (fun h_15=>(bdt (fun h_16=>rfl) (fun h_16=>(bdt (fun h_17=>rfl) (fun h_17=>(bdt (fun h_18=>rfl) (fun h_18=>(bdt (fun h_19=>rfl) (fun h_19=>(bdt (fun h_20=>rfl) (fun h_20=>rfl)))))))))))))))))))))))) (fun h_9=>(bdt (fun h_10=>rfl) (fun h_10=>(bdt (fun h_11=>rfl) (fun h_11=>(bdt (fun h_12=>rfl) (fun h_12=>(band (Ej hF) (bdt (fun h_13=>rfl) (fun h_13=>rfl)))))))))))))))) (fun h_6=>(bdt (fun h_7=>(bdt (fun h_8=>(bdt (fun h_9=>rfl) (fun h_9=>(bdt (fun h_10=>rfl) (fun h_10=>(bdt (fun h_11=>rfl) (fun h_11=>(band (Ej hF) (bdt (fun h_12=>rfl) (fun h_12=>(bdt (fun h_13=>rfl) (fun h_13=>(bdt (fun h_14=>rfl) (fun h_14=>(bdt (fun h_15=>rfl) (fun h_15=>(bdt (fun h_16=>rfl) (fun h_16=>(bdt (fun h_17=>rfl) (fun h_17=>(bdt (fun h_18=>rfl) (fun h_18=>(bdt (fun h_19=>rfl) (fun h_19=>rfl)))))))))))))))))))))))) (fun h_8=>(bdt (fun h_9=>(bdt (fun h_10=>rfl) (fun h_10=>(bdt (fun h_11=>rfl) (fun h_11=>(bdt (fun h_12=>rfl) (fun h_12=>(band (Ej hF) (bdt (fun h_13=>rfl) (fun h_13=>(bdt (fun h_14=>rfl) (fun h_14=>(bdt (fun h_15=>rfl) (fun h_15=>(bdt (fun h_16=>rfl) (fun h_16=>(bdt (fun h_17=>rfl) (fun h_17=>(bdt (fun h_18=>rfl) (fun h_18=>(bdt (fun h_19=>rfl) (fun h_19=>(bdt (fun h_20=>rfl) (fun h_20=>rfl)))))))))))))))))))))))) (fun h_9=>(bdt (fun h_10=>rfl) (fun h_10=>(bdt (fun h_11=>rfl) (fun h_11=>(bdt (fun h_12=>rfl) (fun h_12=>(band (Ej hF) (bdt (fun h_13=>rfl) (fun h_13=>rfl)))))))))))))) (fun h_7=>(bdt (fun h_8=>(bdt (fun h_9=>rfl) (fun h_9=>(bdt (fun h_10=>rfl) (fun h_10=>(bdt (fun h_11=>rfl) (fun h_11=>(band (Ej hF) (bdt (fun h_12=>rfl) (fun h_12=>(bdt (fun h_13=>rfl) (fun h_13=>(bdt (fun h_14=>rfl) (fun h_14=>(bdt (fun h_15=>rfl) (fun h_15=>(bdt (fun h_16=>rfl) (fun h_16=>(bdt (fun h_17=>rfl) (fun h_17=>(bdt (fun h_18=>rfl) (fun h_18=>(bdt (fun h_19=>rfl) (fun h_19=>rfl)))))))))))))))))))))))) (fun h_8=>(bdt (fun h_9=>rfl) (fun h_9=>(bdt (fun h_10=>rfl) (fun h_10=>(bdt (fun h_11=>rfl) (fun h_11=>(band (Ej hF) (bdt (fun h_12=>rfl) (fun h_12=>rfl))))))))))))))))))))))))))
theorem Bht (c:Conf) (t:Int) (r:Rdr) (h:Ep r.f=true):Ai zez0 600 11 [c.av,.int .i64 t,r.av] sp_rnx.has false=true:=t_rnx c t r h
theorem s_rnx:Bc Tryz.prog (Cb gs) Bkr:=Hz fun c t r hp=>(H9 base (Ah Jn (Ah s_pnx (Ah Bid (Ah s_at (Ah Bpn (Ah Bpp Ap)))))) (n:=600) sp_rnx (Bht c t r hp)).mono fun v_ hv_=>hv_.trans (A9n c t r)
end
end Go.Bas.BasZRead
end
section
namespace Go.Bas.BasZAnn
noncomputable section
open Go.RowKit Go.Proofs
open BasZBase BasZOp BasZOk
theorem A9o {o:Opr} (h:Ie o=true):Qh o.kind=true:=by
 unfold Ie at h
 unfold Qh
 exact Aj h |> fun _=>by
  simp only [Bae] at h ⊢;exact ⟨h.1,h.2.1⟩
def sp_rbg:Sp:=sT [sG [sI .u8,sI .i64,sI .i64,sI .u64,sI .u8,sI .u32,sI .u32,sI .u8,sI .u8,sI .u8,sI .u8,sI .u8,sI .u8,sI .u32,sI .u32,sI .i64,sI .u32,sN,sI .i64],sI .i64]
section
variable (c:Conf) (o:Opr)
def F6:AV:=Wv (cfg [Qk,Ab5,Ab4]) 600 9 [c.av,o.av]
def Apk:Int:=AV.toI (AV.ix (AV.ix (F6 c o) 0) 0)
def Apl:Int:=AV.toI (AV.ix (AV.ix (F6 c o) 0) 1)
def Apm:Int:=AV.toI (AV.ix (AV.ix (F6 c o) 0) 2)
def Apn:Int:=AV.toI (AV.ix (AV.ix (F6 c o) 0) 3)
def Apo:Int:=AV.toI (AV.ix (AV.ix (F6 c o) 0) 4)
def Apq:Int:=AV.toI (AV.ix (AV.ix (F6 c o) 0) 5)
def Apr:Int:=AV.toI (AV.ix (AV.ix (F6 c o) 0) 6)
def Aps:Int:=AV.toI (AV.ix (AV.ix (F6 c o) 0) 7)
def Apt:Int:=AV.toI (AV.ix (AV.ix (F6 c o) 0) 8)
def Apu:Int:=AV.toI (AV.ix (AV.ix (F6 c o) 0) 9)
def Aiq:Int:=AV.toI (AV.ix (AV.ix (F6 c o) 0) 10)
def Air:Int:=AV.toI (AV.ix (AV.ix (F6 c o) 0) 11)
def Ais:Int:=AV.toI (AV.ix (AV.ix (F6 c o) 0) 12)
def Ait:Int:=AV.toI (AV.ix (AV.ix (F6 c o) 0) 13)
def Aiu:Int:=AV.toI (AV.ix (AV.ix (F6 c o) 0) 14)
def Aiv:Int:=AV.toI (AV.ix (AV.ix (F6 c o) 0) 15)
def Aiw:Int:=AV.toI (AV.ix (AV.ix (F6 c o) 0) 16)
def Aix:Int:=AV.toI (AV.ix (AV.ix (F6 c o) 0) 18)
def Aiy:Int:=AV.toI (AV.ix (F6 c o) 1)
def Ayv:AV:=.tup [.agg [.int .u8 (Apk c o),.int .i64 (Apl c o),.int .i64 (Apm c o),.int .u64 (Apn c o),.int .u8 (Apo c o),.int .u32 (Apq c o),.int .u32 (Apr c o),.int .u8 (Aps c o),.int .u8 (Apt c o),.int .u8 (Apu c o),.int .u8 (Aiq c o),.int .u8 (Air c o),.int .u8 (Ais c o),.int .u32 (Ait c o),.int .u32 (Aiu c o),.int .i64 (Aiv c o),.int .u32 (Aiw c o),.nils,.int .i64 (Aix c o)],.int .i64 (Aiy c o)]
end
def Bks:Sum:=(9,on2 Dp Ab2 (fun c o=>Ie o) (fun c o=>Ayv c o))
theorem A9p (c:Conf) (o:Opr):sp_rbg.bd (F6 c o)=Ayv c o:=by kernel_rfl
theorem t_rbg (c:Conf) (o:Opr) (hO:Ie o=true):Ai (cfg [Qk,Ab5,Ab4]) 600 9 [c.av,o.av] sp_rbg.has false=true:=Eq.trans (b:=(ba (Ie o) (br (!decide ((Ag c o)=0)) true (ba (Qh o.1) (br (Gs o.1) true true))))) (by kernel_rfl) (band hO (bdt (fun h_1=>rfl) (fun h_1=>(band (A9o hO) (bdt (fun h_2=>rfl) (fun h_2=>rfl))))))
theorem Bhu (c:Conf) (o:Opr) (h:Ie o=true):Ai (cfg [Qk,Ab5,Ab4]) 600 9 [c.av,o.av] sp_rbg.has false=true:=t_rbg c o h
theorem s_rbg:Bc Tryz.prog (Cb gs) Bks:=Cm fun c o hp=>(H9 base (Ah Bic (Ah Bid (Ah Bap Ap))) (n:=600) sp_rbg (Bhu c o hp)).mono fun v_ hv_=>hv_.trans (A9p c o)
end
end Go.Bas.BasZAnn
end
