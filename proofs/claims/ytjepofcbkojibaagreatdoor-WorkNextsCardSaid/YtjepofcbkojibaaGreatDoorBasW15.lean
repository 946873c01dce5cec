/- How a desc's small fields are Apv: the rounds; How a desc's small fields are Apv: the loop, and the function; What a desc's frame is made of: numbers such asv their types have; Of stages, plainly: a stage's cell tells it, and Tags rise; Contracts: what a stage asks, the next one, and the next batch's first one: the program, and the doc; Contracts: what a stage asks, the next one, and the next batch's first one; How a batch is chosen, asv plain Lean: places from a first one on, the pending ones taken until the; Contracts: how many bits a word has; A word's bits by their number: the lowest one, the lowest one struck out, and the one of a number. P; Contracts: how many threads a mask has, and which one is that of a number: trees; Contracts: how many threads a mask has, and which one is that of a number: the loops, and the functi; Contracts by a run's outcome: a helper's exchanges, and what is known of them; Contracts by a run's outcome: what a helper does next. -/
import Derived.Test.YtjepofcbkojibaaGreatDoorBasW5
import Derived.Test.YtjepofcbkojibaaGreatDoorBasW6
import Derived.Test.YtjepofcbkojibaaGreatDoorBasW7
import Derived.Test.YtjepofcbkojibaaGreatDoorBasW11
import Derived.Test.YtjepofcbkojibaaGreatDoorBasW13
set_option maxRecDepth 100000
set_option maxHeartbeats 4000000
set_option linter.unusedVariables false
set_option linter.unusedSimpArgs false
section
namespace Go.Bas.BasZJoin
noncomputable section
open Go.RowKit Go.Proofs
open BasZBase
def onB (P:Prop):Bool:=@decide P (Classical.propDecidable _)
def jA:Code:=Aqr (Akt (Ef Tryz.prog 175) 0)
def jB:Code:=Fv (Ef Tryz.prog 175) [0]
def jT:List AV:=fill 45 [(1,.ptr 0 0),(2,.ptr 1 0),(3,.ptr 2 0),(4,.ptr 3 0),(5,.ptr 4 0),(12,.fn (.func 287) [] [.ptr 5 0,.ptr 8 0,.ptr 6 0])]
def jM (at_ w:Int) (fits:Bool) (s:Nat) (pend:Option Ex) (v0 v1 v2 v3 v4 v5 v6 v7 v8:Int):Mem:=⟨[(8,⟨[.fn (.func 285) [] [.ptr 7 0]],330,false⟩),(7,⟨[.int .i64 at_],3,true⟩),(6,⟨[.fn (.func 254) [] [.ptr 0 0]],330,false⟩),(5,⟨[.int .i64 9],3,true⟩),(4,⟨[.bool fits],4,true⟩),(3,⟨[.int .u64 w],326,true⟩),(2,⟨[.int .i64 0],30,true⟩),(1,⟨[.int .u64 0],22,true⟩),(0,⟨[.lst [.int .i64 5,.int .u64 v0,.int .i64 7,.int .u64 v1,.int .i64 4,.int .u64 v2,.int .i64 5,.int .u64 v3,.int .i64 7,.int .u64 v4,.int .i64 7,.int .u64 v5,.int .i64 6,.int .u64 v6,.int .i64 6,.int .u64 v7,.int .i64 3,.int .u64 v8] 9],289,true⟩)],11,[(10,.lop s pend jT [13,14] jA jB 9),(9,.dfb)]⟩
def I_j (i at_ w:Int) (fits:Bool) (v0 v1 v2 v3 v4 v5 v6 v7 v8:Int):St:=⟨fill 26 [(0,.yld 10),(1,.ptr 5 0),(2,.ptr 8 0),(3,.ptr 6 0),(7,.int .i64 9),(8,.int .i64 i)],[],jM at_ w fits 0 none v0 v1 v2 v3 v4 v5 v6 v7 v8⟩
def Ox (lim msk at_ v:Int) (s:Int × Bool):Int × Bool:=cond (decide (v>lim)) (s.1,false) (ior .u64 (Qv .u64 s.1 msk) (Gz .u64 v at_),s.2)
abbrev Gm:=Fv (Ef Tryz.prog 287) [0]
section
variable (w:Int) (fits:Bool) (v0 v1 v2 v3 v4 v5 v6 v7 v8:Int)
theorem t_j0 (k:Ex->St->Bool):run (cfg []) 100 none none Gm (I_j 0 0 w fits v0 v1 v2 v3 v4 v5 v6 v7 v8) (fun e s=>k e (Qj [0,1,2,3,7,8] s)) false=(bif decide (v0>31) then (k Ex.normal (St.mk [.yld 10,.ptr 5 0,.ptr 8 0,.ptr 6 0,.any,.any,.any,.int .i64 9,.int .i64 1,.any,.any,.any,.any,.any,.any,.any,.any,.any,.any,.any,.any,.any,.any,.any,.any,.any] [] (Mem.mk [(8,(HB.mk [.fn (Fn.func 285) [] [.ptr 7 0]] 330 false)),(7,(HB.mk [.int .i64 5] 3 true)),(6,(HB.mk [.fn (Fn.func 254) [] [.ptr 0 0]] 330 false)),(5,(HB.mk [.int .i64 9] 3 true)),(4,(HB.mk [.bool false] 4 true)),(3,(HB.mk [.int .u64 w] 326 true)),(2,(HB.mk [.int .i64 0] 30 true)),(1,(HB.mk [.int .u64 0] 22 true)),(0,(HB.mk [.lst [.int .i64 5,.int .u64 v0,.int .i64 7,.int .u64 v1,.int .i64 4,.int .u64 v2,.int .i64 5,.int .u64 v3,.int .i64 7,.int .u64 v4,.int .i64 7,.int .u64 v5,.int .i64 6,.int .u64 v6,.int .i64 6,.int .u64 v7,.int .i64 3,.int .u64 v8] 9] 289 true))] 11 [(10,(LB.lop 0 (Option.none) [.any,.ptr 0 0,.ptr 1 0,.ptr 2 0,.ptr 3 0,.ptr 4 0,.any,.any,.any,.any,.any,.any,.fn (Fn.func 287) [] [.ptr 5 0,.ptr 8 0,.ptr 6 0],.any,.any,.any,.any,.any,.any,.any,.any,.any,.any,.any,.any,.any,.any,.any,.any,.any,.any,.any,.any,.any,.any,.any,.any,.any,.any,.any,.any,.any,.any,.any,.any] [13,14] jA jB 9)),(9,LB.dfb)]))) else (k Ex.normal (St.mk [.yld 10,.ptr 5 0,.ptr 8 0,.ptr 6 0,.any,.any,.any,.int .i64 9,.int .i64 1,.any,.any,.any,.any,.any,.any,.any,.any,.any,.any,.any,.any,.any,.any,.any,.any,.any] [] (Mem.mk [(8,(HB.mk [.fn (Fn.func 285) [] [.ptr 7 0]] 330 false)),(7,(HB.mk [.int .i64 5] 3 true)),(6,(HB.mk [.fn (Fn.func 254) [] [.ptr 0 0]] 330 false)),(5,(HB.mk [.int .i64 9] 3 true)),(4,(HB.mk [.bool fits] 4 true)),(3,(HB.mk [.int .u64 (ior .u64 (Qv .u64 w 31) (Gz .u64 v0 0))] 326 true)),(2,(HB.mk [.int .i64 0] 30 true)),(1,(HB.mk [.int .u64 0] 22 true)),(0,(HB.mk [.lst [.int .i64 5,.int .u64 v0,.int .i64 7,.int .u64 v1,.int .i64 4,.int .u64 v2,.int .i64 5,.int .u64 v3,.int .i64 7,.int .u64 v4,.int .i64 7,.int .u64 v5,.int .i64 6,.int .u64 v6,.int .i64 6,.int .u64 v7,.int .i64 3,.int .u64 v8] 9] 289 true))] 11 [(10,(LB.lop 0 (Option.none) [.any,.ptr 0 0,.ptr 1 0,.ptr 2 0,.ptr 3 0,.ptr 4 0,.any,.any,.any,.any,.any,.any,.fn (Fn.func 287) [] [.ptr 5 0,.ptr 8 0,.ptr 6 0],.any,.any,.any,.any,.any,.any,.any,.any,.any,.any,.any,.any,.any,.any,.any,.any,.any,.any,.any,.any,.any,.any,.any,.any,.any,.any,.any,.any,.any,.any,.any,.any] [13,14] jA jB 9)),(9,LB.dfb)])))):=by kernel_rfl
theorem t_j1 (k:Ex->St->Bool):run (cfg []) 100 none none Gm (I_j 1 5 w fits v0 v1 v2 v3 v4 v5 v6 v7 v8) (fun e s=>k e (Qj [0,1,2,3,7,8] s)) false=(bif decide (v1>127) then (k Ex.normal (St.mk [.yld 10,.ptr 5 0,.ptr 8 0,.ptr 6 0,.any,.any,.any,.int .i64 9,.int .i64 2,.any,.any,.any,.any,.any,.any,.any,.any,.any,.any,.any,.any,.any,.any,.any,.any,.any] [] (Mem.mk [(8,(HB.mk [.fn (Fn.func 285) [] [.ptr 7 0]] 330 false)),(7,(HB.mk [.int .i64 12] 3 true)),(6,(HB.mk [.fn (Fn.func 254) [] [.ptr 0 0]] 330 false)),(5,(HB.mk [.int .i64 9] 3 true)),(4,(HB.mk [.bool false] 4 true)),(3,(HB.mk [.int .u64 w] 326 true)),(2,(HB.mk [.int .i64 0] 30 true)),(1,(HB.mk [.int .u64 0] 22 true)),(0,(HB.mk [.lst [.int .i64 5,.int .u64 v0,.int .i64 7,.int .u64 v1,.int .i64 4,.int .u64 v2,.int .i64 5,.int .u64 v3,.int .i64 7,.int .u64 v4,.int .i64 7,.int .u64 v5,.int .i64 6,.int .u64 v6,.int .i64 6,.int .u64 v7,.int .i64 3,.int .u64 v8] 9] 289 true))] 11 [(10,(LB.lop 0 (Option.none) [.any,.ptr 0 0,.ptr 1 0,.ptr 2 0,.ptr 3 0,.ptr 4 0,.any,.any,.any,.any,.any,.any,.fn (Fn.func 287) [] [.ptr 5 0,.ptr 8 0,.ptr 6 0],.any,.any,.any,.any,.any,.any,.any,.any,.any,.any,.any,.any,.any,.any,.any,.any,.any,.any,.any,.any,.any,.any,.any,.any,.any,.any,.any,.any,.any,.any,.any,.any] [13,14] jA jB 9)),(9,LB.dfb)]))) else (k Ex.normal (St.mk [.yld 10,.ptr 5 0,.ptr 8 0,.ptr 6 0,.any,.any,.any,.int .i64 9,.int .i64 2,.any,.any,.any,.any,.any,.any,.any,.any,.any,.any,.any,.any,.any,.any,.any,.any,.any] [] (Mem.mk [(8,(HB.mk [.fn (Fn.func 285) [] [.ptr 7 0]] 330 false)),(7,(HB.mk [.int .i64 12] 3 true)),(6,(HB.mk [.fn (Fn.func 254) [] [.ptr 0 0]] 330 false)),(5,(HB.mk [.int .i64 9] 3 true)),(4,(HB.mk [.bool fits] 4 true)),(3,(HB.mk [.int .u64 (ior .u64 (Qv .u64 w 4064) (Gz .u64 v1 5))] 326 true)),(2,(HB.mk [.int .i64 0] 30 true)),(1,(HB.mk [.int .u64 0] 22 true)),(0,(HB.mk [.lst [.int .i64 5,.int .u64 v0,.int .i64 7,.int .u64 v1,.int .i64 4,.int .u64 v2,.int .i64 5,.int .u64 v3,.int .i64 7,.int .u64 v4,.int .i64 7,.int .u64 v5,.int .i64 6,.int .u64 v6,.int .i64 6,.int .u64 v7,.int .i64 3,.int .u64 v8] 9] 289 true))] 11 [(10,(LB.lop 0 (Option.none) [.any,.ptr 0 0,.ptr 1 0,.ptr 2 0,.ptr 3 0,.ptr 4 0,.any,.any,.any,.any,.any,.any,.fn (Fn.func 287) [] [.ptr 5 0,.ptr 8 0,.ptr 6 0],.any,.any,.any,.any,.any,.any,.any,.any,.any,.any,.any,.any,.any,.any,.any,.any,.any,.any,.any,.any,.any,.any,.any,.any,.any,.any,.any,.any,.any,.any,.any,.any] [13,14] jA jB 9)),(9,LB.dfb)])))):=by kernel_rfl
theorem t_j2 (k:Ex->St->Bool):run (cfg []) 100 none none Gm (I_j 2 12 w fits v0 v1 v2 v3 v4 v5 v6 v7 v8) (fun e s=>k e (Qj [0,1,2,3,7,8] s)) false=(bif decide (v2>15) then (k Ex.normal (St.mk [.yld 10,.ptr 5 0,.ptr 8 0,.ptr 6 0,.any,.any,.any,.int .i64 9,.int .i64 3,.any,.any,.any,.any,.any,.any,.any,.any,.any,.any,.any,.any,.any,.any,.any,.any,.any] [] (Mem.mk [(8,(HB.mk [.fn (Fn.func 285) [] [.ptr 7 0]] 330 false)),(7,(HB.mk [.int .i64 16] 3 true)),(6,(HB.mk [.fn (Fn.func 254) [] [.ptr 0 0]] 330 false)),(5,(HB.mk [.int .i64 9] 3 true)),(4,(HB.mk [.bool false] 4 true)),(3,(HB.mk [.int .u64 w] 326 true)),(2,(HB.mk [.int .i64 0] 30 true)),(1,(HB.mk [.int .u64 0] 22 true)),(0,(HB.mk [.lst [.int .i64 5,.int .u64 v0,.int .i64 7,.int .u64 v1,.int .i64 4,.int .u64 v2,.int .i64 5,.int .u64 v3,.int .i64 7,.int .u64 v4,.int .i64 7,.int .u64 v5,.int .i64 6,.int .u64 v6,.int .i64 6,.int .u64 v7,.int .i64 3,.int .u64 v8] 9] 289 true))] 11 [(10,(LB.lop 0 (Option.none) [.any,.ptr 0 0,.ptr 1 0,.ptr 2 0,.ptr 3 0,.ptr 4 0,.any,.any,.any,.any,.any,.any,.fn (Fn.func 287) [] [.ptr 5 0,.ptr 8 0,.ptr 6 0],.any,.any,.any,.any,.any,.any,.any,.any,.any,.any,.any,.any,.any,.any,.any,.any,.any,.any,.any,.any,.any,.any,.any,.any,.any,.any,.any,.any,.any,.any,.any,.any] [13,14] jA jB 9)),(9,LB.dfb)]))) else (k Ex.normal (St.mk [.yld 10,.ptr 5 0,.ptr 8 0,.ptr 6 0,.any,.any,.any,.int .i64 9,.int .i64 3,.any,.any,.any,.any,.any,.any,.any,.any,.any,.any,.any,.any,.any,.any,.any,.any,.any] [] (Mem.mk [(8,(HB.mk [.fn (Fn.func 285) [] [.ptr 7 0]] 330 false)),(7,(HB.mk [.int .i64 16] 3 true)),(6,(HB.mk [.fn (Fn.func 254) [] [.ptr 0 0]] 330 false)),(5,(HB.mk [.int .i64 9] 3 true)),(4,(HB.mk [.bool fits] 4 true)),(3,(HB.mk [.int .u64 (ior .u64 (Qv .u64 w 61440) (Gz .u64 v2 12))] 326 true)),(2,(HB.mk [.int .i64 0] 30 true)),(1,(HB.mk [.int .u64 0] 22 true)),(0,(HB.mk [.lst [.int .i64 5,.int .u64 v0,.int .i64 7,.int .u64 v1,.int .i64 4,.int .u64 v2,.int .i64 5,.int .u64 v3,.int .i64 7,.int .u64 v4,.int .i64 7,.int .u64 v5,.int .i64 6,.int .u64 v6,.int .i64 6,.int .u64 v7,.int .i64 3,.int .u64 v8] 9] 289 true))] 11 [(10,(LB.lop 0 (Option.none) [.any,.ptr 0 0,.ptr 1 0,.ptr 2 0,.ptr 3 0,.ptr 4 0,.any,.any,.any,.any,.any,.any,.fn (Fn.func 287) [] [.ptr 5 0,.ptr 8 0,.ptr 6 0],.any,.any,.any,.any,.any,.any,.any,.any,.any,.any,.any,.any,.any,.any,.any,.any,.any,.any,.any,.any,.any,.any,.any,.any,.any,.any,.any,.any,.any,.any,.any,.any] [13,14] jA jB 9)),(9,LB.dfb)])))):=by kernel_rfl
end
end
end Go.Bas.BasZJoin
end
section
namespace Go.Bas.BasZJoin2
open Go.RowKit Go.Proofs BasZBase BasZJoin
set_option maxHeartbeats 1000000
theorem hC0:(cfg []).Ok:=Xx base Ap
section
variable {v0 v1 v2 v3 v4 v5 v6 v7 v8:Int} {K:Ex->St->Prop} {w:Int} {fits:Bool}
theorem st0 (h:AWr (cfg []) none (Fv (Ef Tryz.prog 287) [0]) (I_j 1 5 (Ox 31 31 0 v0 (w,fits)).1 (Ox 31 31 0 v0 (w,fits)).2 v0 v1 v2 v3 v4 v5 v6 v7 v8) K):AWr (cfg []) none (Fv (Ef Tryz.prog 287) [0]) (I_j 0 0 w fits v0 v1 v2 v3 v4 v5 v6 v7 v8) K:=by
 refine AWr.step (AWp.runK hC0 [0,1,2,3,7,8] (n:=100) fun k hk=>?_)
 refine (t_j0 w fits v0 v1 v2 v3 v4 v5 v6 v7 v8 k).trans ?_
 refine andI rfl (andI rfl (andI rfl (condI (fun hv=>?_) (fun hv=>?_))))
 ·have e:Ox 31 31 0 v0 (w,fits)=(w,false):=by unfold Ox;rw [hv];rfl
  rw [e] at h;exact hk .normal _ h
 ·have e:Ox 31 31 0 v0 (w,fits)=(ior .u64 (Qv .u64 w 31) (Gz .u64 v0 0),fits):=by unfold Ox;rw [hv];rfl
  rw [e] at h;exact andI rfl (andI rfl (hk .normal _ h))
theorem st1 (h:AWr (cfg []) none (Fv (Ef Tryz.prog 287) [0]) (I_j 2 12 (Ox 127 4064 5 v1 (w,fits)).1 (Ox 127 4064 5 v1 (w,fits)).2 v0 v1 v2 v3 v4 v5 v6 v7 v8) K):AWr (cfg []) none (Fv (Ef Tryz.prog 287) [0]) (I_j 1 5 w fits v0 v1 v2 v3 v4 v5 v6 v7 v8) K:=by
 refine AWr.step (AWp.runK hC0 [0,1,2,3,7,8] (n:=100) fun k hk=>?_)
 refine (t_j1 w fits v0 v1 v2 v3 v4 v5 v6 v7 v8 k).trans ?_
 refine andI rfl (andI rfl (andI rfl (condI (fun hv=>?_) (fun hv=>?_))))
 ·have e:Ox 127 4064 5 v1 (w,fits)=(w,false):=by unfold Ox;rw [hv];rfl
  rw [e] at h;exact hk .normal _ h
 ·have e:Ox 127 4064 5 v1 (w,fits)=(ior .u64 (Qv .u64 w 4064) (Gz .u64 v1 5),fits):=by unfold Ox;rw [hv];rfl
  rw [e] at h;exact andI rfl (andI rfl (hk .normal _ h))
theorem st2 (h:AWr (cfg []) none (Fv (Ef Tryz.prog 287) [0]) (I_j 3 16 (Ox 15 61440 12 v2 (w,fits)).1 (Ox 15 61440 12 v2 (w,fits)).2 v0 v1 v2 v3 v4 v5 v6 v7 v8) K):AWr (cfg []) none (Fv (Ef Tryz.prog 287) [0]) (I_j 2 12 w fits v0 v1 v2 v3 v4 v5 v6 v7 v8) K:=by
 refine AWr.step (AWp.runK hC0 [0,1,2,3,7,8] (n:=100) fun k hk=>?_)
 refine (t_j2 w fits v0 v1 v2 v3 v4 v5 v6 v7 v8 k).trans ?_
 refine andI rfl (andI rfl (andI rfl (condI (fun hv=>?_) (fun hv=>?_))))
 ·have e:Ox 15 61440 12 v2 (w,fits)=(w,false):=by unfold Ox;rw [hv];rfl
  rw [e] at h;exact hk .normal _ h
 ·have e:Ox 15 61440 12 v2 (w,fits)=(ior .u64 (Qv .u64 w 61440) (Gz .u64 v2 12),fits):=by unfold Ox;rw [hv];rfl
  rw [e] at h;exact andI rfl (andI rfl (hk .normal _ h))
end
end Go.Bas.BasZJoin2
end
section
namespace Go.Bas.BasZReg2
noncomputable section
open Go.RowKit Go.Proofs BasZOp BasZOk
theorem w8 (n:Int):0<=IntKind.wrap .u8 n/\IntKind.wrap .u8 n<=255:=by
 simp only [IntKind.wrap,IntKind.signed,IntKind.bits]
 constructor<;>(try simp)<;>omega
theorem w32 (n:Int):0<=IntKind.wrap .u32 n/\IntKind.wrap .u32 n<=4294967295:=by
 simp only [IntKind.wrap,IntKind.signed,IntKind.bits]
 constructor<;>(try simp)<;>omega
def Bsg (l:Cel):Frm:=⟨Al6 l,Br6 l,Br7 l,Br8 l,Br9 l,Bsa l,Bsb l,Brr l,Brs l,Brt l,Bru l⟩
theorem Bua (l:Cel):Ep (Bsg l)=true:=H7.2 ⟨(w8 _).1,(w8 _).2,(w32 _).1,(w8 _).1,(w8 _).2,(w32 _).2⟩
theorem two {b:Bool} {l1 l2:List AV} (h:(Tr.br b (.leaf l1) (.leaf l2)).int 4=0) (hb:b=true->(lget l1 4).toI ≠ 0):(Tr.br b (.leaf l1) (.leaf l2)).int 0=(lget l2 0).toI:=by
 cases b
 ·rfl
 ·exact absurd h (hb rfl)
end
end Go.Bas.BasZReg2
end
section
namespace Go.Bas.BasZBack
open Go.RowKit Go.Proofs
theorem wf64 {n:Int} (h:0<=n) (h':n<=18446744073709551615):(Lit.int .u64 n).wf=true:=by simp [Lit.wf,IntKind.min,IntKind.max,IntKind.signed,IntKind.bits];omega
theorem wfi64 {n:Int} (h:-9223372036854775808<=n) (h':n<=9223372036854775807):(Lit.int .i64 n).wf=true:=by simp [Lit.wf,IntKind.min,IntKind.max,IntKind.signed,IntKind.bits];omega
theorem w64 {n:Int} (h:0<=n) (h':n<=18446744073709551615):IntKind.wrap .u64 n=n:=Uc (wf64 h h')
theorem B1j {n:Int} (h:-9223372036854775808<=n) (h':n<=9223372036854775807):IntKind.wrap .i64 n=n:=Uc (wfi64 h h')
theorem chk0 {m:Conf->Stg->Bool} {c:Conf} {s:Stg}:chk m c s=0 ↔ c.ok=true/\m c s=true:=by
 unfold chk
 cases c.ok<;>cases m c s<;>simp
theorem Bw5 {c:Conf} (h:c.OkP):Afy c=c.limit / 65536:=by
 simp only [Conf.OkP] at h
 have h1:c.limit.tdiv 65536=c.limit / 65536:=Int.tdiv_eq_ediv_of_nonneg (by omega)
 unfold Afy
 rw [h1,w64 (by omega) (by omega)]
structure SOk (c:Conf) (s:Stg):Prop where
 ok:c.OkP
 n1:1<=s.number
 n2:s.number<=c.ins+5
 b:s.batch<c.limit / 65536
 f1:0<=s.frm
 f2:s.frm<c.thr
 z:s.batch=0->s.number=c.ins+5
theorem sok {c:Conf} {s:Stg} (h:chk mayP c s=0):SOk c s:=by
 obtain ⟨h1,h2⟩:=chk0.1 h
 have h1:=Hy.1 h1
 rw [Akz,Bw5 h1] at h2
 have hr:Ahb c=c.ins+5:=by
  simp only [Conf.OkP] at h1;unfold Ahb;rw [B1j (by omega) (by omega)]
 rw [hr] at h2
 exact ⟨h1,h2.1,h2.2.1,h2.2.2.1,h2.2.2.2.2.1,h2.2.2.2.2.2.1,fun hz=>by omega⟩
theorem Bub {e x:Int} (h:e=0):zif e x=x:=by simp [zif,h]
end Go.Bas.BasZBack
end
section
namespace Go.Bas.BasZStage
noncomputable section
open Go.RowKit Go.Proofs
open BasZBase
abbrev Bul:=AV.int .i64 0
theorem t_job (c:Conf) (s:Stg) (k:AV->Bool):Ai (cfg []) 300 101 [c.av,s.av] k false=(bif decide (s.2<c.2) then (bif decide ((IntKind.wrap .u64 c.2)=0) then false else (k (AV.agg [.int .u8 1,.int .i64 (IntKind.wrap .i64 (Int.tmod (IntKind.wrap .u64 ((IntKind.wrap .u64 (s.1-1))+(IntKind.wrap .u64 s.2))) (IntKind.wrap .u64 c.2)))]))) else (bif decide ((IntKind.wrap .i64 (s.2-c.2))=0) then (bif decide ((IntKind.wrap .u64 c.2)=0) then false else (k (AV.agg [.int .u8 2,.int .i64 (IntKind.wrap .i64 (Int.tmod s.1 (IntKind.wrap .u64 c.2)))]))) else (bif decide ((IntKind.wrap .i64 (s.2-c.2))=1) then (k (AV.agg [.int .u8 3,.int .i64 (IntKind.wrap .i64 (Int.tmod s.1 2))])) else (bif decide ((IntKind.wrap .i64 (s.2-c.2))=2) then (k (AV.agg [.int .u8 4,.int .i64 (IntKind.wrap .i64 (Int.tmod s.1 2))])) else (bif decide ((IntKind.wrap .i64 (s.2-c.2))=3) then (k (AV.agg [.int .u8 3,.int .i64 (IntKind.wrap .i64 (Int.tmod (IntKind.wrap .u64 (s.1+1)) 2))])) else (bif decide ((IntKind.wrap .i64 (s.2-c.2))=4) then (bif decide ((IntKind.wrap .u64 c.2)=0) then false else (k (AV.agg [.int .u8 1,.int .i64 (IntKind.wrap .i64 (Int.tmod (IntKind.wrap .u64 (s.1-1)) (IntKind.wrap .u64 c.2)))]))) else (k (AV.agg [.int .u8 5,Bul])))))))):=by kernel_rfl
theorem B3r (c:Conf) (s:Stg) (k:AV->Bool):Ai (cfg [B2c]) 300 89 [c.av,s.av] k false=(bif (!decide ((chk mayP c s)=0)) then (k (AV.tup [.agg [.int .u8 0,Bul],.int .i64 (chk mayP c s)])) else (bif decide ((IntKind.wrap .u64 c.2)=0) then false else (bif decide ((IntKind.wrap .i64 (s.2-c.2))=0) then (bif decide ((IntKind.wrap .u64 c.2)=0) then false else (k (AV.tup [.agg [.int .u8 2,.int .i64 (IntKind.wrap .i64 (Int.tmod s.1 (IntKind.wrap .u64 c.2)))],Bul]))) else (bif decide ((IntKind.wrap .i64 (s.2-c.2))=3) then (k (AV.tup [.agg [.int .u8 3,.int .i64 (IntKind.wrap .i64 (Int.tmod (IntKind.wrap .u64 (s.1+1)) 2))],Bul])) else (bif decide ((IntKind.wrap .i64 (s.2-c.2))=1) then (k (AV.tup [.agg [.int .u8 3,.int .i64 (IntKind.wrap .i64 (Int.tmod s.1 2))],Bul])) else (bif decide ((IntKind.wrap .i64 (s.2-c.2))=2) then (k (AV.tup [.agg [.int .u8 4,.int .i64 (IntKind.wrap .i64 (Int.tmod s.1 2))],Bul])) else (bif decide ((IntKind.wrap .i64 (s.2-c.2))=4) then (bif decide ((IntKind.wrap .u64 c.2)=0) then false else (k (AV.tup [.agg [.int .u8 1,.int .i64 (IntKind.wrap .i64 (Int.tmod (IntKind.wrap .u64 (s.1-1)) (IntKind.wrap .u64 c.2)))],Bul]))) else (bif decide ((IntKind.wrap .i64 (s.2-c.2))=5) then (k (AV.tup [.agg [.int .u8 5,Bul],Bul])) else (k (AV.tup [.agg [.int .u8 1,.int .i64 (IntKind.wrap .i64 (Int.tmod (IntKind.wrap .u64 ((IntKind.wrap .u64 (s.1+(IntKind.wrap .u64 s.2)))-1)) (IntKind.wrap .u64 c.2)))],Bul])))))))))):=by kernel_rfl
end
end Go.Bas.BasZStage
end
section
namespace Go.Bas.BasZStage5
open Go.RowKit Go.Proofs BasZBase BasZStage BasZBack
theorem Bvy (n:Nat):(0:Int)<2 ^ n:=Int.pow_pos (by decide)
theorem Bzs {x n:Int} (h0:0<=x) (hn:0<=n) (h64:n<=64):ishr .u64 x n=0 ↔ x<Bt2 n:=by
 unfold ishr Bt2
 have h1:min n.toNat IntKind.u64.bits=n.toNat:=Nat.min_eq_left (by simp [IntKind.bits];omega)
 rw [h1,Int.fdiv_eq_ediv_of_nonneg _ (Int.le_of_lt (Bvy _))]
 have hp:=Bvy n.toNat
 constructor
 ·intro h
  by_cases hx:x<2 ^ n.toNat
  ·exact hx
  ·have:1<=x / 2 ^ n.toNat:=by
    rw [Int.le_ediv_iff_mul_le hp];omega
   omega
 ·intro h
  exact Int.ediv_eq_zero_of_lt h0 h
theorem B2k {n:Int} (h:0<=n) (h':n<=18446744073709551615):(Lit.int .u64 n).wf=true:=by simp [Lit.wf,IntKind.min,IntKind.max,IntKind.signed,IntKind.bits];omega
theorem Bvz {c:Conf} (h:c.OkP):Afy c=c.limit / 65536/\lastS c=c.limit / 65536-1:=by
 simp only [Conf.OkP] at h
 have h1:c.limit.tdiv 65536=c.limit / 65536:=Int.tdiv_eq_ediv_of_nonneg (by omega)
 unfold Afy lastS
 rw [h1,Uc (B2k (by omega) (by omega)),Uc (B2k (by omega) (by omega))]
 exact ⟨rfl,rfl⟩
theorem B3t {c:Conf} {s:Stg} (h:c.OkP) (hm:0<=s.mask):mayP c s=Bvv c s:=by
 obtain ⟨h1,h2⟩:=Bvz h
 simp only [Conf.OkP] at h
 have h3:=@Bzs s.mask c.thr hm (by omega) (by omega)
 rw [Bool.eq_iff_iff,Akz,Br5,h1,h2]
 constructor
 ·rintro ⟨a,b,d,e,f,g,i⟩
  exact ⟨a,b,by omega,f,g,h3.1 e,i⟩
 ·rintro ⟨a,b,d,e,f,g,i⟩
  exact ⟨a,b,by omega,h3.2 g,e,f,i⟩
theorem Bzt {c:Conf} {s:Stg} (hm:0<=s.mask):chk mayP c s=chk Bvv c s:=by
 unfold chk
 cases ho:c.ok with
 | false=>rfl
 | true=>rw [B3t (Hy.1 ho) hm]
def jobK (c:Conf) (s:Stg):Int:=cond (decide (s.number-c.ins=0)) 2 (cond (decide (s.number-c.ins=1\/s.number-c.ins=3)) 3 (cond (decide (s.number-c.ins=2)) 4 (cond (decide (s.number-c.ins=5)) 5 1)))
def jobN (c:Conf) (s:Stg):Int:=cond (decide (s.number-c.ins=0)) (s.batch % c.ins) (cond (decide (s.number-c.ins=1\/s.number-c.ins=2)) (s.batch % 2) (cond (decide (s.number-c.ins=3)) ((s.batch+1) % 2)
 (cond (decide (s.number-c.ins=4)) ((s.batch-1) % c.ins) (cond (decide (s.number-c.ins=5)) 0 ((s.batch+s.number-1) % c.ins)))))
def Bsv (e:Int) (c:Conf) (s:Stg):AV:=.tup [.agg [.int .u8 (zif e (jobK c s)),.int .i64 (zif e (jobN c s))],.int .i64 e]
theorem Bzu {e x:Int} (h:¬ e=0):zif e x=0:=by simp [zif,h]
theorem Bqn {a b:Int} (h:0<=a):Int.tmod a b=a % b:=Int.tmod_eq_emod_of_nonneg h
theorem Bkj {a b:Int} (hb:0<b) (hb':b<=100):IntKind.wrap .i64 (a % b)=a % b:=by
 have h1:=Int.emod_nonneg a (show b ≠ 0 by omega)
 have h2:=Int.emod_lt_of_pos a hb
 exact B1j (by omega) (by omega)
structure Nums (c:Conf) (s:Stg):Prop where
 a1:IntKind.wrap .u64 c.ins=c.ins
 a2:IntKind.wrap .i64 (s.number-c.ins)=s.number-c.ins
 a3:IntKind.wrap .u64 (s.batch+1)=s.batch+1
 a4:IntKind.wrap .u64 s.number=s.number
 a5:IntKind.wrap .u64 (IntKind.wrap .u64 (s.batch+s.number)-1)=s.batch+s.number-1
 a6:¬ s.batch=0->IntKind.wrap .u64 (s.batch-1)=s.batch-1
 a7:¬ s.batch=0->IntKind.wrap .u64 (s.batch-1+s.number)=s.batch+s.number-1
 a8:IntKind.wrap .i64 (s.number+1)=s.number+1
theorem nums {c:Conf} {s:Stg} (h:SOk c s) (hb:0<=s.batch):Nums c s:=by
 have h1:=h.ok;have h2:=h.n1;have h3:=h.n2;have h4:=h.b
 simp only [Conf.OkP] at h1
 refine ⟨w64 (by omega) (by omega),B1j (by omega) (by omega),w64 (by omega) (by omega),w64 (by omega) (by omega),?_,fun hz=>w64 (by omega) (by omega),fun hz=>?_,B1j (by omega) (by omega)⟩
 ·rw [w64 (n:=s.batch+s.number) (by omega) (by omega),w64 (by omega) (by omega)]
 ·rw [w64 (by omega) (by omega)];omega
section
variable {c:Conf} {s:Stg} {k:AV->Bool}
theorem Byr (hc:chk mayP c s=0) (hk:k (Bsv (chk mayP c s) c s)=true):∀ K N:Int,jobK c s=K->jobN c s=N->k (.tup [.agg [.int .u8 K,.int .i64 N],.int .i64 0])=true:=by
 rintro _ _ rfl rfl
 have e:Bsv (chk mayP c s) c s=.tup [.agg [.int .u8 (jobK c s),.int .i64 (jobN c s)],.int .i64 0]:=by
  unfold Bsv;rw [hc,Bub rfl,Bub rfl]
 rwa [e] at hk
theorem Bzv (hc:¬ chk mayP c s=0) (hk:k (Bsv (chk mayP c s) c s)=true):k (.tup [.agg [.int .u8 0,.int .i64 0],.int .i64 (chk mayP c s)])=true:=by
 unfold Bsv at hk
 rwa [Bzu hc,Bzu hc] at hk
theorem B1k (hb:0<=s.batch):ACalls Tryz.prog (Cb gs) 89 [c.av,s.av] (fun v=>v=Bsv (chk mayP c s) c s) :=
 Aq base (Ah s_chk Ap) (n:=300) fun k hk=>by
  rw [B3r]
  by_cases hc:chk mayP c s=0
  case neg =>
   have:=Bzv hc hk
   simpa [hc] using this
  have L:=Byr hc hk;have S:=sok hc;have N:=nums S hb;have ho:=S.ok;simp only [Conf.OkP] at ho;have hz:=S.z;have hn2:=S.n2;have hn1:=S.n1;have i1:¬ c.ins=0:=by omega
  rw [hc,N.a1,N.a2,N.a3,N.a4,N.a5];simp only [decide_true,Bool.not_true,cond_false];refine condI (fun h=>absurd (Odt h) i1) (fun _=>?_)
  refine condI (fun h=>condI (fun h=>absurd (Odt h) i1) (fun _=>?_)) (fun h0=>?_)
  ·have h:=Odt h
   refine L _ _ (by simp [jobK,h]) ?_
   rw [Bqn hb,Bkj (by omega) (by omega)]
   simp [jobN,h]
  have h0:=Odf h0;refine condI (fun h=>?_) (fun h3=>?_)
  ·have h:=Odt h
   refine L _ _ (by simp [jobK,h]) ?_
   rw [Bqn (by omega),Bkj (by omega) (by omega)]
   simp [jobN,h]
  have h3:=Odf h3;refine condI (fun h=>?_) (fun h1=>?_)
  ·have h:=Odt h
   refine L _ _ (by simp [jobK,h]) ?_
   rw [Bqn hb,Bkj (by omega) (by omega)]
   simp [jobN,h]
  have h1:=Odf h1;refine condI (fun h=>?_) (fun h2=>?_)
  ·have h:=Odt h
   refine L _ _ (by simp [jobK,h]) ?_
   rw [Bqn hb,Bkj (by omega) (by omega)]
   simp [jobN,h]
  have h2:=Odf h2;refine condI (fun h=>condI (fun h=>absurd (Odt h) i1) (fun _=>?_)) (fun h4=>?_)
  ·have h:=Odt h
   have hb0:¬ s.batch=0:=fun e=>by have:=hz e;omega
   rw [N.a6 hb0];refine L _ _ (by simp [jobK,h]) ?_
   rw [Bqn (by omega),Bkj (by omega) (by omega)]
   simp [jobN,h]
  have h4:=Odf h4;refine condI (fun h=>?_) (fun h5=>?_)
  ·have h:=Odt h
   refine L _ _ (by simp [jobK,h]) (by simp [jobN,h])
  have h5:=Odf h5;refine L _ _ (by simp [jobK,h0,h1,h2,h3,h5]) ?_
  rw [Bqn (by omega),Bkj (by omega) (by omega)]
  simp [jobN,h0,h1,h2,h3,h4,h5]
end
def pS (s:Stg):Bool:=decide (0<=s.batch)&&decide (0<=s.mask)
theorem Bxy {s:Stg}:pS s=true ↔ 0<=s.batch/\0<=s.mask:=by simp [pS]
def Bva:Sum:=(89,Amm A3w (fun _ s=>pS s) fun c s=>Bsv (chk mayP c s) c s)
theorem B3u:Bc Tryz.prog (Cb gs) Bva:=Aq0 (fun _ _=>At4) fun c s hp=>B1k (Bxy.1 hp).1
end Go.Bas.BasZStage5
end
section
namespace Go.Bas
structure Ch where
 mask:Nat
 many:Nat
 last:Nat
section
variable (p:Nat->Bool) (thr f b:Nat)
end
section
variable {p:Nat->Bool} {thr f b:Nat}
theorem B1l {a b:Nat}:Nat.blt a b=true ↔ a<b:=⟨fun h=>Nlb h,fun h=>Nat.ble_eq_true_of_le h⟩
theorem Bsc (n x:Nat):cnt (n+1) x=cnt n x+(x.testBit n).toNat:=by
 rw [Bt6,Nat.testBit_eq_decide_div_mod_eq]
 by_cases h:x / 2 ^ n % 2=1
 ·simp [h]
 ·have:x / 2 ^ n % 2=0:=by omega
  simp [this]
end
end Go.Bas
end
section
namespace Go.Bas.BasZPop
open Go.RowKit Go.Proofs
open BasZBase
def FA (P:Int->Int) (pr:Int->Bool):List AV->Option (Bool × AV)
 | [.int .u64 x]=>some (pr x,.int .i64 (P x))
 | _=>none
def Brh (P:Int->Int) (pr:Int->Bool):Sum:=(162,FA P pr)
def Bw6:Sum:=(228,B1g)
theorem B3v (x:Int) (k:AV->Bool):Ai (cfg []) 300 228 [.int .u64 x] k false=(k (AV.int .i64 (iand .i64 (IntKind.wrap .i64 (IntKind.wrap .u64 ((IntKind.wrap .u64 ((IntKind.wrap .u64 ((iand .u64 (IntKind.wrap .u64 ((ishr .u64 (IntKind.wrap .u64 ((iand .u64 (ishr .u64 (IntKind.wrap .u64 ((iand .u64 (ishr .u64 x 1) 6148914691236517205)+(iand .u64 x 6148914691236517205))) 2) 3689348814741910323)+(iand .u64 (IntKind.wrap .u64 ((iand .u64 (ishr .u64 x 1) 6148914691236517205)+(iand .u64 x 6148914691236517205))) 3689348814741910323))) 4)+(IntKind.wrap .u64 ((iand .u64 (ishr .u64 (IntKind.wrap .u64 ((iand .u64 (ishr .u64 x 1) 6148914691236517205)+(iand .u64 x 6148914691236517205))) 2) 3689348814741910323)+(iand .u64 (IntKind.wrap .u64 ((iand .u64 (ishr .u64 x 1) 6148914691236517205)+(iand .u64 x 6148914691236517205))) 3689348814741910323))))) 1085102592571150095)+(ishr .u64 (iand .u64 (IntKind.wrap .u64 ((ishr .u64 (IntKind.wrap .u64 ((iand .u64 (ishr .u64 (IntKind.wrap .u64 ((iand .u64 (ishr .u64 x 1) 6148914691236517205)+(iand .u64 x 6148914691236517205))) 2) 3689348814741910323)+(iand .u64 (IntKind.wrap .u64 ((iand .u64 (ishr .u64 x 1) 6148914691236517205)+(iand .u64 x 6148914691236517205))) 3689348814741910323))) 4)+(IntKind.wrap .u64 ((iand .u64 (ishr .u64 (IntKind.wrap .u64 ((iand .u64 (ishr .u64 x 1) 6148914691236517205)+(iand .u64 x 6148914691236517205))) 2) 3689348814741910323)+(iand .u64 (IntKind.wrap .u64 ((iand .u64 (ishr .u64 x 1) 6148914691236517205)+(iand .u64 x 6148914691236517205))) 3689348814741910323))))) 1085102592571150095) 8)))+(ishr .u64 (IntKind.wrap .u64 ((iand .u64 (IntKind.wrap .u64 ((ishr .u64 (IntKind.wrap .u64 ((iand .u64 (ishr .u64 (IntKind.wrap .u64 ((iand .u64 (ishr .u64 x 1) 6148914691236517205)+(iand .u64 x 6148914691236517205))) 2) 3689348814741910323)+(iand .u64 (IntKind.wrap .u64 ((iand .u64 (ishr .u64 x 1) 6148914691236517205)+(iand .u64 x 6148914691236517205))) 3689348814741910323))) 4)+(IntKind.wrap .u64 ((iand .u64 (ishr .u64 (IntKind.wrap .u64 ((iand .u64 (ishr .u64 x 1) 6148914691236517205)+(iand .u64 x 6148914691236517205))) 2) 3689348814741910323)+(iand .u64 (IntKind.wrap .u64 ((iand .u64 (ishr .u64 x 1) 6148914691236517205)+(iand .u64 x 6148914691236517205))) 3689348814741910323))))) 1085102592571150095)+(ishr .u64 (iand .u64 (IntKind.wrap .u64 ((ishr .u64 (IntKind.wrap .u64 ((iand .u64 (ishr .u64 (IntKind.wrap .u64 ((iand .u64 (ishr .u64 x 1) 6148914691236517205)+(iand .u64 x 6148914691236517205))) 2) 3689348814741910323)+(iand .u64 (IntKind.wrap .u64 ((iand .u64 (ishr .u64 x 1) 6148914691236517205)+(iand .u64 x 6148914691236517205))) 3689348814741910323))) 4)+(IntKind.wrap .u64 ((iand .u64 (ishr .u64 (IntKind.wrap .u64 ((iand .u64 (ishr .u64 x 1) 6148914691236517205)+(iand .u64 x 6148914691236517205))) 2) 3689348814741910323)+(iand .u64 (IntKind.wrap .u64 ((iand .u64 (ishr .u64 x 1) 6148914691236517205)+(iand .u64 x 6148914691236517205))) 3689348814741910323))))) 1085102592571150095) 8))) 16)))+(ishr .u64 (IntKind.wrap .u64 ((IntKind.wrap .u64 ((iand .u64 (IntKind.wrap .u64 ((ishr .u64 (IntKind.wrap .u64 ((iand .u64 (ishr .u64 (IntKind.wrap .u64 ((iand .u64 (ishr .u64 x 1) 6148914691236517205)+(iand .u64 x 6148914691236517205))) 2) 3689348814741910323)+(iand .u64 (IntKind.wrap .u64 ((iand .u64 (ishr .u64 x 1) 6148914691236517205)+(iand .u64 x 6148914691236517205))) 3689348814741910323))) 4)+(IntKind.wrap .u64 ((iand .u64 (ishr .u64 (IntKind.wrap .u64 ((iand .u64 (ishr .u64 x 1) 6148914691236517205)+(iand .u64 x 6148914691236517205))) 2) 3689348814741910323)+(iand .u64 (IntKind.wrap .u64 ((iand .u64 (ishr .u64 x 1) 6148914691236517205)+(iand .u64 x 6148914691236517205))) 3689348814741910323))))) 1085102592571150095)+(ishr .u64 (iand .u64 (IntKind.wrap .u64 ((ishr .u64 (IntKind.wrap .u64 ((iand .u64 (ishr .u64 (IntKind.wrap .u64 ((iand .u64 (ishr .u64 x 1) 6148914691236517205)+(iand .u64 x 6148914691236517205))) 2) 3689348814741910323)+(iand .u64 (IntKind.wrap .u64 ((iand .u64 (ishr .u64 x 1) 6148914691236517205)+(iand .u64 x 6148914691236517205))) 3689348814741910323))) 4)+(IntKind.wrap .u64 ((iand .u64 (ishr .u64 (IntKind.wrap .u64 ((iand .u64 (ishr .u64 x 1) 6148914691236517205)+(iand .u64 x 6148914691236517205))) 2) 3689348814741910323)+(iand .u64 (IntKind.wrap .u64 ((iand .u64 (ishr .u64 x 1) 6148914691236517205)+(iand .u64 x 6148914691236517205))) 3689348814741910323))))) 1085102592571150095) 8)))+(ishr .u64 (IntKind.wrap .u64 ((iand .u64 (IntKind.wrap .u64 ((ishr .u64 (IntKind.wrap .u64 ((iand .u64 (ishr .u64 (IntKind.wrap .u64 ((iand .u64 (ishr .u64 x 1) 6148914691236517205)+(iand .u64 x 6148914691236517205))) 2) 3689348814741910323)+(iand .u64 (IntKind.wrap .u64 ((iand .u64 (ishr .u64 x 1) 6148914691236517205)+(iand .u64 x 6148914691236517205))) 3689348814741910323))) 4)+(IntKind.wrap .u64 ((iand .u64 (ishr .u64 (IntKind.wrap .u64 ((iand .u64 (ishr .u64 x 1) 6148914691236517205)+(iand .u64 x 6148914691236517205))) 2) 3689348814741910323)+(iand .u64 (IntKind.wrap .u64 ((iand .u64 (ishr .u64 x 1) 6148914691236517205)+(iand .u64 x 6148914691236517205))) 3689348814741910323))))) 1085102592571150095)+(ishr .u64 (iand .u64 (IntKind.wrap .u64 ((ishr .u64 (IntKind.wrap .u64 ((iand .u64 (ishr .u64 (IntKind.wrap .u64 ((iand .u64 (ishr .u64 x 1) 6148914691236517205)+(iand .u64 x 6148914691236517205))) 2) 3689348814741910323)+(iand .u64 (IntKind.wrap .u64 ((iand .u64 (ishr .u64 x 1) 6148914691236517205)+(iand .u64 x 6148914691236517205))) 3689348814741910323))) 4)+(IntKind.wrap .u64 ((iand .u64 (ishr .u64 (IntKind.wrap .u64 ((iand .u64 (ishr .u64 x 1) 6148914691236517205)+(iand .u64 x 6148914691236517205))) 2) 3689348814741910323)+(iand .u64 (IntKind.wrap .u64 ((iand .u64 (ishr .u64 x 1) 6148914691236517205)+(iand .u64 x 6148914691236517205))) 3689348814741910323))))) 1085102592571150095) 8))) 16))) 32)))) 127))):=by kernel_rfl
theorem B3w:Bc Tryz.prog (Cb gs) Bw6:=fun args r hr=>by
  simp only [Bw6] at hr;unfold B1g at hr;split at hr
  ·rename_i x
   simp only [Option.some.injEq,Prod.mk.injEq,Dte,Bae] at hr;obtain ⟨hp,hr⟩:=hr;subst hr;refine Aq base Ap (n:=300) fun k hk=>?_
   refine (B3v _ _).trans ?_;have e:=B1f hp.1 hp.2;dsimp only at e;rw [e];exact hk
  ·cases hr
def S_size:Sum:=(162,B1g)
theorem t_size (x:Int) (k:AV->Bool):Ai (cfg [Bw6]) 300 162 [.int .u64 x] k false=((decide (0<=x)&&decide (x<18446744073709551616))&&(k (AV.int .i64 (Bq0 x)))):=by kernel_rfl
theorem s_size:Bc Tryz.prog (Cb gs) S_size:=fun args r hr=>by
  simp only [S_size] at hr;unfold B1g at hr;split at hr
  ·rename_i x
   simp only [Option.some.injEq,Prod.mk.injEq,Dte,Bae] at hr;obtain ⟨hp,hr⟩:=hr;subst hr;refine Aq base (Ah B3w Ap) (n:=300) fun k hk=>?_
   refine (t_size _ _).trans ?_
   simpa [hp] using hk
  ·cases hr
def prS (x:Int):Bool:=decide (0<=x)&&decide (x<18446744073709551616)
theorem Bvb:Bc Tryz.prog (Cb gs) (Brh Bq0 prS):=fun args r h=>s_size args r (by
 simp only [Brh,FA] at h
 split at h
 ·exact h
 ·cases h)
end Go.Bas.BasZPop
end
section
namespace Go.Bas
theorem Bv0:∀ (x:Nat),x ≠ 0->∃ t q,x=2 ^ t*(2*q+1)
 | 0,h=>absurd rfl h
 | x+1,_=>by
  by_cases h:(x+1) % 2=1
  ·exact ⟨0,(x+1) / 2,by rw [Nat.pow_zero];omega⟩
  ·obtain ⟨t,q,e⟩:=Bv0 ((x+1) / 2) (by omega)
   refine ⟨t+1,q,?_⟩;rw [Nat.pow_succ,Nat.mul_right_comm,<- e];omega
structure Low (x t:Nat):Prop where
 on:x.testBit t=true
 off:∀ i,i<t->x.testBit i=false
 pred:∀ i,(x-1).testBit i=if i<t then true else if i=t then false else x.testBit i
theorem Bzw {x:Nat} (h:x ≠ 0):∃ t,Low x t:=by
 obtain ⟨t,q,e⟩:=Bv0 x h
 have hp:=Nat.two_pow_pos t
 have e0:x=2 ^ t*(2*q+1)+0:=e
 have e1:x-1=2 ^ t*(2*q)+(2 ^ t-1):=by rw [e,Nat.mul_add];omega
 have hx:∀ i,x.testBit i=if i<t then false else (2*q+1).testBit (i-t):=fun i=>by
  rw [e0,Nat.testBit_two_pow_mul_add _ hp];split<;>simp
 refine ⟨t,?_,fun i hi=>?_,fun i=>?_⟩
 ·rw [hx,if_neg (Nat.lt_irrefl t),Nat.sub_self,Nat.testBit_zero]
  simp
 ·rw [hx,if_pos hi]
 ·rw [e1,Nat.testBit_two_pow_mul_add _ (by omega)]
  by_cases h1:i<t
  ·rw [if_pos h1,if_pos h1,Nat.testBit_two_pow_sub_one]
   simpa using h1
  ·rw [if_neg h1,if_neg h1]
   by_cases h2:i=t
   ·rw [if_pos h2,h2,Nat.sub_self,Nat.testBit_zero]
    simp
   ·rw [if_neg h2,hx,if_neg h1]
    obtain ⟨d,hd⟩:∃ d,i-t=d+1:=⟨i-t-1,by omega⟩
    rw [hd,Nat.testBit_succ,Nat.testBit_succ]
    congr 1
    omega
theorem Low.lt {x t:Nat} (h:Low x t) {n:Nat} (hx:x<2 ^ n):t<n:=by
 rcases Nat.lt_or_ge t n with h1|h1
 ·exact h1
 ·have:=Nat.testBit_lt_two_pow (Nat.lt_of_lt_of_le hx (Nat.pow_le_pow_right (by decide) h1))
  rw [h.on] at this;cases this
theorem Low.strike {x t:Nat} (h:Low x t) (j:Nat):(x &&& (x-1)).testBit j=(x.testBit j&&!decide (j=t)):=by
 rw [Nat.testBit_and,h.pred]
 by_cases h1:j<t
 ·rw [if_pos h1,h.off j h1];rfl
 ·rw [if_neg h1]
  by_cases h2:j=t
  ·simp [h2]
  ·simp [h2]
theorem Low.alone {x t:Nat} (h:Low x t) (hx:x<2 ^ 64) (h0:0<x):x &&& (2 ^ 64-x)=2 ^ t:=by
 apply Nat.eq_of_testBit_eq
 intro j
 have e:2 ^ 64-x=2 ^ 64-((x-1)+1):=by omega
 rw [Nat.testBit_and,e,Nat.testBit_two_pow_sub_succ (by omega),h.pred,Nat.testBit_two_pow]
 by_cases h1:j<t
 ·rw [if_pos h1,h.off j h1];simp;omega
 ·rw [if_neg h1]
  by_cases h2:j=t
  ·subst h2
   have:=h.lt hx;simp [h.on,this]
  ·simp [h2,Ne.symm h2]
   exact fun h _=>h
theorem Low.alone' {x t:Nat} (h:Low x t) (hx:x<18446744073709551616) (h0:0<x):x &&& (18446744073709551616-x)=2 ^ t:=by
 have e:(2:Nat) ^ 64=18446744073709551616:=by decide
 rw [<- e] at hx ⊢
 exact h.alone hx h0
def clr:Nat->Nat->Nat
 | 0,x=>x
 | i+1,x=>clr i x &&& (clr i x-1)
theorem Brl {x i j:Nat} (h:i<=j):cnt i x<=cnt j x:=by
 induction j with
 | zero=>rw [Nat.le_zero.1 h];exact Nat.le_refl _
 | succ j ih =>
  rcases Nat.lt_or_ge i (j+1) with h1|h1
  ·have:=ih (by omega)
   rw [Bsc];omega
  ·rw [show i=j+1 by omega];exact Nat.le_refl _
theorem Bvc {x i:Nat}:∀ n,i<cnt n x->∃ j,j<n/\x.testBit j=true/\cnt j x=i
 | 0,h=>absurd h (Nat.not_lt_zero _)
 | n+1,h=>by
  rw [Bsc] at h
  by_cases h1:i<cnt n x
  ·obtain ⟨j,a,b⟩:=Bvc n h1
   exact ⟨j,by omega,b⟩
  ·cases hb:x.testBit n with
   | false=>rw [hb] at h;simp at h;omega
   | true=>rw [hb] at h;simp at h;exact ⟨n,Nat.lt_succ_self n,hb,by omega⟩
theorem Buc {x:Nat}:∀ i,i<=cnt 64 x->∀ j,(clr i x).testBit j=(x.testBit j&&decide (i<=cnt j x))
 | 0,_,j=>by simp [clr]
 | i+1,h,j=>by
  have ih:=Buc (x:=x) i (by omega)
  obtain ⟨m,m1,m2,m3⟩:=Bvc 64 (show i<cnt 64 x by omega)
  have hne:clr i x ≠ 0:=fun e=>by
   have:=ih m;rw [e,m2,m3] at this;simp at this
  obtain ⟨t,ht⟩:=Bzw hne;have hon:=ih t;rw [ht.on] at hon;have hon:=hon.symm;simp only [Bae,Dte] at hon
  have htm:t<=m:=by
   rcases Nat.lt_or_ge m t with h1|h1
   ·have:=ht.off m h1
    rw [ih m,m2,m3] at this;simp at this
   ·exact h1
  have hct:cnt t x=i:=by have:=Brl (x:=x) htm;omega
  show (clr i x &&& (clr i x-1)).testBit j=_;rw [ht.strike,ih j];cases hx:x.testBit j with
  | false=>rfl
  | true =>
   rw [Bool.true_and,Bool.true_and,Bool.eq_iff_iff];simp only [Bae,Dte,Bool.not_eq_true',Dni];constructor
   ·rintro ⟨h1,h2⟩
    rcases Nat.lt_trichotomy j t with h3|h3|h3
    ·have:=ht.off j h3
     rw [ih j,hx] at this;simp at this;omega
    ·exact absurd h3 h2
    ·have:=Brl (x:=x) (show t+1<=j from h3)
     rw [Bsc,hon.1] at this;simp at this;omega
   ·intro h1
    refine ⟨by omega,fun e=>?_⟩
    subst e;omega
def Bqu (x k:Nat):Nat:=((List.range 64).find? fun t=>x.testBit t&&Nat.beq (cnt t x) k).getD 0
theorem Bzx {x s t:Nat} (h1:x.testBit s=true) (h2:x.testBit t=true) (h:cnt s x=cnt t x):s=t:=by
 rcases Nat.lt_trichotomy s t with h3|h3|h3
 ·have:=Brl (x:=x) (show s+1<=t from h3)
  rw [Bsc,h1] at this;simp at this;omega
 ·exact h3
 ·have:=Brl (x:=x) (show t+1<=s from h3)
  rw [Bsc,h2] at this;simp at this;omega
theorem Bw7 {x k t:Nat} (h1:x.testBit t=true) (h2:cnt t x=k) (ht:t<64):Bqu x k=t:=by
 unfold Bqu
 cases hf:(List.range 64).find? fun t=>x.testBit t&&Nat.beq (cnt t x) k with
 | none =>
  have:=List.find?_eq_none.1 hf t (List.mem_range.2 ht);simp [h1,h2] at this
 | some s =>
  have:=List.find?_some hf;simp only [Bae,Nat.beq_eq] at this;exact Bzx this.1 h1 (this.2.trans h2.symm)
theorem Bw8 {x k:Nat} (h:k<cnt 64 x):x.testBit (Bqu x k)=true/\cnt (Bqu x k) x=k/\Bqu x k<64:=by
 obtain ⟨j,a,b,c⟩:=Bvc 64 h
 rw [Bw7 b c a]
 exact ⟨b,c,a⟩
theorem Bt0 {x k:Nat} (h:k<cnt 64 x):Low (clr k x) (Bqu x k):=by
 obtain ⟨h1,h2,h3⟩:=Bw8 h
 have hb:=Buc (x:=x) k (by omega)
 have hne:clr k x ≠ 0:=fun e=>by
  have:=hb (Bqu x k);rw [e,h1,h2] at this;simp at this
 obtain ⟨t,ht⟩:=Bzw hne
 have hon:=hb t
 rw [ht.on] at hon
 have hon:=hon.symm
 simp only [Bae,Dte] at hon
 have hle:t<=Bqu x k:=by
  rcases Nat.lt_or_ge (Bqu x k) t with h4|h4
  ·have:=ht.off _ h4
   rw [hb,h1,h2] at this;simp at this
  ·exact h4
 have hct:cnt t x=k:=by have:=Brl (x:=x) hle;omega
 rw [Bw7 hon.1 hct (by omega)]
 exact ht
theorem Bzy {x:Nat} (hx:x<2 ^ 64):clr (cnt 64 x) x=0:=by
 apply Nat.eq_of_testBit_eq
 intro j
 rw [Buc _ (Nat.le_refl _),Nat.zero_testBit]
 cases hb:x.testBit j with
 | false=>rfl
 | true =>
  have hj:j<64:=by
   rcases Nat.lt_or_ge j 64 with h1|h1
   ·exact h1
   ·have:=Nat.testBit_lt_two_pow (Nat.lt_of_lt_of_le hx (Nat.pow_le_pow_right (by decide) h1))
    rw [hb] at this;cases this
  have:=Brl (x:=x) (show j+1<=64 from hj)
  rw [Bsc,hb] at this;simp at this ⊢;omega
theorem Bur {x:Nat} (hx:x<18446744073709551616):clr (cnt 64 x) x=0:=by
 have e:(2:Nat) ^ 64=18446744073709551616:=by decide
 rw [<- e] at hx
 exact Bzy hx
end Go.Bas
end
section
namespace Go.Bas.BasZCounts
noncomputable section
open Go.RowKit Go.Proofs
open BasZBase BasZPop
def Bys (m:Int) (k0:Int) (i:Int):St:=⟨fill 24 [(0,.int .u64 m),(14,.int .i64 k0),(15,.int .i64 i)],[],⟨[],0,[]⟩⟩
def P_th {Ω:Type} (st:St) (g:(Int)->(Int)->(Int)->Ω) (z:Ω):Ω:=match lget st.tmps 0,lget st.tmps 14,lget st.tmps 15,st.ds,st.m with
 | .int .u64 m,.int .i64 k0,.int .i64 i,[],⟨[],z1,[]⟩=>cond (Nat.beq st.tmps.length 24&&(Nat.beq z1 0&&true)) (g m k0 i) z
 | _,_,_,_,_=>z
theorem B1m {C:Cfg} {c:Code} {G:(Int)->(Int)->(Int)->(Ex->St->Bool)->Bool} (hG:∀ m k0 i k,G m k0 i k=true->AWq C c (Bys m k0 i) (fun e s=>k e s=true)):∀ st k,P_th st (fun m k0 i=>G m k0 i k) false=true->AWq C c st (fun e s=>k e s=true):=by
 intro st k h
 unfold P_th at h
 split at h
 ·rename_i q0 q1 q2 hd hm
  rcases Dt h with ⟨hb,h2⟩|⟨_,h2⟩
  ·simp only [Bae,and_true,Dte,Ea] at hb
   obtain ⟨hb0,hb1⟩:=hb;subst hb1;exact AWq.less (Less.fill hb0 (Bz q0 (Bz q1 (Bz q2 P6))) hd hm) (hG _ _ _ _ h2)
  ·cases h2
 ·cases h
def Byt (x:Int) (n:Int) (t:Int):St:=⟨fill 16 [(0,.int .u64 x),(3,.int .i64 n),(4,.int .i64 t)],[],⟨[],0,[]⟩⟩
def P_rs {Ω:Type} (st:St) (g:(Int)->(Int)->(Int)->Ω) (z:Ω):Ω:=match lget st.tmps 0,lget st.tmps 3,lget st.tmps 4,st.ds,st.m with
 | .int .u64 x,.int .i64 n,.int .i64 t,[],⟨[],z1,[]⟩=>cond (Nat.beq st.tmps.length 16&&(Nat.beq z1 0&&true)) (g x n t) z
 | _,_,_,_,_=>z
theorem B1n {C:Cfg} {c:Code} {G:(Int)->(Int)->(Int)->(Ex->St->Bool)->Bool} (hG:∀ x n t k,G x n t k=true->AWq C c (Byt x n t) (fun e s=>k e s=true)):∀ st k,P_rs st (fun x n t=>G x n t k) false=true->AWq C c st (fun e s=>k e s=true):=by
 intro st k h
 unfold P_rs at h
 split at h
 ·rename_i q0 q1 q2 hd hm
  rcases Dt h with ⟨hb,h2⟩|⟨_,h2⟩
  ·simp only [Bae,and_true,Dte,Ea] at hb
   obtain ⟨hb0,hb1⟩:=hb;subst hb1;exact AWq.less (Less.fill hb0 (Bz q0 (Bz q1 (Bz q2 P6))) hd hm) (hG _ _ _ _ h2)
  ·cases h2
 ·cases h
def Bzz (x:Int) (k0:Int) (t:Int):St:=⟨fill 28 [(0,.int .u64 x),(1,.int .i64 k0),(6,.int .i64 t)],[],⟨[],0,[]⟩⟩
def P_rt {Ω:Type} (st:St) (g:(Int)->(Int)->(Int)->Ω) (z:Ω):Ω:=match lget st.tmps 0,lget st.tmps 1,lget st.tmps 6,st.ds,st.m with
 | .int .u64 x,.int .i64 k0,.int .i64 t,[],⟨[],z1,[]⟩=>cond (Nat.beq st.tmps.length 28&&(Nat.beq z1 0&&true)) (g x k0 t) z
 | _,_,_,_,_=>z
theorem B1o {C:Cfg} {c:Code} {G:(Int)->(Int)->(Int)->(Ex->St->Bool)->Bool} (hG:∀ x k0 t k,G x k0 t k=true->AWq C c (Bzz x k0 t) (fun e s=>k e s=true)):∀ st k,P_rt st (fun x k0 t=>G x k0 t k) false=true->AWq C c st (fun e s=>k e s=true):=by
 intro st k h
 unfold P_rt at h
 split at h
 ·rename_i q0 q1 q2 hd hm
  rcases Dt h with ⟨hb,h2⟩|⟨_,h2⟩
  ·simp only [Bae,and_true,Dte,Ea] at hb
   obtain ⟨hb0,hb1⟩:=hb;subst hb1;exact AWq.less (Less.fill hb0 (Bz q0 (Bz q1 (Bz q2 P6))) hd hm) (hG _ _ _ _ h2)
  ·cases h2
 ·cases h
def eqj (x y:Int):Bool:=decide (x=y)
def lt64 (x:Int):Bool:=decide (0<=x/\x<18446744073709551616)
def ltk (k x:Int):Bool:=decide (0<=k/\k<Bq0 x)
def nthI (x k:Int):Int:=(Bqu x.toNat k.toNat:Nat)
def clrI (x k:Int):Int:=(clr k.toNat x.toNat:Nat)
def G_th (m k0 i:Int) (k:Ex->St->Bool):Bool:=cond (lt64 m&&(ltk k0 m&&eqj i 0)) (k (.exit 0) (Bys (clrI m k0) k0 k0)) false
def F_th:LF:=fun st k=>P_th st (fun m k0 i=>G_th m k0 i k) false
def G_rs (x n t:Int) (k:Ex->St->Bool):Bool:=cond (lt64 x&&(eqj n 0&&eqj t 0)) (k (.exit 0) (Byt x (Bq0 x) 64)) false
def F_rs:LF:=fun st k=>P_rs st (fun x n t=>G_rs x n t k) false
def G_rt (x k0 t:Int) (k:Ex->St->Bool):Bool:=cond (lt64 x&&(ltk k0 x&&eqj t 0)) (k .ret ⟨fill 28 [(4,.int .i64 (nthI x k0)),(5,.int .i64 0)],[],⟨[],0,[]⟩⟩) false
def F_rt:LF:=fun st k=>P_rt st (fun x k0 t=>G_rt x k0 t k) false
def tzI (x:Int):Int:=(Bqu x.toNat 0:Nat)
def Bv1 (x k:Int):Int:=cond (ltk k x) 0 2
def Fth:List AV->Option (Bool × AV)
 | [.int .u64 x,.int .i64 k]=>some (lt64 x,.tup [.int .i64 (cond (ltk k x) (nthI x k) 0),.int .i64 (Bv1 x k)])
 | _=>none
def FB (P:Int->Int->Int) (pr:Int->Bool):List AV->Option (Bool × AV)
 | [.int .u64 x,.int .i64 n]=>some (pr n,.int .u64 (P x n))
 | _=>none
def Brc (P:Int->Int->Int) (pr:Int->Bool):Sum:=(170,FB P pr)
def Bud (P:Int->Int) (pr:Int->Bool):Sum:=(229,FA P pr)
def Bq6 (P:Int->Int) (pr:Int->Bool):Sum:=(94,FA P pr)
def B2l:Sum:=(170,Fbit)
theorem t_bit (x n:Int) (k:AV->Bool):Ai (cfg []) 300 170 [.int .u64 x,.int .i64 n] k false=(bif decide (n<0) then false else (k (AV.int .u64 (Int.tmod (ishr .u64 x n) 2)))):=by kernel_rfl
theorem s_bit:Bc Tryz.prog (Cb gs) B2l:=fun args r hr=>by
  simp only [B2l] at hr;unfold Fbit at hr;split at hr
  ·rename_i x n
   simp only [Option.some.injEq,Prod.mk.injEq,Dte,Bae] at hr;obtain ⟨hp,hr⟩:=hr;subst hr;refine Aq base Ap (n:=300) fun k hk=>?_
   refine (t_bit _ _ _).trans ?_;have h:¬ n<0:=by omega
   simpa [h,Bsp] using hk
  ·cases hr
theorem t_tz (x:Int) (k:AV->Bool):Ai (cfg []) 300 229 [.int .u64 x] k false=(bif decide (x=0) then (k (AV.int .i64 64)) else ((Ju (ishr .u64 (IntKind.wrap .u64 ((iand .u64 x (IntKind.wrap .u64 (0-x)))*285870213051353865)) 58) 64)&&((Nat.ble ((0+((Int.toNat (ishr .u64 (IntKind.wrap .u64 ((iand .u64 x (IntKind.wrap .u64 (0-x)))*285870213051353865)) 58))*1))+1) 64)&&((AV.isI .u8 (lget [.int .u8 0,.int .u8 1,.int .u8 56,.int .u8 2,.int .u8 57,.int .u8 49,.int .u8 28,.int .u8 3,.int .u8 61,.int .u8 58,.int .u8 42,.int .u8 50,.int .u8 38,.int .u8 29,.int .u8 17,.int .u8 4,.int .u8 62,.int .u8 47,.int .u8 59,.int .u8 36,.int .u8 45,.int .u8 43,.int .u8 51,.int .u8 22,.int .u8 53,.int .u8 39,.int .u8 33,.int .u8 30,.int .u8 24,.int .u8 18,.int .u8 12,.int .u8 5,.int .u8 63,.int .u8 55,.int .u8 48,.int .u8 27,.int .u8 60,.int .u8 41,.int .u8 37,.int .u8 16,.int .u8 46,.int .u8 35,.int .u8 44,.int .u8 21,.int .u8 52,.int .u8 32,.int .u8 23,.int .u8 11,.int .u8 54,.int .u8 26,.int .u8 40,.int .u8 15,.int .u8 34,.int .u8 20,.int .u8 31,.int .u8 10,.int .u8 25,.int .u8 14,.int .u8 19,.int .u8 9,.int .u8 13,.int .u8 8,.int .u8 7,.int .u8 6] (0+((Int.toNat (ishr .u64 (IntKind.wrap .u64 ((iand .u64 x (IntKind.wrap .u64 (0-x)))*285870213051353865)) 58))*1))))&&(k (AV.int .i64 (IntKind.wrap .i64 (AV.toI (lget [.int .u8 0,.int .u8 1,.int .u8 56,.int .u8 2,.int .u8 57,.int .u8 49,.int .u8 28,.int .u8 3,.int .u8 61,.int .u8 58,.int .u8 42,.int .u8 50,.int .u8 38,.int .u8 29,.int .u8 17,.int .u8 4,.int .u8 62,.int .u8 47,.int .u8 59,.int .u8 36,.int .u8 45,.int .u8 43,.int .u8 51,.int .u8 22,.int .u8 53,.int .u8 39,.int .u8 33,.int .u8 30,.int .u8 24,.int .u8 18,.int .u8 12,.int .u8 5,.int .u8 63,.int .u8 55,.int .u8 48,.int .u8 27,.int .u8 60,.int .u8 41,.int .u8 37,.int .u8 16,.int .u8 46,.int .u8 35,.int .u8 44,.int .u8 21,.int .u8 52,.int .u8 32,.int .u8 23,.int .u8 11,.int .u8 54,.int .u8 26,.int .u8 40,.int .u8 15,.int .u8 34,.int .u8 20,.int .u8 31,.int .u8 10,.int .u8 25,.int .u8 14,.int .u8 19,.int .u8 9,.int .u8 13,.int .u8 8,.int .u8 7,.int .u8 6] (0+((Int.toNat (ishr .u64 (IntKind.wrap .u64 ((iand .u64 x (IntKind.wrap .u64 (0-x)))*285870213051353865)) 58))*1))))))))))):=by kernel_rfl
abbrev zez0:=Mem.mk [] 0 []
theorem t_thb (P:Int->Int) (pr:Int->Bool) (R:Int->Int) (pt:Int->Bool) (m k0 i:Int) (k:Ex->St->Bool):run (cfg [(Brh P pr),(Bud R pt)]) 100 none none (Fv (Ef Tryz.prog 163) [0]) (Bys m k0 i) (fun e s=>k e (Qj [0,14,15] s)) false=(bif decide (i<k0) then (k Ex.normal (St.mk [.int .u64 (iand .u64 m (IntKind.wrap .u64 (m-1))),.any,.any,.any,.any,.any,.any,.any,.any,.any,.any,.any,.any,.any,.int .i64 k0,.int .i64 (IntKind.wrap .i64 (i+1)),.any,.any,.any,.any,.any,.any,.any,.any] [] zez0)) else (k (Ex.exit 0) (St.mk [.int .u64 m,.any,.any,.any,.any,.any,.any,.any,.any,.any,.any,.any,.any,.any,.int .i64 k0,.int .i64 i,.any,.any,.any,.any,.any,.any,.any,.any] [] zez0))):=by kernel_rfl
section
variable (B:Int->Int->Int) (pb:Int->Bool)
theorem t_rsb (x n t:Int) (k:Ex->St->Bool):run (cfg [(Brc B pb)]) 100 none none (Fv (Ef Tryz.prog 94) [0]) (Byt x n t) (fun e s=>k e (Qj [0,3,4] s)) false=(bif decide (t<64) then ((pb t)&&(bif decide ((B x t)=1) then (k Ex.normal (St.mk [.int .u64 x,.any,.any,.int .i64 (IntKind.wrap .i64 (n+1)),.int .i64 (IntKind.wrap .i64 (t+1)),.any,.any,.any,.any,.any,.any,.any,.any,.any,.any,.any] [] zez0)) else (k Ex.normal (St.mk [.int .u64 x,.any,.any,.int .i64 n,.int .i64 (IntKind.wrap .i64 (t+1)),.any,.any,.any,.any,.any,.any,.any,.any,.any,.any,.any] [] zez0)))) else (k (Ex.exit 0) (St.mk [.int .u64 x,.any,.any,.int .i64 n,.int .i64 t,.any,.any,.any,.any,.any,.any,.any,.any,.any,.any,.any] [] zez0))):=by kernel_rfl
theorem t_rtb (P:Int->Int) (pr:Int->Bool) (x k0 t:Int) (k:Ex->St->Bool):run (cfg [(Brc B pb),(Bq6 P pr)]) 100 none none (Fv (Ef Tryz.prog 95) [0]) (Bzz x k0 t) (fun e s=>k e (Qj [0,1,4,5,6] s)) false=(bif decide (t<64) then ((pb t)&&(bif decide ((B x t)=1) then (bif decide (k0=0) then (k Ex.ret (St.mk [.int .u64 x,.int .i64 k0,.any,.any,.int .i64 t,.int .i64 0,.int .i64 t,.any,.any,.any,.any,.any,.any,.any,.any,.any,.any,.any,.any,.any,.any,.any,.any,.any,.any,.any,.any,.any] [] zez0)) else (k Ex.normal (St.mk [.int .u64 x,.int .i64 (IntKind.wrap .i64 (k0-1)),.any,.any,.any,.any,.int .i64 (IntKind.wrap .i64 (t+1)),.any,.any,.any,.any,.any,.any,.any,.any,.any,.any,.any,.any,.any,.any,.any,.any,.any,.any,.any,.any,.any] [] zez0))) else (k Ex.normal (St.mk [.int .u64 x,.int .i64 k0,.any,.any,.any,.any,.int .i64 (IntKind.wrap .i64 (t+1)),.any,.any,.any,.any,.any,.any,.any,.any,.any,.any,.any,.any,.any,.any,.any,.any,.any,.any,.any,.any,.any] [] zez0)))) else (k (Ex.exit 0) (St.mk [.int .u64 x,.int .i64 k0,.any,.any,.any,.any,.int .i64 t,.any,.any,.any,.any,.any,.any,.any,.any,.any,.any,.any,.any,.any,.any,.any,.any,.any,.any,.any,.any,.any] [] zez0))):=by kernel_rfl
theorem t_rs (x:Int) (k:AV->Bool):Aqs (cfg [(Brc B pb)]) 300 94 [F_rs] [.int .u64 x] k=(((BasZCounts.lt64 x)&&true)&&(k (AV.int .i64 (Bq0 x)))):=by kernel_rfl
end
theorem t_th (P:Int->Int) (pr:Int->Bool) (R:Int->Int) (pt:Int->Bool) (x n:Int) (k:AV->Bool):Aqs (cfg [(Brh P pr),(Bud R pt)]) 300 163 [F_th] [.int .u64 x,.int .i64 n] k=(bif decide (n<0) then (k (AV.tup [.int .i64 0,.int .i64 2])) else ((pr x)&&(bif decide (n>=(P x)) then (k (AV.tup [.int .i64 0,.int .i64 2])) else (((BasZCounts.lt64 x)&&((BasZCounts.ltk n x)&&true))&&((pt (BasZCounts.clrI x n))&&(k (AV.tup [.int .i64 (R (BasZCounts.clrI x n)),.int .i64 0]))))))):=by kernel_rfl
theorem t_rt (B:Int->Int->Int) (pb:Int->Bool) (P:Int->Int) (pr:Int->Bool) (x n:Int) (k:AV->Bool):Aqs (cfg [(Brc B pb),(Bq6 P pr)]) 300 95 [F_rt] [.int .u64 x,.int .i64 n] k=(bif decide (n<0) then (k (AV.tup [.int .i64 0,.int .i64 2])) else ((pr x)&&(bif decide (n>=(P x)) then (k (AV.tup [.int .i64 0,.int .i64 2])) else (((BasZCounts.lt64 x)&&((BasZCounts.ltk n x)&&true))&&(k (AV.tup [.int .i64 (BasZCounts.nthI x n),.int .i64 0])))))):=by kernel_rfl
end
end Go.Bas.BasZCounts
end
section
namespace Go.Bas.BasZCounts2
open Go.RowKit Go.Proofs BasZBase BasZPop BasZCounts
theorem Bq5 {x:Int}:lt64 x=true ↔ 0<=x/\x<18446744073709551616:=by simp [lt64]
theorem Brm {k x:Int}:ltk k x=true ↔ 0<=k/\k<Bq0 x:=by simp [ltk]
theorem B36 {x:Int}:prS x=lt64 x:=by
 rw [Bool.eq_iff_iff,Bq5]
 simp [prS]
def idx (t:Nat):Nat:=2 ^ t*285870213051353865 % 18446744073709551616 / 288230376151711744
theorem tab:((List.range 64).all fun t=>Nat.blt (idx t) 64&&((lget Bk8 (idx t)).isI .u8&&decide ((lget Bk8 (idx t)).toI=(t:Int))))=true:=by kernel_rfl
theorem tab' {t:Nat} (h:t<64):idx t<64/\(lget Bk8 (idx t)).isI .u8=true/\(lget Bk8 (idx t)).toI=(t:Int):=by
 have:=List.all_eq_true.1 tab t (List.mem_range.2 h)
 simp only [Bae,Dte] at this
 exact ⟨B1l.1 this.1,this.2.1,this.2.2⟩
theorem Bz0 (a:Nat):IntKind.wrap .u64 (a:Int)=((a % 18446744073709551616:Nat):Int):=by
 unfold IntKind.wrap
 simp [IntKind.bits,IntKind.signed]
theorem Bz1 {x:Int} (h0:0<x) (h1:x<18446744073709551616):IntKind.wrap .u64 (0-x)=18446744073709551616-x:=by
 unfold IntKind.wrap
 simp [IntKind.bits,IntKind.signed]
 omega
def prT (x:Int):Bool:=lt64 x&&!eqj x 0
theorem Bxz {n:Nat} (h:0<n) (hn:n<18446744073709551616):0<cnt 64 n:=by
 rcases Nat.eq_zero_or_pos (cnt 64 n) with e|e
 ·have:=Bur hn
  rw [e] at this;have:n=0:=this;omega
 ·exact e
theorem Bz2 {n:Nat} (h:0<n) (hn:n<18446744073709551616):iand .u64 (n:Int) (IntKind.wrap .u64 (0-(n:Int)))=((2 ^ Bqu n 0:Nat):Int):=by
 have hl:Low n (Bqu n 0):=Bt0 (x:=n) (k:=0) (Bxz h hn)
 rw [Bz1 (by omega) (by omega),show (18446744073709551616:Int)-(n:Int)=((18446744073709551616-n:Nat):Int) by omega,Btl hn (by omega),hl.alone' hn h]
theorem B37 {n:Nat} (h:0<n) (hn:n<18446744073709551616):ishr .u64 (IntKind.wrap .u64 (iand .u64 (n:Int) (IntKind.wrap .u64 (0-(n:Int)))*285870213051353865)) 58=((idx (Bqu n 0):Nat):Int):=by
 have e58:(2:Nat) ^ 58=288230376151711744:=by decide
 have e1:((2 ^ Bqu n 0:Nat):Int)*285870213051353865=((2 ^ Bqu n 0*285870213051353865:Nat):Int):=(Int.natCast_mul _ 285870213051353865).symm
 have e2:=Bs3 (a:=2 ^ Bqu n 0*285870213051353865 % 18446744073709551616) (k:=58) (by decide)
 rw [e58] at e2
 rw [Bz2 h hn,e1,Bz0]
 exact e2
theorem tz_of (x:Int) (k:AV->Bool) (h0:0<x) (h1:x<18446744073709551616) (hk:k (.int .i64 (tzI x))=true):Ai (cfg []) 300 229 [.int .u64 x] k false=true:=by
 obtain ⟨n,rfl⟩:=Int.eq_ofNat_of_zero_le (Int.le_of_lt h0)
 have hn:n<18446744073709551616:=by omega
 have hpos:0<n:=by omega
 have hne:¬ (n:Int)=0:=by omega
 obtain ⟨p1,p2,p3⟩:=Bw8 (Bxz hpos hn)
 obtain ⟨q1,q2,q3⟩:=tab' p3
 have q3':IntKind.wrap .i64 ((lget Bk8 (idx (Bqu n 0))).toI)=tzI (n:Int):=by
  rw [q3];exact Btk (a:=Bqu n 0) (by omega)
 have hcells:Bk8=[.int .u8 0,.int .u8 1,.int .u8 56,.int .u8 2,.int .u8 57,.int .u8 49,.int .u8 28,.int .u8 3,.int .u8 61,.int .u8 58,.int .u8 42,.int .u8 50,.int .u8 38,.int .u8 29,.int .u8 17,.int .u8 4,.int .u8 62,.int .u8 47,.int .u8 59,.int .u8 36,.int .u8 45,.int .u8 43,.int .u8 51,.int .u8 22,.int .u8 53,.int .u8 39,.int .u8 33,.int .u8 30,.int .u8 24,.int .u8 18,.int .u8 12,.int .u8 5,.int .u8 63,.int .u8 55,.int .u8 48,.int .u8 27,.int .u8 60,.int .u8 41,.int .u8 37,.int .u8 16,.int .u8 46,.int .u8 35,.int .u8 44,.int .u8 21,.int .u8 52,.int .u8 32,.int .u8 23,.int .u8 11,.int .u8 54,.int .u8 26,.int .u8 40,.int .u8 15,.int .u8 34,.int .u8 20,.int .u8 31,.int .u8 10,.int .u8 25,.int .u8 14,.int .u8 19,.int .u8 9,.int .u8 13,.int .u8 8,.int .u8 7,.int .u8 6]:=rfl
 rw [hcells] at q2 q3'
 have q4:Ju ((idx (Bqu n 0):Nat):Int) 64=true:=by simp only [Ju,Bae,Dte];omega
 have q5:Nat.ble (idx (Bqu n 0)+1) 64=true:=Nat.ble_eq_true_of_le q1
 have e0:0+Int.toNat ((idx (Bqu n 0):Nat):Int)*1=idx (Bqu n 0):=by rw [Int.toNat_natCast,Nat.mul_one,Nat.zero_add]
 rw [t_tz,B37 hpos hn,e0,q4,q5,q2,q3']
 exact condI (fun h=>absurd (Odt h) hne) (fun _=>hk)
theorem s_tz:Bc Tryz.prog (Cb gs) (Bud tzI prT):=fun args r hr=>by
 simp only [Bud] at hr
 unfold FA at hr
 split at hr
 ·rename_i x
  simp only [Option.some.injEq,Prod.mk.injEq,prT,Bae,Bq5,eqj,Bool.not_eq_true',Dni] at hr;obtain ⟨⟨⟨h0,h1⟩,hne⟩,rfl⟩:=hr;exact Aq base Ap (n:=300) fun k hk=>tz_of x k (by omega) h1 hk
 ·cases hr
theorem hT:(cfg [Brh Bq0 prS,Bud tzI prT]).Ok:=Xx base (Ah Bvb (Ah s_tz Ap))
def pB (t:Int):Bool:=decide (0<=t)
theorem Bvd:Bc Tryz.prog (Cb gs) (Brc Bsp pB):=fun args r h=>s_bit args r (by
 simp only [Brc,FB] at h
 split at h
 ·exact h
 ·cases h)
theorem hB:(cfg [Brc Bsp pB]).Ok:=Xx base (Ah Bvd Ap)
theorem B1p:Akt (Ef Tryz.prog 163) 0=.loop (Fv (Ef Tryz.prog 163) [0]):=by kernel_rfl
theorem B1q:Akt (Ef Tryz.prog 94) 0=.loop (Fv (Ef Tryz.prog 94) [0]):=by kernel_rfl
theorem B1r:Akt (Ef Tryz.prog 95) 0=.loop (Fv (Ef Tryz.prog 95) [0]):=by kernel_rfl
theorem Bz3:Dx (Ef Tryz.prog 163)=[Akt (Ef Tryz.prog 163) 0]:=by kernel_rfl
theorem Bz4:Dx (Ef Tryz.prog 94)=[Akt (Ef Tryz.prog 94) 0]:=by kernel_rfl
theorem Bz5:Dx (Ef Tryz.prog 95)=[Akt (Ef Tryz.prog 95) 0]:=by kernel_rfl
theorem Bw9 (x:Nat):∀ i,clr i x<=x
 | 0=>Nat.le_refl _
 | i+1=>Nat.le_trans Nat.and_le_left (Bw9 x i)
theorem Bx0 {x i:Nat} (h:i<cnt 64 x):0<clr i x:=by
 have:=(Bt0 h).on
 rcases Nat.eq_zero_or_pos (clr i x) with e|e
 ·rw [e,Nat.zero_testBit] at this;cases this
 ·exact e
theorem B1s:∀ (m k0 i:Int) (k:Ex->St->Bool),G_th m k0 i k=true->AWq (cfg [Brh Bq0 prS,Bud tzI prT]) (Akt (Ef Tryz.prog 163) 0) (Bys m k0 i) (fun e s=>k e s=true):=by
 intro m k0 i k hG
 unfold G_th at hG
 rcases Dt hG with ⟨hok,hG2⟩|⟨_,hG2⟩
 case inr=>cases hG2
 clear hG
 simp only [Bae,Bq5,Brm,eqj,Dte] at hok
 obtain ⟨⟨h0,h1⟩,⟨h2,h3⟩,rfl⟩:=hok
 obtain ⟨x,rfl⟩:=Int.eq_ofNat_of_zero_le h0
 obtain ⟨q,rfl⟩:=Int.eq_ofNat_of_zero_le h2
 have hx:x<18446744073709551616:=by omega
 have hq:q<cnt 64 x:=by unfold Bq0 at h3;rw [Int.toNat_natCast] at h3;omega
 have hc64:=Bt5 64 x
 have hcl:clrI (x:Int) (q:Int)=((clr q x:Nat):Int):=by simp [clrI]
 rw [hcl] at hG2
 rw [B1p]
 show AWq _ _ (Bys ((clr 0 x:Nat):Int) (q:Int) ((0:Nat):Int)) _
 refine AWq.loop (K:=fun e s=>k e s=true) (fun i:{ i:Nat // i<=q }=>Bys ((clr i.1 x:Nat):Int) (q:Int) ((i.1:Nat):Int)) (fun i=>q-i.1) ?_ ⟨0,Nat.zero_le _⟩
 rintro ⟨i,hi⟩
 refine AWq.runK hT [0,14,15] (n:=100) fun k' hk=>?_
 refine (t_thb Bq0 prS tzI prT ((clr i x:Nat):Int) (q:Int) ((i:Nat):Int) k').trans ?_
 refine condI (fun h=>?_) (fun h=>?_)
 ·have hlt:i<q:=by have:=Odt h;omega
  have hp:=Bx0 (show i<cnt 64 x by omega)
  have hle:=Bw9 x i
  have e1:IntKind.wrap .u64 (((clr i x:Nat):Int)-1)=((clr i x-1:Nat):Int):=by
   rw [show ((clr i x:Nat):Int)-1=((clr i x-1:Nat):Int) by omega]
   exact Btj (by omega)
  have e2:iand .u64 ((clr i x:Nat):Int) ((clr i x-1:Nat):Int)=((clr (i+1) x:Nat):Int):=Btl (by omega) (by omega)
  have e3:IntKind.wrap .i64 (((i:Nat):Int)+1)=((i+1:Nat):Int):=Btk (a:=i+1) (by omega)
  rw [e1,e2,e3];exact hk .normal _ ⟨⟨i+1,hlt⟩,by show q-(i+1)<q-i;omega,Less.refl _⟩
 ·have hge:i=q:=by have:=Odf h;omega
  subst hge;refine hk (.exit 0) _ ⟨_,LessS.refl _,?_⟩;exact hG2
theorem B1t:∀ (x n t:Int) (k:Ex->St->Bool),G_rs x n t k=true->AWq (cfg [Brc Bsp pB]) (Akt (Ef Tryz.prog 94) 0) (Byt x n t) (fun e s=>k e s=true):=by
 intro x n t k hG
 unfold G_rs at hG
 rcases Dt hG with ⟨hok,hG2⟩|⟨_,hG2⟩
 case inr=>cases hG2
 clear hG
 simp only [Bae,Bq5,eqj,Dte] at hok
 obtain ⟨⟨h0,h1⟩,rfl,rfl⟩:=hok
 rw [B1q]
 show AWq _ _ (Byt x ((cnt 0 x.toNat:Nat):Int) ((0:Nat):Int)) _
 refine AWq.loop (K:=fun e s=>k e s=true) (fun t:{ t:Nat // t<=64 }=>Byt x ((cnt t.1 x.toNat:Nat):Int) ((t.1:Nat):Int)) (fun t=>64-t.1) ?_ ⟨0,Nat.zero_le _⟩
 rintro ⟨t,ht⟩
 refine AWq.runK hB [0,3,4] (n:=100) fun k' hk=>?_
 refine (t_rsb Bsp pB x ((cnt t x.toNat:Nat):Int) ((t:Nat):Int) k').trans ?_
 refine condI (fun h=>?_) (fun h=>?_)
 ·have hlt:t<64:=by have:=Odt h;omega
  have hle:=Bt5 t x.toNat;have e3:IntKind.wrap .i64 (((t:Nat):Int)+1)=((t+1:Nat):Int):=Btk (a:=t+1) (by omega)
  have hs:=Bt6 t x.toNat;rw [e3,Bzg h0 ht];refine andI (Ddt (by omega)) (condI (fun hb=>?_) (fun hb=>?_))
  ·have hb:=Odt hb
   have e4:IntKind.wrap .i64 (((cnt t x.toNat:Nat):Int)+1)=((cnt (t+1) x.toNat:Nat):Int):=by
    rw [hs,show x.toNat / 2 ^ t % 2=1 by omega]
    exact Btk (a:=cnt t x.toNat+1) (by omega)
   rw [e4];exact hk .normal _ ⟨⟨t+1,hlt⟩,by show 64-(t+1)<64-t;omega,Less.refl _⟩
  ·have hb:=Odf hb
   have e4:cnt (t+1) x.toNat=cnt t x.toNat:=by
    rw [hs,show x.toNat / 2 ^ t % 2=0 by omega,Nat.add_zero]
   rw [<- e4];exact hk .normal _ ⟨⟨t+1,hlt⟩,by show 64-(t+1)<64-t;omega,Less.refl _⟩
 ·have hge:t=64:=by have:=Odf h;omega
  subst hge;exact hk (.exit 0) _ ⟨_,LessS.refl _,hG2⟩
theorem rs_ok:LoopsOk (cfg [Brc Bsp pB]) (Dx (Ef Tryz.prog 94)) [F_rs]:=by
 rw [Bz4]
 exact ⟨fun st k h=>B1n B1t st k h,trivial⟩
theorem th_ok:LoopsOk (cfg [Brh Bq0 prS,Bud tzI prT]) (Dx (Ef Tryz.prog 163)) [F_th]:=by
 rw [Bz3]
 exact ⟨fun st k h=>B1m B1s st k h,trivial⟩
theorem Bve:Bc Tryz.prog (Cb gs) (Bq6 Bq0 lt64):=fun args r hr=>by
 simp only [Bq6] at hr
 unfold FA at hr
 split at hr
 ·rename_i x
  simp only [Option.some.injEq,Prod.mk.injEq] at hr;obtain ⟨hp,rfl⟩:=hr;refine Aar base (Ah Bvd Ap) (n:=300) (fs:=[F_rs]) (by kernel_rfl) rs_ok fun k hk=>?_
  refine (t_rs Bsp pB x k).trans ?_;rw [hp];exact hk
 ·cases hr
theorem hBR:(cfg [Brc Bsp pB,Bq6 Bq0 lt64]).Ok:=Xx base (Ah Bvd (Ah Bve Ap))
theorem B1u:∀ (x k0 t:Int) (k:Ex->St->Bool),G_rt x k0 t k=true->AWq (cfg [Brc Bsp pB,Bq6 Bq0 lt64]) (Akt (Ef Tryz.prog 95) 0) (Bzz x k0 t) (fun e s=>k e s=true):=by
 intro x k0 t k hG
 unfold G_rt at hG
 rcases Dt hG with ⟨hok,hG2⟩|⟨_,hG2⟩
 case inr=>cases hG2
 clear hG
 simp only [Bae,Bq5,Brm,eqj,Dte] at hok
 obtain ⟨⟨h0,h1⟩,⟨h2,h3⟩,rfl⟩:=hok
 obtain ⟨q,rfl⟩:=Int.eq_ofNat_of_zero_le h2
 have hq:q<cnt 64 x.toNat:=by unfold Bq0 at h3;omega
 have hc64:=Bt5 64 x.toNat
 rw [B1r]
 show AWq _ _ (Bzz x ((q-cnt 0 x.toNat:Nat):Int) ((0:Nat):Int)) _
 refine AWq.loop (K:=fun e s=>k e s=true) (fun t:{ t:Nat // t<=64/\cnt t x.toNat<=q }=>Bzz x ((q-cnt t.1 x.toNat:Nat):Int) ((t.1:Nat):Int)) (fun t=>64-t.1) ?_ ⟨0,Nat.zero_le _,Nat.zero_le _⟩
 rintro ⟨t,ht,hct⟩
 refine AWq.runK hBR [0,1,4,5,6] (n:=100) fun k' hk=>?_
 refine (t_rtb Bsp pB Bq0 lt64 x ((q-cnt t x.toNat:Nat):Int) ((t:Nat):Int) k').trans ?_
 refine condI (fun h=>?_) (fun h=>?_)
 ·have hlt:t<64:=by have:=Odt h;omega
  have e3:IntKind.wrap .i64 (((t:Nat):Int)+1)=((t+1:Nat):Int):=Btk (a:=t+1) (by omega)
  have hs:=Bt6 t x.toNat;rw [e3,Bzg h0 ht];refine andI (Ddt (by omega)) (condI (fun hb=>?_) (fun hb=>?_))
  ·have hb:=Odt hb
   have hb1:x.toNat / 2 ^ t % 2=1:=by omega
   refine condI (fun hz=>?_) (fun hz=>?_)
   ·have hz:=Odt hz
    have hn:Bqu x.toNat q=t:=Bw7 (by rw [Nat.testBit_eq_decide_div_mod_eq,hb1];rfl) (by omega) hlt
    have hnI:nthI x (q:Int)=(t:Int):=by unfold nthI;rw [Int.toNat_natCast,hn]
    rw [hnI] at hG2;refine hk .ret _ ⟨_,LessS.fill rfl (Bz rfl (Bz rfl P6)) rfl rfl,hG2⟩
   ·have hz:=Odf hz
    have e4:IntKind.wrap .i64 (((q-cnt t x.toNat:Nat):Int)-1)=((q-cnt (t+1) x.toNat:Nat):Int):=by
     rw [hs,hb1,show ((q-cnt t x.toNat:Nat):Int)-1=((q-(cnt t x.toNat+1):Nat):Int) by omega]
     exact Btk (by omega)
    rw [e4];exact hk .normal _ ⟨⟨t+1,hlt,by rw [hs,hb1];omega⟩,by show 64-(t+1)<64-t;omega,Less.refl _⟩
  ·have hb:=Odf hb
   have e4:cnt (t+1) x.toNat=cnt t x.toNat:=by
    rw [hs,show x.toNat / 2 ^ t % 2=0 by omega,Nat.add_zero]
   rw [<- e4];exact hk .normal _ ⟨⟨t+1,hlt,by rw [e4];exact hct⟩,by show 64-(t+1)<64-t;omega,Less.refl _⟩
 ·have hge:t=64:=by have:=Odf h;omega
  subst hge;omega
theorem rt_ok:LoopsOk (cfg [Brc Bsp pB,Bq6 Bq0 lt64]) (Dx (Ef Tryz.prog 95)) [F_rt]:=by
 rw [Bz5]
 exact ⟨fun st k h=>B1o B1u st k h,trivial⟩
def Bz6:Sum:=(163,Fth)
def Bv2:Sum:=(95,Fth)
theorem s_th:Bc Tryz.prog (Cb gs) Bz6:=fun args r hr=>by
 simp only [Bz6] at hr
 unfold Fth at hr
 split at hr
 ·rename_i x n
  simp only [Option.some.injEq,Prod.mk.injEq] at hr;obtain ⟨hp,rfl⟩:=hr;refine Aar base (Ah Bvb (Ah s_tz Ap)) (n:=300) (fs:=[F_th]) (by kernel_rfl) th_ok fun k hk=>?_
  refine (t_th Bq0 prS tzI prT x n k).trans ?_;rw [B36,hp];cases hk0:ltk n x with
  | false =>
   rw [Bv1,hk0] at hk;refine condI (fun _=>hk) (fun a=>andI rfl (condI (fun _=>hk) (fun b=>?_)))
   have a:=Odf a;have b:=Odf b;have:ltk n x=true:=Brm.2 ⟨by omega,by omega⟩
   rw [hk0] at this;cases this
  | true =>
   rw [Bv1,hk0] at hk;obtain ⟨a,b⟩:=Brm.1 hk0;obtain ⟨h0,h1⟩:=Bq5.1 hp;obtain ⟨y,rfl⟩:=Int.eq_ofNat_of_zero_le h0;obtain ⟨q,rfl⟩:=Int.eq_ofNat_of_zero_le a;have hy:y<18446744073709551616:=by omega
   have hq:q<cnt 64 y:=by unfold Bq0 at b;rw [Int.toNat_natCast] at b;omega
   have hp1:=Bx0 hq;have hle:=Bw9 y q
   have hpr:prT (clrI (y:Int) (q:Int))=true:=by
    have e:clrI (y:Int) (q:Int)=((clr q y:Nat):Int):=by simp [clrI]
    have e1:lt64 ((clr q y:Nat):Int)=true:=Bq5.2 ⟨by omega,by omega⟩
    have e2:eqj ((clr q y:Nat):Int) 0=false:=Ddf (by omega)
    rw [e,prT,e1,e2];rfl
   have htz:tzI (clrI (y:Int) (q:Int))=nthI (y:Int) (q:Int):=by
    have hl:=Bt0 hq
    have hc:0<cnt 64 (clr q y):=by
     rcases Nat.eq_zero_or_pos (cnt 64 (clr q y)) with e|e
     ·have:=Bur (x:=clr q y) (by omega)
      rw [e] at this;have:clr q y=0:=this;omega
     ·exact e
    have hl2:=Bt0 hc;have hl2:Low (clr q y) (Bqu (clr q y) 0):=hl2
    have:Bqu (clr q y) 0=Bqu y q:=by
     rcases Nat.lt_trichotomy (Bqu (clr q y) 0) (Bqu y q) with h|h|h
     ·have:=hl.off _ h
      rw [hl2.on] at this;cases this
     ·exact h
     ·have:=hl2.off _ h
      rw [hl.on] at this;cases this
    simp only [tzI,clrI,nthI,Int.toNat_natCast,this]
   have a1:¬ (q:Int)<0:=by omega
   have a2:¬ (q:Int)>=Bq0 (y:Int):=by omega
   simp only [a1,a2,decide_false,cond_false,hpr,htz,Bool.true_and];exact hk
 ·cases hr
theorem s_rth:Bc Tryz.prog (Cb gs) Bv2:=fun args r hr=>by
 simp only [Bv2] at hr
 unfold Fth at hr
 split at hr
 ·rename_i x n
  simp only [Option.some.injEq,Prod.mk.injEq] at hr;obtain ⟨hp,rfl⟩:=hr;refine Aar base (Ah Bvd (Ah Bve Ap)) (n:=300) (fs:=[F_rt]) (by kernel_rfl) rt_ok fun k hk=>?_
  refine (t_rt Bsp pB Bq0 lt64 x n k).trans ?_;rw [hp];cases hk0:ltk n x with
  | false =>
   rw [Bv1,hk0] at hk;refine condI (fun _=>hk) (fun a=>andI rfl (condI (fun _=>hk) (fun b=>?_)))
   have a:=Odf a;have b:=Odf b;have:ltk n x=true:=Brm.2 ⟨by omega,by omega⟩
   rw [hk0] at this;cases this
  | true =>
   rw [Bv1,hk0] at hk;obtain ⟨a,b⟩:=Brm.1 hk0;have a1:¬ n<0:=by omega
   have a2:¬ n>=Bq0 x:=by omega
   simp only [a1,a2,decide_false,cond_false,Bool.true_and];exact hk
 ·cases hr
end Go.Bas.BasZCounts2
end
section
namespace Go.Bas.BasZWork
noncomputable section
open Go.RowKit Go.Proofs
open BasZBase BasZOp BasZStage5 BasZPop BasZCounts BasZReg2 BasZOk
abbrev Bx1:Sum:=Brh Bq0 prS
theorem s_bsz:Bc Tryz.prog (Cb gs) Bx1:=Bvb
def pW (s:Stg) (d:Cel):Bool:=pS s&&(lt64 s.mask&&decide (0<=d.tag))
theorem w64 (n:Int):IntKind.wrap .u64 n<=18446744073709551615:=by
 simp only [IntKind.wrap,IntKind.signed,IntKind.bits]
 (try simp)<;>omega
theorem Bxb (l:Cel):Qh (Al6 l)=true:=by
 have h:=H7.1 (Bua l)
 have a:0<=Al6 l:=h.1
 have b:Al6 l<=255:=h.2.1
 unfold Qh
 rw [Ddt a,Ddt b]
 rfl
theorem Bxc {m:Int} (h:lt64 m=true):prS m=true:=by
 have:=Odt h
 unfold prS
 rw [Ddt this.1,Ddt this.2]
 rfl
end
end Go.Bas.BasZWork
end
section
namespace Go.Bas.BasZWnx
noncomputable section
open Go.RowKit Go.Proofs
open BasZBase BasZOp BasZRank2 BasZStage5 BasZPop BasZCounts BasZCounts2 BasZReg2 BasZOk BasZProg BasZWork
def sp_wnx:Sp:=sT [sG [sI .u8,sI .i64,sI .i64],sI .i64]
section
variable (c:Conf) (s:Stg) (d:Cel)
def A8y:AV:=Wv (cfg [Bq,Bva,Btz,Afo,Bx1,Bz6,Ase,Ab5]) 600 14 [c.av,s.av,d.av]
def Bqv:Int:=AV.toI (AV.ix (AV.ix (A8y c s d) 0) 0)
def Bqw:Int:=AV.toI (AV.ix (AV.ix (A8y c s d) 0) 1)
def Bqx:Int:=AV.toI (AV.ix (AV.ix (A8y c s d) 0) 2)
def Bqy:Int:=AV.toI (AV.ix (A8y c s d) 1)
def Bue:AV:=.tup [.agg [.int .u8 (Bqv c s d),.int .i64 (Bqw c s d),.int .i64 (Bqx c s d)],.int .i64 (Bqy c s d)]
end
def B2m:Sum:=(14,on3 Dp rStg Bza (fun c s d=>pW s d) (fun c s d=>Bue c s d))
theorem Bxd (c:Conf) (s:Stg) (d:Cel):sp_wnx.bd (A8y c s d)=Bue c s d:=by kernel_rfl
abbrev Gj:=cfg [Bq,Bva,Btz,Afo,Bx1,Bz6,Ase,Ab5]
abbrev zfc1 (s:Stg):=IntKind.wrap .u64 ((IntKind.wrap .u64 (s.1*65536))+65536)
abbrev Gi (d:Cel):=Frm.mk (Al6 d) (Br6 d) (Br7 d) (Br8 d) (Br9 d) (Bsa d) (Bsb d) (Brr d) (Brs d) (Brt d) (Bru d)
theorem t_wnx (c:Conf) (s:Stg) (d:Cel) (hpS:(decide (0<=s.1)&&decide (0<=s.3))=true) (h64:lt64 s.3=true) (h0:decide (0<=d.tag)=true) (hps:prS s.3=true) (hF:Ep (Bsg d)=true) (hW:Qh (Al6 d)=true):Ai Gj 600 14 [c.av,s.av,d.av] sp_wnx.has false=true:=Eq.trans (b:=(br (!decide ((Az c)=0)) true (ba (decide (0<=s.1)&&decide (0<=s.3)) (br (!decide ((chk mayP c s)=0)) true (br (!decide ((zif (chk mayP c s) (BasZStage5.jobK c s))=1)) true (br (decide (d.1>=(zfc1 s))) true (br (decide (d.1<(IntKind.wrap .u64 (s.1*65536)))) true (ba (BasZPop.prS s.3) (br (decide ((IntKind.wrap .i64 (Brj d))>=(Bq0 s.3))) true (ba (BasZCounts.lt64 s.3) (br (decide ((Bq4 d)=0)) true (ba (Ep (Gi d)) (br (!decide ((Fj c (Gi d))=0)) true (ba (Qh (Al6 d)) (br (!(Gs (Al6 d))) true (br (decide ((Bq4 d)>64)) true (br (decide ((IntKind.wrap .u64 (d.1+1))>=(zfc1 s))) true (br (decide ((Ee c (Gi d))=4)) (br (decide (s.2=1)) true true) (br (decide ((Ee c (Gi d))=2)) true true))))))))))))))))))) (by kernel_rfl) (bdt (fun h_1=>rfl) (fun h_1=>(band hpS (bdt (fun h_2=>rfl) (fun h_2=>(bdt (fun h_3=>rfl) (fun h_3=>(bdt (fun h_4=>rfl) (fun h_4=>(bdt (fun h_5=>rfl) (fun h_5=>(band hps (bdt (fun h_6=>rfl) (fun h_6=>(band h64 (bdt (fun h_7=>rfl) (fun h_7=>(band hF (bdt (fun h_8=>rfl) (fun h_8=>(band hW (bdt (fun h_9=>rfl) (fun h_9=>(bdt (fun h_10=>rfl) (fun h_10=>(bdt (fun h_11=>rfl) (fun h_11=>(bdt (fun h_12=>(bdt (fun h_13=>rfl) (fun h_13=>rfl))) (fun h_12=>(bdt (fun h_13=>rfl) (fun h_13=>rfl)))))))))))))))))))))))))))))))
theorem B1v (c:Conf) (s:Stg) (d:Cel) (h:pW s d=true):Ai Gj 600 14 [c.av,s.av,d.av] sp_wnx.has false=true:=t_wnx c s d (Aj h) (Aj (Af h)) (Af (Af h)) (Bxc (Aj (Af h))) (Bua d) (Bxb d)
theorem s_wnx:Bc Tryz.prog (Cb gs) B2m:=Hz fun c s d hp=>(H9 base (Ah Jn (Ah B3u (Ah B1a (Ah s_at (Ah s_bsz (Ah s_th (Ah s_pnx (Ah Bid Ap)))))))) (n:=600) sp_wnx (B1v c s d hp)).mono fun v_ hv_=>hv_.trans (Bxd c s d)
end
end Go.Bas.BasZWnx
end
