/- WorkNexts: what a helper does next is the document's. -/
import Derived.Test.YtjepofcbkojibaaGreatDoorBasW38
set_option maxRecDepth 100000
set_option maxHeartbeats 4000000
set_option linter.unusedVariables false
set_option linter.unusedSimpArgs false
namespace Go.Bas.BasZWNexts
open Go.RowKit Go.Proofs
open BasZBase BasZR14 BasZStage5 BasZCounts BasZR11 BasZWork BasZWnx BasZR25
theorem bif_t {b:Bool} (h:(bif b then true else false)=true):b=true:=by
 cases b
 ·cases h
 ·rfl
theorem pW_wf {s:Stg} {d:Cel} (s0:(Lit.int .u64 s.batch).wf=true) (s2:(Lit.int .u64 s.mask).wf=true) (d0:(Lit.int .u64 d.tag).wf=true) (d1:(Lit.int .u64 d.a).wf=true) (d2:(Lit.int .u64 d.b).wf=true) (d3:(Lit.int .u64 d.c).wf=true):(pW s d&&pos64 d)=true:=by
 have a:=Ob.1 s0
 have b:=Ob.1 s2
 have e:=Ob.1 d0
 have e1:=Ob.1 d1
 have e2:=Ob.1 d2
 have e3:=Ob.1 d3
 simp only [IntKind.min,IntKind.max,IntKind.signed,IntKind.bits] at a b e e1 e2 e3
 unfold pW pS lt64 pos64
 simp only [Bae,Dte]
 simp at a b e e1 e2 e3 ⊢
 omega
def sp_law:Sp:=sB
theorem t_law (c:Conf) (s:Stg) (d:Cel) (hp:(pW s d&&pos64 d)=true):Ai (cfg [B2m,B06]) 400 4 [c.av,s.av,d.av] (fun v=>sp_law.has v&&(bif AV.toB v then true else false)) false=true:=Eq.trans (b:=(ba (BasZWork.pW s d) (ba ((BasZWork.pW s d)&&(BasZR11.pos64 d)) (ba (decide ((Bqv c s d)=(Bqv c s d))&&(decide ((Bqw c s d)=(Bqw c s d))&&(decide ((Bqx c s d)=(Bqx c s d))&&true))) (ba (decide ((Bqy c s d)=(Bqy c s d))) true))))) (by kernel_rfl) (band (Aj hp) (band hp (band (A8 (Ddt rfl) (A8 (Ddt rfl) (Aw (Ddt rfl)))) (band (Ddt rfl) rfl))))
theorem law (c:Conf) (s:Stg) (d:Cel) (c0:(Lit.int .u8 c.ob).wf=true) (c1:(Lit.int .i64 c.ins).wf=true) (c2:(Lit.int .i64 c.thr).wf=true) (c3:(Lit.int .u8 c.kind).wf=true) (c4:(Lit.int .i64 c.str).wf=true) (c5:(Lit.int .i64 c.bits).wf=true) (c6:(Lit.int .i64 c.cap).wf=true) (c7:(Lit.int .i64 c.node).wf=true) (c8:(Lit.int .i64 c.batch).wf=true) (c9:(Lit.int .i64 c.chunk).wf=true) (c10:(Lit.int .u64 c.limit).wf=true) (c11:(Lit.int .u64 c.most).wf=true) (s0:(Lit.int .u64 s.batch).wf=true) (s1:(Lit.int .i64 s.number).wf=true) (s2:(Lit.int .u64 s.mask).wf=true) (s3:(Lit.int .i64 s.frm).wf=true) (d0:(Lit.int .u64 d.tag).wf=true) (d1:(Lit.int .u64 d.a).wf=true) (d2:(Lit.int .u64 d.b).wf=true) (d3:(Lit.int .u64 d.c).wf=true):ACalls Tryz.prog (Cb gs) 4 [c.av,s.av,d.av] (fun v=>v=.bool true):=by
 have h:=I4 (t_law c s d (pW_wf s0 s2 d0 d1 d2 d3))
 refine Aq base (Ah s_wnx (Ah B4z Ap)) (n:=400) fun k hk=>(h.2 k).trans ?_
 have e:=sp_law.ok _ (Aj h.1)
 rw [e]
 have hb:=bif_t (Af h.1)
 show k (.bool _)=true
 rw [hb]
 exact hk
end Go.Bas.BasZWNexts
