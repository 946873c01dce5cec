/- R. -/
import Derived.Test.YtjepofcbkojibaaGreatDoorBasW15
import Derived.Test.YtjepofcbkojibaaGreatDoorBasW37
set_option maxRecDepth 100000
set_option maxHeartbeats 4000000
set_option linter.unusedVariables false
set_option linter.unusedSimpArgs false
namespace Go.Bas.BasZR26
noncomputable section
open Go.RowKit Go.Proofs
open BasZOk BasZRef5b BasZR14 BasZRank BasZAt4 BasZProg BasZR17b
theorem okN {c:Conf} (h:(!decide (Az c=0))=true):c.ok=false:=by
 unfold Az at h
 cases hc:c.ok
 ·rfl
 ·rw [hc] at h;cases h
theorem okY {c:Conf} (h:(!decide (Az c=0))=false):c.ok=true:=BasZSign.okP (Ar h)
theorem cfgT {c:Conf} (h:(!(c.ok))=true):decide (Az c=0)=false:=by
 have e:=Oc h
 unfold Az
 rw [e]
 rfl
theorem Dk {c:Conf} (h:(!(c.ok))=false):decide (Az c=0)=true:=by
 have e:=Ar h
 unfold Az
 rw [e]
 rfl
theorem Afc {c:Conf} (h:(!decide (Az c=0))=true):decide (Az c=40)=true:=by
 have e:=okN h
 unfold Az
 rw [e]
 rfl
theorem hB_1 (z:Int) (c:Conf):Ol z c ⟨1,0,0⟩:=.inl ⟨.inl rfl,rfl,rfl⟩
theorem hB_2 (z:Int) (c:Conf):Ol z c ⟨2,0,0⟩:=.inl ⟨.inr (.inl rfl),rfl,rfl⟩
theorem Bkt {c:Conf} {i:Int} {f:Frm} (he:decide (Az c=0)=true) (hp:posH f=true) (h7:decide (Fj c f=0)=true) (i0:decide (i<0)=false) (i1:decide (i>=c.ins)=false):Ol (f_size_0 c) c ⟨10,i,f_pnx_1 c f⟩:=by
 have q:=Bpx he hp h7
 have i0:=Odf i0
 have i1:=Odf i1
 exact .inr (.inr (.inr (.inr (.inr ⟨rfl,(show 0<=i by omega),(show i<c.ins by omega),q.1,q.2⟩))))
theorem A9q {v:Int} (h:decide (v>1)=false):decide (v>=2)=false:=Ddf (by have:=Odf h;omega)
def prO (o:Opr):Bool:=posR o&&decide (o.kind<=255)
theorem Bku {o:Opr} (h:prO o=true):(decide (0<=o.kind)&&decide (o.kind<=255))=true:=A8 (Ddt (H8.1 (Aj h)).1.1) (Af h)
theorem A9r {o:Opr} (h:prO o=true):Ie o=true:=Aj (Aj h)
theorem Dv {f:Frm} (h:posH f=true):(decide (0<=f.kind)&&decide (f.kind<=255))=true:=A8 (Ddt (F5 h).1.1) (Ddt (F5 h).1.2)
end
end Go.Bas.BasZR26
