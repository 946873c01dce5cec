/- The engine, part T: regions that draw their order, in whatever order; The engine, part U: one operation of a region that draws its order, carried out whenever it may be;; The engine, part V: a region that draws its order: whatever is drawn, it comes to what the order of; The engine, part W: a run that comes to 'true' is the model's; The engine, part X: a region whose order is drawn; a loop Apw a function begins and ends; The engine, part Y: a run that comes to 'true' is the model's: the whole; and a function's run; The engine, part K: summaries asv a list, and a function's summary out of its run; The engine, part L: what a row's arguments read asv, seen abstractly; and a row's claim 'it returns. -/
import Derived.Test.YtjepofcbkojibaaGreatDoorBasW3
import Derived.ProofKit
set_option maxRecDepth 100000
set_option maxHeartbeats 4000000
set_option linter.unusedVariables false
set_option linter.unusedSimpArgs false
section
namespace Go.Bas
noncomputable section
open Go.RowKit
theorem Uu {l:List AV} {d:Nat} {v:AV} (h:lget l d=v):Va l d v=l:=by
 rw [Tn]
 rw [Ja] at h
 refine List.ext_getElem? fun i=>?_
 by_cases hi:i=d
 ·subst hi
  by_cases hl:i < l.length
  ·rw [List.getElem?_set_self hl]
   have:l[i]?=some (l.getD i .any):=by simp [hl]
   rw [this,h]
  ·rw [List.getElem?_eq_none (by simpa using Nat.le_of_not_lt hl),List.getElem?_eq_none (Nat.le_of_not_lt hl)]
 ·rw [List.getElem?_set_ne (Ne.symm hi)]
def Xt (ops:Array Oper) (tmps:List AV) (o:Oper):Option Bool:=O1 ops tmps o (fun _=>some true) (fun _=>some false) none
theorem Akl {Ω:Type} (ops:Array Oper) (tmps:List AV) (o:Oper) (x y:List AV->Ω) (z:Ω):O1 ops tmps o x y z=match Xt ops tmps o with
  | some true=>x tmps
  | some false=>y tmps
  | none=>z:=by
 unfold Xt O1
 split
 ·rfl
 ·rename_i j want hg
  split
  ·split
   ·split
    ·rename_i b hb
     cases b with
     | true=>rw [Uu hb];cases want <;> rfl
     | false=>rw [Uu hb];cases want <;> rfl
    ·rfl
    ·rfl
   ·rfl
  ·rfl
theorem Abx {ops:Array Oper} {tmps tmps':List AV} {o:Oper} (h:∀ t ∈ Aan ops o,lget tmps t=lget tmps' t):Xt ops tmps o=Xt ops tmps' o:=by
 unfold Xt O1
 split
 ·rfl
 ·rename_i j want hg
  split
  ·rename_i oj hoj
   split
   ·rename_i d hd
    have:lget tmps d=lget tmps' d:=h d (by simp [Aan,hg,hoj,hd])
    rw [this]
   ·rfl
  ·rfl
section
variable {C:Cfg} {w:World} {B oC oL:Nat->Prop} {ω:Nat->Option Nat} {nx nx0:Nat}
theorem Aby {B' own:Nat->Prop} {ops:Array Oper} {tmps:List AV} {arr:Array Value} {o:Oper} {b:Bool} (ht:RepL w B' own ω nx tmps arr) (h:Xt ops tmps o=some b):Region.wanted o (yielded ops arr)=b:=by
 have hk:O1 ops tmps o (fun _=>b) (fun _=>!b) false=true:=by
  rw [Akl,h];cases b <;> rfl
 rcases Abp ht hk with ⟨h1,h2⟩ | ⟨h1,h2⟩
 ·rw [h1];exact h2.symm
 ·rw [h1];cases b <;> simp_all
theorem A3m {ops:Array Oper} {tmps tmps':List AV} {o:Oper} (h:∀ t ∈ Aan ops o,lget tmps t=lget tmps' t):∀ x ∈ o.op.operands,evO C tmps x=evO C tmps' x:=fun x hx=>by
 cases x with
 | tmp t=>exact h t (by
   simp only [Aan,A3f,List.mem_append,List.mem_filterMap];exact .inl ⟨.tmp t,Array.mem_toList_iff.2 hx,rfl⟩)
 | _=>rfl
theorem Atq {Ω:Type} {ρ:Operand->AV} {op:Op} (hq:Afs op=true) {h h':Heap} {n n':Nat} (hh:∀ id,Jl (Ub ρ op) id=true->Dl h id=Dl h' id) (g:AV->Ω) (kv:AV->Heap->Nat->Ω) (hg:∀ v,g v=kv v h' n') (kc:Tgt->List AV->Ω) (kp:AV->Ω) (z:Ω) :
  aop C ρ h' n' op kv kc kp z=aop C ρ h n op (fun v _ _=>g v) kc kp z:=by
 have hg':(fun v=>kv v h' n')=g:=funext fun v=>(hg v).symm
 cases op <;> try cases hq
 case load t x =>
  simp only [aop];split
  ·rename_i id off hx
   rw [hh id (by simp [Ub,hx,Jl,(Ea id id).2 rfl])]
   split
   ·rw [hg']
   ·rfl
  ·rw [hg']
  ·rfl
 case call c =>
  simp only [Afs,Akd] at hq;simp only [aop,Ru];split at hq <;> rename_i hc
  ·rw [hc];simp only [];split
   ·rw [hg']
   ·rfl
  ·rw [hc];simp only [];rw [hg']
  ·rw [hc];simp only [];rw [hg']
  ·cases hq
 all_goals simp only [aop,hg]
 all_goals first | rfl | (split <;> simp [hg])
theorem Ay9 {ρ:Operand->AV} {e:Operand->Value} {B' own:Nat->Prop} (hρ:∀ x,Rep w B' own ω nx (ρ x) (e x)) {o:Oper} (hn:Ake o.op=true) {h:Heap} {n0:Nat} {kv:AV->Heap->Nat->Bool} {kc:Tgt->List AV->Bool} {kp:AV->Bool} (hk:aop C ρ h n0 o.op kv kc kp false=true) :
  ∃ (mk:Nat->AV) (cs:List AV) (el:TypeId) (p:Bool) (arr:Array Value) (u:Value),(execOp e o).run C.P w=.ok (.value u) (w.alloc (.cells arr el))/\kv (mk n0) ((n0,⟨cs,el,p⟩) :: h) (n0 + 1)=true/\RepL w B' own ω nx cs arr/\(p=true->cs.all (AV.noRef 2)=true) /\
   ((mk=(fun i=>.ptr i 0)/\u=.pointer (some ⟨w.heap.size,0,none⟩))\/∃ n cap sz,mk=(fun i=>.sl i 0 n sz true)/\u=.slice (some ⟨w.heap.size,0,none⟩) n cap/\n<=cap/\cap<=maxLen/\arr.size=cap * sz):=by
 have lift:∀ {s:Sem Value},Makes w B' own ω nx kv h n0 (s.run C.P w)->∃ (mk:Nat->AV) (cs:List AV) (el:TypeId) (p:Bool) (arr:Array Value) (u:Value),(do pure (Next.value (<- s)):Sem Next).run C.P w=.ok (.value u) (w.alloc (.cells arr el))/\kv (mk n0) ((n0,⟨cs,el,p⟩) :: h) (n0 + 1)=true/\RepL w B' own ω nx cs arr/\(p=true->cs.all (AV.noRef 2)=true) /\
   ((mk=(fun i=>.ptr i 0)/\u=.pointer (some ⟨w.heap.size,0,none⟩))\/∃ n cap sz,mk=(fun i=>.sl i 0 n sz true)/\u=.slice (some ⟨w.heap.size,0,none⟩) n cap/\n<=cap/\cap<=maxLen/\arr.size=cap * sz):=fun hm=>by
  obtain ⟨mk,cs,el,p,arr,u,h1,h2⟩:=hm;exact ⟨mk,cs,el,p,arr,u,by simp [h1,Sem.run,Result.andThen],h2⟩
 obtain ⟨dst,op,type,pos,after,guard⟩:=o
 cases op <;> simp only [aop] at hk <;> try cases hn
 case alloc t =>
  split at hk
  ·rename_i cs hz
   exact lift (Ad6 hz hk)
  ·cases hk
 case box t x =>
  split at hk
  ·rename_i cs hz
   exact lift (Aj5 (hρ x) hz hk)
  ·cases hk
 case buildSlice t len parts =>
  split at hk
  ·rename_i el hu
   split at hk
   ·rename_i i zs hi hz
    replace hk:=Bo hk;obtain ⟨hc,hk⟩:=hk
    obtain ⟨c1,c2⟩:=En hc;obtain ⟨p1,p2⟩:=Ac8 hρ parts;exact lift (Um hu hi hz c1 c2 p1 p2 hk)
   ·cases hk
  ·cases hk
 case makeSlice t l c=>exact lift (Wj (hρ l) (hρ c) hk)
theorem Rep.birth {B' own:Nat->Prop} {i b:Nat} (hi:ω i=none) {v:AV} {u:Value} (h:Rep w B' own ω nx v u):Rep w B' own (fun j=>if j=i then some b else ω j) nx v u :=
 h.mono (Nat.le_refl _) (fun _ _ h1 h2=>⟨rfl,h1,h2⟩) (fun id c hid hc=>⟨hid,(if_neg (fun e=>by rw [e,hi] at hc;cases hc)).trans hc⟩) (fun _ _ h=>h)
theorem MemSim.birth {m:Mem} (M:MemSim C w B oC oL ω m) {i:Nat} (hi:ω i=none) (hin:i < m.nx) (h0:nx0<=i) {cs:List AV} {el:TypeId} {p:Bool} {arr:Array Value} (hl:RepL w (Or2 B oL) oC ω m.nx cs arr) (hp:p=true->cs.all (AV.noRef 2)=true) :
  MemSim C (w.alloc (.cells arr el)) B (fun x=>oC x\/x=w.heap.size) oL (fun j=>if j=i then some w.heap.size else ω j) ⟨(i,⟨cs,el,p⟩) :: m.heap,m.nx,m.lp⟩ /\
  ExtR w oC oL ω nx0 (w.alloc (.cells arr el)) (fun x=>oC x\/x=w.heap.size) oL (fun j=>if j=i then some w.heap.size else ω j) nx0 /\
  (∀ n v u,Rep w (Or2 B oL) oC ω n v u->Rep (w.alloc (.cells arr el)) (Or2 B oL) (fun x=>oC x\/x=w.heap.size) (fun j=>if j=i then some w.heap.size else ω j) n v u):=by
 have hrow:∀ b n,rowSize w b=some n->rowSize (w.alloc (.cells arr el)) b=some n:=fun b n hr=>by
  have hlt:=Ry hr;simp only [rowSize,heap_alloc_old w _ hlt] at hr ⊢;exact hr
 have rep:∀ n v u,Rep w (Or2 B oL) oC ω n v u->Rep (w.alloc (.cells arr el)) (Or2 B oL) (fun x=>oC x\/x=w.heap.size) (fun j=>if j=i then some w.heap.size else ω j) n v u:=fun n v u h =>
  h.mono (by rw [World.size_alloc];exact Nat.le_succ _) (fun b hb h1 h2=>⟨heap_alloc_old w _ hb,fun hh=>hh.elim h1 (fun e=>by omega),h2⟩) (fun id c hid hc=>⟨hid,(if_neg (fun e=>by rw [e,hi] at hc;cases hc)).trans hc⟩) hrow
 have upd:∀ id c,ω id=some c->(if id=i then some w.heap.size else ω id)=some c:=fun id c hc=>by rw [if_neg (fun e=>by rw [e,hi] at hc;cases hc)];exact hc
 have E:ExtR w oC oL ω nx0 (w.alloc (.cells arr el)) (fun x=>oC x\/x=w.heap.size) oL (fun j=>if j=i then some w.heap.size else ω j) nx0:=by
  refine ⟨rfl,rfl,rfl,by rw [World.size_alloc];exact Nat.le_succ _,fun b hb _=>heap_alloc_old w _ hb,fun b hb=>?_,Nat.le_refl _,fun id hid=>if_neg (by omega),hrow⟩
  rcases hb with (hb | rfl) | hb
  ·exact .inl (.inl hb)
  ·exact .inr (Nat.le_refl _)
  ·exact .inl (.inr hb)
 have hnone:Dl m.heap i=none:=by
  cases hh:Dl m.heap i with
  | none=>rfl
  | some x=>obtain ⟨_,b,_,h2,_⟩:=M.hp.rel i x hh;rw [hi] at h2;cases h2
 have g0:=M.gl.ext (B':=B) (own:=Or2 oC oL) (own':=Or2 (fun x=>oC x\/x=w.heap.size) oL) (w':=w.alloc (.cells arr el)) (ω:=ω) (nx:=nx0) (fun g cells h=>(fun hh=>hh.elim (M.gb g cells h).1 (M.gb g cells h).2.1)) E
 refine ⟨⟨⟨fun id x hx=>?_,fun a b c ha hb h1 h2=>?_,fun b hb=>?_⟩,⟨fun id e he=>?_,fun a b l ha hb h1 h2=>?_,fun l hl=>?_⟩,g0.1,fun g cells h=>?_,fun b hb=>by have:=M.bl b hb;simp;omega⟩,E,rep⟩
 ·rw [Ei] at hx
  cases he:Nat.beq i id with
  | true =>
   have:=Dw he;subst this;simp only [he,cond_true,Option.some.injEq] at hx;subst hx;refine ⟨hin,w.heap.size,arr,if_pos rfl,.inr rfl,heap_alloc_new w _,Nat.le_of_eq hl.1,fun j hj=>?_⟩
   have:=Abj (hl.2 j hj) (p:=p) (fun e=>Y7 (hp e) j hj)
   exact rep _ _ _ this
  | false =>
   simp only [he,cond_false] at hx;obtain ⟨h1,b,arr',h2,h3,h4,h5,h6⟩:=M.hp.rel id x hx;exact ⟨h1,b,arr',upd id b h2,.inl h3,(heap_alloc_old w _ (M.hp.ob b h3)).trans h4,h5,fun j hj=>rep _ _ _ (h6 j hj)⟩
 ·have key:∀ a,(Dl ((i,(⟨cs,el,p⟩:HB)) :: m.heap) a).isSome=true->(if a=i then some w.heap.size else ω a)=some c->(a=i/\c=w.heap.size)\/(a ≠ i/\(Dl m.heap a).isSome=true/\ω a=some c/\c < w.heap.size):=fun a ha hc=>by
   by_cases hne:a=i
   ·subst hne
    rw [if_pos rfl] at hc;exact .inl ⟨rfl,(Option.some.inj hc).symm⟩
   ·rw [if_neg hne] at hc
    rw [Ei] at ha
    have hb:Nat.beq i a=false:=by
     cases hb:Nat.beq i a with
     | false=>rfl
     | true=>exact absurd (Dw hb).symm hne
    rw [hb] at ha;simp only [cond_false] at ha;obtain ⟨x,hx⟩:=Option.isSome_iff_exists.1 ha;obtain ⟨_,b',_,g2,g3,_⟩:=M.hp.rel a x hx;rw [hc] at g2;cases g2;exact .inr ⟨hne,ha,hc,M.hp.ob _ g3⟩
  rcases key a ha h1 with ⟨a1,a2⟩ | ⟨a1,a2,a3,a4⟩ <;> rcases key b hb h2 with ⟨b1,b2⟩ | ⟨b1,b2,b3,b4⟩
  ·omega
  ·omega
  ·omega
  ·exact M.hp.inj a b c a2 b2 a3 b3
 ·rcases hb with hb | rfl
  ·have:=M.hp.ob b hb;simp;omega
  ·simp
 ·obtain ⟨h1,l,h2,h3,h4⟩:=M.lp.rel id e he
  refine ⟨h1,l,upd id l h2,h3,?_⟩;have hheap:=heap_alloc_old w (.cells arr el) (M.lp.dis l h3).1;cases e with
  | dfb=>exact hheap.trans h4
  | lop s pend tmps params assign body d =>
   obtain ⟨r,k1,k2,k3,k4,k5,k6,k7,k8,k9,k10⟩:=h4;exact ⟨r,hheap.trans k1,k2,k3,k4,⟨k5.1,fun j hj=>rep _ _ _ (k5.2 j hj)⟩,k6,k7,k8,k9,upd _ _ k10⟩
 ·obtain ⟨x,hx⟩:=Option.isSome_iff_exists.1 ha
  obtain ⟨y,hy⟩:=Option.isSome_iff_exists.1 hb;obtain ⟨_,l1,a2,_⟩:=M.lp.rel a x hx;obtain ⟨_,l2,b2,_⟩:=M.lp.rel b y hy;have e1:=upd a l1 a2;have e2:=upd b l2 b2;rw [h1] at e1;cases e1;rw [h2] at e2;cases e2;exact M.lp.inj a b l ha hb a2 b2
 ·exact ⟨by have:=(M.lp.dis l hl).1;simp;omega,fun hh=>hh.elim (M.lp.dis l hl).2 (fun e=>by have:=(M.lp.dis l hl).1;omega)⟩
 ·obtain ⟨h1,h2,h3⟩:=M.gb g cells h
  exact ⟨fun hh=>hh.elim h1 (fun e=>by have:=(M.gl g cells h).1;omega),h2,h3⟩
theorem Marks.birth {i b:Nat} (hi:ω i=none):∀ {ds:List Nat} {xs:List Deferred},Marks ω nx ds xs->Marks (fun j=>if j=i then some b else ω j) nx ds xs
 | [],[],_=>trivial
 | d :: ds,x :: xs,h=>⟨⟨h.1.1,let ⟨r,h1,h2⟩:=h.1.2;⟨r,(if_neg (fun e=>by rw [e,hi] at h1;cases h1)).trans h1,h2⟩⟩,Marks.birth hi h.2⟩
 | [],_ :: _,h=>h.elim
 | _ :: _,[],h=>h.elim
end
end
end Go.Bas
end
section
namespace Go.Bas
open Go.RowKit
theorem Ext.weaken {w w':World} {own own':Nat->Prop} {ω ω':Nat->Option Nat} {nx nx' n0:Nat} (h:Ext w own ω nx w' own' ω' nx') (hn:n0<=nx):Ext w own ω n0 w' own' ω' n0 :=
 ⟨h.os,h.tape,h.output,h.size,h.old,h.owns,Nat.le_refl _,fun id hi=>h.om id (by omega),h.row⟩
theorem Ext.raise {w w':World} {own own':Nat->Prop} {ω ω':Nat->Option Nat} {nx nx' n0:Nat} (h:Ext w own ω nx w' own' ω' nx') (hn:nx'<=n0):Ext w own ω nx w' own' ω' n0 :=
 ⟨h.os,h.tape,h.output,h.size,h.old,h.owns,Nat.le_trans h.nxle hn,h.om,h.row⟩
section
variable {C:Cfg} {w:World} {B oC oL:Nat->Prop} {ω:Nat->Option Nat} {nx nx0:Nat}
theorem Aza {α:Type} {a b:α} (h:∀ k:α->Bool,k a=k b):a=b:=by
 classical
 have:=h (fun x=>decide (x=b))
 simp at this
 exact this
theorem A3n {ro:Option Nat} {o:Oper} {a:Act} {K:Act->World->Prop} {Q:Exit->Act->World->Prop} {f:FuncId} {us:Array Value} {R:Ending->World->Prop} (hd:∀ c,o.op ≠ .defer c)
  (hrun:(execOp a.eval o).run C.P w=.ok (.enter f us) w) (hc:CallsIn (Fr none) 0 C.P f us w R) (hR:∀ e w',R e w'->∃ u,e=.returned u/\K (a.put o.dst u) w'):o.wpIn (Fr ro) 0 C.P a w K Q:=by
 refine ⟨Xp _ _ _ _ _,?_⟩
 rw [Oper.semAt_eq _ _ _ hd,hrun,Oper.uponIn_enter]
 refine ⟨Aft ro,(Rz hc).mono fun e w' he=>?_⟩
 obtain ⟨u,rfl,hk⟩:=hR e w' he
 exact hk
theorem Azb (C:Cfg) (ρ:Operand->AV) (h:Heap) (n:Nat) (op:Op):aop C ρ h n op (fun _ _ _=>false) (fun _ _=>false) (fun _=>false) false=false :=
 (Za (fun _:Unit=>false) C ρ h n op (fun _ _ _=>()) (fun _ _=>()) (fun _=>()) ()).symm
theorem Azc {ρ:Operand->AV} {h:Heap} {n:Nat} {op:Op} {t:Tgt} {args:List AV} (ho:Aqf C ρ h n op=.call t args) (h':Heap) (n':Nat):Aqf C ρ h' n' op=.call t args:=by
 have no:(∀ kc kc':Tgt->List AV->Bool,aop C ρ h n op (fun _ _ _=>false) kc (fun _=>false) false=aop C ρ h n op (fun _ _ _=>false) kc' (fun _=>false) false)->False:=fun hk=>by
  have e1:=hk (fun _ _=>true) (fun _ _=>false)
  rw [Azb,Abq,ho] at e1;cases e1
 cases op <;> try exact (no fun _ _=>rfl).elim
 case call c =>
  cases hc:c.callee with
  | value f =>
   have e:∀ (h:Heap) (n:Nat),Aqf C ρ h n (.call c)=Ru C ρ [] 0 c .val .call .pan .no:=fun h n=>by simp only [Aqf,aop,Ru,hc]
   rw [e] at ho ⊢;exact ho
  | invoke r m =>
   have e:∀ (h:Heap) (n:Nat),Aqf C ρ h n (.call c)=Ru C ρ [] 0 c .val .call .pan .no:=fun h n=>by simp only [Aqf,aop,Ru,hc]
   rw [e] at ho ⊢;exact ho
  | builtin b =>
   refine (no fun _ _=>?_).elim
   simp only [aop,Ru,hc];cases b <;> rfl
def Done (C:Cfg) (w:World) (B oC oL:Nat->Prop) (ω:Nat->Option Nat) (nx0:Nat) (s:St) (rc:Rc) (a':Act) (w':World):Prop :=
 ∃ oC' oL' ω',Sim C w' B oC' oL' ω' (Ci s rc) a'/\ExtR w oC oL ω nx0 w' oC' oL' ω' nx0/\(∀ i,i < s.m.nx->(∀ hb,rc.eff ≠ .new i hb)->ω i=none->ω' i=none)/\s.m.nx<=(Ci s rc).m.nx
set_option maxHeartbeats 1000000 in
theorem exec (hC:C.Ok) {stand:Func->Code->List AV->(AV->Bool)->Bool} (hst:Afw C stand) {call:Jg Bool} (hcall:Agu C call) (hcf:∀ t args m,call t args m (fun _ _=>false) (fun _ _=>false)=false) {ro:Option Nat} {o:Oper} {s T:St} {ai:Nat} {rc:Rc} {a:Act} {K:Act->World->Prop} {Q:Exit->Act->World->Prop}
  (S:Sim C w B oC oL ω s a) (hop:∀ k,opD C stand call T.tmps T.m ai o k false=k rc) (hev:∀ x ∈ o.op.operands,evO C T.tmps x=evO C s.tmps x)
  (hrd:∀ id,Jl rc.rd id=true->Dl T.m.heap id=Dl s.m.heap id) (hbar:rc.eff.isBar=true->T.m.nx=s.m.nx/\T.m.lp=s.m.lp)
  (hnew:∀ i hb,rc.eff=.new i hb->i < s.m.nx/\nx0<=i/\ω i=none) (hnx:nx0<=s.m.nx)
  (hK:∀ u w',Done C w B oC oL ω nx0 s rc (a.put o.dst u) w'->K (a.put o.dst u) w'):o.wpIn (Fr ro) 0 C.P a w K Q:=by
 classical
 have hself:∀ {F:(Rc->Bool)->Bool},(∀ k,F k=k rc)->F (fun r=>decide (r=rc))=true:=fun h=>by rw [h];simp
 unfold opD at hop
 cases hq:Afs o.op with
 | true =>
  simp only [hq,cond_true] at hop;have h0:=hself hop
  have hreads:rc.rd=Ub (evO C s.tmps) o.op/\rc.dst=o.dst/\rc.eff=.nop:=by
   have e1:=hop (fun r=>decide (r.rd=Ub (evO C T.tmps) o.op/\r.dst=o.dst/\r.eff=.nop))
   have e2:=hop (fun _=>true)
   simp only [and_self,decide_true] at e1;rw [e1] at e2;have e3:=Odt e2;refine ⟨e3.1.trans ?_,e3.2⟩;cases ho:o.op <;> simp only [Ub]
   case load t x =>
    rw [hev x (by rw [ho];simp [Op.operands])]
  rw [Zb hev] at h0;have h1:=(Atq (n':=s.m.nx) hq (fun id hi=>hrd id (by rw [hreads.1];exact hi)) (fun v=>decide ((⟨o.dst,v,Ub (evO C T.tmps) o.op,.nop⟩:Rc)=rc)) (fun v h n=>decide ((⟨o.dst,v,Ub (evO C T.tmps) o.op,.nop⟩:Rc)=rc/\h=s.m.heap/\n=s.m.nx)) (fun v=>by simp) (fun _ _=>false) (fun _=>false) false).trans h0
  refine Afu hcall (h:=s.m.heap) (st:=s) S.ms S.ev h1 (fun v u h' nx' w' oC' ω' hk E M hr=>?_) (fun _ _=>false) (fun _ _=>false) (fun t args h=>by cases h) (fun v u m' w' oC' oL' ω' h=>by cases h) (fun v u m' w' oC' oL' ω' h=>by cases h) (fun v u h=>by cases h)
  obtain ⟨e1,rfl,rfl⟩:=Odt hk;refine hK u w' ⟨oC',oL,ω',?_,(E.toR).weaken hnx,fun i hi _ hω=>(E.om i hi).trans hω,by rw [<- e1];exact Nat.le_refl _⟩
  rw [<- e1];have:=S.put (dst:=o.dst) (m':=s.m) E.toR M hr;exact this
 | false =>
  simp only [hq,cond_false] at hop;cases hn:Ake o.op with
  | true =>
   simp only [hn,cond_true] at hop;have h0:=hself hop;unfold A3e at h0;rw [Zb hev] at h0;obtain ⟨mk,cs,el,p,arr,u,hrun,hk,hl,hp,hmk⟩:=Ay9 S.ev hn h0;have e1:=Odt hk;obtain ⟨g1,g2,g3⟩:=hnew ai ⟨cs,el,p⟩ (by rw [<- e1])
   obtain ⟨M,E,rep⟩:=S.ms.birth (nx0:=nx0) g3 g1 g2 (el:=el) hl hp;refine ⟨Xp _ _ _ _ _,?_⟩;rw [Oper.semAt_eq _ _ _ (fun c e=>by rw [e] at hn;cases hn),hrun,Oper.uponIn_value]
   refine hK u _ ⟨_,_,_,?_,E,fun i hi hne hω=>?_,by rw [<- e1];exact Nat.le_refl _⟩
   ·rw [<- e1]
    have hv:Rep (w.alloc (.cells arr el)) (Or2 B oL) (fun x=>oC x\/x=w.heap.size) (fun j=>if j=ai then some w.heap.size else ω j) s.m.nx (mk ai) u:=by
     rcases hmk with ⟨rfl,rfl⟩ | ⟨n,cap,sz,rfl,rfl,k1,k2,k3⟩
     ·exact .ptr _ _ _ _ g1 (if_pos rfl)
     ·refine .sla _ _ _ _ _ _ g1 (if_pos rfl) k1 k2 ?_
      have:=heap_alloc_new w (.cells arr el);simp only [rowSize];rw [this];simp [k3]
    refine ⟨?_,?_,M⟩
    ·exact RepL.setT (nx:=s.m.nx) ⟨S.tm.1,fun j hj=>rep _ _ _ (S.tm.2 j hj)⟩ o.dst hv
    ·rw [Vk]
     exact S.dn.birth g3
   ·have:i ≠ ai:=fun e=>by subst e;exact hne ⟨cs,el,p⟩ (by rw [<- e1])
    exact (if_neg this).trans hω
  | false =>
   simp only [hn,cond_false] at hop;generalize hfp:A3d T.m (o.op.operands.toList.map (evO C T.tmps))=fp at hop;have h0:=hself hop;unfold Atj at h0;rw [Zb hev] at h0
   have part:Jl rc.rd=Jl fp->(∀ id x,Dl (Oq T.m.heap fp) id=some x->Dl s.m.heap id=some x)/\(∀ id x,Dl (Oq T.m.heap fp) id=some x->Jl fp id=true):=fun hrc=>by
    have key:∀ id x,Dl (Oq T.m.heap fp) id=some x->Jl fp id=true/\Dl T.m.heap id=some x:=fun id x hx=>by
     rw [Ay6] at hx;cases hm:Jl fp id with
     | true=>rw [hm] at hx;exact ⟨rfl,hx⟩
     | false=>rw [hm] at hx;cases hx
    exact ⟨fun id x hx=>(hrd id (by rw [hrc];exact (key id x hx).1)).symm.trans (key id x hx).2,fun id x hx=>(key id x hx).1⟩
   have bar:∀ (v:AV) (m':Mem) (u:Value) (w':World) (oC1 oL1:Nat->Prop) (ω1:Nat->Option Nat),(⟨o.dst,v,fp,.bar fp T.m.nx m'⟩:Rc)=rc->ExtR w (Vm ω (Oq T.m.heap fp)) oL ω s.m.nx w' oC1 oL1 ω1 m'.nx ->
     MemSim C w' (Or2 B (P5 oC ω (Oq T.m.heap fp))) oC1 oL1 ω1 m'->Rep w' (Or2 (Or2 B (P5 oC ω (Oq T.m.heap fp))) oL1) oC1 ω1 m'.nx v u->K (a.put o.dst u) w':=fun v m' u w' oC1 oL1 ω1 e1 E M1 hr=>by
    obtain ⟨p1,p2⟩:=part (by rw [<- e1])
    obtain ⟨M2,E2,r1,r2⟩:=S.ms.merge (fp:=fp) p1 p2 E M1;refine hK u w' ⟨_,_,_,?_,E2.weaken hnx,fun i hi _ hω=>(E2.om i hi).trans hω,by rw [<- e1];exact E.nxle⟩
    rw [<- e1];refine ⟨?_,?_,M2⟩
    ·exact RepL.setT (nx:=m'.nx) ⟨S.tm.1,fun j hj=>r2 _ _ (S.tm.2 j hj)⟩ o.dst (r1 _ _ _ hr)
    ·rw [Vk]
     exact S.dn.extR E2
   have hnd:=Aed h0;rw [Abq] at h0;generalize hout:Aqf C (evO C s.tmps) (Oq T.m.heap fp) T.m.nx o.op=out at h0;have helim:∀ (kv:AV->Heap->Nat->Bool) (kc:Tgt->List AV->Bool) (kp:AV->Bool),aop C (evO C s.tmps) (Oq T.m.heap fp) T.m.nx o.op kv kc kp false=out.elim kv kc kp false:=fun kv kc kp=>by rw [Abq,hout]
   cases out with
   | no=>cases h0
   | pan v=>cases h0
   | val v h n =>
    have e1:=Odt h0;obtain ⟨b1,b2⟩:=hbar (by rw [<- e1];rfl)
    obtain ⟨p1,p2⟩:=part (by rw [<- e1])
    have M0:=S.ms.pick p1;rw [<- b1] at M0
    refine Afu hcall (h:=h) (st:=s) (ro:=ro) (a:=a) (m:=⟨Oq T.m.heap fp,T.m.nx,s.m.lp⟩) (ρ:=evO C s.tmps) (kv:=fun v' h' n'=>decide (v'=v/\h'=h/\n'=n)) (kc:=fun _ _=>false) (kp:=fun _=>false) M0 (fun x=>by have:=Agz S.ms p1 (S.ev x);rw [<- b1] at this;exact this)
     ((helim _ _ _).trans (by simp [OpOut.elim])) (fun v' u h' nx' w' oC' ω' hk E M hr=>?_) (fun _ _=>false) (fun _ _=>false) (fun t args h=>by cases h) (fun v u m' w' oC' oL' ω' h=>by cases h) (fun v u m' w' oC' oL' ω' h=>by cases h) (fun v u h=>by cases h)
    obtain ⟨rfl,rfl,rfl⟩:=Odt hk;rw [b2] at e1;exact bar v' ⟨h',nx',s.m.lp⟩ u w' oC' oL ω' e1 (by have:=(E.toR (oL:=oL));rw [b1] at this;exact this) M hr
   | call t args =>
    have hcl:∀ (kv:AV->Heap->Nat->Bool) (kp:AV->Bool),aop C (evO C s.tmps) (Oq T.m.heap fp) T.m.nx o.op kv (fun t' args'=>decide (t'=t/\args'=args)) kp false=true:=fun kv kp=>(helim _ _ _).trans (by simp [OpOut.elim])
    simp only [OpOut.elim] at h0
    have viaCall:rc.eff.isBar=true->Jl rc.rd=Jl fp->(call t args ⟨Oq T.m.heap fp,T.m.nx,T.m.lp⟩ (fun v m'=>decide ((⟨o.dst,v,fp,.bar fp T.m.nx m'⟩:Rc)=rc)) (fun _ _=>false)=true)->o.wpIn (Fr ro) 0 C.P a w K Q:=fun hb hm hk=>by
     obtain ⟨b1,b2⟩:=hbar hb;obtain ⟨p1,p2⟩:=part hm;have M0:=S.ms.pick p1;rw [<- b1] at M0;rw [b2] at hk
     refine Afu hcall (h:=s.m.heap) (st:=s) (ro:=ro) (a:=a) (m:=⟨Oq T.m.heap fp,T.m.nx,s.m.lp⟩) (ρ:=evO C s.tmps) (kv:=fun _ _ _=>false) (kc:=fun t' args'=>decide (t'=t/\args'=args)) (kp:=fun _=>false) M0 (fun x=>by have:=Agz S.ms p1 (S.ev x);rw [<- b1] at this;exact this)
      (hcl _ _) (fun v' u h' nx' w' oC' ω' hk=>by cases hk) (fun v m'=>decide ((⟨o.dst,v,fp,.bar fp T.m.nx m'⟩:Rc)=rc)) (fun _ _=>false) (fun t' args' h=>by obtain ⟨rfl,rfl⟩:=Odt h;exact hk) (fun v u m' w' oC' oL' ω' hk E M hr=>?_) (fun v u m' w' oC' oL' ω' h=>by cases h) (fun v u h=>by cases h)
     exact bar v m' u w' oC' oL' ω' (Odt hk) (by have:=E;rw [b1] at this;exact this) M hr
    have two:(rc.eff=.nop\/rc.eff.isBar=true)/\rc.rd=fp/\rc.dst=o.dst:=by
     have e1:=hop (fun r=>decide ((r.eff=.nop\/r.eff.isBar=true)/\r.rd=fp/\r.dst=o.dst))
     have e2:=hop (fun _=>true)
     unfold Atj at e1 e2;simp only [Eff.isBar,or_true,true_or,and_self,decide_true] at e1;rw [e1] at e2;exact Odt e2
    cases t with
    | yld id =>
     refine viaCall ?_ (by rw [two.2.1]) h0
     have e1:=hop (fun r=>decide (r.eff.isBar=true))
     have e2:=hop (fun _=>true)
     unfold Atj at e1 e2;rw [Zb hev,helim] at e1 e2;simp only [OpOut.elim,Eff.isBar,decide_true] at e1 e2;rw [e1] at e2;exact Odt e2
    | fn f =>
     simp only at h0;obtain ⟨p1,p2⟩:=part (by rw [two.2.1])
     have M0:=S.ms.pick p1
     rcases Akb C (H:=M0.hp) (nx:=s.m.nx) (fun x=>Agz S.ms p1 (S.ev x)) (kv:=fun _ _ _=>false) (kc:=fun t' args'=>decide (t'=.fn f/\args'=args)) (kp:=fun _=>false) (o:=o) (by
       rw [Abq,Azc hout];simp [OpOut.elim]) with ⟨_,_,_,_,_,_,_,_,h,_⟩ | ⟨t',args',us,hrun,h1,h2⟩ | ⟨_,_,_,h,_⟩
     ·cases h
     ·obtain ⟨rfl,rfl⟩:=Odt h1
      simp only [Agk] at hrun;obtain ⟨fn,c,hfn,hb,hor⟩:=Abw hC hst M0 h2 h0
      rcases hor with ho | hc
      ·refine viaCall ?_ (by rw [two.2.1]) ho
       cases hbb:rc.eff.isBar with
       | true=>rfl
       | false =>
        have:(fun (v:AV) (m':Mem)=>decide ((⟨o.dst,v,fp,.bar fp T.m.nx m'⟩:Rc)=rc))=fun _ _=>false:=funext fun v=>funext fun m'=>Ddf (fun e=>by rw [<- e] at hbb;cases hbb)
        rw [this,hcf] at ho;cases ho
      ·refine A3n hnd (hrun.trans (Awk hC hfn hb us w)) hc (fun e w' he=>?_)
       obtain ⟨v,u,rfl,hk,E,hr⟩:=he;have e1:=Odt hk;refine ⟨u,rfl,hK u w' ⟨oC,oL,ω,?_,(Still.ext E).weaken (Nat.le_refl _),fun i hi _ hω=>hω,by rw [<- e1];exact Nat.le_refl _⟩⟩
       rw [<- e1];have M:=S.ms.still E;refine ⟨?_,?_,M⟩
       ·refine RepL.setT (nx:=s.m.nx) (S.tm.ext E.ext) o.dst (hr.other fun b h1 h2=>⟨fun hh=>?_,fun hh=>?_⟩)
        ·by_cases hp:Vm ω (Oq T.m.heap fp) b
         ·exact h1 hp
         ·exact h2 (.inl (.inr ⟨hh,hp⟩))
        ·exact hh.elim (fun hh=>h2 (.inl (.inl hh))) (fun hh=>h2 (.inr hh))
       ·rw [Vk];exact S.dn
     ·cases h
end
end Go.Bas
end
section
namespace Go.Bas
open Go.RowKit
section
variable {C:Cfg}
def StepOk (C:Cfg) (stand:Func->Code->List AV->(AV->Bool)->Bool) (call:Jg Bool) (ops:Array Oper) (o:Oper) (st:St) (ai:Nat) (rc:Rc):Prop :=
 (Xt ops st.tmps o=some true/\∀ k,opD C stand call st.tmps st.m ai o k false=k rc)\/(Xt ops st.tmps o=some false/\rc=⟨o.dst,.tup [],[],.nop⟩)
theorem A97 {stand:Func->Code->List AV->(AV->Bool)->Bool} {call:Jg Bool} {tmps:List AV} {m:Mem} {ai:Nat} {o:Oper} (k:Rc->Bool):opD C stand call tmps m ai o k false=opD C stand call tmps m ai o (fun r=>k ⟨o.dst,r.out,r.rd,r.eff⟩) false:=rfl
theorem StepOk.dst {stand:Func->Code->List AV->(AV->Bool)->Bool} {call:Jg Bool} {ops:Array Oper} {o:Oper} {st:St} {ai:Nat} {rc:Rc} (h:StepOk C stand call ops o st ai rc):rc.dst=o.dst:=by
 rcases h with ⟨_,h⟩ | ⟨_,h⟩
 ·have:rc=⟨o.dst,rc.out,rc.rd,rc.eff⟩:=Aza fun k=>by rw [<- h k,A97 k,h]
  rw [this]
 ·rw [h]
theorem Akm {ops:Array Oper}:∀ (l:List Oper) (pre:List (Nat × Oper)) (j:Nat),fastGo ops l pre j=true->∀ m b,l[m]?=some b ->
  (b.after.toList.all fun e=>!Region.binds .any e || Nat.blt e.on (j + m))=true/\(∀ p ∈ pre,(nextB b p.1 || !tmpClash ops p.2 b)=true)/\∀ i a,i < m->l[i]?=some a->(nextB b (j + i) || !tmpClash ops a b)=true
 | [],_,_,_,m,b,hb=>by simp at hb
 | b0 :: r,pre,j,h,m,b,hb=>by
  obtain ⟨h1,h2⟩:=Bo (show cond (b0.after.toList.all fun e=>!Region.binds .any e || Nat.blt e.on j) (cond (pre.all fun p=>nextB b0 p.1 || !tmpClash ops p.2 b0) (fastGo ops r ((j,b0) :: pre) (j + 1)) false) false=true from h)
  obtain ⟨h2,h3⟩:=Bo h2;cases m with
  | zero =>
   simp only [List.getElem?_cons_zero,Option.some.injEq] at hb;subst hb;exact ⟨h1,fun p hp=>List.all_eq_true.1 h2 p hp,fun i a hi=>absurd hi (Nat.not_lt_zero _)⟩
  | succ m =>
   have ih:=Akm r ((j,b0) :: pre) (j + 1) h3 m b (by simpa using hb)
   obtain ⟨q1,q2,q3⟩:=ih;refine ⟨by rw [show j + (m + 1)=j + 1 + m by omega];exact q1,fun p hp=>q2 p (List.mem_cons_of_mem _ hp),fun i a hi ha=>?_⟩
   cases i with
   | zero =>
    simp only [List.getElem?_cons_zero,Option.some.injEq] at ha;subst ha;exact q2 (j,b0) (List.mem_cons_self ..)
   | succ i =>
    have:=q3 i a (by omega) (by simpa using ha)
    rwa [show j + 1 + i=j + (i + 1) by omega] at this
theorem Aap:∀ {rs:List Rc} {i:Nat},i < rs.length->∃ r ∈ rs,Hq rs i=some r
 | [],_,h=>absurd h (Nat.not_lt_zero _)
 | r :: _,0,_=>⟨r,List.mem_cons_self ..,rfl⟩
 | _ :: rs,i + 1,h=>by
  obtain ⟨r,h1,h2⟩:=Aap (rs:=rs) (i:=i) (by simpa using h)
  exact ⟨r,List.mem_cons_of_mem _ h1,h2⟩
theorem A3o {e:Eff} (h:e.isNop=true):e=.nop:=by cases e <;> first | rfl | cases h
theorem Azd {ops:Array Oper} {lo hi:Nat} {rs:List Rc} (h:Atk ops lo hi rs=true):Aeb ops lo hi rs=true:=by
 unfold Atk at h
 cases hc:(cond (rs.all fun r=>r.eff.isNop) (cond (Nat.beq rs.length ops.size) (fastGo ops ops.toList [] 0) false) false) with
 | false=>rw [hc] at h;exact h
 | true =>
  obtain ⟨h1,h2⟩:=Bo hc;obtain ⟨h2,h3⟩:=Bo h2;have hlen:rs.length=ops.size:=Dw h2;have hn:∀ r ∈ rs,r.eff=.nop:=fun r hr=>A3o (List.all_eq_true.1 h1 r hr)
  have F:=Akm ops.toList [] 0 h3;have el:∀ (m:Nat) (b:Oper),ops[m]?=some b->ops.toList[m]?=some b:=fun m b hb=>by rw [Array.getElem?_toList];exact hb
  have hnew:(rs.flatMap fun r=>r.eff.newId)=[]:=List.flatMap_eq_nil_iff.2 fun r hr=>by rw [hn r hr];rfl
  have hp:∀ p ∈ Q9 ops,p.1 < p.2/\p.2 < ops.size/\Vh ops ops.size p.1 p.2=false:=fun p hp=>by
   unfold Q9 at hp;obtain ⟨j,hj,hm⟩:=List.mem_flatMap.1 hp;obtain ⟨i,hi,rfl⟩:=List.mem_map.1 hm;obtain ⟨hi1,hi2⟩:=List.mem_filter.1 hi;exact ⟨List.mem_range.1 hi1,List.mem_range.1 hj,by simpa using hi2⟩
  unfold Aeb;rw [hnew];simp only [Bae];refine ⟨⟨?_,rfl,rfl⟩,List.all_eq_true.2 fun p hpm=>?_,List.all_eq_true.2 fun r hr=>by rw [hn r hr];rfl⟩
  ·unfold Amg
   simp only [Bae];refine ⟨List.all_eq_true.2 fun i hi=>?_,List.all_eq_true.2 fun p hpm=>?_⟩
   ·have hi:=List.mem_range.1 hi
    rw [Array.getElem?_eq_getElem hi];have:=(F i ops[i] (el _ _ (Array.getElem?_eq_getElem hi))).1
    rwa [Nat.zero_add] at this
   ·obtain ⟨a1,a2,a3⟩:=hp p hpm
    have hi:p.1 < ops.size:=by omega
    rw [Array.getElem?_eq_getElem hi,Array.getElem?_eq_getElem a2];have:=(F p.2 ops[p.2] (el _ _ (Array.getElem?_eq_getElem a2))).2.2 p.1 ops[p.1] a1 (el _ _ (Array.getElem?_eq_getElem hi));rw [Nat.zero_add] at this;cases hx:nextB ops[p.2] p.1 with
    | false=>rw [hx,Bool.false_or] at this;exact this
    | true =>
     exfalso
     obtain ⟨n,hn⟩:∃ n,ops.size=n + 1:=⟨ops.size - 1,by omega⟩
     have e:Vh ops (n + 1) p.1 p.2=true:=by
      unfold Vh;rw [Array.getElem?_eq_getElem a2];unfold nextB at hx;simp only [hx,Bool.true_or]
     rw [<- hn,a3] at e;cases e
  ·obtain ⟨a1,a2,a3⟩:=hp p hpm
   obtain ⟨r1,m1,g1⟩:=Aap (rs:=rs) (i:=p.1) (by omega)
   obtain ⟨r2,m2,g2⟩:=Aap (rs:=rs) (i:=p.2) (by omega)
   rw [g1,g2]
   have z1:∀ l:List Nat,l.any (Eff.nop).touches=false:=fun l=>by induction l with
    | nil=>rfl
    | cons x l ih=>rw [List.any_cons,ih];rfl
   have hcl:Zq r1 r2=false:=by
    unfold Zq;rw [hn r1 m1,hn r2 m2,z1,z1];rfl
   show (!Zq r1 r2)=true;rw [hcl];rfl
theorem Aqm {stand:Func->Code->List AV->(AV->Bool)->Bool} {call:Jg Bool} (hdet:∀ tmps m ai o,Det (fun k=>opD C stand call tmps m ai o k false)) {ops:Array Oper} {lo hi:Nat} {k:St->Bool} :
  ∀ (l:List Oper) (st:St) (ai:Nat) (acc:List Rc),Zr C stand call ops lo hi l st ai acc k false=true ->
   ∃ rs,rs.length=l.length/\Aeb ops lo hi (acc.reverse ++ rs)=true/\k (rs.foldl Ci st)=true/\∀ j o,l[j]?=some o->∃ rc ai',Hq rs j=some rc/\StepOk C stand call ops o ((rs.take j).foldl Ci st) ai' rc
 | [],st,ai,acc,h=>by
  obtain ⟨h1,h2⟩:=Bo h;exact ⟨[],rfl,by simpa using Azd h1,h2,fun j o hj=>by simp at hj⟩
 | o :: r,st,ai,acc,h=>by
  simp only [Zr] at h;rw [Akl] at h
  have go:∀ (rc:Rc) (ai':Nat),StepOk C stand call ops o st ai rc->Zr C stand call ops lo hi r (Ci ⟨st.tmps,st.ds,st.m⟩ rc) ai' (rc :: acc) k false=true ->
    ∃ rs,rs.length=(o :: r).length/\Aeb ops lo hi (acc.reverse ++ rs)=true/\k (rs.foldl Ci st)=true/\∀ j o',(o :: r)[j]?=some o'->∃ rc ai',Hq rs j=some rc/\StepOk C stand call ops o' ((rs.take j).foldl Ci st) ai' rc:=fun rc ai' hs hd=>by
   obtain ⟨rs,h1,h2,h3,h4⟩:=Aqm hdet r _ ai' (rc :: acc) hd;refine ⟨rc :: rs,by simp [h1],by simpa using h2,h3,fun j o' hj=>?_⟩
   cases j with
   | zero =>
    simp only [List.getElem?_cons_zero,Option.some.injEq] at hj;subst hj;exact ⟨rc,ai,rfl,hs⟩
   | succ j =>
    obtain ⟨rc',ai'',g1,g2⟩:=h4 j o' (by simpa using hj)
    exact ⟨rc',ai'',g1,g2⟩
  split at h
  ·rename_i hg
   obtain ⟨rc,h1,h2⟩:=hdet _ _ _ _ _ h;exact go rc _ (.inl ⟨hg,h2⟩) h1
  ·rename_i hg
   exact go _ _ (.inr ⟨hg,rfl⟩) h
  ·cases h
theorem Hp.congr {w:World} {B own:Nat->Prop} {ω:Nat->Option Nat} {nx:Nat} {h h':Heap} (H:Hp w B own ω nx h) (e:∀ id,Dl h id=Dl h' id):Hp w B own ω nx h' :=
 ⟨fun id x hx=>H.rel id x (by rw [e];exact hx),fun i j b hi hj=>H.inj i j b (by rw [e];exact hi) (by rw [e];exact hj),H.ob⟩
theorem Sim.congr {w:World} {B oC oL:Nat->Prop} {ω:Nat->Option Nat} {s t:St} {a:Act} (S:Sim C w B oC oL ω s a) (e:StEq s t):Sim C w B oC oL ω t a:=by
 obtain ⟨st,sd,sm⟩:=s
 obtain ⟨tt,td,tm⟩:=t
 obtain ⟨h1,h2,h3,h4,h5⟩:=e
 simp only at h1 h2 h3 h4 h5
 subst h1 h2
 obtain ⟨sh,sn,sl⟩:=sm
 obtain ⟨th,tn,tl⟩:=tm
 simp only at h3 h4 h5
 subst h4 h5
 exact ⟨S.tm,S.dn,S.ms.hp.congr h3,S.ms.lp,S.ms.gl,S.ms.gb,S.ms.bl⟩
theorem Xu {ops:Array Oper} {L:Nat->Bool} (hcl:∀ j o,ops[j]?=some o->L j=true->∀ e ∈ o.after,Region.binds .any e=true->L e.on=true) :
  ∀ (n i j:Nat) (o:Oper),ops[j]?=some o->(∀ e ∈ o.after,Region.binds .any e=true->L e.on=true)->Vh ops n i j=true->L i=true
 | 0,i,j,o,ho,h,hb=>by cases hb
 | n + 1,i,j,o,ho,h,hb=>by
  simp only [Vh,ho,Bool.or_eq_true,List.any_eq_true,Bae] at hb
  rcases hb with ⟨e,he,hbi,hon⟩ | ⟨e,he,hbi,hon⟩
  ·have:=h e (Array.mem_toList_iff.1 he) hbi
   rwa [Dw hon] at this
  ·have hl:=h e (Array.mem_toList_iff.1 he) hbi
   cases hoe:ops[e.on]? with
   | none =>
    cases n with
    | zero=>cases hon
    | succ n=>simp [Vh,hoe] at hon
   | some o'=>exact Xu hcl n i e.on o' hoe (hcl e.on o' hoe hl) hon
theorem Ag0 {ops:Array Oper} {i j:Nat} (hij:i < j) (hj:j < ops.size) (hb:Vh ops ops.size i j=false):(i,j) ∈ Q9 ops:=by
 simp only [Q9,List.mem_flatMap,List.mem_range,List.mem_map,List.mem_filter,Prod.mk.injEq]
 exact ⟨j,hj,i,⟨hij,by simp [hb]⟩,rfl,rfl⟩
theorem Xv {l:List Nat} {i:Nat}:Jl l i=true ↔ i ∈ l:=by
 simp only [Jl,List.any_eq_true]
 constructor
 ·rintro ⟨x,hx,hb⟩
  rw [Dw hb];exact hx
 ·exact fun h=>⟨i,h,(Ea i i).2 rfl⟩
theorem Rf:∀ {rs:List Rc} {j:Nat} {r:Rc},Hq rs j=some r->r ∈ rs
 | [],j,r,h=>by cases j <;> cases h
 | x :: rs,0,r,h=>by simp only [Hq,Option.some.injEq] at h;subst h;exact List.mem_cons_self ..
 | x :: rs,j + 1,r,h=>List.mem_cons_of_mem _ (Rf (rs:=rs) h)
theorem Aqn:∀ {rs:List Rc} {j:Nat} {r:Rc},Hq rs j=some r->j < rs.length
 | [],j,r,h=>by cases j <;> cases h
 | x :: rs,0,r,h=>by simp
 | x :: rs,j + 1,r,h=>by have:=Aqn (rs:=rs) h;simp;omega
theorem Akn:∀ {rs:List Rc} {i j j':Nat} {r r':Rc} {hb hb':HB},Adb (rs.flatMap fun r=>r.eff.newId)=true->Hq rs j=some r->Hq rs j'=some r'->r.eff=.new i hb->r'.eff=.new i hb'->j=j'
 | [],i,j,j',r,r',hb,hb',hn,h1,h2,e1,e2=>by cases j <;> cases h1
 | x :: rs,i,j,j',r,r',hb,hb',hn,h1,h2,e1,e2=>by
  have tail:Adb (rs.flatMap fun r=>r.eff.newId)=true/\∀ hb,x.eff=.new i hb->i ∉ rs.flatMap fun r=>r.eff.newId:=by
   simp only [List.flatMap_cons] at hn;cases hx:x.eff with
   | nop=>rw [hx] at hn;exact ⟨hn,fun _ h=>by cases h⟩
   | bar fp lo m'=>rw [hx] at hn;exact ⟨hn,fun _ h=>by cases h⟩
   | new i' hb' =>
    rw [hx] at hn
    replace hn:Adb (i' :: rs.flatMap fun r=>r.eff.newId)=true:=hn
    simp only [Adb,Bae,Bool.not_eq_true'] at hn;refine ⟨hn.2,fun hb h=>?_⟩
    cases h;intro hm;rw [Xv.2 hm] at hn;exact absurd hn.1 (by simp)
  have inTail:∀ {j:Nat} {r:Rc} {hb:HB},Hq rs j=some r->r.eff=.new i hb->i ∈ rs.flatMap fun r=>r.eff.newId:=fun h e=>List.mem_flatMap.2 ⟨_,Rf h,by rw [e];exact List.mem_singleton_self _⟩
  cases j with
  | zero =>
   simp only [Hq,Option.some.injEq] at h1;subst h1;cases j' with
   | zero=>rfl
   | succ j'=>exact absurd (inTail h2 e2) (tail.2 _ e1)
  | succ j =>
   cases j' with
   | zero =>
    simp only [Hq,Option.some.injEq] at h2;subst h2;exact absurd (inTail h1 e1) (tail.2 _ e2)
   | succ j'=>rw [Akn tail.1 (show Hq rs j=some r from h1) (show Hq rs j'=some r' from h2) e1 e2]
theorem Ako {p q:Nat->Bool} {j:Nat}:∀ (l:List Nat),(∀ i,q i=true->p i=true)->j ∈ l->p j=true->q j=false->(l.filter q).length < (l.filter p).length
 | [],_,h,_,_=>by cases h
 | x :: l,hpq,hm,hp,hq=>by
  have mono:∀ l:List Nat,(l.filter q).length<=(l.filter p).length:=fun l=>by
   induction l with
   | nil=>simp
   | cons y l ih =>
    rw [List.filter_cons,List.filter_cons]
    by_cases hy:q y=true
    ·simp [hy,hpq y hy,ih]
    ·by_cases hy':p y=true
     ·simp [hy,hy'];omega
     ·simp [hy,hy',ih]
  rw [List.filter_cons,List.filter_cons]
  rcases List.mem_cons.1 hm with rfl | hm
  ·simp [hp,hq]
   have:=mono l;omega
  ·have ih:=Ako l hpq hm hp hq
   by_cases hy:q x=true
   ·simp [hy,hpq x hy,ih]
   ·by_cases hy':p x=true
    ·simp [hy,hy'];omega
    ·simp [hy,hy',ih]
theorem Atr {listed:Array Bool} {n i:Nat} (hs:listed.size=n) (hi:i < n) (h:listed.getD i false=false):listed.getD i true=false:=by
 rw [Array.getD_eq_getD_getElem?,Array.getElem?_eq_getElem (by omega)] at h ⊢
 simpa using h
def left (ops:Array Oper) (listed:Array Bool):Nat:=((List.range ops.size).filter fun i=>!listed.getD i false).length
set_option maxHeartbeats 1000000 in
theorem Aze (hC:C.Ok) {stand:Func->Code->List AV->(AV->Bool)->Bool} (hst:Afw C stand) {call:Jg Bool} (hcall:Agu C call) (hcf:∀ t args m,call t args m (fun _ _=>false) (fun _ _=>false)=false) {ro:Option Nat} {ops:Array Oper} {Q:Exit->Act->World->Prop}
  {rs:List Rc} {s0:St} {nx0 hi:Nat} (hlen:rs.length=ops.size) (hstep:∀ j o,ops[j]?=some o->∃ rc ai',Hq rs j=some rc/\StepOk C stand call ops o ((rs.take j).foldl Ci s0) ai' rc) (hok:Aeb ops nx0 hi rs=true)
  {w0:World} {B oC0 oL0:Nat->Prop} {ω0:Nat->Option Nat}
  (hQ:∀ a w oC oL ω,Sim C w B oC oL ω (rs.foldl Ci s0) a->ExtR w0 oC0 oL0 ω0 nx0 w oC oL ω nx0->hi<=(rs.foldl Ci s0).m.nx->Q .normal a w) :
  ∀ (fuel:Nat) (listed:Array Bool) (a:Act) (w:World) (oC oL:Nat->Prop) (ω:Nat->Option Nat) (s:St),left ops listed<=fuel->listed.size=ops.size ->
   (∀ j o,ops[j]?=some o->listed.getD j false=true->∀ e ∈ o.after,Region.binds .any e=true->listed.getD e.on false=true) ->
   StEq s (sAt (fun i=>listed.getD i false) 0 rs s0)->Sim C w B oC oL ω s a->ExtR w0 oC0 oL0 ω0 nx0 w oC oL ω nx0 ->
   (∀ i j hb rc,Hq rs j=some rc->rc.eff=.new i hb->listed.getD j false=false->ω i=none)->hi<=s.m.nx->nx0<=hi->wpAnyIn (Fr ro) 0 C.P .any ops Q fuel listed a w:=by
 simp only [Aeb,Bae] at hok
 obtain ⟨⟨hstat,hnod,hrange⟩,hdyn,hdom⟩:=hok
 simp only [Amg,Bae] at hstat
 obtain ⟨hback,hstat⟩:=hstat
 have back:∀ (i:Nat) (o:Oper),ops[i]?=some o->∀ e ∈ o.after,Region.binds .any e=true->e.on < i:=fun i o ho e he hb=>by
  have:=List.all_eq_true.1 hback i (List.mem_range.2 (Array.getElem?_eq_some_iff.1 ho).1);rw [ho] at this;have:=List.all_eq_true.1 this e (Array.mem_toList_iff.2 he);rw [hb] at this;simp only [Bool.not_true,Bool.false_or] at this;exact Nlb this
 have stat:∀ i j oi oj,i < j->ops[i]?=some oi->ops[j]?=some oj->Vh ops ops.size i j=false->tmpClash ops oi oj=false:=fun i j oi oj hij hoi hoj hb=>by
  have:=List.all_eq_true.1 hstat _ (Ag0 hij (Array.getElem?_eq_some_iff.1 hoj).1 hb);simp only [hoi,hoj] at this
  simpa using this
 have dyn:∀ i j ri rj,i < j->j < ops.size->Hq rs i=some ri->Hq rs j=some rj->Vh ops ops.size i j=false->Zq ri rj=false:=fun i j ri rj hij hj hri hrj hb=>by
  have:=List.all_eq_true.1 hdyn _ (Ag0 hij hj hb);simp only [hri,hrj] at this
  simpa using this
 have dom:∀ r ∈ rs,r.eff.domOk=true:=fun r hr=>List.all_eq_true.1 hdom r hr
 have newr:∀ i hb rc j,Hq rs j=some rc->rc.eff=.new i hb->nx0<=i/\i < hi:=fun i hb rc j h e=>by
  have:=List.all_eq_true.1 hrange i (List.mem_flatMap.2 ⟨rc,Rf h,by rw [e];exact List.mem_singleton_self _⟩)
  simp only [Bae] at this;exact ⟨I8 this.1,Nlb this.2⟩
 have opOf:∀ j r,Hq rs j=some r->∃ o,ops[j]?=some o/\r.dst=o.dst:=fun j r h=>by
  have hlt:j < ops.size:=by rw [<- hlen];exact Aqn h
  obtain ⟨rc,ai',h1,h2⟩:=hstep j ops[j] (Array.getElem?_eq_getElem hlt);rw [h] at h1;cases h1;exact ⟨ops[j],Array.getElem?_eq_getElem hlt,h2.dst⟩
 have fin:∀ (listed:Array Bool) (a:Act) (w:World) (oC oL:Nat->Prop) (ω:Nat->Option Nat) (s:St),listed.size=ops.size->(∀ i,i < ops.size->listed.getD i false=true)->StEq s (sAt (fun i=>listed.getD i false) 0 rs s0)->Sim C w B oC oL ω s a->ExtR w0 oC0 oL0 ω0 nx0 w oC oL ω nx0->hi<=s.m.nx->Q .normal a w:=fun listed a w oC oL ω s hs hall he S E hn=>by
  have e2:=Awj rs 0 s0 (fun i=>listed.getD i false) (fun j _ hj=>hall j (by omega))
  rw [e2] at he;exact hQ a w oC oL ω (S.congr he) E (by rw [<- he.nx];exact hn)
 have ready_all:∀ (listed:Array Bool),listed.size=ops.size->Region.ready .any ops listed=[]->∀ i,i < ops.size->listed.getD i false=true:=fun listed hs hr=>by
  intro i
  induction i using Nat.strongRecOn with
  | ind i ih =>
   intro hi';cases hli:listed.getD i false with
   | true=>rfl
   | false =>
    have hmem:i ∈ Region.ready .any ops listed:=mem_ready.2 ⟨Atr hs hi' hli,ops[i],Array.getElem?_eq_getElem hi',fun e he hb=>ih e.on (back i _ (Array.getElem?_eq_getElem hi') e he hb) (by have:=back i _ (Array.getElem?_eq_getElem hi') e he hb;omega)⟩
    rw [hr] at hmem;cases hmem
 intro fuel
 induction fuel with
 | zero =>
  intro listed a w oC oL ω s hleft hsz hcl he S E hun hn hnh
  have hall:∀ i,i < ops.size->listed.getD i false=true:=fun i hi'=>by
   cases hli:listed.getD i false with
   | true=>rfl
   | false =>
    have:i ∈ (List.range ops.size).filter fun i=>!listed.getD i false:=List.mem_filter.2 ⟨List.mem_range.2 hi',by simp [hli]⟩
    have:=List.length_pos_of_mem this;simp only [left] at hleft;omega
  refine ⟨?_,fin listed a w oC oL ω s hsz hall he S E hn⟩;cases hr:Region.ready .any ops listed with
  | nil=>rfl
  | cons j r =>
   have hm:j ∈ Region.ready .any ops listed:=by rw [hr];exact List.mem_cons_self ..
   obtain ⟨h1,o,h2,_⟩:=mem_ready.1 hm;have hlt:=(Array.getElem?_eq_some_iff.1 h2).1;have h3:=hall j hlt;rw [Array.getD_eq_getD_getElem?,Array.getElem?_eq_getElem (by omega)] at h1 h3
   simp at h1 h3;rw [h1] at h3;cases h3
 | succ fuel ih =>
  intro listed a w oC oL ω s hleft hsz hcl he S E hun hn hnh;refine ⟨fun hr=>fin listed a w oC oL ω s hsz (ready_all listed hsz hr) he S E hn,fun j hj=>?_⟩
  obtain ⟨hj1,o,ho,hj2⟩:=mem_ready.1 hj;have hlt:j < ops.size:=(Array.getElem?_eq_some_iff.1 ho).1
  have hjf:listed.getD j false=false:=by
   rw [Array.getD_eq_getD_getElem?,Array.getElem?_eq_getElem (by omega)] at hj1 ⊢
   simpa using hj1
  obtain ⟨rc,ai',hrc,hso⟩:=hstep j o ho;have ahead:∀ i,Vh ops ops.size i j=true->listed.getD i false=true:=fun i hb=>Xu hcl ops.size i j o ho hj2 hb
  have behind:∀ i oi,ops[i]?=some oi->Vh ops ops.size j i=true->listed.getD i false=false:=fun i oi hoi hb=>by
   cases hli:listed.getD i false with
   | false=>rfl
   | true=>rw [Xu hcl ops.size j i oi hoi (hcl i oi hoi hli) hb] at hjf;cases hjf
  have agree:∀ (q:Nat->Rc->Prop),(∀ i ri oi,i < j->Hq rs i=some ri->ops[i]?=some oi->q i ri->Vh ops ops.size i j=false->False)->(∀ i ri oi,j < i->Hq rs i=some ri->ops[i]?=some oi->q i ri->Vh ops ops.size j i=false->False) ->
    ∀ i ri,Hq rs i=some ri->q i ri->listed.getD i false=Nat.blt i (0 + j):=fun q h1 h2 i ri hri hq=>by
   obtain ⟨oi,hoi,_⟩:=opOf i ri hri
   rcases Nat.lt_trichotomy i j with h | h | h
   ·have hb:Nat.blt i (0 + j)=true:=Nat.ble_eq_true_of_le (by omega)
    rw [hb];cases hbf:Vh ops ops.size i j with
    | true=>exact ahead i hbf
    | false=>exact (h1 i ri oi h hri hoi hq hbf).elim
   ·subst h
    rw [hjf];cases hb:Nat.blt i (0 + i) with
    | false=>rfl
    | true=>have:=Nlb hb;omega
   ·have hb:Nat.blt i (0 + j)=false:=by
     cases hb:Nat.blt i (0 + j) with
     | false=>rfl
     | true=>have:=Nlb hb;omega
    rw [hb];cases hbf:Vh ops ops.size j i with
    | true=>exact behind i oi hoi hbf
    | false=>exact (h2 i ri oi h hri hoi hq hbf).elim
  have hT:(rs.take j).foldl Ci s0=sAt (fun x=>Nat.blt x (0 + j)) 0 rs s0:=(Ami rs 0 j s0).symm
  have tmps:∀ t ∈ Aan ops o,lget ((rs.take j).foldl Ci s0).tmps t=lget s.tmps t:=fun t ht=>by
   rw [hT,he.tm];refine A3i rs 0 s0 s0 (fun i r hi' hd=>?_) rfl rfl
   rw [Nat.zero_add i];refine (agree (fun _ r=>r.dst=some t) (fun i ri oi hij hri hoi hq hbf=>?_) (fun i ri oi hij hri hoi hq hbf=>?_) i r hi' hd).symm
   ·have hcl:=stat i j oi o hij hoi ho hbf
    obtain ⟨oi',hoi',hd'⟩:=opOf i ri hri;rw [hoi] at hoi';cases hoi';simp only [tmpClash,<- hd',hq,Bool.or_eq_false_iff] at hcl;rw [Xv.2 ht] at hcl;exact absurd hcl.1.1 (by simp)
   ·have hcl:=stat j i o oi hij ho hoi hbf
    obtain ⟨oi',hoi',hd'⟩:=opOf i ri hri;rw [hoi] at hoi';cases hoi';simp only [tmpClash,<- hd',hq,Bool.or_eq_false_iff] at hcl;rw [Xv.2 ht] at hcl;exact absurd hcl.2 (by simp)
  have next:∀ (u:Value) (w':World),Done C w B oC oL ω nx0 s rc (a.put o.dst u) w'->wpAnyIn (Fr ro) 0 C.P .any ops Q fuel (listed.setIfInBounds j true) (a.put o.dst u) w':=fun u w' hd=>by
   obtain ⟨oC',oL',ω',S',E',hω',hnx'⟩:=hd;have hL:∀ x,x ≠ j->(listed.setIfInBounds j true).getD x false=listed.getD x false:=fun x hx=>getD_set_ne false (Ne.symm hx)
   have hLj:(listed.setIfInBounds j true).getD j false=true:=by simp [Array.getElem?_setIfInBounds,hsz,hlt]
   refine ih _ _ _ oC' oL' ω' (Ci s rc) ?_ (by simpa using hsz) (fun x ox hox hlx e hee hb=>?_) ?_ S' (E.trans E') (fun i x hb r hr hre hlx=>?_) ?_ hnh
   ·have:=Ako (p:=fun i=>!listed.getD i false) (q:=fun i=>!(listed.setIfInBounds j true).getD i false) (j:=j) (List.range ops.size) (fun i hq=>by
     by_cases hij:i=j
     ·subst hij;simp [hjf]
     ·rw [hL i hij] at hq;exact hq) (List.mem_range.2 hlt) (by simp [hjf]) (by simp [hLj])
    simp only [left] at hleft ⊢;omega
   ·have:listed.getD e.on false=true:=by
     by_cases hx:x=j
     ·subst hx
      rw [ho] at hox;cases hox;exact hj2 e hee hb
     ·rw [hL x hx] at hlx
      exact hcl x ox hox hlx e hee hb
    exact getD_set_true this
   ·refine (Zt rc he).trans (A3l (L:=fun i=>listed.getD i false) (L':=fun i=>(listed.setIfInBounds j true).getD i false) rs 0 s0 hrc (by simpa using hjf) (by rw [Nat.zero_add];exact hLj) (fun x hx=>hL x (by omega)) (fun x r hjx hr hlx=>?_)).symm
    rw [Nat.zero_add] at hlx;obtain ⟨ox,hox,hdx⟩:=opOf x r hr
    have hbf:Vh ops ops.size j x=false:=by
     cases hbf:Vh ops ops.size j x with
     | false=>rfl
     | true=>rw [behind x ox hox hbf] at hlx;cases hlx
    have c1:=stat j x o ox hjx ho hox hbf;have c2:=dyn j x rc r hjx (Array.getElem?_eq_some_iff.1 hox).1 hrc hr hbf;simp only [Zq,Bool.or_eq_false_iff] at c2;refine ⟨fun t ht hx=>?_,c2.2.2,dom rc (Rf hrc),dom r (Rf hr)⟩
    have ho':=hso.dst;rw [ho'] at ht;rw [hdx] at hx;simp only [tmpClash,ht,hx,Bool.or_eq_false_iff] at c1;exact absurd c1.1.2 (by simp)
   ·by_cases hx:x=j
    ·subst hx;rw [hLj] at hlx;cases hlx
    ·rw [hL x hx] at hlx
     have h1:=newr i hb r x hr hre;refine hω' i (by omega) (fun hb' e=>?_) (hun i x hb r hr hre hlx)
     exact hx (Akn hnod hr hrc hre e)
   ·exact Nat.le_trans hn hnx'
  unfold wpOpIn;simp only [ho]
  rcases hso with ⟨hg,hop⟩ | ⟨hg,hrc0⟩
  ·rw [Abx tmps] at hg
   rw [if_pos (Aby S.tm hg)];refine exec hC hst hcall hcf (s:=s) (T:=(rs.take j).foldl Ci s0) (rc:=rc) (nx0:=nx0) S hop (A3m tmps) (fun id hid=>?_) (fun hb=>?_) (fun i hb hre=>?_) (by omega) (fun u w' hd=>next u w' hd)
   ·rw [hT,he.hp id]
    refine A3j rs 0 s0 s0 (fun i r hi' ht=>?_) dom rfl
    rw [Nat.zero_add i];refine (agree (fun _ r=>r.eff.touches id=true) (fun i ri oi hij hri hoi hq hbf=>?_) (fun i ri oi hij hri hoi hq hbf=>?_) i r hi' ht).symm
    ·have c:=dyn i j ri rc hij hlt hri hrc hbf
     simp only [Zq,Bool.or_eq_false_iff] at c;have:rc.rd.any ri.eff.touches=true:=List.any_eq_true.2 ⟨id,Xv.1 hid,hq⟩;rw [this] at c;exact absurd c.1 (by simp)
    ·have c:=dyn j i rc ri hij (Array.getElem?_eq_some_iff.1 hoi).1 hrc hri hbf
     simp only [Zq,Bool.or_eq_false_iff] at c;have:rc.rd.any ri.eff.touches=true:=List.any_eq_true.2 ⟨id,Xv.1 hid,hq⟩;rw [this] at c;exact absurd c.2.1 (by simp)
   ·rw [hT,he.nx,he.lp]
    refine A3k rs 0 s0 s0 (fun i r hi' ht=>?_) rfl rfl
    rw [Nat.zero_add i];have two:∀ {x y:Eff},x.isBar=true->y.isBar=true->effClash x y=true:=fun {x y} hx hy=>by cases x <;> cases y <;> simp_all [Eff.isBar,effClash]
    refine (agree (fun _ r=>r.eff.isBar=true) (fun i ri oi hij hri hoi hq hbf=>?_) (fun i ri oi hij hri hoi hq hbf=>?_) i r hi' ht).symm
    ·have c:=dyn i j ri rc hij hlt hri hrc hbf
     simp only [Zq,Bool.or_eq_false_iff] at c;rw [two hq hb] at c;exact absurd c.2.2 (by simp)
    ·have c:=dyn j i rc ri hij (Array.getElem?_eq_some_iff.1 hoi).1 hrc hri hbf
     simp only [Zq,Bool.or_eq_false_iff] at c;rw [two hb hq] at c;exact absurd c.2.2 (by simp)
   ·have h1:=newr i hb rc j hrc hre
    exact ⟨by omega,h1.1,hun i j hb rc hrc hre hjf⟩
  ·rw [Abx tmps] at hg
   rw [if_neg (by rw [Aby S.tm hg];simp)]
   refine ⟨Xp _ _ _ _ _,next undef w ⟨oC,oL,ω,?_,ExtR.refl,fun i _ _ h=>h,by rw [hrc0];exact Nat.le_refl _⟩⟩
   rw [hrc0];exact S.put (m':=s.m) ExtR.refl S.ms (.tup _ _ _ rfl (fun i hi=>absurd hi (Nat.not_lt_zero _)))
end
end Go.Bas
end
section
namespace Go.Bas
open Go.RowKit
section
variable {P:Program} {F:Fence} {n:Nat} {b:Frame} {a:Act} {k:List Item} {cs:List Frame} {w:World}
theorem Aqo {body:Code}:step P (lone (b.atR a (.code (.scope body) :: k)) cs w)=.next (lone (b.atR a (.code body :: .inScope body :: k)) cs w) :=
 step_lone_go (by simp [stepG,stepG.exec,Frame.atR])
theorem Ai3 {body:Code}:step P (lone (b.atR a (.inScope body :: k)) cs w)=.next (lone (b.atR a k) cs w) :=
 step_lone_go (by simp [stepG,stepG.exec,Frame.atR])
def Afx (F:Fence) (P:Program) (body:Code) (Q:Exit->Act->World->Prop):Nat->Code->Act->World->Prop
 | 0,_,_,_=>False
 | n + 1,cur,a,w=>cur.wpIn F 0 P (fun e a' w'=>match e with
  | .goto l=>match findLabel body l with
   | some rest=>Afx F P body Q n rest a' w'
   | none=>Q (.goto l) a' w'
  | e=>Q e a' w') a w
theorem Amk {body:Code} {Q:Exit->Act->World->Prop} {n:Nat} {a:Act} {w:World} (h:Afx F P body Q n body a w):(Code.scope body).wpIn F 0 P Q a w:=by
 intro b k cs hro hb hr
 have key:∀ n cur a w,Afx F P body Q n cur a w->∃ e a' w',Q e a' w'/\ArrivesIn (Machine.fenced P F) P (lone (b.atR a (.code cur :: .inScope body :: k)) cs w) b k cs e a' w':=by
  intro n
  induction n with
  | zero=>intro cur a w h;exact h.elim
  | succ n ih =>
   intro cur a w h;obtain ⟨e,a₁,w₁,hq,harr⟩:=h b (.inScope body :: k) cs hro hb hr;cases e with
   | normal=>exact ⟨.normal,a₁,w₁,hq,StepsIn.trans harr (.one (fenced_calm hb hr rfl) Ai3)⟩
   | exit id=>exact ⟨.exit id,a₁,w₁,hq,fun k' hk=>harr.1 k' (by simp [exitTo,hk]),fun hs hk=>harr.2 hs (by simp [exitTo,hk])⟩
   | goto l =>
    simp only at hq;split at hq
    ·rename_i rest hf
     obtain ⟨e₂,a₂,w₂,hq₂,harr₂⟩:=ih rest a₁ w₁ hq;exact ⟨e₂,a₂,w₂,hq₂,.of_steps (harr.1 _ (by simp [gotoIn,hf])) harr₂⟩
    ·rename_i hf
     exact ⟨.goto l,a₁,w₁,hq,fun k' hk=>harr.1 k' (by simp [gotoIn,hf,hk]),fun hs hk=>harr.2 hs (by simp [gotoIn,hf,hk])⟩
   | ret=>exact ⟨_,a₁,w₁,hq,harr⟩
   | panic ch=>exact ⟨_,a₁,w₁,hq,harr⟩
   | outgrown=>exact ⟨_,a₁,w₁,hq,harr⟩
 obtain ⟨e,a₁,w₁,hq,harr⟩:=key n body a w h
 exact ⟨e,a₁,w₁,hq,.of_steps (.one (fenced_calm hb hr rfl) Aqo) harr⟩
end
section
variable {C:Cfg}
def InR (ω:Nat->Option Nat) (nx:Nat):Option Nat->Option Nat->Prop
 | none,none=>True
 | some id,some l=>id < nx/\ω id=some l
 | _,_=>False
theorem InR.ext {w w':World} {oC oL oC' oL':Nat->Prop} {ω ω':Nat->Option Nat} {nx nx':Nat} {inr ro:Option Nat} (h:InR ω nx inr ro) (E:ExtR w oC oL ω nx w' oC' oL' ω' nx'):InR ω' nx' inr ro:=by
 cases inr <;> cases ro <;> first | exact h | exact ⟨Nat.lt_of_lt_of_le h.1 E.nxle,(E.om _ h.1).trans h.2⟩
def Aqp (C:Cfg) (B:Nat->Prop) (w:World) (oC oL:Nat->Prop) (ω:Nat->Option Nat) (nx:Nat) (k:Ex->St->Bool) (Q:Exit->Act->World->Prop):Prop :=
 ∀ e st' a' w' oC' oL' ω' out,Sim C w' B oC' oL' ω' st' a'->ExtR w oC oL ω nx w' oC' oL' ω' st'.m.nx->k e st'=true->Agv w' B oC' oL' ω' st'.m.nx e out->Q out a' w'
def Akp (C:Cfg) (go:Ur Bool):Prop:=∀ (inr:Option Nat) (code:Code) (st:St) (k:Ex->St->Bool) (w:World) (B oC oL:Nat->Prop) (ω:Nat->Option Nat) (a:Act) (Q:Exit->Act->World->Prop) (ro:Option Nat),
 go inr none code st k false=true->Sim C w B oC oL ω st a->InR ω st.m.nx inr ro->Aqp C B w oC oL ω st.m.nx k Q->code.wpIn (Fr ro) 0 C.P Q a w
theorem Aeh {st st':St} (h1:st.tmps=st'.tmps) (h2:st.m.heap=st'.m.heap):∀ (rs:List ResultVar) (k:List AV->Bool),Abn C st rs k false=Abn C st' rs k false
 | [],k=>rfl
 | r :: rs,k=>by
  have e1:∀ k',Abm C st r k' false=Abm C st' r k' false:=fun k'=>by unfold Abm;rw [h1,h2]
  simp only [Abn];rw [e1]
  congr 1
  funext v
  exact Aeh h1 h2 rs _
theorem Ats {st st':St} (h1:st.tmps=st'.tmps) (h2:st.m.heap=st'.m.heap) (fn:Func) (k:AV->Bool):Uo C fn st k false=Uo C fn st' k false:=Aeh h1 h2 _ _
theorem Aml {w:World} {B own:Nat->Prop} {ω:Nat->Option Nat} {nx:Nat} {args:List AV} {us:Array Value} (hr:RepL w B own ω nx args us) (n:Nat):RepL w B own ω nx (Afe args n) (us ++ Array.replicate (n - us.size) undef):=by
 unfold Afe
 rw [<- hr.1]
 refine RepL.append hr (Qw (by simp) (fun j x v hx hv=>?_))
 rw [List.getElem?_replicate] at hx
 rw [Array.getElem?_replicate] at hv
 split at hx
 ·rename_i hj
  rw [if_pos hj] at hv;rw [<- Option.some.inj hx,<- Option.some.inj hv];exact .tup _ _ _ rfl (fun i hi=>absurd hi (Nat.not_lt_zero _))
 ·cases hx
theorem Adf {w:World} {B oC oL:Nat->Prop} {ω:Nat->Option Nat} {st:St} {a:Act} {fn:Func} {k:AV->N7->Bool} {R:Ending->World->Prop} (S:Sim C w B oC oL ω st a)
  (hk:Iq st.ds st.m.lp (fun lp=>Uo C fn st (fun v=>k v lp) false) false=true)
  (hR:∀ v u lp' w',k v lp'=true->MemSim C w' B oC oL ω ⟨st.m.heap,st.m.nx,lp'⟩->ExtR w oC oL ω st.m.nx w' oC oL ω st.m.nx->Rep w' (Or2 B oL) oC ω st.m.nx v u->R (.returned u) w') :
  LeavesInM (Fr none) 0 C.P fn a.tmps R a.defers .returning w:=by
 refine Vo (u:=.returning) (by simp) (heap:=st.m.heap) (tm:=st.tmps) st.ds a.defers st.m.lp _ w hk S.dn S.ms S.tm (fun w' lp' M E ht hk'=>?_)
 rw [Ats (st:=st) (st':=⟨st.tmps,[],⟨st.m.heap,st.m.nx,lp'⟩⟩) rfl rfl] at hk'
 have S':Sim C w' B oC oL ω ⟨st.tmps,[],⟨st.m.heap,st.m.nx,lp'⟩⟩ { tmps:=a.tmps,defers:=[] }:=⟨ht,trivial,M⟩
 obtain ⟨v,u,h1,h2,h3⟩:=Ato S' hk'
 exact ⟨u,h1,hR v u lp' w' h3 M E h2⟩
theorem Xw (hC:C.Ok) {go:Ur Bool} (hgo:Akp C go):Afw C (Qg C go false):=fun fn c f args k hfn hb hk=>by
 intro w us bad hg gb bl hr
 refine (Ph (ro:=none) (n:=0)).1 (callsIn_of_wp_marks hfn hb trivial ?_ rfl)
 unfold Qg at hk
 have H0:Hp w (Or2 bad (fun _=>False)) (fun _=>False) (fun _=>none) 0 []:=⟨fun id hb h=>(by cases h),fun i j b h=>(by cases h),fun b (h:False)=>h.elim⟩
 have M0:MemSim C w bad (fun _=>False) (fun _=>False) (fun _=>none) ⟨[],0,[]⟩:=⟨H0,⟨fun id e h=>(by cases h),fun i j l h=>(by cases h),fun l (h:False)=>h.elim⟩,hg,fun g cells h=>⟨fun h=>h,fun h=>h,gb g cells h⟩,bl⟩
 have hl:RepL w (Or2 bad (fun _=>False)) (fun _=>False) (fun _=>none) 0 (Afe args fn.ntmps) (us ++ Array.replicate (fn.ntmps - us.size) undef) :=
  (Aml hr fn.ntmps).other fun b h1 h2=>⟨h1,fun h=>h.elim h2 (fun h=>h)⟩
 refine hgo none c ⟨Afe args fn.ntmps,[],⟨[],0,[]⟩⟩ _ w bad (fun _=>False) (fun _=>False) (fun _=>none) _ _ none hk ⟨hl,trivial,M0⟩ trivial (fun e st' a' w' oC' oL' ω' out S' E hk' ho=>?_)
 have fin:Iq st'.ds st'.m.lp (fun _=>Uo C fn st' (fun v=>Iz st'.m.heap 6 v k false) false) false=true->LeavesInM (Fr none) 0 C.P fn a'.tmps (fun e w'=>∃ v u,e=.returned u/\k v=true/\Still w w'/\Rep w' bad (fun _=>False) (fun _=>none) 0 v u) a'.defers .returning w':=fun hk'=>by
  refine Adf (k:=fun v _=>Iz st'.m.heap 6 v k false) S' hk' (fun v u lp' w2 h1 M E2 hr2=>?_)
  have hE:=E.trans E2
  have hown:∀ b,oC' b->¬ Or2 bad oL' b:=fun b ho hbad=>by
   rcases hbad with hbad | hbad
   ·rcases hE.owns b (.inl ho) with h | h
    ·exact h.elim (fun h=>h) (fun h=>h)
    ·have:=bl b hbad;omega
   ·exact (M.lp.dis b hbad).2 ho
  obtain ⟨v',h3,h4⟩:=Uh M.hp hown 6 v k h1;refine ⟨v',u,rfl,h3,⟨hE.os,hE.tape,hE.output,hE.size,fun b hb _=>hE.old b hb (fun h=>h.elim (fun h=>h) (fun h=>h)),fun _ h=>.inl h,Nat.le_refl _,fun _ _=>rfl,hE.row⟩,?_⟩
  exact (h4 u hr2).other fun b _ h2=>⟨fun h=>h,fun h=>h2 (.inl h)⟩
 cases e with
 | ret=>subst ho;exact fin hk'
 | normal=>subst ho;exact fin hk'
 | exit id=>cases hk'
 | goto l=>cases hk'
 | panic v=>cases hk'
theorem Ag1 {w:World} {B own:Nat->Prop} {ω:Nat->Option Nat} {nx:Nat}:∀ (ps:List Nat) (vs:List AV) (us:List Value) (tmps:List AV) (arr:Array Value),RepL w B own ω nx tmps arr->vs.length=us.length->(∀ (j:Nat) (v:AV) (u:Value),vs[j]?=some v->us[j]?=some u->Rep w B own ω nx v u) ->
  RepL w B own ω nx (Agr tmps ps vs) ((ps.zip us).foldl (fun tmps (t,a)=>tmps.setIfInBounds t a) arr)
 | [],vs,us,tmps,arr,h,hl,hv=>by cases vs <;> exact h
 | p :: ps,[],us,tmps,arr,h,hl,hv=>by
  cases us with
  | nil=>exact h
  | cons u us=>cases hl
 | p :: ps,v :: vs,[],tmps,arr,h,hl,hv=>by cases hl
 | p :: ps,v :: vs,u :: us,tmps,arr,h,hl,hv =>
  Ag1 ps vs us _ _ (h.set p (hv 0 v u rfl rfl)) (by simpa using hl) (fun j v u h1 h2=>hv (j + 1) v u h1 h2)
theorem Azf (ps:Array Nat) (us:Array Value) (arr:Array Value):((ps.zip us).foldl (fun tmps (t,a)=>tmps.setIfInBounds t a) arr)=((ps.toList.zip us.toList).foldl (fun tmps (t,a)=>tmps.setIfInBounds t a) arr):=by
 rw [<- Array.foldl_toList,Array.toList_zip]
set_option maxHeartbeats 1000000 in
theorem Sj (hC:C.Ok) {go:Ur Bool} (hgo:Akp C go):Agu C (Lu C go false):=by
 intro t args m kk kp w B oC oL ω us hk M hr
 cases t with
 | fn f =>
  simp only [Lu] at hk;split at hk
  ·rename_i F hX
   obtain ⟨h1,h2⟩:=hC.inpl f F hX args m kk w B oC oL ω us hk M hr;refine ⟨h1,h2.mono fun e w' he=>?_⟩
   rcases he with he | ⟨v,u,m',oC',oL',ω',he,hf,_⟩
   ·exact .inl he
   ·cases hf
  obtain ⟨fn,c,hfn,hb,hor⟩:=Abw hC (Xw hC hgo) M hr hk;refine ⟨Awk hC hfn hb us w,?_⟩
  rcases hor with hk | hc
  ·refine callsIn_of_wp_marks hfn hb trivial ?_ rfl
   refine hgo none c ⟨Afe args fn.ntmps,[],m⟩ _ w B oC oL ω _ _ none hk ⟨Aml hr fn.ntmps,trivial,M⟩ trivial (fun e st' a' w' oC' oL' ω' out S' E hk' ho=>?_)
   have fin:Iq st'.ds st'.m.lp (fun lp=>Uo C fn st' (fun v=>kk v ⟨st'.m.heap,st'.m.nx,lp⟩) false) false=true->LeavesInM (Fr none) 0 C.P fn a'.tmps (CallEnd C w B oC oL ω m.nx kk kp) a'.defers .returning w':=fun hk' =>
    Adf (k:=fun v lp=>kk v ⟨st'.m.heap,st'.m.nx,lp⟩) S' hk' (fun v u lp' w2 h1 M2 E2 hr2=>.inl ⟨v,u,_,oC',oL',ω',rfl,h1,E.trans E2,M2,hr2⟩)
   cases e with
   | ret=>subst ho;exact fin hk'
   | normal=>subst ho;exact fin hk'
   | exit id=>cases hk'
   | goto l=>cases hk'
   | panic v =>
    obtain ⟨u,rfl,hu⟩:=ho;refine Vo (u:=.panicking _) (by simp) (heap:=st'.m.heap) (tm:=v :: st'.tmps) (arr:=#[u] ++ a'.tmps) st'.ds a'.defers st'.m.lp _ w' hk' S'.dn S'.ms (RepL.append (cs:=[v]) (a:=#[u]) ⟨rfl,fun i hi=>match i,hi with | 0,_=>hu⟩ S'.tm) (fun w2 lp' M2 E2 ht hk2=>?_)
    exact .inr ⟨v,u,_,oC',oL',ω',rfl,hk2,E.trans E2,M2,ht.at (j:=0) rfl (by rw [Array.getElem?_append_left (by simp)];rfl)⟩
  ·refine hc.mono fun e w' he=>?_
   obtain ⟨v,u,rfl,hv,E,hr'⟩:=he;exact .inl ⟨v,u,m,oC,oL,ω,rfl,hv,Still.ext E,M.still E,hr'.extR (nx':=m.nx) ExtR.refl⟩
 | yld id =>
  intro l hl;simp only [Lu] at hk;split at hk
  ·rename_i tmps params assign body d hid
   obtain ⟨hlen,hk⟩:=Bo hk;obtain ⟨g1,l',g2,g3,g4⟩:=M.lp.rel id _ hid;rw [hl] at g2;cases g2;obtain ⟨r,r1,r2,r3,r4,r5,r6,r7,r8,r9,r10⟩:=g4;have hsz:us.size=r.params.size:=by rw [<- hr.1,Dw hlen,<- r6,Array.length_toList]
   refine ⟨_,_,_,_,run_yield r1 hsz,fun ro=>roundIn_of_wpIn (F:=Fr ro) trivial ?_⟩
   subst r7 r8
   have ht:RepL w (Or2 B oL) oC ω m.nx (Agr tmps params args) ((r.params.zip us).foldl (fun tmps (t,a)=>tmps.setIfInBounds t a) r.tmps):=by
    rw [Azf,r6];exact Ag1 params args us.toList tmps r.tmps r5 (by rw [Array.length_toList];exact hr.1) (fun j v u h1 h2=>hr.at h1 (by rw [<- Array.getElem?_toList];exact h2))
   refine hgo (some id) r.assign ⟨Agr tmps params args,[],m⟩ _ w B oC oL ω { tmps:=_,defers:=[] } _ (some l) hk ⟨ht,trivial,M⟩ ⟨g1,hl⟩ (fun e st1 a1 w1 oC1 oL1 ω1 out S1 E1 hk1 ho=>?_)
   cases e with
   | exit id=>cases hk1
   | goto l=>cases hk1
   | ret=>cases hk1
   | panic v=>cases hk1
   | normal =>
    subst ho;simp only at hk1;split at hk1
    ·rename_i tm1 ps1 as1 bo1 d1 hid1
     obtain ⟨k1,l1,k2,k3,k4⟩:=S1.ms.lp.rel id _ hid1;rw [E1.om id g1,hl] at k2;cases k2;obtain ⟨q,q1,q2,q3,q4,q5,q6,q7,q8,q9,q10⟩:=k4;have hω1:ω1 id=some l:=(E1.om id g1).trans hl
     obtain ⟨M2,E2⟩:=S1.ms.setL hid1 hω1 (.loop { q with state:=.busy }) (e':=.lop 1 none tm1 ps1 as1 bo1 d1)
      ⟨{ q with state:=.busy },World.putObj_heap_same (S1.ms.lp.dis l k3).1,rfl,q3,q4,q5.extR (ExtR.put k3 (LbIs.noCells (e:=.lop 0 none tm1 ps1 as1 bo1 d1) ⟨q,q1,q2,q3,q4,q5,q6,q7,q8,q9,q10⟩) _),q6,q7,q8,q9,q10⟩
     refine ⟨_,run_beginRound q1 q2,?_⟩;refine hgo (some id) r.body ⟨st1.tmps,st1.ds,_⟩ _ _ B oC1 oL1 ω1 a1 _ (some l) hk1 ⟨S1.tm.extR E2,S1.dn.extR E2,M2⟩ ⟨k1,hω1⟩ (fun e st2 a2 w2 oC2 oL2 ω2 out S2 E3 hk2 ho=>?_)
     split at hk2
     ·rename_i s2 p2 tm2 ps2 as2 bo2 d2 b s j hid2 hend
      obtain ⟨x1,l2,x2,x3,x4⟩:=S2.ms.lp.rel id _ hid2;have hω2:ω2 id=some l:=(E3.om id k1).trans hω1;rw [hω2] at x2;cases x2;obtain ⟨y,y1,y2,y3,y4,y5,y6,y7,y8,y9,y10⟩:=x4
      have done:∀ (jump:Option Code) (b:Bool) (s:Nat) (j:Option Ex),jump.isNone=b->(if jump.isNone then LoopState.ready else LoopState.done)=A96 s->j.bind Agt=jump->(∀ e,j=some e->(Agt e).isSome=true) ->
        kk (.bool b) ⟨st2.m.heap,st2.m.nx,Ad2 st2.m.lp id (.lop s j tm2 ps2 as2 bo2 d2)⟩=true->∃ v w',(Instr.endRound l jump).run C.P w2=.ok v w'/\CallEnd C w B oC oL ω m.nx kk kp (.returned v) w':=fun jump b s j h1 h2 h3 h4 h5=>by
       obtain ⟨M3,E4⟩:=S2.ms.setL hid2 hω2 (.loop { y with state:=if jump.isNone then .ready else .done,pending:=jump }) (e':=.lop s j tm2 ps2 as2 bo2 d2)
        ⟨{ y with state:=if jump.isNone then .ready else .done,pending:=jump },World.putObj_heap_same (S2.ms.lp.dis l x3).1,h2,h3.symm,h4,y5.extR (ExtR.put x3 (LbIs.noCells (e:=.lop s2 p2 tm2 ps2 as2 bo2 d2) ⟨y,y1,y2,y3,y4,y5,y6,y7,y8,y9,y10⟩) _),y6,y7,y8,y9,y10⟩
       refine ⟨_,_,run_endRound jump y1,.inl ⟨.bool b,_,_,oC2,oL2,ω2,rfl,h5,((E1.trans E2).trans E3).trans E4,M3,?_⟩⟩;rw [h1];exact .bool _ _
      cases e with
      | normal=>subst ho;cases hend;exact done none true 0 none rfl rfl rfl (fun e h=>by cases h) hk2
      | ret=>subst ho;cases hend;exact done (some .ret) false 2 (some .ret) rfl rfl rfl (fun e h=>by cases h;rfl) hk2
      | exit i=>subst ho;cases hend;exact done (some (.exit i)) false 2 (some (.exit i)) rfl rfl rfl (fun e h=>by cases h;rfl) hk2
      | goto i=>subst ho;cases hend;exact done (some (.goto i)) false 2 (some (.goto i)) rfl rfl rfl (fun e h=>by cases h;rfl) hk2
      | panic v=>cases hend
     ·cases hk2
    ·cases hk1
  ·cases hk
end
end Go.Bas
end
section
namespace Go.Bas
open Go.RowKit
section
variable {C:Cfg}
theorem Att (C:Cfg) (n:Nat) (t:Tgt) (args:List AV) (m:Mem):Lu C (run C n) false t args m (fun _ _=>false) (fun _ _=>false)=false :=
 (Us (f:=fun _:Unit=>false) (Abu C n) C () t args m (fun _ _=>()) (fun _ _=>())).symm
theorem A98 (C:Cfg) (n:Nat) (tmps:List AV) (m:Mem) (ai:Nat) (o:Oper):Det (fun k=>opD C (Qg C (run C n) false) (Lu C (run C n) false) tmps m ai o k false) :=
 Atl (o:=opD C (Qg C (run C n) none) (Lu C (run C n) none) tmps m ai o some none) fun k=>by
  have h:=(Awi (f:=fun o:Option Rc=>match o with | some a=>k a | none=>false) (Vl (Abu C n) C none) (Us (Abu C n) C none) C tmps m ai o some none).symm
  refine Eq.trans ?_ (h.trans ?_)
  ·rfl
  ·cases opD C (Qg C (run C n) none) (Lu C (run C n) none) tmps m ai o some none <;> rfl
theorem MemSim.keep {w:World} {B oC oL:Nat->Prop} {ω:Nat->Option Nat} {m:Mem} (M:MemSim C w B oC oL ω m) (k:Nat):MemSim C w B oC oL (fun i=>if i < m.nx then ω i else none) ⟨m.heap,m.nx + k,m.lp⟩ /\
  (∀ n v u,n<=m.nx->Rep w (Or2 B oL) oC ω n v u->∀ n',n<=n'->Rep w (Or2 B oL) oC (fun i=>if i < m.nx then ω i else none) n' v u):=by
 have rep:∀ n v u,n<=m.nx->Rep w (Or2 B oL) oC ω n v u->∀ n',n<=n'->Rep w (Or2 B oL) oC (fun i=>if i < m.nx then ω i else none) n' v u:=fun n v u hn h n' hn' =>
  h.mono (Nat.le_refl _) (fun _ _ h1 h2=>⟨rfl,h1,h2⟩) (fun id b hi hb=>⟨by omega,(if_pos (by omega)).trans hb⟩) (fun _ _ h=>h)
 refine ⟨⟨⟨fun id x hx=>?_,fun i j b hi hj h1 h2=>?_,M.hp.ob⟩,⟨fun id e he=>?_,fun i j l hi hj h1 h2=>?_,M.lp.dis⟩,M.gl,M.gb,M.bl⟩,rep⟩
 ·obtain ⟨h1,b,arr,h2,h3,h4,h5,h6⟩:=M.hp.rel id x hx
  refine ⟨by show id < m.nx + k;omega,b,arr,(if_pos h1).trans h2,h3,h4,h5,fun i hi=>?_⟩
  have:=h6 i hi;cases hp:x.pure with
  | true=>rw [hp] at this;exact rep 0 _ _ (Nat.zero_le _) this 0 (Nat.le_refl _)
  | false=>rw [hp] at this;exact rep _ _ _ (Nat.le_refl _) this _ (by simp)
 ·obtain ⟨x,hx⟩:=Option.isSome_iff_exists.1 hi
  obtain ⟨y,hy⟩:=Option.isSome_iff_exists.1 hj;have a1:=(M.hp.rel i x hx).1;have a2:=(M.hp.rel j y hy).1;simp only [a1,a2,if_true] at h1 h2;exact M.hp.inj i j b hi hj h1 h2
 ·obtain ⟨h1,l,h2,h3,h4⟩:=M.lp.rel id e he
  refine ⟨by show id < m.nx + k;omega,l,(if_pos h1).trans h2,h3,?_⟩
  cases e with
  | dfb=>exact h4
  | lop s pend tmps params assign body d =>
   obtain ⟨r,r1,r2,r3,r4,r5,r6,r7,r8,r9,r10⟩:=h4;exact ⟨r,r1,r2,r3,r4,⟨r5.1,fun i hi=>rep _ _ _ (Nat.le_refl _) (r5.2 i hi) _ (by simp)⟩,r6,r7,r8,by show d < m.nx + k;omega,(if_pos r9).trans r10⟩
 ·obtain ⟨x,hx⟩:=Option.isSome_iff_exists.1 hi
  obtain ⟨y,hy⟩:=Option.isSome_iff_exists.1 hj;have a1:=(M.lp.rel i x hx).1;have a2:=(M.lp.rel j y hy).1;simp only [a1,a2,if_true] at h1 h2;exact M.lp.inj i j l hi hj h1 h2
theorem Marks.keep {ω:Nat->Option Nat} {nx k:Nat}:∀ {ds:List Nat} {xs:List Deferred},Marks ω nx ds xs->Marks (fun i=>if i < nx then ω i else none) (nx + k) ds xs
 | [],[],_=>trivial
 | d :: ds,x :: xs,h=>⟨⟨by have:=h.1.1;omega,let ⟨r,h1,h2⟩:=h.1.2;⟨r,(if_pos h.1.1).trans h1,h2⟩⟩,Marks.keep h.2⟩
 | [],_ :: _,h=>h.elim
 | _ :: _,[],h=>h.elim
theorem Atu (hC:C.Ok) {n:Nat} (hgo:Akp C (run C n)) {ro:Option Nat} {ops:Array Oper} {id:Nat} {st:St} {k:St->Bool} {w:World} {B oC oL:Nat->Prop} {ω:Nat->Option Nat} {a:Act} {Q:Exit->Act->World->Prop}
  (hk:Zr C (Qg C (run C n) false) (Lu C (run C n) false) ops st.m.nx (st.m.nx + Px ops.toList) ops.toList ⟨st.tmps,st.ds,⟨st.m.heap,st.m.nx + Px ops.toList,st.m.lp⟩⟩ st.m.nx [] k false=true)
  (S:Sim C w B oC oL ω st a) (hQ:∀ st' a' w' oC' oL' ω',Sim C w' B oC' oL' ω' st' a'->ExtR w oC oL ω st.m.nx w' oC' oL' ω' st'.m.nx->k st'=true->Q .normal a' w'):(Code.region id ops true).wpIn (Fr ro) 0 C.P Q a w:=by
 refine wpIn_region_any hC.mixed ?_
 obtain ⟨rs,h1,h2,h3,h4⟩:=Aqm (A98 C n) _ _ _ _ hk
 have E0:=Still.drew w
 have M1:=S.ms.still E0
 obtain ⟨M2,rep⟩:=M1.keep (Px ops.toList)
 have S2:Sim C { w with drawn:=w.drawn + 1 } B oC oL (fun i=>if i < st.m.nx then ω i else none) ⟨st.tmps,st.ds,⟨st.m.heap,st.m.nx + Px ops.toList,st.m.lp⟩⟩ a :=
  ⟨⟨S.tm.1,fun i hi=>rep _ _ _ (Nat.le_refl _) ((S.tm.2 i hi).ext E0.ext) _ (by simp)⟩,S.dn.keep,M2⟩
 have hL:∀ j,(Array.replicate ops.size false).getD j false=false:=fun j=>by
  rw [Array.getD_eq_getD_getElem?,Array.getElem?_replicate];split <;> rfl
 refine Aze hC (Xw hC hgo) (Sj hC hgo) (Att C n) (rs:=rs) (nx0:=st.m.nx) (hi:=st.m.nx + Px ops.toList) (by simpa using h1) (fun j o ho=>h4 j o (by rw [Array.getElem?_toList];exact ho)) (by simpa using h2) (w0:={ w with drawn:=w.drawn + 1 }) (oC0:=oC) (oL0:=oL) (ω0:=fun i=>if i < st.m.nx then ω i else none)
  (fun a' w' oC' oL' ω' S' E' hn=>hQ _ a' w' oC' oL' ω' S' ?_ h3) ops.size _ a _ oC oL _ _ ?_ (by simp) (fun j o _ h=>by rw [hL] at h;cases h) ?_ S2 ExtR.refl (fun i j hb rc hr he _=>?_) (Nat.le_refl _) (by omega)
 ·have E1:ExtR w oC oL ω st.m.nx w' oC' oL' ω' st.m.nx:=Ext.trans (Still.ext E0) ⟨E'.os,E'.tape,E'.output,E'.size,E'.old,E'.owns,Nat.le_refl _,fun i hi=>(E'.om i hi).trans (if_pos hi),E'.row⟩
  exact Ext.raise E1 (by omega)
 ·simp only [left]
  refine Nat.le_trans (List.length_filter_le _ _) (by simp)
 ·have:=Amh (L:=fun i=>(Array.replicate ops.size false).getD i false) (L':=fun x=>Nat.blt x (0 + 0)) rs 0 ⟨st.tmps,st.ds,⟨st.m.heap,st.m.nx + Px ops.toList,st.m.lp⟩⟩ (fun j _=>by
   rw [hL];cases hb:Nat.blt j (0 + 0) with
   | false=>rfl
   | true=>have:=Nlb hb;omega)
  rw [this,Ami];exact StEq.refl _
 ·simp only [Aeb,Bae] at h2
  have:=List.all_eq_true.1 h2.1.2.2 i (List.mem_flatMap.2 ⟨rc,by simpa using Rf hr,by rw [he];exact List.mem_singleton_self _⟩)
  simp only [Bae] at this;have:=I8 this.1;exact if_neg (by omega)
theorem Azg {ro:Option Nat} {e:Ex} {c:Code} (hc:Agt e=some c) {Q:Exit->Act->World->Prop} {a:Act} {w:World} (hQ:∀ out,(match e with | .normal=>out=Exit.normal | .exit id=>out=.exit id | .goto l=>out=.goto l | .ret=>out=.ret | .panic _=>False)->Q out a w):c.wpIn (Fr ro) 0 C.P Q a w:=by
 cases e <;> cases hc
 ·exact wpIn_exit (hQ _ rfl)
 ·exact wpIn_goto (hQ _ rfl)
 ·exact wpIn_ret (hQ _ rfl)
theorem ExtR.add {w:World} {oC oL:Nat->Prop} {ω:Nat->Option Nat} {nx:Nat} (o:Obj):ExtR w oC oL ω nx (w.alloc o) oC (fun x=>oL x\/x=w.heap.size) (fun i=>if i=nx then some w.heap.size else ω i) (nx + 1):=by
 refine ⟨rfl,rfl,rfl,by simp,fun b hb _=>heap_alloc_old w o hb,fun b hb=>?_,by omega,fun id hi=>if_neg (by omega),fun b n hr=>?_⟩
 ·rcases hb with hb | hb | rfl
  ·exact .inl (.inl hb)
  ·exact .inl (.inr hb)
  ·exact .inr (Nat.le_refl _)
 ·have hlt:=Ry hr
  simp only [rowSize,heap_alloc_old w o hlt] at hr ⊢;exact hr
theorem MemSim.addLoop {w:World} {B oC oL:Nat->Prop} {ω:Nat->Option Nat} {m:Mem} (M:MemSim C w B oC oL ω m) {tmps:List AV} {arr:Array Value} (ht:RepL w (Or2 B oL) oC ω m.nx tmps arr) (fn:FuncId) (params:Array Tmp) (assign body:Code) {d D:Nat} (hd:d < m.nx) (hD:ω d=some D) :
  MemSim C (w.alloc (.loop { state:=.ready,pending:=none,fn:=fn,tmps:=arr,params:=params,assign:=assign,body:=body,defers:=D })) B oC (fun x=>oL x\/x=w.heap.size) (fun i=>if i=m.nx then some w.heap.size else ω i) ⟨m.heap,m.nx + 1,(m.nx,.lop 0 none tmps params.toList assign body d) :: m.lp⟩ :=
 (M.addL (.loop { state:=.ready,pending:=none,fn:=fn,tmps:=arr,params:=params,assign:=assign,body:=body,defers:=D }) (.lop 0 none tmps params.toList assign body d) (fun c t f h=>by cases h) ⟨_,heap_alloc_new w _,rfl,rfl,fun e h=>(by cases h),ht.extR (ExtR.add _),rfl,rfl,rfl,by show d < m.nx + 1;omega,(if_neg (by show ¬ d=m.nx;omega)).trans hD⟩).1
theorem Atv {w:World} {B oC oL:Nat->Prop} {ω:Nat->Option Nat} {st:St} {a:Act} {inr ro:Option Nat} {params:Array Tmp} {assign body:Code} {K:Nat->List Nat->Mem->Bool} (S:Sim C w B oC oL ω st a) (hI:InR ω st.m.nx inr ro)
  (hk:Aec inr st params.toList assign body K false=true) (fn:FuncId) :
  ∃ (l:Nat) (mark:List Deferred) (w1:World) (oL1:Nat->Prop) (ω1:Nat->Option Nat) (id:Nat) (ds:List Nat) (m:Mem),(Instr.enterLoop fn a.tmps params assign body ro).run C.P w=.ok (l,mark) w1/\MemSim C w1 B oC oL1 ω1 m/\ExtR w oC oL ω st.m.nx w1 oC oL1 ω1 m.nx /\
   id < m.nx/\ω1 id=some l/\Marks ω1 m.nx ds (mark ++ a.defers)/\K id ds m=true:=by
 unfold Aec at hk
 cases inr with
 | none =>
  cases ro with
  | some l=>exact hI.elim
  | none =>
   simp only at hk;obtain ⟨M1,E1⟩:=S.ms.addL (.deferred (some [])) .dfb (fun c t f h=>by cases h) (heap_alloc_new w _)
   have M2:=M1.addLoop (S.tm.extR E1) fn params assign body (d:=st.m.nx) (D:=w.heap.size) (by show st.m.nx < st.m.nx + 1;omega) (if_pos rfl)
   have E2:=E1.trans (ExtR.add (.loop { state:=.ready,pending:=none,fn:=fn,tmps:=a.tmps,params:=params,assign:=assign,body:=body,defers:=w.heap.size }));refine ⟨_,_,_,_,_,_,_,_,run_enterLoop_outer fn a.tmps params assign body,M2,E2,(by show st.m.nx + 1 < st.m.nx + 1 + 1;omega),?_,?_,hk⟩
   ·rw [if_pos rfl,World.size_alloc]
   ·exact ⟨⟨by show st.m.nx < st.m.nx + 1 + 1;omega,_,(if_neg (by show ¬ st.m.nx=st.m.nx + 1;omega)).trans (if_pos rfl),rfl⟩,S.dn.extR E2⟩
 | some id0 =>
  cases ro with
  | none=>exact hI.elim
  | some l0 =>
   simp only at hk;split at hk
   ·rename_i s0 p0 tm0 ps0 as0 bo0 d0 hlp0
    obtain ⟨x1,l2,x2,x3,x4⟩:=S.ms.lp.rel id0 _ hlp0;rw [hI.2] at x2;cases x2;obtain ⟨y,y1,y2,y3,y4,y5,y6,y7,y8,y9,y10⟩:=x4;have M1:=S.ms.addLoop S.tm fn params assign body y9 y10
    have E1:ExtR w oC oL ω st.m.nx _ oC _ _ (st.m.nx + 1):=ExtR.add (.loop { state:=.ready,pending:=none,fn:=fn,tmps:=a.tmps,params:=params,assign:=assign,body:=body,defers:=y.defers });exact ⟨_,_,_,_,_,_,_,_,run_enterLoop_inner y1 fn a.tmps params assign body,M1,E1,(by show st.m.nx < st.m.nx + 1;omega),if_pos rfl,S.dn.extR E1,hk⟩
   ·cases hk
def Ag2 (C:Cfg) (st:St) (k:Ex->St->Bool) (id:Nat) (ds:List Nat) (m':Mem):Bool:=match Gw m'.lp id with
 | some (.lop s pend _ _ _ _ _)=>cond (Nat.beq s 1) false (k (match pend with | none=>.normal | some e=>e) ⟨st.tmps,ds,⟨m'.heap,m'.nx,Zn m'.lp id⟩⟩)
 | _=>false
theorem Atw {w w1 w':World} {B oC oL oC1 oL1:Nat->Prop} {ω ω1:Nat->Option Nat} {st:St} {a:Act} {ro:Option Nat} {k:Ex->St->Bool} {Q:Exit->Act->World->Prop} (S:Sim C w B oC oL ω st a) (hQ:Aqp C B w oC oL ω st.m.nx k Q)
  {l id:Nat} {mark:List Deferred} {ds:List Nat} {m:Mem} (E1:ExtR w oC oL ω st.m.nx w1 oC1 oL1 ω1 m.nx) (hid:id < m.nx) (hω:ω1 id=some l) (hm:Marks ω1 m.nx ds (mark ++ a.defers)) {e:Ending}
  (he:CallEnd C w1 B oC1 oL1 ω1 m.nx (fun _ m'=>Ag2 C st k id ds m') (fun v m'=>k (.panic v) ⟨st.tmps,ds,m'⟩) e w'):rangePost (Fr ro) 0 C.P l Q { a with defers:=mark ++ a.defers } e w':=by
 rcases he with ⟨v,u,m',oC',oL',ω',rfl,k1,k2,k3,k4⟩ | ⟨v,u,m',oC',oL',ω',rfl,k1,k2,k3,k4⟩
 ·replace k1:Ag2 C st k id ds m'=true:=k1
  unfold Ag2 at k1;split at k1
  ·rename_i s pend tm ps asv bo d hlp
   rcases Dt k1 with ⟨_,hf⟩ | ⟨hs,k1⟩
   ·cases hf
   ·obtain ⟨x1,l2,x2,x3,x4⟩:=k3.lp.rel id _ hlp
    have hω':ω' id=some l:=(k2.om id hid).trans hω;rw [hω'] at x2;cases x2;obtain ⟨y,y1,y2,y3,y4,_⟩:=x4
    have hne:y.state ≠ .busy:=by
     rw [y2]
     match s,hs with
     | 0,_=>simp [A96]
     | 1,hs=>cases hs
     | s + 2,_=>simp [A96]
    obtain ⟨M2,E2⟩:=k3.delL hlp hω' (.loop { y with state:=.exhausted })
    have E3:=E1.trans (k2.trans E2);have S3:Sim C (w'.putObj l (.loop { y with state:=.exhausted })) B oC' oL' ω' ⟨st.tmps,ds,⟨m'.heap,m'.nx,Zn m'.lp id⟩⟩ { a with defers:=mark ++ a.defers }:=⟨S.tm.extR E3,hm.extR (k2.trans E2),M2⟩
    have e2:=run_endLoop (P:=C.P) y1 hne;generalize w'.putObj l (.loop { y with state:=.exhausted })=w2 at e2 S3 E3
    refine ⟨y.pending,w2,e2,?_⟩;rw [y3];cases pend with
    | none=>exact hQ .normal _ _ _ _ _ _ _ S3 E3 k1 rfl
    | some e =>
     obtain ⟨c,hc⟩:=Option.isSome_iff_exists.1 (y4 e rfl);simp only [Option.bind_some,hc];refine Azg hc (fun out ho=>hQ e _ _ _ _ _ _ out S3 E3 k1 ?_)
     cases e <;> first | exact ho | exact ho.elim
  ·cases k1
 ·have E3:=E1.trans k2
  exact hQ (.panic v) ⟨st.tmps,ds,m'⟩ { a with defers:=mark ++ a.defers } w' oC' oL' ω' _ ⟨S.tm.extR E3,hm.extR k2,k3⟩ E3 k1 ⟨u,rfl,k4⟩
end
end Go.Bas
end
section
namespace Go.Bas
open Go.RowKit
section
variable {C:Cfg}
theorem Aei (hC:C.Ok) {go:Ur Bool} (hA:Akp C go) {w:World} {B oC oL:Nat->Prop} {ω:Nat->Option Nat} {st:St} {a:Act} {inr ro:Option Nat} {k:Ex->St->Bool} {Q:Exit->Act->World->Prop} (S:Sim C w B oC oL ω st a) (hI:InR ω st.m.nx inr ro) (hQ:Aqp C B w oC oL ω st.m.nx k Q)
  {g:Operand} {f:FuncId} {first cap:List AV} {fs cs:Array Value} (hv:a.eval g=.func (.func f) fs cs) (h1:first.length=fs.size) (h2:cap.length=cs.size) (h3:∀ i (h:i < first.length),Rep w (Or2 B oL) oC ω st.m.nx first[i] (fs.getD i undef)) (h4:∀ i (h:i < cap.length),Rep w (Or2 B oL) oC ω st.m.nx cap[i] (cs.getD i undef))
  {params:Array Tmp} {assign body:Code} (hk:Aec inr st params.toList assign body (fun id ds m=>Lu C go false (.fn f) (first ++ [.yld id] ++ cap) m (fun _ m'=>Ag2 C st k id ds m') (fun v m'=>k (.panic v) ⟨st.tmps,ds,m'⟩)) false=true) :
  (Code.rangeFunc g params assign body).wpIn (Fr ro) 0 C.P Q a w:=by
 refine wpIn_rangeFunc fun fn _=>?_
 obtain ⟨l,mark,w1,oL1,ω1,id,ds,m,e1,M1,E1,hid,hω,hm,hk1⟩:=Atv S hI hk fn
 have r1:RepL w1 (Or2 B oL1) oC ω1 m.nx first fs:=⟨h1,fun i hi=>(h3 i hi).extR E1⟩
 have r3:RepL w1 (Or2 B oL1) oC ω1 m.nx cap cs:=⟨h2,fun i hi=>(h4 i hi).extR E1⟩
 have r2:RepL w1 (Or2 B oL1) oC ω1 m.nx [.yld id] #[.func (.yield l) #[] #[]]:=⟨rfl,fun i hi=>match i,hi with | 0,_=>.yld _ _ _ hid hω⟩
 have hargs:RepL w1 (Or2 B oL1) oC ω1 m.nx (first ++ [.yld id] ++ cap) (fs ++ #[.func (.yield l) #[] #[]] ++ cs) :=
  RepL.append (RepL.append r1 r2) r3
 obtain ⟨c1,c2⟩:=Sj hC hA (.fn f) _ m _ _ w1 B oC oL1 ω1 _ hk1 M1 hargs
 have hres:(resolve a.eval (rangeCall g l) 0).run C.P w1=.ok { target:=.fn (.func f) cs,args:=fs ++ #[.func (.yield l) #[] #[]] } w1:=by
  simp [resolve,rangeCall,hv,Deferred.ofValue,Sem.run,show ∀ l,a.eval (.const (.func (.yield l) #[] #[]))=.func (.yield l) #[] #[] from fun _=>rfl]
 have hinv:(invoke (.fn (.func f) cs) (fs ++ #[.func (.yield l) #[] #[]])).run C.P w1=.ok (.enter f (fs ++ #[.func (.yield l) #[] #[]] ++ cs)) w1:=by
  simp only [invoke];exact c1
 exact ⟨l,mark,w1,_,w1,f,_,w1,e1,hres,fun _ _=>trivial,hinv,Aft ro,(Rz c2).mono fun e w' he=>Atw S hQ E1 hid hω hm he⟩
set_option maxHeartbeats 2000000 in
theorem Rh (hC:C.Ok):∀ n,Akp C (run C n) /\
  (∀ (inr:Option Nat) (body code:Code) (st:St) (k:Ex->St->Bool) (w:World) (B oC oL:Nat->Prop) (ω:Nat->Option Nat) (a:Act) (Q:Exit->Act->World->Prop) (ro:Option Nat),
   run C n inr (some body) code st k false=true->Sim C w B oC oL ω st a->InR ω st.m.nx inr ro->Aqp C B w oC oL ω st.m.nx k Q->Afx (Fr ro) C.P body Q n code a w) /\
  (∀ (inr:Option Nat) (body:Code) (st:St) (k:Ex->St->Bool) (w:World) (B oC oL:Nat->Prop) (ω:Nat->Option Nat) (a:Act) (Q:Exit->Act->World->Prop) (ro:Option Nat),
   run C n inr none (.loop body) st k false=true->Sim C w B oC oL ω st a->InR ω st.m.nx inr ro->Aqp C B w oC oL ω st.m.nx k Q->Code.roundsIn (Fr ro) 0 C.P body Q n a w)
 | 0=>⟨fun inr code st k w B oC oL ω a Q ro hk=>(by cases hk),fun inr body code st k w B oC oL ω a Q ro hk=>(by cases hk),fun inr body st k w B oC oL ω a Q ro hk=>(by cases hk)⟩
 | n + 1=>by
  obtain ⟨hA,hS,hL⟩:=Rh hC n
  have next:∀ {w w1:World} {B oC oL oC1 oL1:Nat->Prop} {ω ω1:Nat->Option Nat} {nx nx1:Nat} {k:Ex->St->Bool} {Q:Exit->Act->World->Prop},Aqp C B w oC oL ω nx k Q->ExtR w oC oL ω nx w1 oC1 oL1 ω1 nx1->Aqp C B w1 oC1 oL1 ω1 nx1 k Q:=fun hQ E e st' a' w' oC' oL' ω' out S' E' hk ho=>hQ e st' a' w' oC' oL' ω' out S' (E.trans E') hk ho
  have loopS:∀ (inr:Option Nat) (body:Code) (st:St) (k:Ex->St->Bool) (w:World) (B oC oL:Nat->Prop) (ω:Nat->Option Nat) (a:Act) (Q:Exit->Act->World->Prop) (ro:Option Nat),
    run C (n + 1) inr none (.loop body) st k false=true->Sim C w B oC oL ω st a->InR ω st.m.nx inr ro->Aqp C B w oC oL ω st.m.nx k Q->Code.roundsIn (Fr ro) 0 C.P body Q (n + 1) a w:=fun inr body st k w B oC oL ω a Q ro hk S hI hQ=>by
   rw [roundsIn_succ];refine hA inr body st _ w B oC oL ω a _ ro hk S hI (fun e st' a' w' oC' oL' ω' out S' E hk' ho=>?_)
   cases e with
   | normal=>subst ho;exact hL inr body st' k w' B oC' oL' ω' a' Q ro hk' S' (hI.ext E) (next hQ E)
   | exit id=>have h2:=hQ _ st' a' w' oC' oL' ω' out S' E hk' ho;subst ho;exact h2
   | goto l=>have h2:=hQ _ st' a' w' oC' oL' ω' out S' E hk' ho;subst ho;exact h2
   | ret=>have h2:=hQ _ st' a' w' oC' oL' ω' out S' E hk' ho;subst ho;exact h2
   | panic v=>have h2:=hQ _ st' a' w' oC' oL' ω' out S' E hk' ho;obtain ⟨u,rfl,_⟩:=ho;exact h2
  refine ⟨?_,?_,loopS⟩
  ·intro inr code st k w B oC oL ω a Q ro hk S hI hQ
   have hk0:=hk;rw [Aqe] at hk;unfold Vj at hk;cases code <;> simp only at hk <;> try cases hk
   case skip=>exact wpIn_skip (hQ .normal st a w oC oL ω _ S ExtR.refl hk rfl)
   case label l=>exact wpIn_label (hQ .normal st a w oC oL ω _ S ExtR.refl hk rfl)
   case ret=>exact wpIn_ret (hQ .ret st a w oC oL ω _ S ExtR.refl hk rfl)
   case exit id=>exact wpIn_exit (hQ (.exit id) st a w oC oL ω _ S ExtR.refl hk rfl)
   case goto l=>exact wpIn_goto (hQ (.goto l) st a w oC oL ω _ S ExtR.refl hk rfl)
   case seq x y =>
    refine wpIn_seq (hA inr x st _ w B oC oL ω a _ ro hk S hI (fun e st' a' w' oC' oL' ω' out S' E hk' ho=>?_))
    cases e with
    | normal=>subst ho;exact hA inr y st' k w' B oC' oL' ω' a' Q ro hk' S' (hI.ext E) (next hQ E)
    | exit id=>have h2:=hQ _ st' a' w' oC' oL' ω' out S' E hk' ho;subst ho;exact h2
    | goto l=>have h2:=hQ _ st' a' w' oC' oL' ω' out S' E hk' ho;subst ho;exact h2
    | ret=>have h2:=hQ _ st' a' w' oC' oL' ω' out S' E hk' ho;subst ho;exact h2
    | panic v=>have h2:=hQ _ st' a' w' oC' oL' ω' out S' E hk' ho;obtain ⟨u,rfl,_⟩:=ho;exact h2
   case cond c x y =>
    split at hk
    ·rename_i t ht
     have hev:=S.ev c;rw [ht] at hev;generalize hv:a.eval c=u at hev;cases hev
     have hset:∀ b,b=t->Ati st.tmps c (.bool b)=st.tmps:=fun b e=>by
      subst e;cases c with
      | tmp d=>exact Uu ht
      | _=>rfl
     rcases Dt hk with ⟨h1,h2⟩ | ⟨h1,h2⟩
     ·rw [hset true h1.symm] at h2
      exact wpIn_cond_true (by rw [hv,h1]) (hA inr x st k w B oC oL ω a Q ro h2 S hI hQ)
     ·rw [hset false h1.symm] at h2
      exact wpIn_cond_false (by rw [hv,h1]) (hA inr y st k w B oC oL ω a Q ro h2 S hI hQ)
    ·cases hk
   case block id body =>
    refine wpIn_block (hA inr body st _ w B oC oL ω a _ ro hk S hI (fun e st' a' w' oC' oL' ω' out S' E hk' ho=>?_))
    cases e with
    | normal=>subst ho;exact hQ .normal _ _ _ _ _ _ _ S' E hk' rfl
    | exit id' =>
     subst ho;simp only [Exit.inBlock]
     rcases Dt hk' with ⟨h1,h2⟩ | ⟨h1,h2⟩
     ·rw [if_pos (Dw h1)];exact hQ .normal _ _ _ _ _ _ _ S' E h2 rfl
     ·rw [if_neg (fun e=>by rw [(Ea _ _).2 e] at h1;cases h1)];exact hQ (.exit id') _ _ _ _ _ _ _ S' E h2 rfl
    | goto l=>have h2:=hQ _ st' a' w' oC' oL' ω' out S' E hk' ho;subst ho;exact h2
    | ret=>have h2:=hQ _ st' a' w' oC' oL' ω' out S' E hk' ho;subst ho;exact h2
    | panic v=>have h2:=hQ _ st' a' w' oC' oL' ω' out S' E hk' ho;obtain ⟨u,rfl,_⟩:=ho;exact h2
   case loop body=>exact wpIn_loop_rounds (n + 1) (loopS inr body st k w B oC oL ω a Q ro hk0 S hI hQ)
   case scope body=>exact Amk (hS inr body body st k w B oC oL ω a Q ro hk S hI hQ)
   case region id ops draw =>
    cases draw with
    | false =>
     simp only [cond_false] at hk;refine wpIn_region ?_
     have:=Adc (ro:=ro) (Q:=Q) (ops:=ops) (Sj hC hA) ops.toList 0 rfl st a w oC oL ω hk S (fun st' a' w' oC' oL' ω' S' E hk'=>hQ .normal _ _ _ _ _ _ _ S' E hk' rfl)
      (fun v u st' a' w' oC' oL' ω' S' E hk' hr=>hQ (.panic v) _ _ _ _ _ _ _ S' E hk' ⟨u,rfl,hr⟩)
     rw [List.range_eq_range']
     simpa using this
    | true =>
     simp only [cond_true] at hk;exact Atu hC hA hk S (fun st' a' w' oC' oL' ω' S' E hk'=>hQ .normal _ _ _ _ _ _ _ S' E hk' rfl)
   case rangeFunc g params assign body =>
    split at hk
    ·rename_i f first cap hg
     have hev:=S.ev g;rw [hg] at hev;generalize hv:a.eval g=gv at hev;cases hev with
     | fn _ _ _ _ fs cs h1 h2 h3 h4 =>
      exact Aei hC hA S hI hQ hv h1 h2 h3 h4 hk
    ·cases hk
  ·intro inr body code st k w B oC oL ω a Q ro hk S hI hQ
   rw [Aqe] at hk;unfold Vj at hk;simp only at hk;refine hA inr code st _ w B oC oL ω a _ ro hk S hI (fun e st' a' w' oC' oL' ω' out S' E hk' ho=>?_)
   cases e with
   | normal=>have h2:=hQ _ st' a' w' oC' oL' ω' out S' E hk' ho;subst ho;exact h2
   | exit id=>have h2:=hQ _ st' a' w' oC' oL' ω' out S' E hk' ho;subst ho;exact h2
   | ret=>have h2:=hQ _ st' a' w' oC' oL' ω' out S' E hk' ho;subst ho;exact h2
   | panic v=>have h2:=hQ _ st' a' w' oC' oL' ω' out S' E hk' ho;obtain ⟨u,rfl,_⟩:=ho;exact h2
   | goto l =>
    subst ho;simp only at hk' ⊢;split at hk'
    ·rename_i rest hf
     simp only [hf];exact hS inr body rest st' k w' B oC' oL' ω' a' Q ro hk' S' (hI.ext E) (next hQ E)
    ·rename_i hf
     simp only [hf];exact hQ (.goto l) _ _ _ _ _ _ _ S' E hk' rfl
theorem Ag3 (hC:C.Ok) {n:Nat} {f:FuncId} {args:List AV} {k:AV->Bool} (hk:Ai C n f args k false=true):ACalls C.P C.G f args (fun v=>k v=true):=by
 unfold Ai at hk
 split at hk
 ·rename_i fn hfn
  split at hk
  ·rename_i c hb
   exact Xw hC (Rh hC n).1 fn c f args k hfn hb hk
  ·cases hk
 ·cases hk
end
end Go.Bas
end
section
namespace Go.Bas
open Go.RowKit
abbrev Sum:=FuncId × (List AV->Option (Bool × AV))
def Oa:List Sum->FuncId->Option (List AV->Option (Bool × AV))
 | [],_=>none
 | s :: r,g=>cond (Nat.beq s.1 g) (some s.2) (Oa r g)
def Bc (P:Program) (G:Nat->Option (List AV)) (s:Sum):Prop:=∀ args r,s.2 args=some (true,r)->ACalls P G s.1 args (fun v=>v=r)
structure Base (P:Program):Prop where
 mixed:P.follows .mixedOrders=true
 names:(P.funcs.toList.all fun fn=>!(fn.name == "runtime.NumGoroutine"))=true
theorem Xx {P:Program} {G:Nat->Option (List AV)} {q:FuncId->Bool} (h:Base P) {l:List Sum} (hl:∀ s ∈ l,Bc P G s):Cfg.Ok ⟨P,G,Oa l,q,fun _=>none⟩ where
 sums f F hf args r hr:=by
  have key:∀ l:List Sum,(∀ s ∈ l,Bc P G s)->Oa l f=some F->ACalls P G f args (fun v=>v=r):=by
   intro l
   induction l with
   | nil=>intro _ h;cases h
   | cons s l ih =>
    intro hl hf;simp only [Oa] at hf;cases hb:Nat.beq s.1 f with
    | true =>
     rw [hb] at hf;simp only [cond_true,Option.some.injEq] at hf;have:=hl s (List.mem_cons_self ..) args r (by rw [hf];exact hr)
     rw [Dw hb] at this;exact this
    | false =>
     rw [hb] at hf;exact ih (fun s hs=>hl s (List.mem_cons_of_mem _ hs)) hf
  exact key l hl hf
 inpl f F hF:=by cases hF
 mixed:=h.mixed
 names f fn hfn:=by
  have:=List.all_eq_true.1 h.names fn (by
   have:P.funcs.toList[f]?=some fn:=by rw [Array.getElem?_toList];exact hfn
   exact List.mem_of_getElem? this)
  simpa using this
abbrev Inp:=FuncId × (List AV->Mem->TrM)
def Akq:List Inp->FuncId->Option (List AV->Mem->TrM)
 | [],_=>none
 | s :: r,g=>cond (Nat.beq s.1 g) (some s.2) (Akq r g)
theorem A99 {P:Program} {G:Nat->Option (List AV)} {q:FuncId->Bool} (h:Base P) {l:List Sum} (hl:∀ s ∈ l,Bc P G s) {x:List Inp} (hx:∀ s ∈ x,InpOk ⟨P,G,Oa l,q,fun _=>none⟩ s.1 s.2):Cfg.Ok ⟨P,G,Oa l,q,Akq x⟩ where
 sums:=(Xx (q:=q) h hl).sums
 mixed:=h.mixed
 names:=(Xx (q:=q) h hl).names
 inpl f F hf:=by
  have key:∀ x:List Inp,(∀ s ∈ x,InpOk ⟨P,G,Oa l,q,fun _=>none⟩ s.1 s.2)->Akq x f=some F->InpOk ⟨P,G,Oa l,q,fun _=>none⟩ f F:=by
   intro x
   induction x with
   | nil=>intro _ h;cases h
   | cons s x ih =>
    intro hx hf;simp only [Akq] at hf;cases hb:Nat.beq s.1 f with
    | true =>
     rw [hb] at hf;simp only [cond_true,Option.some.injEq] at hf;have:=hx s (List.mem_cons_self ..);rw [Dw hb,hf] at this;exact this
    | false =>
     rw [hb] at hf;exact ih (fun s hs=>hx s (List.mem_cons_of_mem _ hs)) hf
  exact InpOk.cfg (C:=⟨P,G,Oa l,q,fun _=>none⟩) (C':=⟨P,G,Oa l,q,Akq x⟩) rfl rfl (key x hx hf)
theorem Ap {P:Program} {G:Nat->Option (List AV)}:∀ s ∈ ([]:List Sum),Bc P G s:=fun _ h=>by cases h
theorem Ah {P:Program} {G:Nat->Option (List AV)} {s:Sum} {l:List Sum} (h:Bc P G s) (hl:∀ s ∈ l,Bc P G s):∀ t ∈ s :: l,Bc P G t:=fun t ht=>by
 rcases List.mem_cons.1 ht with rfl | h'
 ·exact h
 ·exact hl t h'
theorem Atx {P:Program} {G:Nat->Option (List AV)} {q:FuncId->Bool} (h:Base P) {l:List Sum} (hl:∀ s ∈ l,Bc P G s) {f:FuncId} {args:List AV} {r:AV} {n:Nat}
  (hrun:∀ k:AV->Bool,k r=true->Ai ⟨P,G,Oa l,q,fun _=>none⟩ n f args k false=true):ACalls P G f args (fun v=>v=r):=by
 classical
 have:=Ag3 (Xx h hl) (hrun (fun v=>decide (v=r)) (by simp))
 exact this.mono fun v hv=>by simpa using hv
theorem Aq {P:Program} {G:Nat->Option (List AV)} (h:Base P) {l:List Sum} (hl:∀ s ∈ l,Bc P G s) {f:FuncId} {args:List AV} {r:AV} {n:Nat}
  (hrun:∀ k:AV->Bool,k r=true->Ai ⟨P,G,Oa l,fun _=>false,fun _=>none⟩ n f args k false=true):ACalls P G f args (fun v=>v=r):=Atx h hl hrun
end Go.Bas
end
section
namespace Go.Bas
open Go.RowKit Go.ChangeShapes Go.WideShapes
def CellsOk:List CK->List Value->Prop
 | [],cs=>cs=[]
 | .b :: ks,cs=>∃ (b:Bool) (r:List Value),cs=.bool b :: r/\CellsOk ks r
 | .i k :: ks,cs=>∃ (n:Int) (r:List Value),cs=.int k n :: r/\(Lit.int k n).wf=true/\CellsOk ks r
 | .s :: _,_=>False
 | .o :: _,_=>False
theorem CellsOk.append:∀ {ks ms:List CK} {a b:List Value},CellsOk ks a->CellsOk ms b->CellsOk (ks ++ ms) (a ++ b)
 | [],ms,a,b,h1,h2=>by
  obtain rfl:a=[]:=h1;exact h2
 | .b :: ks,ms,a,b,⟨x,r,e,h1⟩,h2=>⟨x,r ++ b,by rw [e];rfl,h1.append h2⟩
 | .i k :: ks,ms,a,b,⟨x,r,e,hw,h1⟩,h2=>⟨x,r ++ b,by rw [e];rfl,hw,h1.append h2⟩
 | .s :: _,_,_,_,h1,_=>h1.elim
 | .o :: _,_,_,_,h1,_=>h1.elim
theorem CellsOk.length:∀ {ks:List CK} {a:List Value},CellsOk ks a->a.length=ks.length
 | [],a,h=>by obtain rfl:a=[]:=h;rfl
 | .b :: ks,a,⟨x,r,e,h1⟩=>by rw [e];simp [h1.length]
 | .i k :: ks,a,⟨x,r,e,hw,h1⟩=>by rw [e];simp [h1.length]
 | .s :: _,_,h1=>h1.elim
 | .o :: _,_,h1=>h1.elim
section
variable {H:Type} {enc:TypeId × Value->H} {P:Program} {w:World} {base:Nat} {spare:Nat->Bool} {held:Bool}
theorem Abz {g:TypeId->Option (List CK)} (hg:∀ t ks,g t=some ks->∀ fuel cs x,P.cellsOf t=ks.length->DataW.trod enc P w base spare held fuel t cs=some x->CellsOk ks cs) {cs:List Value} {n:Nat} :
  ∀ (r:List Field) (ks all:List CK),Xc P g r ks=some all->cs.length=all.length->(∀ f ∈ r,∃ y,DataW.trod enc P w base spare held n f.type ((cs.drop f.offset).take (P.cellsOf f.type))=some y) ->
  ∃ rest,all=ks ++ rest/\CellsOk rest (cs.drop ks.length)
 | [],ks,all,h,hl,_=>by
  obtain rfl:=Option.some.inj h;exact ⟨[],by simp,List.drop_eq_nil_of_le (by omega)⟩
 | f :: r,ks,all,h,hl,hf=>by
  simp only [Xc] at h;cases hc:(Nat.beq f.offset ks.length&&f.name != "_") with
  | false=>rw [hc] at h;cases h
  | true =>
   rw [hc] at h;simp only [cond_true] at h;obtain ⟨c1,c2⟩:=En hc
   replace c1:=Dw c1
   split at h
   ·rename_i ms i hms hi
    cases hb:Nat.beq i.size ms.length with
    | false=>rw [hb] at h;cases h
    | true =>
     rw [hb] at h;simp only [cond_true] at h
     replace hb:=Dw hb
     have hco:P.cellsOf f.type=ms.length:=by simp [Program.cellsOf,hi,hb]
     obtain ⟨rest,e,h2⟩:=Abz hg r (ks ++ ms) all h hl (fun f hf'=>hf f (List.mem_cons_of_mem _ hf'))
     obtain ⟨y,hy⟩:=hf f (List.mem_cons_self ..);rw [c1,hco] at hy;have h1:=hg _ _ hms _ _ _ hco hy;refine ⟨ms ++ rest,by rw [e,List.append_assoc],?_⟩
     have:=h1.append h2
     rwa [List.length_append,<- List.drop_drop,List.take_append_drop] at this
   ·cases h
theorem Aaq:∀ (d:Nat) (t:TypeId) (ks:List CK),Pq P d t=some ks->∀ fuel cs x,P.cellsOf t=ks.length->DataW.trod enc P w base spare held fuel t cs=some x->CellsOk ks cs
 | 0,_,_,h=>by cases h
 | d + 1,t,ks,h=>fun fuel cs x hc hx=>by
  simp only [Pq] at h;split at h
  ·rename_i hu
   obtain rfl:=Option.some.inj h;obtain ⟨b,rfl,_⟩:=DataW.trod_bool hu hx;exact ⟨b,[],rfl,rfl⟩
  ·rename_i k hu
   obtain rfl:=Option.some.inj h;obtain ⟨n,rfl,_,hw⟩:=DataW.trod_int hu hx;exact ⟨n,[],rfl,hw,rfl⟩
  ·rename_i fs hu
   cases hst:P.stoodInHeld t with
   | true=>rw [hst] at h;cases h
   | false =>
    rw [hst] at h;simp only [cond_false] at h;obtain ⟨xs,n,_,_,hl,hlen,hf⟩:=DataW.trod_struct hu hx
    obtain ⟨rest,e,h2⟩:=Abz (cs:=cs) (n:=n) (Aaq d) fs.toList [] ks h (by omega) (fun f hf'=>by
     obtain ⟨i,hi,e⟩:=List.mem_iff_getElem.1 hf';have hi':i < fs.size:=by simpa using hi
     have:=hf i f (by rw [<- e];simp)
     rw [this];exact ⟨_,List.getElem?_eq_getElem (by omega)⟩)
    simp only [List.nil_append] at e;subst e
    simpa using h2
  ·cases h
theorem Akr {r:Reach} {b0:Nat} {t:TypeId} {v:Value} {d:DataW H} {ps:List MemPlace} {fs:Array Field} {ks:List CK} (ht:P.underlying t=some (.struct fs)) (hf:Pq P 8 t=some ks) (hc:P.cellsOf t=ks.length)
  (hval:Value.okWide P w r b0 t v) (hd:DataW.Trod enc P w base spare held t v d ps):∃ l,v=.agg (List.toArray l)/\CellsOk ks l:=by
 simp only [Value.okWide,ht] at hval
 obtain ⟨cs,rfl,_,_⟩:=hval
 obtain ⟨fuel,hx⟩:=hd
 exact ⟨cs.toList,by simp,Aaq 8 t ks hf _ _ _ hc (by simpa [Value.cells] using hx)⟩
end
theorem Still.below {w w':World} (E:Still w w'):Below w.heap.size w w':=⟨E.os,E.tape,E.output,E.size,fun k hk=>E.old k hk (fun h=>h)⟩
def Awm (P:Program) (ts:List TypeId):Bool:=ts.all fun t=>P.readableRec t&&decide (t < P.types.size)
theorem Zv {H:Type} {enc:TypeId × Value->H} {P:Program} (hl:laidOutB P=true) {W W':World} (hb:Below W.heap.size W W') {sp:Nat->Bool}:∀ {ts:List TypeId} {vs:List Value} {ds:List (DataW H)} {ps:List MemPlace},Awm P ts=true ->
  (∀ x ∈ ps,x.block < W.heap.size)->(∀ x ∈ ps,sp x.block=true)->DataW.TrodAll enc P W 0 (fun _=>true) true ts vs ds ps->DataW.TrodAll enc P W' 0 sp true ts vs ds ps
 | [],[],[],_,_,_,_,h=>h
 | t :: ts,v :: vs,d :: ds,ps,hr,hlt,hsp,⟨p,q,h1,h2,e⟩=>by
  subst e;simp only [Awm,List.all_cons,Bae,Dte] at hr;refine ⟨p,q,?_,Zv hl hb (by simpa [Awm] using hr.2) (fun x hx=>hlt x (List.mem_append_right _ hx)) (fun x hx=>hsp x (List.mem_append_right _ hx)) h2,rfl⟩
  exact WideElems.Trod_stays hl hr.1.1 hr.1.2 h1 (fun x hx=>hb.same (hlt x (List.mem_append_left _ hx))) (fun x hx=>hsp x (List.mem_append_left _ hx))
 | [],_ :: _,_,_,_,_,_,h=>h.elim
 | [],[],_ :: _,_,_,_,_,h=>h.elim
 | _ :: _,[],_,_,_,_,_,h=>h.elim
 | _ :: _,_ :: _,[],_,_,_,_,h=>h.elim
theorem Azh {H:Type} {enc:TypeId × Value->H} {P:Program} {f:Func} {s:ChangeSpec} {apart fresh handsOn again:Bool} {W W':World} {args:Array Value} {ds gs:List (DataW H)} {before:List MemPlace} {t:TypeId}
  (hl:laidOutB P=true) (hr:Awm P f.params.toList=true) (hv:s.vars=[])
  (hW:DataW.Whole enc P f.params.toList s.vars apart W args.toList ds gs before) (hb:Below W.heap.size W W') (hres:f.resultTypes=#[t]) (ht:P.underlying t=some .bool)
  (h1:(s.fn H (ds ++ gs)).results=[.lit (.bool true)]) (h2:(s.fn H (ds ++ gs)).args=ds) (h3:(s.fn H (ds ++ gs)).vars=[]) :
  s.post enc P f apart fresh handsOn again W args (.bool true) W':=by
 have hlt:=hW.lt
 have hW0:=hW
 obtain ⟨p,q,hA,hV,rfl,hz,hn⟩:=hW
 rw [hv] at hV
 obtain ⟨rfl,rfl⟩:=trodVars_none hV
 have hr1:∀ (b:Nat) (sp:Nat->Bool) (hd:Bool),DataW.TrodAll enc P W' b sp hd f.resultTypes.toList ((Value.bool true).resultList f.resultTypes.size) (s.fn H (ds ++ [])).results []:=fun b sp hd=>by
  rw [hres,h1];exact trodAll_mk1 (shut_bool ht true)
 have hr2:∀ sp:Nat->Bool,(∀ x ∈ p,sp x.block=true)->DataW.TrodAll enc P W' 0 sp true f.params.toList args.toList ds p:=fun sp hs =>
  Zv hl hb hr (fun x hx=>hlt x (List.mem_append_left _ hx)) hs hA
 refine ⟨ds,[],p ++ [],[],p,[],hW0,hr1 _ _ _,by rw [h2];exact hr2 _ (fun x hx=>by simpa using hlt x (List.mem_append_left _ hx)),by rw [hv,h3];exact rfl,World.keptBut_mono (fun _ h=>h.elim) (hb.frame fun _=>False),fun _=>⟨?_,(s.fn H (ds ++ [])).results ++ ds,[],[] ++ p,⟨[] ++ p,[],trodAll_append (hr2 _ (fun _ _=>rfl)) (hr1 _ _ _),by rw [hv];exact rfl,by simp,?_,?_⟩,?_⟩⟩
 ·rw [hres]
  intro j t' r hj hx
  match j,hj,hx with
  | 0,hj,hx =>
   simp [Value.resultList] at hj hx;subst hj;subst hx;exact okWide_bool_mk ht true
 ·intro b off hp
  have hp':MemPlace.cell b off ∈ p ++ []:=by simpa using hp
  rw [hb.frozen (p:=⟨b,off,none⟩) (hlt _ hp')];exact hz b off hp'
 ·intro ha
  have:=hn ha
  simpa using this
 ·intro x hx _
  simpa using hx
theorem Aks {w:World} {B:Nat->Prop} {own:Nat->Prop} {ω:Nat->Option Nat} {nx:Nat} (l:List Value):Rep w B own ω nx (.agg (l.map ofS)) (.agg l.toArray):=by
 have:=Abi (w:=w) (B:=B) (own:=own) (ω:=ω) (nx:=nx) l.toArray
 exact .agg _ _ _ this.1 this.2
theorem Aqq {w:World} {B:Nat->Prop} {own:Nat->Prop} {ω:Nat->Option Nat} {nx:Nat}:RepL w B own ω nx [] #[]:=⟨rfl,fun i hi=>absurd hi (Nat.not_lt_zero _)⟩
theorem Ed {w:World} {B:Nat->Prop} {own:Nat->Prop} {ω:Nat->Option Nat} {nx:Nat} {v:AV} {u:Value} {vs:List AV} {us:List Value} (h:Rep w B own ω nx v u) (hs:RepL w B own ω nx vs us.toArray):RepL w B own ω nx (v :: vs) (u :: us).toArray:=by
 refine Qw (by simpa using hs.1) (fun j a x ha hx=>?_)
 cases j with
 | zero=>simp at ha hx;subst ha hx;exact h
 | succ j=>exact hs.at (by simpa using ha) (by simpa using hx)
theorem Uc {k:IntKind} {n:Int} (h:(Lit.int k n).wf=true):k.wrap n=n:=by
 simp only [Lit.wf,Bae,Dte] at h
 unfold IntKind.wrap
 cases k <;> simp [IntKind.min,IntKind.max,IntKind.bits,IntKind.signed] at h ⊢ <;> omega
theorem Ob {k:IntKind} {n:Int}:(Lit.int k n).wf=true ↔ k.min<=n/\n<=k.max:=by simp [Lit.wf]
end Go.Bas
end
