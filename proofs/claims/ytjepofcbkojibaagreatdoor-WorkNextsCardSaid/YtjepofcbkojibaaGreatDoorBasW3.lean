/- The engine, part I: a run of a function's code, asv a reckoning ('Ω': the answer); The engine, part J: what a run's memory and state say of the model's; operations one behind the othe; The engine, part O: outcomes. A reckoning has one outcome, whatever is done behind it; The engine, part P: regions that draw their order: what was reckoned in the order of the text, in wh; The engine, part Q: regions that draw their order: one operation of one, carried out whenever it may; The engine, part R: calls that turn nothing of the caller's: by a summary, or walked apart; what a f; The engine, part S: loops Apw functions in the memory; calls that stand apart; activations that leav. -/
import Derived.Test.YtjepofcbkojibaaGreatDoorBasW2
import Derived.RangeFuncLeaves
import Derived.OrdersIn
import Derived.LoopIn
import Derived.LoopNIn
import Derived.RangeFuncRecord
import Derived.RangeFuncNested
set_option maxRecDepth 100000
set_option maxHeartbeats 4000000
set_option linter.unusedVariables false
set_option linter.unusedSimpArgs false
section
namespace Go.Bas
noncomputable section
open Go.RowKit
structure St where
 tmps:List AV
 ds:List Nat
 m:Mem
def evO (C:Cfg) (tmps:List AV):Operand->AV
 | .tmp t=>lget tmps t
 | .const v=>ofV v
 | .global g=>match C.G g with
  | some cells=>.iptr cells 0
  | none=>.any
 | .func f=>.fn (.func f) [] []
def setT (tmps:List AV) (dst:Option Nat) (v:AV):List AV :=
 match dst with
 | some d=>Va tmps d v
 | none=>tmps
def Ati (tmps:List AV) (c:Operand) (v:AV):List AV :=
 match c with
 | .tmp d=>Va tmps d v
 | _=>tmps
def Agr (tmps:List AV):List Nat->List AV->List AV
 | p :: ps,v :: vs=>Agr (Va tmps p v) ps vs
 | _,_=>tmps
section
variable {Ω:Type}
def O1 (ops:Array Oper) (tmps:List AV) (o:Oper) (x y:List AV->Ω) (z:Ω):Ω :=
 match o.guard with
 | none=>x tmps
 | some (j,want)=>match ops[j]? with
  | some oj=>match oj.dst with
   | some d=>match lget tmps d with
    | .bool b=>cond b (cond want (x (Va tmps d (.bool true))) (y (Va tmps d (.bool true)))) (cond want (y (Va tmps d (.bool false))) (x (Va tmps d (.bool false))))
    | .tup _=>y tmps
    | _=>z
   | none=>z
  | none=>z
def AV.noMem:Nat->AV->Bool
 | 0,_=>false
 | _ + 1,.ptr _ _=>false
 | _ + 1,.iptr _ _=>false
 | _ + 1,.sl _ _ _ _ _=>false
 | _ + 1,.lst _ _=>false
 | _ + 1,.yld _=>false
 | d + 1,.agg cs=>cs.all (AV.noMem d)
 | d + 1,.tup cs=>cs.all (AV.noMem d)
 | d + 1,.iface _ v=>AV.noMem d v
 | d + 1,.fn _ a b=>a.all (AV.noMem d)&&b.all (AV.noMem d)
 | _ + 1,_=>true
def Abm (C:Cfg) (st:St) (rv:ResultVar) (k:AV->Ω) (z:Ω):Ω :=
 match rv with
 | .tmp t=>k (lget st.tmps t)
 | .cell a t=>match lget st.tmps a with
  | .ptr id off=>match Dl st.m.heap id with
   | some hb=>Ad3 C.P t (cond hb.pure 1 2) hb.cells off k z
   | none=>z
  | _=>z
def Abn (C:Cfg) (st:St):List ResultVar->(List AV->Ω)->Ω->Ω
 | [],k,_=>k []
 | r :: rs,k,z=>Abm C st r (fun v=>Abn C st rs (fun vs=>k (v :: vs)) z) z
def A3c:List AV->AV
 | [v]=>v
 | vs=>.tup vs
def Uo (C:Cfg) (fn:Func) (st:St) (k:AV->Ω) (z:Ω):Ω:=Abn C st fn.results.toList (fun vs=>k (A3c vs)) z
def Kw (f:AV->(AV->Ω)->Ω->Ω):List AV->(List AV->Ω)->Ω->Ω
 | [],k,_=>k []
 | v :: r,k,z=>f v (fun v'=>Kw f r (fun r'=>k (v' :: r')) z) z
def Ua (h:Heap):Nat->AV->(AV->Ω)->Ω->Ω
 | 0,_,_,z=>z
 | d + 1,v,k,z=>match v with
  | .ptr id off=>match Dl h id with
   | some hb=>cond hb.pure (k (.iptr hb.cells off)) z
   | none=>z
  | .sl id off n sz _=>match Dl h id with
   | some hb=>cond (hb.pure&&Nat.ble (off + n * sz) hb.cells.length) (k (.lst ((hb.cells.drop off).take (n * sz)) n)) z
   | none=>z
  | .yld _=>z
  | .agg cs=>Kw (Ua h d) cs (fun cs'=>k (.agg cs')) z
  | .tup cs=>Kw (Ua h d) cs (fun cs'=>k (.tup cs')) z
  | .iface t v=>Ua h d v (fun v'=>k (.iface t v')) z
  | .fn f a b=>Kw (Ua h d) a (fun a'=>Kw (Ua h d) b (fun b'=>k (.fn f a' b')) z) z
  | v=>k v
def Iz (h:Heap):Nat->AV->(AV->Ω)->Ω->Ω
 | 0,_,_,z=>z
 | d + 1,v,k,z=>match v with
  | .ptr _ _=>z
  | .iptr _ _=>z
  | .fn _ _ _=>z
  | .yld _=>z
  | .sl id off n sz _=>match Dl h id with
   | some hb=>cond (Nat.beq n 0) (k .ns) (cond (hb.pure&&Nat.ble (off + n * sz) hb.cells.length) (k (.lst ((hb.cells.drop off).take (n * sz)) n)) z)
   | none=>z
  | .agg cs=>Kw (Iz h d) cs (fun cs'=>k (.agg cs')) z
  | .tup cs=>Kw (Iz h d) cs (fun cs'=>k (.tup cs')) z
  | .iface t v=>Iz h d v (fun v'=>k (.iface t v')) z
  | v=>k v
def Iq:List Nat->N7->(N7->Ω)->Ω->Ω
 | [],lp,k,_=>k lp
 | d :: ds,lp,k,z=>match Gw lp d with
  | some .dfb=>Iq ds (Zn lp d) k z
  | _=>z
abbrev Jg (Ω:Type):=Tgt->List AV->Mem->(AV->Mem->Ω)->(AV->Mem->Ω)->Ω
def Ags (C:Cfg) (call:Jg Ω) (ops:Array Oper) (l:List Oper):St->(St->Ω)->(AV->St->Ω)->Ω->Ω :=
 List.rec (motive:=fun _=>St->(St->Ω)->(AV->St->Ω)->Ω->Ω) (fun st k _ _=>k st)
  (fun o _ ih st k kp z=>O1 ops st.tmps o
   (fun tmps=>aop C (evO C tmps) st.m.heap st.m.nx o.op
    (fun v h nx=>ih ⟨setT tmps o.dst v,st.ds,⟨h,nx,st.m.lp⟩⟩ k kp z)
    (fun t args=>call t args st.m (fun v m'=>ih ⟨setT tmps o.dst v,st.ds,m'⟩ k kp z) (fun v m'=>kp v ⟨tmps,st.ds,m'⟩))
    (fun v=>kp v ⟨tmps,st.ds,st.m⟩) z)
   (fun tmps=>ih ⟨setT tmps o.dst (.tup []),st.ds,st.m⟩ k kp z) z) l
theorem Ada (C:Cfg) (call:Jg Ω) (ops:Array Oper) (o:Oper) (r:List Oper) (st:St) (k:St->Ω) (kp:AV->St->Ω) (z:Ω) :
  Ags C call ops (o :: r) st k kp z=O1 ops st.tmps o
   (fun tmps=>aop C (evO C tmps) st.m.heap st.m.nx o.op
    (fun v h nx=>Ags C call ops r ⟨setT tmps o.dst v,st.ds,⟨h,nx,st.m.lp⟩⟩ k kp z)
    (fun t args=>call t args st.m (fun v m'=>Ags C call ops r ⟨setT tmps o.dst v,st.ds,m'⟩ k kp z) (fun v m'=>kp v ⟨tmps,st.ds,m'⟩))
    (fun v=>kp v ⟨tmps,st.ds,st.m⟩) z)
   (fun tmps=>Ags C call ops r ⟨setT tmps o.dst (.tup []),st.ds,st.m⟩ k kp z) z:=rfl
def Akd (c:Call):Bool :=
 match c.callee with
 | .builtin .len=>true
 | .builtin .min=>true
 | .builtin .max=>true
 | _=>false
def Afs (op:Op):Bool :=
 match op with
 | .move _=>true
 | .assign _=>true
 | .pick _ _ _=>true
 | .build _ _=>true
 | .load _ _=>true
 | .nilCheck _=>true
 | .binOp _ _ _ _ _=>true
 | .unOp _ _ _=>true
 | .convert _ _ _=>true
 | .makeInterface _ _=>true
 | .makeFunc _ _ _=>true
 | .slice _ _ _ _ _=>true
 | .fieldAddr _ _ _=>true
 | .field _ _ _=>true
 | .indexAddr _ _ _=>true
 | .index _ _ _=>true
 | .extract _ _=>true
 | .typeAssert _ _ _ _=>true
 | .call c=>Akd c
 | _=>false
def Ake (op:Op):Bool :=
 match op with
 | .alloc _=>true
 | .box _ _=>true
 | .buildSlice _ _ _=>true
 | .makeSlice _ _ _=>true
 | _=>false
inductive Eff where
 | nop
 | new (id:Nat) (hb:HB)
 | bar (fp:List Nat) (lo:Nat) (m':Mem)
structure Rc where
 dst:Option Nat
 out:AV
 rd:List Nat
 eff:Eff
def Jl (l:List Nat) (i:Nat):Bool:=l.any (Nat.beq i)
def Oq (h:Heap) (fp:List Nat):Heap:=h.filter fun p=>Jl fp p.1
def hrest (h:Heap) (fp:List Nat):Heap:=h.filter fun p=>!Jl fp p.1
def Ci (st:St) (r:Rc):St :=
 ⟨setT st.tmps r.dst r.out,st.ds,match r.eff with
  | .nop=>st.m
  | .new id hb=>⟨(id,hb) :: st.m.heap,st.m.nx,st.m.lp⟩
  | .bar fp _ m'=>⟨m'.heap ++ hrest st.m.heap fp,m'.nx,m'.lp⟩⟩
def AV.ids:Nat->AV->List Nat
 | 0,_=>[]
 | _ + 1,.ptr id _=>[id]
 | _ + 1,.sl id _ _ _ _=>[id]
 | _ + 1,.yld id=>[id]
 | d + 1,.fn _ a b=>(a ++ b).flatMap (AV.ids d)
 | d + 1,.iface _ v=>AV.ids d v
 | d + 1,.agg cs=>cs.flatMap (AV.ids d)
 | d + 1,.tup cs=>cs.flatMap (AV.ids d)
 | _ + 1,_=>[]
def Akf (m:Mem):Nat->List Nat->List Nat->List Nat
 | 0,_,acc=>acc
 | _ + 1,[],acc=>acc
 | n + 1,i :: todo,acc=>cond (Jl acc i) (Akf m n todo acc) (match Dl m.heap i with
  | some hb=>cond hb.pure (Akf m n todo (i :: acc)) (Akf m n (hb.cells.flatMap (AV.ids 4) ++ todo) (i :: acc))
  | none=>match Gw m.lp i with
   | some (.lop _ _ tmps _ _ _ _)=>Akf m n (tmps.flatMap (AV.ids 4) ++ todo) (i :: acc)
   | _=>Akf m n todo (i :: acc))
def A3d (m:Mem) (vs:List AV):List Nat:=Akf m 1000 (vs.flatMap (AV.ids 4)) []
def Ub (ρ:Operand->AV) (op:Op):List Nat :=
 match op with
 | .load _ x=>match ρ x with
  | .ptr id _=>[id]
  | _=>[]
 | _=>[]
def Xo (C:Cfg) (stand:Func->Code->List AV->(AV->Ω)->Ω) (f:FuncId) (args:List AV) (h:Heap) (k:AV->Ω) (other:Func->Code->Ω) (z:Ω):Ω :=
 match C.P.funcs[f]? with
 | some fn=>match fn.body with
  | some c=>match C.S f with
   | some F=>cond (args.all (AV.noRef 6)) (match F args with
     | some (p,r)=>cond p (k r) z
     | none=>z)
    (Kw (Ua h 6) args (fun args'=>match F args' with
     | some (p,r)=>cond p (cond (r.noMem 6) (k r) z) z
     | none=>z) z)
   | none=>cond (C.Q f) (cond (args.all (AV.noRef 6)) (stand fn c args k) (Kw (Ua h 6) args (fun args'=>stand fn c args' (fun r=>cond (r.noMem 6) (k r) z)) z)) (other fn c)
  | none=>z
 | none=>z
def Atj (C:Cfg) (stand:Func->Code->List AV->(AV->Ω)->Ω) (call:Jg Ω) (tmps:List AV) (m:Mem) (o:Oper) (k:Rc->Ω) (z:Ω) (fp:List Nat):Ω :=
 aop C (evO C tmps) (Oq m.heap fp) m.nx o.op (fun v h nx=>k ⟨o.dst,v,fp,.bar fp m.nx ⟨h,nx,m.lp⟩⟩)
  (fun t args=>match t with
   | .fn f=>Xo C stand f args (Oq m.heap fp) (fun v=>k ⟨o.dst,v,fp,.nop⟩) (fun _ _=>call t args ⟨Oq m.heap fp,m.nx,m.lp⟩ (fun v m'=>k ⟨o.dst,v,fp,.bar fp m.nx m'⟩) (fun _ _=>z)) z
   | .yld _=>call t args ⟨Oq m.heap fp,m.nx,m.lp⟩ (fun v m'=>k ⟨o.dst,v,fp,.bar fp m.nx m'⟩) (fun _ _=>z)) (fun _=>z) z
def A3e (C:Cfg) (tmps:List AV) (ai:Nat) (o:Oper) (k:Rc->Ω) (z:Ω):Ω :=
 aop C (evO C tmps) [] ai o.op (fun v h _=>match h with
  | (id,hb) :: []=>k ⟨o.dst,v,[],.new id hb⟩
  | _=>z) (fun _ _=>z) (fun _=>z) z
def opD (C:Cfg) (stand:Func->Code->List AV->(AV->Ω)->Ω) (call:Jg Ω) (tmps:List AV) (m:Mem) (ai:Nat) (o:Oper) (k:Rc->Ω) (z:Ω):Ω :=
 cond (Afs o.op) (aop C (evO C tmps) m.heap m.nx o.op (fun v _ _=>k ⟨o.dst,v,Ub (evO C tmps) o.op,.nop⟩) (fun _ _=>z) (fun _=>z) z)
  (cond (Ake o.op) (A3e C tmps ai o k z) (Atj C stand call tmps m o k z (A3d m (o.op.operands.toList.map (evO C tmps)))))
def Vh (ops:Array Oper):Nat->Nat->Nat->Bool
 | 0,_,_=>false
 | n + 1,i,j=>match ops[j]? with
  | some o=>o.after.toList.any (fun e=>Region.binds .any e&&Nat.beq e.on i) || o.after.toList.any (fun e=>Region.binds .any e&&Vh ops n i e.on)
  | none=>false
def A3f (xs:List Operand):List Nat:=xs.filterMap fun
 | .tmp t=>some t
 | _=>none
def Aan (ops:Array Oper) (o:Oper):List Nat :=
 A3f o.op.operands.toList ++ (match o.guard with
  | some (j,_)=>match ops[j]? with
   | some oj=>oj.dst.toList
   | none=>[]
  | none=>[])
def tmpClash (ops:Array Oper) (a b:Oper):Bool :=
 (match a.dst with
  | some d=>Jl (Aan ops b) d || b.dst == some d
  | none=>false) ||
 (match b.dst with
  | some d=>Jl (Aan ops a) d
  | none=>false)
def Q9 (ops:Array Oper):List (Nat × Nat) :=
 (List.range ops.size).flatMap fun j=>((List.range j).filter fun i=>!Vh ops ops.size i j).map fun i=>(i,j)
def Amg (ops:Array Oper):Bool :=
 ((List.range ops.size).all fun i=>match ops[i]? with
  | some o=>o.after.toList.all fun e=>!Region.binds .any e || Nat.blt e.on i
  | none=>false)&&(Q9 ops).all fun p=>match ops[p.1]?,ops[p.2]? with
  | some a,some b=>!tmpClash ops a b
  | _,_=>false
def Eff.isBar:Eff->Bool
 | .bar _ _ _=>true
 | _=>false
def Eff.touches:Eff->Nat->Bool
 | .nop,_=>false
 | .new i _,id=>Nat.beq i id
 | .bar fp lo _,id=>Jl fp id || Nat.ble lo id
def Eff.domOk:Eff->Bool
 | .bar fp lo m'=>m'.heap.all fun p=>Jl fp p.1 || Nat.ble lo p.1
 | _=>true
def effClash:Eff->Eff->Bool
 | .new i _,.bar fp lo _=>Jl fp i || Nat.ble lo i
 | .bar fp lo _,.new i _=>Jl fp i || Nat.ble lo i
 | .new i _,.new j _=>Nat.beq i j
 | .bar _ _ _,.bar _ _ _=>true
 | _,_=>false
def Zq (a b:Rc):Bool:=b.rd.any a.eff.touches || (a.rd.any b.eff.touches || effClash a.eff b.eff)
def Eff.newId:Eff->List Nat
 | .new i _=>[i]
 | _=>[]
def Adb:List Nat->Bool
 | []=>true
 | i :: r=>!Jl r i&&Adb r
def Hq:List Rc->Nat->Option Rc
 | [],_=>none
 | r :: _,0=>some r
 | _ :: rs,n + 1=>Hq rs n
def Aeb (ops:Array Oper) (lo hi:Nat) (rs:List Rc):Bool :=
 Amg ops&&(Adb (rs.flatMap fun r=>r.eff.newId)&&((rs.flatMap fun r=>r.eff.newId).all fun i=>Nat.ble lo i&&Nat.blt i hi))&&((Q9 ops).all (fun p=>match Hq rs p.1,Hq rs p.2 with
  | some a,some b=>!Zq a b
  | _,_=>false)&&rs.all fun r=>r.eff.domOk)
def nextB (o:Oper) (i:Nat):Bool:=o.after.toList.any fun e=>Region.binds .any e&&Nat.beq e.on i
def fastGo (ops:Array Oper) (l:List Oper):List (Nat × Oper)->Nat->Bool:=List.rec (motive:=fun _=>List (Nat × Oper)->Nat->Bool) (fun _ _=>true)
 (fun b _ ih pre j=>cond (b.after.toList.all fun e=>!Region.binds .any e || Nat.blt e.on j) (cond (pre.all fun p=>nextB b p.1 || !tmpClash ops p.2 b) (ih ((j,b) :: pre) (j + 1)) false) false) l
def Eff.isNop:Eff->Bool
 | .nop=>true
 | _=>false
def Atk (ops:Array Oper) (lo hi:Nat) (rs:List Rc):Bool :=
 cond (cond (rs.all fun r=>r.eff.isNop) (cond (Nat.beq rs.length ops.size) (fastGo ops ops.toList [] 0) false) false) true (Aeb ops lo hi rs)
def Px (l:List Oper):Nat:=(l.filter fun o=>Ake o.op).length
def Zr (C:Cfg) (stand:Func->Code->List AV->(AV->Ω)->Ω) (call:Jg Ω) (ops:Array Oper) (lo hi:Nat):List Oper->St->Nat->List Rc->(St->Ω)->Ω->Ω
 | [],st,_,acc,k,z=>cond (Atk ops lo hi acc.reverse) (k st) z
 | o :: r,st,ai,acc,k,z=>O1 ops st.tmps o
   (fun tmps=>opD C stand call tmps st.m ai o (fun rc=>Zr C stand call ops lo hi r (Ci ⟨tmps,st.ds,st.m⟩ rc) (cond (Ake o.op) (ai + 1) ai) (rc :: acc) k z) z)
   (fun tmps=>Zr C stand call ops lo hi r (Ci ⟨tmps,st.ds,st.m⟩ ⟨o.dst,.tup [],[],.nop⟩) (cond (Ake o.op) (ai + 1) ai) (⟨o.dst,.tup [],[],.nop⟩ :: acc) k z) z
abbrev Ur (Ω:Type):=Option Nat->Option Code->Code->St->(Ex->St->Ω)->Ω->Ω
def Afe (args:List AV) (n:Nat):List AV:=args ++ List.replicate (n - args.length) (.tup [])
def Qg (C:Cfg) (go:Ur Ω) (z:Ω) (fn:Func) (c:Code) (args:List AV) (k:AV->Ω):Ω :=
 go none none c ⟨Afe args fn.ntmps,[],⟨[],0,[]⟩⟩ (fun e st'=>match e with
  | .ret=>Iq st'.ds st'.m.lp (fun _=>Uo C fn st' (fun v=>Iz st'.m.heap 6 v k z) z) z
  | .normal=>Iq st'.ds st'.m.lp (fun _=>Uo C fn st' (fun v=>Iz st'.m.heap 6 v k z) z) z
  | _=>z) z
def endOf:Ex->Option (Bool × Nat × Option Ex)
 | .normal=>some (true,0,none)
 | .ret=>some (false,2,some .ret)
 | .exit id=>some (false,2,some (.exit id))
 | .goto l=>some (false,2,some (.goto l))
 | .panic _=>none
def Lu (C:Cfg) (go:Ur Ω) (z:Ω):Jg Ω:=fun t args m kk kp=>match t with
 | .fn f=>match C.X f with
  | some F=>(F args m).ev kk z
  | none=>Xo C (Qg C go z) f args m.heap (fun r=>kk r m) (fun fn c =>
   go none none c ⟨Afe args fn.ntmps,[],m⟩ (fun e st'=>match e with
    | .ret=>Iq st'.ds st'.m.lp (fun lp=>Uo C fn st' (fun v=>kk v ⟨st'.m.heap,st'.m.nx,lp⟩) z) z
    | .normal=>Iq st'.ds st'.m.lp (fun lp=>Uo C fn st' (fun v=>kk v ⟨st'.m.heap,st'.m.nx,lp⟩) z) z
    | .panic v=>Iq st'.ds st'.m.lp (fun lp=>kp v ⟨st'.m.heap,st'.m.nx,lp⟩) z
    | _=>z) z) z
 | .yld id=>match Gw m.lp id with
  | some (.lop 0 none tmps params assign body _)=>cond (Nat.beq args.length params.length)
   (go (some id) none assign ⟨Agr tmps params args,[],m⟩ (fun e st1=>match e with
    | .normal=>match Gw st1.m.lp id with
     | some (.lop 0 none tm ps asv bo d)=>go (some id) none body ⟨st1.tmps,st1.ds,⟨st1.m.heap,st1.m.nx,Ad2 st1.m.lp id (.lop 1 none tm ps asv bo d)⟩⟩ (fun e st2 =>
       match Gw st2.m.lp id,endOf e with
       | some (.lop _ _ tm ps asv bo d),some (b,s,j)=>kk (.bool b) ⟨st2.m.heap,st2.m.nx,Ad2 st2.m.lp id (.lop s j tm ps asv bo d)⟩
       | _,_=>z) z
     | _=>z
    | _=>z) z) z
  | _=>z
def Aec (inr:Option Nat) (st:St) (params:List Nat) (assign body:Code) (k:Nat->List Nat->Mem->Ω) (z:Ω):Ω :=
 match inr with
 | none=>k (st.m.nx + 1) (st.m.nx :: st.ds) ⟨st.m.heap,st.m.nx + 2,(st.m.nx + 1,.lop 0 none st.tmps params assign body st.m.nx) :: (st.m.nx,.dfb) :: st.m.lp⟩
 | some l0=>match Gw st.m.lp l0 with
  | some (.lop _ _ _ _ _ _ d0)=>k st.m.nx st.ds ⟨st.m.heap,st.m.nx + 1,(st.m.nx,.lop 0 none st.tmps params assign body d0) :: st.m.lp⟩
  | _=>z
def Vj (C:Cfg) (go:Ur Ω):Ur Ω:=fun inr sc code st k z =>
 match sc with
 | some body=>go inr none code st (fun e st'=>match e with
   | .goto l=>match findLabel body l with
    | some rest=>go inr (some body) rest st' k z
    | none=>k (.goto l) st'
   | e=>k e st') z
 | none =>
  match code with
  | .skip=>k .normal st
  | .label _=>k .normal st
  | .ret=>k .ret st
  | .exit id=>k (.exit id) st
  | .goto l=>k (.goto l) st
  | .seq a b=>go inr none a st (fun e st'=>match e with
   | .normal=>go inr none b st' k z
   | e=>k e st') z
  | .cond c a b=>match evO C st.tmps c with
   | .bool t=>cond t (go inr none a ⟨Ati st.tmps c (.bool true),st.ds,st.m⟩ k z) (go inr none b ⟨Ati st.tmps c (.bool false),st.ds,st.m⟩ k z)
   | _=>z
  | .block id body=>go inr none body st (fun e st'=>match e with
   | .exit id'=>cond (Nat.beq id' id) (k .normal st') (k (.exit id') st')
   | e=>k e st') z
  | .loop body=>go inr none body st (fun e st'=>match e with
   | .normal=>go inr none (.loop body) st' k z
   | e=>k e st') z
  | .scope body=>go inr (some body) body st k z
  | .region _ ops draw=>cond draw
    (Zr C (Qg C go z) (Lu C go z) ops st.m.nx (st.m.nx + Px ops.toList) ops.toList ⟨st.tmps,st.ds,⟨st.m.heap,st.m.nx + Px ops.toList,st.m.lp⟩⟩ st.m.nx [] (fun st'=>k .normal st') z)
    (Ags C (Lu C go z) ops ops.toList st (fun st'=>k .normal st') (fun v st'=>k (.panic v) st') z)
  | .rangeFunc f params assign body=>match evO C st.tmps f with
   | .fn (.func g) first cap=>Aec inr st params.toList assign body (fun id ds m=>Lu C go z (.fn g) (first ++ [.yld id] ++ cap) m
     (fun _ m'=>match Gw m'.lp id with
      | some (.lop s pend _ _ _ _ _)=>cond (Nat.beq s 1) z (k (match pend with | none=>.normal | some e=>e) ⟨st.tmps,ds,⟨m'.heap,m'.nx,Zn m'.lp id⟩⟩)
      | _=>z)
     (fun v m'=>k (.panic v) ⟨st.tmps,ds,m'⟩)) z
   | _=>z
  | _=>z
def run (C:Cfg) (n:Nat):Ur Ω:=Nat.rec (motive:=fun _=>Ur Ω) (fun _ _ _ _ _ z=>z) (fun _ go=>Vj C go) n
theorem Aqe (C:Cfg) (n:Nat):run (Ω:=Ω) C (n + 1)=Vj C (run C n):=rfl
def Ai (C:Cfg) (n:Nat) (f:FuncId) (args:List AV) (k:AV->Ω) (z:Ω):Ω :=
 match C.P.funcs[f]? with
 | some fn=>match fn.body with
  | some c=>Qg C (run C n) z fn c args k
  | none=>z
 | none=>z
end
end
end Go.Bas
end
section
namespace Go.Bas
open Go.RowKit
def Fr (ro:Option Nat):Fence:={ fn:=fun _=>True,depth:=none,alive:=false,round:=ro }
theorem A95 (ro:Option Nat) (n:Nat):(Fr ro).room n:=fun _ h=>by cases h
theorem Aft (ro:Option Nat) {n:Nat}:(Fr ro).depth.isSome=true->1<=n:=fun h=>by cases h
theorem Rz {ro ro':Option Nat} {n n':Nat} {P:Program} {f:FuncId} {us:Array Value} {w:World} {R:Ending->World->Prop} (h:CallsIn (Fr ro) n P f us w R):CallsIn (Fr ro') n' P f us w R :=
 ⟨trivial,fun cs _=>h.2 cs (A95 _ _)⟩
theorem Ph {ro:Option Nat} {n:Nat} {P:Program} {f:FuncId} {us:Array Value} {w:World} {R:Ending->World->Prop}:CallsIn (Fr ro) n P f us w R ↔ Calls P f us w R :=
 ⟨fun h=>(callsIn_wide (n:=0)).1 (Rz (ro':=none) h),fun h=>Rz (ro:=none) (n:=0) ((callsIn_wide (n:=0)).2 h)⟩
def Agt:Ex->Option Code
 | .ret=>some .ret
 | .exit id=>some (.exit id)
 | .goto l=>some (.goto l)
 | _=>none
def A96:Nat->LoopState
 | 0=>.ready
 | 1=>.busy
 | _=>.done
def LbIs (w:World) (B:Nat->Prop) (own:Nat->Prop) (ω:Nat->Option Nat) (nx l:Nat):LB->Prop
 | .dfb=>w.heap[l]?=some (.deferred (some []))
 | .lop s pend tmps params assign body d=>∃ r:Loop,w.heap[l]?=some (.loop r)/\r.state=A96 s/\r.pending=pend.bind Agt/\(∀ e,pend=some e->(Agt e).isSome=true) /\
   RepL w B own ω nx tmps r.tmps/\r.params.toList=params/\r.assign=assign/\r.body=body/\d < nx/\ω d=some r.defers
structure LpOk (w:World) (B own oL:Nat->Prop) (ω:Nat->Option Nat) (nx:Nat) (lp:N7):Prop where
 rel:∀ id e,Gw lp id=some e->id < nx/\∃ l,ω id=some l/\oL l/\LbIs w B own ω nx l e
 inj:∀ i j l,(Gw lp i).isSome=true->(Gw lp j).isSome=true->ω i=some l->ω j=some l->i=j
 dis:∀ l,oL l->l < w.heap.size/\¬ own l
def Marks (ω:Nat->Option Nat) (nx:Nat):List Nat->List Deferred->Prop
 | [],[]=>True
 | d :: ds,x :: xs=>(d < nx/\∃ r,ω d=some r/\x={ target:=.collected r,args:=#[] })/\Marks ω nx ds xs
 | _,_=>False
abbrev Or2 (a b:Nat->Prop):Nat->Prop:=fun x=>a x\/b x
structure MemSim (C:Cfg) (w:World) (B oC oL:Nat->Prop) (ω:Nat->Option Nat) (m:Mem):Prop where
 hp:Hp w (Or2 B oL) oC ω m.nx m.heap
 lp:LpOk w (Or2 B oL) oC oL ω m.nx m.lp
 gl:GOk C.G w
 gb:∀ g cells,C.G g=some cells->¬ oC g/\¬ oL g/\¬ B g
 bl:∀ b,B b->b < w.heap.size
structure Sim (C:Cfg) (w:World) (B oC oL:Nat->Prop) (ω:Nat->Option Nat) (st:St) (a:Act):Prop where
 tm:RepL w (Or2 B oL) oC ω st.m.nx st.tmps a.tmps
 dn:Marks ω st.m.nx st.ds a.defers
 ms:MemSim C w B oC oL ω st.m
def ExtR (w:World) (oC oL:Nat->Prop) (ω:Nat->Option Nat) (nx:Nat) (w':World) (oC' oL':Nat->Prop) (ω':Nat->Option Nat) (nx':Nat):Prop :=
 Ext w (Or2 oC oL) ω nx w' (Or2 oC' oL') ω' nx'
section
variable {C:Cfg} {w w':World} {B oC oL oC' oL':Nat->Prop} {ω ω':Nat->Option Nat} {nx nx':Nat}
theorem ExtR.refl:ExtR w oC oL ω nx w oC oL ω nx:=Ext.refl _ _ _ _
theorem ExtR.trans {w2:World} {oC2 oL2:Nat->Prop} {ω2:Nat->Option Nat} {nx2:Nat} (h:ExtR w oC oL ω nx w' oC' oL' ω' nx') (h':ExtR w' oC' oL' ω' nx' w2 oC2 oL2 ω2 nx2):ExtR w oC oL ω nx w2 oC2 oL2 ω2 nx2:=Ext.trans h h'
theorem Rep.out {v:AV} {u:Value} (h:Rep w (Or2 B oL) oC ω nx v u):Rep w B (Or2 oC oL) ω nx v u :=
 h.mono (Nat.le_refl _) (fun _ _ h1 h2=>⟨rfl,fun h=>h.elim h1 (fun h=>h2 (.inr h)),fun h=>h2 (.inl h)⟩) (fun _ _ h1 h2=>⟨h1,h2⟩) (fun _ _ h=>h)
theorem Rep.inn {v:AV} {u:Value} (h:Rep w B (Or2 oC oL) ω nx v u):Rep w (Or2 B oL) oC ω nx v u :=
 h.mono (Nat.le_refl _) (fun _ _ h1 h2=>⟨rfl,fun h=>h1 (.inl h),fun h=>h.elim h2 (fun h=>h1 (.inr h))⟩) (fun _ _ h1 h2=>⟨h1,h2⟩) (fun _ _ h=>h)
theorem Rep.extR {v:AV} {u:Value} (h:Rep w (Or2 B oL) oC ω nx v u) (e:ExtR w oC oL ω nx w' oC' oL' ω' nx'):Rep w' (Or2 B oL') oC' ω' nx' v u:=(h.out.ext e).inn
theorem Rep.extR0 {v:AV} {u:Value} (h:Rep w (Or2 B oL) oC ω 0 v u) (e:ExtR w oC oL ω nx w' oC' oL' ω' nx'):Rep w' (Or2 B oL') oC' ω' 0 v u:=(h.out.ext0 e).inn
theorem RepL.extR {cs:List AV} {us:Array Value} (h:RepL w (Or2 B oL) oC ω nx cs us) (e:ExtR w oC oL ω nx w' oC' oL' ω' nx'):RepL w' (Or2 B oL') oC' ω' nx' cs us :=
 ⟨h.1,fun i hi=>(h.2 i hi).extR e⟩
theorem Marks.extR:∀ {ds:List Nat} {xs:List Deferred},Marks ω nx ds xs->ExtR w oC oL ω nx w' oC' oL' ω' nx'->Marks ω' nx' ds xs
 | [],[],_,_=>trivial
 | d :: ds,x :: xs,h,e=>⟨⟨Nat.lt_of_lt_of_le h.1.1 e.nxle,let ⟨r,h1,h2⟩:=h.1.2;⟨r,e.om' d r h.1.1 h1,h2⟩⟩,h.2.extR e⟩
 | [],_ :: _,h,_=>h.elim
 | _ :: _,[],h,_=>h.elim
theorem RepL.ext {B own own':Nat->Prop} {cs:List AV} {us:Array Value} (h:RepL w B own ω nx cs us) (e:Ext w own ω nx w' own' ω' nx'):RepL w' B own' ω' nx' cs us :=
 ⟨h.1,fun i hi=>(h.2 i hi).ext e⟩
theorem Ext.toR (h:Ext w oC ω nx w' oC' ω' nx'):ExtR w oC oL ω nx w' oC' oL ω' nx' :=
 ⟨h.os,h.tape,h.output,h.size,fun b hb hn=>h.old b hb (fun ho=>hn (.inl ho)),fun b hb=>hb.elim (fun hb=>(h.owns b hb).elim (fun h=>.inl (.inl h)) .inr) (fun hb=>.inl (.inr hb)),h.nxle,h.om,h.row⟩
theorem LbIs.ext {l:Nat} {e:LB} {B':Nat->Prop} (h:LbIs w B oC ω nx l e) (hl:w'.heap[l]?=w.heap[l]?) (E:Ext w oC ω nx w' oC' ω' nx'):LbIs w' B oC' ω' nx' l e:=by
 cases e with
 | dfb=>exact hl.trans h
 | lop s pend tmps params assign body d =>
  obtain ⟨r,h1,h2,h3,h4,h5,h6,h7,h8,h9,h10⟩:=h;exact ⟨r,hl.trans h1,h2,h3,h4,h5.ext E,h6,h7,h8,Nat.lt_of_lt_of_le h9 E.nxle,E.om' _ _ h9 h10⟩
theorem LpOk.ext {lp:N7} (h:LpOk w B oC oL ω nx lp) (E:Ext w oC ω nx w' oC' ω' nx'):LpOk w' B oC' oL ω' nx' lp where
 rel id e he:=by
  obtain ⟨h1,l,h2,h3,h4⟩:=h.rel id e he;have hd:=h.dis l h3;exact ⟨Nat.lt_of_lt_of_le h1 E.nxle,l,E.om' _ _ h1 h2,h3,h4.ext (B':=B) (E.old l hd.1 hd.2) E⟩
 inj i j l hi hj h1 h2:=by
  obtain ⟨x,hx⟩:=Option.isSome_iff_exists.1 hi;obtain ⟨y,hy⟩:=Option.isSome_iff_exists.1 hj;obtain ⟨a1,l1,a2,_⟩:=h.rel i x hx;obtain ⟨b1,l2,b2,_⟩:=h.rel j y hy;have e1:=E.om' _ _ a1 a2;have e2:=E.om' _ _ b1 b2;rw [h1] at e1;rw [h2] at e2;cases e1;cases e2;exact h.inj i j l hi hj a2 b2
 dis l hl:=⟨Nat.lt_of_lt_of_le (h.dis l hl).1 E.size,fun ho=>(E.owns l ho).elim (h.dis l hl).2 (fun hs=>by have:=(h.dis l hl).1;omega)⟩
theorem GOk.ext {B':Nat->Prop} {own own':Nat->Prop} (hg:GOk C.G w) (gb:∀ g cells,C.G g=some cells->¬ own g) (E:Ext w own ω nx w' own' ω' nx') :
  GOk C.G w'/\∀ g cells,C.G g=some cells->¬ own' g:=by
 refine ⟨fun g cells h=>?_,fun g cells h ho=>?_⟩
 ·obtain ⟨h1,vs,h2,h3⟩:=hg g cells h
  refine ⟨Nat.lt_of_lt_of_le h1 E.size,vs,fun i hi=>?_,h3⟩
  rw [<- h2 i hi];exact World.cell?_of_block (E.old g h1 (gb g cells h))
 ·rcases E.owns g ho with h' | h'
  ·exact gb g cells h h'
  ·have:=(hg g cells h).1;omega
theorem MemSim.op {m:Mem} (S:MemSim C w B oC oL ω m) {h':Heap} (E:Ext w oC ω m.nx w' oC' ω' nx') (H:Hp w' (Or2 B oL) oC' ω' nx' h'):MemSim C w' B oC' oL ω' ⟨h',nx',m.lp⟩:=by
 obtain ⟨g1,g2⟩:=S.gl.ext (B':=B) (fun g cells h=>(S.gb g cells h).1) E
 exact ⟨H,S.lp.ext E,g1,fun g cells h=>⟨g2 g cells h,(S.gb g cells h).2⟩,fun b hb=>Nat.lt_of_lt_of_le (S.bl b hb) E.size⟩
theorem GOk.rep {B' own:Nat->Prop} (hg:GOk C.G w) {g:Nat} {cells:List AV} (h:C.G g=some cells) (gb:¬ own g/\¬ B' g):Rep w B' own ω nx (.iptr cells 0) (.pointer (some ⟨g,0,none⟩)):=by
 obtain ⟨h1,vs,h2,h3⟩:=hg g cells h
 exact .iptr _ _ 0 g 0 vs (fun _=>⟨h1,gb⟩) (fun i hi=>by rw [Nat.zero_add];exact h2 i hi) (fun i hi=>h3 i hi _ _ _ _ _)
theorem Bk3 {m:Mem} {tmps:List AV} {a:Act} (S:MemSim C w B oC oL ω m) (ht:RepL w (Or2 B oL) oC ω m.nx tmps a.tmps) (x:Operand):Rep w (Or2 B oL) oC ω m.nx (evO C tmps x) (a.eval x):=by
 cases x with
 | tmp t =>
  simp only [evO,Act.eval,Ja]
  by_cases h:t < tmps.length
  ·have:=ht.2 t h
   simpa [h] using this
  ·simp only [List.getD_eq_getElem?_getD,List.getElem?_eq_none (Nat.le_of_not_lt h),Option.getD_none]
   exact .any _ _
 | const v=>exact Awd _ _ _ _ _ _
 | global g =>
  simp only [evO,Act.eval];split
  ·rename_i cells h
   have:=S.gb g cells h;exact S.gl.rep h ⟨this.1,fun hh=>hh.elim this.2.2 this.2.1⟩
  ·exact .any _ _
 | func f=>exact .fn _ _ _ _ _ _ rfl rfl (fun i hi=>absurd hi (Nat.not_lt_zero _)) (fun i hi=>absurd hi (Nat.not_lt_zero _))
theorem Sim.ev {st:St} {a:Act} (S:Sim C w B oC oL ω st a) (x:Operand):Rep w (Or2 B oL) oC ω st.m.nx (evO C st.tmps x) (a.eval x):=Bk3 S.ms S.tm x
theorem RepL.set {B:Nat->Prop} {own:Nat->Prop} {cs:List AV} {arr:Array Value} (hl:RepL w B own ω nx cs arr) (d:Nat) {v:AV} {u:Value} (hr:Rep w B own ω nx v u):RepL w B own ω nx (Va cs d v) (arr.setIfInBounds d u):=by
 rw [Tn]
 refine Qw (by simpa using hl.1) (fun j a x ha hx=>?_)
 have:=hl.1
 by_cases h:j=d
 ·subst h
  rw [List.getElem?_set] at ha;rw [Array.getElem?_setIfInBounds] at hx;simp only [if_true] at ha hx;split at ha
  ·rename_i hlt
   rw [if_pos (by omega)] at hx
   rw [<- Option.some.inj ha,<- Option.some.inj hx];exact hr
  ·cases ha
 ·rw [List.getElem?_set_ne (Ne.symm h)] at ha
  rw [Array.getElem?_setIfInBounds_ne (Ne.symm h)] at hx;exact hl.at ha hx
theorem RepL.setT {B:Nat->Prop} {own:Nat->Prop} {cs:List AV} {a:Act} (hl:RepL w B own ω nx cs a.tmps) (dst:Option Nat) {v:AV} {u:Value} (hr:Rep w B own ω nx v u):RepL w B own ω nx (setT cs dst v) (a.put dst u).tmps:=by
 cases dst with
 | none=>exact hl
 | some d=>exact hl.set d hr
theorem Vk (a:Act) (dst:Option Nat) (u:Value):(a.put dst u).defers=a.defers:=by cases dst <;> rfl
theorem Sim.put {st:St} {a:Act} (S:Sim C w B oC oL ω st a) {m':Mem} {dst:Option Tmp} {v:AV} {u:Value} (E:ExtR w oC oL ω st.m.nx w' oC' oL' ω' m'.nx) (M:MemSim C w' B oC' oL' ω' m') (hr:Rep w' (Or2 B oL') oC' ω' m'.nx v u) :
  Sim C w' B oC' oL' ω' ⟨setT st.tmps dst v,st.ds,m'⟩ (a.put dst u) :=
 ⟨(S.tm.extR E).setT dst hr,by rw [Vk];exact S.dn.extR E,M⟩
def CallEnd (C:Cfg) (w:World) (B oC oL:Nat->Prop) (ω:Nat->Option Nat) (nx:Nat) (kk:AV->Mem->Bool) (kp:AV->Mem->Bool) (e:Ending) (w':World):Prop :=
 (∃ v u m' oC' oL' ω',e=.returned u/\kk v m'=true/\ExtR w oC oL ω nx w' oC' oL' ω' m'.nx/\MemSim C w' B oC' oL' ω' m'/\Rep w' (Or2 B oL') oC' ω' m'.nx v u) \/
 (∃ v u m' oC' oL' ω',e=.panicked [{ v:=u,recovered:=false }]/\kp v m'=true/\ExtR w oC oL ω nx w' oC' oL' ω' m'.nx/\MemSim C w' B oC' oL' ω' m'/\Rep w' (Or2 B oL') oC' ω' m'.nx v u)
def Agu (C:Cfg) (call:Jg Bool):Prop :=
 ∀ t args m kk kp (w:World) (B oC oL:Nat->Prop) (ω:Nat->Option Nat) (us:Array Value),call t args m kk kp=true->MemSim C w B oC oL ω m->RepL w (Or2 B oL) oC ω m.nx args us ->
  match t with
  | .fn f=>(callFunc f us).run C.P w=.ok (.enter f us) w/\CallsIn (Fr none) 0 C.P f us w (CallEnd C w B oC oL ω m.nx kk kp)
  | .yld id=>∀ l,ω id=some l->∃ fn tmps assign body,(Instr.yield l us).run C.P w=.ok (.round l fn tmps assign body) w/\∀ ro,RoundIn (Fr ro) 0 C.P l fn tmps assign body w (CallEnd C w B oC oL ω m.nx kk kp)
theorem Abp {ops:Array Oper} {tmps:List AV} {arr:Array Value} {B' own:Nat->Prop} (ht:RepL w B' own ω nx tmps arr) {o:Oper} {x y:List AV->Bool} (hk:O1 ops tmps o x y false=true) :
  (Region.wanted o (yielded ops arr)=true/\x tmps=true)\/(Region.wanted o (yielded ops arr)=false/\y tmps=true):=by
 unfold O1 at hk
 split at hk
 ·rename_i hg
  exact .inl ⟨by simp [Region.wanted,hg],hk⟩
 ·rename_i j want hg
  split at hk
  ·rename_i oj hoj
   split at hk
   ·rename_i d hdst
    have hev:Rep w B' own ω nx (lget tmps d) (arr.getD d undef):=by
     rw [Ja]
     by_cases h:d < tmps.length
     ·simpa [h] using ht.2 d h
     ·simp only [List.getD_eq_getElem?_getD,List.getElem?_eq_none (Nat.le_of_not_lt h),Option.getD_none]
      exact .any _ _
    have hy:∀ v,arr[d]?=some v->yielded ops arr j=(match v with | .bool b=>some b | _=>none):=fun v hv=>by
     simp only [yielded,hoj,Option.bind_some,hdst,hv];cases v <;> rfl
    split at hk
    ·rename_i b hb
     rw [hb] at hev
     have hset:∀ c,c=b->Va tmps d (.bool c)=tmps:=fun c e=>by
      subst e;rw [Tn];rw [Ja] at hb;refine List.ext_getElem? fun i=>?_
      by_cases hi:i=d
      ·subst hi
       by_cases hl:i < tmps.length
       ·rw [List.getElem?_set_self hl]
        have:tmps[i]?=some (tmps.getD i .any):=by simp [hl]
        rw [this,hb]
       ·rw [List.getElem?_eq_none (by simpa using Nat.le_of_not_lt hl),List.getElem?_eq_none (Nat.le_of_not_lt hl)]
      ·rw [List.getElem?_set_ne (Ne.symm hi)]
     have hd3:d < arr.size:=by
      rw [<- ht.1]
      rcases Nat.lt_or_ge d tmps.length with h | h
      ·exact h
      ·rw [Ja] at hb
       simp [List.getElem?_eq_none h] at hb
     have hyy:=hy _ (Array.getElem?_eq_getElem hd3);rw [N9 hd3] at hev;generalize arr[d]=xx at hev hyy;cases hev;simp only at hyy;cases b with
     | true =>
      simp only [cond_true,hset true rfl] at hk
      rcases Dt hk with ⟨h1,h2⟩ | ⟨h1,h2⟩
      ·exact .inl ⟨by simp [Region.wanted,hg,hyy,h1],h2⟩
      ·exact .inr ⟨by simp [Region.wanted,hg,hyy,h1],h2⟩
     | false =>
      simp only [cond_false,hset false rfl] at hk
      rcases Dt hk with ⟨h1,h2⟩ | ⟨h1,h2⟩
      ·exact .inr ⟨by simp [Region.wanted,hg,hyy,h1],h2⟩
      ·exact .inl ⟨by simp [Region.wanted,hg,hyy,h1],h2⟩
    ·rename_i l hb
     rw [hb] at hev;refine .inr ⟨?_,hk⟩
     have:yielded ops arr j=none:=by
      cases hx:arr[d]? with
      | none=>simp [yielded,hoj,hdst,hx]
      | some xx =>
       rw [hy xx hx];have:arr.getD d undef=xx:=by simp [Array.getD_eq_getD_getElem?,hx]
       rw [this] at hev;cases hev;rfl
     simp [Region.wanted,hg,this]
    ·cases hk
   ·cases hk
  ·cases hk
theorem Aed {ρ:Operand->AV} {h:Heap} {op:Op} {kv:AV->Heap->Nat->Bool} {kc:Tgt->List AV->Bool} {kp:AV->Bool} (hk:aop C ρ h nx op kv kc kp false=true):∀ c,op ≠ .defer c:=fun c e=>by
 subst e
 cases hk
theorem Xp (ro:Option Nat) (o:Oper) (P:Program) (w:World) (ρ:Operand->Value):∀ f,o.about P w ρ=some f->(Fr ro).fn f:=fun _ _=>trivial
theorem Afu {call:Jg Bool} (hcall:Agu C call) {ro:Option Nat} {o:Oper} {st:St} {a:Act} {h:Heap} {m:Mem} {kv:AV->Heap->Nat->Bool} {kc:Tgt->List AV->Bool} {kp:AV->Bool} {ρ:Operand->AV} {K:Act->World->Prop} {Q:Exit->Act->World->Prop}
  (M:MemSim C w B oC oL ω m) (hρ:∀ x,Rep w (Or2 B oL) oC ω m.nx (ρ x) (a.eval x)) (hk:aop C ρ m.heap m.nx o.op kv kc kp false=true)
  (hv:∀ v u h' nx' w' oC' ω',kv v h' nx'=true->Ext w oC ω m.nx w' oC' ω' nx'->MemSim C w' B oC' oL ω' ⟨h',nx',m.lp⟩->Rep w' (Or2 B oL) oC' ω' nx' v u->K (a.put o.dst u) w')
  (kk:AV->Mem->Bool) (kq:AV->Mem->Bool) (hc:∀ t args,kc t args=true->call t args m kk kq=true)
  (hr:∀ v u m' w' oC' oL' ω',kk v m'=true->ExtR w oC oL ω m.nx w' oC' oL' ω' m'.nx->MemSim C w' B oC' oL' ω' m'->Rep w' (Or2 B oL') oC' ω' m'.nx v u->K (a.put o.dst u) w')
  (hp:∀ v u m' w' oC' oL' ω',kq v m'=true->ExtR w oC oL ω m.nx w' oC' oL' ω' m'.nx->MemSim C w' B oC' oL' ω' m'->Rep w' (Or2 B oL') oC' ω' m'.nx v u->Q (.panic [{ v:=u,recovered:=false }]) a w')
  (hp0:∀ v u,kp v=true->Rep w (Or2 B oL) oC ω m.nx v u->Q (.panic [{ v:=u,recovered:=false }]) a w) :
  o.wpIn (Fr ro) 0 C.P a w K Q:=by
 refine ⟨Xp _ _ _ _ _,?_⟩
 rw [Oper.semAt_eq _ _ _ (Aed hk)]
 have fin:∀ e w',CallEnd C w B oC oL ω m.nx kk kq e w'->(match e with
   | .returned v=>K (a.put o.dst v) w'
   | .panicked chain=>Q (.panic chain) a w'
   | .outgrown=>LetsOut Q):=fun e w' he=>by
  rcases he with ⟨v,u,m',oC',oL',ω',rfl,h1,h2,h3,h4⟩ | ⟨v,u,m',oC',oL',ω',rfl,h1,h2,h3,h4⟩
  ·exact hr v u m' w' oC' oL' ω' h1 h2 h3 h4
  ·exact hp v u m' w' oC' oL' ω' h1 h2 h3 h4
 rcases Akb C M.hp hρ hk with ⟨u,w',v,h',nx',oC',ω',hrun,h1,h2,h3,h4⟩ | ⟨t,args,us,hrun,h1,h2⟩ | ⟨v,u,hrun,h1,h2⟩
 ·have:=hv v u h' nx' w' oC' ω' h1 h2 (M.op h2 h3) h4
  rcases hrun with hrun | ⟨hrun,rfl⟩
  ·rw [hrun,Oper.uponIn_value];exact this
  ·rw [hrun,Oper.uponIn_skip];exact this
 ·have:=hcall t args m kk kq w B oC oL ω us (hc t args h1) M h2
  cases t with
  | fn f =>
   simp only [Agk] at hrun;obtain ⟨c1,c2⟩:=this;rw [hrun,c1,Oper.uponIn_enter];refine ⟨Aft ro,(Rz c2).mono fun e w' he=>?_⟩
   have:=fin e w' he;cases e <;> exact this
  | yld id =>
   obtain ⟨l,hl,hrun⟩:=hrun;obtain ⟨fn,tmps,assign,body,c1,c2⟩:=this l hl;rw [hrun,c1,Oper.uponIn_round];refine ⟨Aft ro,(c2 ro).mono fun e w' he=>?_⟩
   have:=fin e w' he;cases e <;> exact this
 ·rw [hrun,Oper.uponIn_panic]
  exact hp0 v u h1 h2
def Agv (w:World) (B oC oL:Nat->Prop) (ω:Nat->Option Nat) (nx:Nat):Ex->Exit->Prop
 | .normal,x=>x=.normal
 | .exit id,x=>x=.exit id
 | .goto l,x=>x=.goto l
 | .ret,x=>x=.ret
 | .panic v,x=>∃ u,x=.panic [{ v:=u,recovered:=false }]/\Rep w (Or2 B oL) oC ω nx v u
theorem Adc {call:Jg Bool} (hcall:Agu C call) {ro:Option Nat} {ops:Array Oper} {Q:Exit->Act->World->Prop} {k:St->Bool} {kp:AV->St->Bool} :
  ∀ (rest:List Oper) (i:Nat),ops.toList.drop i=rest->∀ (st:St) (a:Act) (w:World) (oC oL:Nat->Prop) (ω:Nat->Option Nat),Ags C call ops rest st k kp false=true->Sim C w B oC oL ω st a ->
   (∀ st' a' w' oC' oL' ω',Sim C w' B oC' oL' ω' st' a'->ExtR w oC oL ω st.m.nx w' oC' oL' ω' st'.m.nx->k st'=true->Q .normal a' w') ->
   (∀ v u st' a' w' oC' oL' ω',Sim C w' B oC' oL' ω' st' a'->ExtR w oC oL ω st.m.nx w' oC' oL' ω' st'.m.nx->kp v st'=true->Rep w' (Or2 B oL') oC' ω' st'.m.nx v u->Q (.panic [{ v:=u,recovered:=false }]) a' w') ->
   wpOpsIn (Fr ro) 0 C.P ops Q (List.range' i rest.length) a w
 | [],i,_,st,a,w,oC,oL,ω,hk,S,hQ,hP=>hQ st a w oC oL ω S ExtR.refl hk
 | o :: r,i,hd,st,a,w,oC,oL,ω,hk,S,hQ,hP=>by
  have hlt:i < ops.toList.length:=by
   rcases Nat.lt_or_ge i ops.toList.length with h | h
   ·exact h
   ·rw [List.drop_eq_nil_of_le h] at hd;cases hd
  have ho:ops[i]?=some o:=by
   have h0:(ops.toList.drop i)[0]?=some o:=by rw [hd];rfl
   rw [List.getElem?_drop] at h0
   simpa using h0
  have hr:ops.toList.drop (i + 1)=r:=by rw [<- List.drop_drop,hd];rfl
  have go:∀ (v:AV) (u:Value) (m':Mem) (w':World) (oC' oL':Nat->Prop) (ω':Nat->Option Nat),Ags C call ops r ⟨setT st.tmps o.dst v,st.ds,m'⟩ k kp false=true->ExtR w oC oL ω st.m.nx w' oC' oL' ω' m'.nx->MemSim C w' B oC' oL' ω' m'->Rep w' (Or2 B oL') oC' ω' m'.nx v u ->
    wpOpsIn (Fr ro) 0 C.P ops Q (List.range' (i + 1) r.length) (a.put o.dst u) w':=fun v u m' w' oC' oL' ω' hk E M hr' =>
   Adc hcall r (i + 1) hr _ _ w' oC' oL' ω' hk (S.put E M hr') (fun st' a' w'' oC'' oL'' ω'' S' E' hk'=>hQ st' a' w'' oC'' oL'' ω'' S' (E.trans E') hk')
    (fun v u st' a' w'' oC'' oL'' ω'' S' E' hk' hr''=>hP v u st' a' w'' oC'' oL'' ω'' S' (E.trans E') hk' hr'')
  simp only [List.length_cons,List.range'_succ,wpOpsIn,ho];rw [Ada] at hk
  rcases Abp S.tm hk with ⟨hw,h⟩ | ⟨hw,h⟩
  ·rw [if_pos hw]
   exact Afu hcall (st:=st) (h:=st.m.heap) S.ms S.ev h (fun v u h' nx' w' oC' ω' hk' E M hr'=>go v u _ w' oC' oL ω' hk' E.toR M hr')
    (fun v m'=>Ags C call ops r ⟨setT st.tmps o.dst v,st.ds,m'⟩ k kp false) (fun v m'=>kp v ⟨st.tmps,st.ds,m'⟩) (fun t args h=>h)
    (fun v u m' w' oC' oL' ω' hk' E M hr'=>go v u m' w' oC' oL' ω' hk' E M hr')
    (fun v u m' w' oC' oL' ω' hk' E M hr'=>hP v u ⟨st.tmps,st.ds,m'⟩ a w' oC' oL' ω' ⟨S.tm.extR E,S.dn.extR E,M⟩ E hk' hr')
    (fun v u hk' hr'=>hP v u _ a w oC oL ω S ExtR.refl hk' hr')
  ·rw [if_neg (by simp [hw])]
   exact ⟨Xp _ _ _ _ _,go (.tup []) undef st.m w oC oL ω h ExtR.refl S.ms (.tup _ _ _ rfl (fun i hi=>absurd hi (Nat.not_lt_zero _)))⟩
end
end Go.Bas
end
section
namespace Go.Bas
noncomputable section
open Go.RowKit
inductive OpOut where
 | val (v:AV) (h:Heap) (nx:Nat)
 | call (t:Tgt) (args:List AV)
 | pan (v:AV)
 | no
def OpOut.elim {Ω:Type} (kv:AV->Heap->Nat->Ω) (kc:Tgt->List AV->Ω) (kp:AV->Ω) (z:Ω):OpOut->Ω
 | .val v h nx=>kv v h nx
 | .call t args=>kc t args
 | .pan v=>kp v
 | .no=>z
def Aqf (C:Cfg) (ρ:Operand->AV) (h:Heap) (nx:Nat) (op:Op):OpOut:=aop C ρ h nx op .val .call .pan .no
theorem Abq {Ω:Type} (C:Cfg) (ρ:Operand->AV) (h:Heap) (nx:Nat) (op:Op) (kv:AV->Heap->Nat->Ω) (kc:Tgt->List AV->Ω) (kp:AV->Ω) (z:Ω) :
  aop C ρ h nx op kv kc kp z=(Aqf C ρ h nx op).elim kv kc kp z:=(Za (OpOut.elim kv kc kp z) C ρ h nx op .val .call .pan .no).symm
def Det {α:Type} (F:(α->Bool)->Bool):Prop:=∀ k,F k=true->∃ a,k a=true/\∀ k',F k'=k' a
theorem Atl {α:Type} {F:(α->Bool)->Bool} {o:Option α} (h:∀ k,F k=match o with | some a=>k a | none=>false):Det F:=fun k hk=>by
 rw [h] at hk
 cases o with
 | none=>cases hk
 | some a=>exact ⟨a,hk,fun k'=>h k'⟩
section
variable {Ω Ω':Type} (f:Ω->Ω')
theorem Jc {g:AV->(AV->Ω)->Ω->Ω} {g':AV->(AV->Ω')->Ω'->Ω'} (hg:∀ v k z,f (g v k z)=g' v (fun v=>f (k v)) (f z)):∀ (l:List AV) (k:List AV->Ω) (z:Ω),f (Kw g l k z)=Kw g' l (fun v=>f (k v)) (f z)
 | [],k,z=>rfl
 | v :: r,k,z=>by
  simp only [Kw];rw [hg]
  congr 1
  funext v'
  exact Jc hg r _ _
theorem O3 (h:Heap):∀ (d:Nat) (v:AV) (k:AV->Ω) (z:Ω),f (Ua h d v k z)=Ua h d v (fun v=>f (k v)) (f z)
 | 0,v,k,z=>rfl
 | d + 1,v,k,z=>by
  cases v <;> simp only [Ua]
  case ptr id off=>split <;> first | rfl | exact cond_nat f _ _ _
  case sl id off n sz app=>split <;> first | rfl | exact cond_nat f _ _ _
  case fn g a b =>
   rw [Jc f (O3 h d)]
   congr 1
   funext a'
   exact Jc f (O3 h d) _ _ _
  case iface t v=>exact O3 h d _ _ _
  case agg cs=>exact Jc f (O3 h d) _ _ _
  case tup cs=>exact Jc f (O3 h d) _ _ _
theorem Py (h:Heap):∀ (d:Nat) (v:AV) (k:AV->Ω) (z:Ω),f (Iz h d v k z)=Iz h d v (fun v=>f (k v)) (f z)
 | 0,v,k,z=>rfl
 | d + 1,v,k,z=>by
  cases v <;> simp only [Iz]
  case sl id off n sz app=>split <;> first | rfl | (simp only [cond_nat f])
  case iface t v=>exact Py h d _ _ _
  case agg cs=>exact Jc f (Py h d) _ _ _
  case tup cs=>exact Jc f (Py h d) _ _ _
theorem Ay4 (C:Cfg) (st:St) (rv:ResultVar) (k:AV->Ω) (z:Ω):f (Abm C st rv k z)=Abm C st rv (fun v=>f (k v)) (f z):=by
 unfold Abm
 split
 ·rfl
 ·split
  ·split
   ·exact Ac9 f _ _ _ _ _ _ _
   ·rfl
  ·rfl
theorem Akg (C:Cfg) (st:St):∀ (rs:List ResultVar) (k:List AV->Ω) (z:Ω),f (Abn C st rs k z)=Abn C st rs (fun v=>f (k v)) (f z)
 | [],k,z=>rfl
 | r :: rs,k,z=>by
  simp only [Abn];rw [Ay4 f]
  congr 1
  funext v
  exact Akg C st rs _ _
theorem Abr (C:Cfg) (fn:Func) (st:St) (k:AV->Ω) (z:Ω):f (Uo C fn st k z)=Uo C fn st (fun v=>f (k v)) (f z):=Akg f _ _ _ _ _
theorem O4:∀ (ds:List Nat) (lp:N7) (k:N7->Ω) (z:Ω),f (Iq ds lp k z)=Iq ds lp (fun v=>f (k v)) (f z)
 | [],lp,k,z=>rfl
 | d :: ds,lp,k,z=>by
  simp only [Iq];split
  ·exact O4 ds _ _ _
  ·rfl
theorem Agw (ops:Array Oper) (tmps:List AV) (o:Oper) (x y:List AV->Ω) (z:Ω):f (O1 ops tmps o x y z)=O1 ops tmps o (fun t=>f (x t)) (fun t=>f (y t)) (f z):=by
 unfold O1
 split
 ·rfl
 ·split
  ·split
   ·split
    ·rw [cond_nat f,cond_nat f,cond_nat f]
    ·rfl
    ·rfl
   ·rfl
  ·rfl
theorem Ay5 (inr:Option Nat) (st:St) (params:List Nat) (assign body:Code) (k:Nat->List Nat->Mem->Ω) (z:Ω):f (Aec inr st params assign body k z)=Aec inr st params assign body (fun a b c=>f (k a b c)) (f z):=by
 unfold Aec
 split
 ·rfl
 ·split <;> rfl
def Abs (call:Jg Ω) (call':Jg Ω'):Prop:=∀ t args m kk kp,f (call t args m kk kp)=call' t args m (fun v m=>f (kk v m)) (fun v m=>f (kp v m))
def Xq (stand:Func->Code->List AV->(AV->Ω)->Ω) (stand':Func->Code->List AV->(AV->Ω')->Ω'):Prop:=∀ fn c args k,f (stand fn c args k)=stand' fn c args (fun v=>f (k v))
variable {f}
theorem Abt {call:Jg Ω} {call':Jg Ω'} (hc:Abs f call call') (C:Cfg) (ops:Array Oper):∀ (l:List Oper) (st:St) (k:St->Ω) (kp:AV->St->Ω) (z:Ω),f (Ags C call ops l st k kp z)=Ags C call' ops l st (fun s=>f (k s)) (fun v s=>f (kp v s)) (f z)
 | [],st,k,kp,z=>rfl
 | o :: r,st,k,kp,z=>by
  rw [Ada,Ada,Agw f]
  congr 1
  ·funext tmps
   rw [Za f]
   congr 1
   ·funext v h nx;exact Abt hc C ops r _ _ _ _
   ·funext t args
    rw [hc]
    congr 1
    funext v m'
    exact Abt hc C ops r _ _ _ _
  ·funext tmps;exact Abt hc C ops r _ _ _ _
theorem Agx {stand:Func->Code->List AV->(AV->Ω)->Ω} {stand':Func->Code->List AV->(AV->Ω')->Ω'} (hs:Xq f stand stand') (C:Cfg) (g:FuncId) (args:List AV) (h:Heap) (k:AV->Ω) (other:Func->Code->Ω) (z:Ω) :
  f (Xo C stand g args h k other z)=Xo C stand' g args h (fun v=>f (k v)) (fun a b=>f (other a b)) (f z):=by
 unfold Xo
 split
 ·split
  ·split
   ·rw [cond_nat f]
    congr 1
    ·split
     ·exact cond_nat f _ _ _
     ·rfl
    ·rw [Jc f (O3 f h 6)]
     congr 1
     funext args'
     split
     ·rw [cond_nat f,cond_nat f]
     ·rfl
   ·rw [cond_nat f,cond_nat f,hs,Jc f (O3 f h 6)]
    congr 3
    funext args'
    rw [hs]
    congr 1
    funext r
    exact cond_nat f _ _ _
  ·rfl
 ·rfl
theorem A3g {stand:Func->Code->List AV->(AV->Ω)->Ω} {stand':Func->Code->List AV->(AV->Ω')->Ω'} (hs:Xq f stand stand') {call:Jg Ω} {call':Jg Ω'} (hc:Abs f call call') (C:Cfg) (tmps:List AV) (m:Mem) (o:Oper) (k:Rc->Ω) (z:Ω) (fp:List Nat) :
  f (Atj C stand call tmps m o k z fp)=Atj C stand' call' tmps m o (fun r=>f (k r)) (f z) fp:=by
 unfold Atj
 rw [Za f]
 congr 1
 funext t args
 cases t with
 | fn g =>
  simp only;rw [Agx hs]
  congr 1
  funext a b
  exact hc _ _ _ _ _
 | yld id=>exact hc _ _ _ _ _
theorem A3h (C:Cfg) (tmps:List AV) (ai:Nat) (o:Oper) (k:Rc->Ω) (z:Ω):f (A3e C tmps ai o k z)=A3e C tmps ai o (fun r=>f (k r)) (f z):=by
 unfold A3e
 rw [Za f]
 congr 1
 funext v h nx
 split <;> rfl
theorem Awi {stand:Func->Code->List AV->(AV->Ω)->Ω} {stand':Func->Code->List AV->(AV->Ω')->Ω'} (hs:Xq f stand stand') {call:Jg Ω} {call':Jg Ω'} (hc:Abs f call call') (C:Cfg) (tmps:List AV) (m:Mem) (ai:Nat) (o:Oper) (k:Rc->Ω) (z:Ω) :
  f (opD C stand call tmps m ai o k z)=opD C stand' call' tmps m ai o (fun r=>f (k r)) (f z):=by
 unfold opD
 rw [cond_nat f,cond_nat f,Za f,A3h (f:=f),A3g hs hc]
theorem Ade {stand:Func->Code->List AV->(AV->Ω)->Ω} {stand':Func->Code->List AV->(AV->Ω')->Ω'} (hs:Xq f stand stand') {call:Jg Ω} {call':Jg Ω'} (hc:Abs f call call') (C:Cfg) (ops:Array Oper) (lo hi:Nat) :
  ∀ (l:List Oper) (st:St) (ai:Nat) (acc:List Rc) (k:St->Ω) (z:Ω),f (Zr C stand call ops lo hi l st ai acc k z)=Zr C stand' call' ops lo hi l st ai acc (fun s=>f (k s)) (f z)
 | [],st,ai,acc,k,z=>cond_nat f _ _ _
 | o :: r,st,ai,acc,k,z=>by
  simp only [Zr];rw [Agw f]
  congr 1
  ·funext tmps
   rw [Awi hs hc]
   congr 1
   funext rc
   exact Ade hs hc C ops lo hi r _ _ _ _ _
  ·funext tmps
   exact Ade hs hc C ops lo hi r _ _ _ _ _
def Aqg (f:Ω->Ω') (go:Ur Ω) (go':Ur Ω'):Prop:=∀ inr sc code st k z,f (go inr sc code st k z)=go' inr sc code st (fun e s=>f (k e s)) (f z)
theorem Vl {go:Ur Ω} {go':Ur Ω'} (hg:Aqg f go go') (C:Cfg) (z:Ω):Xq f (Qg C go z) (Qg C go' (f z)):=fun fn c args k=>by
 unfold Qg
 rw [hg]
 congr 1
 funext e st'
 cases e <;> simp only
 ·rw [O4 f]
  congr 1
  funext lp
  rw [Abr f]
  congr 1
  funext v
  exact Py f _ _ _ _ _
 ·rw [O4 f]
  congr 1
  funext lp
  rw [Abr f]
  congr 1
  funext v
  exact Py f _ _ _ _ _
theorem Us {go:Ur Ω} {go':Ur Ω'} (hg:Aqg f go go') (C:Cfg) (z:Ω):Abs f (Lu C go z) (Lu C go' (f z)):=fun t args m kk kp=>by
 cases t with
 | fn g =>
  simp only [Lu];split
  ·exact TrM.ev_nat f _ _ _
  rw [Agx (Vl hg C z)]
  congr 1
  funext fn c
  rw [hg]
  congr 1
  funext e st'
  cases e <;> simp only
  ·rw [O4 f]
   congr 1
   funext lp
   exact Abr f _ _ _ _ _
  ·rw [O4 f]
   congr 1
   funext lp
   exact Abr f _ _ _ _ _
  ·exact O4 f _ _ _ _
 | yld id =>
  simp only [Lu];split
  ·rw [cond_nat f,hg]
   congr 2
   funext e st1
   cases e <;> simp only
   split
   ·rw [hg]
    congr 1
    funext e2 st2
    split <;> rfl
   ·rfl
  ·rfl
theorem Aqh {go:Ur Ω} {go':Ur Ω'} (hg:Aqg f go go') (C:Cfg):Aqg f (Vj C go) (Vj C go'):=fun inr sc code st k z=>by
 unfold Vj
 cases sc with
 | some body =>
  simp only;rw [hg]
  congr 1
  funext e st'
  cases e <;> simp only
  split
  ·exact hg _ _ _ _ _ _
  ·rfl
 | none =>
  cases code <;> simp only
  case seq a b =>
   rw [hg]
   congr 1
   funext e st'
   cases e <;> simp only
   exact hg _ _ _ _ _ _
  case cond c a b =>
   split
   ·rw [cond_nat f,hg,hg]
   ·rfl
  case block id body =>
   rw [hg]
   congr 1
   funext e st'
   cases e <;> simp only
   exact cond_nat f _ _ _
  case loop body =>
   rw [hg]
   congr 1
   funext e st'
   cases e <;> simp only
   exact hg _ _ _ _ _ _
  case scope body=>exact hg _ _ _ _ _ _
  case region id ops draw =>
   rw [cond_nat f,Ade (Vl hg C z) (Us hg C z),Abt (Us hg C z)]
  case rangeFunc g params assign body =>
   split
   ·rw [Ay5 f]
    congr 1
    funext id ds m
    rw [Us hg C z]
    congr 1
    funext v m'
    split
    ·exact cond_nat f _ _ _
    ·rfl
   ·rfl
theorem Abu (C:Cfg):∀ n,Aqg f (run C n) (run C n)
 | 0=>fun inr sc code st k z=>rfl
 | n + 1=>Aqh (Abu C n) C
end
end
end Go.Bas
end
section
namespace Go.Bas
noncomputable section
open Go.RowKit
theorem Pz (h g:Heap) (id:Nat):Dl (h ++ g) id=(Dl h id).or (Dl g id):=by
 induction h with
 | nil=>simp [Abc]
 | cons p r ih =>
  obtain ⟨i,b⟩:=p;rw [List.cons_append,Ei,Ei,ih];cases Nat.beq i id <;> simp
theorem Aee (q:Nat->Bool) (h:Heap) (id:Nat):Dl (h.filter fun p=>q p.1) id=cond (q id) (Dl h id) none:=by
 induction h with
 | nil=>simp [Abc]
 | cons p r ih =>
  obtain ⟨i,b⟩:=p;rw [List.filter_cons]
  by_cases hi:i=id
  ·subst hi
   have hb:Nat.beq i i=true:=(Ea i i).2 rfl;cases hq:q i with
   | true=>simp [Ei,hb]
   | false=>simp [hq] at ih ⊢;exact ih
  ·have hb:Nat.beq i id=false:=by
    cases hh:Nat.beq i id with
    | false=>rfl
    | true=>exact absurd ((Ea i id).1 hh) hi
   cases hq:q i with
   | true=>simp [Ei,hb,ih]
   | false=>simp [Ei,hb,ih]
theorem Ay6 (h:Heap) (fp:List Nat) (id:Nat):Dl (Oq h fp) id=cond (Jl fp id) (Dl h id) none:=Aee (Jl fp) h id
theorem Ut (h:Heap) (fp:List Nat) (id:Nat):Dl (hrest h fp) id=cond (Jl fp id) none (Dl h id):=by
 have:=Aee (fun i=>!Jl fp i) h id
 rw [hrest,this]
 cases Jl fp id <;> rfl
theorem Akh {q:Nat->Bool} {h:Heap} {id:Nat} (ha:h.all (fun p=>q p.1)=true) (hq:q id=false):Dl h id=none:=by
 induction h with
 | nil=>rfl
 | cons p r ih =>
  obtain ⟨i,b⟩:=p;simp only [List.all_cons,Bae] at ha;rw [Ei];cases hb:Nat.beq i id with
  | true=>rw [(Ea i id).1 hb] at ha;rw [ha.1] at hq;cases hq
  | false=>exact ih ha.2
structure StEq (s t:St):Prop where
 tm:s.tmps=t.tmps
 ds:s.ds=t.ds
 hp:∀ id,Dl s.m.heap id=Dl t.m.heap id
 nx:s.m.nx=t.m.nx
 lp:s.m.lp=t.m.lp
theorem StEq.refl (s:St):StEq s s:=⟨rfl,rfl,fun _=>rfl,rfl,rfl⟩
theorem StEq.trans {s t u:St} (h:StEq s t) (h':StEq t u):StEq s u:=⟨h.tm.trans h'.tm,h.ds.trans h'.ds,fun id=>(h.hp id).trans (h'.hp id),h.nx.trans h'.nx,h.lp.trans h'.lp⟩
theorem StEq.symm {s t:St} (h:StEq s t):StEq t s:=⟨h.tm.symm,h.ds.symm,fun id=>(h.hp id).symm,h.nx.symm,h.lp.symm⟩
theorem Zt {s t:St} (r:Rc) (h:StEq s t):StEq (Ci s r) (Ci t r):=by
 obtain ⟨dst,out,rd,eff⟩:=r
 cases eff with
 | nop=>exact ⟨by simp [Ci,h.tm],h.ds,h.hp,h.nx,h.lp⟩
 | new id hb=>exact ⟨by simp [Ci,h.tm],h.ds,fun i=>by simp only [Ci,Ei,h.hp i],h.nx,h.lp⟩
 | bar fp lo m'=>exact ⟨by simp [Ci,h.tm],h.ds,fun i=>by simp only [Ci,Pz,Ut,h.hp i],rfl,rfl⟩
def sAt (L:Nat->Bool):Nat->List Rc->St->St
 | _,[],s=>s
 | i,r :: rs,s=>sAt L (i + 1) rs (cond (L i) (Ci s r) s)
theorem Aki {L:Nat->Bool}:∀ (rs:List Rc) (i:Nat) {s t:St},StEq s t->StEq (sAt L i rs s) (sAt L i rs t)
 | [],i,s,t,h=>h
 | r :: rs,i,s,t,h=>by
  simp only [sAt];refine Aki rs (i + 1) ?_;cases L i
  ·exact h
  ·exact Zt r h
theorem Amh {L L':Nat->Bool}:∀ (rs:List Rc) (i:Nat) (s:St),(∀ j,i<=j->L j=L' j)->sAt L i rs s=sAt L' i rs s
 | [],i,s,h=>rfl
 | r :: rs,i,s,h=>by
  simp only [sAt];rw [h i (Nat.le_refl _)];exact Amh rs (i + 1) _ (fun j hj=>h j (by omega))
theorem Ami:∀ (rs:List Rc) (i j:Nat) (s:St),sAt (fun x=>Nat.blt x (i + j)) i rs s=(rs.take j).foldl Ci s
 | [],i,j,s=>by simp [sAt]
 | r :: rs,i,0,s=>by
  have:∀ (l:List Rc) (i':Nat) (s:St),i<=i'->sAt (fun x=>Nat.blt x (i + 0)) i' l s=s:=by
   intro l
   induction l with
   | nil=>intro i' s h;rfl
   | cons r l ih =>
    intro i' s h
    have hb:Nat.blt i' (i + 0)=false:=by
     cases hh:Nat.blt i' (i + 0) with
     | false=>rfl
     | true=>have:=Nlb hh;omega
    simp only [sAt,hb,cond_false];exact ih _ _ (by omega)
  simpa using this (r :: rs) i s (Nat.le_refl _)
 | r :: rs,i,j + 1,s=>by
  have hb:Nat.blt i (i + (j + 1))=true:=Nat.ble_eq_true_of_le (by omega)
  simp only [sAt,hb,cond_true,List.take_succ_cons,List.foldl_cons];have:=Ami rs (i + 1) j (Ci s r);rw [show i + 1 + j=i + (j + 1) by omega] at this
  exact this
theorem Awj:∀ (rs:List Rc) (i:Nat) (s:St) (L:Nat->Bool),(∀ j,i<=j->j < i + rs.length->L j=true)->sAt L i rs s=rs.foldl Ci s
 | [],i,s,L,h=>rfl
 | r :: rs,i,s,L,h=>by
  simp only [sAt,h i (Nat.le_refl _) (by simp),cond_true,List.foldl_cons]
  exact Awj rs (i + 1) _ L (fun j hj hj'=>h j (by omega) (by simp only [List.length_cons];omega))
theorem Zu {l:List AV} {t:Nat} {v:AV} (h:t < l.length):lget (Va l t v) t=v:=by rw [Tn,Ja];simp [h]
theorem Aqi {l:List AV} {t d:Nat} {v:AV} (h:d ≠ t):lget (Va l d v) t=lget l t:=by
 rw [Tn,Ja,Ja,List.getD_eq_getElem?_getD,List.getD_eq_getElem?_getD,List.getElem?_set_ne h]
theorem Aqj {l:List AV} {t:Nat} (h:l.length<=t):lget l t=.any:=by rw [Ja,List.getD_eq_getElem?_getD,List.getElem?_eq_none h];rfl
theorem Xr (l:List AV) (d:Nat) (v:AV):(Va l d v).length=l.length:=by rw [Tn];simp
theorem Aqk (l:List AV) (d:Option Nat) (v:AV):(setT l d v).length=l.length:=by cases d <;> simp [setT,Xr]
theorem Ay7 {l:List AV} {a b:Nat} {v u:AV} (h:a ≠ b):Va (Va l a v) b u=Va (Va l b u) a v:=by
 simp only [Tn];exact List.set_comm _ _ h
theorem Ay8 {l:List AV} {a b:Option Nat} {v u:AV} (h:∀ x,a=some x->b ≠ some x):setT (setT l a v) b u=setT (setT l b u) a v:=by
 cases a with
 | none=>cases b <;> rfl
 | some x=>cases b with
  | none=>rfl
  | some y=>exact Ay7 (fun e=>h x rfl (by rw [e]))
theorem A3i {L L':Nat->Bool} {t:Nat}:∀ (rs:List Rc) (i:Nat) (s s':St),(∀ j r,Hq rs j=some r->r.dst=some t->L (i + j)=L' (i + j))->s.tmps.length=s'.tmps.length->lget s.tmps t=lget s'.tmps t ->
  lget (sAt L i rs s).tmps t=lget (sAt L' i rs s').tmps t
 | [],i,s,s',h,hl,he=>he
 | r :: rs,i,s,s',h,hl,he=>by
  simp only [sAt];refine A3i rs (i + 1) _ _ (fun j r' hj hd=>?_) ?_ ?_
  ·have:=h (j + 1) r' hj hd
   rw [show i + 1 + j=i + (j + 1) by omega]
   exact this
  ·cases L i <;> cases L' i <;> simp [Ci,Aqk,hl]
  ·have keep:∀ (b:Bool) (x:St),¬ r.dst=some t->lget (cond b (Ci x r) x).tmps t=lget x.tmps t:=fun b x hd=>by
    cases b
    ·rfl
    ·simp only [cond_true,Ci]
     cases hr:r.dst with
     | none=>rfl
     | some d=>exact Aqi (fun e=>hd (by rw [hr,e]))
   by_cases hd:r.dst=some t
   ·have h0:=h 0 r rfl hd
    rw [Nat.add_zero] at h0;rw [h0];cases L' i
    ·exact he
    ·simp only [cond_true,Ci,hd,setT]
     by_cases ht:t < s.tmps.length
     ·rw [Zu ht,Zu (by omega)]
     ·rw [Aqj (by rw [Xr];omega),Aqj (by rw [Xr];omega)]
   ·rw [keep _ _ hd,keep _ _ hd];exact he
theorem A3j {L L':Nat->Bool} {id:Nat}:∀ (rs:List Rc) (i:Nat) (s s':St),(∀ j r,Hq rs j=some r->r.eff.touches id=true->L (i + j)=L' (i + j))->(∀ r ∈ rs,r.eff.domOk=true)->Dl s.m.heap id=Dl s'.m.heap id ->
  Dl (sAt L i rs s).m.heap id=Dl (sAt L' i rs s').m.heap id
 | [],i,s,s',h,hd,he=>he
 | r :: rs,i,s,s',h,hd,he=>by
  simp only [sAt];refine A3j rs (i + 1) _ _ (fun j r' hj ht=>?_) (fun r' hr'=>hd r' (List.mem_cons_of_mem _ hr')) ?_
  ·have:=h (j + 1) r' hj ht
   rw [show i + 1 + j=i + (j + 1) by omega]
   exact this
  ·have hdom:=hd r (List.mem_cons_self ..)
   obtain ⟨dst,out,rd,eff⟩:=r;simp only at hdom
   have keep:∀ (b:Bool) (x:St),eff.touches id=false->Dl (cond b (Ci x ⟨dst,out,rd,eff⟩) x).m.heap id=Dl x.m.heap id:=fun b x ht=>by
    cases b
    ·rfl
    ·simp only [cond_true,Ci]
     cases eff with
     | nop=>rfl
     | new i' hb =>
      simp only [Eff.touches] at ht;simp only [Ei,ht,cond_false]
     | bar fp lo m' =>
      simp only [Eff.touches] at ht;simp only [Pz,Ut];rw [Akh (q:=fun i=>Jl fp i || Nat.ble lo i) hdom ht]
      simp only [Bool.or_eq_false_iff] at ht;simp [ht.1]
   cases ht:eff.touches id with
   | false=>rw [keep _ _ ht,keep _ _ ht];exact he
   | true =>
    have h0:=h 0 _ rfl ht;rw [Nat.add_zero] at h0;rw [h0];cases L' i
    ·exact he
    ·simp only [cond_true,Ci]
     cases eff with
     | nop=>exact he
     | new i' hb=>simp only [Ei,he]
     | bar fp lo m'=>simp only [Pz,Ut,he]
theorem A3k {L L':Nat->Bool}:∀ (rs:List Rc) (i:Nat) (s s':St),(∀ j r,Hq rs j=some r->r.eff.isBar=true->L (i + j)=L' (i + j))->s.m.nx=s'.m.nx->s.m.lp=s'.m.lp ->
  (sAt L i rs s).m.nx=(sAt L' i rs s').m.nx/\(sAt L i rs s).m.lp=(sAt L' i rs s').m.lp
 | [],i,s,s',h,hn,hl=>⟨hn,hl⟩
 | r :: rs,i,s,s',h,hn,hl=>by
  simp only [sAt]
  have step:(cond (L i) (Ci s r) s).m.nx=(cond (L' i) (Ci s' r) s').m.nx/\(cond (L i) (Ci s r) s).m.lp=(cond (L' i) (Ci s' r) s').m.lp:=by
   obtain ⟨dst,out,rd,eff⟩:=r;cases eff with
   | nop=>cases L i <;> cases L' i <;> exact ⟨hn,hl⟩
   | new i' hb=>cases L i <;> cases L' i <;> exact ⟨hn,hl⟩
   | bar fp lo m' =>
    have h0:=h 0 _ rfl rfl;rw [Nat.add_zero] at h0;rw [h0];cases L' i
    ·exact ⟨hn,hl⟩
    ·exact ⟨rfl,rfl⟩
  refine A3k rs (i + 1) _ _ (fun j r' hj ht=>?_) step.1 step.2
  have:=h (j + 1) r' hj ht;rw [show i + 1 + j=i + (j + 1) by omega]
  exact this
def Afv (a b:Rc):Prop:=(∀ x,a.dst=some x->b.dst ≠ some x)/\effClash a.eff b.eff=false/\a.eff.domOk=true/\b.eff.domOk=true
theorem Atm {a b:Rc} (h:Afv a b) (s:St):StEq (Ci (Ci s a) b) (Ci (Ci s b) a):=by
 obtain ⟨h1,h2,h3,h4⟩:=h
 obtain ⟨d1,o1,r1,e1⟩:=a
 obtain ⟨d2,o2,r2,e2⟩:=b
 have tm:(Ci (Ci s ⟨d1,o1,r1,e1⟩) ⟨d2,o2,r2,e2⟩).tmps=(Ci (Ci s ⟨d2,o2,r2,e2⟩) ⟨d1,o1,r1,e1⟩).tmps:=Ay8 h1
 have nb:∀ (i:Nat) (hb:HB) (fp:List Nat) (lo:Nat) (m':Mem) (id:Nat),(Jl fp i || Nat.ble lo i)=false->(m'.heap.all fun p=>Jl fp p.1 || Nat.ble lo p.1)=true ->
   Dl (m'.heap ++ hrest ((i,hb) :: s.m.heap) fp) id=Dl ((i,hb) :: (m'.heap ++ hrest s.m.heap fp)) id:=fun i hb fp lo m' id hc hd=>by
  simp only [Pz,Ut,Ei];cases hi:Nat.beq i id with
  | true =>
   have:=(Ea i id).1 hi;subst this;rw [Akh (q:=fun i=>Jl fp i || Nat.ble lo i) hd hc]
   simp only [Bool.or_eq_false_iff] at hc;simp [hc.1]
  | false=>simp
 refine ⟨tm,rfl,fun id=>?_,?_,?_⟩
 ·cases e1 <;> cases e2 <;> simp only [Ci] <;> try rfl
  case new.new i hb j hb' =>
   have hne:¬ i=j:=fun e=>by rw [effClash,(Ea i j).2 e] at h2;cases h2
   simp only [Ei];cases hi:Nat.beq i id with
   | true =>
    have e1:=(Ea i id).1 hi;cases hj:Nat.beq j id with
    | true=>exact absurd (e1.trans ((Ea j id).1 hj).symm) hne
    | false=>rfl
   | false=>cases Nat.beq j id <;> rfl
  case new.bar i hb fp lo m'=>exact nb i hb fp lo m' id h2 h4
  case bar.new fp lo m' i hb=>exact (nb i hb fp lo m' id h2 h3).symm
  case bar.bar=>cases h2
 ·cases e1 <;> cases e2 <;> first | rfl | cases h2
 ·cases e1 <;> cases e2 <;> first | rfl | cases h2
theorem Fe {L:Nat->Bool} {r:Rc}:∀ (rs:List Rc) (i:Nat) (s:St),(∀ j r',Hq rs j=some r'->L (i + j)=true->Afv r r')->StEq (sAt L i rs (Ci s r)) (Ci (sAt L i rs s) r)
 | [],i,s,h=>StEq.refl _
 | r' :: rs,i,s,h=>by
  simp only [sAt];have hrest:∀ j r'',Hq rs j=some r''->L (i + 1 + j)=true->Afv r r'':=fun j r'' hj hL=>h (j + 1) r'' hj (by rw [show i + (j + 1)=i + 1 + j by omega];exact hL)
  cases hL:L i with
  | false=>exact Fe rs (i + 1) s hrest
  | true=>exact (Aki rs (i + 1) (Atm (h 0 r' rfl hL) s)).trans (Fe rs (i + 1) (Ci s r') hrest)
theorem A3l {L L':Nat->Bool} {j:Nat} {r:Rc}:∀ (rs:List Rc) (i:Nat) (s:St),Hq rs j=some r->L (i + j)=false->L' (i + j)=true->(∀ x,x ≠ i + j->L' x=L x) ->
  (∀ x r',j < x->Hq rs x=some r'->L (i + x)=true->Afv r r')->StEq (sAt L' i rs s) (Ci (sAt L i rs s) r)
 | [],i,s,hr,_,_,_,_=>by cases j <;> cases hr
 | r' :: rs,i,s,hr,h1,h2,h3,h4=>by
  simp only [sAt];cases j with
  | zero =>
   simp only [Hq,Option.some.injEq] at hr;subst hr;rw [Nat.add_zero] at h1 h2;rw [h1,h2];simp only [cond_true,cond_false];rw [Amh (L:=L') (L':=L) rs (i + 1) _ (fun x hx=>h3 x (by omega))]
   exact Fe rs (i + 1) s (fun x r'' hx hL=>h4 (x + 1) r'' (by omega) hx (by rw [show i + (x + 1)=i + 1 + x by omega];exact hL))
  | succ j =>
   rw [h3 i (by omega)]
   refine A3l rs (i + 1) _ hr ?_ ?_ (fun x hx=>h3 x (by omega)) (fun x r'' hx hg hL=>h4 (x + 1) r'' (by omega) hg ?_)
   ·rw [show i + 1 + j=i + (j + 1) by omega];exact h1
   ·rw [show i + 1 + j=i + (j + 1) by omega];exact h2
   ·rw [show i + (x + 1)=i + 1 + x by omega];exact hL
end
end Go.Bas
end
section
namespace Go.Bas
open Go.RowKit
section
variable {C:Cfg} {w w':World} {B oC oL oC' oL':Nat->Prop} {ω ω':Nat->Option Nat} {nx nx' nx0:Nat}
theorem Rep.other {B B' own own':Nat->Prop} {v:AV} {u:Value} (h:Rep w B own ω nx v u) (ho:∀ b,¬ own b->¬ B b->¬ own' b/\¬ B' b):Rep w B' own' ω nx v u :=
 h.mono (Nat.le_refl _) (fun b _ h1 h2=>⟨rfl,ho b h1 h2⟩) (fun _ _ h1 h2=>⟨h1,h2⟩) (fun _ _ h=>h)
theorem RepL.other {B B' own own':Nat->Prop} {cs:List AV} {us:Array Value} (h:RepL w B own ω nx cs us) (ho:∀ b,¬ own b->¬ B b->¬ own' b/\¬ B' b):RepL w B' own' ω nx cs us :=
 ⟨h.1,fun i hi=>(h.2 i hi).other ho⟩
theorem Rep.cond_other {B B' own own':Nat->Prop} {p:Bool} {v:AV} {u:Value} (h:Rep w B own ω (cond p 0 nx) v u) (ho:∀ b,¬ own b->¬ B b->¬ own' b/\¬ B' b):Rep w B' own' ω (cond p 0 nx) v u:=Rep.other h ho
def Vm (ω:Nat->Option Nat) (h:Heap):Nat->Prop:=fun b=>∃ id,(Dl h id).isSome=true/\ω id=some b
def P5 (oC:Nat->Prop) (ω:Nat->Option Nat) (h:Heap):Nat->Prop:=fun b=>oC b/\¬ Vm ω h b
theorem Agy {m:Mem} (M:MemSim C w B oC oL ω m) {hp:Heap} (hs:∀ id x,Dl hp id=some x->Dl m.heap id=some x):∀ b,Vm ω hp b->oC b:=fun b hb=>by
 obtain ⟨id,h1,h2⟩:=hb
 obtain ⟨x,hx⟩:=Option.isSome_iff_exists.1 h1
 obtain ⟨_,b',arr,h3,h4,_⟩:=M.hp.rel id x (hs id x hx)
 rw [h2] at h3;cases h3;exact h4
theorem LbIs.other {B B' own own':Nat->Prop} {l:Nat} {e:LB} (h:LbIs w B own ω nx l e) (ho:∀ b,¬ own b->¬ B b->¬ own' b/\¬ B' b):LbIs w B' own' ω nx l e:=by
 cases e with
 | dfb=>exact h
 | lop s pend tmps params assign body d =>
  obtain ⟨r,h1,h2,h3,h4,h5,h6⟩:=h;exact ⟨r,h1,h2,h3,h4,h5.other ho,h6⟩
theorem MemSim.pick {m:Mem} (M:MemSim C w B oC oL ω m) {hp:Heap} (hs:∀ id x,Dl hp id=some x->Dl m.heap id=some x) :
  MemSim C w (Or2 B (P5 oC ω hp)) (Vm ω hp) oL ω ⟨hp,m.nx,m.lp⟩:=by
 have hsub:=Agy M hs
 have ho:∀ b,¬ oC b->¬ Or2 B oL b->¬ Vm ω hp b/\¬ Or2 (Or2 B (P5 oC ω hp)) oL b:=fun b h1 h2=>⟨fun h=>h1 (hsub b h),fun h=>h.elim (fun h=>h.elim (fun h=>h2 (.inl h)) (fun h=>h1 h.1)) (fun h=>h2 (.inr h))⟩
 refine ⟨⟨fun id x hx=>?_,fun i j b hi hj=>?_,fun b hb=>M.hp.ob b (hsub b hb)⟩,⟨fun id e he=>?_,M.lp.inj,fun l hl=>⟨(M.lp.dis l hl).1,fun h=>(M.lp.dis l hl).2 (hsub l h)⟩⟩,M.gl,fun g cells h=>?_,fun b hb=>?_⟩
 ·obtain ⟨h1,b,arr,h2,h3,h4,h5,h6⟩:=M.hp.rel id x (hs id x hx)
  exact ⟨h1,b,arr,h2,⟨id,by rw [hx];rfl,h2⟩,h4,h5,fun i hi=>Rep.cond_other (h6 i hi) ho⟩
 ·obtain ⟨x,hx⟩:=Option.isSome_iff_exists.1 hi
  obtain ⟨y,hy⟩:=Option.isSome_iff_exists.1 hj;exact M.hp.inj i j b (by rw [hs i x hx];rfl) (by rw [hs j y hy];rfl)
 ·obtain ⟨h1,l,h2,h3,h4⟩:=M.lp.rel id e he
  exact ⟨h1,l,h2,h3,h4.other ho⟩
 ·obtain ⟨h1,h2,h3⟩:=M.gb g cells h
  exact ⟨fun hh=>h1 (hsub g hh),h2,fun hh=>hh.elim h3 (fun hh=>h1 hh.1)⟩
 ·rcases hb with hb | hb
  ·exact M.bl b hb
  ·exact M.hp.ob b hb.1
theorem Agz {m:Mem} (M:MemSim C w B oC oL ω m) {hp:Heap} (hs:∀ id x,Dl hp id=some x->Dl m.heap id=some x) {v:AV} {u:Value} (h:Rep w (Or2 B oL) oC ω nx v u):Rep w (Or2 (Or2 B (P5 oC ω hp)) oL) (Vm ω hp) ω nx v u :=
 h.other fun b h1 h2=>⟨fun hh=>h1 (Agy M hs b hh),fun hh=>hh.elim (fun hh=>hh.elim (fun hh=>h2 (.inl hh)) (fun hh=>h1 hh.1)) (fun hh=>h2 (.inr hh))⟩
theorem MemSim.merge {m m1:Mem} (M:MemSim C w B oC oL ω m) {hp:Heap} {fp:List Nat} (hs:∀ id x,Dl hp id=some x->Dl m.heap id=some x) (hin:∀ id x,Dl hp id=some x->Jl fp id=true) {oC1 oL1:Nat->Prop} {ω1:Nat->Option Nat}
  (E:ExtR w (Vm ω hp) oL ω m.nx w' oC1 oL1 ω1 m1.nx) (M1:MemSim C w' (Or2 B (P5 oC ω hp)) oC1 oL1 ω1 m1) :
  MemSim C w' B (Or2 oC1 (P5 oC ω hp)) oL1 ω1 ⟨m1.heap ++ hrest m.heap fp,m1.nx,m1.lp⟩/\ExtR w oC oL ω m.nx w' (Or2 oC1 (P5 oC ω hp)) oL1 ω1 m1.nx /\
  (∀ v u n,Rep w' (Or2 (Or2 B (P5 oC ω hp)) oL1) oC1 ω1 n v u->Rep w' (Or2 B oL1) (Or2 oC1 (P5 oC ω hp)) ω1 n v u)/\(∀ v u,Rep w (Or2 B oL) oC ω m.nx v u->Rep w' (Or2 B oL1) (Or2 oC1 (P5 oC ω hp)) ω1 m1.nx v u):=by
 have hsub:=Agy M hs
 have ho1:∀ b,¬ oC1 b->¬ Or2 (Or2 B (P5 oC ω hp)) oL1 b->¬ Or2 oC1 (P5 oC ω hp) b/\¬ Or2 B oL1 b:=fun b h1 h2=>⟨fun h=>h.elim h1 (fun h=>h2 (.inl (.inr h))),fun h=>h.elim (fun h=>h2 (.inl (.inl h))) (fun h=>h2 (.inr h))⟩
 have hbut:∀ b,P5 oC ω hp b->w'.heap[b]?=w.heap[b]?:=fun b hb=>E.old b (M.hp.ob b hb.1) (fun h=>h.elim hb.2 (fun h=>(M.lp.dis b h).2 hb.1))
 have hnew:∀ b,b < w.heap.size->¬ oC b->¬ oL b->¬ oC1 b/\¬ oL1 b:=fun b hb h1 h2=>by
  have key:∀ x,Or2 oC1 oL1 x->x < w.heap.size->Or2 (Vm ω hp) oL x:=fun x hx hlt=>(E.owns x hx).elim (fun h=>h) (fun h=>by omega)
  exact ⟨fun h=>(key b (.inl h) hb).elim (fun h=>h1 (hsub b h)) h2,fun h=>(key b (.inr h) hb).elim (fun h=>h1 (hsub b h)) h2⟩
 have rep:∀ n n' v u,n<=m.nx->n<=n'->Rep w (Or2 B oL) oC ω n v u->Rep w' (Or2 B oL1) (Or2 oC1 (P5 oC ω hp)) ω1 n' v u:=fun n n' v u hn hn' h =>
  h.mono E.size (fun b hb h1 h2=>by
   have hl:¬ oL b:=fun h=>h2 (.inr h)
   obtain ⟨g1,g2⟩:=hnew b hb h1 hl;exact ⟨E.old b hb (fun h=>h.elim (fun h=>h1 (hsub b h)) hl),fun h=>h.elim g1 (fun h=>h1 h.1),fun h=>h.elim (fun h=>h2 (.inl h)) g2⟩)
   (fun id b hi hb=>⟨by omega,(E.om id (by omega)).trans hb⟩) E.row
 have hrestE:∀ id x,Dl (hrest m.heap fp) id=some x->∃ b arr,id < m.nx/\ω id=some b/\P5 oC ω hp b/\w.heap[b]?=some (.cells arr x.elem (0,0))/\x.cells.length<=arr.size/\(∀ i (hi:i < x.cells.length),Rep w (Or2 B oL) oC ω (cond x.pure 0 m.nx) x.cells[i] (arr.getD i undef))/\Dl m.heap id=some x:=fun id x hx=>by
  rw [Ut] at hx;cases hm:Jl fp id with
  | true=>rw [hm] at hx;cases hx
  | false =>
   rw [hm] at hx;simp only [cond_false] at hx;obtain ⟨h1,b,arr,h2,h3,h4,h5,h6⟩:=M.hp.rel id x hx;refine ⟨b,arr,h1,h2,⟨h3,fun hh=>?_⟩,h4,h5,h6,hx⟩
   obtain ⟨id',g1,g2⟩:=hh;obtain ⟨y,hy⟩:=Option.isSome_iff_exists.1 g1;have:=M.hp.inj id' id b (by rw [hs id' y hy];rfl) (by rw [hx];rfl) g2 h2
   subst this;rw [hin id' y hy] at hm;cases hm
 have hno:∀ b,P5 oC ω hp b->¬ Or2 oC1 oL1 b:=fun b hb h=>by
  rcases E.owns b h with h | h
  ·exact h.elim hb.2 (fun h=>(M.lp.dis b h).2 hb.1)
  ·have:=M.hp.ob b hb.1;omega
 have parts:∀ id x,Dl (m1.heap ++ hrest m.heap fp) id=some x->Dl m1.heap id=some x\/Dl (hrest m.heap fp) id=some x:=fun id x hx=>by
  rw [Pz] at hx;cases h1:Dl m1.heap id with
  | none=>rw [h1] at hx;exact .inr hx
  | some y=>rw [h1] at hx;exact .inl hx
 refine ⟨⟨⟨fun id x hx=>?_,fun i j b hi hj h1 h2=>?_,fun b hb=>?_⟩,⟨fun id e he=>?_,M1.lp.inj,fun l hl=>?_⟩,M1.gl,fun g cells h=>?_,fun b hb=>Nat.lt_of_lt_of_le (M.bl b hb) E.size⟩,?_,fun v u n h=>h.other ho1,fun v u h=>rep _ _ v u (Nat.le_refl _) E.nxle h⟩
 ·rcases parts id x hx with hx | hx
  ·obtain ⟨h1,b,arr,h2,h3,h4,h5,h6⟩:=M1.hp.rel id x hx
   exact ⟨h1,b,arr,h2,.inl h3,h4,h5,fun i hi=>Rep.cond_other (h6 i hi) ho1⟩
  ·obtain ⟨b,arr,h1,h2,h3,h4,h5,h6,_⟩:=hrestE id x hx
   refine ⟨Nat.lt_of_lt_of_le h1 E.nxle,b,arr,(E.om id h1).trans h2,.inr h3,(hbut b h3).trans h4,h5,fun i hi=>?_⟩
   have:=h6 i hi;cases hp':x.pure with
   | true=>rw [hp'] at this;exact rep 0 0 _ _ (Nat.zero_le _) (Nat.le_refl _) this
   | false=>rw [hp'] at this;exact rep m.nx m1.nx _ _ (Nat.le_refl _) E.nxle this
 ·obtain ⟨x,hx⟩:=Option.isSome_iff_exists.1 hi
  obtain ⟨y,hy⟩:=Option.isSome_iff_exists.1 hj
  rcases parts i x hx with hx | hx <;> rcases parts j y hy with hy | hy
  ·exact M1.hp.inj i j b (by rw [hx];rfl) (by rw [hy];rfl) h1 h2
  ·obtain ⟨_,b1,arr1,g2,g3,_⟩:=M1.hp.rel i x hx
   obtain ⟨b2,arr2,k1,k2,k3,_⟩:=hrestE j y hy;rw [h1] at g2;cases g2;rw [E.om j k1,k2] at h2;cases h2;exact absurd (.inl g3) (hno _ k3)
  ·obtain ⟨_,b1,arr1,g2,g3,_⟩:=M1.hp.rel j y hy
   obtain ⟨b2,arr2,k1,k2,k3,_⟩:=hrestE i x hx;rw [h2] at g2;cases g2;rw [E.om i k1,k2] at h1;cases h1;exact absurd (.inl g3) (hno _ k3)
  ·obtain ⟨b1,arr1,g1,g2,g3,_,_,_,g7⟩:=hrestE i x hx
   obtain ⟨b2,arr2,k1,k2,k3,_,_,_,k7⟩:=hrestE j y hy;rw [E.om i g1] at h1;rw [E.om j k1] at h2;exact M.hp.inj i j b (by rw [g7];rfl) (by rw [k7];rfl) h1 h2
 ·rcases hb with hb | hb
  ·exact M1.hp.ob b hb
  ·exact Nat.lt_of_lt_of_le (M.hp.ob b hb.1) E.size
 ·obtain ⟨h1,l,h2,h3,h4⟩:=M1.lp.rel id e he
  exact ⟨h1,l,h2,h3,h4.other ho1⟩
 ·exact ⟨(M1.lp.dis l hl).1,fun h=>h.elim (M1.lp.dis l hl).2 (fun h=>hno l h (.inr hl))⟩
 ·obtain ⟨h1,h2,h3⟩:=M1.gb g cells h
  exact ⟨fun hh=>hh.elim h1 (fun hh=>h3 (.inr hh)),h2,fun hh=>h3 (.inl hh)⟩
 ·refine ⟨E.os,E.tape,E.output,E.size,fun b hb hn=>E.old b hb (fun h=>hn (h.elim (fun h=>.inl (hsub b h)) .inr)),fun b hb=>?_,E.nxle,E.om,E.row⟩
  rcases hb with (hb | hb) | hb
  ·exact (E.owns b (.inl hb)).elim (fun h=>.inl (h.elim (fun h=>.inl (hsub b h)) .inr)) .inr
  ·exact .inl (.inl hb.1)
  ·exact (E.owns b (.inr hb)).elim (fun h=>.inl (h.elim (fun h=>.inl (hsub b h)) .inr)) .inr
end
end Go.Bas
end
section
namespace Go.Bas
open Go.RowKit
def Still (w w':World):Prop:=Ext w (fun _=>False) (fun _=>none) 0 w' (fun _=>False) (fun _=>none) 0
def ACalls (P:Program) (G:Nat->Option (List AV)) (f:FuncId) (args:List AV) (R:AV->Prop):Prop :=
 ∀ (w:World) (us:Array Value) (bad:Nat->Prop),GOk G w->(∀ g cells,G g=some cells->¬ bad g)->(∀ b,bad b->b < w.heap.size)->RepL w bad (fun _=>False) (fun _=>none) 0 args us->Calls P f us w fun e w' =>
  ∃ v u,e=.returned u/\R v/\Still w w'/\Rep w' bad (fun _=>False) (fun _=>none) 0 v u
def InpOk (C:Cfg) (f:FuncId) (F:List AV->Mem->TrM):Prop:=∀ args m (kk:AV->Mem->Bool) (w:World) (B oC oL:Nat->Prop) (ω:Nat->Option Nat) (us:Array Value),(F args m).ev kk false=true->MemSim C w B oC oL ω m->RepL w (Or2 B oL) oC ω m.nx args us ->
 (callFunc f us).run C.P w=.ok (.enter f us) w/\CallsIn (Fr none) 0 C.P f us w (CallEnd C w B oC oL ω m.nx kk (fun _ _=>false))
structure Cfg.Ok (C:Cfg):Prop where
 sums:∀ f F,C.S f=some F->∀ args r,F args=some (true,r)->ACalls C.P C.G f args (fun v=>v=r)
 mixed:C.P.follows .mixedOrders=true
 names:∀ (f:FuncId) (fn:Func),C.P.funcs[f]?=some fn->(fn.name == "runtime.NumGoroutine")=false
 inpl:∀ f F,C.X f=some F->InpOk C f F
theorem MemSim.cfg {C C':Cfg} (hG:C'.G=C.G) {w:World} {B oC oL:Nat->Prop} {ω:Nat->Option Nat} {m:Mem} (M:MemSim C w B oC oL ω m):MemSim C' w B oC oL ω m :=
 ⟨M.hp,M.lp,hG ▸ M.gl,hG ▸ M.gb,M.bl⟩
theorem CallEnd.cfg {C C':Cfg} (hG:C'.G=C.G) {w:World} {B oC oL:Nat->Prop} {ω:Nat->Option Nat} {nx:Nat} {kk kp:AV->Mem->Bool} {e:Ending} {w':World} (h:CallEnd C w B oC oL ω nx kk kp e w'):CallEnd C' w B oC oL ω nx kk kp e w':=by
 rcases h with ⟨v,u,m',oC',oL',ω',h1,h2,h3,h4,h5⟩ | ⟨v,u,m',oC',oL',ω',h1,h2,h3,h4,h5⟩
 ·exact .inl ⟨v,u,m',oC',oL',ω',h1,h2,h3,h4.cfg hG,h5⟩
 ·exact .inr ⟨v,u,m',oC',oL',ω',h1,h2,h3,h4.cfg hG,h5⟩
theorem InpOk.cfg {C C':Cfg} (hP:C'.P=C.P) (hG:C'.G=C.G) {f:FuncId} {F:List AV->Mem->TrM} (h:InpOk C f F):InpOk C' f F:=fun args m kk w B oC oL ω us hk M hr=>by
 obtain ⟨h1,h2⟩:=h args m kk w B oC oL ω us hk (M.cfg hG.symm) hr
 rw [hP]
 exact ⟨h1,h2.mono fun e w' he=>he.cfg hG⟩
theorem Still.drew (w:World):Still w { w with drawn:=w.drawn + 1 }:=⟨rfl,rfl,rfl,Nat.le_refl _,fun _ _ _=>rfl,fun _ h=>.inl h,Nat.le_refl _,fun _ _=>rfl,fun _ _ h=>h⟩
theorem Still.ext {w w':World} (E:Still w w') {own:Nat->Prop} {ω:Nat->Option Nat} {nx:Nat}:Ext w own ω nx w' own ω nx :=
 ⟨E.os,E.tape,E.output,E.size,fun b hb _=>E.old b hb (fun h=>h),fun _ h=>.inl h,Nat.le_refl _,fun _ _=>rfl,E.row⟩
section
variable {C:Cfg} {w:World} {B:Nat->Prop} {own:Nat->Prop} {ω:Nat->Option Nat}
theorem MemSim.still {w':World} {oC oL:Nat->Prop} {m:Mem} (M:MemSim C w B oC oL ω m) (E:Still w w'):MemSim C w' B oC oL ω m :=
 M.op (nx':=m.nx) (h':=m.heap) E.ext ⟨fun id hb h=>by
  obtain ⟨h1,b,arr,h2,h3,h4,h5,h6⟩:=M.hp.rel id hb h;exact ⟨h1,b,arr,h2,h3,(E.old b (M.hp.ob b h3) (fun h=>h)).trans h4,h5,fun i hi=>N8 (h6 i hi) E.ext⟩,M.hp.inj,fun b hb=>Nat.lt_of_lt_of_le (M.hp.ob b hb) E.size⟩
theorem Qx {f:AV->(AV->Bool)->Bool->Bool} {Rl Rl':AV->Value->Prop} (hf:∀ v k,f v k false=true->∃ v',k v'=true/\∀ u,Rl v u->Rl' v' u):∀ (cs:List AV) (k:List AV->Bool),Kw f cs k false=true ->
  ∃ cs',k cs'=true/\cs'.length=cs.length/\∀ (j:Nat) (a' a:AV) (u:Value),cs'[j]?=some a'->cs[j]?=some a->Rl a u->Rl' a' u
 | [],k,hk=>⟨[],hk,rfl,fun j a' a u h=>by simp at h⟩
 | v :: r,k,hk=>by
  obtain ⟨v',h1,h2⟩:=hf v _ hk;obtain ⟨r',h3,h4,h5⟩:=Qx hf r _ h1;refine ⟨v' :: r',h3,by simp [h4],fun j a' a u ha' ha hr=>?_⟩
  cases j with
  | zero=>simp at ha' ha;subst ha' ha;exact h2 u hr
  | succ j=>exact h5 j a' a u (by simpa using ha') (by simpa using ha) hr
theorem Si {w':World} {B':Nat->Prop} {own':Nat->Prop} {ω':Nat->Option Nat} {nx nx':Nat} {cs cs':List AV} {vs:Array Value} (h1:cs.length=vs.size) (h2:∀ i (h:i < cs.length),Rep w B own ω nx cs[i] (vs.getD i undef)) (hl:cs'.length=cs.length)
  (hr:∀ (j:Nat) (a' a:AV) (u:Value),cs'[j]?=some a'->cs[j]?=some a->Rep w B own ω nx a u->Rep w' B' own' ω' nx' a' u):cs'.length=vs.size/\∀ i (h:i < cs'.length),Rep w' B' own' ω' nx' cs'[i] (vs.getD i undef) :=
 ⟨by omega,fun i hi=>hr i _ _ _ (List.getElem?_eq_getElem hi) (List.getElem?_eq_getElem (by omega)) (h2 i (by omega))⟩
theorem Rep.plain0 {v:AV} {u:Value} (h:Rep w B own ω 0 v u):Rep w (fun _=>False) (fun _=>False) (fun _=>none) 0 v u :=
 h.mono (Nat.le_refl _) (fun _ _ _ _=>⟨rfl,fun h=>h,fun h=>h⟩) (fun id b hi=>absurd hi (Nat.not_lt_zero _)) (fun _ _ h=>h)
theorem Aao {nx:Nat} {h:Heap} (H:Hp w B own ω nx h) {id b:Nat} {hb:HB} (hid:Dl h id=some hb) (hp:hb.pure=true) (hω:ω id=some b) :
  b < w.heap.size/\∃ vs:Nat->Value,(∀ i,i < hb.cells.length->w.cell? ⟨b,i,none⟩=some (vs i))/\∀ i (hi:i < hb.cells.length),Rep w B own ω 0 hb.cells[i] (vs i):=by
 obtain ⟨arr,h3,h4,h5,h6⟩:=H.there hid hω
 refine ⟨H.ob b h3,fun i=>arr.getD i undef,fun i hi=>?_,fun i hi=>?_⟩
 ·have hi':i < arr.size:=by omega
  simp [World.cell?,h4,hi']
 ·have:=h6 i hi
  rw [hp] at this;exact this
theorem Aef {nx:Nat} {h:Heap} (H:Hp w B own ω nx h):∀ (d:Nat) (v:AV) (k:AV->Bool),Ua h d v k false=true->∃ v',k v'=true/\∀ u,Rep w B own ω nx v u->Rep w (fun _=>False) (fun _=>False) (fun _=>none) 0 v' u
 | 0,_,_,hk=>by cases hk
 | d + 1,v,k,hk=>by
  have ih:=Aef H d;have lists:∀ (cs:List AV) (k:List AV->Bool),Kw (Ua h d) cs k false=true->_:=fun cs k=>Qx (Rl:=fun v u=>Rep w B own ω nx v u) (Rl':=fun v u=>Rep w (fun _=>False) (fun _=>False) (fun _=>none) 0 v u) ih cs k
  cases v <;> simp only [Ua] at hk
  case any=>exact ⟨_,hk,fun u hr=>.any _ _⟩
  case bool=>exact ⟨_,hk,fun u hr=>by cases hr;exact .bool _ _⟩
  case int=>exact ⟨_,hk,fun u hr=>by cases hr;exact .int _ _ _⟩
  case str=>exact ⟨_,hk,fun u hr=>by cases hr;exact .str _ _⟩
  case nilp=>exact ⟨_,hk,fun u hr=>by cases hr;exact .nilp _⟩
  case nils=>exact ⟨_,hk,fun u hr=>by cases hr;exact .nils _⟩
  case nilfn=>exact ⟨_,hk,fun u hr=>by cases hr;exact .nilfn _⟩
  case niliface=>exact ⟨_,hk,fun u hr=>by cases hr;exact .niliface _⟩
  case ptr id off =>
   split at hk
   ·rename_i hb hid
    replace hk:=Bo hk;obtain ⟨hp,hk⟩:=hk
    refine ⟨_,hk,fun u hr=>?_⟩
    cases hr with
    | ptr _ _ _ b g1 g2 =>
     obtain ⟨q1,vs,q2,q3⟩:=Aao H hid hp g2;have:=Rep.iptr (w:=w) (B:=fun _=>False) (own:=fun _=>False) (ω:=fun _=>none) 0 hb.cells off b 0 vs (fun _=>⟨q1,fun h=>h,fun h=>h⟩) (fun i hi=>by rw [Nat.zero_add];exact q2 i hi) (fun i hi=>(q3 i hi).plain0)
     rwa [Nat.zero_add] at this
   ·cases hk
  case iptr cells off =>
   refine ⟨_,hk,fun u hr=>?_⟩
   cases hr with
   | iptr _ _ _ b o vs g1 g2 g3=>exact .iptr _ _ _ b o vs (fun hne=>⟨(g1 hne).1,fun h=>h,fun h=>h⟩) g2 (fun i hi=>(g3 i hi).plain0)
  case yld=>cases hk
  case es=>exact ⟨_,hk,fun u hr=>by cases hr;exact .es _ _⟩
  case ns=>exact ⟨_,hk,fun u hr=>by cases hr;exact .ns _ _ _⟩
  case lst c n =>
   refine ⟨_,hk,fun u hr=>?_⟩
   cases hr with
   | lst _ _ _ cap b o vs g1 g2 g3 g4=>exact .lst _ _ _ _ b o vs (fun hne=>⟨(g1 hne).1,fun h=>h,fun h=>h⟩) g2 g3 (fun i hi=>(g4 i hi).plain0)
   | lstn=>exact .lstn _ _ _
  case sl id off n sz app =>
   split at hk
   ·rename_i hb hid
    replace hk:=Bo hk;obtain ⟨hc,hk⟩:=hk
    obtain ⟨hp,hle⟩:=En hc
    replace hle:=I8 hle
    refine ⟨_,hk,fun u hr=>?_⟩
    have key:∀ b cap,ω id=some b->n<=cap->Rep w (fun _=>False) (fun _=>False) (fun _=>none) 0 (.lst ((hb.cells.drop off).take (n * sz)) n) (.slice (some ⟨b,off,none⟩) n cap):=fun b cap hω hn=>by
     obtain ⟨q1,vs,q2,q3⟩:=Aao H hid hp hω
     have:=Abg (w:=w) (B:=fun _=>False) (own:=fun _=>False) (ω:=fun _=>none) (nx:=0) (cells:=hb.cells) (cap:=cap) (b:=b) (o:=0) (d:=off) (m:=n) (vs:=vs) (fun _=>⟨q1,fun h=>h,fun h=>h⟩) hn
      (fun i hi=>by rw [Nat.zero_add];exact q2 i hi) (fun i hi=>(q3 i hi).plain0) (n * sz)
     rwa [Nat.zero_add] at this
    cases hr with
    | sl _ _ _ _ _ cap b g1 g2 g3=>exact key b cap g2 g3
    | sla _ _ _ _ cap b g1 g2 g3 g4 g5=>exact key b cap g2 g3
   ·cases hk
  case fn f a b =>
   obtain ⟨a',h1,h2,h3⟩:=lists a _ hk;obtain ⟨b',h4,h5,h6⟩:=lists b _ h1;refine ⟨_,h4,fun u hr=>?_⟩
   cases hr with
   | fn _ _ _ _ fs cs g1 g2 g3 g4 =>
    obtain ⟨e1,e2⟩:=Si g1 g3 h2 h3;obtain ⟨e3,e4⟩:=Si g2 g4 h5 h6;exact .fn _ _ _ _ _ _ e1 e3 e2 e4
  case iface t v =>
   obtain ⟨v',h1,h2⟩:=ih v _ hk;refine ⟨_,h1,fun u hr=>?_⟩
   cases hr with
   | iface _ _ _ _ g=>exact .iface _ _ _ _ (h2 _ g)
  case agg cs =>
   obtain ⟨cs',h1,h2,h3⟩:=lists cs _ hk;refine ⟨_,h1,fun u hr=>?_⟩
   cases hr with
   | agg _ _ vs g1 g2=>obtain ⟨e1,e2⟩:=Si g1 g2 h2 h3;exact .agg _ _ _ e1 e2
  case tup cs =>
   obtain ⟨cs',h1,h2,h3⟩:=lists cs _ hk;refine ⟨_,h1,fun u hr=>?_⟩
   cases hr with
   | tup _ _ vs g1 g2=>obtain ⟨e1,e2⟩:=Si g1 g2 h2 h3;exact .tup _ _ _ e1 e2
def Amj (tmps:Array Value) (rv:ResultVar):Sem Value :=
 match rv with
 | .tmp t=>pure (tmps.getD t undef)
 | .cell a t=>do loadVar t (<- asAddr (tmps.getD a undef))
theorem Atn (fn:Func) (tmps:Array Value):results fn tmps=(do let vs <- fn.results.mapM (Amj tmps);pure (if h:vs.size=1 then vs[0] else .tuple vs)):=rfl
theorem Aql {oL:Nat->Prop} {st:St} {a:Act} (S:Sim C w B own oL ω st a) {rv:ResultVar} {k:AV->Bool} (hk:Abm C st rv k false=true) :
  Gt C.P w (Or2 B oL) own ω st.m.nx (Amj a.tmps rv) k:=by
 cases rv with
 | tmp t =>
  have:=S.ev (.tmp t);exact ⟨_,_,fun _ _=>rfl,this,hk⟩
 | cell x t =>
  simp only [Abm] at hk;have hev:=S.ev (.tmp x);simp only [evO,Act.eval] at hev;split at hk
  ·rename_i id off hx
   rw [hx] at hev;split at hk
   ·rename_i hb hid
    generalize hy:a.tmps.getD x undef=y at hev;cases hev with
    | ptr _ _ _ b g1 g2 =>
     obtain ⟨v,u,r1,r2,r3⟩:=Xe (S.ms.hp.lies hid g2) hk;rw [Nat.zero_add] at r1;refine ⟨v,u,fun w' hw=>?_,r2,r3⟩
     unfold Amj;simp only [hy,asAddr,Sem.run_bind,Sem.run_pure,Result.andThen_ok];exact r1 w' hw
   ·cases hk
  ·cases hk
theorem Aeg {oL:Nat->Prop} {st:St} {a:Act} (S:Sim C w B own oL ω st a):∀ (rs:List ResultVar) (k:List AV->Bool),Abn C st rs k false=true ->
  ∃ vs us,(rs.mapM (Amj a.tmps)).run C.P w=.ok us w/\vs.length=us.length/\(∀ (j:Nat) (v:AV) (u:Value),vs[j]?=some v->us[j]?=some u->Rep w (Or2 B oL) own ω st.m.nx v u)/\k vs=true
 | [],k,hk=>⟨[],[],by simp [Sem.run],rfl,fun j v u h=>by simp at h,hk⟩
 | r :: rs,k,hk=>by
  obtain ⟨v,u,r1,r2,r3⟩:=Aql S hk;obtain ⟨vs,us,h1,h2,h3,h4⟩:=Aeg S rs _ r3;refine ⟨v :: vs,u :: us,?_,by simp [h2],fun j x y hx hy=>?_,h4⟩
  ·simp only [List.mapM_cons,Sem.run_bind,r1 w (Same.refl w),Result.andThen_ok,h1,Sem.run_pure]
  ·cases j with
   | zero=>simp at hx hy;subst hx hy;exact r2
   | succ j=>exact h3 j x y (by simpa using hx) (by simpa using hy)
theorem Ato {oL:Nat->Prop} {st:St} {a:Act} {fn:Func} (S:Sim C w B own oL ω st a) {k:AV->Bool} (hk:Uo C fn st k false=true):∃ v u,(results fn a.tmps).run C.P w=.ok u w/\Rep w (Or2 B oL) own ω st.m.nx v u/\k v=true:=by
 obtain ⟨vs,us,h1,h2,h3,h4⟩:=Aeg S _ _ hk
 have hrun:(results fn a.tmps).run C.P w=.ok (if h:us.toArray.size=1 then us.toArray[0] else .tuple us.toArray) w:=by
  rw [Atn,Array.mapM_eq_mapM_toList];simp only [map_eq_pure_bind,bind_assoc,pure_bind,Sem.run_bind,h1,Result.andThen_ok,Sem.run_pure]
 refine ⟨_,_,hrun,?_,h4⟩
 by_cases hl:us.length=1
 ·obtain ⟨u,rfl⟩:=List.length_eq_one_iff.1 hl
  obtain ⟨v,rfl⟩:=List.length_eq_one_iff.1 (h2.trans hl);exact h3 0 v u rfl rfl
 ·have e:A3c vs=.tup vs:=by
   unfold A3c;split
   ·rename_i v;simp at h2;omega
   ·rfl
  rw [e];simp only [List.size_toArray,hl,dite_false];have:=Qw (w:=w) (B:=Or2 B oL) (own:=own) (ω:=ω) (nx:=st.m.nx) (cells:=vs) (arr:=us.toArray) (by simpa using h2) (fun j a x ha hx=>h3 j a x ha (by simpa using hx))
  exact .tup _ _ _ this.1 this.2
theorem Rep.noMem {B:Nat->Prop} {w:World} {own:Nat->Prop} {ω:Nat->Option Nat} {nx:Nat} {v:AV} {u:Value} (h:Rep w B own ω nx v u):∀ {d:Nat},v.noMem d=true->∀ w' B' own' ω' nx',Rep w' B' own' ω' nx' v u:=by
 induction h with
 | any=>intro _ _ _ _ _ _ _;exact .any _ _
 | bool=>intro _ _ _ _ _ _ _;exact .bool _ _
 | int=>intro _ _ _ _ _ _ _;exact .int _ _ _
 | str=>intro _ _ _ _ _ _ _;exact .str _ _
 | nilp=>intro _ _ _ _ _ _ _;exact .nilp _
 | ptr=>intro d hd;cases d <;> simp [AV.noMem] at hd
 | iptr=>intro d hd;cases d <;> simp [AV.noMem] at hd
 | nils=>intro _ _ _ _ _ _ _;exact .nils _
 | es=>intro _ _ _ _ _ _ _;exact .es _ _
 | ns=>intro _ _ _ _ _ _ _;exact .ns _ _ _
 | lst=>intro d hd;cases d <;> simp [AV.noMem] at hd
 | lstn=>intro d hd;cases d <;> simp [AV.noMem] at hd
 | sl=>intro d hd;cases d <;> simp [AV.noMem] at hd
 | sla=>intro d hd;cases d <;> simp [AV.noMem] at hd
 | yld=>intro d hd;cases d <;> simp [AV.noMem] at hd
 | fn nx f first cap fs cs h1 h2 _ _ ih1 ih2 =>
  intro d hd w' B' own' ω' nx';cases d with
  | zero=>simp [AV.noMem] at hd
  | succ d =>
   simp only [AV.noMem,Bae,List.all_eq_true] at hd;exact .fn _ _ _ _ _ _ h1 h2 (fun i hi=>ih1 i hi (hd.1 _ (List.getElem_mem hi)) _ _ _ _ _) (fun i hi=>ih2 i hi (hd.2 _ (List.getElem_mem hi)) _ _ _ _ _)
 | nilfn=>intro _ _ _ _ _ _ _;exact .nilfn _
 | iface nx t v u _ ih =>
  intro d hd w' B' own' ω' nx';cases d with
  | zero=>simp [AV.noMem] at hd
  | succ d=>exact .iface _ _ _ _ (ih (by simpa [AV.noMem] using hd) _ _ _ _ _)
 | niliface=>intro _ _ _ _ _ _ _;exact .niliface _
 | agg nx cs vs h1 _ ih =>
  intro d hd w' B' own' ω' nx';cases d with
  | zero=>simp [AV.noMem] at hd
  | succ d =>
   simp only [AV.noMem,List.all_eq_true] at hd;exact .agg _ _ _ h1 (fun i hi=>ih i hi (hd _ (List.getElem_mem hi)) _ _ _ _ _)
 | tup nx cs vs h1 _ ih =>
  intro d hd w' B' own' ω' nx';cases d with
  | zero=>simp [AV.noMem] at hd
  | succ d =>
   simp only [AV.noMem,List.all_eq_true] at hd;exact .tup _ _ _ h1 (fun i hi=>ih i hi (hd _ (List.getElem_mem hi)) _ _ _ _ _)
theorem Uh {w:World} {B:Nat->Prop} {own:Nat->Prop} {ω:Nat->Option Nat} {nx:Nat} {h:Heap} (H:Hp w B own ω nx h) (hB:∀ b,own b->¬ B b):∀ (d:Nat) (v:AV) (k:AV->Bool),Iz h d v k false=true->∃ v',k v'=true/\∀ u,Rep w B own ω nx v u->Rep w B (fun _=>False) (fun _=>none) 0 v' u
 | 0,_,_,hk=>by cases hk
 | d + 1,v,k,hk=>by
  have ih:=Uh H hB d;have lists:∀ (cs:List AV) (k:List AV->Bool),Kw (Iz h d) cs k false=true->_:=fun cs k=>Qx (Rl:=fun v u=>Rep w B own ω nx v u) (Rl':=fun v u=>Rep w B (fun _=>False) (fun _=>none) 0 v u) ih cs k
  have plain:∀ {v:AV} {u:Value},Rep w B own ω 0 v u->Rep w B (fun _=>False) (fun _=>none) 0 v u:=fun h =>
   h.mono (Nat.le_refl _) (fun _ _ _ hB=>⟨rfl,fun h=>h,hB⟩) (fun id b hi=>absurd hi (Nat.not_lt_zero _)) (fun _ _ h=>h)
  cases v <;> simp only [Iz] at hk
  case any=>exact ⟨_,hk,fun u hr=>.any _ _⟩
  case bool=>exact ⟨_,hk,fun u hr=>by cases hr;exact .bool _ _⟩
  case int=>exact ⟨_,hk,fun u hr=>by cases hr;exact .int _ _ _⟩
  case str=>exact ⟨_,hk,fun u hr=>by cases hr;exact .str _ _⟩
  case nilp=>exact ⟨_,hk,fun u hr=>by cases hr;exact .nilp _⟩
  case nils=>exact ⟨_,hk,fun u hr=>by cases hr;exact .nils _⟩
  case yld=>cases hk
  case es=>exact ⟨_,hk,fun u hr=>by cases hr;exact .es _ _⟩
  case ns=>exact ⟨_,hk,fun u hr=>by cases hr;exact .ns _ _ _⟩
  case nilfn=>exact ⟨_,hk,fun u hr=>by cases hr;exact .nilfn _⟩
  case niliface=>exact ⟨_,hk,fun u hr=>by cases hr;exact .niliface _⟩
  case ptr id off=>cases hk
  case iptr cells off=>cases hk
  case fn f a b=>cases hk
  case lst c n =>
   refine ⟨_,hk,fun u hr=>?_⟩
   cases hr with
   | lst _ _ _ cap b o vs g1 g2 g3 g4=>exact .lst _ _ _ _ b o vs (fun hne=>⟨(g1 hne).1,fun h=>h,(g1 hne).2.2⟩) g2 g3 (fun i hi=>plain (g4 i hi))
   | lstn=>exact .lstn _ _ _
  case sl id off n sz app =>
   split at hk
   ·rename_i hb hid
    rcases Dt hk with ⟨h0,hk⟩ | ⟨_,hk⟩
    ·obtain rfl:=Dw h0
     refine ⟨_,hk,fun u hr=>?_⟩
     cases hr with
     | sl _ _ _ _ _ cap b g1 g2 g3=>exact .ns _ _ _
     | sla _ _ _ _ cap b g1 g2 g3 g4 g5=>exact .ns _ _ _
    replace hk:=Bo hk;obtain ⟨hc,hk⟩:=hk
    obtain ⟨hp,hle⟩:=En hc
    replace hle:=I8 hle
    refine ⟨_,hk,fun u hr=>?_⟩
    have key:∀ b cap,ω id=some b->n<=cap->Rep w B (fun _=>False) (fun _=>none) 0 (.lst ((hb.cells.drop off).take (n * sz)) n) (.slice (some ⟨b,off,none⟩) n cap):=fun b cap hω hn=>by
     obtain ⟨q1,vs,q2,q3⟩:=Aao H hid hp hω;obtain ⟨_,ho,_⟩:=H.there hid hω
     have:=Abg (w:=w) (B:=B) (own:=fun _=>False) (ω:=fun _=>none) (nx:=0) (cells:=hb.cells) (cap:=cap) (b:=b) (o:=0) (d:=off) (m:=n) (vs:=vs) (fun _=>⟨q1,fun h=>h,hB b ho⟩) hn
      (fun i hi=>by rw [Nat.zero_add];exact q2 i hi) (fun i hi=>plain (q3 i hi)) (n * sz)
     rwa [Nat.zero_add] at this
    cases hr with
    | sl _ _ _ _ _ cap b g1 g2 g3=>exact key b cap g2 g3
    | sla _ _ _ _ cap b g1 g2 g3 g4 g5=>exact key b cap g2 g3
   ·cases hk
  case iface t v =>
   obtain ⟨v',h1,h2⟩:=ih v _ hk;refine ⟨_,h1,fun u hr=>?_⟩
   cases hr with
   | iface _ _ _ _ g=>exact .iface _ _ _ _ (h2 _ g)
  case agg cs =>
   obtain ⟨cs',h1,h2,h3⟩:=lists cs _ hk;refine ⟨_,h1,fun u hr=>?_⟩
   cases hr with
   | agg _ _ vs g1 g2=>obtain ⟨e1,e2⟩:=Si g1 g2 h2 h3;exact .agg _ _ _ e1 e2
  case tup cs =>
   obtain ⟨cs',h1,h2,h3⟩:=lists cs _ hk;refine ⟨_,h1,fun u hr=>?_⟩
   cases hr with
   | tup _ _ vs g1 g2=>obtain ⟨e1,e2⟩:=Si g1 g2 h2 h3;exact .tup _ _ _ e1 e2
end
end Go.Bas
end
section
namespace Go.Bas
open Go.RowKit
theorem Akj (h:N7) (id j:Nat) (x:LB):Gw (Ad2 h id x) j=if j=id then (Gw h id).map (fun _=>x) else Gw h j:=by
 induction h with
 | nil=>simp [Ad2,Gw]
 | cons a r ih =>
  obtain ⟨i,b⟩:=a;simp only [Ad2];cases hi:Nat.beq i id with
  | true =>
   have hi':=(Ea i id).1 hi;subst hi';simp only [cond_true,Gw]
   by_cases hj:j=i
   ·subst hj;simp
   ·have:Nat.beq i j=false:=by
     cases h:Nat.beq i j with
     | false=>rfl
     | true=>exact absurd ((Ea i j).1 h).symm hj
    simp [this,hj]
  | false =>
   simp only [cond_false,Gw];cases hj:Nat.beq i j with
   | true =>
    have hj':=(Ea i j).1 hj;subst hj';have hne:¬ i=id:=fun e=>by subst e;rw [hi] at hj;cases hj
    simp [hne]
   | false=>simp only [cond_false,ih,hi]
theorem Akk (h:N7) (id j:Nat):Gw (Zn h id) j=if j=id then none else Gw h j:=by
 induction h with
 | nil=>simp [Zn,Gw]
 | cons a r ih =>
  obtain ⟨i,b⟩:=a;simp only [Zn];cases hi:Nat.beq i id with
  | true =>
   have hi':=(Ea i id).1 hi;subst hi';simp only [cond_true,ih,Gw]
   by_cases hj:j=i
   ·simp [hj]
   ·have:Nat.beq i j=false:=by
     cases h:Nat.beq i j with
     | false=>rfl
     | true=>exact absurd ((Ea i j).1 h).symm hj
    simp [this,hj]
  | false =>
   simp only [cond_false,Gw,ih];cases hj:Nat.beq i j with
   | true =>
    have hj':=(Ea i j).1 hj;subst hj';have hne:¬ i=id:=fun e=>by subst e;rw [hi] at hj;cases hj
    simp [hne]
   | false=>simp
section
variable {C:Cfg} {w w':World} {B oC oL oC' oL':Nat->Prop} {ω ω':Nat->Option Nat} {nx nx':Nat}
theorem LbIs.extR {l:Nat} {e:LB} (h:LbIs w (Or2 B oL) oC ω nx l e) (hl:w'.heap[l]?=w.heap[l]?) (E:ExtR w oC oL ω nx w' oC' oL' ω' nx'):LbIs w' (Or2 B oL') oC' ω' nx' l e:=by
 cases e with
 | dfb=>exact hl.trans h
 | lop s pend tmps params assign body d =>
  obtain ⟨r,h1,h2,h3,h4,h5,h6,h7,h8,h9,h10⟩:=h;exact ⟨r,hl.trans h1,h2,h3,h4,h5.extR E,h6,h7,h8,Nat.lt_of_lt_of_le h9 E.nxle,(E.om _ h9).trans h10⟩
def Abv (w:World) (l:Nat):Prop:=∀ c e f,w.heap[l]? ≠ some (.cells c e f)
theorem LbIs.noCells {l:Nat} {e:LB} (h:LbIs w B oC ω nx l e):Abv w l:=fun c t f hh=>by
 cases e with
 | dfb=>simp only [LbIs] at h;rw [hh] at h;cases h
 | lop s pend tmps params assign body d=>obtain ⟨r,h1,_⟩:=h;rw [hh] at h1;cases h1
theorem Atp {l b n:Nat} (o:Obj) (hn:Abv w l) (hr:rowSize w b=some n):rowSize (w.putObj l o) b=some n:=by
 have hne:b ≠ l:=fun e=>by
  subst e;unfold rowSize at hr;split at hr
  ·rename_i c e f hh
   exact hn _ _ _ hh
  ·cases hr
 simp only [rowSize,World.putObj_heap_other hne] at hr ⊢
 exact hr
theorem ExtR.put {l:Nat} (hl:oL l) (hn:Abv w l) (o:Obj):ExtR w oC oL ω nx (w.putObj l o) oC oL ω nx :=
 ⟨rfl,rfl,rfl,by simp,fun b _ hb=>World.putObj_heap_other (fun e=>hb (by subst e;exact .inr hl)),fun _ h=>.inl h,Nat.le_refl _,fun _ _=>rfl,fun b n hr=>Atp o hn hr⟩
theorem MemSim.putL {m:Mem} (M:MemSim C w B oC oL ω m) {l:Nat} (hl:oL l) (hn:Abv w l) (o:Obj) {lp':N7}
  (hrel:∀ id e,Gw lp' id=some e->id < m.nx/\∃ l',ω id=some l'/\oL l'/\LbIs (w.putObj l o) (Or2 B oL) oC ω m.nx l' e)
  (hsub:∀ id,(Gw lp' id).isSome=true->(Gw m.lp id).isSome=true):MemSim C (w.putObj l o) B oC oL ω ⟨m.heap,m.nx,lp'⟩:=by
 have E:ExtR w oC oL ω m.nx (w.putObj l o) oC oL ω m.nx:=ExtR.put hl hn o
 refine ⟨⟨fun id x hx=>?_,M.hp.inj,fun b hb=>by simpa using M.hp.ob b hb⟩,⟨hrel,fun i j l hi hj=>M.lp.inj i j l (hsub i hi) (hsub j hj),fun l' hl'=>⟨by simpa using (M.lp.dis l' hl').1,(M.lp.dis l' hl').2⟩⟩,
  (M.gl.ext (B':=B) (own:=Or2 oC oL) (fun g cells h=>(fun hh=>hh.elim (M.gb g cells h).1 (M.gb g cells h).2.1)) E).1,M.gb,fun b hb=>by simpa using M.bl b hb⟩
 obtain ⟨h1,b,arr,h2,h3,h4,h5,h6⟩:=M.hp.rel id x hx
 have hne:b ≠ l:=fun e=>by subst e;exact (M.lp.dis b hl).2 h3
 refine ⟨h1,b,arr,h2,h3,(World.putObj_heap_other hne).trans h4,h5,fun i hi=>?_⟩
 have:=h6 i hi
 cases hp:x.pure with
 | true=>rw [hp] at this;exact this.extR0 E
 | false=>rw [hp] at this;exact this.extR E
theorem LpOk.put {m:Mem} (M:MemSim C w B oC oL ω m) {l:Nat} (hl:oL l) (hn:Abv w l) (o:Obj) {id0:Nat} {e0:LB} (h0:Gw m.lp id0=some e0) (hω:ω id0=some l) :
  ∀ id e,id ≠ id0->Gw m.lp id=some e->id < m.nx/\∃ l',ω id=some l'/\oL l'/\LbIs (w.putObj l o) (Or2 B oL) oC ω m.nx l' e:=fun id e hne he=>by
 obtain ⟨h1,l',h2,h3,h4⟩:=M.lp.rel id e he
 have hll:l' ≠ l:=fun e'=>by
  subst e';exact hne (M.lp.inj id id0 l' (by rw [he];rfl) (by rw [h0];rfl) h2 hω)
 exact ⟨h1,l',h2,h3,h4.extR (World.putObj_heap_other hll) (ExtR.put hl hn o)⟩
theorem MemSim.setL {m:Mem} (M:MemSim C w B oC oL ω m) {id l:Nat} {e e':LB} (hid:Gw m.lp id=some e) (hω:ω id=some l) (o:Obj) (h':LbIs (w.putObj l o) (Or2 B oL) oC ω m.nx l e') :
  MemSim C (w.putObj l o) B oC oL ω ⟨m.heap,m.nx,Ad2 m.lp id e'⟩/\ExtR w oC oL ω m.nx (w.putObj l o) oC oL ω m.nx:=by
 obtain ⟨h1,l',h2,h3,h4⟩:=M.lp.rel id e hid
 rw [hω] at h2;cases h2
 refine ⟨M.putL h3 h4.noCells o (fun j x hx=>?_) (fun j hj=>?_),ExtR.put h3 h4.noCells o⟩
 ·rw [Akj] at hx
  split at hx
  ·rename_i hj
   subst hj;rw [hid] at hx;simp only [Option.map_some,Option.some.injEq] at hx;subst hx;exact ⟨h1,l,hω,h3,h'⟩
  ·rename_i hj
   exact LpOk.put M h3 h4.noCells o hid hω j x hj hx
 ·rw [Akj] at hj
  split at hj
  ·rename_i e;subst e;rw [hid];rfl
  ·exact hj
theorem MemSim.delL {m:Mem} (M:MemSim C w B oC oL ω m) {id l:Nat} {e:LB} (hid:Gw m.lp id=some e) (hω:ω id=some l) (o:Obj) :
  MemSim C (w.putObj l o) B oC oL ω ⟨m.heap,m.nx,Zn m.lp id⟩/\ExtR w oC oL ω m.nx (w.putObj l o) oC oL ω m.nx:=by
 obtain ⟨h1,l',h2,h3,h4⟩:=M.lp.rel id e hid
 rw [hω] at h2;cases h2
 refine ⟨M.putL h3 h4.noCells o (fun j x hx=>?_) (fun j hj=>?_),ExtR.put h3 h4.noCells o⟩
 ·rw [Akk] at hx
  split at hx
  ·cases hx
  ·rename_i hj
   exact LpOk.put M h3 h4.noCells o hid hω j x hj hx
 ·rw [Akk] at hj
  split at hj
  ·cases hj
  ·exact hj
theorem MemSim.addL {m:Mem} (M:MemSim C w B oC oL ω m) (o:Obj) (e:LB) (hrow:∀ c t f,o ≠ .cells c t f)
  (h':LbIs (w.alloc o) (Or2 B (fun x=>oL x\/x=w.heap.size)) oC (fun i=>if i=m.nx then some w.heap.size else ω i) (m.nx + 1) w.heap.size e) :
  MemSim C (w.alloc o) B oC (fun x=>oL x\/x=w.heap.size) (fun i=>if i=m.nx then some w.heap.size else ω i) ⟨m.heap,m.nx + 1,(m.nx,e) :: m.lp⟩ /\
  ExtR w oC oL ω m.nx (w.alloc o) oC (fun x=>oL x\/x=w.heap.size) (fun i=>if i=m.nx then some w.heap.size else ω i) (m.nx + 1):=by
 have E:ExtR w oC oL ω m.nx (w.alloc o) oC (fun x=>oL x\/x=w.heap.size) (fun i=>if i=m.nx then some w.heap.size else ω i) (m.nx + 1):=by
  refine ⟨rfl,rfl,rfl,by simp,fun b hb _=>heap_alloc_old w o hb,fun b hb=>?_,by omega,fun id hi=>if_neg (by omega),fun b n hr=>?_⟩
  ·rcases hb with hb | hb | rfl
   ·exact .inl (.inl hb)
   ·exact .inl (.inr hb)
   ·exact .inr (Nat.le_refl _)
  ·have hlt:=Ry hr
   simp only [rowSize,heap_alloc_old w o hlt] at hr ⊢;exact hr
 refine ⟨⟨⟨fun id x hx=>?_,fun i j b hi hj h1 h2=>?_,fun b hb=>by have:=M.hp.ob b hb;simp;omega⟩,⟨fun id x hx=>?_,fun i j l hi hj h1 h2=>?_,fun l hl=>?_⟩,
  (M.gl.ext (B':=B) (own:=Or2 oC oL) (fun g cells h=>(fun hh=>hh.elim (M.gb g cells h).1 (M.gb g cells h).2.1)) E).1,fun g cells h=>?_,fun b hb=>by have:=M.bl b hb;simp;omega⟩,E⟩
 ·obtain ⟨h1,b,arr,h2,h3,h4,h5,h6⟩:=M.hp.rel id x hx
  refine ⟨by show id < m.nx + 1;omega,b,arr,by rw [if_neg (by omega)];exact h2,h3,(heap_alloc_old w o (M.hp.ob b h3)).trans h4,h5,fun i hi=>?_⟩
  have:=h6 i hi;cases hp:x.pure with
  | true=>rw [hp] at this;exact this.extR0 E
  | false=>rw [hp] at this;exact this.extR E
 ·obtain ⟨x,hx⟩:=Option.isSome_iff_exists.1 hi
  obtain ⟨y,hy⟩:=Option.isSome_iff_exists.1 hj;have a1:=(M.hp.rel i x hx).1;have a2:=(M.hp.rel j y hy).1;rw [if_neg (by omega)] at h1 h2
  exact M.hp.inj i j b hi hj h1 h2
 ·simp only [Gw] at hx
  cases he:Nat.beq m.nx id with
  | true =>
   have:=Dw he;subst this;simp only [he,cond_true,Option.some.injEq] at hx;subst hx;exact ⟨by show m.nx < m.nx + 1;omega,_,if_pos rfl,.inr rfl,h'⟩
  | false =>
   simp only [he,cond_false] at hx;obtain ⟨h1,l,h2,h3,h4⟩:=M.lp.rel id x hx;exact ⟨by show id < m.nx + 1;omega,l,by rw [if_neg (by omega)];exact h2,.inl h3,h4.extR (heap_alloc_old w o (M.lp.dis l h3).1) E⟩
 ·have key:∀ i,(Gw ((m.nx,e) :: m.lp) i).isSome=true->(if i=m.nx then some w.heap.size else ω i)=some l->(i=m.nx/\l=w.heap.size)\/(i ≠ m.nx/\(Gw m.lp i).isSome=true/\ω i=some l/\l < w.heap.size):=fun i hi hl=>by
   by_cases hne:i=m.nx
   ·subst hne
    rw [if_pos rfl] at hl;exact .inl ⟨rfl,(Option.some.inj hl).symm⟩
   ·rw [if_neg hne] at hl
    simp only [Gw] at hi
    have hb:Nat.beq m.nx i=false:=by
     cases hb:Nat.beq m.nx i with
     | false=>rfl
     | true=>exact absurd (Dw hb).symm hne
    rw [hb] at hi;simp only [cond_false] at hi;obtain ⟨x,hx⟩:=Option.isSome_iff_exists.1 hi;obtain ⟨_,l',g2,g3,_⟩:=M.lp.rel i x hx;rw [hl] at g2;cases g2;exact .inr ⟨hne,hi,hl,(M.lp.dis l g3).1⟩
  rcases key i hi h1 with ⟨a1,a2⟩ | ⟨a1,a2,a3,a4⟩ <;> rcases key j hj h2 with ⟨b1,b2⟩ | ⟨b1,b2,b3,b4⟩
  ·omega
  ·omega
  ·omega
  ·exact M.lp.inj i j l a2 b2 a3 b3
 ·rcases hl with hl | rfl
  ·exact ⟨by have:=(M.lp.dis l hl).1;simp;omega,(M.lp.dis l hl).2⟩
  ·exact ⟨by simp,fun h=>by have:=M.hp.ob _ h;omega⟩
 ·obtain ⟨h1,h2,h3⟩:=M.gb g cells h
  exact ⟨h1,fun hh=>hh.elim h2 (fun e=>by have:=(M.gl g cells h).1;omega),h3⟩
theorem Vo {P:Program} {fn:Func} {tmps arr:Array Value} {R:Ending->World->Prop} {u:FrameMode} (hu:u ≠ .run) {heap:Heap} {tm:List AV}:∀ (ds:List Nat) (xs:List Deferred) (lp:N7) (k:N7->Bool) (w:World),Iq ds lp k false=true->Marks ω nx ds xs ->
  MemSim C w B oC oL ω ⟨heap,nx,lp⟩->RepL w (Or2 B oL) oC ω nx tm arr ->
  (∀ w' lp',MemSim C w' B oC oL ω ⟨heap,nx,lp'⟩->ExtR w oC oL ω nx w' oC oL ω nx->RepL w' (Or2 B oL) oC ω nx tm arr->k lp'=true->LeavesIn (Fr none) 0 P fn tmps R [] u w')->LeavesInM (Fr none) 0 P fn tmps R xs u w
 | [],[],lp,k,w,hk,_,M,ht,hR=>hR w lp M ExtR.refl ht hk
 | d :: ds,x :: xs,lp,k,w,hk,hm,M,ht,hR=>by
  simp only [Iq] at hk;split at hk
  ·rename_i hd
   obtain ⟨⟨h1,r,h2,rfl⟩,hm⟩:=hm;obtain ⟨_,l,g2,g3,g4⟩:=M.lp.rel d _ hd;rw [h2] at g2;cases g2;obtain ⟨M',E⟩:=M.delL hd h2 (.deferred none);refine ⟨hu,.inl ⟨r,w.putObj r (.deferred none),rfl,run_takeDeferred g4,?_⟩⟩;exact Vo hu ds xs _ k _ hk hm M' (ht.extR E) (fun w' lp' M2 E2 ht2 hk2=>hR w' lp' M2 (E.trans E2) ht2 hk2)
  ·cases hk
 | [],_ :: _,_,_,_,_,h,_,_,_=>h.elim
 | _ :: _,[],_,_,_,_,h,_,_,_=>h.elim
end
section
variable {C:Cfg} {w:World} {B oC oL:Nat->Prop} {ω:Nat->Option Nat}
theorem Awk (hC:C.Ok) {f:FuncId} {fn:Func} {c:Code} (hfn:C.P.funcs[f]?=some fn) (hb:fn.body=some c) (us:Array Value) (w:World):(callFunc f us).run C.P w=.ok (.enter f us) w:=by
 have:¬ fn.name = "runtime.NumGoroutine" := by simpa using hC.names f fn hfn
 simp [callFunc,program,hfn,this,hb,Sem.run,Result.andThen]
def Afw (C:Cfg) (stand:Func->Code->List AV->(AV->Bool)->Bool):Prop :=
 ∀ fn c f args k,C.P.funcs[f]?=some fn->fn.body=some c->stand fn c args k=true->ACalls C.P C.G f args (fun v=>k v=true)
theorem ACalls.mono {P:Program} {G:Nat->Option (List AV)} {f:FuncId} {args:List AV} {R R':AV->Prop} (h:∀ v,R v->R' v) (hc:ACalls P G f args R):ACalls P G f args R':=fun w us bad hg gb bl hr =>
 (hc w us bad hg gb bl hr).mono fun _ _ ⟨v,u,he,hv,hx,hr⟩=>⟨v,u,he,h v hv,hx,hr⟩
theorem Abw (hC:C.Ok) {stand:Func->Code->List AV->(AV->Bool)->Bool} (hst:Afw C stand) {m:Mem} (M:MemSim C w B oC oL ω m) {f:FuncId} {args:List AV} {us:Array Value} (hr:RepL w (Or2 B oL) oC ω m.nx args us)
  {k:AV->Bool} {other:Func->Code->Bool} (hk:Xo C stand f args m.heap k other false=true) :
  ∃ fn c,C.P.funcs[f]?=some fn/\fn.body=some c/\(other fn c=true\/CallsIn (Fr none) 0 C.P f us w (fun e w'=>∃ v u,e=.returned u/\k v=true/\Still w w'/\Rep w' (Or2 B oL) oC ω m.nx v u)):=by
 have near:∀ R:AV->Prop,args.all (AV.noRef 6)=true->ACalls C.P C.G f args R->CallsIn (Fr none) 0 C.P f us w (fun e w'=>∃ v u,e=.returned u/\R v/\Still w w'/\Rep w' (Or2 B oL) oC ω m.nx v u):=fun R hn ha=>by
  have hl:RepL w (Or2 oC (Or2 B oL)) (fun _=>False) (fun _=>none) 0 args us:=⟨hr.1,fun i hi=>by
   have:=((hr.2 i hi).down (Y7 hn i hi) 0);exact this.mono (Nat.le_refl _) (fun b _ ho hB=>⟨rfl,fun h=>h,fun h=>h.elim ho hB⟩) (fun id b hi=>absurd hi (Nat.not_lt_zero _)) (fun _ _ h=>h)⟩
  refine Ph.2 ((ha w us (Or2 oC (Or2 B oL)) M.gl (fun g cells h ho=>ho.elim (M.gb g cells h).1 (fun hh=>hh.elim (M.gb g cells h).2.2 (M.gb g cells h).2.1)) (fun b hb=>hb.elim (M.hp.ob b) (fun hh=>hh.elim (M.bl b) (fun hh=>(M.lp.dis b hh).1))) hl).mono fun e w' hh=>?_)
  obtain ⟨v,u,rfl,hv,E,R⟩:=hh;exact ⟨v,u,rfl,hv,E,R.mono (Nat.le_refl _) (fun b hb _ hn=>⟨rfl,fun ho=>hn (.inl ho),fun h=>hn (.inr h)⟩) (fun id b hi=>absurd hi (Nat.not_lt_zero _)) (fun _ _ h=>h)⟩
 have far:∀ (R:AV->Prop) (args':List AV),args'.length=args.length->(∀ (j:Nat) (a' a:AV) (u:Value),args'[j]?=some a'->args[j]?=some a->Rep w (Or2 B oL) oC ω m.nx a u->Rep w (fun _=>False) (fun _=>False) (fun _=>none) 0 a' u) ->
   ACalls C.P C.G f args' (fun v=>v.noMem 6=true/\R v)->CallsIn (Fr none) 0 C.P f us w (fun e w'=>∃ v u,e=.returned u/\R v/\Still w w'/\Rep w' (Or2 B oL) oC ω m.nx v u):=fun R args' h2 h3 ha=>by
  have hl:RepL w (fun _=>False) (fun _=>False) (fun _=>none) 0 args' us:=Si hr.1 hr.2 h2 h3
  refine Ph.2 ((ha w us (fun _=>False) M.gl (fun _ _ _ h=>h) (fun _ h=>h.elim) hl).mono fun e w' hh=>?_)
  obtain ⟨v,u,rfl,⟨hm,hv⟩,E,R⟩:=hh;exact ⟨v,u,rfl,hv,E,R.noMem hm _ _ _ _ _⟩
 have views:=fun (k:List AV->Bool) (h:Kw (Ua m.heap 6) args k false=true)=>Qx (Rl:=fun v u=>Rep w (Or2 B oL) oC ω m.nx v u) (Rl':=fun v u=>Rep w (fun _=>False) (fun _=>False) (fun _=>none) 0 v u) (Aef M.hp 6) args k h
 unfold Xo at hk
 split at hk
 ·rename_i fn hfn
  split at hk
  ·rename_i c hb
   refine ⟨fn,c,hfn,hb,?_⟩;split at hk
   ·rename_i F hF
    refine .inr ?_
    rcases Dt hk with ⟨hn,hk⟩ | ⟨_,hk⟩
    ·split at hk
     ·rename_i p r hFr
      obtain ⟨rfl,hk⟩:=Bo hk;exact near _ hn ((hC.sums f F hF args r hFr).mono fun v e=>by rw [e];exact hk)
     ·cases hk
    ·obtain ⟨args',h1,h2,h3⟩:=views _ hk
     split at h1
     ·rename_i p r hFr
      have q1:=Bo h1;obtain ⟨hp,q1⟩:=q1;have q2:=Bo q1;subst hp;exact far _ args' h2 h3 ((hC.sums f F hF args' r hFr).mono fun v e=>by rw [e];exact q2)
     ·cases h1
   ·rcases Dt hk with ⟨_,hk⟩ | ⟨_,hk⟩
    ·refine .inr ?_
     rcases Dt hk with ⟨hn,hk⟩ | ⟨_,hk⟩
     ·exact near _ hn (hst fn c f args k hfn hb hk)
     ·obtain ⟨args',h1,h2,h3⟩:=views _ hk
      exact far _ args' h2 h3 ((hst fn c f args' _ hfn hb h1).mono fun v e=>Bo e)
    ·exact .inl hk
  ·cases hk
 ·cases hk
end
end Go.Bas
end
