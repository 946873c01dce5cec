/- The engine, part I: a run of a function's code, as a reckoning ('Ω': the answer). -/
import Derived.Test.YtehfcbppcfpjoaaGreatDoorBasNN
namespace Go.Bas
open Go.RowKit
set_option linter.unusedSimpArgs false
set_option linter.unusedVariables false

/-- The state of an activation: the temporaries, the marks among its deferred calls, the memory. -/
structure St where
  tmps : List AV
  ds : List Nat
  m : Mem

noncomputable def evO (C : Cfg) (tmps : List AV) : Operand → AV
  | .tmp t => lget tmps t
  | .const v => ofV v
  | .global g => match C.G g with
    | some cells => .iptr cells 0
    | none => .any
  | .func f => .fn (.func f) [] []
noncomputable def setT (tmps : List AV) (dst : Option Nat) (v : AV) : List AV :=
  match dst with
  | some d => lset tmps d v
  | none => tmps
noncomputable def setO (tmps : List AV) (c : Operand) (v : AV) : List AV :=
  match c with
  | .tmp d => lset tmps d v
  | _ => tmps
noncomputable def setAll (tmps : List AV) : List Nat → List AV → List AV
  | p :: ps, v :: vs => setAll (lset tmps p v) ps vs
  | _, _ => tmps

section
variable {Ω : Type}
noncomputable def guardK (ops : Array Oper) (tmps : List AV) (o : Oper) (x y : List AV → Ω) (z : Ω) : Ω :=
  match o.guard with
  | none => x tmps
  | some (j, want) => match ops[j]? with
    | some oj => match oj.dst with
      | some d => match lget tmps d with
        | .bool b => cond b (cond want (x (lset tmps d (.bool true))) (y (lset tmps d (.bool true)))) (cond want (y (lset tmps d (.bool false))) (x (lset tmps d (.bool false))))
        | .tup _ => y tmps
        | _ => z
      | none => z
    | none => z

/-- There is but one value that it stands for. -/
def AV.rigid : Nat → AV → Bool
  | 0, _ => false
  | _ + 1, .bool _ => true
  | _ + 1, .int _ _ => true
  | _ + 1, .str _ => true
  | _ + 1, .nilp => true
  | _ + 1, .nils => true
  | _ + 1, .nilfn => true
  | _ + 1, .niliface => true
  | d + 1, .agg cs => cs.all (AV.rigid d)
  | d + 1, .tup cs => cs.all (AV.rigid d)
  | d + 1, .iface _ v => AV.rigid d v
  | _ + 1, _ => false
/-- It leads into no memory at all. -/
def AV.noMem : Nat → AV → Bool
  | 0, _ => false
  | _ + 1, .ptr _ _ => false
  | _ + 1, .iptr _ _ => false
  | _ + 1, .sl _ _ _ _ _ => false
  | _ + 1, .lst _ _ => false
  | _ + 1, .yld _ => false
  | _ + 1, .mp _ => false
  | d + 1, .agg cs => cs.all (AV.noMem d)
  | d + 1, .tup cs => cs.all (AV.noMem d)
  | d + 1, .iface _ v => AV.noMem d v
  | d + 1, .fn _ a b => a.all (AV.noMem d) && b.all (AV.noMem d)
  | _ + 1, _ => true

noncomputable def resK1 (C : Cfg) (st : St) (rv : ResultVar) (k : AV → Ω) (z : Ω) : Ω :=
  match rv with
  | .tmp t => k (lget st.tmps t)
  | .cell a t => match lget st.tmps a with
    | .ptr id off => match hget st.m.heap id with
      | some hb => loadK C.P t (cond hb.pure 1 2) hb.cells off k z
      | none => z
    | _ => z
noncomputable def resKs (C : Cfg) (st : St) : List ResultVar → (List AV → Ω) → Ω → Ω
  | [], k, _ => k []
  | r :: rs, k, z => resK1 C st r (fun v => resKs C st rs (fun vs => k (v :: vs)) z) z
def tupOf : List AV → AV
  | [v] => v
  | vs => .tup vs
noncomputable def resK (C : Cfg) (fn : Func) (st : St) (k : AV → Ω) (z : Ω) : Ω := resKs C st fn.results.toList (fun vs => k (tupOf vs)) z

def viewsK (f : AV → (AV → Ω) → Ω → Ω) : List AV → (List AV → Ω) → Ω → Ω
  | [], k, _ => k []
  | v :: r, k, z => f v (fun v' => viewsK f r (fun r' => k (v' :: r')) z) z
/-- A value as a callee sees it that only reads. -/
noncomputable def viewK (h : Heap) : Nat → AV → (AV → Ω) → Ω → Ω
  | 0, _, _, z => z
  | d + 1, v, k, z => match v with
    | .ptr id off => match hget h id with
      | some hb => cond hb.pure (k (.iptr hb.cells off)) z
      | none => z
    | .sl id off n sz _ => match hget h id with
      | some hb => cond (Nat.ble (off + n * sz) hb.cells.length) (cond hb.pure (k (.lst ((hb.cells.drop off).take (n * sz)) n)) (viewsK (viewK h d) ((hb.cells.drop off).take (n * sz)) (fun cs' => k (.lst cs' n)) z)) z
      | none => z
    | .yld _ => z
    | .mp _ => z
    | .agg cs => viewsK (viewK h d) cs (fun cs' => k (.agg cs')) z
    | .tup cs => viewsK (viewK h d) cs (fun cs' => k (.tup cs')) z
    | .iface t v => viewK h d v (fun v' => k (.iface t v')) z
    | .fn f a b => viewsK (viewK h d) a (fun a' => viewsK (viewK h d) b (fun b' => k (.fn f a' b')) z) z
    | v => k v
/-- A result, its own blocks given up. -/
noncomputable def freezeK (h : Heap) : Nat → AV → (AV → Ω) → Ω → Ω
  | 0, _, _, z => z
  | d + 1, v, k, z => match v with
    | .ptr _ _ => z
    | .iptr _ _ => z
    | .fn _ _ _ => z
    | .yld _ => z
    | .mp _ => z
    | .sl id off n sz _ => match hget h id with
      | some hb => cond (Nat.beq n 0) (k .ns) (cond (Nat.ble (off + n * sz) hb.cells.length) (cond hb.pure (k (.lst ((hb.cells.drop off).take (n * sz)) n)) (viewsK (freezeK h d) ((hb.cells.drop off).take (n * sz)) (fun cs' => k (.lst cs' n)) z)) z)
      | none => z
    | .agg cs => viewsK (freezeK h d) cs (fun cs' => k (.agg cs')) z
    | .tup cs => viewsK (freezeK h d) cs (fun cs' => k (.tup cs')) z
    | .iface t v => freezeK h d v (fun v' => k (.iface t v')) z
    | v => k v

/-- The marks of an activation that leaves. -/
def closeK : List Nat → Loops → (Loops → Ω) → Ω → Ω
  | [], lp, k, _ => k lp
  | d :: ds, lp, k, z => match lpget lp d with
    | some .dfb => closeK ds (lpdel lp d) k z
    | _ => z

/-- The kind of a call's way. -/
abbrev CallF (Ω : Type) := Tgt → List AV → Mem → (AV → Mem → Ω) → (AV → Mem → Ω) → Ω

/-- Operations on maps of numbers to numbers, that are the run's own. -/
def mapB : Op → Bool
  | .makeMap _ _ => true
  | .lookup _ _ _ _ => true
  | .mapUpdate _ _ _ _ => true
  | _ => false
def zeroI (P : Program) (t : TypeId) : Option (IntKind × Int) :=
  match P.info? t with
  | some i => match i.zero with
    | some (.int k n) => some (k, n)
    | _ => none
  | none => none
/-- What is found in a map: 'none': it can't be told; else the value, if there is one. -/
def findI (P : Program) (kt : TypeId) (es : Array MapEntry) (kd : IntKind) (n : Int) : Option (Option (IntKind × Int)) :=
  match P.underlying kt with
  | some (.int kd0) => cond (kindEq kd kd0) (match Instr.findNow (.int kd0) (.int kd n) es.toList 0 with
    | some (some (_, .int kv v)) => some (some (kv, v))
    | some none => some none
    | _ => none) none
  | _ => none
noncomputable def mapK (C : Cfg) (ρ : Operand → AV) (m : Mem) (op : Op) (k : AV → Mem → Ω) (z : Ω) : Ω :=
  match op with
  | .makeMap _ none => k (.mp m.nx) ⟨m.heap, m.nx + 1, (m.nx, .obj (.map #[] 0)) :: m.lp⟩
  | .lookup t x ix ok => match C.P.underlying t, ρ x, ρ ix with
    | some (.map kt et), .mp id, .int kd n => match lpget m.lp id, zeroI C.P et with
      | some (.obj (.map es _)), some (kz, nz) => match findI C.P kt es kd n with
        | some (some (kv, v)) => k (cond ok (.tup [.int kv v, .bool true]) (.int kv v)) m
        | some none => k (cond ok (.tup [.int kz nz, .bool false]) (.int kz nz)) m
        | none => z
      | _, _ => z
    | _, _, _ => z
  | .mapUpdate t x kx vx => match C.P.underlying t, ρ x, ρ kx, ρ vx with
    | some (.map kt _), .mp id, .int kd n, .int kv v => match lpget m.lp id with
      | some (.obj (.map es cl)) => match findI C.P kt es kd n with
        | some none => k (.tup []) ⟨m.heap, m.nx, lpset m.lp id (.obj (.map (es.push { key := .int kd n, val := .int kv v, born := cl }) (cl + 1)))⟩
        | _ => z
      | _ => z
    | _, _, _, _ => z
  | _ => z
noncomputable def opsK (C : Cfg) (call : CallF Ω) (ops : Array Oper) (l : List Oper) : St → (St → Ω) → (AV → St → Ω) → Ω → Ω :=
  List.rec (motive := fun _ => St → (St → Ω) → (AV → St → Ω) → Ω → Ω) (fun st k _ _ => k st)
    (fun o _ ih st k kp z => guardK ops st.tmps o
      (fun tmps => cond (mapB o.op) (mapK C (evO C tmps) st.m o.op (fun v m' => ih ⟨setT tmps o.dst v, st.ds, m'⟩ k kp z) z) (aop C (evO C tmps) st.m.heap st.m.nx o.op
        (fun v h nx => ih ⟨setT tmps o.dst v, st.ds, ⟨h, nx, st.m.lp⟩⟩ k kp z)
        (fun t args => call t args st.m (fun v m' => ih ⟨setT tmps o.dst v, st.ds, m'⟩ k kp z) (fun v m' => kp v ⟨tmps, st.ds, m'⟩))
        (fun v => kp v ⟨tmps, st.ds, st.m⟩) z))
      (fun tmps => ih ⟨setT tmps o.dst (.tup []), st.ds, st.m⟩ k kp z) z) l

theorem opsK_cons (C : Cfg) (call : CallF Ω) (ops : Array Oper) (o : Oper) (r : List Oper) (st : St) (k : St → Ω) (kp : AV → St → Ω) (z : Ω) :
    opsK C call ops (o :: r) st k kp z = guardK ops st.tmps o
      (fun tmps => cond (mapB o.op) (mapK C (evO C tmps) st.m o.op (fun v m' => opsK C call ops r ⟨setT tmps o.dst v, st.ds, m'⟩ k kp z) z) (aop C (evO C tmps) st.m.heap st.m.nx o.op
        (fun v h nx => opsK C call ops r ⟨setT tmps o.dst v, st.ds, ⟨h, nx, st.m.lp⟩⟩ k kp z)
        (fun t args => call t args st.m (fun v m' => opsK C call ops r ⟨setT tmps o.dst v, st.ds, m'⟩ k kp z) (fun v m' => kp v ⟨tmps, st.ds, m'⟩))
        (fun v => kp v ⟨tmps, st.ds, st.m⟩) z))
      (fun tmps => opsK C call ops r ⟨setT tmps o.dst (.tup []), st.ds, st.m⟩ k kp z) z := rfl

/-! ### Regions that draw their order -/
def quietCall (c : Call) : Bool :=
  match c.callee with
  | .builtin .len => true
  | .builtin .min => true
  | .builtin .max => true
  | _ => false
/-- It reads at most. -/
def quietOp (op : Op) : Bool :=
  match op with
  | .move _ => true
  | .assign _ => true
  | .pick _ _ _ => true
  | .build _ _ => true
  | .load _ _ => true
  | .nilCheck _ => true
  | .binOp _ _ _ _ _ => true
  | .unOp _ _ _ => true
  | .convert _ _ _ => true
  | .makeInterface _ _ => true
  | .makeFunc _ _ _ => true
  | .slice _ _ _ _ _ => true
  | .fieldAddr _ _ _ => true
  | .field _ _ _ => true
  | .indexAddr _ _ _ => true
  | .index _ _ _ => true
  | .extract _ _ => true
  | .typeAssert _ _ _ _ => true
  | .call c => quietCall c
  | _ => false
/-- It makes a block. -/
def newOp (op : Op) : Bool :=
  match op with
  | .alloc _ => true
  | .box _ _ => true
  | .buildSlice _ _ _ => true
  | .makeSlice _ _ _ => true
  | _ => false
/-- What an operation has done: nothing but its value; a new block; something with blocks ('fp'), behind which they, and new ones, are so. -/
inductive Eff where
  | nop
  | new (id : Nat) (hb : HB)
  | bar (fp : List Nat) (lo : Nat) (m' : Mem)
structure Rc where
  dst : Option Nat
  out : AV
  rd : List Nat
  eff : Eff
def memN (l : List Nat) (i : Nat) : Bool := l.any (Nat.beq i)
def hpick (h : Heap) (fp : List Nat) : Heap := h.filter fun p => memN fp p.1
def hrest (h : Heap) (fp : List Nat) : Heap := h.filter fun p => !memN fp p.1
noncomputable def applyRc (st : St) (r : Rc) : St :=
  ⟨setT st.tmps r.dst r.out, st.ds, match r.eff with
    | .nop => st.m
    | .new id hb => ⟨(id, hb) :: st.m.heap, st.m.nx, st.m.lp⟩
    | .bar fp _ m' => ⟨m'.heap ++ hrest st.m.heap fp, m'.nx, m'.lp⟩⟩
/-- Into which blocks a value leads. -/
def AV.ids : Nat → AV → List Nat
  | 0, _ => []
  | _ + 1, .ptr id _ => [id]
  | _ + 1, .sl id _ _ _ _ => [id]
  | _ + 1, .yld id => [id]
  | _ + 1, .mp id => [id]
  | d + 1, .fn _ a b => (a ++ b).flatMap (AV.ids d)
  | d + 1, .iface _ v => AV.ids d v
  | d + 1, .agg cs => cs.flatMap (AV.ids d)
  | d + 1, .tup cs => cs.flatMap (AV.ids d)
  | _ + 1, _ => []
noncomputable def reach (m : Mem) : Nat → List Nat → List Nat → List Nat
  | 0, _, acc => acc
  | _ + 1, [], acc => acc
  | n + 1, i :: todo, acc => cond (memN acc i) (reach m n todo acc) (match hget m.heap i with
    | some hb => cond hb.pure (reach m n todo (i :: acc)) (reach m n (hb.cells.flatMap (AV.ids 4) ++ todo) (i :: acc))
    | none => match lpget m.lp i with
      | some (.lop _ _ tmps _ _ _ _) => reach m n (tmps.flatMap (AV.ids 4) ++ todo) (i :: acc)
      | _ => reach m n todo (i :: acc))
noncomputable def prints (m : Mem) (vs : List AV) : List Nat := reach m 1000 (vs.flatMap (AV.ids 4)) []
/-- What a quiet operation reads. -/
noncomputable def readsOf (ρ : Operand → AV) (op : Op) : List Nat :=
  match op with
  | .load _ x => match ρ x with
    | .ptr id _ => [id]
    | _ => []
  | _ => []
/-- A call that turns nothing of the caller's: by a summary, or walked apart. -/
noncomputable def floatK (C : Cfg) (stand : Func → Code → List AV → (AV → Ω) → Ω) (f : FuncId) (args : List AV) (h : Heap) (k : AV → Ω) (other : Func → Code → Ω) (z : Ω) : Ω :=
  match C.P.funcs[f]? with
  | some fn => match fn.body with
    | some c => match C.S f with
      | some F => cond (args.all (AV.noRef 6)) (match F args with
          | some (p, r) => cond p (k r) z
          | none => z)
        (viewsK (viewK h 6) args (fun args' => match F args' with
          | some (p, r) => cond p (cond (r.noMem 6) (k r) z) z
          | none => z) z)
      | none => cond (C.Q f) (cond (args.all (AV.noRef 6)) (stand fn c args k) (viewsK (viewK h 6) args (fun args' => stand fn c args' (fun r => cond (r.noMem 6) (k r) z)) z)) (other fn c)
    | none => z
  | none => z
/-- An operation that does something with blocks. -/
noncomputable def barD (C : Cfg) (stand : Func → Code → List AV → (AV → Ω) → Ω) (call : CallF Ω) (tmps : List AV) (m : Mem) (o : Oper) (k : Rc → Ω) (z : Ω) (fp : List Nat) : Ω :=
  aop C (evO C tmps) (hpick m.heap fp) m.nx o.op (fun v h nx => k ⟨o.dst, v, fp, .bar fp m.nx ⟨h, nx, m.lp⟩⟩)
    (fun t args => match t with
      | .fn f => floatK C stand f args (hpick m.heap fp) (fun v => k ⟨o.dst, v, fp, .nop⟩) (fun _ _ => call t args ⟨hpick m.heap fp, m.nx, m.lp⟩ (fun v m' => k ⟨o.dst, v, fp, .bar fp m.nx m'⟩) (fun _ _ => z)) z
      | .yld _ => call t args ⟨hpick m.heap fp, m.nx, m.lp⟩ (fun v m' => k ⟨o.dst, v, fp, .bar fp m.nx m'⟩) (fun _ _ => z)) (fun _ => z) z
/-- An operation that makes a block. -/
noncomputable def newD (C : Cfg) (tmps : List AV) (ai : Nat) (o : Oper) (k : Rc → Ω) (z : Ω) : Ω :=
  aop C (evO C tmps) [] ai o.op (fun v h _ => match h with
    | (id, hb) :: [] => k ⟨o.dst, v, [], .new id hb⟩
    | _ => z) (fun _ _ => z) (fun _ => z) z
/-- One operation of a region that draws its order. -/
noncomputable def opD (C : Cfg) (stand : Func → Code → List AV → (AV → Ω) → Ω) (call : CallF Ω) (tmps : List AV) (m : Mem) (ai : Nat) (o : Oper) (k : Rc → Ω) (z : Ω) : Ω :=
  cond (quietOp o.op) (aop C (evO C tmps) m.heap m.nx o.op (fun v _ _ => k ⟨o.dst, v, readsOf (evO C tmps) o.op, .nop⟩) (fun _ _ => z) (fun _ => z) z)
    (cond (newOp o.op) (newD C tmps ai o k z) (barD C stand call tmps m o k z (prints m (o.op.operands.toList.map (evO C tmps)))))

/-- One stands ahead of the other in every order. -/
def befB (ops : Array Oper) : Nat → Nat → Nat → Bool
  | 0, _, _ => false
  | n + 1, i, j => match ops[j]? with
    | some o => o.after.toList.any (fun e => Region.binds .any e && Nat.beq e.on i) || o.after.toList.any (fun e => Region.binds .any e && befB ops n i e.on)
    | none => false
def tmpsOf (xs : List Operand) : List Nat := xs.filterMap fun
  | .tmp t => some t
  | _ => none
/-- The temporaries at which an operation looks. -/
def looksL (ops : Array Oper) (o : Oper) : List Nat :=
  tmpsOf o.op.operands.toList ++ (match o.guard with
    | some (j, _) => match ops[j]? with
      | some oj => oj.dst.toList
      | none => []
    | none => [])
/-- They hang on each other by temporaries. -/
def tmpClash (ops : Array Oper) (a b : Oper) : Bool :=
  (match a.dst with
    | some d => memN (looksL ops b) d || b.dst == some d
    | none => false) ||
  (match b.dst with
    | some d => memN (looksL ops a) d
    | none => false)
/-- The pairs that may come either way round. -/
def eitherWay (ops : Array Oper) : List (Nat × Nat) :=
  (List.range ops.size).flatMap fun j => ((List.range j).filter fun i => !befB ops ops.size i j).map fun i => (i, j)
def staticB (ops : Array Oper) : Bool :=
  ((List.range ops.size).all fun i => match ops[i]? with
    | some o => o.after.toList.all fun e => !Region.binds .any e || Nat.blt e.on i
    | none => false) && (eitherWay ops).all fun p => match ops[p.1]?, ops[p.2]? with
    | some a, some b => !tmpClash ops a b
    | _, _ => false
def Eff.isBar : Eff → Bool
  | .bar _ _ _ => true
  | _ => false
def Eff.touches : Eff → Nat → Bool
  | .nop, _ => false
  | .new i _, id => Nat.beq i id
  | .bar fp lo _, id => memN fp id || Nat.ble lo id
def Eff.domOk : Eff → Bool
  | .bar fp lo m' => m'.heap.all fun p => memN fp p.1 || Nat.ble lo p.1
  | _ => true
def effClash : Eff → Eff → Bool
  | .new i _, .bar fp lo _ => memN fp i || Nat.ble lo i
  | .bar fp lo _, .new i _ => memN fp i || Nat.ble lo i
  | .new i _, .new j _ => Nat.beq i j
  | .bar _ _ _, .bar _ _ _ => true
  | _, _ => false
def clash (a b : Rc) : Bool := b.rd.any a.eff.touches || (a.rd.any b.eff.touches || effClash a.eff b.eff)
def Eff.newId : Eff → List Nat
  | .new i _ => [i]
  | _ => []
def nodupB : List Nat → Bool
  | [] => true
  | i :: r => !memN r i && nodupB r
def getRc : List Rc → Nat → Option Rc
  | [], _ => none
  | r :: _, 0 => some r
  | _ :: rs, n + 1 => getRc rs n
def okRcs (ops : Array Oper) (lo hi : Nat) (rs : List Rc) : Bool :=
  staticB ops && (nodupB (rs.flatMap fun r => r.eff.newId) && ((rs.flatMap fun r => r.eff.newId).all fun i => Nat.ble lo i && Nat.blt i hi)) && ((eitherWay ops).all (fun p => match getRc rs p.1, getRc rs p.2 with
    | some a, some b => !clash a b
    | _, _ => false) && rs.all fun r => r.eff.domOk)
/-- One stands right ahead of an operation. -/
def nextB (o : Oper) (i : Nat) : Bool := o.after.toList.any fun e => Region.binds .any e && Nat.beq e.on i
/-- Whatever hangs on another one by temporaries stands right behind it. -/
noncomputable def fastGo (ops : Array Oper) (l : List Oper) : List (Nat × Oper) → Nat → Bool := List.rec (motive := fun _ => List (Nat × Oper) → Nat → Bool) (fun _ _ => true)
  (fun b _ ih pre j => cond (b.after.toList.all fun e => !Region.binds .any e || Nat.blt e.on j) (cond (pre.all fun p => nextB b p.1 || !tmpClash ops p.2 b) (ih ((j, b) :: pre) (j + 1)) false) false) l
def Eff.isNop : Eff → Bool
  | .nop => true
  | _ => false
noncomputable def okRcsQ (ops : Array Oper) (lo hi : Nat) (rs : List Rc) : Bool :=
  cond (cond (rs.all fun r => r.eff.isNop) (cond (Nat.beq rs.length ops.size) (fastGo ops ops.toList [] 0) false) false) true (okRcs ops lo hi rs)
def newCount (l : List Oper) : Nat := (l.filter fun o => newOp o.op).length
noncomputable def drawK (C : Cfg) (stand : Func → Code → List AV → (AV → Ω) → Ω) (call : CallF Ω) (ops : Array Oper) (lo hi : Nat) : List Oper → St → Nat → List Rc → (St → Ω) → Ω → Ω
  | [], st, _, acc, k, z => cond (okRcsQ ops lo hi acc.reverse) (k st) z
  | o :: r, st, ai, acc, k, z => guardK ops st.tmps o
      (fun tmps => opD C stand call tmps st.m ai o (fun rc => drawK C stand call ops lo hi r (applyRc ⟨tmps, st.ds, st.m⟩ rc) (cond (newOp o.op) (ai + 1) ai) (rc :: acc) k z) z)
      (fun tmps => drawK C stand call ops lo hi r (applyRc ⟨tmps, st.ds, st.m⟩ ⟨o.dst, .tup [], [], .nop⟩) (cond (newOp o.op) (ai + 1) ai) (⟨o.dst, .tup [], [], .nop⟩ :: acc) k z) z

/-- Its last operation is a call that hands nothing back, and stands behind all others: it may give up. -/
def lastB (P : Program) (ops : Array Oper) : Bool :=
  match ops.back? with
  | some o => cond (match o.op with
      | .call _ => true
      | _ => false) (match P.underlying o.type with
    | some (.tuple ts) => cond (Nat.beq ts.size 0) (((List.range (ops.size - 1)).all fun i => befB ops ops.size i (ops.size - 1)) &&
        ((List.range ops.size).all (fun i => match ops[i]? with
          | some x => x.after.toList.all fun e => !Region.binds .any e || Nat.blt e.on i
          | none => false) &&
        ops.pop.toList.all fun x => match x.guard with
          | some (j, _) => Nat.blt j (ops.size - 1)
          | none => true)) false
    | _ => false) false
  | none => false
/-! ### The run -/
/-- How a run goes on. -/
abbrev RunF (Ω : Type) := Option Nat → Option Code → Code → St → (Ex → St → Ω) → Ω → Ω
def padL (args : List AV) (n : Nat) : List AV := args ++ List.replicate (n - args.length) (.tup [])
/-- A function walked apart: its arguments in memory that nobody writes, its result's blocks given up. -/
noncomputable def standK (C : Cfg) (go : RunF Ω) (z : Ω) (fn : Func) (c : Code) (args : List AV) (k : AV → Ω) : Ω :=
  go none none c ⟨padL args fn.ntmps, [], ⟨[], 0, []⟩⟩ (fun e st' => match e with
    | .ret => closeK st'.ds st'.m.lp (fun _ => resK C fn st' (fun v => freezeK st'.m.heap 6 v k z) z) z
    | .normal => closeK st'.ds st'.m.lp (fun _ => resK C fn st' (fun v => freezeK st'.m.heap 6 v k z) z) z
    | _ => z) z
/-- How a round's end leaves its loop. -/
def endOf : Ex → Option (Bool × Nat × Option Ex)
  | .normal => some (true, 0, none)
  | .ret => some (false, 2, some .ret)
  | .exit id => some (false, 2, some (.exit id))
  | .goto l => some (false, 2, some (.goto l))
  | .panic _ => none
noncomputable def callR (C : Cfg) (go : RunF Ω) (z : Ω) : CallF Ω := fun t args m kk kp => match t with
  | .fn f => match C.X f with
    | some F => (F args m).ev kk z
    | none => floatK C (standK C go z) f args m.heap (fun r => kk r m) (fun fn c =>
      go none none c ⟨padL args fn.ntmps, [], m⟩ (fun e st' => match e with
        | .ret => closeK st'.ds st'.m.lp (fun lp => resK C fn st' (fun v => kk v ⟨st'.m.heap, st'.m.nx, lp⟩) z) z
        | .normal => closeK st'.ds st'.m.lp (fun lp => resK C fn st' (fun v => kk v ⟨st'.m.heap, st'.m.nx, lp⟩) z) z
        | .panic v => closeK st'.ds st'.m.lp (fun lp => kp v ⟨st'.m.heap, st'.m.nx, lp⟩) z
        | _ => z) z) z
  | .yld id => match lpget m.lp id with
    | some (.lop 0 none tmps params assign body _) => cond (Nat.beq args.length params.length)
      (go (some id) none assign ⟨setAll tmps params args, [], m⟩ (fun e st1 => match e with
        | .normal => match lpget st1.m.lp id with
          | some (.lop 0 none tm ps as bo d) => go (some id) none body ⟨st1.tmps, st1.ds, ⟨st1.m.heap, st1.m.nx, lpset st1.m.lp id (.lop 1 none tm ps as bo d)⟩⟩ (fun e st2 =>
              match lpget st2.m.lp id, endOf e with
              | some (.lop _ _ tm ps as bo d), some (b, s, j) => kk (.bool b) ⟨st2.m.heap, st2.m.nx, lpset st2.m.lp id (.lop s j tm ps as bo d)⟩
              | _, _ => z) z
          | _ => z
        | _ => z) z) z
    | _ => z
/-- A loop over a function, as it begins. -/
def loopM (inr : Option Nat) (st : St) (params : List Nat) (assign body : Code) (k : Nat → List Nat → Mem → Ω) (z : Ω) : Ω :=
  match inr with
  | none => k (st.m.nx + 1) (st.m.nx :: st.ds) ⟨st.m.heap, st.m.nx + 2, (st.m.nx + 1, .lop 0 none st.tmps params assign body st.m.nx) :: (st.m.nx, .dfb) :: st.m.lp⟩
  | some l0 => match lpget st.m.lp l0 with
    | some (.lop _ _ _ _ _ _ d0) => k st.m.nx st.ds ⟨st.m.heap, st.m.nx + 1, (st.m.nx, .lop 0 none st.tmps params assign body d0) :: st.m.lp⟩
    | _ => z
noncomputable def runStep (C : Cfg) (go : RunF Ω) : RunF Ω := fun inr sc code st k z =>
  match sc with
  | some body => go inr none code st (fun e st' => match e with
      | .goto l => match findLabel body l with
        | some rest => go inr (some body) rest st' k z
        | none => k (.goto l) st'
      | e => k e st') z
  | none =>
    match code with
    | .skip => k .normal st
    | .label _ => k .normal st
    | .ret => k .ret st
    | .exit id => k (.exit id) st
    | .goto l => k (.goto l) st
    | .seq a b => go inr none a st (fun e st' => match e with
      | .normal => go inr none b st' k z
      | e => k e st') z
    | .cond c a b => match evO C st.tmps c with
      | .bool t => cond t (go inr none a ⟨setO st.tmps c (.bool true), st.ds, st.m⟩ k z) (go inr none b ⟨setO st.tmps c (.bool false), st.ds, st.m⟩ k z)
      | _ => z
    | .block id body => go inr none body st (fun e st' => match e with
      | .exit id' => cond (Nat.beq id' id) (k .normal st') (k (.exit id') st')
      | e => k e st') z
    | .loop body => go inr none body st (fun e st' => match e with
      | .normal => go inr none (.loop body) st' k z
      | e => k e st') z
    | .scope body => go inr (some body) body st k z
    | .region _ ops draw => cond draw
        (cond (lastB C.P ops) (drawK C (standK C go z) (callR C go z) ops.pop st.m.nx (st.m.nx + newCount ops.pop.toList) ops.pop.toList ⟨st.tmps, st.ds, ⟨st.m.heap, st.m.nx + newCount ops.pop.toList, st.m.lp⟩⟩ st.m.nx [] (fun st' => opsK C (callR C go z) ops (ops.toList.drop (ops.size - 1)) st' (fun st' => k .normal st') (fun v st' => k (.panic v) st') z) z)
        (drawK C (standK C go z) (callR C go z) ops st.m.nx (st.m.nx + newCount ops.toList) ops.toList ⟨st.tmps, st.ds, ⟨st.m.heap, st.m.nx + newCount ops.toList, st.m.lp⟩⟩ st.m.nx [] (fun st' => k .normal st') z))
        (opsK C (callR C go z) ops ops.toList st (fun st' => k .normal st') (fun v st' => k (.panic v) st') z)
    | .rangeFunc f params assign body => match evO C st.tmps f with
      | .fn (.func g) first cap => loopM inr st params.toList assign body (fun id ds m => callR C go z (.fn g) (first ++ [.yld id] ++ cap) m
          (fun _ m' => match lpget m'.lp id with
            | some (.lop s pend _ _ _ _ _) => cond (Nat.beq s 1) z (k (match pend with | none => .normal | some e => e) ⟨st.tmps, ds, ⟨m'.heap, m'.nx, lpdel m'.lp id⟩⟩)
            | _ => z)
          (fun v m' => k (.panic v) ⟨st.tmps, ds, m'⟩)) z
      | _ => z
    | _ => z
/-- A run ('inr': the loop in whose round it is; 'sc': the body of the scope that it is in, where that is looked at next). -/
noncomputable def run (C : Cfg) (n : Nat) : RunF Ω := Nat.rec (motive := fun _ => RunF Ω) (fun _ _ _ _ _ z => z) (fun _ go => runStep C go) n
theorem run_zero (C : Cfg) (inr : Option Nat) (sc : Option Code) (code : Code) (st : St) (k : Ex → St → Ω) (z : Ω) : run C 0 inr sc code st k z = z := rfl
theorem run_succ (C : Cfg) (n : Nat) : run (Ω := Ω) C (n + 1) = runStep C (run C n) := rfl
/-- A function's run over arguments in memory that nobody writes. -/
noncomputable def runF (C : Cfg) (n : Nat) (f : FuncId) (args : List AV) (k : AV → Ω) (z : Ω) : Ω :=
  match C.P.funcs[f]? with
  | some fn => match fn.body with
    | some c => standK C (run C n) z fn c args k
    | none => z
  | none => z
end
end Go.Bas
