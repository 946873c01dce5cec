/- The engine, part I: a run of a function's code, as a reckoning ('Ω': the answer), and what a call of a function without memory of the caller's is. -/
import Derived.Test.YtakdfjdpjggdkaaBasEngH
import Derived.Deep.Quiet
import Derived.StillTail
namespace Go.Bas
open Go.RowKit
set_option linter.unusedSimpArgs false
set_option linter.unusedVariables false

/-- How a piece of code ends. -/
inductive Ex where
  | normal
  | exit (id : Nat)
  | goto (l : Nat)
  | ret
def Ex.out : Ex → Exit
  | .normal => .normal
  | .exit id => .exit id
  | .goto l => .goto l
  | .ret => .ret

def evO (C : Cfg) (tmps : List AV) : Operand → AV
  | .tmp t => tmps.getD t .any
  | .const v => ofV v
  | .global g => match C.G g with
    | some cells => .iptr cells 0
    | none => .any
  | .func f => .fn (.func f) [] []
def setT (tmps : List AV) (dst : Option Nat) (v : AV) : List AV :=
  match dst with
  | some d => tmps.set d v
  | none => tmps

section
variable {Ω : Type}
def setO (tmps : List AV) (c : Operand) (v : AV) : List AV :=
  match c with
  | .tmp d => tmps.set d v
  | _ => tmps
def guardK (ops : Array Oper) (tmps : List AV) (o : Oper) (x y : List AV → Ω) (z : Ω) : Ω :=
  match o.guard with
  | none => x tmps
  | some (j, want) => match ops[j]? with
    | some oj => match oj.dst with
      | some d => match tmps.getD d .any with
        | .bool b => cond b (cond want (x (tmps.set d (.bool true))) (y (tmps.set d (.bool true)))) (cond want (y (tmps.set d (.bool false))) (x (tmps.set d (.bool false))))
        | .tup _ => y tmps
        | _ => z
      | none => z
    | none => z
def opsK (C : Cfg) (call : FuncId → List AV → Heap → Nat → (AV → Heap → Nat → Ω) → Ω) (ops : Array Oper) : List Oper → St → (St → Ω) → Ω → Ω
  | [], st, k, _ => k st
  | o :: r, st, k, z => guardK ops st.tmps o
      (fun tmps => aop C (evO C tmps) st.heap st.nx o.op
        (fun v h nx => opsK C call ops r ⟨setT tmps o.dst v, h, nx⟩ k z)
        (fun f args => call f args st.heap st.nx (fun v h nx => opsK C call ops r ⟨setT tmps o.dst v, h, nx⟩ k z)) z)
      (fun tmps => opsK C call ops r ⟨setT tmps o.dst (.tup []), st.heap, st.nx⟩ k z) z

/-- It reads at most. -/
def quietCall (c : Call) : Bool :=
  match c.callee with
  | .value _ => true
  | .builtin .len => true
  | .builtin .min => true
  | .builtin .max => true
  | _ => false
def quietOp (op : Op) : Bool :=
  match op with
  | .move _ => true
  | .assign _ => true
  | .pick _ _ _ => true
  | .build _ _ => true
  | .load _ _ => true
  | .nilCheck _ => true
  | .binOp _ _ _ _ _ => true
  | .unOp _ _ _ => true
  | .convert _ _ _ => true
  | .makeInterface _ _ => true
  | .makeFunc _ _ _ => true
  | .slice _ _ _ _ _ => true
  | .fieldAddr _ _ _ => true
  | .field _ _ _ => true
  | .indexAddr _ _ _ => true
  | .index _ _ _ => true
  | .extract _ _ => true
  | .call c => quietCall c
  | _ => false
def plainOp (op : Op) : Bool :=
  match op with
  | .call c => match c.callee with
    | .value _ => false
    | _ => quietOp op
  | _ => quietOp op
/-- There is but one value that it stands for. -/
def AV.rigid : Nat → AV → Bool
  | 0, _ => false
  | _ + 1, .bool _ => true
  | _ + 1, .int _ _ => true
  | _ + 1, .str _ => true
  | _ + 1, .nilp => true
  | _ + 1, .nils => true
  | _ + 1, .nilfn => true
  | _ + 1, .niliface => true
  | d + 1, .agg cs => cs.all (AV.rigid d)
  | d + 1, .tup cs => cs.all (AV.rigid d)
  | d + 1, .iface _ v => AV.rigid d v
  | _ + 1, _ => false
/-- A summarized call that finds nothing of the run's own blocks. -/
def sumK (C : Cfg) (f : FuncId) (args : List AV) (k : AV → Ω) (z : Ω) : Ω :=
  match C.P.funcs[f]? with
  | some fn => match fn.body with
    | some _ => match C.S f with
      | some F => cond (args.all (AV.noRef 6)) (match F args with
        | some (p, r) => cond p (cond (r.rigid 6) (k r) z) z
        | none => z) z
      | none => z
    | none => z
  | none => z
/-- Operations that read at most, in a region that draws their order. -/
def drawK (C : Cfg) (ops : Array Oper) (ok : Op → Bool) : List Oper → St → (St → Ω) → Ω → Ω
  | [], st, k, _ => k st
  | o :: r, st, k, z => cond (ok o.op) (guardK ops st.tmps o
      (fun tmps => aop C (evO C tmps) st.heap st.nx o.op
        (fun v _ _ => drawK C ops ok r ⟨setT tmps o.dst v, st.heap, st.nx⟩ k z)
        (fun f args => sumK C f args (fun v => drawK C ops ok r ⟨setT tmps o.dst v, st.heap, st.nx⟩ k z) z) z)
      (fun tmps => drawK C ops ok r ⟨setT tmps o.dst (.tup []), st.heap, st.nx⟩ k z) z) z
def leading (ok : Op → Bool) : List Oper → Nat
  | [] => 0
  | o :: r => cond (ok o.op) (leading ok r + 1) 0

def resK1 (C : Cfg) (st : St) (rv : ResultVar) (k : AV → Ω) (z : Ω) : Ω :=
  match rv with
  | .tmp t => k (st.tmps.getD t .any)
  | .cell a t => match st.tmps.getD a .any with
    | .ptr id off => match hget st.heap id with
      | some hb => loadK C.P t (cond hb.pure 1 2) hb.cells off k z
      | none => z
    | _ => z
def resKs (C : Cfg) (st : St) : List ResultVar → (List AV → Ω) → Ω → Ω
  | [], k, _ => k []
  | r :: rs, k, z => resK1 C st r (fun v => resKs C st rs (fun vs => k (v :: vs)) z) z
def tupOf : List AV → AV
  | [v] => v
  | vs => .tup vs
def resK (C : Cfg) (fn : Func) (st : St) (k : AV → Ω) (z : Ω) : Ω := resKs C st fn.results.toList (fun vs => k (tupOf vs)) z

def viewsK (f : AV → (AV → Ω) → Ω → Ω) : List AV → (List AV → Ω) → Ω → Ω
  | [], k, _ => k []
  | v :: r, k, z => f v (fun v' => viewsK f r (fun r' => k (v' :: r')) z) z
/-- A value as a callee sees it that only reads. -/
def viewK (h : Heap) : Nat → AV → (AV → Ω) → Ω → Ω
  | 0, _, _, z => z
  | d + 1, v, k, z => match v with
    | .ptr id off => match hget h id with
      | some hb => cond hb.pure (k (.iptr hb.cells off)) z
      | none => z
    | .sl id off n sz _ => match hget h id with
      | some hb => cond (hb.pure && Nat.ble (off + n * sz) hb.cells.length) (k (.lst ((hb.cells.drop off).take (n * sz)) n)) z
      | none => z
    | .agg cs => viewsK (viewK h d) cs (fun cs' => k (.agg cs')) z
    | .tup cs => viewsK (viewK h d) cs (fun cs' => k (.tup cs')) z
    | .iface t v => viewK h d v (fun v' => k (.iface t v')) z
    | .fn f a b => viewsK (viewK h d) a (fun a' => viewsK (viewK h d) b (fun b' => k (.fn f a' b')) z) z
    | v => k v
/-- A result, its own blocks given up. -/
def freezeK (h : Heap) : Nat → AV → (AV → Ω) → Ω → Ω
  | 0, _, _, z => z
  | d + 1, v, k, z => match v with
    | .ptr _ _ => z
    | .iptr _ _ => z
    | .fn _ _ _ => z
    | .sl id off n sz _ => match hget h id with
      | some hb => cond (hb.pure && Nat.ble (off + n * sz) hb.cells.length) (k (.lst ((hb.cells.drop off).take (n * sz)) n)) z
      | none => z
    | .agg cs => viewsK (freezeK h d) cs (fun cs' => k (.agg cs')) z
    | .tup cs => viewsK (freezeK h d) cs (fun cs' => k (.tup cs')) z
    | .iface t v => freezeK h d v (fun v' => k (.iface t v')) z
    | v => k v
/-- It leads into no memory at all. -/
def AV.noMem : Nat → AV → Bool
  | 0, _ => false
  | _ + 1, .ptr _ _ => false
  | _ + 1, .iptr _ _ => false
  | _ + 1, .sl _ _ _ _ _ => false
  | _ + 1, .lst _ _ => false
  | d + 1, .agg cs => cs.all (AV.noMem d)
  | d + 1, .tup cs => cs.all (AV.noMem d)
  | d + 1, .iface _ v => AV.noMem d v
  | d + 1, .fn _ a b => a.all (AV.noMem d) && b.all (AV.noMem d)
  | _ + 1, _ => true

/-- A run ('sc': the body of the scope that it is in, where that is looked at next). -/
def run (C : Cfg) : Nat → Option Code → Code → St → (Ex → St → Ω) → Ω → Ω
  | 0, _, _, _, _, z => z
  | n + 1, some body, code, st, k, z => run C n none code st (fun e st' => match e with
      | .goto l => match findLabel body l with
        | some rest => run C n (some body) rest st' k z
        | none => k (.goto l) st'
      | e => k e st') z
  | n + 1, none, code, st, k, z =>
    match code with
    | .skip => k .normal st
    | .label _ => k .normal st
    | .ret => k .ret st
    | .exit id => k (.exit id) st
    | .goto l => k (.goto l) st
    | .seq a b => run C n none a st (fun e st' => match e with
      | .normal => run C n none b st' k z
      | e => k e st') z
    | .cond c a b => match evO C st.tmps c with
      | .bool t => cond t (run C n none a ⟨setO st.tmps c (.bool true), st.heap, st.nx⟩ k z) (run C n none b ⟨setO st.tmps c (.bool false), st.heap, st.nx⟩ k z)
      | _ => z
    | .block id body => run C n none body st (fun e st' => match e with
      | .exit id' => cond (Nat.beq id' id) (k .normal st') (k (.exit id') st')
      | e => k e st') z
    | .loop body => run C n none body st (fun e st' => match e with
      | .normal => run C n none (.loop body) st' k z
      | e => k e st') z
    | .scope body => run C n (some body) body st k z
    | .region _ ops draw =>
      let call : FuncId → List AV → Heap → Nat → (AV → Heap → Nat → Ω) → Ω := fun f args h nx kk => match C.P.funcs[f]? with
        | some fn => match fn.body with
          | some c => match C.S f with
            | some F => cond (args.all (AV.noRef 6)) (match F args with
                | some (p, r) => cond p (kk r h nx) z
                | none => z)
              (viewsK (viewK h 6) args (fun args' => match F args' with
                | some (p, r) => cond p (cond (r.noMem 6) (kk r h nx) z) z
                | none => z) z)
            | none => run C n none c ⟨args ++ List.replicate (fn.ntmps - args.length) (.tup []), h, nx⟩ (fun e st' => match e with
              | .ret => resK C fn st' (fun v => kk v st'.heap st'.nx) z
              | .normal => resK C fn st' (fun v => kk v st'.heap st'.nx) z
              | _ => z) z
          | none => z
        | none => z
      cond draw
        (cond (Region.lexB .any ops) (drawK C ops quietOp ops.toList st (fun st' => k .normal st') z)
          (cond (Region.lexTailB .any ops (leading plainOp ops.toList))
            (drawK C ops plainOp (ops.toList.take (leading plainOp ops.toList)) st (fun st' => opsK C call ops (ops.toList.drop (leading plainOp ops.toList)) st' (fun st' => k .normal st') z) z) z))
        (opsK C call ops ops.toList st (fun st' => k .normal st') z)
    | _ => z
end

/-- A call that finds these arguments in memory that nobody writes, and leaves a result that leads into new memory, or into its arguments'. ('bad': blocks that the arguments do not lead into.) -/
def ACalls (P : Program) (G : Nat → Option (List AV)) (f : FuncId) (args : List AV) (R : AV → Prop) : Prop :=
  ∀ (w : World) (us : Array Value) (bad : Nat → Prop), GOk G w → (∀ g cells, G g = some cells → ¬ bad g) → (∀ b, bad b → b < w.heap.size) → RepL w bad (fun _ => False) (fun _ => none) 0 args us → Calls P f us w fun e w' =>
    ∃ v u, e = .returned u ∧ R v ∧ Ext w (fun _ => False) (fun _ => none) 0 w' (fun _ => False) (fun _ => none) 0 ∧ Rep w' bad (fun _ => False) (fun _ => none) 0 v u

/-- The summaries are right. -/
structure Cfg.Ok (C : Cfg) : Prop where
  sums : ∀ f F, C.S f = some F → ∀ args r, F args = some (true, r) → ACalls C.P C.G f args (fun v => v = r)
  mixed : C.P.follows .mixedOrders = true
  names : ∀ (f : FuncId) (fn : Func), C.P.funcs[f]? = some fn → (fn.name == "runtime.NumGoroutine") = false

section
variable {w : World} {B : Nat → Prop} {own : Nat → Prop} {ω : Nat → Option Nat} {C : Cfg}

/-- The abstract state stands for the model's. -/
structure Sim (C : Cfg) (w : World) (B : Nat → Prop) (own : Nat → Prop) (ω : Nat → Option Nat) (st : St) (a : Act) : Prop where
  tm : RepL w B own ω st.nx st.tmps a.tmps
  dn : a.defers = []
  hp : Hp w B own ω st.nx st.heap
  gl : GOk C.G w
  gb : ∀ g cells, C.G g = some cells → ¬ own g ∧ ¬ B g
  bl : ∀ b, B b → b < w.heap.size

theorem GOk.ext {w' : World} {own' : Nat → Prop} {ω' : Nat → Option Nat} {nx nx' : Nat} (hg : GOk C.G w) (gb : ∀ g cells, C.G g = some cells → ¬ own g ∧ ¬ B g) (E : Ext w own ω nx w' own' ω' nx') :
    GOk C.G w' ∧ ∀ g cells, C.G g = some cells → ¬ own' g ∧ ¬ B g := by
  refine ⟨fun g cells h => ?_, fun g cells h => ⟨fun ho => ?_, (gb g cells h).2⟩⟩
  · obtain ⟨h1, vs, h2, h3⟩ := hg g cells h
    refine ⟨Nat.lt_of_lt_of_le h1 E.size, vs, fun i hi => ?_, h3⟩
    rw [← h2 i hi]
    exact World.cell?_of_block (E.old g h1 (gb g cells h).1)
  · rcases E.owns g ho with h' | h'
    · exact (gb g cells h).1 h'
    · have := (hg g cells h).1; omega

theorem GOk.rep (hg : GOk C.G w) (gb : ∀ g cells, C.G g = some cells → ¬ own g ∧ ¬ B g) {nx g : Nat} {cells : List AV} (h : C.G g = some cells) : Rep w B own ω nx (.iptr cells 0) (.pointer (some ⟨g, 0, none⟩)) := by
  obtain ⟨h1, vs, h2, h3⟩ := hg g cells h
  refine .iptr _ _ 0 g 0 vs (fun _ => ⟨h1, gb g cells h⟩) (fun i hi => by rw [Nat.zero_add]; exact h2 i hi) (fun i hi => h3 i hi _ _ _ _ _)

theorem Sim.ev {st : St} {a : Act} (S : Sim C w B own ω st a) (x : Operand) : Rep w B own ω st.nx (evO C st.tmps x) (a.eval x) := by
  cases x with
  | tmp t =>
    simp only [evO, Act.eval]
    by_cases ht : t < st.tmps.length
    · have := S.tm.2 t ht
      simpa [ht] using this
    · simp only [List.getD_eq_getElem?_getD, List.getElem?_eq_none (Nat.le_of_not_lt ht), Option.getD_none]
      exact .any _ _
  | const v => exact rep_ofV _ _ _ _ _ _
  | global g =>
    simp only [evO, Act.eval]
    split
    · rename_i cells h
      exact S.gl.rep S.gb h
    · exact .any _ _
  | func f => exact .fn _ _ _ _ _ _ rfl rfl (fun i hi => absurd hi (Nat.not_lt_zero _)) (fun i hi => absurd hi (Nat.not_lt_zero _))

theorem RepL.set {nx : Nat} {cs : List AV} {arr : Array Value} (hl : RepL w B own ω nx cs arr) (d : Nat) {v : AV} {u : Value} (hr : Rep w B own ω nx v u) : RepL w B own ω nx (cs.set d v) (arr.setIfInBounds d u) := by
  refine repL_of (by simpa using hl.1) (fun j a x ha hx => ?_)
  have := hl.1
  by_cases h : j = d
  · subst h
    rw [List.getElem?_set] at ha
    rw [Array.getElem?_setIfInBounds] at hx
    simp only [if_true] at ha hx
    split at ha
    · rename_i hlt
      rw [if_pos (by omega)] at hx
      rw [← Option.some.inj ha, ← Option.some.inj hx]
      exact hr
    · cases ha
  · rw [List.getElem?_set_ne (Ne.symm h)] at ha
    rw [Array.getElem?_setIfInBounds_ne (Ne.symm h)] at hx
    exact hl.at ha hx

theorem RepL.ext {nx nx' : Nat} {w' : World} {own' : Nat → Prop} {ω' : Nat → Option Nat} {cs : List AV} {arr : Array Value} (hl : RepL w B own ω nx cs arr) (E : Ext w own ω nx w' own' ω' nx') : RepL w' B own' ω' nx' cs arr :=
  ⟨hl.1, fun i hi => (hl.2 i hi).ext E⟩

/-- A value comes into a temporary. -/
theorem Sim.put {st : St} {a : Act} (S : Sim C w B own ω st a) {w' : World} {own' : Nat → Prop} {ω' : Nat → Option Nat} {h' : Heap} {nx' : Nat} {dst : Option Tmp} {v : AV} {u : Value} (E : Ext w own ω st.nx w' own' ω' nx') (H : Hp w' B own' ω' nx' h') (hr : Rep w' B own' ω' nx' v u) :
    Sim C w' B own' ω' ⟨setT st.tmps dst v, h', nx'⟩ (a.put dst u) := by
  have tm := S.tm.ext E
  obtain ⟨gl, gb⟩ := S.gl.ext S.gb E
  cases dst with
  | none => exact ⟨tm, S.dn, H, gl, gb, fun b hb => Nat.lt_of_lt_of_le (S.bl b hb) E.size⟩
  | some d => exact ⟨tm.set d hr, S.dn, H, gl, gb, fun b hb => Nat.lt_of_lt_of_le (S.bl b hb) E.size⟩

/-- What a run leaves. -/
def Leaves (C : Cfg) (w : World) (B : Nat → Prop) (own : Nat → Prop) (ω : Nat → Option Nat) (nx : Nat) (k : Ex → St → Bool) (e : Exit) (a' : Act) (w' : World) : Prop :=
  ∃ e' st' own' ω', e = e'.out ∧ Sim C w' B own' ω' st' a' ∧ Ext w own ω nx w' own' ω' st'.nx ∧ k e' st' = true

/-- A call, as a run takes it. -/
def CallOk (C : Cfg) (call : FuncId → List AV → Heap → Nat → (AV → Heap → Nat → Bool) → Bool) : Prop :=
  ∀ (f : FuncId) (args : List AV) (h : Heap) (nx : Nat) (kk : AV → Heap → Nat → Bool) (w : World) (B : Nat → Prop) (own : Nat → Prop) (ω : Nat → Option Nat) (us : Array Value), call f args h nx kk = true → Hp w B own ω nx h → GOk C.G w → (∀ g cells, C.G g = some cells → ¬ own g ∧ ¬ B g) → (∀ b, B b → b < w.heap.size) →
    RepL w B own ω nx args us → (callFunc f us).run C.P w = .ok (.enter f us) w ∧ Calls C.P f us w fun e w' => ∃ v u h' nx' own' ω', e = .returned u ∧ kk v h' nx' = true ∧ Ext w own ω nx w' own' ω' nx' ∧ Hp w' B own' ω' nx' h' ∧ Rep w' B own' ω' nx' v u

theorem set_self {tmps : List AV} {d : Nat} {v : AV} (h : tmps.getD d .any = v) (hv : v ≠ .any) : tmps.set d v = tmps := by
  rcases Nat.lt_or_ge d tmps.length with h' | h'
  · rw [List.getD_eq_getElem?_getD, List.getElem?_eq_getElem h', Option.getD_some] at h
    rw [← h]
    exact List.set_getElem_self h'
  · rw [List.getD_eq_getElem?_getD, List.getElem?_eq_none h', Option.getD_none] at h
    exact absurd h.symm hv
theorem setO_self {tmps : List AV} {c : Operand} {b : Bool} (h : evO C tmps c = .bool b) : setO tmps c (.bool b) = tmps := by
  cases c with
  | tmp d => exact set_self h (by simp)
  | _ => rfl

/-- A guard: the operation is wanted, or it is not. -/
theorem guardK_sound {st : St} {a : Act} (S : Sim C w B own ω st a) {ops : Array Oper} {o : Oper} {x y : List AV → Bool} (hk : guardK ops st.tmps o x y false = true) :
    (Region.wanted o (yielded ops a.tmps) = true ∧ x st.tmps = true) ∨ (Region.wanted o (yielded ops a.tmps) = false ∧ y st.tmps = true) := by
  simp only [guardK] at hk
  split at hk
  · rename_i hg
    exact .inl ⟨by simp [Region.wanted, hg], hk⟩
  · rename_i j want hg
    split at hk
    · rename_i oj hoj
      split at hk
      · rename_i d hdst
        have hev := S.ev (.tmp d)
        simp only [evO, Act.eval] at hev
        have hy : ∀ v, a.tmps[d]? = some v → yielded ops a.tmps j = match v with | .bool b => some b | _ => none := fun v hv => by simp [yielded, hoj, hdst, hv]; cases v <;> rfl
        split at hk
        · rename_i b hb
          have hself := set_self hb (by simp)
          rw [hb] at hev
          have hd2 : a.tmps[d]? = some (.bool b) := by
            have hd1 : d < st.tmps.length := by
              rcases Nat.lt_or_ge d st.tmps.length with h | h
              · exact h
              · rw [List.getD_eq_getElem?_getD, List.getElem?_eq_none h] at hb; cases hb
            have hd3 : d < a.tmps.size := by rw [← S.tm.1]; exact hd1
            rw [getD_lt hd3] at hev
            rw [Array.getElem?_eq_getElem hd3]
            generalize a.tmps[d] = x at hev
            cases hev
            rfl
          have hyy := hy _ hd2
          simp only at hyy
          cases b with
          | true =>
            rw [hself] at hk
            simp only [cond_true] at hk
            rcases of_cond2 hk with ⟨h1, h2⟩ | ⟨h1, h2⟩
            · exact .inl ⟨by simp [Region.wanted, hg, hyy, h1], h2⟩
            · exact .inr ⟨by simp [Region.wanted, hg, hyy, h1], h2⟩
          | false =>
            rw [hself] at hk
            simp only [cond_false] at hk
            rcases of_cond2 hk with ⟨h1, h2⟩ | ⟨h1, h2⟩
            · exact .inr ⟨by simp [Region.wanted, hg, hyy, h1], h2⟩
            · exact .inl ⟨by simp [Region.wanted, hg, hyy, h1], h2⟩
        · rename_i l hb
          rw [hb] at hev
          refine .inr ⟨?_, hk⟩
          have : yielded ops a.tmps j = none := by
            cases hx : a.tmps[d]? with
            | none => simp [yielded, hoj, hdst, hx]
            | some x =>
              rw [hy x hx]
              have : a.tmps.getD d undef = x := by simp [Array.getD_eq_getD_getElem?, hx]
              rw [this] at hev
              cases hev
              rfl
          simp [Region.wanted, hg, this]
        · cases hk
      · cases hk
    · cases hk

theorem ops_sound {call : FuncId → List AV → Heap → Nat → (AV → Heap → Nat → Bool) → Bool} (hcall : CallOk C call) {ops : Array Oper} {Q : Exit → Act → World → Prop} :
    ∀ (rest : List Oper) (i : Nat), ops.toList.drop i = rest → ∀ (st : St) (k : St → Bool) (a : Act) (w : World) (own : Nat → Prop) (ω : Nat → Option Nat), opsK C call ops rest st k false = true → Sim C w B own ω st a →
      (∀ st' a' w' own' ω', Sim C w' B own' ω' st' a' → Ext w own ω st.nx w' own' ω' st'.nx → k st' = true → Q .normal a' w') → wpOps C.P ops Q (List.range' i rest.length) a w
  | [], i, _, st, k, a, w, own, ω, hk, S, hQ => hQ st a w own ω S (Ext.refl _ _ _ _) hk
  | o :: r, i, hd, st, k, a, w, own, ω, hk, S, hQ => by
    have hlt : i < ops.toList.length := by
      rcases Nat.lt_or_ge i ops.toList.length with h | h
      · exact h
      · rw [List.drop_eq_nil_of_le h] at hd; cases hd
    have ho : ops[i]? = some o := by
      have h0 : (ops.toList.drop i)[0]? = some o := by rw [hd]; rfl
      rw [List.getElem?_drop] at h0
      simpa using h0
    have hr : ops.toList.drop (i + 1) = r := by rw [← List.drop_drop, hd]; rfl
    -- what follows a value
    have go : ∀ (v : AV) (u : Value) (h' : Heap) (nx' : Nat) (w' : World) (own' : Nat → Prop) (ω' : Nat → Option Nat), opsK C call ops r ⟨setT st.tmps o.dst v, h', nx'⟩ k false = true → Ext w own ω st.nx w' own' ω' nx' → Hp w' B own' ω' nx' h' → Rep w' B own' ω' nx' v u →
        wpOps C.P ops Q (List.range' (i + 1) r.length) (a.put o.dst u) w' := fun v u h' nx' w' own' ω' hk E H hr' =>
      ops_sound hcall r (i + 1) hr _ k _ w' own' ω' hk (S.put E H hr') (fun st' a' w'' own'' ω'' S' E' hk' => hQ st' a' w'' own'' ω'' S' (E.trans E') hk')
    have exec : aop C (evO C st.tmps) st.heap st.nx o.op (fun v h nx => opsK C call ops r ⟨setT st.tmps o.dst v, h, nx⟩ k false)
        (fun f args => call f args st.heap st.nx (fun v h nx => opsK C call ops r ⟨setT st.tmps o.dst v, h, nx⟩ k false)) false = true → o.wp C.P a w (wpOps C.P ops Q (List.range' (i + 1) r.length)) Q := fun hk => by
      unfold Oper.wp
      rcases aop_sound C S.hp (fun x => S.ev x) hk with ⟨u, w', v, h', nx', own', ω', hrun, h1, h2, h3, h4⟩ | ⟨f, args, us, hrun, h1, h2⟩
      · rcases hrun with hrun | ⟨hrun, rfl⟩
        · rw [hrun, Oper.upon_value]
          exact go v u h' nx' w' own' ω' h1 h2 h3 h4
        · rw [hrun, Oper.upon_skip]
          exact go v undef h' nx' w' own' ω' h1 h2 h3 h4
      · obtain ⟨c1, c2⟩ := hcall f args st.heap st.nx _ w B own ω us h1 S.hp S.gl S.gb S.bl h2
        rw [hrun, c1, Oper.upon_enter]
        refine c2.mono fun e w' hh => ?_
        obtain ⟨v, u, h', nx', own', ω', rfl, g1, g2, g3, g4⟩ := hh
        exact go v u h' nx' w' own' ω' g1 g2 g3 g4
    have skip : opsK C call ops r ⟨setT st.tmps o.dst (.tup []), st.heap, st.nx⟩ k false = true → wpOps C.P ops Q (List.range' (i + 1) r.length) (a.put o.dst undef) w := fun hk =>
      go (.tup []) undef st.heap st.nx w own ω hk (Ext.refl _ _ _ _) S.hp (.tup _ _ _ rfl (fun i hi => absurd hi (Nat.not_lt_zero _)))
    simp only [List.length_cons, List.range'_succ, wpOps, ho]
    simp only [opsK] at hk
    rcases guardK_sound S hk with ⟨hw, h⟩ | ⟨hw, h⟩
    · rw [if_pos hw]
      exact .inl (exec h)
    · rw [if_neg (by simp [hw])]
      exact skip h

theorem viewsK_sound {f : AV → (AV → Bool) → Bool → Bool} {Rl Rl' : AV → Value → Prop} (hf : ∀ v k, f v k false = true → ∃ v', k v' = true ∧ ∀ u, Rl v u → Rl' v' u) : ∀ (cs : List AV) (k : List AV → Bool), viewsK f cs k false = true →
    ∃ cs', k cs' = true ∧ cs'.length = cs.length ∧ ∀ (j : Nat) (a' a : AV) (u : Value), cs'[j]? = some a' → cs[j]? = some a → Rl a u → Rl' a' u
  | [], k, hk => ⟨[], hk, rfl, fun j a' a u h => by simp at h⟩
  | v :: r, k, hk => by
    obtain ⟨v', h1, h2⟩ := hf v _ hk
    obtain ⟨r', h3, h4, h5⟩ := viewsK_sound hf r _ h1
    refine ⟨v' :: r', h3, by simp [h4], fun j a' a u ha' ha hr => ?_⟩
    cases j with
    | zero => simp at ha' ha; subst ha' ha; exact h2 u hr
    | succ j => exact h5 j a' a u (by simpa using ha') (by simpa using ha) hr

theorem rep_list {w' : World} {B' : Nat → Prop} {own' : Nat → Prop} {ω' : Nat → Option Nat} {nx nx' : Nat} {cs cs' : List AV} {vs : Array Value} (h1 : cs.length = vs.size) (h2 : ∀ i (h : i < cs.length), Rep w B own ω nx cs[i] (vs.getD i undef)) (hl : cs'.length = cs.length)
    (hr : ∀ (j : Nat) (a' a : AV) (u : Value), cs'[j]? = some a' → cs[j]? = some a → Rep w B own ω nx a u → Rep w' B' own' ω' nx' a' u) : cs'.length = vs.size ∧ ∀ i (h : i < cs'.length), Rep w' B' own' ω' nx' cs'[i] (vs.getD i undef) :=
  ⟨by omega, fun i hi => hr i _ _ _ (List.getElem?_eq_getElem hi) (List.getElem?_eq_getElem (by omega)) (h2 i (by omega))⟩

/-- Memory that nobody writes, whoever looks. -/
theorem Rep.plain0 {v : AV} {u : Value} (h : Rep w B own ω 0 v u) : Rep w (fun _ => False) (fun _ => False) (fun _ => none) 0 v u :=
  h.mono (Nat.le_refl _) (fun _ _ _ _ => ⟨rfl, fun h => h, fun h => h⟩) (fun id hi => absurd hi (Nat.not_lt_zero _)) (fun _ _ h => h)

theorem pure_cells {nx : Nat} {h : Heap} (H : Hp w B own ω nx h) {id b : Nat} {hb : HB} (hid : hget h id = some hb) (hp : hb.pure = true) (hω : ω id = some b) :
    b < w.heap.size ∧ ∃ vs : Nat → Value, (∀ i, i < hb.cells.length → w.cell? ⟨b, i, none⟩ = some (vs i)) ∧ ∀ i (hi : i < hb.cells.length), Rep w B own ω 0 hb.cells[i] (vs i) := by
  obtain ⟨arr, h3, h4, h5, h6⟩ := H.there hid hω
  refine ⟨H.ob b h3, fun i => arr.getD i undef, fun i hi => ?_, fun i hi => ?_⟩
  · have hi' : i < arr.size := by omega
    simp [World.cell?, h4, hi']
  · have := h6 i hi
    rw [hp] at this
    exact this

theorem viewK_sound {nx : Nat} {h : Heap} (H : Hp w B own ω nx h) : ∀ (d : Nat) (v : AV) (k : AV → Bool), viewK h d v k false = true → ∃ v', k v' = true ∧ ∀ u, Rep w B own ω nx v u → Rep w (fun _ => False) (fun _ => False) (fun _ => none) 0 v' u
  | 0, _, _, hk => by cases hk
  | d + 1, v, k, hk => by
    have ih := viewK_sound H d
    have lists : ∀ (cs : List AV) (k : List AV → Bool), viewsK (viewK h d) cs k false = true → _ := fun cs k => viewsK_sound (Rl := fun v u => Rep w B own ω nx v u) (Rl' := fun v u => Rep w (fun _ => False) (fun _ => False) (fun _ => none) 0 v u) ih cs k
    cases v <;> simp only [viewK] at hk
    case any => exact ⟨_, hk, fun u hr => .any _ _⟩
    case bool => exact ⟨_, hk, fun u hr => by cases hr; exact .bool _ _⟩
    case int => exact ⟨_, hk, fun u hr => by cases hr; exact .int _ _ _⟩
    case str => exact ⟨_, hk, fun u hr => by cases hr; exact .str _ _⟩
    case nilp => exact ⟨_, hk, fun u hr => by cases hr; exact .nilp _⟩
    case nils => exact ⟨_, hk, fun u hr => by cases hr; exact .nils _⟩
    case nilfn => exact ⟨_, hk, fun u hr => by cases hr; exact .nilfn _⟩
    case niliface => exact ⟨_, hk, fun u hr => by cases hr; exact .niliface _⟩
    case ptr id off =>
      split at hk
      · rename_i hb hid
        replace hk := of_cond hk; obtain ⟨hp, hk⟩ := hk
        refine ⟨_, hk, fun u hr => ?_⟩
        cases hr with
        | ptr _ _ _ b g1 g2 =>
          obtain ⟨q1, vs, q2, q3⟩ := pure_cells H hid hp g2
          have := Rep.iptr (w := w) (B := fun _ => False) (own := fun _ => False) (ω := fun _ => none) 0 hb.cells off b 0 vs (fun _ => ⟨q1, fun h => h, fun h => h⟩) (fun i hi => by rw [Nat.zero_add]; exact q2 i hi) (fun i hi => (q3 i hi).plain0)
          rwa [Nat.zero_add] at this
      · cases hk
    case iptr cells off =>
      refine ⟨_, hk, fun u hr => ?_⟩
      cases hr with
      | iptr _ _ _ b o vs g1 g2 g3 => exact .iptr _ _ _ b o vs (fun hne => ⟨(g1 hne).1, fun h => h, fun h => h⟩) g2 (fun i hi => (g3 i hi).plain0)
    case es => exact ⟨_, hk, fun u hr => by cases hr; exact .es _ _⟩
    case lst c n =>
      refine ⟨_, hk, fun u hr => ?_⟩
      cases hr with
      | lst _ _ _ cap b o vs g1 g2 g3 g4 => exact .lst _ _ _ _ b o vs (fun hne => ⟨(g1 hne).1, fun h => h, fun h => h⟩) g2 g3 (fun i hi => (g4 i hi).plain0)
      | lstn => exact .lstn _ _ _
    case sl id off n sz app =>
      split at hk
      · rename_i hb hid
        replace hk := of_cond hk; obtain ⟨hc, hk⟩ := hk
        obtain ⟨hp, hle⟩ := of_and hc
        replace hle := of_ble hle
        refine ⟨_, hk, fun u hr => ?_⟩
        have key : ∀ b cap, ω id = some b → n ≤ cap → Rep w (fun _ => False) (fun _ => False) (fun _ => none) 0 (.lst ((hb.cells.drop off).take (n * sz)) n) (.slice (some ⟨b, off, none⟩) n cap) := fun b cap hω hn => by
          obtain ⟨q1, vs, q2, q3⟩ := pure_cells H hid hp hω
          have := lst_take (w := w) (B := fun _ => False) (own := fun _ => False) (ω := fun _ => none) (nx := 0) (cells := hb.cells) (cap := cap) (b := b) (o := 0) (d := off) (m := n) (vs := vs) (fun _ => ⟨q1, fun h => h, fun h => h⟩) hn
            (fun i hi => by rw [Nat.zero_add]; exact q2 i hi) (fun i hi => (q3 i hi).plain0) (n * sz)
          rwa [Nat.zero_add] at this
        cases hr with
        | sl _ _ _ _ _ cap b g1 g2 g3 => exact key b cap g2 g3
        | sla _ _ _ _ cap b g1 g2 g3 g4 g5 => exact key b cap g2 g3
        | slan _ _ _ a0 g1 g2 =>
          simp only [Nat.zero_mul, List.take_zero]
          exact .lstn _ _ _
      · cases hk
    case fn f a b =>
      obtain ⟨a', h1, h2, h3⟩ := lists a _ hk
      obtain ⟨b', h4, h5, h6⟩ := lists b _ h1
      refine ⟨_, h4, fun u hr => ?_⟩
      cases hr with
      | fn _ _ _ _ fs cs g1 g2 g3 g4 =>
        obtain ⟨e1, e2⟩ := rep_list g1 g3 h2 h3
        obtain ⟨e3, e4⟩ := rep_list g2 g4 h5 h6
        exact .fn _ _ _ _ _ _ e1 e3 e2 e4
    case iface t v =>
      obtain ⟨v', h1, h2⟩ := ih v _ hk
      refine ⟨_, h1, fun u hr => ?_⟩
      cases hr with
      | iface _ _ _ _ g => exact .iface _ _ _ _ (h2 _ g)
    case agg cs =>
      obtain ⟨cs', h1, h2, h3⟩ := lists cs _ hk
      refine ⟨_, h1, fun u hr => ?_⟩
      cases hr with
      | agg _ _ vs g1 g2 => obtain ⟨e1, e2⟩ := rep_list g1 g2 h2 h3; exact .agg _ _ _ e1 e2
    case tup cs =>
      obtain ⟨cs', h1, h2, h3⟩ := lists cs _ hk
      refine ⟨_, h1, fun u hr => ?_⟩
      cases hr with
      | tup _ _ vs g1 g2 => obtain ⟨e1, e2⟩ := rep_list g1 g2 h2 h3; exact .tup _ _ _ e1 e2

/-- What a result variable holds. -/
def resSem (tmps : Array Value) (rv : ResultVar) : Sem Value :=
  match rv with
  | .tmp t => pure (tmps.getD t undef)
  | .cell a t => do loadVar t (← asAddr (tmps.getD a undef))
theorem results_eq (fn : Func) (tmps : Array Value) : results fn tmps = (do let vs ← fn.results.mapM (resSem tmps); pure (if h : vs.size = 1 then vs[0] else .tuple vs)) := rfl

theorem resK1_sound {st : St} {a : Act} (S : Sim C w B own ω st a) {rv : ResultVar} {k : AV → Bool} (hk : resK1 C st rv k false = true) :
    Reckons C.P w B own ω st.nx (resSem a.tmps rv) k := by
  cases rv with
  | tmp t =>
    have := S.ev (.tmp t)
    exact ⟨_, _, fun _ _ => rfl, this, hk⟩
  | cell x t =>
    simp only [resK1] at hk
    have hev := S.ev (.tmp x)
    simp only [evO, Act.eval] at hev
    split at hk
    · rename_i id off hx
      rw [hx] at hev
      split at hk
      · rename_i hb hid
        generalize hy : a.tmps.getD x undef = y at hev
        cases hev with
        | ptr _ _ _ b g1 g2 =>
          obtain ⟨v, u, r1, r2, r3⟩ := loadK_sound (S.hp.lies hid g2) hk
          rw [Nat.zero_add] at r1
          refine ⟨v, u, fun w' hw => ?_, r2, r3⟩
          unfold resSem
          simp only [hy, asAddr, Sem.run_bind, Sem.run_pure, Result.andThen_ok]
          exact r1 w' hw
      · cases hk
    · cases hk

theorem resKs_sound {st : St} {a : Act} (S : Sim C w B own ω st a) : ∀ (rs : List ResultVar) (k : List AV → Bool), resKs C st rs k false = true →
    ∃ vs us, (rs.mapM (resSem a.tmps)).run C.P w = .ok us w ∧ vs.length = us.length ∧ (∀ (j : Nat) (v : AV) (u : Value), vs[j]? = some v → us[j]? = some u → Rep w B own ω st.nx v u) ∧ k vs = true
  | [], k, hk => ⟨[], [], by simp [Sem.run], rfl, fun j v u h => by simp at h, hk⟩
  | r :: rs, k, hk => by
    obtain ⟨v, u, r1, r2, r3⟩ := resK1_sound S hk
    obtain ⟨vs, us, h1, h2, h3, h4⟩ := resKs_sound S rs _ r3
    refine ⟨v :: vs, u :: us, ?_, by simp [h2], fun j x y hx hy => ?_, h4⟩
    · simp only [List.mapM_cons, Sem.run_bind, r1 w (Same.refl w), Result.andThen_ok, h1, Sem.run_pure]
    · cases j with
      | zero => simp at hx hy; subst hx hy; exact r2
      | succ j => exact h3 j x y (by simpa using hx) (by simpa using hy)

theorem resK_sound {st : St} {a : Act} {fn : Func} (S : Sim C w B own ω st a) {k : AV → Bool} (hk : resK C fn st k false = true) : ∃ v u, (results fn a.tmps).run C.P w = .ok u w ∧ Rep w B own ω st.nx v u ∧ k v = true := by
  obtain ⟨vs, us, h1, h2, h3, h4⟩ := resKs_sound S _ _ hk
  have hrun : (results fn a.tmps).run C.P w = .ok (if h : us.toArray.size = 1 then us.toArray[0] else .tuple us.toArray) w := by
    rw [results_eq, Array.mapM_eq_mapM_toList]
    simp only [map_eq_pure_bind, bind_assoc, pure_bind, Sem.run_bind, h1, Result.andThen_ok, Sem.run_pure]
  refine ⟨_, _, hrun, ?_, h4⟩
  by_cases hl : us.length = 1
  · obtain ⟨u, rfl⟩ := List.length_eq_one_iff.1 hl
    obtain ⟨v, rfl⟩ := List.length_eq_one_iff.1 (h2.trans hl)
    exact h3 0 v u rfl rfl
  · have e : tupOf vs = .tup vs := by
      unfold tupOf
      split
      · rename_i v; simp at h2; omega
      · rfl
    rw [e]
    simp only [List.size_toArray, hl, dite_false]
    have := repL_of (w := w) (B := B) (own := own) (ω := ω) (nx := st.nx) (cells := vs) (arr := us.toArray) (by simpa using h2) (fun j a x ha hx => h3 j a x ha (by simpa using hx))
    exact .tup _ _ _ this.1 this.2

end
end Go.Bas
