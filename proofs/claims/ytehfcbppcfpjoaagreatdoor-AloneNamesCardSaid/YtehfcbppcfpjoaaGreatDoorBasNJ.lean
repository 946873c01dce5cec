/- The engine, part J: what a run's memory and state say of the model's; operations one behind the other. -/
import Derived.Test.YtehfcbppcfpjoaaGreatDoorBasNI
import Derived.RangeFuncLeaves
import Derived.OrdersIn
import Derived.LoopIn
import Derived.LoopNIn
namespace Go.Bas
open Go.RowKit
set_option linter.unusedSimpArgs false
set_option linter.unusedVariables false

/-- The fence that fences nothing: of an activation, or of a round. -/
def Fr (ro : Option Nat) : Fence := { fn := fun _ => True, depth := none, alive := false, round := ro }
theorem fr_none : Fr none = Fence.wide := rfl
theorem fr_fn (ro : Option Nat) (f : FuncId) : (Fr ro).fn f := trivial
theorem fr_room (ro : Option Nat) (n : Nat) : (Fr ro).room n := fun _ h => by cases h
theorem fr_deep (ro : Option Nat) {n : Nat} : (Fr ro).depth.isSome = true → 1 ≤ n := fun h => by cases h
theorem callsIn_fr {ro ro' : Option Nat} {n n' : Nat} {P : Program} {f : FuncId} {us : Array Value} {w : World} {R : Ending → World → Prop} (h : CallsIn (Fr ro) n P f us w R) : CallsIn (Fr ro') n' P f us w R :=
  ⟨trivial, fun cs _ => h.2 cs (fr_room _ _)⟩
theorem callsIn_calls {ro : Option Nat} {n : Nat} {P : Program} {f : FuncId} {us : Array Value} {w : World} {R : Ending → World → Prop} : CallsIn (Fr ro) n P f us w R ↔ Calls P f us w R :=
  ⟨fun h => (callsIn_wide (n := 0)).1 (callsIn_fr (ro' := none) h), fun h => callsIn_fr (ro := none) (n := 0) ((callsIn_wide (n := 0)).2 h)⟩

/-- A jump, as code. -/
def codeOf : Ex → Option Code
  | .ret => some .ret
  | .exit id => some (.exit id)
  | .goto l => some (.goto l)
  | _ => none
def stOf : Nat → LoopState
  | 0 => .ready
  | 1 => .busy
  | _ => .done
def LbIs (w : World) (B : Nat → Prop) (own : Nat → Prop) (ω : Nat → Option Nat) (nx l : Nat) : LB → Prop
  | .dfb => w.heap[l]? = some (.deferred (some []))
  | .lop s pend tmps params assign body d => ∃ r : Loop, w.heap[l]? = some (.loop r) ∧ r.state = stOf s ∧ r.pending = pend.bind codeOf ∧ (∀ e, pend = some e → (codeOf e).isSome = true) ∧
      RepL w B own ω nx tmps r.tmps ∧ r.params.toList = params ∧ r.assign = assign ∧ r.body = body ∧ d < nx ∧ ω d = some r.defers
  | .obj o => w.heap[l]? = some o ∧ ∀ c t f, o ≠ .cells c t f
/-- The loops over functions are as the abstract ones say. -/
structure LpOk (w : World) (B own oL : Nat → Prop) (ω : Nat → Option Nat) (nx : Nat) (lp : Loops) : Prop where
  rel : ∀ id e, lpget lp id = some e → id < nx ∧ ∃ l, ω id = some l ∧ oL l ∧ LbIs w B own ω nx l e
  inj : ∀ i j l, (lpget lp i).isSome = true → (lpget lp j).isSome = true → ω i = some l → ω j = some l → i = j
  dis : ∀ l, oL l → l < w.heap.size ∧ ¬ own l
/-- The marks among the deferred calls. -/
def Marks (ω : Nat → Option Nat) (nx : Nat) : List Nat → List Deferred → Prop
  | [], [] => True
  | d :: ds, x :: xs => (d < nx ∧ ∃ r, ω d = some r ∧ x = { target := .collected r, args := #[] }) ∧ Marks ω nx ds xs
  | _, _ => False

abbrev Or2 (a b : Nat → Prop) : Nat → Prop := fun x => a x ∨ b x
structure MemSim (C : Cfg) (w : World) (B oC oL : Nat → Prop) (ω : Nat → Option Nat) (m : Mem) : Prop where
  hp : Hp w (Or2 B oL) oC ω m.nx m.heap
  lp : LpOk w (Or2 B oL) oC oL ω m.nx m.lp
  gl : GOk C.G w
  gb : ∀ g cells, C.G g = some cells → ¬ oC g ∧ ¬ oL g ∧ ¬ B g
  bl : ∀ b, B b → b < w.heap.size
structure Sim (C : Cfg) (w : World) (B oC oL : Nat → Prop) (ω : Nat → Option Nat) (st : St) (a : Act) : Prop where
  tm : RepL w (Or2 B oL) oC ω st.m.nx st.tmps a.tmps
  dn : Marks ω st.m.nx st.ds a.defers
  ms : MemSim C w B oC oL ω st.m
/-- What a run leaves as it was. -/
def ExtR (w : World) (oC oL : Nat → Prop) (ω : Nat → Option Nat) (nx : Nat) (w' : World) (oC' oL' : Nat → Prop) (ω' : Nat → Option Nat) (nx' : Nat) : Prop :=
  Ext w (Or2 oC oL) ω nx w' (Or2 oC' oL') ω' nx'

section
variable {C : Cfg} {w w' : World} {B oC oL oC' oL' : Nat → Prop} {ω ω' : Nat → Option Nat} {nx nx' : Nat}

theorem ExtR.refl : ExtR w oC oL ω nx w oC oL ω nx := Ext.refl _ _ _ _
theorem ExtR.trans {w2 : World} {oC2 oL2 : Nat → Prop} {ω2 : Nat → Option Nat} {nx2 : Nat} (h : ExtR w oC oL ω nx w' oC' oL' ω' nx') (h' : ExtR w' oC' oL' ω' nx' w2 oC2 oL2 ω2 nx2) : ExtR w oC oL ω nx w2 oC2 oL2 ω2 nx2 := Ext.trans h h'
theorem Rep.out {v : AV} {u : Value} (h : Rep w (Or2 B oL) oC ω nx v u) : Rep w B (Or2 oC oL) ω nx v u :=
  h.mono (Nat.le_refl _) (fun _ _ h1 h2 => ⟨rfl, fun h => h.elim h1 (fun h => h2 (.inr h)), fun h => h2 (.inl h)⟩) (fun _ _ h1 h2 => ⟨h1, h2⟩) (fun _ _ h => h)
theorem Rep.inn {v : AV} {u : Value} (h : Rep w B (Or2 oC oL) ω nx v u) : Rep w (Or2 B oL) oC ω nx v u :=
  h.mono (Nat.le_refl _) (fun _ _ h1 h2 => ⟨rfl, fun h => h1 (.inl h), fun h => h.elim h2 (fun h => h1 (.inr h))⟩) (fun _ _ h1 h2 => ⟨h1, h2⟩) (fun _ _ h => h)
theorem Rep.extR {v : AV} {u : Value} (h : Rep w (Or2 B oL) oC ω nx v u) (e : ExtR w oC oL ω nx w' oC' oL' ω' nx') : Rep w' (Or2 B oL') oC' ω' nx' v u := (h.out.ext e).inn
theorem Rep.extR0 {v : AV} {u : Value} (h : Rep w (Or2 B oL) oC ω 0 v u) (e : ExtR w oC oL ω nx w' oC' oL' ω' nx') : Rep w' (Or2 B oL') oC' ω' 0 v u := (h.out.ext0 e).inn
theorem RepL.extR {cs : List AV} {us : Array Value} (h : RepL w (Or2 B oL) oC ω nx cs us) (e : ExtR w oC oL ω nx w' oC' oL' ω' nx') : RepL w' (Or2 B oL') oC' ω' nx' cs us :=
  ⟨h.1, fun i hi => (h.2 i hi).extR e⟩
theorem Marks.extR : ∀ {ds : List Nat} {xs : List Deferred}, Marks ω nx ds xs → ExtR w oC oL ω nx w' oC' oL' ω' nx' → Marks ω' nx' ds xs
  | [], [], _, _ => trivial
  | d :: ds, x :: xs, h, e => ⟨⟨Nat.lt_of_lt_of_le h.1.1 e.nxle, let ⟨r, h1, h2⟩ := h.1.2; ⟨r, e.om' d r h.1.1 h1, h2⟩⟩, h.2.extR e⟩
  | [], _ :: _, h, _ => h.elim
  | _ :: _, [], h, _ => h.elim

theorem RepL.ext {B own own' : Nat → Prop} {cs : List AV} {us : Array Value} (h : RepL w B own ω nx cs us) (e : Ext w own ω nx w' own' ω' nx') : RepL w' B own' ω' nx' cs us :=
  ⟨h.1, fun i hi => (h.2 i hi).ext e⟩

/-- Operations leave loops over functions alone. -/
theorem Ext.toR (h : Ext w oC ω nx w' oC' ω' nx') : ExtR w oC oL ω nx w' oC' oL ω' nx' :=
  ⟨h.os, h.tape, h.output, h.size, fun b hb hn => h.old b hb (fun ho => hn (.inl ho)), fun b hb => hb.elim (fun hb => (h.owns b hb).elim (fun h => .inl (.inl h)) .inr) (fun hb => .inl (.inr hb)), h.nxle, h.om, h.row⟩
theorem LbIs.ext {l : Nat} {e : LB} {B' : Nat → Prop} (h : LbIs w B oC ω nx l e) (hl : w'.heap[l]? = w.heap[l]?) (E : Ext w oC ω nx w' oC' ω' nx') : LbIs w' B oC' ω' nx' l e := by
  cases e with
  | dfb => exact hl.trans h
  | obj o => exact ⟨hl.trans h.1, h.2⟩
  | lop s pend tmps params assign body d =>
    obtain ⟨r, h1, h2, h3, h4, h5, h6, h7, h8, h9, h10⟩ := h
    exact ⟨r, hl.trans h1, h2, h3, h4, h5.ext E, h6, h7, h8, Nat.lt_of_lt_of_le h9 E.nxle, E.om' _ _ h9 h10⟩
theorem LpOk.ext {lp : Loops} (h : LpOk w B oC oL ω nx lp) (E : Ext w oC ω nx w' oC' ω' nx') : LpOk w' B oC' oL ω' nx' lp where
  rel id e he := by
    obtain ⟨h1, l, h2, h3, h4⟩ := h.rel id e he
    have hd := h.dis l h3
    exact ⟨Nat.lt_of_lt_of_le h1 E.nxle, l, E.om' _ _ h1 h2, h3, h4.ext (B' := B) (E.old l hd.1 hd.2) E⟩
  inj i j l hi hj h1 h2 := by
    obtain ⟨x, hx⟩ := Option.isSome_iff_exists.1 hi
    obtain ⟨y, hy⟩ := Option.isSome_iff_exists.1 hj
    obtain ⟨a1, l1, a2, _⟩ := h.rel i x hx
    obtain ⟨b1, l2, b2, _⟩ := h.rel j y hy
    have e1 := E.om' _ _ a1 a2
    have e2 := E.om' _ _ b1 b2
    rw [h1] at e1
    rw [h2] at e2
    cases e1
    cases e2
    exact h.inj i j l hi hj a2 b2
  dis l hl := ⟨Nat.lt_of_lt_of_le (h.dis l hl).1 E.size, fun ho => (E.owns l ho).elim (h.dis l hl).2 (fun hs => by have := (h.dis l hl).1; omega)⟩
theorem GOk.ext {B' : Nat → Prop} {own own' : Nat → Prop} (hg : GOk C.G w) (gb : ∀ g cells, C.G g = some cells → ¬ own g) (E : Ext w own ω nx w' own' ω' nx') :
    GOk C.G w' ∧ ∀ g cells, C.G g = some cells → ¬ own' g := by
  refine ⟨fun g cells h => ?_, fun g cells h ho => ?_⟩
  · obtain ⟨h1, vs, h2, h3⟩ := hg g cells h
    refine ⟨Nat.lt_of_lt_of_le h1 E.size, vs, fun i hi => ?_, h3⟩
    rw [← h2 i hi]
    exact World.cell?_of_block (E.old g h1 (gb g cells h))
  · rcases E.owns g ho with h' | h'
    · exact gb g cells h h'
    · have := (hg g cells h).1; omega
/-- An operation is done. -/
theorem MemSim.op {m : Mem} (S : MemSim C w B oC oL ω m) {h' : Heap} (E : Ext w oC ω m.nx w' oC' ω' nx') (H : Hp w' (Or2 B oL) oC' ω' nx' h') : MemSim C w' B oC' oL ω' ⟨h', nx', m.lp⟩ := by
  obtain ⟨g1, g2⟩ := S.gl.ext (B' := B) (fun g cells h => (S.gb g cells h).1) E
  exact ⟨H, S.lp.ext E, g1, fun g cells h => ⟨g2 g cells h, (S.gb g cells h).2⟩, fun b hb => Nat.lt_of_lt_of_le (S.bl b hb) E.size⟩

theorem GOk.rep {B' own : Nat → Prop} (hg : GOk C.G w) {g : Nat} {cells : List AV} (h : C.G g = some cells) (gb : ¬ own g ∧ ¬ B' g) : Rep w B' own ω nx (.iptr cells 0) (.pointer (some ⟨g, 0, none⟩)) := by
  obtain ⟨h1, vs, h2, h3⟩ := hg g cells h
  exact .iptr _ _ 0 g 0 vs (fun _ => ⟨h1, gb⟩) (fun i hi => by rw [Nat.zero_add]; exact h2 i hi) (fun i hi => h3 i hi _ _ _ _ _)

theorem rep_ev {m : Mem} {tmps : List AV} {a : Act} (S : MemSim C w B oC oL ω m) (ht : RepL w (Or2 B oL) oC ω m.nx tmps a.tmps) (x : Operand) : Rep w (Or2 B oL) oC ω m.nx (evO C tmps x) (a.eval x) := by
  cases x with
  | tmp t =>
    simp only [evO, Act.eval, lget_eq]
    by_cases h : t < tmps.length
    · have := ht.2 t h
      simpa [h] using this
    · simp only [List.getD_eq_getElem?_getD, List.getElem?_eq_none (Nat.le_of_not_lt h), Option.getD_none]
      exact .any _ _
  | const v => exact rep_ofV _ _ _ _ _ _
  | global g =>
    simp only [evO, Act.eval]
    split
    · rename_i cells h
      have := S.gb g cells h
      exact S.gl.rep h ⟨this.1, fun hh => hh.elim this.2.2 this.2.1⟩
    · exact .any _ _
  | func f => exact .fn _ _ _ _ _ _ rfl rfl (fun i hi => absurd hi (Nat.not_lt_zero _)) (fun i hi => absurd hi (Nat.not_lt_zero _))
theorem Sim.ev {st : St} {a : Act} (S : Sim C w B oC oL ω st a) (x : Operand) : Rep w (Or2 B oL) oC ω st.m.nx (evO C st.tmps x) (a.eval x) := rep_ev S.ms S.tm x

theorem RepL.set {B : Nat → Prop} {own : Nat → Prop} {cs : List AV} {arr : Array Value} (hl : RepL w B own ω nx cs arr) (d : Nat) {v : AV} {u : Value} (hr : Rep w B own ω nx v u) : RepL w B own ω nx (lset cs d v) (arr.setIfInBounds d u) := by
  rw [lset_eq]
  refine repL_of (by simpa using hl.1) (fun j a x ha hx => ?_)
  have := hl.1
  by_cases h : j = d
  · subst h
    rw [List.getElem?_set] at ha
    rw [Array.getElem?_setIfInBounds] at hx
    simp only [if_true] at ha hx
    split at ha
    · rename_i hlt
      rw [if_pos (by omega)] at hx
      rw [← Option.some.inj ha, ← Option.some.inj hx]
      exact hr
    · cases ha
  · rw [List.getElem?_set_ne (Ne.symm h)] at ha
    rw [Array.getElem?_setIfInBounds_ne (Ne.symm h)] at hx
    exact hl.at ha hx
theorem RepL.setT {B : Nat → Prop} {own : Nat → Prop} {cs : List AV} {a : Act} (hl : RepL w B own ω nx cs a.tmps) (dst : Option Nat) {v : AV} {u : Value} (hr : Rep w B own ω nx v u) : RepL w B own ω nx (setT cs dst v) (a.put dst u).tmps := by
  cases dst with
  | none => exact hl
  | some d => exact hl.set d hr
theorem put_defers (a : Act) (dst : Option Nat) (u : Value) : (a.put dst u).defers = a.defers := by cases dst <;> rfl

/-- A value comes into a temporary. -/
theorem Sim.put {st : St} {a : Act} (S : Sim C w B oC oL ω st a) {m' : Mem} {dst : Option Tmp} {v : AV} {u : Value} (E : ExtR w oC oL ω st.m.nx w' oC' oL' ω' m'.nx) (M : MemSim C w' B oC' oL' ω' m') (hr : Rep w' (Or2 B oL') oC' ω' m'.nx v u) :
    Sim C w' B oC' oL' ω' ⟨setT st.tmps dst v, st.ds, m'⟩ (a.put dst u) :=
  ⟨(S.tm.extR E).setT dst hr, by rw [put_defers]; exact S.dn.extR E, M⟩

/-- How a call ends. -/
def CallEnd (C : Cfg) (w : World) (B oC oL : Nat → Prop) (ω : Nat → Option Nat) (nx : Nat) (kk : AV → Mem → Bool) (kp : AV → Mem → Bool) (e : Ending) (w' : World) : Prop :=
  (∃ v u m' oC' oL' ω', e = .returned u ∧ kk v m' = true ∧ ExtR w oC oL ω nx w' oC' oL' ω' m'.nx ∧ MemSim C w' B oC' oL' ω' m' ∧ Rep w' (Or2 B oL') oC' ω' m'.nx v u) ∨
  (∃ v u m' oC' oL' ω', e = .panicked [{ v := u, recovered := false }] ∧ kp v m' = true ∧ ExtR w oC oL ω nx w' oC' oL' ω' m'.nx ∧ MemSim C w' B oC' oL' ω' m' ∧ Rep w' (Or2 B oL') oC' ω' m'.nx v u)
/-- The way of calls is right. -/
def CallOk (C : Cfg) (call : CallF Bool) : Prop :=
  ∀ t args m kk kp (w : World) (B oC oL : Nat → Prop) (ω : Nat → Option Nat) (us : Array Value), call t args m kk kp = true → MemSim C w B oC oL ω m → RepL w (Or2 B oL) oC ω m.nx args us →
    match t with
    | .fn f => (callFunc f us).run C.P w = .ok (.enter f us) w ∧ CallsIn (Fr none) 0 C.P f us w (CallEnd C w B oC oL ω m.nx kk kp)
    | .yld id => ∀ l, ω id = some l → ∃ fn tmps assign body, (Instr.yield l us).run C.P w = .ok (.round l fn tmps assign body) w ∧ ∀ ro, RoundIn (Fr ro) 0 C.P l fn tmps assign body w (CallEnd C w B oC oL ω m.nx kk kp)

theorem guardK_sound {ops : Array Oper} {tmps : List AV} {arr : Array Value} {B' own : Nat → Prop} (ht : RepL w B' own ω nx tmps arr) {o : Oper} {x y : List AV → Bool} (hk : guardK ops tmps o x y false = true) :
    (Region.wanted o (yielded ops arr) = true ∧ x tmps = true) ∨ (Region.wanted o (yielded ops arr) = false ∧ y tmps = true) := by
  unfold guardK at hk
  split at hk
  · rename_i hg
    exact .inl ⟨by simp [Region.wanted, hg], hk⟩
  · rename_i j want hg
    split at hk
    · rename_i oj hoj
      split at hk
      · rename_i d hdst
        have hev : Rep w B' own ω nx (lget tmps d) (arr.getD d undef) := by
          rw [lget_eq]
          by_cases h : d < tmps.length
          · simpa [h] using ht.2 d h
          · simp only [List.getD_eq_getElem?_getD, List.getElem?_eq_none (Nat.le_of_not_lt h), Option.getD_none]
            exact .any _ _
        have hy : ∀ v, arr[d]? = some v → yielded ops arr j = (match v with | .bool b => some b | _ => none) := fun v hv => by
          simp only [yielded, hoj, Option.bind_some, hdst, hv]
          cases v <;> rfl
        split at hk
        · rename_i b hb
          rw [hb] at hev
          have hset : ∀ c, c = b → lset tmps d (.bool c) = tmps := fun c e => by
            subst e
            rw [lset_eq]
            rw [lget_eq] at hb
            refine List.ext_getElem? fun i => ?_
            by_cases hi : i = d
            · subst hi
              by_cases hl : i < tmps.length
              · rw [List.getElem?_set_self hl]
                have : tmps[i]? = some (tmps.getD i .any) := by simp [hl]
                rw [this, hb]
              · rw [List.getElem?_eq_none (by simpa using Nat.le_of_not_lt hl), List.getElem?_eq_none (Nat.le_of_not_lt hl)]
            · rw [List.getElem?_set_ne (Ne.symm hi)]
          have hd3 : d < arr.size := by
            rw [← ht.1]
            rcases Nat.lt_or_ge d tmps.length with h | h
            · exact h
            · rw [lget_eq] at hb
              simp [List.getElem?_eq_none h] at hb
          have hyy := hy _ (Array.getElem?_eq_getElem hd3)
          rw [getD_lt hd3] at hev
          generalize arr[d] = xx at hev hyy
          cases hev
          simp only at hyy
          cases b with
          | true =>
            simp only [cond_true, hset true rfl] at hk
            rcases of_cond2 hk with ⟨h1, h2⟩ | ⟨h1, h2⟩
            · exact .inl ⟨by simp [Region.wanted, hg, hyy, h1], h2⟩
            · exact .inr ⟨by simp [Region.wanted, hg, hyy, h1], h2⟩
          | false =>
            simp only [cond_false, hset false rfl] at hk
            rcases of_cond2 hk with ⟨h1, h2⟩ | ⟨h1, h2⟩
            · exact .inr ⟨by simp [Region.wanted, hg, hyy, h1], h2⟩
            · exact .inl ⟨by simp [Region.wanted, hg, hyy, h1], h2⟩
        · rename_i l hb
          rw [hb] at hev
          refine .inr ⟨?_, hk⟩
          have : yielded ops arr j = none := by
            cases hx : arr[d]? with
            | none => simp [yielded, hoj, hdst, hx]
            | some xx =>
              rw [hy xx hx]
              have : arr.getD d undef = xx := by simp [Array.getD_eq_getD_getElem?, hx]
              rw [this] at hev
              cases hev
              rfl
          simp [Region.wanted, hg, this]
        · cases hk
      · cases hk
    · cases hk

theorem aop_noDefer {ρ : Operand → AV} {h : Heap} {op : Op} {kv : AV → Heap → Nat → Bool} {kc : Tgt → List AV → Bool} {kp : AV → Bool} (hk : aop C ρ h nx op kv kc kp false = true) : ∀ c, op ≠ .defer c := fun c e => by
  subst e
  cases hk

theorem about_fr (ro : Option Nat) (o : Oper) (P : Program) (w : World) (ρ : Operand → Value) : ∀ f, o.about P w ρ = some f → (Fr ro).fn f := fun _ _ => trivial

/-- One operation, carried out. -/
theorem oper_wp {call : CallF Bool} (hcall : CallOk C call) {ro : Option Nat} {o : Oper} {st : St} {a : Act} {h : Heap} {m : Mem} {kv : AV → Heap → Nat → Bool} {kc : Tgt → List AV → Bool} {kp : AV → Bool} {ρ : Operand → AV} {K : Act → World → Prop} {Q : Exit → Act → World → Prop}
    (M : MemSim C w B oC oL ω m) (hρ : ∀ x, Rep w (Or2 B oL) oC ω m.nx (ρ x) (a.eval x)) (hk : aop C ρ m.heap m.nx o.op kv kc kp false = true)
    (hv : ∀ v u h' nx' w' oC' ω', kv v h' nx' = true → Ext w oC ω m.nx w' oC' ω' nx' → MemSim C w' B oC' oL ω' ⟨h', nx', m.lp⟩ → Rep w' (Or2 B oL) oC' ω' nx' v u → K (a.put o.dst u) w')
    (kk : AV → Mem → Bool) (kq : AV → Mem → Bool) (hc : ∀ t args, kc t args = true → call t args m kk kq = true)
    (hr : ∀ v u m' w' oC' oL' ω', kk v m' = true → ExtR w oC oL ω m.nx w' oC' oL' ω' m'.nx → MemSim C w' B oC' oL' ω' m' → Rep w' (Or2 B oL') oC' ω' m'.nx v u → K (a.put o.dst u) w')
    (hp : ∀ v u m' w' oC' oL' ω', kq v m' = true → ExtR w oC oL ω m.nx w' oC' oL' ω' m'.nx → MemSim C w' B oC' oL' ω' m' → Rep w' (Or2 B oL') oC' ω' m'.nx v u → Q (.panic [{ v := u, recovered := false }]) a w')
    (hp0 : ∀ v u, kp v = true → Rep w (Or2 B oL) oC ω m.nx v u → Q (.panic [{ v := u, recovered := false }]) a w) :
    o.wpIn (Fr ro) 0 C.P a w K Q := by
  refine ⟨about_fr _ _ _ _ _, ?_⟩
  rw [Oper.semAt_eq _ _ _ (aop_noDefer hk)]
  have fin : ∀ e w', CallEnd C w B oC oL ω m.nx kk kq e w' → (match e with
      | .returned v => K (a.put o.dst v) w'
      | .panicked chain => Q (.panic chain) a w'
      | .outgrown => LetsOut Q) := fun e w' he => by
    rcases he with ⟨v, u, m', oC', oL', ω', rfl, h1, h2, h3, h4⟩ | ⟨v, u, m', oC', oL', ω', rfl, h1, h2, h3, h4⟩
    · exact hr v u m' w' oC' oL' ω' h1 h2 h3 h4
    · exact hp v u m' w' oC' oL' ω' h1 h2 h3 h4
  rcases aop_sound C M.hp hρ hk with ⟨u, w', v, h', nx', oC', ω', hrun, h1, h2, h3, h4⟩ | ⟨t, args, us, hrun, h1, h2⟩ | ⟨v, u, hrun, h1, h2⟩
  · have := hv v u h' nx' w' oC' ω' h1 h2 (M.op h2 h3) h4
    rcases hrun with hrun | ⟨hrun, rfl⟩
    · rw [hrun, Oper.uponIn_value]; exact this
    · rw [hrun, Oper.uponIn_skip]; exact this
  · have := hcall t args m kk kq w B oC oL ω us (hc t args h1) M h2
    cases t with
    | fn f =>
      simp only [TgtRun] at hrun
      obtain ⟨c1, c2⟩ := this
      rw [hrun, c1, Oper.uponIn_enter]
      refine ⟨fr_deep ro, (callsIn_fr c2).mono fun e w' he => ?_⟩
      have := fin e w' he
      cases e <;> exact this
    | yld id =>
      obtain ⟨l, hl, hrun⟩ := hrun
      obtain ⟨fn, tmps, assign, body, c1, c2⟩ := this l hl
      rw [hrun, c1, Oper.uponIn_round]
      refine ⟨fr_deep ro, (c2 ro).mono fun e w' he => ?_⟩
      have := fin e w' he
      cases e <;> exact this
  · rw [hrun, Oper.uponIn_panic]
    exact hp0 v u h1 h2

/-- How an end is one of the model's. -/
def OutIs (w : World) (B oC oL : Nat → Prop) (ω : Nat → Option Nat) (nx : Nat) : Ex → Exit → Prop
  | .normal, x => x = .normal
  | .exit id, x => x = .exit id
  | .goto l, x => x = .goto l
  | .ret, x => x = .ret
  | .panic v, x => ∃ u, x = .panic [{ v := u, recovered := false }] ∧ Rep w (Or2 B oL) oC ω nx v u

/-- What a run does with its own maps is right. -/
def MapOk (C : Cfg) : Prop := ∀ (w : World) (B oC oL : Nat → Prop) (ω : Nat → Option Nat) (m : Mem) (ρ : Operand → AV) (e : Operand → Value) (o : Oper) (kv : AV → Mem → Bool), mapK C ρ m o.op kv false = true → MemSim C w B oC oL ω m → (∀ x, Rep w (Or2 B oL) oC ω m.nx (ρ x) (e x)) →
  ∃ v u m' w' oC' oL' ω', ((execOp e o).run C.P w = .ok (.value u) w' ∨ ((execOp e o).run C.P w = .ok .skip w' ∧ u = undef)) ∧ kv v m' = true ∧ ExtR w oC oL ω m.nx w' oC' oL' ω' m'.nx ∧ MemSim C w' B oC' oL' ω' m' ∧ Rep w' (Or2 B oL') oC' ω' m'.nx v u
theorem ops_sound {call : CallF Bool} (hcall : CallOk C call) (hmap : MapOk C) {ro : Option Nat} {ops : Array Oper} {Q : Exit → Act → World → Prop} {k : St → Bool} {kp : AV → St → Bool} :
    ∀ (rest : List Oper) (i : Nat), ops.toList.drop i = rest → ∀ (st : St) (a : Act) (w : World) (oC oL : Nat → Prop) (ω : Nat → Option Nat), opsK C call ops rest st k kp false = true → Sim C w B oC oL ω st a →
      (∀ st' a' w' oC' oL' ω', Sim C w' B oC' oL' ω' st' a' → ExtR w oC oL ω st.m.nx w' oC' oL' ω' st'.m.nx → k st' = true → Q .normal a' w') →
      (∀ v u st' a' w' oC' oL' ω', Sim C w' B oC' oL' ω' st' a' → ExtR w oC oL ω st.m.nx w' oC' oL' ω' st'.m.nx → kp v st' = true → Rep w' (Or2 B oL') oC' ω' st'.m.nx v u → Q (.panic [{ v := u, recovered := false }]) a' w') →
      wpOpsIn (Fr ro) 0 C.P ops Q (List.range' i rest.length) a w
  | [], i, _, st, a, w, oC, oL, ω, hk, S, hQ, hP => hQ st a w oC oL ω S ExtR.refl hk
  | o :: r, i, hd, st, a, w, oC, oL, ω, hk, S, hQ, hP => by
    have hlt : i < ops.toList.length := by
      rcases Nat.lt_or_ge i ops.toList.length with h | h
      · exact h
      · rw [List.drop_eq_nil_of_le h] at hd; cases hd
    have ho : ops[i]? = some o := by
      have h0 : (ops.toList.drop i)[0]? = some o := by rw [hd]; rfl
      rw [List.getElem?_drop] at h0
      simpa using h0
    have hr : ops.toList.drop (i + 1) = r := by rw [← List.drop_drop, hd]; rfl
    have go : ∀ (v : AV) (u : Value) (m' : Mem) (w' : World) (oC' oL' : Nat → Prop) (ω' : Nat → Option Nat), opsK C call ops r ⟨setT st.tmps o.dst v, st.ds, m'⟩ k kp false = true → ExtR w oC oL ω st.m.nx w' oC' oL' ω' m'.nx → MemSim C w' B oC' oL' ω' m' → Rep w' (Or2 B oL') oC' ω' m'.nx v u →
        wpOpsIn (Fr ro) 0 C.P ops Q (List.range' (i + 1) r.length) (a.put o.dst u) w' := fun v u m' w' oC' oL' ω' hk E M hr' =>
      ops_sound hcall hmap r (i + 1) hr _ _ w' oC' oL' ω' hk (S.put E M hr') (fun st' a' w'' oC'' oL'' ω'' S' E' hk' => hQ st' a' w'' oC'' oL'' ω'' S' (E.trans E') hk')
        (fun v u st' a' w'' oC'' oL'' ω'' S' E' hk' hr'' => hP v u st' a' w'' oC'' oL'' ω'' S' (E.trans E') hk' hr'')
    simp only [List.length_cons, List.range'_succ, wpOpsIn, ho]
    rw [opsK_cons] at hk
    rcases guardK_sound S.tm hk with ⟨hw, h⟩ | ⟨hw, h⟩
    · rw [if_pos hw]
      rcases of_cond2 h with ⟨hb, h⟩ | ⟨hb, h⟩
      · obtain ⟨v, u, m', w', oC', oL', ω', hrun, h1, h2, h3, h4⟩ := hmap w B oC oL ω st.m _ a.eval o _ h S.ms S.ev
        refine ⟨about_fr _ _ _ _ _, ?_⟩
        rw [Oper.semAt_eq _ _ _ (fun c e => by rw [e] at hb; cases hb)]
        have := go v u m' w' oC' oL' ω' h1 h2 h3 h4
        rcases hrun with hrun | ⟨hrun, rfl⟩
        · rw [hrun, Oper.uponIn_value]; exact this
        · rw [hrun, Oper.uponIn_skip]; exact this
      exact oper_wp hcall (st := st) (h := st.m.heap) S.ms S.ev h (fun v u h' nx' w' oC' ω' hk' E M hr' => go v u _ w' oC' oL ω' hk' E.toR M hr')
        (fun v m' => opsK C call ops r ⟨setT st.tmps o.dst v, st.ds, m'⟩ k kp false) (fun v m' => kp v ⟨st.tmps, st.ds, m'⟩) (fun t args h => h)
        (fun v u m' w' oC' oL' ω' hk' E M hr' => go v u m' w' oC' oL' ω' hk' E M hr')
        (fun v u m' w' oC' oL' ω' hk' E M hr' => hP v u ⟨st.tmps, st.ds, m'⟩ a w' oC' oL' ω' ⟨S.tm.extR E, S.dn.extR E, M⟩ E hk' hr')
        (fun v u hk' hr' => hP v u _ a w oC oL ω S ExtR.refl hk' hr')
    · rw [if_neg (by simp [hw])]
      exact ⟨about_fr _ _ _ _ _, go (.tup []) undef st.m w oC oL ω h ExtR.refl S.ms (.tup _ _ _ rfl (fun i hi => absurd hi (Nat.not_lt_zero _)))⟩
end
end Go.Bas
