/- The engine, part J: a run that comes to 'true' is the model's; and so is a function's call. -/
import Derived.Test.YtakdfjdpjggdkaaBasEngI
import Derived.LoopN
import Derived.Scope
namespace Go.Bas
open Go.RowKit
set_option linter.unusedSimpArgs false
set_option linter.unusedVariables false

/-- A scope, its jumps counted. -/
def scopeRounds (P : Program) (body : Code) (Q : Exit → Act → World → Prop) : Nat → Code → Act → World → Prop
  | 0, _, _, _ => False
  | n + 1, cur, a, w => cur.wp P (fun e a' w' => match e with
    | .goto l => match findLabel body l with
      | some rest => scopeRounds P body Q n rest a' w'
      | none => Q (.goto l) a' w'
    | e => Q e a' w') a w
theorem wp_scopeRounds {P : Program} {body : Code} {Q : Exit → Act → World → Prop} {n : Nat} {a : Act} {w : World} (h : scopeRounds P body Q n body a w) : (Code.scope body).wp P Q a w := by
  intro b k cs
  have key : ∀ n cur a w, scopeRounds P body Q n cur a w → ∃ e a' w', Q e a' w' ∧ Arrives P (lone (b.at a (.code cur :: .inScope body :: k)) cs w) b k cs e a' w' := by
    intro n
    induction n with
    | zero => intro cur a w h; exact h.elim
    | succ n ih =>
      intro cur a w h
      obtain ⟨e, a₁, w₁, hq, harr⟩ := h b (.inScope body :: k) cs
      cases e with
      | normal => exact ⟨.normal, a₁, w₁, hq, Steps.trans harr (.one step_inScope)⟩
      | exit id => exact ⟨.exit id, a₁, w₁, hq, fun k' hk => harr k' (by simp [exitTo, hk])⟩
      | goto l =>
        simp only at hq
        split at hq
        · rename_i rest hf
          obtain ⟨e₂, a₂, w₂, hq₂, harr₂⟩ := ih rest a₁ w₁ hq
          exact ⟨e₂, a₂, w₂, hq₂, .of_steps (harr _ (by simp [gotoIn, hf])) harr₂⟩
        · rename_i hf
          exact ⟨.goto l, a₁, w₁, hq, fun k' hk => harr k' (by simp [gotoIn, hf, hk])⟩
      | ret => exact ⟨_, a₁, w₁, hq, harr⟩
      | panic ch => exact ⟨_, a₁, w₁, hq, harr⟩
      | outgrown => exact ⟨_, a₁, w₁, hq, harr⟩
  obtain ⟨e, a₁, w₁, hq, harr⟩ := key n body a w h
  exact ⟨e, a₁, w₁, hq, .of_steps (.one step_scope) harr⟩

section
variable {C : Cfg}

/-- What is asked of the ways out. -/
def Outs (C : Cfg) (B : Nat → Prop) (w : World) (own : Nat → Prop) (ω : Nat → Option Nat) (nx : Nat) (k : Ex → St → Bool) (Q : Exit → Act → World → Prop) : Prop :=
  ∀ e st' a' w' own' ω', Sim C w' B own' ω' st' a' → Ext w own ω nx w' own' ω' st'.nx → k e st' = true → Q e.out a' w'

theorem ext_call {w w' : World} {own : Nat → Prop} {ω : Nat → Option Nat} {nx : Nat} (E : Ext w (fun _ => False) (fun _ => none) 0 w' (fun _ => False) (fun _ => none) 0) : Ext w own ω nx w' own ω nx :=
  ⟨E.os, E.tape, E.output, E.size, fun b hb _ => E.old b hb (fun h => h), fun _ h => .inl h, Nat.le_refl _, fun _ _ => rfl, E.row⟩

theorem hp_call {B : Nat → Prop} {w w' : World} {own : Nat → Prop} {ω : Nat → Option Nat} {nx : Nat} {h : Heap} (H : Hp w B own ω nx h) (E : Ext w (fun _ => False) (fun _ => none) 0 w' (fun _ => False) (fun _ => none) 0) : Hp w' B own ω nx h := by
  have E' : Ext w own ω nx w' own ω nx := ext_call E
  refine ⟨fun id hb hid => ?_, H.inj, fun b hb => Nat.lt_of_lt_of_le (H.ob b hb) E.size⟩
  obtain ⟨h1, h2⟩ := H.rel id hb hid
  refine ⟨h1, ?_⟩
  rcases h2 with h2 | ⟨b, arr, h2, h3, h4, h5, h6⟩
  · exact .inl h2
  · exact .inr ⟨b, arr, h2, h3, by rw [E.old b (H.ob b h3) (fun h => h)]; exact h4, h5, fun i hi => rep_cond_ext (h6 i hi) E'⟩

/-- What leads into no memory is the same in every world. -/
theorem Rep.noMem {B : Nat → Prop} {w : World} {own : Nat → Prop} {ω : Nat → Option Nat} {nx : Nat} {v : AV} {u : Value} (h : Rep w B own ω nx v u) : ∀ {d : Nat}, v.noMem d = true → ∀ w' B' own' ω' nx', Rep w' B' own' ω' nx' v u := by
  induction h with
  | any => intro _ _ _ _ _ _ _; exact .any _ _
  | bool => intro _ _ _ _ _ _ _; exact .bool _ _
  | int => intro _ _ _ _ _ _ _; exact .int _ _ _
  | str => intro _ _ _ _ _ _ _; exact .str _ _
  | nilp => intro _ _ _ _ _ _ _; exact .nilp _
  | ptr => intro d hd; cases d <;> simp [AV.noMem] at hd
  | iptr => intro d hd; cases d <;> simp [AV.noMem] at hd
  | nils => intro _ _ _ _ _ _ _; exact .nils _
  | es => intro _ _ _ _ _ _ _; exact .es _ _
  | lst => intro d hd; cases d <;> simp [AV.noMem] at hd
  | lstn => intro d hd; cases d <;> simp [AV.noMem] at hd
  | sl => intro d hd; cases d <;> simp [AV.noMem] at hd
  | sla => intro d hd; cases d <;> simp [AV.noMem] at hd
  | slan => intro d hd; cases d <;> simp [AV.noMem] at hd
  | fn nx f first cap fs cs h1 h2 _ _ ih1 ih2 =>
    intro d hd w' B' own' ω' nx'
    cases d with
    | zero => simp [AV.noMem] at hd
    | succ d =>
      simp only [AV.noMem, Bool.and_eq_true, List.all_eq_true] at hd
      exact .fn _ _ _ _ _ _ h1 h2 (fun i hi => ih1 i hi (hd.1 _ (List.getElem_mem hi)) _ _ _ _ _) (fun i hi => ih2 i hi (hd.2 _ (List.getElem_mem hi)) _ _ _ _ _)
  | nilfn => intro _ _ _ _ _ _ _; exact .nilfn _
  | iface nx t v u _ ih =>
    intro d hd w' B' own' ω' nx'
    cases d with
    | zero => simp [AV.noMem] at hd
    | succ d => exact .iface _ _ _ _ (ih (by simpa [AV.noMem] using hd) _ _ _ _ _)
  | niliface => intro _ _ _ _ _ _ _; exact .niliface _
  | agg nx cs vs h1 _ ih =>
    intro d hd w' B' own' ω' nx'
    cases d with
    | zero => simp [AV.noMem] at hd
    | succ d =>
      simp only [AV.noMem, List.all_eq_true] at hd
      exact .agg _ _ _ h1 (fun i hi => ih i hi (hd _ (List.getElem_mem hi)) _ _ _ _ _)
  | tup nx cs vs h1 _ ih =>
    intro d hd w' B' own' ω' nx'
    cases d with
    | zero => simp [AV.noMem] at hd
    | succ d =>
      simp only [AV.noMem, List.all_eq_true] at hd
      exact .tup _ _ _ h1 (fun i hi => ih i hi (hd _ (List.getElem_mem hi)) _ _ _ _ _)

/-- Operations that read at most: one value, whatever has been added to the world. -/
def QuietYields (P : Program) (w : World) (B : Nat → Prop) (own : Nat → Prop) (ω : Nat → Option Nat) (nx : Nat) (s : Sem Next) (k : AV → Bool) : Prop :=
  ∃ v u, (∀ w', Same w w' → s.run P w' = .ok (.value u) w') ∧ Rep w B own ω nx v u ∧ k v = true
/-- It calls a function, whatever has been added to the world. -/
def QuietEnters (P : Program) (w : World) (B : Nat → Prop) (own : Nat → Prop) (ω : Nat → Option Nat) (nx : Nat) (s : Sem Next) (kc : FuncId → List AV → Bool) : Prop :=
  ∃ f args us, (∀ w', s.run P w' = (callFunc f us).run P w') ∧ kc f args = true ∧ RepL w B own ω nx args us

theorem hereQ {w : World} {B : Nat → Prop} {own : Nat → Prop} {ω : Nat → Option Nat} {nx : Nat} {P : Program} {s : Sem Value} {k : AV → Bool} (hs : Reckons P w B own ω nx s k) : QuietYields P w B own ω nx (do pure (Next.value (← s)) : Sem Next) k := by
  obtain ⟨v, u, h1, h2, h3⟩ := hs
  exact ⟨v, u, fun w' hw => by simp [h1 w' hw, Sem.run, Result.andThen], h2, h3⟩

set_option maxHeartbeats 2000000 in
theorem callK_quiet {w : World} {B : Nat → Prop} {own : Nat → Prop} {ω : Nat → Option Nat} {nx : Nat} {h : Heap} (C : Cfg) {ρ : Operand → AV} {e : Operand → Value} (hρ : ∀ x, Rep w B own ω nx (ρ x) (e x)) {c : Call} {type : TypeId} {kv : AV → Heap → Nat → Bool} {kc : FuncId → List AV → Bool}
    (hq : quietCall c = true) (hk : callK C ρ h nx c kv kc false = true) :
    QuietYields C.P w B own ω nx (do let d ← resolve e c type; invoke d.target d.args : Sem Next) (fun v => kv v h nx) ∨ QuietEnters C.P w B own ω nx (do let d ← resolve e c type; invoke d.target d.args : Sem Next) kc := by
  have hargs := repL_map hρ c.args
  unfold callK at hk
  unfold quietCall at hq
  split at hk
  · rename_i f hcal
    have hf := hρ f
    split at hk
    · rename_i g first cap hfe
      rw [hfe] at hf
      generalize hev : e f = ef at hf
      cases hf with
      | fn _ _ _ _ fs cs h1 h2 h3 h4 =>
        refine .inr ⟨g, _, fs ++ c.args.map e ++ cs, fun w' => ?_, hk, (RepL.append (RepL.append ⟨h1, h3⟩ hargs) ⟨h2, h4⟩)⟩
        simp [resolve, hcal, hev, Deferred.ofValue, invoke, Sem.run, Result.andThen]
    · cases hk
  · rename_i hcal
    split at hk
    · rename_i x r t ts hx ht
      rw [hx] at hargs
      have hsz := hargs.1
      obtain ⟨u, us, hu⟩ := arr_cons hsz
      have htt : c.argTypes = (t :: ts).toArray := by rw [← ht]
      rw [hu] at hargs
      have hr : Rep w B own ω nx x u := hargs.at (j := 0) rfl (by simp)
      refine .inl ?_
      have := hereQ (lenK_sound (P := C.P) (ty := type) (ts := ts) (us := us) hr hk)
      simpa [resolve, hcal, invoke, builtin, hu, htt, Sem.run] using this
    · cases hk
  · rename_i hcal; rw [hcal] at hq; cases hq
  · rename_i hcal; rw [hcal] at hq; cases hq
  · rename_i hcal
    refine .inl ?_
    obtain ⟨u, r, hl, hr⟩ := minmaxK_sound (P := C.P) (us := (c.args.map e).toList) run_min2 (by have := hargs.1; simp [this]) (fun j a v ha hv => hargs.at ha (by simpa using hv)) hk
    have hq := hereQ hr
    have em : Builtin.min_ c.argTypes type (c.args.map e) = r.foldlM Builtin.min2 u := by
      unfold Builtin.min_
      rw [hl]
    rw [← em] at hq
    simpa [resolve, hcal, invoke, builtin, Sem.run] using hq
  · rename_i hcal
    refine .inl ?_
    obtain ⟨u, r, hl, hr⟩ := minmaxK_sound (P := C.P) (us := (c.args.map e).toList) run_max2 (by have := hargs.1; simp [this]) (fun j a v ha hv => hargs.at ha (by simpa using hv)) hk
    have hq := hereQ hr
    have em : Builtin.max_ c.argTypes type (c.args.map e) = r.foldlM Builtin.max2 u := by
      unfold Builtin.max_
      rw [hl]
    rw [← em] at hq
    simpa [resolve, hcal, invoke, builtin, Sem.run] using hq
  · cases hk

set_option maxHeartbeats 4000000 in
theorem aop_quiet {w : World} {B : Nat → Prop} {own : Nat → Prop} {ω : Nat → Option Nat} {nx : Nat} {h : Heap} (C : Cfg) (H : Hp w B own ω nx h) {ρ : Operand → AV} {e : Operand → Value} (hρ : ∀ x, Rep w B own ω nx (ρ x) (e x)) {o : Oper} {kv : AV → Heap → Nat → Bool} {kc : FuncId → List AV → Bool}
    (hq : quietOp o.op = true) (hk : aop C ρ h nx o.op kv kc false = true) : QuietYields C.P w B own ω nx (execOp e o) (fun v => kv v h nx) ∨ QuietEnters C.P w B own ω nx (execOp e o) kc := by
  have stay : ∀ {u : Value} {v : AV} {s : Sem Next}, Rep w B own ω nx v u → kv v h nx = true → (∀ w' : World, s.run C.P w' = .ok (.value u) w') → QuietYields C.P w B own ω nx s (fun v => kv v h nx) := fun hr hv hs => ⟨_, _, fun w' _ => hs w', hr, hv⟩
  obtain ⟨dst, op, type, pos, after, guard⟩ := o
  cases op <;> simp only [aop] at hk <;> try cases hq
  case move x => exact .inl (stay (hρ x) hk (fun _ => rfl))
  case assign x => exact .inl (stay (hρ x) hk (fun _ => rfl))
  case pick c a b =>
    split at hk
    · rename_i t ht
      have hc := hρ c
      rw [ht] at hc
      generalize hev : e c = ec at hc
      cases hc
      refine .inl ?_
      rcases of_cond2 hk with ⟨h1, h2⟩ | ⟨h1, h2⟩
      · exact stay (hρ a) h2 (fun _ => by simp [execOp, hev, asBool, h1, Sem.run, Result.andThen])
      · exact stay (hρ b) h2 (fun _ => by simp [execOp, hev, asBool, h1, Sem.run, Result.andThen])
    · cases hk
  case build t parts =>
    obtain ⟨p1, p2⟩ := parts_rep hρ parts
    exact .inl (hereQ (build_sound p1 p2 hk))
  case load t x =>
    have hx := hρ x
    split at hk
    · rename_i id off hxe
      rw [hxe] at hx
      generalize hev : e x = ex at hx
      split at hk
      · rename_i hb hid
        cases hx with
        | ptr _ _ _ b g1 g2 =>
          obtain ⟨v, u, r1, r2, r3⟩ := loadK_sound (H.lies hid g2) hk
          refine .inl (hereQ ⟨v, u, fun w' hw => ?_, r2, r3⟩)
          simp only [hev, Instr.loadAt, Instr.sureAddr, Sem.run_bind, Sem.run_pure, Result.andThen_ok]
          simpa using r1 w' hw
      · cases hk
    · rename_i cells off hxe
      rw [hxe] at hx
      generalize hev : e x = ex at hx
      cases hx with
      | iptr _ _ _ b o vs g1 g2 g3 =>
        obtain ⟨v, u, r1, r2, r3⟩ := loadK_sound (w := w) (B := B) (own := own) (ω := ω) (nx := nx) ⟨vs, g2, fun i hi => (g3 i hi).up (Nat.zero_le _)⟩ hk
        refine .inl (hereQ ⟨v, u, fun w' hw => ?_, r2, r3⟩)
        simp only [hev, Instr.loadAt, Instr.sureAddr, Sem.run_bind, Sem.run_pure, Result.andThen_ok]
        exact r1 w' hw
    · cases hk
  case nilCheck x =>
    have hx := hρ x
    split at hk
    · rename_i id off hxe
      rw [hxe] at hx
      generalize hev : e x = ex at hx
      cases hx with
      | ptr _ _ _ b g1 g2 => exact .inl (stay (.ptr _ _ _ b g1 g2) hk (fun _ => by simp [execOp, hev, Sem.run]))
    · rename_i cells off hxe
      rw [hxe] at hx
      generalize hev : e x = ex at hx
      cases hx with
      | iptr _ _ _ b o vs g1 g2 g3 => exact .inl (stay (.iptr _ _ _ b o vs g1 g2 g3) hk (fun _ => by simp [execOp, hev, Sem.run]))
    · rename_i g fs cs hxe
      rw [hxe] at hx
      generalize hev : e x = ex at hx
      cases hx with
      | fn _ _ _ _ as bs h1 h2 h3 h4 => exact .inl (stay (.fn _ _ _ _ _ _ h1 h2 h3 h4) hk (fun _ => by simp [execOp, hev, Sem.run]))
    · cases hk
  case binOp op t x y yt => exact .inl (hereQ (binK_sound (hρ x) (hρ y) hk))
  case unOp op t x => exact .inl (hereQ (unK_sound (hρ x) hk))
  case convert src dst x => exact .inl (hereQ (convK_sound (hρ x) hk))
  case makeInterface t x =>
    split at hk
    · cases hk
    · rename_i d hnot hu
      refine .inl (hereQ ⟨_, _, fun w' _ => ?_, .iface _ t _ _ (hρ x), hk⟩)
      cases d <;> first | exact absurd rfl (hnot _) | simp [Instr.makeInterface, run_underlying hu, Sem.run, Result.andThen]
    · cases hk
  case makeFunc fn first cap =>
    have h1 := repL_map hρ first
    have h2 := repL_map hρ cap
    exact .inl (hereQ ⟨_, _, fun _ _ => by simp [Instr.makeFunc, Sem.run], .fn _ _ _ _ _ _ h1.1 h2.1 h1.2 h2.2, hk⟩)
  case slice t x lo hi mx =>
    have bnd : ∀ o : Option Operand, BoundIs w B own ω nx (o.map ρ) (o.map e) := fun o => by
      cases o with
      | none => trivial
      | some x => exact hρ x
    exact .inl (hereQ (sliceK_sound (hρ x) (bnd lo) (bnd hi) (bnd mx) hk))
  case fieldAddr s x f => exact .inl (hereQ (fieldAddrK_sound (hρ x) hk))
  case field t x f => exact .inl (hereQ (fieldK_sound (hρ x) hk))
  case indexAddr t x i => exact .inl (hereQ (indexAddrK_sound (hρ x) (hρ i) hk))
  case index t x i => exact .inl (hereQ (indexK_sound (hρ x) (hρ i) hk))
  case extract x i =>
    split at hk
    · rename_i vs hxe
      have hx := hρ x
      rw [hxe] at hx
      generalize hev : e x = ex at hx
      split at hk
      · rename_i v hv
        cases hx with
        | tup _ _ us h1 h2 =>
          obtain ⟨hi, e1⟩ := List.getElem?_eq_some_iff.1 hv
          have hi' : i < us.size := by omega
          have := h2 i hi
          rw [e1, getD_lt hi'] at this
          refine .inl (hereQ ⟨v, us[i], fun w' _ => ?_, this, hk⟩)
          simp [hev, Instr.extract, hi', Sem.run]
      · cases hk
    · cases hk
  case call c => exact callK_quiet C hρ hq hk

theorem aop_plain {C : Cfg} {ρ : Operand → AV} {h : Heap} {nx : Nat} {op : Op} {kv : AV → Heap → Nat → Bool} {kc : FuncId → List AV → Bool} (hp : plainOp op = true) (hk : aop C ρ h nx op kv kc false = true) : aop C ρ h nx op kv (fun _ _ => false) false = true := by
  cases op <;> try exact hk
  case call c =>
    simp only [aop, callK] at hk ⊢
    simp only [plainOp] at hp
    split at hk <;> simp_all
theorem plain_quiet {op : Op} (hp : plainOp op = true) : quietOp op = true := by
  cases op <;> try exact hp
  case call c =>
    simp only [plainOp] at hp
    split at hp
    · cases hp
    · exact hp

/-- The one value that it stands for. -/
def AV.val : Nat → AV → Value
  | 0, _ => undef
  | _ + 1, .bool b => .bool b
  | _ + 1, .int k n => .int k n
  | _ + 1, .str s => .string s
  | _ + 1, .nilp => .pointer none
  | _ + 1, .nils => .slice none 0 0
  | _ + 1, .nilfn => .nilFunc
  | _ + 1, .niliface => .nilIface
  | d + 1, .agg cs => .agg (cs.map (AV.val d)).toArray
  | d + 1, .tup cs => .tuple (cs.map (AV.val d)).toArray
  | d + 1, .iface t v => .iface t (AV.val d v)
  | _ + 1, _ => undef
theorem arr_val {cs : List AV} {vs : Array Value} {f : AV → Value} (h1 : cs.length = vs.size) (h2 : ∀ i (h : i < cs.length), vs.getD i undef = f cs[i]) : vs = (cs.map f).toArray := by
  refine Array.ext (by simp [h1]) (fun i hi hi' => ?_)
  have := h2 i (by omega)
  rw [getD_lt hi] at this
  simpa using this
theorem Rep.eq_val {w : World} {B : Nat → Prop} {own : Nat → Prop} {ω : Nat → Option Nat} {nx : Nat} {v : AV} {u : Value} (h : Rep w B own ω nx v u) : ∀ {d : Nat}, v.rigid d = true → u = v.val d := by
  induction h with
  | bool => intro d hd; cases d <;> first | rfl | cases hd
  | int => intro d hd; cases d <;> first | rfl | cases hd
  | str => intro d hd; cases d <;> first | rfl | cases hd
  | nilp => intro d hd; cases d <;> first | rfl | cases hd
  | nils => intro d hd; cases d <;> first | rfl | cases hd
  | nilfn => intro d hd; cases d <;> first | rfl | cases hd
  | niliface => intro d hd; cases d <;> first | rfl | cases hd
  | iface nx t v u _ ih =>
    intro d hd
    cases d with
    | zero => cases hd
    | succ d => simp only [AV.val]; rw [ih (by simpa [AV.rigid] using hd)]
  | agg nx cs vs h1 _ ih =>
    intro d hd
    cases d with
    | zero => cases hd
    | succ d =>
      simp only [AV.rigid, List.all_eq_true] at hd
      simp only [AV.val]
      rw [arr_val h1 (fun i hi => ih i hi (hd _ (List.getElem_mem hi)))]
  | tup nx cs vs h1 _ ih =>
    intro d hd
    cases d with
    | zero => cases hd
    | succ d =>
      simp only [AV.rigid, List.all_eq_true] at hd
      simp only [AV.val]
      rw [arr_val h1 (fun i hi => ih i hi (hd _ (List.getElem_mem hi)))]
  | _ => intro d hd; cases d <;> cases hd

theorem rep_val : ∀ (d : Nat) (v : AV), v.rigid d = true → ∀ w B own ω nx, Rep w B own ω nx v (v.val d)
  | 0, v, hd, _, _, _, _, _ => by cases hd
  | d + 1, v, hd, w, B, own, ω, nx => by
    cases v <;> first | (simp only [AV.val]; exact .bool _ _) | (simp only [AV.val]; exact .int _ _ _) | (simp only [AV.val]; exact .str _ _) | (simp only [AV.val]; exact .nilp _) | (simp only [AV.val]; exact .nils _) | (simp only [AV.val]; exact .nilfn _) | (simp only [AV.val]; exact .niliface _) | (cases hd; done) | skip
    case agg cs =>
      simp only [AV.rigid, List.all_eq_true] at hd
      refine .agg _ _ _ (by simp) (fun i hi => ?_)
      rw [getD_lt (by simpa using hi)]
      simpa using rep_val d _ (hd _ (List.getElem_mem hi)) w B own ω nx
    case tup cs =>
      simp only [AV.rigid, List.all_eq_true] at hd
      refine .tup _ _ _ (by simp) (fun i hi => ?_)
      rw [getD_lt (by simpa using hi)]
      simpa using rep_val d _ (hd _ (List.getElem_mem hi)) w B own ω nx
    case iface t v =>
      simp only [AV.rigid] at hd
      exact .iface _ _ _ _ (rep_val d v hd w B own ω nx)

/-- What a summarized callee leaves of the caller's world. -/
def Still (w w' : World) : Prop := Ext w (fun _ => False) (fun _ => none) 0 w' (fun _ => False) (fun _ => none) 0
theorem Still.same {w w' : World} (E : Still w w') : Same w w' := fun a v h => by
  have hb : a.block < w.heap.size := by
    rcases Nat.lt_or_ge a.block w.heap.size with h' | h'
    · exact h'
    · simp [World.cell?, Array.getElem?_eq_none h'] at h
  rw [← h]
  exact World.cell?_of_block (E.old _ hb (fun h => h))
theorem Still.drew (w : World) : Still w { w with drawn := w.drawn + 1 } := ⟨rfl, rfl, rfl, Nat.le_refl _, fun _ _ _ => rfl, fun _ h => .inl h, Nat.le_refl _, fun _ _ => rfl, fun _ _ h => h⟩

theorem Sim.still {w w' : World} {B : Nat → Prop} {own : Nat → Prop} {ω : Nat → Option Nat} {st : St} {a : Act} (S : Sim C w B own ω st a) (E : Still w w') : Sim C w' B own ω st a :=
  have E' : Ext w own ω st.nx w' own ω st.nx := ext_call E
  ⟨S.tm.ext E', S.dn, hp_call S.hp E, (S.gl.ext S.gb E').1, S.gb, fun b hb => Nat.lt_of_lt_of_le (S.bl b hb) E.size⟩

theorem call_in (hC : C.Ok) {f : FuncId} {fn : Func} {c : Code} (hfn : C.P.funcs[f]? = some fn) (hb : fn.body = some c) (us : Array Value) (w : World) : (callFunc f us).run C.P w = .ok (.enter f us) w := by
  have : ¬ fn.name = "runtime.NumGoroutine" := by simpa using hC.names f fn hfn
  simp [callFunc, program, hfn, this, hb, Sem.run, Result.andThen]

theorem sumK_sound (hC : C.Ok) {w : World} {B : Nat → Prop} {own : Nat → Prop} {ω : Nat → Option Nat} {st : St} {a : Act} (S : Sim C w B own ω st a) {f : FuncId} {args : List AV} {us : Array Value} {k : AV → Bool} (hr : RepL w B own ω st.nx args us) (hk : sumK C f args k false = true) :
    ∃ v u, k v = true ∧ (∀ w', Still w w' → Oper.quietUpon C.P (Still w) w' u ((callFunc f us).run C.P w')) ∧ Rep w B own ω st.nx v u := by
  unfold sumK at hk
  split at hk
  · rename_i fn hfn
    split at hk
    · rename_i c hb
      split at hk
      · rename_i F hF
        replace hk := of_cond hk; obtain ⟨hn, hk⟩ := hk
        split at hk
        · rename_i p r hFr
          replace hk := of_cond hk; obtain ⟨hp, hk⟩ := hk
          subst hp
          replace hk := of_cond hk; obtain ⟨hrig, hk⟩ := hk
          refine ⟨r, r.val 6, hk, fun w' E => ?_, rep_val 6 r hrig _ _ _ _ _⟩
          rw [call_in hC hfn hb]
          refine ⟨rfl, ?_⟩
          have S' := S.still E
          have hl : RepL w' (fun b => own b ∨ B b) (fun _ => False) (fun _ => none) 0 args us := ⟨hr.1, fun i hi => by
            have := (((hr.2 i hi).ext (ext_call E)).down (all_noRef hn i hi) 0)
            exact this.mono (Nat.le_refl _) (fun b _ ho hB => ⟨rfl, fun h => h, fun h => h.elim ho hB⟩) (fun id hi => absurd hi (Nat.not_lt_zero _)) (fun _ _ h => h)⟩
          refine (hC.sums f F hF args r hFr w' us (fun b => own b ∨ B b) S'.gl (fun g cells h ho => ho.elim (S'.gb g cells h).1 (S'.gb g cells h).2) (fun b hb => hb.elim (S'.hp.ob b) (S'.bl b)) hl).mono fun e w'' hh => ?_
          obtain ⟨v, u, rfl, rfl, E2, R⟩ := hh
          exact ⟨by rw [R.eq_val hrig], Ext.trans E E2⟩
        · cases hk
      · cases hk
    · cases hk
  · cases hk

theorem draw_sound (hC : C.Ok) {w : World} {B : Nat → Prop} {own : Nat → Prop} {ω : Nat → Option Nat} {ops : Array Oper} {Q : Act → Prop} :
    ∀ (rest : List Oper) (st : St) (k : St → Bool) (a : Act), drawK C ops quietOp rest st k false = true → Sim C w B own ω st a →
      (∀ st' a', Sim C w B own ω st' a' → st'.nx = st.nx → k st' = true → Q a') → wpQuiet C.P ops (Still w) Q rest a
  | [], st, k, a, hk, S, hQ => hQ st a S rfl hk
  | o :: r, st, k, a, hk, S, hQ => by
    simp only [drawK] at hk
    replace hk := of_cond hk; obtain ⟨hq, hk⟩ := hk
    simp only [wpQuiet]
    have go : ∀ (v : AV) (u : Value), drawK C ops quietOp r ⟨setT st.tmps o.dst v, st.heap, st.nx⟩ k false = true → Rep w B own ω st.nx v u → wpQuiet C.P ops (Still w) Q r (a.put o.dst u) := fun v u hk hr =>
      draw_sound hC r _ k _ hk (S.put (Ext.refl _ _ _ _) S.hp hr) hQ
    rcases guardK_sound S hk with ⟨hw, h⟩ | ⟨hw, h⟩
    · rw [if_pos hw]
      rcases aop_quiet C S.hp (fun x => S.ev x) hq h with ⟨v, u, h1, h2, h3⟩ | ⟨f, args, us, h1, h2, h3⟩
      · refine ⟨u, fun w' E => ?_, go v u h3 h2⟩
        unfold Oper.quietAt
        rw [h1 w' E.same]
        exact ⟨rfl, rfl⟩
      · obtain ⟨v, u, g1, g2, g3⟩ := sumK_sound hC S h3 h2
        refine ⟨u, fun w' E => ?_, go v u g1 g3⟩
        unfold Oper.quietAt
        rw [h1 w']
        exact g2 w' E
    · rw [if_neg (by simp [hw])]
      exact go _ _ h (.tup _ _ _ rfl (fun i hi => absurd hi (Nat.not_lt_zero _)))

theorem still_sound {w : World} {B : Nat → Prop} {own : Nat → Prop} {ω : Nat → Option Nat} {ops : Array Oper} {Q : Act → Prop} :
    ∀ (rest : List Oper) (st : St) (k : St → Bool) (a : Act), drawK C ops plainOp rest st k false = true → Sim C w B own ω st a →
      (∀ st' a', Sim C w B own ω st' a' → st'.nx = st.nx → k st' = true → Q a') → wpStill C.P ops w Q rest a
  | [], st, k, a, hk, S, hQ => hQ st a S rfl hk
  | o :: r, st, k, a, hk, S, hQ => by
    simp only [drawK] at hk
    replace hk := of_cond hk; obtain ⟨hq, hk⟩ := hk
    simp only [wpStill]
    have go : ∀ (v : AV) (u : Value), drawK C ops plainOp r ⟨setT st.tmps o.dst v, st.heap, st.nx⟩ k false = true → Rep w B own ω st.nx v u → wpStill C.P ops w Q r (a.put o.dst u) := fun v u hk hr =>
      still_sound r _ k _ hk (S.put (Ext.refl _ _ _ _) S.hp hr) hQ
    rcases guardK_sound S hk with ⟨hw, h⟩ | ⟨hw, h⟩
    · rw [if_pos hw]
      rcases aop_quiet C S.hp (fun x => S.ev x) (plain_quiet hq) (aop_plain hq h) with ⟨v, u, h1, h2, h3⟩ | ⟨f, args, us, h1, h2, h3⟩
      · unfold Oper.still
        rw [h1 w (Same.refl w)]
        exact ⟨rfl, go v u h3 h2⟩
      · cases h2
    · rw [if_neg (by simp [hw])]
      exact go _ _ h (.tup _ _ _ rfl (fun i hi => absurd hi (Nat.not_lt_zero _)))

theorem run_sound (hC : C.Ok) : ∀ n : Nat,
    (∀ (B : Nat → Prop) code st k (a : Act) (w : World) own ω Q, run C n none code st k false = true → Sim C w B own ω st a → Outs C B w own ω st.nx k Q → code.wp C.P Q a w) ∧
    (∀ (B : Nat → Prop) body st k (a : Act) (w : World) own ω Q, run C n none (.loop body) st k false = true → Sim C w B own ω st a → Outs C B w own ω st.nx k Q → Code.rounds C.P body Q n a w) ∧
    (∀ (B : Nat → Prop) body code st k (a : Act) (w : World) own ω Q, run C n (some body) code st k false = true → Sim C w B own ω st a → Outs C B w own ω st.nx k Q → scopeRounds C.P body Q n code a w) := by
  intro n
  induction n with
  | zero => exact ⟨fun _ _ _ _ _ _ _ _ _ h => (by cases h), fun _ _ _ _ _ _ _ _ _ h => (by cases h), fun _ _ _ _ _ _ _ _ _ _ h => (by cases h)⟩
  | succ n ih =>
    obtain ⟨ihA, ihB, ihS⟩ := ih
    have hB : ∀ (B : Nat → Prop) body st k (a : Act) (w : World) own ω Q, run C (n + 1) none (.loop body) st k false = true → Sim C w B own ω st a → Outs C B w own ω st.nx k Q → Code.rounds C.P body Q (n + 1) a w := fun B body st k a w own ω Q hk S hQ => by
      simp only [run] at hk
      rw [rounds_succ]
      refine ihA _ _ _ _ _ _ _ _ _ hk S (fun e st' a' w' own' ω' S' E hk' => ?_)
      cases e with
      | normal => exact ihB _ _ _ _ _ _ _ _ _ hk' S' (fun e2 st2 a2 w2 own2 ω2 S2 E2 hk2 => hQ _ _ _ _ _ _ S2 (E.trans E2) hk2)
      | exit id => exact hQ _ _ _ _ _ _ S' E hk'
      | goto l => exact hQ _ _ _ _ _ _ S' E hk'
      | ret => exact hQ _ _ _ _ _ _ S' E hk'
    refine ⟨fun B code st k a w own ω Q hk S hQ => ?_, hB, fun B body code st k a w own ω Q hk S hQ => ?_⟩
    · cases code <;> simp only [run] at hk <;> try cases hk
      case skip => exact wp_skip (hQ .normal _ _ _ _ _ S (Ext.refl _ _ _ _) hk)
      case label l => exact wp_label (hQ .normal _ _ _ _ _ S (Ext.refl _ _ _ _) hk)
      case ret => exact wp_ret (hQ .ret _ _ _ _ _ S (Ext.refl _ _ _ _) hk)
      case exit id => exact wp_exit (hQ (.exit id) _ _ _ _ _ S (Ext.refl _ _ _ _) hk)
      case goto l => exact wp_goto (hQ (.goto l) _ _ _ _ _ S (Ext.refl _ _ _ _) hk)
      case seq x y =>
        refine wp_seq (ihA _ _ _ _ _ _ _ _ _ hk S (fun e st' a' w' own' ω' S' E hk' => ?_))
        cases e with
        | normal => exact ihA _ _ _ _ _ _ _ _ _ hk' S' (fun e2 st2 a2 w2 own2 ω2 S2 E2 hk2 => hQ _ _ _ _ _ _ S2 (E.trans E2) hk2)
        | exit id => exact hQ _ _ _ _ _ _ S' E hk'
        | goto l => exact hQ _ _ _ _ _ _ S' E hk'
        | ret => exact hQ _ _ _ _ _ _ S' E hk'
      case cond c x y =>
        have hev := S.ev c
        split at hk
        · rename_i t ht
          rw [ht] at hev
          generalize hy : a.eval c = u at hev
          cases hev
          refine wp_cond hy ?_
          have hself := setO_self ht
          cases t with
          | true =>
            rw [hself] at hk
            exact ihA _ _ _ _ _ _ _ _ _ hk S hQ
          | false =>
            rw [hself] at hk
            exact ihA _ _ _ _ _ _ _ _ _ hk S hQ
        · cases hk
      case block id body =>
        refine wp_block (ihA _ _ _ _ _ _ _ _ _ hk S (fun e st' a' w' own' ω' S' E hk' => ?_))
        cases e with
        | normal => exact hQ _ _ _ _ _ _ S' E hk'
        | exit id' =>
          simp only [Ex.out, Exit.inBlock]
          rcases of_cond2 hk' with ⟨h1, h2⟩ | ⟨h1, h2⟩
          · rw [if_pos (of_beq h1)]; exact hQ .normal _ _ _ _ _ S' E h2
          · rw [if_neg (fun e => by rw [(beq_iff _ _).2 e] at h1; cases h1)]; exact hQ (.exit id') _ _ _ _ _ S' E h2
        | goto l => exact hQ _ _ _ _ _ _ S' E hk'
        | ret => exact hQ _ _ _ _ _ _ S' E hk'
      case loop body =>
        exact wp_loop_rounds (n + 1) (hB B body st k a w own ω Q (by simp only [run]; exact hk) S hQ)
      case scope body =>
        exact wp_scopeRounds (ihS _ _ _ _ _ _ _ _ _ _ hk S hQ)
      case region id ops draw =>
        have hcall : CallOk C (fun f args h nx kk => match C.P.funcs[f]? with
            | some fn => match fn.body with
              | some c => match C.S f with
                | some F => cond (args.all (AV.noRef 6)) (match F args with
                    | some (p, r) => cond p (kk r h nx) false
                    | none => false)
                  (viewsK (viewK h 6) args (fun args' => match F args' with
                    | some (p, r) => cond p (cond (r.noMem 6) (kk r h nx) false) false
                    | none => false) false)
                | none => run C n none c ⟨args ++ List.replicate (fn.ntmps - args.length) (.tup []), h, nx⟩ (fun e st' => match e with
                  | .ret => resK C fn st' (fun v => kk v st'.heap st'.nx) false
                  | .normal => resK C fn st' (fun v => kk v st'.heap st'.nx) false
                  | _ => false) false
              | none => false
            | none => false) := ?_
        · cases draw with
          | false =>
            simp only [cond_false] at hk
            refine wp_region ?_
            have := ops_sound (B := B) (C := C) (Q := Q) (ops := ops) hcall ops.toList 0 rfl st _ a w own ω hk S (fun st' a' w' own' ω' S' E hk' => hQ .normal _ _ _ _ _ S' E hk')
            rw [List.range_eq_range']
            simpa using this
          | true =>
            simp only [cond_true] at hk
            rcases of_cond2 hk with ⟨hl, hk⟩ | ⟨_, hk⟩
            · refine wp_region_quiet (C := Still w) hC.mixed hl (Still.drew w) ?_
              exact draw_sound hC ops.toList st _ a hk S (fun st' a' S' hn hk' w' E => hQ .normal _ _ _ _ _ (S'.still E) (by rw [hn]; exact ext_call E) hk')
            · replace hk := of_cond hk; obtain ⟨hl, hk⟩ := hk
              generalize leading plainOp ops.toList = m at hl hk
              have := wp_region_still_tail (P := C.P) (id := id) (Q := Q) (a := a) (w := w) (l := ops.toList) m hC.mixed (by simpa using hl) ?_
              · simpa using this
              · have E0 := Still.drew w
                rw [Array.toArray_toList]
                refine still_sound _ st _ a hk (S.still E0) (fun st' a' S' hn hk' => ?_)
                have hm : m < ops.toList.length := by
                  simp only [Region.lexTailB, Bool.and_eq_true, decide_eq_true_eq] at hl
                  simpa using hl.1.1.1.2
                have := ops_sound (B := B) (C := C) (Q := Q) (ops := ops) hcall (ops.toList.drop m) m rfl st' _ a' _ own ω hk' S' (fun st2 a2 w2 own2 ω2 S2 E2 hk2 => hQ .normal _ _ _ _ _ S2 (Ext.trans (by rw [hn]; exact ext_call E0) E2) hk2)
                rw [wpOps_eq_wpList (ops.toList.drop m) m (fun j => by simp [List.getElem?_drop])] at this
                simpa using this
        · intro f args h nx kk w1 B1 own1 ω1 us hc H1 G1 gb1 bl1 hr
          simp only at hc
          split at hc
          · rename_i fn hfn
            split at hc
            · rename_i c hb
              have hcf : (callFunc f us).run C.P w1 = .ok (.enter f us) w1 := by
                have : ¬ fn.name = "runtime.NumGoroutine" := by simpa using hC.names f fn hfn
                simp [callFunc, program, hfn, this, hb, Sem.run, Result.andThen]
              refine ⟨hcf, ?_⟩
              split at hc
              · rename_i F hF
                rcases of_cond2 hc with ⟨hn, hc⟩ | ⟨hn, hc⟩
                · split at hc
                  · rename_i p r hFr
                    replace hc := of_cond hc; obtain ⟨hp, hc⟩ := hc
                    subst hp
                    have hl : RepL w1 (fun b => own1 b ∨ B1 b) (fun _ => False) (fun _ => none) 0 args us := ⟨hr.1, fun i hi => by
                      have := ((hr.2 i hi).down (all_noRef hn i hi) 0)
                      exact this.mono (Nat.le_refl _) (fun b _ ho hB => ⟨rfl, fun h => h, fun h => h.elim ho hB⟩) (fun id hi => absurd hi (Nat.not_lt_zero _)) (fun _ _ h => h)⟩
                    refine (hC.sums f F hF args r hFr w1 us (fun b => own1 b ∨ B1 b) G1 (fun g cells h ho => ho.elim (gb1 g cells h).1 (gb1 g cells h).2) (fun b hb => hb.elim (H1.ob b) (bl1 b)) hl).mono fun e w' hh => ?_
                    obtain ⟨v, u, rfl, rfl, E, R⟩ := hh
                    refine ⟨v, u, h, nx, own1, ω1, rfl, hc, ext_call E, hp_call H1 E, ?_⟩
                    exact R.mono (Nat.le_refl _) (fun b hb _ hn => ⟨rfl, fun ho => hn (.inl ho), fun h => hn (.inr h)⟩) (fun id hi => absurd hi (Nat.not_lt_zero _)) (fun _ _ h => h)
                  · cases hc
                · obtain ⟨args', h1, h2, h3⟩ := viewsK_sound (Rl := fun v u => Rep w1 B1 own1 ω1 nx v u) (Rl' := fun v u => Rep w1 (fun _ => False) (fun _ => False) (fun _ => none) 0 v u) (viewK_sound H1 6) args _ hc
                  split at h1
                  · rename_i p r hFr
                    replace h1 := of_cond h1; obtain ⟨hp, h1⟩ := h1
                    subst hp
                    replace h1 := of_cond h1
                    obtain ⟨hm, h1⟩ := h1
                    have hl : RepL w1 (fun _ => False) (fun _ => False) (fun _ => none) 0 args' us := rep_list hr.1 hr.2 h2 h3
                    refine (hC.sums f F hF args' r hFr w1 us (fun _ => False) G1 (fun _ _ _ h => h) (fun _ h => h.elim) hl).mono fun e w' hh => ?_
                    obtain ⟨v, u, rfl, rfl, E, R⟩ := hh
                    exact ⟨v, u, h, nx, own1, ω1, rfl, h1, ext_call E, hp_call H1 E, R.noMem hm _ _ _ _ _⟩
                  · cases h1
              · rename_i hF
                refine calls_of_wp hfn hb ?_
                have hl : RepL w1 B1 own1 ω1 nx (args ++ List.replicate (fn.ntmps - args.length) (.tup [])) (us ++ Array.replicate (fn.ntmps - us.size) undef) := by
                  rw [← hr.1]
                  refine RepL.append hr (repL_of (by simp) (fun j x v hx hv => ?_))
                  rw [List.getElem?_replicate] at hx
                  rw [Array.getElem?_replicate] at hv
                  split at hx
                  · rename_i hj
                    rw [if_pos hj] at hv
                    rw [← Option.some.inj hx, ← Option.some.inj hv]
                    exact .tup _ _ _ rfl (fun i hi => absurd hi (Nat.not_lt_zero _))
                  · cases hx
                refine ihA B1 _ _ _ _ _ own1 ω1 _ hc ⟨hl, rfl, H1, G1, gb1, bl1⟩ (fun e st' a' w' own' ω' S' E hk' => ?_)
                have fin : resK C fn st' (fun v => kk v st'.heap st'.nx) false = true → a'.defers = [] ∧ ∃ v, (results fn a'.tmps).run C.P w' = .ok v w' ∧ ∃ v₁ u h' nx' own' ω', Ending.returned v = .returned u ∧ kk v₁ h' nx' = true ∧ Ext w1 own1 ω1 nx w' own' ω' nx' ∧ Hp w' B1 own' ω' nx' h' ∧ Rep w' B1 own' ω' nx' v₁ u := fun hk' => by
                  obtain ⟨v, u, r1, r2, r3⟩ := resK_sound S' hk'
                  exact ⟨S'.dn, u, r1, v, u, _, _, _, _, rfl, r3, E, S'.hp, r2⟩
                cases e with
                | ret => exact fin hk'
                | normal => exact fin hk'
                | exit id => cases hk'
                | goto l => cases hk'
            · cases hc
          · cases hc
    · simp only [run] at hk
      refine ihA _ _ _ _ _ _ _ _ _ hk S (fun e st' a' w' own' ω' S' E hk' => ?_)
      cases e with
      | normal => exact hQ _ _ _ _ _ _ S' E hk'
      | exit id => exact hQ _ _ _ _ _ _ S' E hk'
      | ret => exact hQ _ _ _ _ _ _ S' E hk'
      | goto l =>
        simp only [Ex.out]
        simp only at hk'
        split at hk'
        · rename_i rest hf
          simp only [hf]
          exact ihS _ _ _ _ _ _ _ _ _ _ hk' S' (fun e2 st2 a2 w2 own2 ω2 S2 E2 hk2 => hQ _ _ _ _ _ _ S2 (E.trans E2) hk2)
        · rename_i hf
          simp only [hf]
          exact hQ (.goto l) _ _ _ _ _ S' E hk'


theorem freezeK_sound {w : World} {B : Nat → Prop} {own : Nat → Prop} {ω : Nat → Option Nat} {nx : Nat} {h : Heap} (H : Hp w B own ω nx h) (hB : ∀ b, own b → ¬ B b) : ∀ (d : Nat) (v : AV) (k : AV → Bool), freezeK h d v k false = true → ∃ v', k v' = true ∧ ∀ u, Rep w B own ω nx v u → Rep w B (fun _ => False) (fun _ => none) 0 v' u
  | 0, _, _, hk => by cases hk
  | d + 1, v, k, hk => by
    have ih := freezeK_sound H hB d
    have lists : ∀ (cs : List AV) (k : List AV → Bool), viewsK (freezeK h d) cs k false = true → _ := fun cs k => viewsK_sound (Rl := fun v u => Rep w B own ω nx v u) (Rl' := fun v u => Rep w B (fun _ => False) (fun _ => none) 0 v u) ih cs k
    have plain : ∀ {v : AV} {u : Value}, Rep w B own ω 0 v u → Rep w B (fun _ => False) (fun _ => none) 0 v u := fun h =>
      h.mono (Nat.le_refl _) (fun _ _ _ hB => ⟨rfl, fun h => h, hB⟩) (fun id hi => absurd hi (Nat.not_lt_zero _)) (fun _ _ h => h)
    cases v <;> simp only [freezeK] at hk
    case any => exact ⟨_, hk, fun u hr => .any _ _⟩
    case bool => exact ⟨_, hk, fun u hr => by cases hr; exact .bool _ _⟩
    case int => exact ⟨_, hk, fun u hr => by cases hr; exact .int _ _ _⟩
    case str => exact ⟨_, hk, fun u hr => by cases hr; exact .str _ _⟩
    case nilp => exact ⟨_, hk, fun u hr => by cases hr; exact .nilp _⟩
    case nils => exact ⟨_, hk, fun u hr => by cases hr; exact .nils _⟩
    case es => exact ⟨_, hk, fun u hr => by cases hr; exact .es _ _⟩
    case nilfn => exact ⟨_, hk, fun u hr => by cases hr; exact .nilfn _⟩
    case niliface => exact ⟨_, hk, fun u hr => by cases hr; exact .niliface _⟩
    case ptr id off => cases hk
    case iptr cells off => cases hk
    case fn f a b => cases hk
    case lst c n =>
      refine ⟨_, hk, fun u hr => ?_⟩
      cases hr with
      | lst _ _ _ cap b o vs g1 g2 g3 g4 => exact .lst _ _ _ _ b o vs (fun hne => ⟨(g1 hne).1, fun h => h, (g1 hne).2.2⟩) g2 g3 (fun i hi => plain (g4 i hi))
      | lstn => exact .lstn _ _ _
    case sl id off n sz app =>
      split at hk
      · rename_i hb hid
        replace hk := of_cond hk; obtain ⟨hc, hk⟩ := hk
        obtain ⟨hp, hle⟩ := of_and hc
        replace hle := of_ble hle
        refine ⟨_, hk, fun u hr => ?_⟩
        have key : ∀ b cap, ω id = some b → n ≤ cap → Rep w B (fun _ => False) (fun _ => none) 0 (.lst ((hb.cells.drop off).take (n * sz)) n) (.slice (some ⟨b, off, none⟩) n cap) := fun b cap hω hn => by
          obtain ⟨q1, vs, q2, q3⟩ := pure_cells H hid hp hω
          obtain ⟨_, ho, _⟩ := H.there hid hω
          have := lst_take (w := w) (B := B) (own := fun _ => False) (ω := fun _ => none) (nx := 0) (cells := hb.cells) (cap := cap) (b := b) (o := 0) (d := off) (m := n) (vs := vs) (fun _ => ⟨q1, fun h => h, hB b ho⟩) hn
            (fun i hi => by rw [Nat.zero_add]; exact q2 i hi) (fun i hi => plain (q3 i hi)) (n * sz)
          rwa [Nat.zero_add] at this
        cases hr with
        | sl _ _ _ _ _ cap b g1 g2 g3 => exact key b cap g2 g3
        | sla _ _ _ _ cap b g1 g2 g3 g4 g5 => exact key b cap g2 g3
        | slan _ _ _ a0 g1 g2 =>
          simp only [Nat.zero_mul, List.take_zero]
          exact .lstn _ _ _
      · cases hk
    case iface t v =>
      obtain ⟨v', h1, h2⟩ := ih v _ hk
      refine ⟨_, h1, fun u hr => ?_⟩
      cases hr with
      | iface _ _ _ _ g => exact .iface _ _ _ _ (h2 _ g)
    case agg cs =>
      obtain ⟨cs', h1, h2, h3⟩ := lists cs _ hk
      refine ⟨_, h1, fun u hr => ?_⟩
      cases hr with
      | agg _ _ vs g1 g2 => obtain ⟨e1, e2⟩ := rep_list g1 g2 h2 h3; exact .agg _ _ _ e1 e2
    case tup cs =>
      obtain ⟨cs', h1, h2, h3⟩ := lists cs _ hk
      refine ⟨_, h1, fun u hr => ?_⟩
      cases hr with
      | tup _ _ vs g1 g2 => obtain ⟨e1, e2⟩ := rep_list g1 g2 h2 h3; exact .tup _ _ _ e1 e2

/-- A function's run over arguments in memory that nobody writes. -/
def runF {Ω : Type} (C : Cfg) (n : Nat) (f : FuncId) (args : List AV) (k : AV → Ω) (z : Ω) : Ω :=
  match C.P.funcs[f]? with
  | some fn => match fn.body with
    | some c => run C n none c ⟨args ++ List.replicate (fn.ntmps - args.length) (.tup []), [], 0⟩ (fun e st' => match e with
      | .ret => resK C fn st' (fun v => freezeK st'.heap 6 v k z) z
      | .normal => resK C fn st' (fun v => freezeK st'.heap 6 v k z) z
      | _ => z) z
    | none => z
  | none => z

/-- **What the run of a function comes to, the call comes to.** -/
theorem runF_sound (hC : C.Ok) {n : Nat} {f : FuncId} {args : List AV} {k : AV → Bool} (hk : runF C n f args k false = true) : ACalls C.P C.G f args (fun v => k v = true) := by
  intro w us bad hg gb bl hr
  unfold runF at hk
  split at hk
  · rename_i fn hfn
    split at hk
    · rename_i c hb
      refine calls_of_wp hfn hb ?_
      have hl : RepL w bad (fun _ => False) (fun _ => none) 0 (args ++ List.replicate (fn.ntmps - args.length) (.tup [])) (us ++ Array.replicate (fn.ntmps - us.size) undef) := by
        rw [← hr.1]
        refine RepL.append hr (repL_of (by simp) (fun j x v hx hv => ?_))
        rw [List.getElem?_replicate] at hx
        rw [Array.getElem?_replicate] at hv
        split at hx
        · rename_i hj
          rw [if_pos hj] at hv
          rw [← Option.some.inj hx, ← Option.some.inj hv]
          exact .tup _ _ _ rfl (fun i hi => absurd hi (Nat.not_lt_zero _))
        · cases hx
      have H0 : Hp w bad (fun _ => False) (fun _ => none) 0 [] := ⟨fun id hb h => (by cases h), fun i j b h => (by cases h), fun b (h : False) => h.elim⟩
      refine (run_sound hC n).1 bad _ _ _ _ _ (fun _ => False) (fun _ => none) _ hk ⟨hl, rfl, H0, hg, fun g cells h => ⟨fun h => h, gb g cells h⟩, bl⟩ (fun e st' a' w' own' ω' S' E hk' => ?_)
      have hown : ∀ b, own' b → ¬ bad b := fun b ho hbad => (E.owns b ho).elim (fun h => h) (fun h => by have := bl b hbad; omega)
      have E0 : Ext w (fun _ => False) (fun _ => none) 0 w' (fun _ => False) (fun _ => none) 0 := ⟨E.os, E.tape, E.output, E.size, fun b hb _ => E.old b hb (fun h => h), fun _ h => .inl h, Nat.le_refl _, fun _ _ => rfl, E.row⟩
      have fin : resK C fn st' (fun v => freezeK st'.heap 6 v k false) false = true → a'.defers = [] ∧ ∃ v, (results fn a'.tmps).run C.P w' = .ok v w' ∧ ∃ v₁ u, Ending.returned v = .returned u ∧ k v₁ = true ∧ Ext w (fun _ => False) (fun _ => none) 0 w' (fun _ => False) (fun _ => none) 0 ∧ Rep w' bad (fun _ => False) (fun _ => none) 0 v₁ u := fun hk' => by
        obtain ⟨v, u, r1, r2, r3⟩ := resK_sound S' hk'
        obtain ⟨v', h1, h2⟩ := freezeK_sound S'.hp hown 6 v k r3
        exact ⟨S'.dn, u, r1, v', u, rfl, h1, E0, h2 u r2⟩
      cases e with
      | ret => exact fin hk'
      | normal => exact fin hk'
      | exit id => cases hk'
      | goto l => cases hk'
    · cases hk
  · cases hk

end
end Go.Bas
