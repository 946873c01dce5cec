/- The engine, part U: one operation of a region that draws its order, carried out whenever it may be; and all of them. -/
import Derived.Test.YtehfcbppcfpjoaaGreatDoorBasNT
namespace Go.Bas
open Go.RowKit
set_option linter.unusedSimpArgs false
set_option linter.unusedVariables false

theorem Ext.weaken {w w' : World} {own own' : Nat → Prop} {ω ω' : Nat → Option Nat} {nx nx' n0 : Nat} (h : Ext w own ω nx w' own' ω' nx') (hn : n0 ≤ nx) : Ext w own ω n0 w' own' ω' n0 :=
  ⟨h.os, h.tape, h.output, h.size, h.old, h.owns, Nat.le_refl _, fun id hi => h.om id (by omega), h.row⟩
theorem Ext.raise {w w' : World} {own own' : Nat → Prop} {ω ω' : Nat → Option Nat} {nx nx' n0 : Nat} (h : Ext w own ω nx w' own' ω' nx') (hn : nx' ≤ n0) : Ext w own ω nx w' own' ω' n0 :=
  ⟨h.os, h.tape, h.output, h.size, h.old, h.owns, Nat.le_trans h.nxle hn, h.om, h.row⟩

section
variable {C : Cfg} {w : World} {B oC oL : Nat → Prop} {ω : Nat → Option Nat} {nx nx0 : Nat}

theorem eq_of_all {α : Type} {a b : α} (h : ∀ k : α → Bool, k a = k b) : a = b := by
  classical
  have := h (fun x => decide (x = b))
  simp at this
  exact this

theorem wp_calls {ro : Option Nat} {o : Oper} {a : Act} {K : Act → World → Prop} {Q : Exit → Act → World → Prop} {f : FuncId} {us : Array Value} {R : Ending → World → Prop} (hd : ∀ c, o.op ≠ .defer c)
    (hrun : (execOp a.eval o).run C.P w = .ok (.enter f us) w) (hc : CallsIn (Fr none) 0 C.P f us w R) (hR : ∀ e w', R e w' → ∃ u, e = .returned u ∧ K (a.put o.dst u) w') : o.wpIn (Fr ro) 0 C.P a w K Q := by
  refine ⟨about_fr _ _ _ _ _, ?_⟩
  rw [Oper.semAt_eq _ _ _ hd, hrun, Oper.uponIn_enter]
  refine ⟨fr_deep ro, (callsIn_fr hc).mono fun e w' he => ?_⟩
  obtain ⟨u, rfl, hk⟩ := hR e w' he
  exact hk
theorem wp_rounds {ro : Option Nat} {o : Oper} {a : Act} {K : Act → World → Prop} {Q : Exit → Act → World → Prop} {l : Nat} {fn : FuncId} {tmps : Array Value} {assign body : Code} {R : Ending → World → Prop} (hd : ∀ c, o.op ≠ .defer c)
    (hrun : (execOp a.eval o).run C.P w = .ok (.round l fn tmps assign body) w) (hc : RoundIn (Fr ro) 0 C.P l fn tmps assign body w R) (hR : ∀ e w', R e w' → ∃ u, e = .returned u ∧ K (a.put o.dst u) w') : o.wpIn (Fr ro) 0 C.P a w K Q := by
  refine ⟨about_fr _ _ _ _ _, ?_⟩
  rw [Oper.semAt_eq _ _ _ hd, hrun, Oper.uponIn_round]
  refine ⟨fr_deep ro, hc.mono fun e w' he => ?_⟩
  obtain ⟨u, rfl, hk⟩ := hR e w' he
  exact hk

theorem aop_false (C : Cfg) (ρ : Operand → AV) (h : Heap) (n : Nat) (op : Op) : aop C ρ h n op (fun _ _ _ => false) (fun _ _ => false) (fun _ => false) false = false :=
  (aop_nat (fun _ : Unit => false) C ρ h n op (fun _ _ _ => ()) (fun _ _ => ()) (fun _ => ()) ()).symm
/-- Whom a call leads to hangs on no memory. -/
theorem call_free {ρ : Operand → AV} {h : Heap} {n : Nat} {op : Op} {t : Tgt} {args : List AV} (ho : aopO C ρ h n op = .call t args) (h' : Heap) (n' : Nat) : aopO C ρ h' n' op = .call t args := by
  have no : (∀ kc kc' : Tgt → List AV → Bool, aop C ρ h n op (fun _ _ _ => false) kc (fun _ => false) false = aop C ρ h n op (fun _ _ _ => false) kc' (fun _ => false) false) → False := fun hk => by
    have e1 := hk (fun _ _ => true) (fun _ _ => false)
    rw [aop_false, aop_elim, ho] at e1
    cases e1
  cases op <;> try exact (no fun _ _ => rfl).elim
  case call c =>
    cases hc : c.callee with
    | value f =>
      have e : ∀ (h : Heap) (n : Nat), aopO C ρ h n (.call c) = callK C ρ [] 0 c .val .call .pan .no := fun h n => by simp only [aopO, aop, callK, hc]
      rw [e] at ho ⊢
      exact ho
    | invoke r m =>
      have e : ∀ (h : Heap) (n : Nat), aopO C ρ h n (.call c) = callK C ρ [] 0 c .val .call .pan .no := fun h n => by simp only [aopO, aop, callK, hc]
      rw [e] at ho ⊢
      exact ho
    | builtin b =>
      refine (no fun _ _ => ?_).elim
      simp only [aop, callK, hc]
      cases b <;> rfl

/-- What an operation of a region leaves. -/
def Done (C : Cfg) (w : World) (B oC oL : Nat → Prop) (ω : Nat → Option Nat) (nx0 : Nat) (s : St) (rc : Rc) (a' : Act) (w' : World) : Prop :=
  ∃ oC' oL' ω', Sim C w' B oC' oL' ω' (applyRc s rc) a' ∧ ExtR w oC oL ω nx0 w' oC' oL' ω' nx0 ∧ (∀ i, i < s.m.nx → (∀ hb, rc.eff ≠ .new i hb) → ω i = none → ω' i = none) ∧ s.m.nx ≤ (applyRc s rc).m.nx

set_option maxHeartbeats 1000000 in
/-- **One operation, carried out at another time than in the text.** -/
theorem exec (hC : C.Ok) {stand : Func → Code → List AV → (AV → Bool) → Bool} (hst : StandOk C stand) {call : CallF Bool} (hcall : CallOk C call) (hcf : ∀ t args m, call t args m (fun _ _ => false) (fun _ _ => false) = false) {ro : Option Nat} {o : Oper} {s T : St} {ai : Nat} {rc : Rc} {a : Act} {K : Act → World → Prop} {Q : Exit → Act → World → Prop}
    (S : Sim C w B oC oL ω s a) (hop : ∀ k, opD C stand call T.tmps T.m ai o k false = k rc) (hev : ∀ x ∈ o.op.operands, evO C T.tmps x = evO C s.tmps x)
    (hrd : ∀ id, memN rc.rd id = true → hget T.m.heap id = hget s.m.heap id) (hbar : rc.eff.isBar = true → T.m.nx = s.m.nx ∧ T.m.lp = s.m.lp)
    (hnew : ∀ i hb, rc.eff = .new i hb → i < s.m.nx ∧ nx0 ≤ i ∧ ω i = none) (hnx : nx0 ≤ s.m.nx)
    (hK : ∀ u w', Done C w B oC oL ω nx0 s rc (a.put o.dst u) w' → K (a.put o.dst u) w') : o.wpIn (Fr ro) 0 C.P a w K Q := by
  classical
  have hself : ∀ {F : (Rc → Bool) → Bool}, (∀ k, F k = k rc) → F (fun r => decide (r = rc)) = true := fun h => by rw [h]; simp
  unfold opD at hop
  cases hq : quietOp o.op with
  | true =>
    simp only [hq, cond_true] at hop
    have h0 := hself hop
    -- what it reads
    have hreads : rc.rd = readsOf (evO C s.tmps) o.op ∧ rc.dst = o.dst ∧ rc.eff = .nop := by
      have e1 := hop (fun r => decide (r.rd = readsOf (evO C T.tmps) o.op ∧ r.dst = o.dst ∧ r.eff = .nop))
      have e2 := hop (fun _ => true)
      simp only [and_self, decide_true] at e1
      rw [e1] at e2
      have e3 := of_decide_eq_true e2
      refine ⟨e3.1.trans ?_, e3.2⟩
      cases ho : o.op <;> simp only [readsOf]
      case load t x =>
        rw [hev x (by rw [ho]; simp [Op.operands])]
    rw [aop_congr hev] at h0
    have h1 := (quiet_same (n' := s.m.nx) hq (fun id hi => hrd id (by rw [hreads.1]; exact hi)) (fun v => decide ((⟨o.dst, v, readsOf (evO C T.tmps) o.op, .nop⟩ : Rc) = rc)) (fun v h n => decide ((⟨o.dst, v, readsOf (evO C T.tmps) o.op, .nop⟩ : Rc) = rc ∧ h = s.m.heap ∧ n = s.m.nx)) (fun v => by simp) (fun _ _ => false) (fun _ => false) false).trans h0
    refine oper_wp hcall (h := s.m.heap) (st := s) S.ms S.ev h1 (fun v u h' nx' w' oC' ω' hk E M hr => ?_) (fun _ _ => false) (fun _ _ => false) (fun t args h => by cases h) (fun v u m' w' oC' oL' ω' h => by cases h) (fun v u m' w' oC' oL' ω' h => by cases h) (fun v u h => by cases h)
    obtain ⟨e1, rfl, rfl⟩ := of_decide_eq_true hk
    refine hK u w' ⟨oC', oL, ω', ?_, (E.toR).weaken hnx, fun i hi _ hω => (E.om i hi).trans hω, by rw [← e1]; exact Nat.le_refl _⟩
    rw [← e1]
    have := S.put (dst := o.dst) (m' := s.m) E.toR M hr
    exact this
  | false =>
    simp only [hq, cond_false] at hop
    cases hn : newOp o.op with
    | true =>
      simp only [hn, cond_true] at hop
      have h0 := hself hop
      unfold newD at h0
      rw [aop_congr hev] at h0
      obtain ⟨mk, cs, el, p, arr, u, hrun, hk, hl, hp, hmk⟩ := new_makes S.ev hn h0
      have e1 := of_decide_eq_true hk
      obtain ⟨g1, g2, g3⟩ := hnew ai ⟨cs, el, p⟩ (by rw [← e1])
      obtain ⟨M, E, rep⟩ := S.ms.birth (nx0 := nx0) g3 g1 g2 (el := el) hl hp
      refine ⟨about_fr _ _ _ _ _, ?_⟩
      rw [Oper.semAt_eq _ _ _ (fun c e => by rw [e] at hn; cases hn), hrun, Oper.uponIn_value]
      refine hK u _ ⟨_, _, _, ?_, E, fun i hi hne hω => ?_, by rw [← e1]; exact Nat.le_refl _⟩
      · rw [← e1]
        have hv : Rep (w.alloc (.cells arr el)) (Or2 B oL) (fun x => oC x ∨ x = w.heap.size) (fun j => if j = ai then some w.heap.size else ω j) s.m.nx (mk ai) u := by
          rcases hmk with ⟨rfl, rfl⟩ | ⟨n, cap, sz, rfl, rfl, k1, k2, k3⟩
          · exact .ptr _ _ _ _ g1 (if_pos rfl)
          · refine .sla _ _ _ _ _ _ g1 (if_pos rfl) k1 k2 ?_
            have := heap_alloc_new w (.cells arr el)
            simp only [rowSize]
            rw [this]
            simp [k3]
        refine ⟨?_, ?_, M⟩
        · exact RepL.setT (nx := s.m.nx) ⟨S.tm.1, fun j hj => rep _ _ _ (S.tm.2 j hj)⟩ o.dst hv
        · rw [put_defers]
          exact S.dn.birth g3
      · have : i ≠ ai := fun e => by subst e; exact hne ⟨cs, el, p⟩ (by rw [← e1])
        exact (if_neg this).trans hω
    | false =>
      simp only [hn, cond_false] at hop
      generalize hfp : prints T.m (o.op.operands.toList.map (evO C T.tmps)) = fp at hop
      have h0 := hself hop
      unfold barD at h0
      rw [aop_congr hev] at h0
      -- the part of the memory
      have part : memN rc.rd = memN fp → (∀ id x, hget (hpick T.m.heap fp) id = some x → hget s.m.heap id = some x) ∧ (∀ id x, hget (hpick T.m.heap fp) id = some x → memN fp id = true) := fun hrc => by
        have key : ∀ id x, hget (hpick T.m.heap fp) id = some x → memN fp id = true ∧ hget T.m.heap id = some x := fun id x hx => by
          rw [hget_pick] at hx
          cases hm : memN fp id with
          | true => rw [hm] at hx; exact ⟨rfl, hx⟩
          | false => rw [hm] at hx; cases hx
        exact ⟨fun id x hx => (hrd id (by rw [hrc]; exact (key id x hx).1)).symm.trans (key id x hx).2, fun id x hx => (key id x hx).1⟩
      -- a barrier has been carried out on its part
      have bar : ∀ (v : AV) (m' : Mem) (u : Value) (w' : World) (oC1 oL1 : Nat → Prop) (ω1 : Nat → Option Nat), (⟨o.dst, v, fp, .bar fp T.m.nx m'⟩ : Rc) = rc → ExtR w (partOf ω (hpick T.m.heap fp)) oL ω s.m.nx w' oC1 oL1 ω1 m'.nx →
          MemSim C w' (Or2 B (butOf oC ω (hpick T.m.heap fp))) oC1 oL1 ω1 m' → Rep w' (Or2 (Or2 B (butOf oC ω (hpick T.m.heap fp))) oL1) oC1 ω1 m'.nx v u → K (a.put o.dst u) w' := fun v m' u w' oC1 oL1 ω1 e1 E M1 hr => by
        obtain ⟨p1, p2⟩ := part (by rw [← e1])
        obtain ⟨M2, E2, r1, r2⟩ := S.ms.merge (fp := fp) p1 p2 E M1
        refine hK u w' ⟨_, _, _, ?_, E2.weaken hnx, fun i hi _ hω => (E2.om i hi).trans hω, by rw [← e1]; exact E.nxle⟩
        rw [← e1]
        refine ⟨?_, ?_, M2⟩
        · exact RepL.setT (nx := m'.nx) ⟨S.tm.1, fun j hj => r2 _ _ (S.tm.2 j hj)⟩ o.dst (r1 _ _ _ hr)
        · rw [put_defers]
          exact S.dn.extR E2
      have hnd := aop_noDefer h0
      rw [aop_elim] at h0
      generalize hout : aopO C (evO C s.tmps) (hpick T.m.heap fp) T.m.nx o.op = out at h0
      have helim : ∀ (kv : AV → Heap → Nat → Bool) (kc : Tgt → List AV → Bool) (kp : AV → Bool), aop C (evO C s.tmps) (hpick T.m.heap fp) T.m.nx o.op kv kc kp false = out.elim kv kc kp false := fun kv kc kp => by rw [aop_elim, hout]
      cases out with
      | no => cases h0
      | pan v => cases h0
      | val v h n =>
        have e1 := of_decide_eq_true h0
        obtain ⟨b1, b2⟩ := hbar (by rw [← e1]; rfl)
        obtain ⟨p1, p2⟩ := part (by rw [← e1])
        have M0 := S.ms.pick p1
        rw [← b1] at M0
        refine oper_wp hcall (h := h) (st := s) (ro := ro) (a := a) (m := ⟨hpick T.m.heap fp, T.m.nx, s.m.lp⟩) (ρ := evO C s.tmps) (kv := fun v' h' n' => decide (v' = v ∧ h' = h ∧ n' = n)) (kc := fun _ _ => false) (kp := fun _ => false) M0 (fun x => by have := pick_rep S.ms p1 (S.ev x); rw [← b1] at this; exact this)
          ((helim _ _ _).trans (by simp [OpOut.elim])) (fun v' u h' nx' w' oC' ω' hk E M hr => ?_) (fun _ _ => false) (fun _ _ => false) (fun t args h => by cases h) (fun v u m' w' oC' oL' ω' h => by cases h) (fun v u m' w' oC' oL' ω' h => by cases h) (fun v u h => by cases h)
        obtain ⟨rfl, rfl, rfl⟩ := of_decide_eq_true hk
        rw [b2] at e1
        exact bar v' ⟨h', nx', s.m.lp⟩ u w' oC' oL ω' e1 (by have := (E.toR (oL := oL)); rw [b1] at this; exact this) M hr
      | call t args =>
        have hcl : ∀ (kv : AV → Heap → Nat → Bool) (kp : AV → Bool), aop C (evO C s.tmps) (hpick T.m.heap fp) T.m.nx o.op kv (fun t' args' => decide (t' = t ∧ args' = args)) kp false = true := fun kv kp => (helim _ _ _).trans (by simp [OpOut.elim])
        simp only [OpOut.elim] at h0
        -- the way of calls, on the part of the memory
        have viaCall : rc.eff.isBar = true → memN rc.rd = memN fp → (call t args ⟨hpick T.m.heap fp, T.m.nx, T.m.lp⟩ (fun v m' => decide ((⟨o.dst, v, fp, .bar fp T.m.nx m'⟩ : Rc) = rc)) (fun _ _ => false) = true) → o.wpIn (Fr ro) 0 C.P a w K Q := fun hb hm hk => by
          obtain ⟨b1, b2⟩ := hbar hb
          obtain ⟨p1, p2⟩ := part hm
          have M0 := S.ms.pick p1
          rw [← b1] at M0
          rw [b2] at hk
          refine oper_wp hcall (h := s.m.heap) (st := s) (ro := ro) (a := a) (m := ⟨hpick T.m.heap fp, T.m.nx, s.m.lp⟩) (ρ := evO C s.tmps) (kv := fun _ _ _ => false) (kc := fun t' args' => decide (t' = t ∧ args' = args)) (kp := fun _ => false) M0 (fun x => by have := pick_rep S.ms p1 (S.ev x); rw [← b1] at this; exact this)
            (hcl _ _) (fun v' u h' nx' w' oC' ω' hk => by cases hk) (fun v m' => decide ((⟨o.dst, v, fp, .bar fp T.m.nx m'⟩ : Rc) = rc)) (fun _ _ => false) (fun t' args' h => by obtain ⟨rfl, rfl⟩ := of_decide_eq_true h; exact hk) (fun v u m' w' oC' oL' ω' hk E M hr => ?_) (fun v u m' w' oC' oL' ω' h => by cases h) (fun v u h => by cases h)
          exact bar v m' u w' oC' oL' ω' (of_decide_eq_true hk) (by have := E; rw [b1] at this; exact this) M hr
        -- the outcome is one of two
        have two : (rc.eff = .nop ∨ rc.eff.isBar = true) ∧ rc.rd = fp ∧ rc.dst = o.dst := by
          have e1 := hop (fun r => decide ((r.eff = .nop ∨ r.eff.isBar = true) ∧ r.rd = fp ∧ r.dst = o.dst))
          have e2 := hop (fun _ => true)
          unfold barD at e1 e2
          simp only [Eff.isBar, or_true, true_or, and_self, decide_true] at e1
          rw [e1] at e2
          exact of_decide_eq_true e2
        cases t with
        | yld id =>
          refine viaCall ?_ (by rw [two.2.1]) h0
          have e1 := hop (fun r => decide (r.eff.isBar = true))
          have e2 := hop (fun _ => true)
          unfold barD at e1 e2
          rw [aop_congr hev, helim] at e1 e2
          simp only [OpOut.elim, Eff.isBar, decide_true] at e1 e2
          rw [e1] at e2
          exact of_decide_eq_true e2
        | fn f =>
          simp only at h0
          obtain ⟨p1, p2⟩ := part (by rw [two.2.1])
          have M0 := S.ms.pick p1
          rcases aop_sound C (H := M0.hp) (nx := s.m.nx) (fun x => pick_rep S.ms p1 (S.ev x)) (kv := fun _ _ _ => false) (kc := fun t' args' => decide (t' = .fn f ∧ args' = args)) (kp := fun _ => false) (o := o) (by
              rw [aop_elim, call_free hout]
              simp [OpOut.elim]) with ⟨_, _, _, _, _, _, _, _, h, _⟩ | ⟨t', args', us, hrun, h1, h2⟩ | ⟨_, _, _, h, _⟩
          · cases h
          · obtain ⟨rfl, rfl⟩ := of_decide_eq_true h1
            simp only [TgtRun] at hrun
            obtain ⟨fn, c, hfn, hb, hor⟩ := floatK_sound hC hst M0 h2 h0
            rcases hor with ho | hc
            · refine viaCall ?_ (by rw [two.2.1]) ho
              cases hbb : rc.eff.isBar with
              | true => rfl
              | false =>
                have : (fun (v : AV) (m' : Mem) => decide ((⟨o.dst, v, fp, .bar fp T.m.nx m'⟩ : Rc) = rc)) = fun _ _ => false := funext fun v => funext fun m' => decide_eq_false (fun e => by rw [← e] at hbb; cases hbb)
                rw [this, hcf] at ho
                cases ho
            · refine wp_calls hnd (hrun.trans (call_in hC hfn hb us w)) hc (fun e w' he => ?_)
              obtain ⟨v, u, rfl, hk, E, hr⟩ := he
              have e1 := of_decide_eq_true hk
              refine ⟨u, rfl, hK u w' ⟨oC, oL, ω, ?_, (Still.ext E).weaken (Nat.le_refl _), fun i hi _ hω => hω, by rw [← e1]; exact Nat.le_refl _⟩⟩
              rw [← e1]
              have M := S.ms.still E
              refine ⟨?_, ?_, M⟩
              · refine RepL.setT (nx := s.m.nx) (S.tm.ext E.ext) o.dst (hr.other fun b h1 h2 => ⟨fun hh => ?_, fun hh => ?_⟩)
                · by_cases hp : partOf ω (hpick T.m.heap fp) b
                  · exact h1 hp
                  · exact h2 (.inl (.inr ⟨hh, hp⟩))
                · exact hh.elim (fun hh => h2 (.inl (.inl hh))) (fun hh => h2 (.inr hh))
              · rw [put_defers]; exact S.dn
          · cases h
end
end Go.Bas
