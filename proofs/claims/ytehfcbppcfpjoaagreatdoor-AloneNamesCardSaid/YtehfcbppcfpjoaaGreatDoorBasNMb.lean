/- The engine, part Mb: blocks let go. -/
import Derived.Test.YtehfcbppcfpjoaaGreatDoorBasNMa
namespace Go.Bas
open Go.RowKit
set_option linter.unusedSimpArgs false
set_option linter.unusedVariables false

/-- Its own blocks have numbers below one ('d': how deep it is looked into). -/
def AV.under (n : Nat) : Nat → AV → Bool
  | 0, _ => false
  | _ + 1, .ptr id _ => Nat.blt id n
  | _ + 1, .sl id _ _ _ _ => Nat.blt id n
  | _ + 1, .yld id => Nat.blt id n
  | _ + 1, .mp id => Nat.blt id n
  | d + 1, .fn _ a b => a.all (AV.under n d) && b.all (AV.under n d)
  | d + 1, .iface _ v => AV.under n d v
  | d + 1, .agg cs => cs.all (AV.under n d)
  | d + 1, .tup cs => cs.all (AV.under n d)
  | _ + 1, _ => true
theorem blt_lt {a b : Nat} (h : Nat.blt a b = true) : a < b := Nat.le_of_ble_eq_true h
theorem Rep.lower {w : World} {B : Nat → Prop} {own : Nat → Prop} {ω : Nat → Option Nat} {nx : Nat} {v : AV} {u : Value}
    (h : Rep w B own ω nx v u) : ∀ {d n : Nat}, v.under n d = true → Rep w B own ω n v u := by
  induction h with
  | any => intro _ _ _; exact .any _ _
  | bool => intro _ _ _; exact .bool _ _
  | int => intro _ _ _; exact .int _ _ _
  | str => intro _ _ _; exact .str _ _
  | nilp => intro _ _ _; exact .nilp _
  | ptr nx id off b hi hw =>
    intro d n hd
    cases d with
    | zero => cases hd
    | succ d => exact .ptr _ _ _ _ (blt_lt hd) hw
  | iptr nx cells off b o vs hb hc hr _ => intro _ _ _; exact .iptr _ _ _ b o vs hb hc hr
  | nils => intro _ _ _; exact .nils _
  | lst nx cells n cap b o vs hb hn hc hr _ => intro _ _ _; exact .lst _ _ _ _ b o vs hb hn hc hr
  | lstn => intro _ _ _; exact .lstn _ _ _
  | es nx a => intro _ _ _; exact .es _ _
  | ns nx p c => intro _ _ _; exact .ns _ _ _
  | sl nx id off n sz cap b hi hw hn =>
    intro d m hd
    cases d with
    | zero => cases hd
    | succ d => exact .sl _ _ _ _ _ _ _ (blt_lt hd) hw hn
  | sla nx id n sz cap b hi hw hn hcm hrow =>
    intro d m hd
    cases d with
    | zero => cases hd
    | succ d => exact .sla _ _ _ _ _ _ (blt_lt hd) hw hn hcm hrow
  | mp nx id l hi hw =>
    intro d m hd
    cases d with
    | zero => cases hd
    | succ d => exact .mp _ _ _ (blt_lt hd) hw
  | yld nx id l hi hw =>
    intro d m hd
    cases d with
    | zero => cases hd
    | succ d => exact .yld _ _ _ (blt_lt hd) hw
  | fn nx f first cap fs cs h1 h2 _ _ ih1 ih2 =>
    intro d m hd
    cases d with
    | zero => cases hd
    | succ d =>
      simp only [AV.under, Bool.and_eq_true, List.all_eq_true] at hd
      exact .fn _ _ _ _ _ _ h1 h2 (fun i hi => ih1 i hi (hd.1 _ (List.getElem_mem hi))) (fun i hi => ih2 i hi (hd.2 _ (List.getElem_mem hi)))
  | nilfn => intro _ _ _; exact .nilfn _
  | iface nx t v u _ ih =>
    intro d m hd
    cases d with
    | zero => cases hd
    | succ d => exact .iface _ _ _ _ (ih hd)
  | niliface => intro _ _ _; exact .niliface _
  | agg nx cs vs h1 _ ih =>
    intro d m hd
    cases d with
    | zero => cases hd
    | succ d =>
      simp only [AV.under, List.all_eq_true] at hd
      exact .agg _ _ _ h1 (fun i hi => ih i hi (hd _ (List.getElem_mem hi)))
  | tup nx cs vs h1 _ ih =>
    intro d m hd
    cases d with
    | zero => cases hd
    | succ d =>
      simp only [AV.under, List.all_eq_true] at hd
      exact .tup _ _ _ h1 (fun i hi => ih i hi (hd _ (List.getElem_mem hi)))

/-- The blocks with numbers below one. -/
noncomputable def hlow (n : Nat) (h : Heap) : Heap := List.rec (motive := fun _ => Heap) [] (fun p _ ih => cond (Nat.blt p.1 n) (p :: ih) ih) h
theorem hget_hlow (n id : Nat) (hb : HB) : ∀ h : Heap, hget (hlow n h) id = some hb → id < n ∧ hget h id = some hb
  | [], h => by cases h
  | p :: r, h => by
    have e : hlow n (p :: r) = cond (Nat.blt p.1 n) (p :: hlow n r) (hlow n r) := rfl
    rw [e] at h
    rw [hget_cons p.1 p.2 r]
    cases h1 : Nat.blt p.1 n with
    | true =>
      rw [h1] at h
      have h : cond (Nat.beq p.1 id) (some p.2) (hget (hlow n r) id) = some hb := h
      cases h2 : Nat.beq p.1 id with
      | true =>
        rw [h2] at h
        exact ⟨of_beq h2 ▸ blt_lt h1, h⟩
      | false =>
        rw [h2] at h
        exact hget_hlow n id hb r h
    | false =>
      rw [h1] at h
      obtain ⟨a, b⟩ := hget_hlow n id hb r h
      cases h2 : Nat.beq p.1 id with
      | true =>
        have := of_beq h2
        subst this
        have : Nat.blt p.1 n = true := Nat.ble_eq_true_of_le a
        rw [h1] at this; cases this
      | false => exact ⟨a, b⟩
/-- Nothing leads into the blocks that are let go. -/
noncomputable def lowOk (n : Nat) (st : St) : Bool := st.tmps.all (AV.under n 8) && ((hlow n st.m.heap).all (fun p => p.2.pure || p.2.cells.all (AV.under n 8)))
theorem hget_mem {h : Heap} {id : Nat} {hb : HB} : hget h id = some hb → ∃ p ∈ h, p.2 = hb := by
  induction h with
  | nil => intro h; cases h
  | cons p r ih =>
    intro h
    rw [hget_cons p.1 p.2 r] at h
    cases hc : Nat.beq p.1 id with
    | true => rw [hc] at h; exact ⟨p, List.mem_cons_self .., Option.some.inj h⟩
    | false => rw [hc] at h; obtain ⟨q, hq, e⟩ := ih h; exact ⟨q, List.mem_cons_of_mem _ hq, e⟩
/-- Blocks are let go, and their numbers are free again. -/
theorem Less.drop {C : Cfg} {st : St} (n : Nat) (hn : n ≤ st.m.nx) (hds : st.ds = []) (hlp : st.m.lp = []) (hok : lowOk n st = true) : Less C st ⟨st.tmps, [], ⟨hlow n st.m.heap, n, []⟩⟩ := fun w B oC oL ω a S => by
  simp only [lowOk, Bool.and_eq_true, List.all_eq_true] at hok
  refine ⟨ω, ⟨S.tm.1, fun i hi => (S.tm.2 i hi).lower (hok.1 _ (List.getElem_mem hi))⟩, ?_, ⟨⟨fun id hb h => ?_, fun i j b h1 h2 => ?_, S.ms.hp.ob⟩, ⟨fun id e h => (by cases h), fun i j l h => (by cases h), S.ms.lp.dis⟩, S.ms.gl, S.ms.gb, S.ms.bl⟩⟩
  · have := S.dn
    rw [hds] at this
    show Marks ω n [] a.defers
    cases hq : a.defers with
    | nil => exact trivial
    | cons x xs => rw [hq] at this; exact this.elim
  · obtain ⟨h1, h2⟩ := hget_hlow n id hb _ h
    obtain ⟨q1, b, arr, q2, q3, q4, q5, q6⟩ := S.ms.hp.rel id hb h2
    refine ⟨h1, b, arr, q2, q3, q4, q5, fun i hi => ?_⟩
    have := q6 i hi
    cases hp : hb.pure with
    | true => rw [hp] at this; exact this
    | false =>
      rw [hp] at this
      obtain ⟨p, hp1, hp2⟩ := hget_mem h
      have h3 := hok.2 p hp1
      rw [hp2, hp, Bool.false_or, List.all_eq_true] at h3
      exact this.lower (h3 _ (List.getElem_mem hi))
  · obtain ⟨x1, e1⟩ := Option.isSome_iff_exists.1 h1
    obtain ⟨x2, e2⟩ := Option.isSome_iff_exists.1 h2
    obtain ⟨_, e1⟩ := hget_hlow n i x1 _ e1
    obtain ⟨_, e2⟩ := hget_hlow n j x2 _ e2
    exact S.ms.hp.inj i j b (by rw [e1]; rfl) (by rw [e2]; rfl)
/-- It is no panic. -/
def Ex.calm : Ex → Bool
  | .panic _ => false
  | _ => true
section
variable {C : Cfg} {K K' : Ex → St → Prop} {st : St}
/-- What holds of an end that is known less of. -/
theorem AWq.postL {code : Code} (h : AWq C code st K) (hk : ∀ e s, K e s → e.calm = true ∧ ∃ s', Less C s s' ∧ K' e s') : AWq C code st K' := fun w B oC oL ω a Q S hQ =>
  h w B oC oL ω a Q S (fun e st' a' w' oC' oL' ω' out S' E hK ho => by
    obtain ⟨hc, s2, hl, hk'⟩ := hk e st' hK
    obtain ⟨ω2, S2⟩ := hl w' B oC' oL' ω' a' S'
    refine hQ e s2 a' w' oC' oL' ω2 out S2 ⟨E.os, E.tape, E.output, E.size, E.old, E.owns, Nat.zero_le _, fun _ h => absurd h (Nat.not_lt_zero _), E.row⟩ hk' ?_
    cases e with
    | panic v => cases hc
    | _ => exact ho)
theorem AWq.runMK (hC : C.Ok) (ls : List Nat) {n : Nat} {c : Code} {l : List LF} (hl : LoopsOk C (loopsOf c) l) (h : ∀ k : Ex → St → Bool, (∀ e s, K e s → k e s = true) → Bas.runM C n c l st (fun e s => k e (keepS ls s)) = true) : AWq C c st K := by
  classical
  have h1 := h (fun e s => decide (K e s)) (fun e s h => decide_eq_true h)
  have := runA_sound hC (mkA c l) st _ (mkA_ok c l hl) h1
  rw [mkA_code] at this
  intro w B oC oL ω a Q S hQ
  refine this w B oC oL ω a Q S (fun e st' a' w' oC' oL' ω' out S' E hK ho => ?_)
  have hl := LessS.keep (C := C) ls st'
  refine hQ e (keepS ls st') a' w' oC' oL' ω' out (hl.2 _ _ _ _ _ _ S') (hl.1 ▸ E) (of_decide_eq_true hK) ?_
  cases e with
  | panic v => obtain ⟨u, h1, h2⟩ := ho; exact ⟨u, h1, hl.1 ▸ h2⟩
  | _ => exact ho
end
end Go.Bas
