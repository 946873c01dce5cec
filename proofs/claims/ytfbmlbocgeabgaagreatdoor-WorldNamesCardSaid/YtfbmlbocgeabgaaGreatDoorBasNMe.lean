/- The engine, part Me: a closed loop gone through round by round from known states, what its rounds make let go; and loops unrolled. -/
import Derived.Test.YtfbmlbocgeabgaaGreatDoorBasNMd
import Derived.Test.YtfbmlbocgeabgaaGreatDoorBasNMc
namespace Go.Bas
open Go.RowKit
set_option linter.unusedSimpArgs false
set_option linter.unusedVariables false
section
variable {C : Cfg} {K : Ex → St → Prop} {st : St} {inr : Option Nat} {body : Code}
/-- What is kept of a state: the named temporaries, and the blocks below a number. -/
noncomputable def dropS (n0 : Nat) (st : St) : St := ⟨st.tmps, st.ds, ⟨hlow n0 st.m.heap, n0, st.m.lp⟩⟩
noncomputable def okD (n0 : Nat) (st : St) : Bool := Nat.ble n0 st.m.nx && (lowOk n0 st && lowLp n0 st)
noncomputable def dk (n0 : Nat) (ls : List Nat) (e : Ex) (s : St) (k : Ex → St → Bool) : Bool := cond (okD n0 (keepS ls s)) (k e (dropS n0 (keepS ls s))) false
theorem dk_lessD {n0 : Nat} {ls : List Nat} {e : Ex} {s : St} {k : Ex → St → Bool} (h : dk n0 ls e s k = true) : LessD C n0 s (dropS n0 (keepS ls s)) ∧ k e (dropS n0 (keepS ls s)) = true := by
  unfold dk at h
  obtain ⟨h1, h2⟩ := of_cond h
  unfold okD at h1
  simp only [Bool.and_eq_true] at h1
  obtain ⟨a, b, c⟩ := h1
  have hn : n0 ≤ (keepS ls s).m.nx := Nat.le_of_ble_eq_true a
  have l1 : LessS C s (keepS ls s) := LessS.keep ls s
  have l2 : LessD C n0 (keepS ls s) (dropS n0 (keepS ls s)) := LessD.drop n0 n0 (Nat.le_refl _) hn b c
  refine ⟨⟨Nat.le_refl _, ?_, fun w B oC oL ω a S => l2.2.2 _ _ _ _ _ _ (l1.2 _ _ _ _ _ _ S)⟩, h2⟩
  have := l1.1
  show n0 ≤ s.m.nx
  omega
/-- One round, to the next state. -/
def Rnd (C : Cfg) (n n0 : Nat) (ls : List Nat) (body : Code) (s : St) (e : Ex) (s' : St) : Prop := ∀ k : Ex → St → Bool, run C n none none body s (fun e s => dk n0 ls e s k) false = k e s'
theorem loop_rounds (hC : C.Ok) {n n0 N : Nat} {ls : List Nat} (I : Nat → St) {x : Ex} {E : St} (hx : x.calm = true) (hxn : ∀ s, x = s → s ≠ .normal) (hn : ∀ i, (I i).m.nx = n0) (h : ∀ i, i < N → Rnd C n n0 ls body (I i) .normal (I (i + 1)))
    (hl : Rnd C n n0 ls body (I N) x E) (hK : K x E) : AWp C none (.loop body) (I 0) K := by
  classical
  have key : AWp C none (.loop body) (I (⟨0, Nat.zero_le _⟩ : { i : Nat // i ≤ N }).1) K := by
    refine AWp.loopD (K := K) (fun i : { i : Nat // i ≤ N } => I i.1) n0 (fun i => hn i.1) (fun i => N - i.1) ?_ ⟨0, Nat.zero_le _⟩
    rintro ⟨i, hi⟩
    by_cases hiN : i < N
    · have hr := h i hiN (fun e s => decide (e = .normal ∧ s = I (i + 1)))
      have ht : run C n none none body (I i) (fun e s => dk n0 ls e s (fun e s => decide (e = .normal ∧ s = I (i + 1)))) false = true := hr.trans (decide_eq_true ⟨rfl, rfl⟩)
      refine AWp.mono (fun e s he => ?_) (fun w B oC oL ω a Q ro S hI hQ => (run_sound hC n).1 none body (I i) _ w B oC oL ω a Q ro ht S hI hQ)
      obtain ⟨l, hk⟩ := dk_lessD (C := C) he
      obtain ⟨rfl, hs⟩ := of_decide_eq_true hk
      refine ⟨⟨i + 1, hiN⟩, by show N - (i + 1) < N - i; omega, ?_⟩
      show LessD C n0 s (I (i + 1))
      rw [← hs]; exact l
    · have e : i = N := by omega
      subst e
      have hr := hl (fun e s => decide (e = x ∧ s = E))
      have ht : run C n none none body (I i) (fun e s => dk n0 ls e s (fun e s => decide (e = x ∧ s = E))) false = true := hr.trans (decide_eq_true ⟨rfl, rfl⟩)
      refine AWp.mono (fun e s he => ?_) (fun w B oC oL ω a Q ro S hI hQ => (run_sound hC n).1 none body (I i) _ w B oC oL ω a Q ro ht S hI hQ)
      obtain ⟨l, hk⟩ := dk_lessD (C := C) he
      obtain ⟨he, hs⟩ := of_decide_eq_true hk
      subst he
      have l' : LessD C n0 s E := by rw [← hs]; exact l
      cases e with
      | normal => exact absurd rfl (hxn .normal rfl)
      | exit id => exact ⟨E, l', hK⟩
      | goto l => exact ⟨E, l', hK⟩
      | ret => exact ⟨E, l', hK⟩
      | panic v => cases hx
  exact key
/-- A loop, unrolled so often. -/
noncomputable def unrl (C : Cfg) (n : Nat) (body : Code) (l : List LF) : Nat → LF
  | 0 => fun _ _ => false
  | m + 1 => fun st k => runM C n body l st (fun e s => match e with
    | .normal => unrl C n body l m s k
    | e => k e s)
theorem unrl_ok (hC : C.Ok) {n : Nat} {l : List LF} (hl : LoopsOkP C (loopsOf body) l) : ∀ (m : Nat) (st : St) (k : Ex → St → Bool), unrl C n body l m st k = true → AWr C none body st (fun e s => k e s = true)
  | 0, _, _, h => by cases h
  | m + 1, st, k, h => by
    refine AWr.step ?_
    have h2 : runM C n body l st (fun e s => match e with
      | .normal => unrl C n body l m s k
      | e => k e s) = true := h
    have this := runA_soundP hC (mkA body l) st _ (mkA_okP body l hl) h2
    rw [mkA_code] at this
    refine this.mono fun e s he => ?_
    cases e with
    | normal => exact unrl_ok hC hl m s k he
    | exit id => exact he
    | goto l => exact he
    | ret => exact he
    | panic v => exact he
end
end Go.Bas
