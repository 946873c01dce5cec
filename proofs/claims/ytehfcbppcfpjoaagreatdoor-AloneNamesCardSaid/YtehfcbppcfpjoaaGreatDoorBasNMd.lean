/- The engine, part Md: loops gone through round by round, in stretches: a closed run is cut where one theorem would be too great. -/
import Derived.Test.YtehfcbppcfpjoaaGreatDoorBasNMc
import Derived.LoopNIn
namespace Go.Bas
open Go.RowKit
set_option linter.unusedSimpArgs false
set_option linter.unusedVariables false
section
variable {F : Fence} {n : Nat} {P : Program} {Q : Exit → Act → World → Prop} {a : Act} {w : World} {c : Code}
/-- A loop whose next round is about to begin. -/
def loopR (F : Fence) (n : Nat) (P : Program) (c : Code) (Q : Exit → Act → World → Prop) (a : Act) (w : World) : Prop :=
  ∀ (b : Frame) (k : List Item) (cs : List Frame), b.roundOf = F.round → F.fn b.fn → F.room (cs.length + 1 + n) →
    ∃ e a' w', Q e a' w' ∧ ArrivesIn (Machine.fenced P F) P (lone (b.atR a (.code c :: .inLoop c :: k)) cs w) b k cs e a' w'
theorem loopR_wp (h : loopR F n P c Q a w) : (Code.loop c).wpIn F n P Q a w := fun b k cs hro hb hr => by
  obtain ⟨e, a', w', hq, harr⟩ := h b k cs hro hb hr
  exact ⟨e, a', w', hq, .of_steps (.one (fenced_calm hb hr rfl) stepR_loop) harr⟩
theorem loopR_step (h : c.wpIn F n P (Exit.then (loopR F n P c Q) Q) a w) : loopR F n P c Q a w := fun b k cs hro hb hr => by
  obtain ⟨e, a₁, w₁, hq, harr⟩ := h b (.inLoop c :: k) cs hro hb hr
  cases e with
  | normal =>
    obtain ⟨e₂, a₂, w₂, hq₂, harr₂⟩ := hq b k cs hro hb hr
    exact ⟨e₂, a₂, w₂, hq₂, .of_steps (StepsIn.trans harr (.one (fenced_calm hb hr rfl) stepR_inLoop)) harr₂⟩
  | exit id => exact ⟨_, a₁, w₁, hq, .pass (x := .inLoop c) rfl (fun _ _ => .inl (by simp)) harr⟩
  | goto l => exact ⟨_, a₁, w₁, hq, .pass (x := .inLoop c) rfl (fun _ _ => .inl (by simp)) harr⟩
  | ret => exact ⟨_, a₁, w₁, hq, .pass (x := .inLoop c) rfl (fun _ _ => .inl (by simp)) harr⟩
  | panic ch => exact ⟨_, a₁, w₁, hq, .pass (x := .inLoop c) rfl (fun _ _ => .inl (by simp)) harr⟩
  | outgrown => exact ⟨_, a₁, w₁, hq, .pass (x := .inLoop c) rfl (fun _ _ => .inl (by simp)) harr⟩
end
section
variable {C : Cfg} {K : Ex → St → Prop} {st : St} {inr : Option Nat} {body : Code}
/-- From this state on a loop's rounds come to an end, and there 'K' holds. -/
def AWr (C : Cfg) (inr : Option Nat) (body : Code) (st : St) (K : Ex → St → Prop) : Prop :=
  ∀ (w : World) (B oC oL : Nat → Prop) (ω : Nat → Option Nat) (a : Act) (Q : Exit → Act → World → Prop) (ro : Option Nat), Sim C w B oC oL ω st a → InR ω st.m.nx inr ro →
    (∀ e st' a' w' oC' oL' ω' out, Sim C w' B oC' oL' ω' st' a' → ExtR w oC oL ω st.m.nx w' oC' oL' ω' st'.m.nx → K e st' → OutIs w' B oC' oL' ω' st'.m.nx e out → Q out a' w') → loopR (Fr ro) 0 C.P body Q a w
theorem AWr.loop (h : AWr C inr body st K) : AWp C inr (.loop body) st K := fun w B oC oL ω a Q ro S hI hQ => loopR_wp (h w B oC oL ω a Q ro S hI hQ)
theorem AWr.step (h : AWp C inr body st (fun e s => match e with | .normal => AWr C inr body s K | e => K e s)) : AWr C inr body st K := fun w B oC oL ω a Q ro S hI hQ => by
  refine loopR_step (h w B oC oL ω a _ ro S hI (fun e st' a' w' oC' oL' ω' out S' E hk ho => ?_))
  cases e with
  | normal =>
    subst ho
    exact hk w' B oC' oL' ω' a' Q ro S' (hI.ext E) (fun e2 st2 a2 w2 oC2 oL2 ω2 out2 S2 E2 hk2 ho2 => hQ e2 st2 a2 w2 oC2 oL2 ω2 out2 S2 (E.trans E2) hk2 ho2)
  | exit id => have h2 := hQ _ st' a' w' oC' oL' ω' out S' E hk ho; subst ho; exact h2
  | goto l => have h2 := hQ _ st' a' w' oC' oL' ω' out S' E hk ho; subst ho; exact h2
  | ret => have h2 := hQ _ st' a' w' oC' oL' ω' out S' E hk ho; subst ho; exact h2
  | panic v => have h2 := hQ _ st' a' w' oC' oL' ω' out S' E hk ho; obtain ⟨u, rfl, _⟩ := ho; exact h2
/-- So many rounds, none of which leaves the loop; of each one's end the named temporaries are looked at. -/
noncomputable def rnds {Ω : Type} (C : Cfg) (n : Nat) (ls : List Nat) (body : Code) (m : Nat) : St → (St → Ω) → Ω → Ω := Nat.rec (motive := fun _ => St → (St → Ω) → Ω → Ω) (fun st k _ => k st)
  (fun _ ih st k z => run C n none none body st (fun e s => match e with
    | .normal => ih (keepS ls s) k z
    | _ => z) z) m
theorem AWr.less {st' : St} (h : LessS C st st') (hw : AWr C inr body st' K) : AWr C inr body st K := fun w B oC oL ω a Q ro S hI hQ =>
  hw w B oC oL ω a Q ro (h.2 _ _ _ _ _ _ S) (h.1 ▸ hI) (fun e s a' w' oC' oL' ω' out S' E hk ho => hQ e s a' w' oC' oL' ω' out S' (h.1 ▸ E) hk ho)
theorem AWr.rnds (hC : C.Ok) {n : Nat} {ls : List Nat} : ∀ (m : Nat) (st : St) (k : St → Bool), Bas.rnds C n ls body m st k false = true → (∀ s, k s = true → AWr C none body s K) → AWr C none body st K
  | 0, st, k, h, hk => hk st h
  | m + 1, st, k, h, hk => by
    refine AWr.step ?_
    have h : run C n none none body st (fun e s => match e with
      | .normal => Bas.rnds C n ls body m (keepS ls s) k false
      | _ => false) false = true := h
    refine AWp.mono (K := fun e s => (match e with
      | .normal => Bas.rnds C n ls body m (keepS ls s) k false
      | _ => false) = true) (fun e s he => ?_) (fun w B oC oL ω a Q ro S hI hQ => (run_sound hC n).1 none body st _ w B oC oL ω a Q ro h S hI hQ)
    cases e with
    | normal => exact AWr.less (LessS.keep ls s) (AWr.rnds hC m (keepS ls s) k he hk)
    | exit id => cases he
    | goto l => cases he
    | ret => cases he
    | panic v => cases he
/-- A stretch of rounds, from one state to another. -/
theorem AWr.to (hC : C.Ok) {n m : Nat} {ls : List Nat} {st' : St} (h : ∀ k : St → Bool, k st' = true → Bas.rnds C n ls body m st k false = true) (hw : AWr C none body st' K) : AWr C none body st K := by
  classical
  exact AWr.rnds hC m st (fun s => decide (s = st')) (h _ (by simp)) (fun s hs => by
    have := of_decide_eq_true hs
    rw [this]
    exact hw)
end
end Go.Bas
