/- The engine, part Mf: blocks that nobody looks at again are left out of the heap, their numbers as they are; rounds of a loop with that. -/
import Derived.Test.YtehfcbppcfpjoaaGreatDoorBasNMd
import Derived.Test.YtehfcbppcfpjoaaGreatDoorBasNMb
namespace Go.Bas
open Go.RowKit
set_option linter.unusedSimpArgs false
set_option linter.unusedVariables false
noncomputable def memL (i : Nat) (l : List Nat) : Bool := List.rec (motive := fun _ => Bool) false (fun j _ ih => cond (Nat.beq i j) true ih) l
noncomputable def hkeep (ids : List Nat) (h : Heap) : Heap := List.rec (motive := fun _ => Heap) [] (fun p _ ih => cond (memL p.1 ids) (p :: ih) ih) h
theorem hget_hkeep (ids : List Nat) (id : Nat) (hb : HB) : ∀ h : Heap, hget (hkeep ids h) id = some hb → memL id ids = true ∧ hget h id = some hb
  | [], h => by cases h
  | p :: r, h => by
    have e : hkeep ids (p :: r) = cond (memL p.1 ids) (p :: hkeep ids r) (hkeep ids r) := rfl
    rw [e] at h
    rw [hget_cons p.1 p.2 r]
    cases h1 : memL p.1 ids with
    | true =>
      rw [h1] at h
      have h : cond (Nat.beq p.1 id) (some p.2) (hget (hkeep ids r) id) = some hb := h
      cases h2 : Nat.beq p.1 id with
      | true =>
        rw [h2] at h
        exact ⟨of_beq h2 ▸ h1, h⟩
      | false =>
        rw [h2] at h
        exact hget_hkeep ids id hb r h
    | false =>
      rw [h1] at h
      obtain ⟨a, b⟩ := hget_hkeep ids id hb r h
      cases h2 : Nat.beq p.1 id with
      | true =>
        have := of_beq h2
        subst this
        rw [h1] at a; cases a
      | false => exact ⟨a, b⟩
/-- The named blocks alone. -/
noncomputable def keepH (ids : List Nat) (st : St) : St := ⟨st.tmps, st.ds, ⟨hkeep ids st.m.heap, st.m.nx, st.m.lp⟩⟩
section
variable {C : Cfg} {K : Ex → St → Prop} {st : St} {inr : Option Nat} {body : Code}
theorem LessS.keepH (ids : List Nat) (st : St) : LessS C st (Bas.keepH ids st) := ⟨rfl, fun w B oC oL ω a S => by
  refine ⟨S.tm, S.dn, ⟨⟨fun id hb h => ?_, fun i j b h1 h2 => ?_, S.ms.hp.ob⟩, S.ms.lp, S.ms.gl, S.ms.gb, S.ms.bl⟩⟩
  · exact S.ms.hp.rel id hb (hget_hkeep ids id hb _ h).2
  · obtain ⟨x1, e1⟩ := Option.isSome_iff_exists.1 h1
    obtain ⟨x2, e2⟩ := Option.isSome_iff_exists.1 h2
    have e1 := (hget_hkeep ids i x1 _ e1).2
    have e2 := (hget_hkeep ids j x2 _ e2).2
    exact S.ms.hp.inj i j b (by rw [e1]; rfl) (by rw [e2]; rfl)⟩
theorem LessS.trans' {st st1 st2 : St} (h : LessS C st st1) (h' : LessS C st1 st2) : LessS C st st2 := ⟨h'.1.trans h.1, fun w B oC oL ω a S => h'.2 _ _ _ _ _ _ (h.2 _ _ _ _ _ _ S)⟩
/-- What is kept at a round's end: the named temporaries and the named blocks. -/
noncomputable def keepSH (ls ids : List Nat) (st : St) : St := Bas.keepH ids (keepS ls st)
theorem LessS.keepSH (ls ids : List Nat) (st : St) : LessS C st (Bas.keepSH ls ids st) := (LessS.keep ls st).trans' (LessS.keepH ids _)
/-- So many rounds, none of which leaves the loop, of whose ends the named temporaries and blocks are kept. -/
noncomputable def rndsH {Ω : Type} (C : Cfg) (n : Nat) (ls ids : List Nat) (body : Code) (m : Nat) : St → (St → Ω) → Ω → Ω := Nat.rec (motive := fun _ => St → (St → Ω) → Ω → Ω) (fun st k _ => k st)
  (fun _ ih st k z => run C n none none body st (fun e s => match e with
    | .normal => ih (Bas.keepSH ls ids s) k z
    | _ => z) z) m
theorem AWr.rndsH (hC : C.Ok) {n : Nat} {ls ids : List Nat} : ∀ (m : Nat) (st : St) (k : St → Bool), Bas.rndsH C n ls ids body m st k false = true → (∀ s, k s = true → AWr C none body s K) → AWr C none body st K
  | 0, st, k, h, hk => hk st h
  | m + 1, st, k, h, hk => by
    refine AWr.step ?_
    have h : run C n none none body st (fun e s => match e with
      | .normal => Bas.rndsH C n ls ids body m (Bas.keepSH ls ids s) k false
      | _ => false) false = true := h
    refine AWp.mono (K := fun e s => (match e with
      | .normal => Bas.rndsH C n ls ids body m (Bas.keepSH ls ids s) k false
      | _ => false) = true) (fun e s he => ?_) (fun w B oC oL ω a Q ro S hI hQ => (run_sound hC n).1 none body st _ w B oC oL ω a Q ro h S hI hQ)
    cases e with
    | normal => exact AWr.less (LessS.keepSH ls ids s) (AWr.rndsH hC m (Bas.keepSH ls ids s) k he hk)
    | exit id => cases he
    | goto l => cases he
    | ret => cases he
    | panic v => cases he
/-- A stretch of rounds, from one state to another. -/
theorem AWr.toH (hC : C.Ok) {n m : Nat} {ls ids : List Nat} {st' : St} (h : ∀ k : St → Bool, Bas.rndsH C n ls ids body m st k false = k st') (hw : AWr C none body st' K) : AWr C none body st K := by
  classical
  exact AWr.rndsH hC m st (fun s => decide (s = st')) ((h _).trans (by simp)) (fun s hs => by
    have := of_decide_eq_true hs
    rw [this]
    exact hw)
end
end Go.Bas
