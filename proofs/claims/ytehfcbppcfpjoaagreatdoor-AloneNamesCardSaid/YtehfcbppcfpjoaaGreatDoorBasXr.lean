/- The engine: what a function does at known calls, where they stand: out of a run of its body, or of its loop's rounds. -/
import Derived.Test.YtehfcbppcfpjoaaGreatDoorBasNMf
import Derived.Test.YtehfcbppcfpjoaaGreatDoorBasNMc
namespace Go.Bas
open Go.RowKit
set_option linter.unusedSimpArgs false
set_option linter.unusedVariables false
noncomputable def onP (P : Prop) : Bool := @decide P (Classical.propDecidable _)
theorem of_onP {P : Prop} (h : onP P = true) : P := @of_decide_eq_true _ (Classical.propDecidable _) h
theorem onP_true {P : Prop} (h : P) : onP P = true := @decide_eq_true _ (Classical.propDecidable _) h
theorem ev_cond {Ω : Type} (b : Bool) (x y : TrM) (k : AV → Mem → Ω) (z : Ω) : (cond b x y).ev k z = cond b (x.ev k z) (y.ev k z) := by cases b <;> rfl
section
variable {C : Cfg} {K : Ex → St → Prop} {st : St} {c body : Code} {n : Nat} {ls ids : List Nat} {e0 x : Ex} {E S0 : St}
theorem awp_run (hC : C.Ok) (h : ∀ k : Ex → St → Bool, run C n none none c st (fun e s => k e (keepSH ls ids s)) false = k e0 E) : AWp C none c st (fun e s => e = e0 ∧ LessS C s E) := by
  classical
  have h1 := (h (fun e s => decide (e = e0 ∧ s = E))).trans (decide_eq_true ⟨rfl, rfl⟩)
  refine AWp.mono (fun e s he => ?_) (fun w B oC oL ω a Q ro S hI hQ => (run_sound hC n).1 none c st _ w B oC oL ω a Q ro h1 S hI hQ)
  obtain ⟨h2, h3⟩ := of_decide_eq_true he
  exact ⟨h2, h3 ▸ LessS.keepSH ls ids s⟩
theorem awp_runM (hC : C.Ok) {l : List LF} (hl : LoopsOkP C (loopsOf c) l) (h : ∀ k : Ex → St → Bool, k e0 E = true → runM C n c l st (fun e s => k e (keepSH ls ids s)) = true) : AWp C none c st (fun e s => e = e0 ∧ LessS C s E) := by
  classical
  have h1 := h (fun e s => decide (e = e0 ∧ s = E)) (decide_eq_true ⟨rfl, rfl⟩)
  have := runA_soundP hC (mkA c l) st _ (mkA_okP c l hl) h1
  rw [mkA_code] at this
  refine this.mono fun e s he => ?_
  obtain ⟨h2, h3⟩ := of_decide_eq_true he
  exact ⟨h2, h3 ▸ LessS.keepSH ls ids s⟩
/-- What a known call leaves, out of its body's end. -/
theorem AWp.inp {fn : Func} {rs : List ResultVar} {kk : AV → Mem → Bool} (h : AWp C none c st (fun e s => e = e0 ∧ LessS C s E)) (he : e0 = .ret ∨ e0 = .normal) (hr : fn.results.toList = rs) (hd : E.ds = []) (hk : resKs C E rs (fun vs => kk (tupOf vs) E.m) false = true) :
    AWp C none c st (fun e st' => (e = .ret ∨ e = .normal) ∧ closeK st'.ds st'.m.lp (fun lp => resK C fn st' (fun v => kk v ⟨st'.m.heap, st'.m.nx, lp⟩) false) false = true) :=
  h.post fun e s ⟨h1, h2⟩ => ⟨E, h2, h1 ▸ he, by
    rw [hd]
    show resK C fn E (fun v => kk v E.m) false = true
    unfold resK
    rw [hr]
    exact hk⟩
theorem AWp.loopH (hs : Bas.keepSH ls ids st = S0) (h : AWr C none body S0 K) : AWp C none (.loop body) st K := AWp.less (hs ▸ LessS.keepSH ls ids st) (AWr.loop h)
theorem AWr.last (hC : C.Ok) (h : ∀ k : Ex → St → Bool, run C n none none body S0 (fun e s => k e (Bas.keepSH ls ids s)) false = k x E) (hx : x ≠ .normal) (hK : K x E) : AWr C none body S0 K := by
  refine AWr.step ((awp_run hC h).post fun e s ⟨h1, h2⟩ => ⟨E, h2, ?_⟩)
  subst h1
  cases e with
  | normal => exact absurd rfl hx
  | exit id => exact hK
  | goto l => exact hK
  | ret => exact hK
  | panic v => exact hK
end
end Go.Bas
