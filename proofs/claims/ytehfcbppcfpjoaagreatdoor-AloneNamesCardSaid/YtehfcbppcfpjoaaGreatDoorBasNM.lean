/- The engine, part M: pieces of code put together by hand: sequences, blocks, loops with a family of states, loops over functions; and a call out of its body. -/
import Derived.Test.YtehfcbppcfpjoaaGreatDoorBasNL
namespace Go.Bas
open Go.RowKit
set_option linter.unusedSimpArgs false
set_option linter.unusedVariables false

/-- From this abstract state the code comes to an end, and there 'K' holds. -/
def AWp (C : Cfg) (inr : Option Nat) (code : Code) (st : St) (K : Ex → St → Prop) : Prop :=
  ∀ (w : World) (B oC oL : Nat → Prop) (ω : Nat → Option Nat) (a : Act) (Q : Exit → Act → World → Prop) (ro : Option Nat), Sim C w B oC oL ω st a → InR ω st.m.nx inr ro →
    (∀ e st' a' w' oC' oL' ω' out, Sim C w' B oC' oL' ω' st' a' → ExtR w oC oL ω st.m.nx w' oC' oL' ω' st'.m.nx → K e st' → OutIs w' B oC' oL' ω' st'.m.nx e out → Q out a' w') → code.wpIn (Fr ro) 0 C.P Q a w

section
variable {C : Cfg} {K K' : Ex → St → Prop} {st : St} {inr : Option Nat}

theorem AWp.mono {code : Code} (hk : ∀ e s, K e s → K' e s) (h : AWp C inr code st K) : AWp C inr code st K' := fun w B oC oL ω a Q ro S hI hQ =>
  h w B oC oL ω a Q ro S hI (fun e st' a' w' oC' oL' ω' out S' E k ho => hQ e st' a' w' oC' oL' ω' out S' E (hk e st' k) ho)

/-- A piece that the run goes through. -/
theorem AWp.run (hC : C.Ok) {n : Nat} {code : Code} (h : ∀ k : Ex → St → Bool, (∀ e s, K e s → k e s = true) → Bas.run C n inr none code st k false = true) : AWp C inr code st K := fun w B oC oL ω a Q ro S hI hQ => by
  classical
  exact (run_sound hC n).1 inr code st _ w B oC oL ω a Q ro (h (fun e s => decide (K e s)) (fun e s hk => decide_eq_true hk)) S hI (fun e st' a' w' oC' oL' ω' out S' E hk ho => hQ e st' a' w' oC' oL' ω' out S' E (of_decide_eq_true hk) ho)

theorem AWp.seq {x y : Code} (h : AWp C inr x st (fun e s => match e with | .normal => AWp C inr y s K | e => K e s)) : AWp C inr (.seq x y) st K := fun w B oC oL ω a Q ro S hI hQ => by
  refine wpIn_seq (h w B oC oL ω a _ ro S hI (fun e st' a' w' oC' oL' ω' out S' E hk ho => ?_))
  cases e with
  | normal => subst ho; exact hk w' B oC' oL' ω' a' Q ro S' (hI.ext E) (fun e2 st2 a2 w2 oC2 oL2 ω2 out2 S2 E2 hk2 ho2 => hQ e2 st2 a2 w2 oC2 oL2 ω2 out2 S2 (E.trans E2) hk2 ho2)
  | exit id => have h2 := hQ _ st' a' w' oC' oL' ω' out S' E hk ho; subst ho; exact h2
  | goto l => have h2 := hQ _ st' a' w' oC' oL' ω' out S' E hk ho; subst ho; exact h2
  | ret => have h2 := hQ _ st' a' w' oC' oL' ω' out S' E hk ho; subst ho; exact h2
  | panic v => have h2 := hQ _ st' a' w' oC' oL' ω' out S' E hk ho; obtain ⟨u, rfl, _⟩ := ho; exact h2

theorem AWp.block {id : Nat} {body : Code} (h : AWp C inr body st (fun e s => match e with | .exit id' => (id' = id → K .normal s) ∧ (id' ≠ id → K (.exit id') s) | e => K e s)) : AWp C inr (.block id body) st K := fun w B oC oL ω a Q ro S hI hQ => by
  refine wpIn_block (h w B oC oL ω a _ ro S hI (fun e st' a' w' oC' oL' ω' out S' E hk ho => ?_))
  cases e with
  | normal => exact hQ .normal _ _ _ _ _ _ out S' E hk ho |> fun h2 => by subst ho; exact h2
  | exit id' =>
    subst ho
    simp only [Exit.inBlock]
    by_cases h : id' = id
    · rw [if_pos h]; exact hQ .normal _ _ _ _ _ _ _ S' E (hk.1 h) rfl
    · rw [if_neg h]; exact hQ (.exit id') _ _ _ _ _ _ _ S' E (hk.2 h) rfl
  | goto l => have h2 := hQ _ st' a' w' oC' oL' ω' out S' E hk ho; subst ho; exact h2
  | ret => have h2 := hQ _ st' a' w' oC' oL' ω' out S' E hk ho; subst ho; exact h2
  | panic v => have h2 := hQ _ st' a' w' oC' oL' ω' out S' E hk ho; obtain ⟨u, rfl, _⟩ := ho; exact h2

theorem AWp.cond {c : Operand} {x y : Code} {t : Bool} (hc : evO C st.tmps c = .bool t) (hx : t = true → AWp C inr x st K) (hy : t = false → AWp C inr y st K) : AWp C inr (.cond c x y) st K := fun w B oC oL ω a Q ro S hI hQ => by
  have hev := S.ev c
  rw [hc] at hev
  generalize hv : a.eval c = u at hev
  cases hev
  cases t with
  | true => exact wpIn_cond_true hv (hx rfl w B oC oL ω a Q ro S hI hQ)
  | false => exact wpIn_cond_false hv (hy rfl w B oC oL ω a Q ro S hI hQ)

/-- A loop, by a family of states and a measure. -/
theorem AWp.loop {ι : Type} {body : Code} (I : ι → St) (μ : ι → Nat) (h : ∀ i, AWp C inr body (I i) (fun e s => match e with | .normal => ∃ j, s = I j ∧ μ j < μ i | e => K e s)) (i : ι) : AWp C inr (.loop body) (I i) K := fun w B oC oL ω a Q ro S hI hQ => by
  have key : ∀ (m : Nat) (i : ι) (a : Act) (w : World) (oC oL : Nat → Prop) (ω : Nat → Option Nat), μ i < m → Sim C w B oC oL ω (I i) a → InR ω (I i).m.nx inr ro →
      (∀ e st' a' w' oC' oL' ω' out, Sim C w' B oC' oL' ω' st' a' → ExtR w oC oL ω (I i).m.nx w' oC' oL' ω' st'.m.nx → K e st' → OutIs w' B oC' oL' ω' st'.m.nx e out → Q out a' w') → Code.roundsIn (Fr ro) 0 C.P body Q m a w := by
    intro m
    induction m with
    | zero => intro i a w oC oL ω h; exact absurd h (Nat.not_lt_zero _)
    | succ m ih =>
      intro i a w oC oL ω hm S hI hQ
      rw [roundsIn_succ]
      refine h i w B oC oL ω a _ ro S hI (fun e st' a' w' oC' oL' ω' out S' E hk ho => ?_)
      cases e with
      | normal =>
        obtain ⟨j, rfl, hj⟩ := hk
        subst ho
        exact ih j a' w' oC' oL' ω' (by omega) S' (hI.ext E) (fun e2 st2 a2 w2 oC2 oL2 ω2 out2 S2 E2 hk2 ho2 => hQ e2 st2 a2 w2 oC2 oL2 ω2 out2 S2 (E.trans E2) hk2 ho2)
      | exit id => have h2 := hQ _ st' a' w' oC' oL' ω' out S' E hk ho; subst ho; exact h2
      | goto l => have h2 := hQ _ st' a' w' oC' oL' ω' out S' E hk ho; subst ho; exact h2
      | ret => have h2 := hQ _ st' a' w' oC' oL' ω' out S' E hk ho; subst ho; exact h2
      | panic v => have h2 := hQ _ st' a' w' oC' oL' ω' out S' E hk ho; obtain ⟨u, rfl, _⟩ := ho; exact h2
  exact wpIn_loop_rounds (μ i + 1) (key (μ i + 1) i a w oC oL ω (Nat.lt_succ_self _) S hI hQ)

open Classical in
/-- What is proved of pieces, as a way of going on. -/
noncomputable def goA (C : Cfg) : RunF Bool := fun inr sc code st k _ => match sc with
  | none => decide (AWp C inr code st (fun e s => k e s = true))
  | some _ => false
open Classical in
theorem goA_ok : RunOk C (goA C) := fun inr code st k w B oC oL ω a Q ro hk S hI hQ =>
  (show AWp C inr code st (fun e s => k e s = true) from of_decide_eq_true hk) w B oC oL ω a Q ro S hI hQ
open Classical in
theorem goA_true {code : Code} {k : Ex → St → Bool} {z : Bool} (h : AWp C inr code st (fun e s => k e s = true)) : goA C inr none code st k z = true := decide_eq_true h

/-- A loop over a function: its iterator's call, with the round's way back. -/
theorem AWp.range (hC : C.Ok) {g : Operand} {f : FuncId} {first cap : List AV} {params : Array Tmp} {assign body : Code} {k : Ex → St → Bool} (hg : evO C st.tmps g = .fn (.func f) first cap)
    (h : loopM inr st params.toList assign body (fun id ds m => callR C (goA C) false (.fn f) (first ++ [.yld id] ++ cap) m (fun _ m' => afterK C st k id ds m') (fun v m' => k (.panic v) ⟨st.tmps, ds, m'⟩)) false = true) (hk : ∀ e s, k e s = true → K e s) :
    AWp C inr (.rangeFunc g params assign body) st K := fun w B oC oL ω a Q ro S hI hQ => by
  have hev := S.ev g
  rw [hg] at hev
  generalize hv : a.eval g = gv at hev
  cases hev with
  | fn _ _ _ _ fs cs h1 h2 h3 h4 =>
    exact range_sound hC goA_ok S hI (fun e st' a' w' oC' oL' ω' out S' E hk' ho => hQ e st' a' w' oC' oL' ω' out S' E (hk e st' hk') ho) hv h1 h2 h3 h4 h

/-- The code of a function. -/
def fcode (P : Program) (f : FuncId) : Code := ((P.funcs[f]?).bind (·.body)).getD .skip
/-- A part of a piece of code. -/
def sel : List Bool → Code → Code
  | [], c => c
  | b :: r, c => match c with
    | .seq x y => sel r (cond b y x)
    | .cond _ x y => sel r (cond b y x)
    | .block _ x => sel r x
    | .loop x => sel r x
    | .scope x => sel r x
    | .rangeFunc _ _ _ x => sel r x
    | c => c
/-- The state that a function's body begins in. -/
def st0 (P : Program) (f : FuncId) (args : List AV) : St := ⟨padL args (((P.funcs[f]?).map (·.ntmps)).getD 0), [], ⟨[], 0, []⟩⟩
/-- What a function's results are, its own blocks given up. -/
noncomputable def resF {Ω : Type} (C : Cfg) (f : FuncId) (st : St) (k : AV → Ω) (z : Ω) : Ω :=
  match C.P.funcs[f]? with
  | some fn => closeK st.ds st.m.lp (fun _ => resK C fn st (fun v => freezeK st.m.heap 6 v k z) z) z
  | none => z

theorem resF_nat {Ω Ω' : Type} (φ : Ω → Ω') (C : Cfg) (f : FuncId) (st : St) (k : AV → Ω) (z : Ω) : φ (resF C f st k z) = resF C f st (fun v => φ (k v)) (φ z) := by
  unfold resF
  split
  · rw [closeK_nat φ]
    congr 1
    funext _
    rw [resK_nat φ]
    congr 1
    funext v
    exact freezeK_nat φ _ _ _ _ _
  · rfl
/-- A call, out of what its body comes to. -/
theorem acalls_of_awp (hC : C.Ok) {f : FuncId} {args : List AV} {R : AV → Prop} (hf : ((C.P.funcs[f]?).bind (·.body)).isSome = true)
    (h : AWp C none (fcode C.P f) (st0 C.P f args) (fun e s => (e = .ret ∨ e = .normal) ∧ ∃ v, R v ∧ resF C f s some none = some v)) : ACalls C.P C.G f args R := by
  classical
  obtain ⟨fn, hfn⟩ : ∃ fn, C.P.funcs[f]? = some fn := by
    cases hq : C.P.funcs[f]? with
    | none => rw [hq] at hf; cases hf
    | some fn => exact ⟨fn, rfl⟩
  obtain ⟨c, hb⟩ : ∃ c, fn.body = some c := by
    rw [hfn] at hf
    exact Option.isSome_iff_exists.1 hf
  have ec : fcode C.P f = c := by simp [fcode, hfn, hb]
  rw [ec] at h
  simp only [st0, hfn, Option.map_some, Option.getD_some] at h
  refine ACalls.mono (fun v hv => of_decide_eq_true hv) (stand_sound hC goA_ok fn c f args (fun v => decide (R v)) hfn hb (goA_true (h.mono fun e s ⟨he, v, hR, hk⟩ => ?_)))
  have hn := resF_nat (fun o : Option AV => match o with | some a => decide (R a) | none => false) C f s some none
  rw [hk] at hn
  simp only [resF, hfn] at hn
  have hk2 : closeK s.ds s.m.lp (fun _ => resK C fn s (fun v => freezeK s.m.heap 6 v (fun v => decide (R v)) false) false) false = true := by
    rw [← hn]
    exact decide_eq_true hR
  rcases he with rfl | rfl
  · exact hk2
  · exact hk2
end
end Go.Bas
