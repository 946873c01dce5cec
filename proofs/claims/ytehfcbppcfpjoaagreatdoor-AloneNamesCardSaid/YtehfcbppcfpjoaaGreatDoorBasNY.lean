/- The engine, part Y: a run that comes to 'true' is the model's: the whole; and a function's run. -/
import Derived.Test.YtehfcbppcfpjoaaGreatDoorBasNX
namespace Go.Bas
open Go.RowKit
set_option linter.unusedSimpArgs false
set_option linter.unusedVariables false

section
variable {C : Cfg}

theorem range_sound (hC : C.Ok) {go : RunF Bool} (hA : RunOk C go) {w : World} {B oC oL : Nat → Prop} {ω : Nat → Option Nat} {st : St} {a : Act} {inr ro : Option Nat} {k : Ex → St → Bool} {Q : Exit → Act → World → Prop} (S : Sim C w B oC oL ω st a) (hI : InR ω st.m.nx inr ro) (hQ : Outs C B w oC oL ω st.m.nx k Q)
    {g : Operand} {f : FuncId} {first cap : List AV} {fs cs : Array Value} (hv : a.eval g = .func (.func f) fs cs) (h1 : first.length = fs.size) (h2 : cap.length = cs.size) (h3 : ∀ i (h : i < first.length), Rep w (Or2 B oL) oC ω st.m.nx first[i] (fs.getD i undef)) (h4 : ∀ i (h : i < cap.length), Rep w (Or2 B oL) oC ω st.m.nx cap[i] (cs.getD i undef))
    {params : Array Tmp} {assign body : Code} (hk : loopM inr st params.toList assign body (fun id ds m => callR C go false (.fn f) (first ++ [.yld id] ++ cap) m (fun _ m' => afterK C st k id ds m') (fun v m' => k (.panic v) ⟨st.tmps, ds, m'⟩)) false = true) :
    (Code.rangeFunc g params assign body).wpIn (Fr ro) 0 C.P Q a w := by
  refine wpIn_rangeFunc fun fn _ => ?_
  obtain ⟨l, mark, w1, oL1, ω1, id, ds, m, e1, M1, E1, hid, hω, hm, hk1⟩ := loop_enter S hI hk fn
  have r1 : RepL w1 (Or2 B oL1) oC ω1 m.nx first fs := ⟨h1, fun i hi => (h3 i hi).extR E1⟩
  have r3 : RepL w1 (Or2 B oL1) oC ω1 m.nx cap cs := ⟨h2, fun i hi => (h4 i hi).extR E1⟩
  have r2 : RepL w1 (Or2 B oL1) oC ω1 m.nx [.yld id] #[.func (.yield l) #[] #[]] := ⟨rfl, fun i hi => match i, hi with | 0, _ => .yld _ _ _ hid hω⟩
  have hargs : RepL w1 (Or2 B oL1) oC ω1 m.nx (first ++ [.yld id] ++ cap) (fs ++ #[.func (.yield l) #[] #[]] ++ cs) :=
    RepL.append (RepL.append r1 r2) r3
  obtain ⟨c1, c2⟩ := call_sound hC hA (.fn f) _ m _ _ w1 B oC oL1 ω1 _ hk1 M1 hargs
  have hres : (resolve a.eval (rangeCall g l) 0).run C.P w1 = .ok { target := .fn (.func f) cs, args := fs ++ #[.func (.yield l) #[] #[]] } w1 := by
    simp [resolve, rangeCall, hv, Deferred.ofValue, Sem.run, show ∀ l, a.eval (.const (.func (.yield l) #[] #[])) = .func (.yield l) #[] #[] from fun _ => rfl]
  have hinv : (invoke (.fn (.func f) cs) (fs ++ #[.func (.yield l) #[] #[]])).run C.P w1 = .ok (.enter f (fs ++ #[.func (.yield l) #[] #[]] ++ cs)) w1 := by
    simp only [invoke]
    exact c1
  exact ⟨l, mark, w1, _, w1, f, _, w1, e1, hres, fun _ _ => trivial, hinv, fr_deep ro, (callsIn_fr c2).mono fun e w' he => range_post S hQ E1 hid hω hm he⟩

set_option maxHeartbeats 2000000 in
/-- **A RUN THAT COMES TO 'true' IS THE MODEL's.** -/
theorem run_sound (hC : C.Ok) : ∀ n, RunOk C (run C n) ∧
    (∀ (inr : Option Nat) (body code : Code) (st : St) (k : Ex → St → Bool) (w : World) (B oC oL : Nat → Prop) (ω : Nat → Option Nat) (a : Act) (Q : Exit → Act → World → Prop) (ro : Option Nat),
      run C n inr (some body) code st k false = true → Sim C w B oC oL ω st a → InR ω st.m.nx inr ro → Outs C B w oC oL ω st.m.nx k Q → scopeIn (Fr ro) C.P body Q n code a w) ∧
    (∀ (inr : Option Nat) (body : Code) (st : St) (k : Ex → St → Bool) (w : World) (B oC oL : Nat → Prop) (ω : Nat → Option Nat) (a : Act) (Q : Exit → Act → World → Prop) (ro : Option Nat),
      run C n inr none (.loop body) st k false = true → Sim C w B oC oL ω st a → InR ω st.m.nx inr ro → Outs C B w oC oL ω st.m.nx k Q → Code.roundsIn (Fr ro) 0 C.P body Q n a w)
  | 0 => ⟨fun inr code st k w B oC oL ω a Q ro hk => (by cases hk), fun inr body code st k w B oC oL ω a Q ro hk => (by cases hk), fun inr body st k w B oC oL ω a Q ro hk => (by cases hk)⟩
  | n + 1 => by
    obtain ⟨hA, hS, hL⟩ := run_sound hC n
    have next : ∀ {w w1 : World} {B oC oL oC1 oL1 : Nat → Prop} {ω ω1 : Nat → Option Nat} {nx nx1 : Nat} {k : Ex → St → Bool} {Q : Exit → Act → World → Prop}, Outs C B w oC oL ω nx k Q → ExtR w oC oL ω nx w1 oC1 oL1 ω1 nx1 → Outs C B w1 oC1 oL1 ω1 nx1 k Q := fun hQ E e st' a' w' oC' oL' ω' out S' E' hk ho => hQ e st' a' w' oC' oL' ω' out S' (E.trans E') hk ho
    have loopS : ∀ (inr : Option Nat) (body : Code) (st : St) (k : Ex → St → Bool) (w : World) (B oC oL : Nat → Prop) (ω : Nat → Option Nat) (a : Act) (Q : Exit → Act → World → Prop) (ro : Option Nat),
        run C (n + 1) inr none (.loop body) st k false = true → Sim C w B oC oL ω st a → InR ω st.m.nx inr ro → Outs C B w oC oL ω st.m.nx k Q → Code.roundsIn (Fr ro) 0 C.P body Q (n + 1) a w := fun inr body st k w B oC oL ω a Q ro hk S hI hQ => by
      rw [roundsIn_succ]
      refine hA inr body st _ w B oC oL ω a _ ro hk S hI (fun e st' a' w' oC' oL' ω' out S' E hk' ho => ?_)
      cases e with
      | normal => subst ho; exact hL inr body st' k w' B oC' oL' ω' a' Q ro hk' S' (hI.ext E) (next hQ E)
      | exit id => have h2 := hQ _ st' a' w' oC' oL' ω' out S' E hk' ho; subst ho; exact h2
      | goto l => have h2 := hQ _ st' a' w' oC' oL' ω' out S' E hk' ho; subst ho; exact h2
      | ret => have h2 := hQ _ st' a' w' oC' oL' ω' out S' E hk' ho; subst ho; exact h2
      | panic v => have h2 := hQ _ st' a' w' oC' oL' ω' out S' E hk' ho; obtain ⟨u, rfl, _⟩ := ho; exact h2
    refine ⟨?_, ?_, loopS⟩
    · intro inr code st k w B oC oL ω a Q ro hk S hI hQ
      have hk0 := hk
      rw [run_succ] at hk
      unfold runStep at hk
      cases code <;> simp only at hk <;> try cases hk
      case skip => exact wpIn_skip (hQ .normal st a w oC oL ω _ S ExtR.refl hk rfl)
      case label l => exact wpIn_label (hQ .normal st a w oC oL ω _ S ExtR.refl hk rfl)
      case ret => exact wpIn_ret (hQ .ret st a w oC oL ω _ S ExtR.refl hk rfl)
      case exit id => exact wpIn_exit (hQ (.exit id) st a w oC oL ω _ S ExtR.refl hk rfl)
      case goto l => exact wpIn_goto (hQ (.goto l) st a w oC oL ω _ S ExtR.refl hk rfl)
      case seq x y =>
        refine wpIn_seq (hA inr x st _ w B oC oL ω a _ ro hk S hI (fun e st' a' w' oC' oL' ω' out S' E hk' ho => ?_))
        cases e with
        | normal => subst ho; exact hA inr y st' k w' B oC' oL' ω' a' Q ro hk' S' (hI.ext E) (next hQ E)
        | exit id => have h2 := hQ _ st' a' w' oC' oL' ω' out S' E hk' ho; subst ho; exact h2
        | goto l => have h2 := hQ _ st' a' w' oC' oL' ω' out S' E hk' ho; subst ho; exact h2
        | ret => have h2 := hQ _ st' a' w' oC' oL' ω' out S' E hk' ho; subst ho; exact h2
        | panic v => have h2 := hQ _ st' a' w' oC' oL' ω' out S' E hk' ho; obtain ⟨u, rfl, _⟩ := ho; exact h2
      case cond c x y =>
        split at hk
        · rename_i t ht
          have hev := S.ev c
          rw [ht] at hev
          generalize hv : a.eval c = u at hev
          cases hev
          have hset : ∀ b, b = t → setO st.tmps c (.bool b) = st.tmps := fun b e => by
            subst e
            cases c with
            | tmp d => exact lset_same ht
            | _ => rfl
          rcases of_cond2 hk with ⟨h1, h2⟩ | ⟨h1, h2⟩
          · rw [hset true h1.symm] at h2
            exact wpIn_cond_true (by rw [hv, h1]) (hA inr x st k w B oC oL ω a Q ro h2 S hI hQ)
          · rw [hset false h1.symm] at h2
            exact wpIn_cond_false (by rw [hv, h1]) (hA inr y st k w B oC oL ω a Q ro h2 S hI hQ)
        · cases hk
      case block id body =>
        refine wpIn_block (hA inr body st _ w B oC oL ω a _ ro hk S hI (fun e st' a' w' oC' oL' ω' out S' E hk' ho => ?_))
        cases e with
        | normal => subst ho; exact hQ .normal _ _ _ _ _ _ _ S' E hk' rfl
        | exit id' =>
          subst ho
          simp only [Exit.inBlock]
          rcases of_cond2 hk' with ⟨h1, h2⟩ | ⟨h1, h2⟩
          · rw [if_pos (of_beq h1)]; exact hQ .normal _ _ _ _ _ _ _ S' E h2 rfl
          · rw [if_neg (fun e => by rw [(beq_iff _ _).2 e] at h1; cases h1)]; exact hQ (.exit id') _ _ _ _ _ _ _ S' E h2 rfl
        | goto l => have h2 := hQ _ st' a' w' oC' oL' ω' out S' E hk' ho; subst ho; exact h2
        | ret => have h2 := hQ _ st' a' w' oC' oL' ω' out S' E hk' ho; subst ho; exact h2
        | panic v => have h2 := hQ _ st' a' w' oC' oL' ω' out S' E hk' ho; obtain ⟨u, rfl, _⟩ := ho; exact h2
      case loop body => exact wpIn_loop_rounds (n + 1) (loopS inr body st k w B oC oL ω a Q ro hk0 S hI hQ)
      case scope body => exact wpIn_scopeIn (hS inr body body st k w B oC oL ω a Q ro hk S hI hQ)
      case region id ops draw =>
        cases draw with
        | false =>
          simp only [cond_false] at hk
          refine wpIn_region ?_
          have := ops_sound (ro := ro) (Q := Q) (ops := ops) (call_sound hC hA) (mapOk C) ops.toList 0 rfl st a w oC oL ω hk S (fun st' a' w' oC' oL' ω' S' E hk' => hQ .normal _ _ _ _ _ _ _ S' E hk' rfl)
            (fun v u st' a' w' oC' oL' ω' S' E hk' hr => hQ (.panic v) _ _ _ _ _ _ _ S' E hk' ⟨u, rfl, hr⟩)
          rw [List.range_eq_range']
          simpa using this
        | true =>
          simp only [cond_true] at hk
          rcases of_cond2 hk with ⟨hl, hk⟩ | ⟨_, hk⟩
          · exact draw_last hC hA hl hk S (fun st' a' w' oC' oL' ω' S' E hk' => hQ .normal _ _ _ _ _ _ _ S' E hk' rfl) (fun v u st' a' w' oC' oL' ω' S' E hk' hr => hQ (.panic v) _ _ _ _ _ _ _ S' E hk' ⟨u, rfl, hr⟩)
          exact draw_sound hC hA hk S (fun st' a' w' oC' oL' ω' S' E hk' => hQ .normal _ _ _ _ _ _ _ S' E hk' rfl)
      case rangeFunc g params assign body =>
        split at hk
        · rename_i f first cap hg
          have hev := S.ev g
          rw [hg] at hev
          generalize hv : a.eval g = gv at hev
          cases hev with
          | fn _ _ _ _ fs cs h1 h2 h3 h4 =>
            exact range_sound hC hA S hI hQ hv h1 h2 h3 h4 hk
        · cases hk
    · intro inr body code st k w B oC oL ω a Q ro hk S hI hQ
      rw [run_succ] at hk
      unfold runStep at hk
      simp only at hk
      refine hA inr code st _ w B oC oL ω a _ ro hk S hI (fun e st' a' w' oC' oL' ω' out S' E hk' ho => ?_)
      cases e with
      | normal => have h2 := hQ _ st' a' w' oC' oL' ω' out S' E hk' ho; subst ho; exact h2
      | exit id => have h2 := hQ _ st' a' w' oC' oL' ω' out S' E hk' ho; subst ho; exact h2
      | ret => have h2 := hQ _ st' a' w' oC' oL' ω' out S' E hk' ho; subst ho; exact h2
      | panic v => have h2 := hQ _ st' a' w' oC' oL' ω' out S' E hk' ho; obtain ⟨u, rfl, _⟩ := ho; exact h2
      | goto l =>
        subst ho
        simp only at hk' ⊢
        split at hk'
        · rename_i rest hf
          simp only [hf]
          exact hS inr body rest st' k w' B oC' oL' ω' a' Q ro hk' S' (hI.ext E) (next hQ E)
        · rename_i hf
          simp only [hf]
          exact hQ (.goto l) _ _ _ _ _ _ _ S' E hk' rfl

/-- **What the run of a function comes to, the call comes to.** -/
theorem runF_sound (hC : C.Ok) {n : Nat} {f : FuncId} {args : List AV} {k : AV → Bool} (hk : runF C n f args k false = true) : ACalls C.P C.G f args (fun v => k v = true) := by
  unfold runF at hk
  split at hk
  · rename_i fn hfn
    split at hk
    · rename_i c hb
      exact stand_sound hC (run_sound hC n).1 fn c f args k hfn hb hk
    · cases hk
  · cases hk
end
end Go.Bas
