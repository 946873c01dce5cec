/- The engine, part Ma: a function's code with known loops: pieces at a function's own level, what is known of a state's dead temporaries let go, and a run that goes over loops by what they are known to do. -/
import Derived.Test.YtehfcbppcfpjoaaGreatDoorBasNM
namespace Go.Bas
open Go.RowKit
set_option linter.unusedSimpArgs false
set_option linter.unusedVariables false

/-- From this abstract state the code comes to an end, and there 'K' holds: at a function's own level. -/
def AWq (C : Cfg) (code : Code) (st : St) (K : Ex → St → Prop) : Prop :=
  ∀ (w : World) (B oC oL : Nat → Prop) (ω : Nat → Option Nat) (a : Act) (Q : Exit → Act → World → Prop), Sim C w B oC oL ω st a →
    (∀ e st' a' w' oC' oL' ω' out, Sim C w' B oC' oL' ω' st' a' → ExtR w oC oL (fun _ => none) 0 w' oC' oL' ω' st'.m.nx → K e st' → OutIs w' B oC' oL' ω' st'.m.nx e out → Q out a' w') → code.wpIn (Fr none) 0 C.P Q a w

theorem ExtR.low {w w' : World} {oC oL oC' oL' : Nat → Prop} {ω ω' : Nat → Option Nat} {nx nx' : Nat} (E : ExtR w oC oL ω nx w' oC' oL' ω' nx') : ExtR w oC oL (fun _ => none) 0 w' oC' oL' ω' nx' :=
  ⟨E.os, E.tape, E.output, E.size, E.old, E.owns, Nat.zero_le _, fun _ h => absurd h (Nat.not_lt_zero _), E.row⟩
theorem ExtR.then {w w1 w2 : World} {oC oL oC1 oL1 oC2 oL2 : Nat → Prop} {ω1 ω2 : Nat → Option Nat} {nx1 nx2 : Nat} (E : ExtR w oC oL (fun _ => none) 0 w1 oC1 oL1 ω1 nx1) (E2 : ExtR w1 oC1 oL1 (fun _ => none) 0 w2 oC2 oL2 ω2 nx2) : ExtR w oC oL (fun _ => none) 0 w2 oC2 oL2 ω2 nx2 :=
  have E' : ExtR w oC oL (fun _ => none) 0 w1 oC1 oL1 (fun _ => none) 0 := ⟨E.os, E.tape, E.output, E.size, E.old, E.owns, Nat.le_refl _, fun _ h => absurd h (Nat.not_lt_zero _), E.row⟩
  E'.trans E2

section
variable {C : Cfg} {K K' : Ex → St → Prop} {st : St}

theorem AWp.q {code : Code} (h : AWp C none code st K) : AWq C code st K := fun w B oC oL ω a Q S hQ =>
  h w B oC oL ω a Q none S trivial (fun e st' a' w' oC' oL' ω' out S' E hk ho => hQ e st' a' w' oC' oL' ω' out S' E.low hk ho)
theorem AWq.mono {code : Code} (hk : ∀ e s, K e s → K' e s) (h : AWq C code st K) : AWq C code st K' := fun w B oC oL ω a Q S hQ =>
  h w B oC oL ω a Q S (fun e st' a' w' oC' oL' ω' out S' E k ho => hQ e st' a' w' oC' oL' ω' out S' E (hk e st' k) ho)
theorem AWq.run (hC : C.Ok) {n : Nat} {code : Code} (h : ∀ k : Ex → St → Bool, (∀ e s, K e s → k e s = true) → Bas.run C n none none code st k false = true) : AWq C code st K := (AWp.run hC h).q

theorem AWq.seq {x y : Code} (h : AWq C x st (fun e s => match e with | .normal => AWq C y s K | e => K e s)) : AWq C (.seq x y) st K := fun w B oC oL ω a Q S hQ => by
  refine wpIn_seq (h w B oC oL ω a _ S (fun e st' a' w' oC' oL' ω' out S' E hk ho => ?_))
  cases e with
  | normal => subst ho; exact hk w' B oC' oL' ω' a' Q S' (fun e2 st2 a2 w2 oC2 oL2 ω2 out2 S2 E2 hk2 ho2 => hQ e2 st2 a2 w2 oC2 oL2 ω2 out2 S2 (E.then E2) hk2 ho2)
  | exit id => have h2 := hQ _ st' a' w' oC' oL' ω' out S' E hk ho; subst ho; exact h2
  | goto l => have h2 := hQ _ st' a' w' oC' oL' ω' out S' E hk ho; subst ho; exact h2
  | ret => have h2 := hQ _ st' a' w' oC' oL' ω' out S' E hk ho; subst ho; exact h2
  | panic v => have h2 := hQ _ st' a' w' oC' oL' ω' out S' E hk ho; obtain ⟨u, rfl, _⟩ := ho; exact h2

theorem AWq.block {id : Nat} {body : Code} (h : AWq C body st (fun e s => match e with | .exit id' => (id' = id → K .normal s) ∧ (id' ≠ id → K (.exit id') s) | e => K e s)) : AWq C (.block id body) st K := fun w B oC oL ω a Q S hQ => by
  refine wpIn_block (h w B oC oL ω a _ S (fun e st' a' w' oC' oL' ω' out S' E hk ho => ?_))
  cases e with
  | normal => exact hQ .normal _ _ _ _ _ _ out S' E hk ho |> fun h2 => by subst ho; exact h2
  | exit id' =>
    subst ho
    simp only [Exit.inBlock]
    by_cases h : id' = id
    · rw [if_pos h]; exact hQ .normal _ _ _ _ _ _ _ S' E (hk.1 h) rfl
    · rw [if_neg h]; exact hQ (.exit id') _ _ _ _ _ _ _ S' E (hk.2 h) rfl
  | goto l => have h2 := hQ _ st' a' w' oC' oL' ω' out S' E hk ho; subst ho; exact h2
  | ret => have h2 := hQ _ st' a' w' oC' oL' ω' out S' E hk ho; subst ho; exact h2
  | panic v => have h2 := hQ _ st' a' w' oC' oL' ω' out S' E hk ho; obtain ⟨u, rfl, _⟩ := ho; exact h2

theorem AWq.cond {c : Operand} {x y : Code} {t : Bool} (hc : evO C st.tmps c = .bool t) (hx : t = true → AWq C x st K) (hy : t = false → AWq C y st K) : AWq C (.cond c x y) st K := fun w B oC oL ω a Q S hQ => by
  have hev := S.ev c
  rw [hc] at hev
  generalize hv : a.eval c = u at hev
  cases hev
  cases t with
  | true => exact wpIn_cond_true hv (hx rfl w B oC oL ω a Q S hQ)
  | false => exact wpIn_cond_false hv (hy rfl w B oC oL ω a Q S hQ)

/-- Whatever is as the one state says is as the other says. -/
def Less (C : Cfg) (st st' : St) : Prop := ∀ (w : World) (B oC oL : Nat → Prop) (ω : Nat → Option Nat) (a : Act), Sim C w B oC oL ω st a → ∃ ω', Sim C w B oC oL ω' st' a
theorem Less.refl (st : St) : Less C st st := fun w B oC oL ω a S => ⟨ω, S⟩
theorem Less.of_eq {st st' : St} (h : st = st') : Less C st st' := h ▸ Less.refl st
theorem Less.trans {st st1 st2 : St} (h : Less C st st1) (h' : Less C st1 st2) : Less C st st2 := fun w B oC oL ω a S =>
  let ⟨ω1, S1⟩ := h w B oC oL ω a S
  h' w B oC oL ω1 a S1
theorem AWq.less {code : Code} {st' : St} (h : Less C st st') (hw : AWq C code st' K) : AWq C code st K := fun w B oC oL ω a Q S hQ => by
  obtain ⟨ω', S'⟩ := h w B oC oL ω a S
  exact hw w B oC oL ω' a Q S' hQ

/-- The same, nothing renamed. -/
def LessS (C : Cfg) (st st' : St) : Prop := st'.m.nx = st.m.nx ∧ ∀ (w : World) (B oC oL : Nat → Prop) (ω : Nat → Option Nat) (a : Act), Sim C w B oC oL ω st a → Sim C w B oC oL ω st' a
theorem LessS.less {st st' : St} (h : LessS C st st') : Less C st st' := fun w B oC oL ω a S => ⟨ω, h.2 w B oC oL ω a S⟩
theorem LessS.refl (st : St) : LessS C st st := ⟨rfl, fun w B oC oL ω a S => S⟩
theorem AWp.less {inr : Option Nat} {code : Code} {st' : St} (h : LessS C st st') (hw : AWp C inr code st' K) : AWp C inr code st K := fun w B oC oL ω a Q ro S hI hQ =>
  hw w B oC oL ω a Q ro (h.2 w B oC oL ω a S) (h.1 ▸ hI) (fun e st2 a2 w2 oC2 oL2 ω2 out2 S2 E hk ho => hQ e st2 a2 w2 oC2 oL2 ω2 out2 S2 (h.1 ▸ E) hk ho)
theorem AWp.post {inr : Option Nat} {code : Code} (h : AWp C inr code st K) (hk : ∀ e s, K e s → ∃ s', LessS C s s' ∧ K' e s') : AWp C inr code st K' := fun w B oC oL ω a Q ro S hI hQ =>
  h w B oC oL ω a Q ro S hI (fun e st' a' w' oC' oL' ω' out S' E hK ho => by
    obtain ⟨s2, hl, hk'⟩ := hk e st' hK
    refine hQ e s2 a' w' oC' oL' ω' out (hl.2 _ _ _ _ _ _ S') (hl.1 ▸ E) hk' ?_
    cases e with
    | panic v => obtain ⟨u, h1, h2⟩ := ho; exact ⟨u, h1, hl.1 ▸ h2⟩
    | _ => exact ho)
/-- A loop, by a family of states and a measure. -/
theorem AWp.loopL {ι : Type} {inr : Option Nat} {body : Code} (I : ι → St) (μ : ι → Nat) (h : ∀ i, AWp C inr body (I i) (fun e s => match e with | .normal => ∃ j, μ j < μ i ∧ LessS C s (I j) | e => ∃ s', LessS C s s' ∧ K e s')) (i : ι) : AWp C inr (.loop body) (I i) K := fun w B oC oL ω a Q ro S hI hQ => by
  have key : ∀ (m : Nat) (i : ι) (a : Act) (w : World) (oC oL : Nat → Prop) (ω : Nat → Option Nat), μ i < m → Sim C w B oC oL ω (I i) a → InR ω (I i).m.nx inr ro →
      (∀ e st' a' w' oC' oL' ω' out, Sim C w' B oC' oL' ω' st' a' → ExtR w oC oL ω (I i).m.nx w' oC' oL' ω' st'.m.nx → K e st' → OutIs w' B oC' oL' ω' st'.m.nx e out → Q out a' w') → Code.roundsIn (Fr ro) 0 C.P body Q m a w := by
    intro m
    induction m with
    | zero => intro i a w oC oL ω h; exact absurd h (Nat.not_lt_zero _)
    | succ m ih =>
      intro i a w oC oL ω hm S hI hQ
      rw [roundsIn_succ]
      refine h i w B oC oL ω a _ ro S hI (fun e st' a' w' oC' oL' ω' out S' E hk ho => ?_)
      cases e with
      | normal =>
        obtain ⟨j, hj, hl⟩ := hk
        have S2 := hl.2 w' B oC' oL' ω' a' S'
        have E1 : ExtR w oC oL ω (I i).m.nx w' oC' oL' ω' (I j).m.nx := hl.1 ▸ E
        subst ho
        exact ih j a' w' oC' oL' ω' (by omega) S2 (hI.ext E1) (fun e2 st2 a2 w2 oC2 oL2 ω2 out2 S2 E2 hk2 ho2 => hQ e2 st2 a2 w2 oC2 oL2 ω2 out2 S2 (E1.trans E2) hk2 ho2)
      | exit id => obtain ⟨s2, hl, hk⟩ := hk; have h2 := hQ _ s2 a' w' oC' oL' ω' out (hl.2 _ _ _ _ _ _ S') (hl.1 ▸ E) hk ho; subst ho; exact h2
      | goto l => obtain ⟨s2, hl, hk⟩ := hk; have h2 := hQ _ s2 a' w' oC' oL' ω' out (hl.2 _ _ _ _ _ _ S') (hl.1 ▸ E) hk ho; subst ho; exact h2
      | ret => obtain ⟨s2, hl, hk⟩ := hk; have h2 := hQ _ s2 a' w' oC' oL' ω' out (hl.2 _ _ _ _ _ _ S') (hl.1 ▸ E) hk ho; subst ho; exact h2
      | panic v => obtain ⟨s2, hl, hk⟩ := hk; have h2 := hQ _ s2 a' w' oC' oL' ω' out (hl.2 _ _ _ _ _ _ S') (hl.1 ▸ E) hk (by obtain ⟨u, h1, h2⟩ := ho; exact ⟨u, h1, hl.1 ▸ h2⟩); obtain ⟨u, rfl, _⟩ := ho; exact h2
  exact wpIn_loop_rounds (μ i + 1) (key (μ i + 1) i a w oC oL ω (Nat.lt_succ_self _) S hI hQ)

/-- Temporaries let go. -/
def wk : List Bool → List AV → List AV
  | true :: m, a :: r => a :: wk m r
  | false :: m, _ :: r => .any :: wk m r
  | [], r => r
  | _ :: _, [] => []
theorem wk_length : ∀ (m : List Bool) (l : List AV), (wk m l).length = l.length
  | [], l => by cases l <;> rfl
  | true :: m, [] => rfl
  | false :: m, [] => rfl
  | true :: m, a :: r => by simp [wk, wk_length m r]
  | false :: m, a :: r => by simp [wk, wk_length m r]
theorem wk_get : ∀ (m : List Bool) (l : List AV) (i : Nat) (h : i < (wk m l).length) (h' : i < l.length), (wk m l)[i] = .any ∨ (wk m l)[i] = l[i]
  | [], l, i, h, h' => by cases l <;> exact .inr rfl
  | true :: m, a :: r, 0, h, h' => .inr rfl
  | false :: m, a :: r, 0, h, h' => .inl rfl
  | true :: m, a :: r, i + 1, h, h' => wk_get m r i (by simpa [wk] using h) (by simpa using h')
  | false :: m, a :: r, i + 1, h, h' => wk_get m r i (by simpa [wk] using h) (by simpa using h')
  | true :: m, [], i, h, h' => absurd h' (Nat.not_lt_zero _)
  | false :: m, [], i, h, h' => absurd h' (Nat.not_lt_zero _)
theorem RepL.wk {w : World} {B own : Nat → Prop} {ω : Nat → Option Nat} {nx : Nat} {cs : List AV} {us : Array Value} (h : RepL w B own ω nx cs us) (m : List Bool) : RepL w B own ω nx (Bas.wk m cs) us :=
  ⟨(wk_length m cs).trans h.1, fun i hi => by
    have hi' : i < cs.length := by rwa [wk_length] at hi
    rcases wk_get m cs i hi hi' with e | e
    · rw [e]; exact .any _ _
    · rw [e]; exact h.2 i hi'⟩
theorem Less.wk (m : List Bool) (st : St) : Less C st ⟨Bas.wk m st.tmps, st.ds, st.m⟩ := fun w B oC oL ω a S => ⟨ω, S.tm.wk m, S.dn, S.ms⟩
theorem Less.wk' {st st' : St} (m : List Bool) (h : st' = ⟨Bas.wk m st.tmps, st.ds, st.m⟩) : Less C st st' := h ▸ Less.wk m st

/-- A loop, by a family of states and a measure. -/
theorem AWq.loop {ι : Type} {body : Code} (I : ι → St) (μ : ι → Nat) (h : ∀ i, AWq C body (I i) (fun e s => match e with | .normal => ∃ j, μ j < μ i ∧ Less C s (I j) | e => ∃ s', LessS C s s' ∧ K e s')) (i : ι) : AWq C (.loop body) (I i) K := fun w B oC oL ω a Q S hQ => by
  have key : ∀ (m : Nat) (i : ι) (a : Act) (w : World) (oC oL : Nat → Prop) (ω : Nat → Option Nat), μ i < m → Sim C w B oC oL ω (I i) a →
      (∀ e st' a' w' oC' oL' ω' out, Sim C w' B oC' oL' ω' st' a' → ExtR w oC oL (fun _ => none) 0 w' oC' oL' ω' st'.m.nx → K e st' → OutIs w' B oC' oL' ω' st'.m.nx e out → Q out a' w') → Code.roundsIn (Fr none) 0 C.P body Q m a w := by
    intro m
    induction m with
    | zero => intro i a w oC oL ω h; exact absurd h (Nat.not_lt_zero _)
    | succ m ih =>
      intro i a w oC oL ω hm S hQ
      rw [roundsIn_succ]
      refine h i w B oC oL ω a _ S (fun e st' a' w' oC' oL' ω' out S' E hk ho => ?_)
      cases e with
      | normal =>
        obtain ⟨j, hj, hl⟩ := hk
        obtain ⟨ω2, S2⟩ := hl w' B oC' oL' ω' a' S'
        subst ho
        exact ih j a' w' oC' oL' ω2 (by omega) S2 (fun e2 st2 a2 w2 oC2 oL2 ω2 out2 S2 E2 hk2 ho2 => hQ e2 st2 a2 w2 oC2 oL2 ω2 out2 S2 (E.then E2) hk2 ho2)
      | exit id => obtain ⟨s2, hl, hk⟩ := hk; have h2 := hQ _ s2 a' w' oC' oL' ω' out (hl.2 _ _ _ _ _ _ S') (hl.1 ▸ E) hk ho; subst ho; exact h2
      | goto l => obtain ⟨s2, hl, hk⟩ := hk; have h2 := hQ _ s2 a' w' oC' oL' ω' out (hl.2 _ _ _ _ _ _ S') (hl.1 ▸ E) hk ho; subst ho; exact h2
      | ret => obtain ⟨s2, hl, hk⟩ := hk; have h2 := hQ _ s2 a' w' oC' oL' ω' out (hl.2 _ _ _ _ _ _ S') (hl.1 ▸ E) hk ho; subst ho; exact h2
      | panic v => obtain ⟨s2, hl, hk⟩ := hk; have h2 := hQ _ s2 a' w' oC' oL' ω' out (hl.2 _ _ _ _ _ _ S') (hl.1 ▸ E) hk (by obtain ⟨u, h1, h2⟩ := ho; exact ⟨u, h1, hl.1 ▸ h2⟩); obtain ⟨u, rfl, _⟩ := ho; exact h2
  exact wpIn_loop_rounds (μ i + 1) (key (μ i + 1) i a w oC oL ω (Nat.lt_succ_self _) S hQ)

/-- A call, out of what its body comes to. -/
theorem acalls_of_awq {f : FuncId} {args : List AV} {k : AV → Bool} (hf : ((C.P.funcs[f]?).bind (·.body)).isSome = true)
    (h : AWq C (fcode C.P f) (st0 C.P f args) (fun e s => (e = .ret ∨ e = .normal) ∧ resF C f s k false = true)) : ACalls C.P C.G f args (fun v => k v = true) := by
  obtain ⟨fn, hfn⟩ : ∃ fn, C.P.funcs[f]? = some fn := by
    cases hq : C.P.funcs[f]? with
    | none => rw [hq] at hf; cases hf
    | some fn => exact ⟨fn, rfl⟩
  obtain ⟨c, hb⟩ : ∃ c, fn.body = some c := by
    rw [hfn] at hf
    exact Option.isSome_iff_exists.1 hf
  have ec : fcode C.P f = c := by simp [fcode, hfn, hb]
  rw [ec] at h
  simp only [st0, hfn, Option.map_some, Option.getD_some, resF] at h
  intro w us bad hg gb bl hr
  refine (callsIn_calls (ro := none) (n := 0)).1 (callsIn_of_wp_marks hfn hb trivial ?_ rfl)
  have H0 : Hp w (Or2 bad (fun _ => False)) (fun _ => False) (fun _ => none) 0 [] := ⟨fun id hb h => (by cases h), fun i j b h => (by cases h), fun b (h : False) => h.elim⟩
  have M0 : MemSim C w bad (fun _ => False) (fun _ => False) (fun _ => none) ⟨[], 0, []⟩ := ⟨H0, ⟨fun id e h => (by cases h), fun i j l h => (by cases h), fun l (h : False) => h.elim⟩, hg, fun g cells h => ⟨fun h => h, fun h => h, gb g cells h⟩, bl⟩
  have hl : RepL w (Or2 bad (fun _ => False)) (fun _ => False) (fun _ => none) 0 (padL args fn.ntmps) (us ++ Array.replicate (fn.ntmps - us.size) undef) :=
    (pad_rep hr fn.ntmps).other fun b h1 h2 => ⟨h1, fun h => h.elim h2 (fun h => h)⟩
  refine h w bad (fun _ => False) (fun _ => False) (fun _ => none) _ _ ⟨hl, trivial, M0⟩ (fun e st' a' w' oC' oL' ω' out S' E hk' ho => ?_)
  obtain ⟨he, hk'⟩ := hk'
  have fin : closeK st'.ds st'.m.lp (fun _ => resK C fn st' (fun v => freezeK st'.m.heap 6 v k false) false) false = true → LeavesInM (Fr none) 0 C.P fn a'.tmps (fun e w' => ∃ v u, e = .returned u ∧ k v = true ∧ Still w w' ∧ Rep w' bad (fun _ => False) (fun _ => none) 0 v u) a'.defers .returning w' := fun hk' => by
    refine leave_ret (k := fun v _ => freezeK st'.m.heap 6 v k false) S' hk' (fun v u lp' w2 h1 M E2 hr2 => ?_)
    have hE := E.then E2.low
    have hown : ∀ b, oC' b → ¬ Or2 bad oL' b := fun b ho hbad => by
      rcases hbad with hbad | hbad
      · rcases hE.owns b (.inl ho) with h | h
        · exact h.elim (fun h => h) (fun h => h)
        · have := bl b hbad; omega
      · exact (M.lp.dis b hbad).2 ho
    obtain ⟨v', h3, h4⟩ := freezeK_sound M.hp hown 6 v k h1
    refine ⟨v', u, rfl, h3, ⟨hE.os, hE.tape, hE.output, hE.size, fun b hb _ => hE.old b hb (fun h => h.elim (fun h => h) (fun h => h)), fun _ h => .inl h, Nat.le_refl _, fun _ _ => rfl, hE.row⟩, ?_⟩
    exact (h4 u hr2).other fun b _ h2 => ⟨fun h => h, fun h => h2 (.inl h)⟩
  rcases he with rfl | rfl
  · subst ho; exact fin hk'
  · subst ho; exact fin hk'

/-! ### A run that goes over loops by what they are known to do -/
/-- Code with its loops marked. -/
inductive AC where
  | leaf (c : Code)
  | seq (a b : AC)
  | cond (o : Operand) (a b : AC)
  | block (id : Nat) (a : AC)
  | known (c : Code) (F : St → (Ex → St → Bool) → Bool)
def AC.code : AC → Code
  | .leaf c => c
  | .seq a b => .seq a.code b.code
  | .cond o a b => .cond o a.code b.code
  | .block id a => .block id a.code
  | .known c _ => c
def AC.Ok (C : Cfg) : AC → Prop
  | .leaf _ => True
  | .seq a b => a.Ok C ∧ b.Ok C
  | .cond _ a b => a.Ok C ∧ b.Ok C
  | .block _ a => a.Ok C
  | .known c F => ∀ st k, F st k = true → AWq C c st (fun e s => k e s = true)
noncomputable def runA (C : Cfg) (n : Nat) : AC → St → (Ex → St → Bool) → Bool
  | .leaf c, st, k => run C n none none c st k false
  | .seq a b, st, k => runA C n a st (fun e s => match e with
    | .normal => runA C n b s k
    | e => k e s)
  | .cond o a b, st, k => match evO C st.tmps o with
    | .bool t => cond t (runA C n a ⟨setO st.tmps o (.bool true), st.ds, st.m⟩ k) (runA C n b ⟨setO st.tmps o (.bool false), st.ds, st.m⟩ k)
    | _ => false
  | .block id a, st, k => runA C n a st (fun e s => match e with
    | .exit id' => cond (Nat.beq id' id) (k .normal s) (k (.exit id') s)
    | e => k e s)
  | .known _ F, st, k => F st k
theorem runA_sound (hC : C.Ok) {n : Nat} : ∀ (ac : AC) (st : St) (k : Ex → St → Bool), ac.Ok C → runA C n ac st k = true → AWq C ac.code st (fun e s => k e s = true)
  | .leaf c, st, k, _, h => AWp.q (fun w B oC oL ω a Q ro S hI hQ => (run_sound hC n).1 none c st k w B oC oL ω a Q ro h S hI hQ)
  | .seq a b, st, k, hok, h => AWq.seq ((runA_sound hC a st _ hok.1 h).mono fun e s hk => by
      cases e with
      | normal => exact runA_sound hC b s k hok.2 hk
      | exit id => exact hk
      | goto l => exact hk
      | ret => exact hk
      | panic v => exact hk)
  | .cond o a b, st, k, hok, h => by
    simp only [runA] at h
    split at h
    · rename_i t ht
      have hset : ∀ b, b = t → setO st.tmps o (.bool b) = st.tmps := fun b e => by
        subst e
        cases o with
        | tmp d => exact lset_same ht
        | _ => rfl
      refine AWq.cond ht (fun e => ?_) (fun e => ?_)
      · subst e
        rw [hset true rfl] at h
        exact runA_sound hC a st k hok.1 h
      · subst e
        rw [hset false rfl] at h
        exact runA_sound hC b st k hok.2 h
    · cases h
  | .block id a, st, k, hok, h => AWq.block ((runA_sound hC a st _ hok h).mono fun e s hk => by
      cases e with
      | normal => exact hk
      | exit id' =>
        rcases of_cond2 hk with ⟨h1, h2⟩ | ⟨h1, h2⟩
        · exact ⟨fun _ => h2, fun hn => absurd (of_beq h1) hn⟩
        · exact ⟨fun he => (by rw [(beq_iff _ _).2 he] at h1; cases h1), fun _ => h2⟩
      | goto l => exact hk
      | ret => exact hk
      | panic v => exact hk)
  | .known c F, st, k, hok, h => hok st k h
/-- The loops of a piece of code, in order; those in loops aside. -/
def loopsOf : Code → List Code
  | .seq a b => loopsOf a ++ loopsOf b
  | .cond _ a b => loopsOf a ++ loopsOf b
  | .block _ a => loopsOf a
  | .loop b => [.loop b]
  | .rangeFunc g ps as b => [.rangeFunc g ps as b]
  | _ => []
/-- What is known of a loop, as a way of going on. -/
abbrev LF := St → (Ex → St → Bool) → Bool
def mkA : Code → List LF → AC
  | .seq a b, l => match loopsOf a with
    | [] => match loopsOf b with
      | [] => .leaf (.seq a b)
      | _ => .seq (.leaf a) (mkA b l)
    | x :: r => .seq (mkA a l) (mkA b (l.drop (r.length + 1)))
  | .cond o a b, l => match loopsOf a with
    | [] => match loopsOf b with
      | [] => .leaf (.cond o a b)
      | _ => .cond o (.leaf a) (mkA b l)
    | x :: r => .cond o (mkA a l) (mkA b (l.drop (r.length + 1)))
  | .block id a, l => .block id (mkA a l)
  | .loop b, F :: _ => .known (.loop b) F
  | .rangeFunc g ps as b, F :: _ => .known (.rangeFunc g ps as b) F
  | c, _ => .leaf c
theorem mkA_code : ∀ (c : Code) (l : List LF), (mkA c l).code = c
  | .seq a b, l => by
    unfold mkA
    split
    · split
      · rfl
      · show Code.seq a (mkA b l).code = _; rw [mkA_code b l]
    · show Code.seq (mkA a l).code (mkA b _).code = _; rw [mkA_code a, mkA_code b]
  | .cond o a b, l => by
    unfold mkA
    split
    · split
      · rfl
      · show Code.cond o a (mkA b l).code = _; rw [mkA_code b l]
    · show Code.cond o (mkA a l).code (mkA b _).code = _; rw [mkA_code a, mkA_code b]
  | .block id a, l => by show Code.block id (mkA a l).code = _; rw [mkA_code a]
  | .loop b, [] => rfl
  | .loop b, _ :: _ => rfl
  | .rangeFunc g ps as b, [] => rfl
  | .rangeFunc g ps as b, _ :: _ => rfl
  | .skip, _ => rfl
  | .label _, _ => rfl
  | .ret, _ => rfl
  | .exit _, _ => rfl
  | .goto _, _ => rfl
  | .scope _, _ => rfl
  | .region _ _ _, _ => rfl
  | .refuse _, _ => rfl
/-- What is known of the loops is right. -/
def LoopsOk (C : Cfg) : List Code → List LF → Prop
  | c :: cs, F :: Fs => (∀ st k, F st k = true → AWq C c st (fun e s => k e s = true)) ∧ LoopsOk C cs Fs
  | _, _ => True
theorem LoopsOk.left : ∀ {a b : List Code} {l : List LF}, LoopsOk C (a ++ b) l → LoopsOk C a l
  | [], _, [], _ => trivial
  | [], _, _ :: _, _ => trivial
  | _ :: _, _, [], _ => trivial
  | _ :: _, _, _ :: _, h => ⟨h.1, LoopsOk.left h.2⟩
theorem LoopsOk.right : ∀ {a b : List Code} {l : List LF}, LoopsOk C (a ++ b) l → LoopsOk C b (l.drop a.length)
  | [], _, l, h => h
  | _ :: _, b, [], _ => by cases b <;> trivial
  | _ :: a, b, _ :: l, h => LoopsOk.right (a := a) (b := b) (l := l) h.2
theorem mkA_ok : ∀ (c : Code) (l : List LF), LoopsOk C (loopsOf c) l → (mkA c l).Ok C
  | .seq a b, l, h => by
    unfold mkA
    have h : LoopsOk C (loopsOf a ++ loopsOf b) l := h
    split
    · rename_i ha
      split
      · exact trivial
      · rw [ha] at h; exact ⟨trivial, mkA_ok b l h⟩
    · rename_i x r ha
      have h2 := h.right
      rw [ha] at h2
      exact ⟨mkA_ok a l h.left, mkA_ok b _ h2⟩
  | .cond o a b, l, h => by
    unfold mkA
    have h : LoopsOk C (loopsOf a ++ loopsOf b) l := h
    split
    · rename_i ha
      split
      · exact trivial
      · rw [ha] at h; exact ⟨trivial, mkA_ok b l h⟩
    · rename_i x r ha
      have h2 := h.right
      rw [ha] at h2
      exact ⟨mkA_ok a l h.left, mkA_ok b _ h2⟩
  | .block id a, l, h => mkA_ok a l h
  | .loop b, [], _ => trivial
  | .loop b, F :: _, h => h.1
  | .rangeFunc g ps as b, [], _ => trivial
  | .rangeFunc g ps as b, F :: _, h => h.1
  | .skip, _, _ => trivial
  | .label _, _, _ => trivial
  | .ret, _, _ => trivial
  | .exit _, _, _ => trivial
  | .goto _, _, _ => trivial
  | .scope _, _, _ => trivial
  | .region _ _ _, _, _ => trivial
  | .refuse _, _, _ => trivial
/-- A loop of a function, by its place: the n-th, in it the m-th .. -/
def loopAt (c : Code) : List Nat → Code
  | [] => c
  | n :: r => match (loopsOf c)[n]? with
    | some (.loop b) => loopAt b r
    | some (.rangeFunc _ _ _ b) => loopAt b r
    | _ => .skip
def rfAssign : Code → Code
  | .rangeFunc _ _ a _ => a
  | _ => .skip
/-- A function's loop. -/
def loopN (c : Code) (n : Nat) : Code := ((loopsOf c)[n]?).getD .skip
/-- A run over marked code. -/
noncomputable def runM (C : Cfg) (n : Nat) (c : Code) (l : List LF) (st : St) (k : Ex → St → Bool) : Bool := runA C n (mkA c l) st k
theorem AWq.runM (hC : C.Ok) {n : Nat} {c : Code} {l : List LF} (hl : LoopsOk C (loopsOf c) l) (h : ∀ k : Ex → St → Bool, (∀ e s, K e s → k e s = true) → Bas.runM C n c l st k = true) : AWq C c st K := by
  classical
  have := runA_sound hC (mkA c l) st _ (mkA_ok c l hl) (h (fun e s => decide (K e s)) (fun e s hk => decide_eq_true hk))
  rw [mkA_code] at this
  exact this.mono fun e s hk => of_decide_eq_true hk
/-- A function's run over its marked code. -/
noncomputable def runFM (C : Cfg) (n : Nat) (f : FuncId) (l : List LF) (args : List AV) (k : AV → Bool) : Bool :=
  runM C n (fcode C.P f) l (st0 C.P f args) (fun e s => match e with
    | .ret => resF C f s k false
    | .normal => resF C f s k false
    | _ => false)
theorem runFM_sound (hC : C.Ok) {n : Nat} {f : FuncId} {l : List LF} {args : List AV} {k : AV → Bool} (hf : ((C.P.funcs[f]?).bind (·.body)).isSome = true) (hok : LoopsOk C (loopsOf (fcode C.P f)) l) (h : runFM C n f l args k = true) : ACalls C.P C.G f args (fun v => k v = true) :=
  acalls_of_awq hf (by
    have := runA_sound hC _ _ _ (mkA_ok (fcode C.P f) l hok) h
    rw [mkA_code] at this
    refine this.mono fun e s hk => ?_
    cases e with
    | ret => exact ⟨.inl rfl, hk⟩
    | normal => exact ⟨.inr rfl, hk⟩
    | exit id => cases hk
    | goto l => cases hk
    | panic v => cases hk)
theorem acalls_eqM {P : Program} {G : Nat → Option (List AV)} {q : FuncId → Bool} (h : Base P) {l : List Sum} (hl : ∀ s ∈ l, SumOk P G s) {f : FuncId} {fs : List LF} {args : List AV} {r : AV} {n : Nat} (hf : ((P.funcs[f]?).bind (·.body)).isSome = true) (hok : LoopsOk ⟨P, G, lookS l, q, fun _ => none⟩ (loopsOf (fcode P f)) fs)
    (hrun : ∀ k : AV → Bool, k r = true → runFM ⟨P, G, lookS l, q, fun _ => none⟩ n f fs args k = true) : ACalls P G f args (fun v => v = r) := by
  classical
  have := runFM_sound (cfg_ok h hl) hf hok (hrun (fun v => decide (v = r)) (by simp))
  exact this.mono fun v hv => by simpa using hv

def AC.OkP (C : Cfg) : AC → Prop
  | .leaf _ => True
  | .seq a b => a.OkP C ∧ b.OkP C
  | .cond _ a b => a.OkP C ∧ b.OkP C
  | .block _ a => a.OkP C
  | .known c F => ∀ st k, F st k = true → AWp C none c st (fun e s => k e s = true)
theorem runA_soundP (hC : C.Ok) {n : Nat} : ∀ (ac : AC) (st : St) (k : Ex → St → Bool), ac.OkP C → runA C n ac st k = true → AWp C none ac.code st (fun e s => k e s = true)
  | .leaf c, st, k, _, h => fun w B oC oL ω a Q ro S hI hQ => (run_sound hC n).1 none c st k w B oC oL ω a Q ro h S hI hQ
  | .seq a b, st, k, hok, h => AWp.seq ((runA_soundP hC a st _ hok.1 h).mono fun e s hk => by
      cases e with
      | normal => exact runA_soundP hC b s k hok.2 hk
      | exit id => exact hk
      | goto l => exact hk
      | ret => exact hk
      | panic v => exact hk)
  | .cond o a b, st, k, hok, h => by
    simp only [runA] at h
    split at h
    · rename_i t ht
      have hset : ∀ b, b = t → setO st.tmps o (.bool b) = st.tmps := fun b e => by
        subst e
        cases o with
        | tmp d => exact lset_same ht
        | _ => rfl
      refine AWp.cond ht (fun e => ?_) (fun e => ?_)
      · subst e
        rw [hset true rfl] at h
        exact runA_soundP hC a st k hok.1 h
      · subst e
        rw [hset false rfl] at h
        exact runA_soundP hC b st k hok.2 h
    · cases h
  | .block id a, st, k, hok, h => AWp.block ((runA_soundP hC a st _ hok h).mono fun e s hk => by
      cases e with
      | normal => exact hk
      | exit id' =>
        rcases of_cond2 hk with ⟨h1, h2⟩ | ⟨h1, h2⟩
        · exact ⟨fun _ => h2, fun hn => absurd (of_beq h1) hn⟩
        · exact ⟨fun he => (by rw [(beq_iff _ _).2 he] at h1; cases h1), fun _ => h2⟩
      | goto l => exact hk
      | ret => exact hk
      | panic v => exact hk)
  | .known c F, st, k, hok, h => hok st k h
/-- What is known of the loops is right. -/
def LoopsOkP (C : Cfg) : List Code → List LF → Prop
  | c :: cs, F :: Fs => (∀ st k, F st k = true → AWp C none c st (fun e s => k e s = true)) ∧ LoopsOkP C cs Fs
  | _, _ => True
theorem LoopsOkP.left : ∀ {a b : List Code} {l : List LF}, LoopsOkP C (a ++ b) l → LoopsOkP C a l
  | [], _, [], _ => trivial
  | [], _, _ :: _, _ => trivial
  | _ :: _, _, [], _ => trivial
  | _ :: _, _, _ :: _, h => ⟨h.1, LoopsOkP.left h.2⟩
theorem LoopsOkP.right : ∀ {a b : List Code} {l : List LF}, LoopsOkP C (a ++ b) l → LoopsOkP C b (l.drop a.length)
  | [], _, l, h => h
  | _ :: _, b, [], _ => by cases b <;> trivial
  | _ :: a, b, _ :: l, h => LoopsOkP.right (a := a) (b := b) (l := l) h.2
theorem mkA_okP : ∀ (c : Code) (l : List LF), LoopsOkP C (loopsOf c) l → (mkA c l).OkP C
  | .seq a b, l, h => by
    unfold mkA
    have h : LoopsOkP C (loopsOf a ++ loopsOf b) l := h
    split
    · rename_i ha
      split
      · exact trivial
      · rw [ha] at h; exact ⟨trivial, mkA_okP b l h⟩
    · rename_i x r ha
      have h2 := h.right
      rw [ha] at h2
      exact ⟨mkA_okP a l h.left, mkA_okP b _ h2⟩
  | .cond o a b, l, h => by
    unfold mkA
    have h : LoopsOkP C (loopsOf a ++ loopsOf b) l := h
    split
    · rename_i ha
      split
      · exact trivial
      · rw [ha] at h; exact ⟨trivial, mkA_okP b l h⟩
    · rename_i x r ha
      have h2 := h.right
      rw [ha] at h2
      exact ⟨mkA_okP a l h.left, mkA_okP b _ h2⟩
  | .block id a, l, h => mkA_okP a l h
  | .loop b, [], _ => trivial
  | .loop b, F :: _, h => h.1
  | .rangeFunc g ps as b, [], _ => trivial
  | .rangeFunc g ps as b, F :: _, h => h.1
  | .skip, _, _ => trivial
  | .label _, _, _ => trivial
  | .ret, _, _ => trivial
  | .exit _, _, _ => trivial
  | .goto _, _, _ => trivial
  | .scope _, _, _ => trivial
  | .region _ _ _, _, _ => trivial
  | .refuse _, _, _ => trivial
theorem AWp.runM (hC : C.Ok) {n : Nat} {c : Code} {l : List LF} (hl : LoopsOkP C (loopsOf c) l) (h : ∀ k : Ex → St → Bool, (∀ e s, K e s → k e s = true) → Bas.runM C n c l st k = true) : AWp C none c st K := by
  classical
  have := runA_soundP hC (mkA c l) st _ (mkA_okP c l hl) (h (fun e s => decide (K e s)) (fun e s hk => decide_eq_true hk))
  rw [mkA_code] at this
  exact this.mono fun e s hk => of_decide_eq_true hk

/-! ### States by their live temporaries -/
/-- A list's entry by its number. -/
def lookA : List (Nat × AV) → Nat → AV
  | [], _ => .any
  | p :: r, i => cond (Nat.beq p.1 i) p.2 (lookA r i)
def fillA (live : List (Nat × AV)) : Nat → Nat → List AV
  | 0, _ => []
  | n + 1, i => lookA live i :: fillA live n (i + 1)
/-- The temporaries of which only the named ones are known. -/
def fill (n : Nat) (live : List (Nat × AV)) : List AV := fillA live n 0
theorem fillA_length (live : List (Nat × AV)) : ∀ (n i : Nat), (fillA live n i).length = n
  | 0, _ => rfl
  | n + 1, i => by simp [fillA, fillA_length live n]
theorem fillA_get (live : List (Nat × AV)) : ∀ (n i j : Nat) (h : j < (fillA live n i).length), (fillA live n i)[j] = lookA live (i + j)
  | 0, i, j, h => absurd h (Nat.not_lt_zero _)
  | n + 1, i, 0, h => rfl
  | n + 1, i, j + 1, h => by
    have := fillA_get live n (i + 1) j (by simpa [fillA] using h)
    rw [show i + (j + 1) = i + 1 + j by omega, ← this]
    rfl
def AllL (tmps : List AV) : List (Nat × AV) → Prop
  | [] => True
  | p :: r => lget tmps p.1 = p.2 ∧ AllL tmps r
theorem AllL_nil {tmps : List AV} : AllL tmps [] := trivial
theorem AllL_cons {tmps : List AV} {i : Nat} {v : AV} {r : List (Nat × AV)} (h : lget tmps i = v) (hr : AllL tmps r) : AllL tmps ((i, v) :: r) := ⟨h, hr⟩
theorem lookA_or (tmps : List AV) : ∀ (live : List (Nat × AV)), AllL tmps live → ∀ i, lookA live i = .any ∨ lookA live i = lget tmps i
  | [], _, _ => .inl rfl
  | p :: r, h, i => by
    simp only [lookA]
    cases hb : Nat.beq p.1 i with
    | true => rw [← of_beq hb]; exact .inr h.1.symm
    | false => exact lookA_or tmps r h.2 i
theorem LessS.fill {st : St} {n : Nat} {live : List (Nat × AV)} {ds : List Nat} {m : Mem} (hn : st.tmps.length = n) (hl : AllL st.tmps live) (hd : st.ds = ds) (hm : st.m = m) : LessS C st ⟨Bas.fill n live, ds, m⟩ := by
  subst hd hm
  refine ⟨rfl, fun w B oC oL ω a S => ⟨⟨(fillA_length live n 0).trans (hn.symm.trans S.tm.1), fun i hi => ?_⟩, S.dn, S.ms⟩⟩
  have hi' : i < st.tmps.length := by
    have : i < (fillA live n 0).length := hi
    rw [fillA_length] at this
    omega
  have e : (Bas.fill n live)[i] = lookA live i := by
    show (fillA live n 0)[i] = _
    rw [fillA_get live n 0 i hi, Nat.zero_add]
  show Rep w (Or2 B oL) oC ω st.m.nx (Bas.fill n live)[i] _
  rw [e]
  rcases lookA_or st.tmps live hl i with h | h
  · rw [h]; exact .any _ _
  · rw [h, lget_eq, List.getD_eq_getElem?_getD, List.getElem?_eq_getElem hi']
    exact S.tm.2 i hi'
/-- Blocks, the newest first. -/
noncomputable def hins (p : Nat × HB) (h : Heap) : Heap := List.rec (motive := fun _ => Heap) [p] (fun q r ih => cond (Nat.ble q.1 p.1) (p :: q :: r) (q :: ih)) h
noncomputable def hsort (h : Heap) : Heap := List.rec (motive := fun _ => Heap) [] (fun p _ ih => hins p ih) h
theorem hget_hins (p : Nat × HB) (id : Nat) : ∀ h : Heap, hget (hins p h) id = cond (Nat.beq p.1 id) (some p.2) (hget h id)
  | [] => rfl
  | q :: r => by
    show hget (cond (Nat.ble q.1 p.1) (p :: q :: r) (q :: hins p r)) id = _
    cases hb : Nat.ble q.1 p.1 with
    | true => rfl
    | false =>
      show cond (Nat.beq q.1 id) (some q.2) (hget (hins p r) id) = cond (Nat.beq p.1 id) (some p.2) (cond (Nat.beq q.1 id) (some q.2) (hget r id))
      rw [hget_hins p id r]
      cases h1 : Nat.beq q.1 id with
      | false => rfl
      | true =>
        cases h2 : Nat.beq p.1 id with
        | false => rfl
        | true =>
          have e1 := of_beq h1
          have e2 := of_beq h2
          rw [e1, e2, Nat.ble_eq_true_of_le (Nat.le_refl _)] at hb
          cases hb
theorem hget_hsort : ∀ (h : Heap) (id : Nat), hget (hsort h) id = hget h id
  | [], _ => rfl
  | p :: r, id => by
    show hget (hins p (hsort r)) id = cond (Nat.beq p.1 id) (some p.2) (hget r id)
    rw [hget_hins, hget_hsort r id]
noncomputable def msort (m : Mem) : Mem := ⟨hsort m.heap, m.nx, m.lp⟩
theorem LessS.sort (st : St) : LessS C st ⟨st.tmps, st.ds, msort st.m⟩ := ⟨rfl, fun w B oC oL ω a S => ⟨S.tm, S.dn, ⟨⟨fun id hb h => S.ms.hp.rel id hb ((hget_hsort _ _).symm.trans h), fun i j b h1 h2 => S.ms.hp.inj i j b (by rwa [← hget_hsort]) (by rwa [← hget_hsort]), S.ms.hp.ob⟩, S.ms.lp, S.ms.gl, S.ms.gb, S.ms.bl⟩⟩⟩
theorem LessS.trans {st st1 st2 : St} (h : LessS C st st1) (h' : LessS C st1 st2) : LessS C st st2 := ⟨h'.1.trans h.1, fun w B oC oL ω a S => h'.2 _ _ _ _ _ _ (h.2 _ _ _ _ _ _ S)⟩
/-- A state by its live temporaries, its blocks in order. -/
theorem LessS.to {st : St} {n : Nat} {live : List (Nat × AV)} {ds : List Nat} {m : Mem} (hn : st.tmps.length = n) (hl : AllL st.tmps live) (hd : st.ds = ds) (hm : msort st.m = m) : LessS C st ⟨Bas.fill n live, ds, m⟩ :=
  (LessS.sort st).trans (LessS.fill hn hl hd hm)
theorem Less.fill {st : St} {n : Nat} {live : List (Nat × AV)} {ds : List Nat} {m : Mem} (hn : st.tmps.length = n) (hl : AllL st.tmps live) (hd : st.ds = ds) (hm : st.m = m) : Less C st ⟨Bas.fill n live, ds, m⟩ := (LessS.fill hn hl hd hm).less
/-- A call that is walked where it stands. -/
theorem callR_in {go : RunF Bool} {z : Bool} {f : FuncId} {fn : Func} {c : Code} {args : List AV} {m : Mem} {kk kp : AV → Mem → Bool} (hfn : C.P.funcs[f]? = some fn) (hb : fn.body = some c) (hX : C.X f = none) (hS : C.S f = none) (hQ : C.Q f = false) :
    callR C go z (.fn f) args m kk kp = go none none c ⟨padL args fn.ntmps, [], m⟩ (fun e st' => match e with
        | .ret => closeK st'.ds st'.m.lp (fun lp => resK C fn st' (fun v => kk v ⟨st'.m.heap, st'.m.nx, lp⟩) z) z
        | .normal => closeK st'.ds st'.m.lp (fun lp => resK C fn st' (fun v => kk v ⟨st'.m.heap, st'.m.nx, lp⟩) z) z
        | .panic v => closeK st'.ds st'.m.lp (fun lp => kp v ⟨st'.m.heap, st'.m.nx, lp⟩) z
        | _ => z) z := by
  simp only [callR, hX, floatK, hfn, hb, hS, hQ, cond_false]
  congr 1
/-- A loop over a function at a function's own level: its iterator's code, from the loop's begin on. -/
theorem AWq.rangeF (hC : C.Ok) {g : Operand} {f : FuncId} {fn : Func} {c : Code} {first cap : List AV} {params : Array Tmp} {assign body : Code} {k : Ex → St → Bool} (hg : evO C st.tmps g = .fn (.func f) first cap)
    (hfn : C.P.funcs[f]? = some fn) (hb : fn.body = some c) (hX : C.X f = none) (hS : C.S f = none) (hQ : C.Q f = false) (hr : fn.results.toList = [])
    (h : AWp C none c ⟨padL (first ++ [.yld (st.m.nx + 1)] ++ cap) fn.ntmps, [], ⟨st.m.heap, st.m.nx + 2, (st.m.nx + 1, .lop 0 none st.tmps params.toList assign body st.m.nx) :: (st.m.nx, .dfb) :: st.m.lp⟩⟩
      (fun e s => (e = .ret ∨ e = .normal) ∧ s.ds = [] ∧ afterK C st k (st.m.nx + 1) (st.m.nx :: st.ds) (msort s.m) = true)) : AWq C (.rangeFunc g params assign body) st (fun e s => k e s = true) := by
  refine AWp.q (AWp.range (k := k) hC hg ?_ (fun e s h => h))
  simp only [loopM]
  rw [callR_in hfn hb hX hS hQ]
  refine goA_true (h.post fun e s hs => ⟨_, LessS.sort s, ?_⟩)
  obtain ⟨he, hd, hk⟩ := hs
  rcases he with rfl | rfl
  · simp only [hd, closeK, resK, hr, resKs]
    exact hk
  · simp only [hd, closeK, resK, hr, resKs]
    exact hk
theorem fn_is {P : Program} {f : FuncId} {n r : Nat} (h : ((P.funcs[f]?).map fun fn => (fn.body.isSome, fn.ntmps, fn.results.toList.length)) = some (true, n, r)) :
    ∃ fn, P.funcs[f]? = some fn ∧ fn.body = some (fcode P f) ∧ fn.ntmps = n ∧ fn.results.toList.length = r := by
  cases hq : P.funcs[f]? with
  | none => rw [hq] at h; cases h
  | some fn =>
    rw [hq] at h
    simp only [Option.map_some, Option.some.injEq, Prod.mk.injEq] at h
    obtain ⟨c, hb⟩ := Option.isSome_iff_exists.1 h.1
    exact ⟨fn, rfl, by simp [fcode, hq, hb], h.2.1, h.2.2⟩
/-- The temporaries but for those that are not named. -/
noncomputable def keepA (ls : List Nat) (l : List AV) : Nat → List AV := List.rec (motive := fun _ => Nat → List AV) (fun _ => []) (fun a _ ih i => (cond (memN ls i) a .any) :: ih (i + 1)) l
theorem keepA_length (ls : List Nat) : ∀ (l : List AV) (i : Nat), (keepA ls l i).length = l.length
  | [], _ => rfl
  | a :: r, i => congrArg (· + 1) (keepA_length ls r (i + 1))
theorem keepA_get (ls : List Nat) : ∀ (l : List AV) (i j : Nat) (h : j < (keepA ls l i).length) (h' : j < l.length), (keepA ls l i)[j] = .any ∨ (keepA ls l i)[j] = l[j]
  | [], i, j, h, h' => absurd h' (Nat.not_lt_zero _)
  | a :: r, i, 0, h, h' => by
    show cond (memN ls i) a .any = .any ∨ cond (memN ls i) a .any = a
    cases memN ls i
    · exact .inl rfl
    · exact .inr rfl
  | a :: r, i, j + 1, h, h' => keepA_get ls r (i + 1) j (by rw [keepA_length] at *; simpa using h') (by simpa using h')
/-- A state, of its temporaries the named ones alone; its blocks in order. -/
noncomputable def keepS (ls : List Nat) (st : St) : St := ⟨keepA ls st.tmps 0, st.ds, msort st.m⟩
theorem LessS.keep (ls : List Nat) (st : St) : LessS C st (keepS ls st) :=
  (LessS.sort st).trans ⟨rfl, fun w B oC oL ω a S => ⟨⟨(keepA_length ls st.tmps 0).trans S.tm.1, fun i hi => by
    have hi' : i < st.tmps.length := by
      have : i < (keepA ls st.tmps 0).length := hi
      rwa [keepA_length] at this
    show Rep _ _ _ _ _ (keepA ls st.tmps 0)[i] _
    rcases keepA_get ls st.tmps 0 i hi hi' with e | e
    · rw [e]; exact .any _ _
    · rw [e]; exact S.tm.2 i hi'⟩, S.dn, S.ms⟩⟩
/-- A piece that the run goes through; of its end the named temporaries are looked at. -/
theorem AWp.runK (hC : C.Ok) (ls : List Nat) {inr : Option Nat} {n : Nat} {code : Code} (h : ∀ k : Ex → St → Bool, (∀ e s, K e s → k e s = true) → Bas.run C n inr none code st (fun e s => k e (keepS ls s)) false = true) : AWp C inr code st K := by
  classical
  have h1 := h (fun e s => decide (K e s)) (fun e s h => decide_eq_true h)
  have h0 : AWp C inr code st (fun e s => decide (K e (keepS ls s)) = true) := fun w B oC oL ω a Q ro S hI hQ => (run_sound hC n).1 inr code st _ w B oC oL ω a Q ro h1 S hI hQ
  exact h0.post fun e s hk => ⟨_, LessS.keep ls s, of_decide_eq_true hk⟩
theorem AWq.runK (hC : C.Ok) (ls : List Nat) {n : Nat} {code : Code} (h : ∀ k : Ex → St → Bool, (∀ e s, K e s → k e s = true) → Bas.run C n none none code st (fun e s => k e (keepS ls s)) false = true) : AWq C code st K := (AWp.runK hC ls h).q
end
end Go.Bas
