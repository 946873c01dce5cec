/- The engine, part Ma: a function's code with known loops: pieces at a function's own level, what is k; The engine, part Mb: blocks let go; The engine, part Mc: runs over code some pieces of which are known; regions with calls that are walk; The engine, part Ex: what a function answers where nothing of it is printed: its run's one outcome,; The engine, part Ex2: small laws for trees whose paths are proved one by one; The engine, part Tv: the program of an index, behind a pointer, its levels asv they are; Contracts: configs and stages; the variables; Contracts with no law of their own: levels of an index, and how great an object is; Contracts: levels of an index, asv a list of known length; Counts of an index's levels answer always; and its levels are one to five; Contracts with no law of their own: operations, and frames' starts. -/
import Derived.Test.YtckjogkjfhajcaaGreatDoorBasW7
import Derived.Test.YtckjogkjfhajcaaGreatDoorProg
import Derived.KernelRfl
section
namespace Go.Bas
open Go.RowKit
set_option linter.unusedSimpArgs false
set_option linter.unusedVariables false

/-- From this abstract state the code comes to an end, and there 'K' holds: at a function's own level. -/
def AWq (C : Cfg) (code : Code) (st : St) (K : Ex → St → Prop) : Prop :=
  ∀ (w : World) (B oC oL : Nat → Prop) (ω : Nat → Option Nat) (a : Act) (Q : Exit → Act → World → Prop), Sim C w B oC oL ω st a →
    (∀ e st' a' w' oC' oL' ω' out, Sim C w' B oC' oL' ω' st' a' → ExtR w oC oL (fun _ => none) 0 w' oC' oL' ω' st'.m.nx → K e st' → OutIs w' B oC' oL' ω' st'.m.nx e out → Q out a' w') → code.wpIn (Fr none) 0 C.P Q a w

theorem ExtR.low {w w' : World} {oC oL oC' oL' : Nat → Prop} {ω ω' : Nat → Option Nat} {nx nx' : Nat} (E : ExtR w oC oL ω nx w' oC' oL' ω' nx') : ExtR w oC oL (fun _ => none) 0 w' oC' oL' ω' nx' :=
  ⟨E.os, E.tape, E.output, E.size, E.old, E.owns, Nat.zero_le _, fun _ h => absurd h (Nat.not_lt_zero _), E.row⟩
theorem ExtR.then {w w1 w2 : World} {oC oL oC1 oL1 oC2 oL2 : Nat → Prop} {ω1 ω2 : Nat → Option Nat} {nx1 nx2 : Nat} (E : ExtR w oC oL (fun _ => none) 0 w1 oC1 oL1 ω1 nx1) (E2 : ExtR w1 oC1 oL1 (fun _ => none) 0 w2 oC2 oL2 ω2 nx2) : ExtR w oC oL (fun _ => none) 0 w2 oC2 oL2 ω2 nx2 :=
  have E' : ExtR w oC oL (fun _ => none) 0 w1 oC1 oL1 (fun _ => none) 0 := ⟨E.os, E.tape, E.output, E.size, E.old, E.owns, Nat.le_refl _, fun _ h => absurd h (Nat.not_lt_zero _), E.row⟩
  E'.trans E2

section
variable {C : Cfg} {K K' : Ex → St → Prop} {st : St}

theorem AWp.q {code : Code} (h : AWp C none code st K) : AWq C code st K := fun w B oC oL ω a Q S hQ =>
  h w B oC oL ω a Q none S trivial (fun e st' a' w' oC' oL' ω' out S' E hk ho => hQ e st' a' w' oC' oL' ω' out S' E.low hk ho)
theorem AWq.mono {code : Code} (hk : ∀ e s, K e s → K' e s) (h : AWq C code st K) : AWq C code st K' := fun w B oC oL ω a Q S hQ =>
  h w B oC oL ω a Q S (fun e st' a' w' oC' oL' ω' out S' E k ho => hQ e st' a' w' oC' oL' ω' out S' E (hk e st' k) ho)
theorem AWq.run (hC : C.Ok) {n : Nat} {code : Code} (h : ∀ k : Ex → St → Bool, (∀ e s, K e s → k e s = true) → Bas.run C n none none code st k false = true) : AWq C code st K := (AWp.run hC h).q

theorem AWq.seq {x y : Code} (h : AWq C x st (fun e s => match e with | .normal => AWq C y s K | e => K e s)) : AWq C (.seq x y) st K := fun w B oC oL ω a Q S hQ => by
  refine wpIn_seq (h w B oC oL ω a _ S (fun e st' a' w' oC' oL' ω' out S' E hk ho => ?_))
  cases e with
  | normal => subst ho; exact hk w' B oC' oL' ω' a' Q S' (fun e2 st2 a2 w2 oC2 oL2 ω2 out2 S2 E2 hk2 ho2 => hQ e2 st2 a2 w2 oC2 oL2 ω2 out2 S2 (E.then E2) hk2 ho2)
  | exit id => have h2 := hQ _ st' a' w' oC' oL' ω' out S' E hk ho; subst ho; exact h2
  | goto l => have h2 := hQ _ st' a' w' oC' oL' ω' out S' E hk ho; subst ho; exact h2
  | ret => have h2 := hQ _ st' a' w' oC' oL' ω' out S' E hk ho; subst ho; exact h2
  | panic v => have h2 := hQ _ st' a' w' oC' oL' ω' out S' E hk ho; obtain ⟨u, rfl, _⟩ := ho; exact h2

theorem AWq.block {id : Nat} {body : Code} (h : AWq C body st (fun e s => match e with | .exit id' => (id' = id → K .normal s) ∧ (id' ≠ id → K (.exit id') s) | e => K e s)) : AWq C (.block id body) st K := fun w B oC oL ω a Q S hQ => by
  refine wpIn_block (h w B oC oL ω a _ S (fun e st' a' w' oC' oL' ω' out S' E hk ho => ?_))
  cases e with
  | normal => exact hQ .normal _ _ _ _ _ _ out S' E hk ho |> fun h2 => by subst ho; exact h2
  | exit id' =>
    subst ho
    simp only [Exit.inBlock]
    by_cases h : id' = id
    · rw [if_pos h]; exact hQ .normal _ _ _ _ _ _ _ S' E (hk.1 h) rfl
    · rw [if_neg h]; exact hQ (.exit id') _ _ _ _ _ _ _ S' E (hk.2 h) rfl
  | goto l => have h2 := hQ _ st' a' w' oC' oL' ω' out S' E hk ho; subst ho; exact h2
  | ret => have h2 := hQ _ st' a' w' oC' oL' ω' out S' E hk ho; subst ho; exact h2
  | panic v => have h2 := hQ _ st' a' w' oC' oL' ω' out S' E hk ho; obtain ⟨u, rfl, _⟩ := ho; exact h2

theorem AWq.cond {c : Operand} {x y : Code} {t : Bool} (hc : evO C st.tmps c = .bool t) (hx : t = true → AWq C x st K) (hy : t = false → AWq C y st K) : AWq C (.cond c x y) st K := fun w B oC oL ω a Q S hQ => by
  have hev := S.ev c
  rw [hc] at hev
  generalize hv : a.eval c = u at hev
  cases hev
  cases t with
  | true => exact wpIn_cond_true hv (hx rfl w B oC oL ω a Q S hQ)
  | false => exact wpIn_cond_false hv (hy rfl w B oC oL ω a Q S hQ)

/-- Whatever is asv the one state says is asv the other says. -/
def Less (C : Cfg) (st st' : St) : Prop := ∀ (w : World) (B oC oL : Nat → Prop) (ω : Nat → Option Nat) (a : Act), Sim C w B oC oL ω st a → ∃ ω', Sim C w B oC oL ω' st' a
theorem Less.refl (st : St) : Less C st st := fun w B oC oL ω a S => ⟨ω, S⟩
theorem Less.trans {st st1 st2 : St} (h : Less C st st1) (h' : Less C st1 st2) : Less C st st2 := fun w B oC oL ω a S =>
  let ⟨ω1, S1⟩ := h w B oC oL ω a S
  h' w B oC oL ω1 a S1
theorem AWq.less {code : Code} {st' : St} (h : Less C st st') (hw : AWq C code st' K) : AWq C code st K := fun w B oC oL ω a Q S hQ => by
  obtain ⟨ω', S'⟩ := h w B oC oL ω a S
  exact hw w B oC oL ω' a Q S' hQ

/-- The same, nothing renamed. -/
def LessS (C : Cfg) (st st' : St) : Prop := st'.m.nx = st.m.nx ∧ ∀ (w : World) (B oC oL : Nat → Prop) (ω : Nat → Option Nat) (a : Act), Sim C w B oC oL ω st a → Sim C w B oC oL ω st' a
theorem LessS.less {st st' : St} (h : LessS C st st') : Less C st st' := fun w B oC oL ω a S => ⟨ω, h.2 w B oC oL ω a S⟩
theorem LessS.refl (st : St) : LessS C st st := ⟨rfl, fun w B oC oL ω a S => S⟩
theorem AWp.less {inr : Option Nat} {code : Code} {st' : St} (h : LessS C st st') (hw : AWp C inr code st' K) : AWp C inr code st K := fun w B oC oL ω a Q ro S hI hQ =>
  hw w B oC oL ω a Q ro (h.2 w B oC oL ω a S) (h.1 ▸ hI) (fun e st2 a2 w2 oC2 oL2 ω2 out2 S2 E hk ho => hQ e st2 a2 w2 oC2 oL2 ω2 out2 S2 (h.1 ▸ E) hk ho)
theorem AWp.post {inr : Option Nat} {code : Code} (h : AWp C inr code st K) (hk : ∀ e s, K e s → ∃ s', LessS C s s' ∧ K' e s') : AWp C inr code st K' := fun w B oC oL ω a Q ro S hI hQ =>
  h w B oC oL ω a Q ro S hI (fun e st' a' w' oC' oL' ω' out S' E hK ho => by
    obtain ⟨s2, hl, hk'⟩ := hk e st' hK
    refine hQ e s2 a' w' oC' oL' ω' out (hl.2 _ _ _ _ _ _ S') (hl.1 ▸ E) hk' ?_
    cases e with
    | panic v => obtain ⟨u, h1, h2⟩ := ho; exact ⟨u, h1, hl.1 ▸ h2⟩
    | _ => exact ho)
/-- A loop, by a family of states and a measure. -/
theorem AWq.loop {ι : Type} {body : Code} (I : ι → St) (μ : ι → Nat) (h : ∀ i, AWq C body (I i) (fun e s => match e with | .normal => ∃ j, μ j < μ i ∧ Less C s (I j) | e => ∃ s', LessS C s s' ∧ K e s')) (i : ι) : AWq C (.loop body) (I i) K := fun w B oC oL ω a Q S hQ => by
  have key : ∀ (m : Nat) (i : ι) (a : Act) (w : World) (oC oL : Nat → Prop) (ω : Nat → Option Nat), μ i < m → Sim C w B oC oL ω (I i) a →
      (∀ e st' a' w' oC' oL' ω' out, Sim C w' B oC' oL' ω' st' a' → ExtR w oC oL (fun _ => none) 0 w' oC' oL' ω' st'.m.nx → K e st' → OutIs w' B oC' oL' ω' st'.m.nx e out → Q out a' w') → Code.roundsIn (Fr none) 0 C.P body Q m a w := by
    intro m
    induction m with
    | zero => intro i a w oC oL ω h; exact absurd h (Nat.not_lt_zero _)
    | succ m ih =>
      intro i a w oC oL ω hm S hQ
      rw [roundsIn_succ]
      refine h i w B oC oL ω a _ S (fun e st' a' w' oC' oL' ω' out S' E hk ho => ?_)
      cases e with
      | normal =>
        obtain ⟨j, hj, hl⟩ := hk
        obtain ⟨ω2, S2⟩ := hl w' B oC' oL' ω' a' S'
        subst ho
        exact ih j a' w' oC' oL' ω2 (by omega) S2 (fun e2 st2 a2 w2 oC2 oL2 ω2 out2 S2 E2 hk2 ho2 => hQ e2 st2 a2 w2 oC2 oL2 ω2 out2 S2 (E.then E2) hk2 ho2)
      | exit id => obtain ⟨s2, hl, hk⟩ := hk; have h2 := hQ _ s2 a' w' oC' oL' ω' out (hl.2 _ _ _ _ _ _ S') (hl.1 ▸ E) hk ho; subst ho; exact h2
      | goto l => obtain ⟨s2, hl, hk⟩ := hk; have h2 := hQ _ s2 a' w' oC' oL' ω' out (hl.2 _ _ _ _ _ _ S') (hl.1 ▸ E) hk ho; subst ho; exact h2
      | ret => obtain ⟨s2, hl, hk⟩ := hk; have h2 := hQ _ s2 a' w' oC' oL' ω' out (hl.2 _ _ _ _ _ _ S') (hl.1 ▸ E) hk ho; subst ho; exact h2
      | panic v => obtain ⟨s2, hl, hk⟩ := hk; have h2 := hQ _ s2 a' w' oC' oL' ω' out (hl.2 _ _ _ _ _ _ S') (hl.1 ▸ E) hk (by obtain ⟨u, h1, h2⟩ := ho; exact ⟨u, h1, hl.1 ▸ h2⟩); obtain ⟨u, rfl, _⟩ := ho; exact h2
  exact wpIn_loop_rounds (μ i + 1) (key (μ i + 1) i a w oC oL ω (Nat.lt_succ_self _) S hQ)

/-- A call, out of what its body comes to. -/
theorem acalls_of_awq {f : FuncId} {args : List AV} {k : AV → Bool} (hf : ((C.P.funcs[f]?).bind (·.body)).isSome = true)
    (h : AWq C (fcode C.P f) (st0 C.P f args) (fun e s => (e = .ret ∨ e = .normal) ∧ resF C f s k false = true)) : ACalls C.P C.G f args (fun v => k v = true) := by
  obtain ⟨fn, hfn⟩ : ∃ fn, C.P.funcs[f]? = some fn := by
    cases hq : C.P.funcs[f]? with
    | none => rw [hq] at hf; cases hf
    | some fn => exact ⟨fn, rfl⟩
  obtain ⟨c, hb⟩ : ∃ c, fn.body = some c := by
    rw [hfn] at hf
    exact Option.isSome_iff_exists.1 hf
  have ec : fcode C.P f = c := by simp [fcode, hfn, hb]
  rw [ec] at h
  simp only [st0, hfn, Option.map_some, Option.getD_some, resF] at h
  intro w us bad hg gb bl hr
  refine (callsIn_calls (ro := none) (n := 0)).1 (callsIn_of_wp_marks hfn hb trivial ?_ rfl)
  have H0 : Hp w (Or2 bad (fun _ => False)) (fun _ => False) (fun _ => none) 0 [] := ⟨fun id hb h => (by cases h), fun i j b h => (by cases h), fun b (h : False) => h.elim⟩
  have M0 : MemSim C w bad (fun _ => False) (fun _ => False) (fun _ => none) ⟨[], 0, []⟩ := ⟨H0, ⟨fun id e h => (by cases h), fun i j l h => (by cases h), fun l (h : False) => h.elim⟩, hg, fun g cells h => ⟨fun h => h, fun h => h, gb g cells h⟩, bl⟩
  have hl : RepL w (Or2 bad (fun _ => False)) (fun _ => False) (fun _ => none) 0 (padL args fn.ntmps) (us ++ Array.replicate (fn.ntmps - us.size) undef) :=
    (pad_rep hr fn.ntmps).other fun b h1 h2 => ⟨h1, fun h => h.elim h2 (fun h => h)⟩
  refine h w bad (fun _ => False) (fun _ => False) (fun _ => none) _ _ ⟨hl, trivial, M0⟩ (fun e st' a' w' oC' oL' ω' out S' E hk' ho => ?_)
  obtain ⟨he, hk'⟩ := hk'
  have fin : closeK st'.ds st'.m.lp (fun _ => resK C fn st' (fun v => freezeK st'.m.heap 6 v k false) false) false = true → LeavesInM (Fr none) 0 C.P fn a'.tmps (fun e w' => ∃ v u, e = .returned u ∧ k v = true ∧ Still w w' ∧ Rep w' bad (fun _ => False) (fun _ => none) 0 v u) a'.defers .returning w' := fun hk' => by
    refine leave_ret (k := fun v _ => freezeK st'.m.heap 6 v k false) S' hk' (fun v u lp' w2 h1 M E2 hr2 => ?_)
    have hE := E.then E2.low
    have hown : ∀ b, oC' b → ¬ Or2 bad oL' b := fun b ho hbad => by
      rcases hbad with hbad | hbad
      · rcases hE.owns b (.inl ho) with h | h
        · exact h.elim (fun h => h) (fun h => h)
        · have := bl b hbad; omega
      · exact (M.lp.dis b hbad).2 ho
    obtain ⟨v', h3, h4⟩ := freezeK_sound M.hp hown 6 v k h1
    refine ⟨v', u, rfl, h3, ⟨hE.os, hE.tape, hE.output, hE.size, fun b hb _ => hE.old b hb (fun h => h.elim (fun h => h) (fun h => h)), fun _ h => .inl h, Nat.le_refl _, fun _ _ => rfl, hE.row⟩, ?_⟩
    exact (h4 u hr2).other fun b _ h2 => ⟨fun h => h, fun h => h2 (.inl h)⟩
  rcases he with rfl | rfl
  · subst ho; exact fin hk'
  · subst ho; exact fin hk'

/-! ### A run that goes over loops by what they are known to do -/
/-- Code with its loops marked. -/
inductive AC where
  | leaf (c : Code)
  | seq (a b : AC)
  | cond (o : Operand) (a b : AC)
  | block (id : Nat) (a : AC)
  | known (c : Code) (F : St → (Ex → St → Bool) → Bool)
def AC.code : AC → Code
  | .leaf c => c
  | .seq a b => .seq a.code b.code
  | .cond o a b => .cond o a.code b.code
  | .block id a => .block id a.code
  | .known c _ => c
def AC.Ok (C : Cfg) : AC → Prop
  | .leaf _ => True
  | .seq a b => a.Ok C ∧ b.Ok C
  | .cond _ a b => a.Ok C ∧ b.Ok C
  | .block _ a => a.Ok C
  | .known c F => ∀ st k, F st k = true → AWq C c st (fun e s => k e s = true)
noncomputable def runA (C : Cfg) (n : Nat) : AC → St → (Ex → St → Bool) → Bool
  | .leaf c, st, k => run C n none none c st k false
  | .seq a b, st, k => runA C n a st (fun e s => match e with
    | .normal => runA C n b s k
    | e => k e s)
  | .cond o a b, st, k => match evO C st.tmps o with
    | .bool t => cond t (runA C n a ⟨setO st.tmps o (.bool true), st.ds, st.m⟩ k) (runA C n b ⟨setO st.tmps o (.bool false), st.ds, st.m⟩ k)
    | _ => false
  | .block id a, st, k => runA C n a st (fun e s => match e with
    | .exit id' => cond (Nat.beq id' id) (k .normal s) (k (.exit id') s)
    | e => k e s)
  | .known _ F, st, k => F st k
theorem runA_sound (hC : C.Ok) {n : Nat} : ∀ (ac : AC) (st : St) (k : Ex → St → Bool), ac.Ok C → runA C n ac st k = true → AWq C ac.code st (fun e s => k e s = true)
  | .leaf c, st, k, _, h => AWp.q (fun w B oC oL ω a Q ro S hI hQ => (run_sound hC n).1 none c st k w B oC oL ω a Q ro h S hI hQ)
  | .seq a b, st, k, hok, h => AWq.seq ((runA_sound hC a st _ hok.1 h).mono fun e s hk => by
      cases e with
      | normal => exact runA_sound hC b s k hok.2 hk
      | exit id => exact hk
      | goto l => exact hk
      | ret => exact hk
      | panic v => exact hk)
  | .cond o a b, st, k, hok, h => by
    simp only [runA] at h
    split at h
    · rename_i t ht
      have hset : ∀ b, b = t → setO st.tmps o (.bool b) = st.tmps := fun b e => by
        subst e
        cases o with
        | tmp d => exact lset_same ht
        | _ => rfl
      refine AWq.cond ht (fun e => ?_) (fun e => ?_)
      · subst e
        rw [hset true rfl] at h
        exact runA_sound hC a st k hok.1 h
      · subst e
        rw [hset false rfl] at h
        exact runA_sound hC b st k hok.2 h
    · cases h
  | .block id a, st, k, hok, h => AWq.block ((runA_sound hC a st _ hok h).mono fun e s hk => by
      cases e with
      | normal => exact hk
      | exit id' =>
        rcases of_cond2 hk with ⟨h1, h2⟩ | ⟨h1, h2⟩
        · exact ⟨fun _ => h2, fun hn => absurd (of_beq h1) hn⟩
        · exact ⟨fun he => (by rw [(beq_iff _ _).2 he] at h1; cases h1), fun _ => h2⟩
      | goto l => exact hk
      | ret => exact hk
      | panic v => exact hk)
  | .known c F, st, k, hok, h => hok st k h
/-- The loops of a piece of code, in order; those in loops aside. -/
def loopsOf : Code → List Code
  | .seq a b => loopsOf a ++ loopsOf b
  | .cond _ a b => loopsOf a ++ loopsOf b
  | .block _ a => loopsOf a
  | .loop b => [.loop b]
  | .rangeFunc g ps asv b => [.rangeFunc g ps asv b]
  | _ => []
/-- What is known of a loop, asv a way of going on. -/
abbrev LF := St → (Ex → St → Bool) → Bool
def mkA : Code → List LF → AC
  | .seq a b, l => match loopsOf a with
    | [] => match loopsOf b with
      | [] => .leaf (.seq a b)
      | _ => .seq (.leaf a) (mkA b l)
    | x :: r => .seq (mkA a l) (mkA b (l.drop (r.length + 1)))
  | .cond o a b, l => match loopsOf a with
    | [] => match loopsOf b with
      | [] => .leaf (.cond o a b)
      | _ => .cond o (.leaf a) (mkA b l)
    | x :: r => .cond o (mkA a l) (mkA b (l.drop (r.length + 1)))
  | .block id a, l => .block id (mkA a l)
  | .loop b, F :: _ => .known (.loop b) F
  | .rangeFunc g ps asv b, F :: _ => .known (.rangeFunc g ps asv b) F
  | c, _ => .leaf c
theorem mkA_code : ∀ (c : Code) (l : List LF), (mkA c l).code = c
  | .seq a b, l => by
    unfold mkA
    split
    · split
      · rfl
      · show Code.seq a (mkA b l).code = _; rw [mkA_code b l]
    · show Code.seq (mkA a l).code (mkA b _).code = _; rw [mkA_code a, mkA_code b]
  | .cond o a b, l => by
    unfold mkA
    split
    · split
      · rfl
      · show Code.cond o a (mkA b l).code = _; rw [mkA_code b l]
    · show Code.cond o (mkA a l).code (mkA b _).code = _; rw [mkA_code a, mkA_code b]
  | .block id a, l => by show Code.block id (mkA a l).code = _; rw [mkA_code a]
  | .loop b, [] => rfl
  | .loop b, _ :: _ => rfl
  | .rangeFunc g ps asv b, [] => rfl
  | .rangeFunc g ps asv b, _ :: _ => rfl
  | .skip, _ => rfl
  | .label _, _ => rfl
  | .ret, _ => rfl
  | .exit _, _ => rfl
  | .goto _, _ => rfl
  | .scope _, _ => rfl
  | .region _ _ _, _ => rfl
  | .refuse _, _ => rfl
/-- What is known of the loops is right. -/
def LoopsOk (C : Cfg) : List Code → List LF → Prop
  | c :: cs, F :: Fs => (∀ st k, F st k = true → AWq C c st (fun e s => k e s = true)) ∧ LoopsOk C cs Fs
  | _, _ => True
theorem LoopsOk.left : ∀ {a b : List Code} {l : List LF}, LoopsOk C (a ++ b) l → LoopsOk C a l
  | [], _, [], _ => trivial
  | [], _, _ :: _, _ => trivial
  | _ :: _, _, [], _ => trivial
  | _ :: _, _, _ :: _, h => ⟨h.1, LoopsOk.left h.2⟩
theorem LoopsOk.right : ∀ {a b : List Code} {l : List LF}, LoopsOk C (a ++ b) l → LoopsOk C b (l.drop a.length)
  | [], _, l, h => h
  | _ :: _, b, [], _ => by cases b <;> trivial
  | _ :: a, b, _ :: l, h => LoopsOk.right (a := a) (b := b) (l := l) h.2
theorem mkA_ok : ∀ (c : Code) (l : List LF), LoopsOk C (loopsOf c) l → (mkA c l).Ok C
  | .seq a b, l, h => by
    unfold mkA
    have h : LoopsOk C (loopsOf a ++ loopsOf b) l := h
    split
    · rename_i ha
      split
      · exact trivial
      · rw [ha] at h; exact ⟨trivial, mkA_ok b l h⟩
    · rename_i x r ha
      have h2 := h.right
      rw [ha] at h2
      exact ⟨mkA_ok a l h.left, mkA_ok b _ h2⟩
  | .cond o a b, l, h => by
    unfold mkA
    have h : LoopsOk C (loopsOf a ++ loopsOf b) l := h
    split
    · rename_i ha
      split
      · exact trivial
      · rw [ha] at h; exact ⟨trivial, mkA_ok b l h⟩
    · rename_i x r ha
      have h2 := h.right
      rw [ha] at h2
      exact ⟨mkA_ok a l h.left, mkA_ok b _ h2⟩
  | .block id a, l, h => mkA_ok a l h
  | .loop b, [], _ => trivial
  | .loop b, F :: _, h => h.1
  | .rangeFunc g ps asv b, [], _ => trivial
  | .rangeFunc g ps asv b, F :: _, h => h.1
  | .skip, _, _ => trivial
  | .label _, _, _ => trivial
  | .ret, _, _ => trivial
  | .exit _, _, _ => trivial
  | .goto _, _, _ => trivial
  | .scope _, _, _ => trivial
  | .region _ _ _, _, _ => trivial
  | .refuse _, _, _ => trivial
/-- A loop of a function, by its place: the n-th, in it the m-th .. -/
def loopAt (c : Code) : List Nat → Code
  | [] => c
  | n :: r => match (loopsOf c)[n]? with
    | some (.loop b) => loopAt b r
    | some (.rangeFunc _ _ _ b) => loopAt b r
    | _ => .skip
def rfAssign : Code → Code
  | .rangeFunc _ _ a _ => a
  | _ => .skip
/-- A function's loop. -/
def loopN (c : Code) (n : Nat) : Code := ((loopsOf c)[n]?).getD .skip
/-- A run over marked code. -/
noncomputable def runM (C : Cfg) (n : Nat) (c : Code) (l : List LF) (st : St) (k : Ex → St → Bool) : Bool := runA C n (mkA c l) st k
theorem AWq.runM (hC : C.Ok) {n : Nat} {c : Code} {l : List LF} (hl : LoopsOk C (loopsOf c) l) (h : ∀ k : Ex → St → Bool, (∀ e s, K e s → k e s = true) → Bas.runM C n c l st k = true) : AWq C c st K := by
  classical
  have := runA_sound hC (mkA c l) st _ (mkA_ok c l hl) (h (fun e s => decide (K e s)) (fun e s hk => decide_eq_true hk))
  rw [mkA_code] at this
  exact this.mono fun e s hk => of_decide_eq_true hk
/-- A function's run over its marked code. -/
noncomputable def runFM (C : Cfg) (n : Nat) (f : FuncId) (l : List LF) (args : List AV) (k : AV → Bool) : Bool :=
  runM C n (fcode C.P f) l (st0 C.P f args) (fun e s => match e with
    | .ret => resF C f s k false
    | .normal => resF C f s k false
    | _ => false)
theorem runFM_sound (hC : C.Ok) {n : Nat} {f : FuncId} {l : List LF} {args : List AV} {k : AV → Bool} (hf : ((C.P.funcs[f]?).bind (·.body)).isSome = true) (hok : LoopsOk C (loopsOf (fcode C.P f)) l) (h : runFM C n f l args k = true) : ACalls C.P C.G f args (fun v => k v = true) :=
  acalls_of_awq hf (by
    have := runA_sound hC _ _ _ (mkA_ok (fcode C.P f) l hok) h
    rw [mkA_code] at this
    refine this.mono fun e s hk => ?_
    cases e with
    | ret => exact ⟨.inl rfl, hk⟩
    | normal => exact ⟨.inr rfl, hk⟩
    | exit id => cases hk
    | goto l => cases hk
    | panic v => cases hk)
theorem acalls_eqM {P : Program} {G : Nat → Option (List AV)} {q : FuncId → Bool} (h : Base P) {l : List Sum} (hl : ∀ s ∈ l, SumOk P G s) {f : FuncId} {fs : List LF} {args : List AV} {r : AV} {n : Nat} (hf : ((P.funcs[f]?).bind (·.body)).isSome = true) (hok : LoopsOk ⟨P, G, lookS l, q, fun _ => none⟩ (loopsOf (fcode P f)) fs)
    (hrun : ∀ k : AV → Bool, k r = true → runFM ⟨P, G, lookS l, q, fun _ => none⟩ n f fs args k = true) : ACalls P G f args (fun v => v = r) := by
  classical
  have := runFM_sound (cfg_ok h hl) hf hok (hrun (fun v => decide (v = r)) (by simp))
  exact this.mono fun v hv => by simpa using hv

def AC.OkP (C : Cfg) : AC → Prop
  | .leaf _ => True
  | .seq a b => a.OkP C ∧ b.OkP C
  | .cond _ a b => a.OkP C ∧ b.OkP C
  | .block _ a => a.OkP C
  | .known c F => ∀ st k, F st k = true → AWp C none c st (fun e s => k e s = true)
theorem runA_soundP (hC : C.Ok) {n : Nat} : ∀ (ac : AC) (st : St) (k : Ex → St → Bool), ac.OkP C → runA C n ac st k = true → AWp C none ac.code st (fun e s => k e s = true)
  | .leaf c, st, k, _, h => fun w B oC oL ω a Q ro S hI hQ => (run_sound hC n).1 none c st k w B oC oL ω a Q ro h S hI hQ
  | .seq a b, st, k, hok, h => AWp.seq ((runA_soundP hC a st _ hok.1 h).mono fun e s hk => by
      cases e with
      | normal => exact runA_soundP hC b s k hok.2 hk
      | exit id => exact hk
      | goto l => exact hk
      | ret => exact hk
      | panic v => exact hk)
  | .cond o a b, st, k, hok, h => by
    simp only [runA] at h
    split at h
    · rename_i t ht
      have hset : ∀ b, b = t → setO st.tmps o (.bool b) = st.tmps := fun b e => by
        subst e
        cases o with
        | tmp d => exact lset_same ht
        | _ => rfl
      refine AWp.cond ht (fun e => ?_) (fun e => ?_)
      · subst e
        rw [hset true rfl] at h
        exact runA_soundP hC a st k hok.1 h
      · subst e
        rw [hset false rfl] at h
        exact runA_soundP hC b st k hok.2 h
    · cases h
  | .block id a, st, k, hok, h => AWp.block ((runA_soundP hC a st _ hok h).mono fun e s hk => by
      cases e with
      | normal => exact hk
      | exit id' =>
        rcases of_cond2 hk with ⟨h1, h2⟩ | ⟨h1, h2⟩
        · exact ⟨fun _ => h2, fun hn => absurd (of_beq h1) hn⟩
        · exact ⟨fun he => (by rw [(beq_iff _ _).2 he] at h1; cases h1), fun _ => h2⟩
      | goto l => exact hk
      | ret => exact hk
      | panic v => exact hk)
  | .known c F, st, k, hok, h => hok st k h
/-- What is known of the loops is right. -/
def LoopsOkP (C : Cfg) : List Code → List LF → Prop
  | c :: cs, F :: Fs => (∀ st k, F st k = true → AWp C none c st (fun e s => k e s = true)) ∧ LoopsOkP C cs Fs
  | _, _ => True
theorem LoopsOkP.left : ∀ {a b : List Code} {l : List LF}, LoopsOkP C (a ++ b) l → LoopsOkP C a l
  | [], _, [], _ => trivial
  | [], _, _ :: _, _ => trivial
  | _ :: _, _, [], _ => trivial
  | _ :: _, _, _ :: _, h => ⟨h.1, LoopsOkP.left h.2⟩
theorem LoopsOkP.right : ∀ {a b : List Code} {l : List LF}, LoopsOkP C (a ++ b) l → LoopsOkP C b (l.drop a.length)
  | [], _, l, h => h
  | _ :: _, b, [], _ => by cases b <;> trivial
  | _ :: a, b, _ :: l, h => LoopsOkP.right (a := a) (b := b) (l := l) h.2
theorem mkA_okP : ∀ (c : Code) (l : List LF), LoopsOkP C (loopsOf c) l → (mkA c l).OkP C
  | .seq a b, l, h => by
    unfold mkA
    have h : LoopsOkP C (loopsOf a ++ loopsOf b) l := h
    split
    · rename_i ha
      split
      · exact trivial
      · rw [ha] at h; exact ⟨trivial, mkA_okP b l h⟩
    · rename_i x r ha
      have h2 := h.right
      rw [ha] at h2
      exact ⟨mkA_okP a l h.left, mkA_okP b _ h2⟩
  | .cond o a b, l, h => by
    unfold mkA
    have h : LoopsOkP C (loopsOf a ++ loopsOf b) l := h
    split
    · rename_i ha
      split
      · exact trivial
      · rw [ha] at h; exact ⟨trivial, mkA_okP b l h⟩
    · rename_i x r ha
      have h2 := h.right
      rw [ha] at h2
      exact ⟨mkA_okP a l h.left, mkA_okP b _ h2⟩
  | .block id a, l, h => mkA_okP a l h
  | .loop b, [], _ => trivial
  | .loop b, F :: _, h => h.1
  | .rangeFunc g ps asv b, [], _ => trivial
  | .rangeFunc g ps asv b, F :: _, h => h.1
  | .skip, _, _ => trivial
  | .label _, _, _ => trivial
  | .ret, _, _ => trivial
  | .exit _, _, _ => trivial
  | .goto _, _, _ => trivial
  | .scope _, _, _ => trivial
  | .region _ _ _, _, _ => trivial
  | .refuse _, _, _ => trivial
theorem AWp.runM (hC : C.Ok) {n : Nat} {c : Code} {l : List LF} (hl : LoopsOkP C (loopsOf c) l) (h : ∀ k : Ex → St → Bool, (∀ e s, K e s → k e s = true) → Bas.runM C n c l st k = true) : AWp C none c st K := by
  classical
  have := runA_soundP hC (mkA c l) st _ (mkA_okP c l hl) (h (fun e s => decide (K e s)) (fun e s hk => decide_eq_true hk))
  rw [mkA_code] at this
  exact this.mono fun e s hk => of_decide_eq_true hk

/-! ### States by their live temporaries -/
/-- A list's entry by its number. -/
def lookA : List (Nat × AV) → Nat → AV
  | [], _ => .any
  | p :: r, i => cond (Nat.beq p.1 i) p.2 (lookA r i)
def fillA (live : List (Nat × AV)) : Nat → Nat → List AV
  | 0, _ => []
  | n + 1, i => lookA live i :: fillA live n (i + 1)
/-- The temporaries of which only the named ones are known. -/
def fill (n : Nat) (live : List (Nat × AV)) : List AV := fillA live n 0
theorem fillA_length (live : List (Nat × AV)) : ∀ (n i : Nat), (fillA live n i).length = n
  | 0, _ => rfl
  | n + 1, i => by simp [fillA, fillA_length live n]
theorem fillA_get (live : List (Nat × AV)) : ∀ (n i j : Nat) (h : j < (fillA live n i).length), (fillA live n i)[j] = lookA live (i + j)
  | 0, i, j, h => absurd h (Nat.not_lt_zero _)
  | n + 1, i, 0, h => rfl
  | n + 1, i, j + 1, h => by
    have := fillA_get live n (i + 1) j (by simpa [fillA] using h)
    rw [show i + (j + 1) = i + 1 + j by omega, ← this]
    rfl
def AllL (tmps : List AV) : List (Nat × AV) → Prop
  | [] => True
  | p :: r => lget tmps p.1 = p.2 ∧ AllL tmps r
theorem AllL_nil {tmps : List AV} : AllL tmps [] := trivial
theorem AllL_cons {tmps : List AV} {i : Nat} {v : AV} {r : List (Nat × AV)} (h : lget tmps i = v) (hr : AllL tmps r) : AllL tmps ((i, v) :: r) := ⟨h, hr⟩
theorem lookA_or (tmps : List AV) : ∀ (live : List (Nat × AV)), AllL tmps live → ∀ i, lookA live i = .any ∨ lookA live i = lget tmps i
  | [], _, _ => .inl rfl
  | p :: r, h, i => by
    simp only [lookA]
    cases hb : Nat.beq p.1 i with
    | true => rw [← of_beq hb]; exact .inr h.1.symm
    | false => exact lookA_or tmps r h.2 i
theorem LessS.fill {st : St} {n : Nat} {live : List (Nat × AV)} {ds : List Nat} {m : Mem} (hn : st.tmps.length = n) (hl : AllL st.tmps live) (hd : st.ds = ds) (hm : st.m = m) : LessS C st ⟨Bas.fill n live, ds, m⟩ := by
  subst hd hm
  refine ⟨rfl, fun w B oC oL ω a S => ⟨⟨(fillA_length live n 0).trans (hn.symm.trans S.tm.1), fun i hi => ?_⟩, S.dn, S.ms⟩⟩
  have hi' : i < st.tmps.length := by
    have : i < (fillA live n 0).length := hi
    rw [fillA_length] at this
    omega
  have e : (Bas.fill n live)[i] = lookA live i := by
    show (fillA live n 0)[i] = _
    rw [fillA_get live n 0 i hi, Nat.zero_add]
  show Rep w (Or2 B oL) oC ω st.m.nx (Bas.fill n live)[i] _
  rw [e]
  rcases lookA_or st.tmps live hl i with h | h
  · rw [h]; exact .any _ _
  · rw [h, lget_eq, List.getD_eq_getElem?_getD, List.getElem?_eq_getElem hi']
    exact S.tm.2 i hi'
/-- Blocks, the newest first. -/
noncomputable def hins (p : Nat × HB) (h : Heap) : Heap := List.rec (motive := fun _ => Heap) [p] (fun q r ih => cond (Nat.ble q.1 p.1) (p :: q :: r) (q :: ih)) h
noncomputable def hsort (h : Heap) : Heap := List.rec (motive := fun _ => Heap) [] (fun p _ ih => hins p ih) h
theorem hget_hins (p : Nat × HB) (id : Nat) : ∀ h : Heap, hget (hins p h) id = cond (Nat.beq p.1 id) (some p.2) (hget h id)
  | [] => rfl
  | q :: r => by
    show hget (cond (Nat.ble q.1 p.1) (p :: q :: r) (q :: hins p r)) id = _
    cases hb : Nat.ble q.1 p.1 with
    | true => rfl
    | false =>
      show cond (Nat.beq q.1 id) (some q.2) (hget (hins p r) id) = cond (Nat.beq p.1 id) (some p.2) (cond (Nat.beq q.1 id) (some q.2) (hget r id))
      rw [hget_hins p id r]
      cases h1 : Nat.beq q.1 id with
      | false => rfl
      | true =>
        cases h2 : Nat.beq p.1 id with
        | false => rfl
        | true =>
          have e1 := of_beq h1
          have e2 := of_beq h2
          rw [e1, e2, Nat.ble_eq_true_of_le (Nat.le_refl _)] at hb
          cases hb
theorem hget_hsort : ∀ (h : Heap) (id : Nat), hget (hsort h) id = hget h id
  | [], _ => rfl
  | p :: r, id => by
    show hget (hins p (hsort r)) id = cond (Nat.beq p.1 id) (some p.2) (hget r id)
    rw [hget_hins, hget_hsort r id]
noncomputable def msort (m : Mem) : Mem := ⟨hsort m.heap, m.nx, m.lp⟩
theorem LessS.sort (st : St) : LessS C st ⟨st.tmps, st.ds, msort st.m⟩ := ⟨rfl, fun w B oC oL ω a S => ⟨S.tm, S.dn, ⟨⟨fun id hb h => S.ms.hp.rel id hb ((hget_hsort _ _).symm.trans h), fun i j b h1 h2 => S.ms.hp.inj i j b (by rwa [← hget_hsort]) (by rwa [← hget_hsort]), S.ms.hp.ob⟩, S.ms.lp, S.ms.gl, S.ms.gb, S.ms.bl⟩⟩⟩
theorem LessS.trans {st st1 st2 : St} (h : LessS C st st1) (h' : LessS C st1 st2) : LessS C st st2 := ⟨h'.1.trans h.1, fun w B oC oL ω a S => h'.2 _ _ _ _ _ _ (h.2 _ _ _ _ _ _ S)⟩
theorem Less.fill {st : St} {n : Nat} {live : List (Nat × AV)} {ds : List Nat} {m : Mem} (hn : st.tmps.length = n) (hl : AllL st.tmps live) (hd : st.ds = ds) (hm : st.m = m) : Less C st ⟨Bas.fill n live, ds, m⟩ := (LessS.fill hn hl hd hm).less
/-- A call that is walked where it stands. -/
theorem callR_in {go : RunF Bool} {z : Bool} {f : FuncId} {fn : Func} {c : Code} {args : List AV} {m : Mem} {kk kp : AV → Mem → Bool} (hfn : C.P.funcs[f]? = some fn) (hb : fn.body = some c) (hX : C.X f = none) (hS : C.S f = none) (hQ : C.Q f = false) :
    callR C go z (.fn f) args m kk kp = go none none c ⟨padL args fn.ntmps, [], m⟩ (fun e st' => match e with
        | .ret => closeK st'.ds st'.m.lp (fun lp => resK C fn st' (fun v => kk v ⟨st'.m.heap, st'.m.nx, lp⟩) z) z
        | .normal => closeK st'.ds st'.m.lp (fun lp => resK C fn st' (fun v => kk v ⟨st'.m.heap, st'.m.nx, lp⟩) z) z
        | .panic v => closeK st'.ds st'.m.lp (fun lp => kp v ⟨st'.m.heap, st'.m.nx, lp⟩) z
        | _ => z) z := by
  simp only [callR, hX, floatK, hfn, hb, hS, hQ, cond_false]
  congr 1
/-- A loop over a function at a function's own level: its iterator's code, from the loop's begin on. -/
theorem AWq.rangeF (hC : C.Ok) {g : Operand} {f : FuncId} {fn : Func} {c : Code} {first cap : List AV} {params : Array Tmp} {assign body : Code} {k : Ex → St → Bool} (hg : evO C st.tmps g = .fn (.func f) first cap)
    (hfn : C.P.funcs[f]? = some fn) (hb : fn.body = some c) (hX : C.X f = none) (hS : C.S f = none) (hQ : C.Q f = false) (hr : fn.results.toList = [])
    (h : AWp C none c ⟨padL (first ++ [.yld (st.m.nx + 1)] ++ cap) fn.ntmps, [], ⟨st.m.heap, st.m.nx + 2, (st.m.nx + 1, .lop 0 none st.tmps params.toList assign body st.m.nx) :: (st.m.nx, .dfb) :: st.m.lp⟩⟩
      (fun e s => (e = .ret ∨ e = .normal) ∧ s.ds = [] ∧ afterK C st k (st.m.nx + 1) (st.m.nx :: st.ds) (msort s.m) = true)) : AWq C (.rangeFunc g params assign body) st (fun e s => k e s = true) := by
  refine AWp.q (AWp.range (k := k) hC hg ?_ (fun e s h => h))
  simp only [loopM]
  rw [callR_in hfn hb hX hS hQ]
  refine goA_true (h.post fun e s hs => ⟨_, LessS.sort s, ?_⟩)
  obtain ⟨he, hd, hk⟩ := hs
  rcases he with rfl | rfl
  · simp only [hd, closeK, resK, hr, resKs]
    exact hk
  · simp only [hd, closeK, resK, hr, resKs]
    exact hk
theorem fn_is {P : Program} {f : FuncId} {n r : Nat} (h : ((P.funcs[f]?).map fun fn => (fn.body.isSome, fn.ntmps, fn.results.toList.length)) = some (true, n, r)) :
    ∃ fn, P.funcs[f]? = some fn ∧ fn.body = some (fcode P f) ∧ fn.ntmps = n ∧ fn.results.toList.length = r := by
  cases hq : P.funcs[f]? with
  | none => rw [hq] at h; cases h
  | some fn =>
    rw [hq] at h
    simp only [Option.map_some, Option.some.injEq, Prod.mk.injEq] at h
    obtain ⟨c, hb⟩ := Option.isSome_iff_exists.1 h.1
    exact ⟨fn, rfl, by simp [fcode, hq, hb], h.2.1, h.2.2⟩
/-- The temporaries but for those that are not named. -/
noncomputable def keepA (ls : List Nat) (l : List AV) : Nat → List AV := List.rec (motive := fun _ => Nat → List AV) (fun _ => []) (fun a _ ih i => (cond (memN ls i) a .any) :: ih (i + 1)) l
theorem keepA_length (ls : List Nat) : ∀ (l : List AV) (i : Nat), (keepA ls l i).length = l.length
  | [], _ => rfl
  | a :: r, i => congrArg (· + 1) (keepA_length ls r (i + 1))
theorem keepA_get (ls : List Nat) : ∀ (l : List AV) (i j : Nat) (h : j < (keepA ls l i).length) (h' : j < l.length), (keepA ls l i)[j] = .any ∨ (keepA ls l i)[j] = l[j]
  | [], i, j, h, h' => absurd h' (Nat.not_lt_zero _)
  | a :: r, i, 0, h, h' => by
    show cond (memN ls i) a .any = .any ∨ cond (memN ls i) a .any = a
    cases memN ls i
    · exact .inl rfl
    · exact .inr rfl
  | a :: r, i, j + 1, h, h' => keepA_get ls r (i + 1) j (by rw [keepA_length] at *; simpa using h') (by simpa using h')
/-- A state, of its temporaries the named ones alone; its blocks in order. -/
noncomputable def keepS (ls : List Nat) (st : St) : St := ⟨keepA ls st.tmps 0, st.ds, msort st.m⟩
theorem LessS.keep (ls : List Nat) (st : St) : LessS C st (keepS ls st) :=
  (LessS.sort st).trans ⟨rfl, fun w B oC oL ω a S => ⟨⟨(keepA_length ls st.tmps 0).trans S.tm.1, fun i hi => by
    have hi' : i < st.tmps.length := by
      have : i < (keepA ls st.tmps 0).length := hi
      rwa [keepA_length] at this
    show Rep _ _ _ _ _ (keepA ls st.tmps 0)[i] _
    rcases keepA_get ls st.tmps 0 i hi hi' with e | e
    · rw [e]; exact .any _ _
    · rw [e]; exact S.tm.2 i hi'⟩, S.dn, S.ms⟩⟩
/-- A piece that the run goes through; of its end the named temporaries are looked at. -/
theorem AWp.runK (hC : C.Ok) (ls : List Nat) {inr : Option Nat} {n : Nat} {code : Code} (h : ∀ k : Ex → St → Bool, (∀ e s, K e s → k e s = true) → Bas.run C n inr none code st (fun e s => k e (keepS ls s)) false = true) : AWp C inr code st K := by
  classical
  have h1 := h (fun e s => decide (K e s)) (fun e s h => decide_eq_true h)
  have h0 : AWp C inr code st (fun e s => decide (K e (keepS ls s)) = true) := fun w B oC oL ω a Q ro S hI hQ => (run_sound hC n).1 inr code st _ w B oC oL ω a Q ro h1 S hI hQ
  exact h0.post fun e s hk => ⟨_, LessS.keep ls s, of_decide_eq_true hk⟩
theorem AWq.runK (hC : C.Ok) (ls : List Nat) {n : Nat} {code : Code} (h : ∀ k : Ex → St → Bool, (∀ e s, K e s → k e s = true) → Bas.run C n none none code st (fun e s => k e (keepS ls s)) false = true) : AWq C code st K := (AWp.runK hC ls h).q
end
end Go.Bas
end
section
namespace Go.Bas
open Go.RowKit
set_option linter.unusedSimpArgs false
set_option linter.unusedVariables false

/-- Its own blocks have numbers below one ('d': how deep it is looked into). -/
def AV.under (n : Nat) : Nat → AV → Bool
  | 0, _ => false
  | _ + 1, .ptr id _ => Nat.blt id n
  | _ + 1, .sl id _ _ _ _ => Nat.blt id n
  | _ + 1, .yld id => Nat.blt id n
  | d + 1, .fn _ a b => a.all (AV.under n d) && b.all (AV.under n d)
  | d + 1, .iface _ v => AV.under n d v
  | d + 1, .agg cs => cs.all (AV.under n d)
  | d + 1, .tup cs => cs.all (AV.under n d)
  | _ + 1, _ => true
theorem blt_lt {a b : Nat} (h : Nat.blt a b = true) : a < b := Nat.le_of_ble_eq_true h
theorem Rep.lower {w : World} {B : Nat → Prop} {own : Nat → Prop} {ω : Nat → Option Nat} {nx : Nat} {v : AV} {u : Value}
    (h : Rep w B own ω nx v u) : ∀ {d n : Nat}, v.under n d = true → Rep w B own ω n v u := by
  induction h with
  | any => intro _ _ _; exact .any _ _
  | bool => intro _ _ _; exact .bool _ _
  | int => intro _ _ _; exact .int _ _ _
  | str => intro _ _ _; exact .str _ _
  | nilp => intro _ _ _; exact .nilp _
  | ptr nx id off b hi hw =>
    intro d n hd
    cases d with
    | zero => cases hd
    | succ d => exact .ptr _ _ _ _ (blt_lt hd) hw
  | iptr nx cells off b o vs hb hc hr _ => intro _ _ _; exact .iptr _ _ _ b o vs hb hc hr
  | nils => intro _ _ _; exact .nils _
  | lst nx cells n cap b o vs hb hn hc hr _ => intro _ _ _; exact .lst _ _ _ _ b o vs hb hn hc hr
  | lstn => intro _ _ _; exact .lstn _ _ _
  | es nx a => intro _ _ _; exact .es _ _
  | ns nx p c => intro _ _ _; exact .ns _ _ _
  | sl nx id off n sz cap b hi hw hn =>
    intro d m hd
    cases d with
    | zero => cases hd
    | succ d => exact .sl _ _ _ _ _ _ _ (blt_lt hd) hw hn
  | sla nx id n sz cap b hi hw hn hcm hrow =>
    intro d m hd
    cases d with
    | zero => cases hd
    | succ d => exact .sla _ _ _ _ _ _ (blt_lt hd) hw hn hcm hrow
  | yld nx id l hi hw =>
    intro d m hd
    cases d with
    | zero => cases hd
    | succ d => exact .yld _ _ _ (blt_lt hd) hw
  | fn nx f first cap fs cs h1 h2 _ _ ih1 ih2 =>
    intro d m hd
    cases d with
    | zero => cases hd
    | succ d =>
      simp only [AV.under, Bool.and_eq_true, List.all_eq_true] at hd
      exact .fn _ _ _ _ _ _ h1 h2 (fun i hi => ih1 i hi (hd.1 _ (List.getElem_mem hi))) (fun i hi => ih2 i hi (hd.2 _ (List.getElem_mem hi)))
  | nilfn => intro _ _ _; exact .nilfn _
  | iface nx t v u _ ih =>
    intro d m hd
    cases d with
    | zero => cases hd
    | succ d => exact .iface _ _ _ _ (ih hd)
  | niliface => intro _ _ _; exact .niliface _
  | agg nx cs vs h1 _ ih =>
    intro d m hd
    cases d with
    | zero => cases hd
    | succ d =>
      simp only [AV.under, List.all_eq_true] at hd
      exact .agg _ _ _ h1 (fun i hi => ih i hi (hd _ (List.getElem_mem hi)))
  | tup nx cs vs h1 _ ih =>
    intro d m hd
    cases d with
    | zero => cases hd
    | succ d =>
      simp only [AV.under, List.all_eq_true] at hd
      exact .tup _ _ _ h1 (fun i hi => ih i hi (hd _ (List.getElem_mem hi)))

/-- The blocks with numbers below one. -/
noncomputable def hlow (n : Nat) (h : Heap) : Heap := List.rec (motive := fun _ => Heap) [] (fun p _ ih => cond (Nat.blt p.1 n) (p :: ih) ih) h
theorem hget_hlow (n id : Nat) (hb : HB) : ∀ h : Heap, hget (hlow n h) id = some hb → id < n ∧ hget h id = some hb
  | [], h => by cases h
  | p :: r, h => by
    have e : hlow n (p :: r) = cond (Nat.blt p.1 n) (p :: hlow n r) (hlow n r) := rfl
    rw [e] at h
    rw [hget_cons p.1 p.2 r]
    cases h1 : Nat.blt p.1 n with
    | true =>
      rw [h1] at h
      have h : cond (Nat.beq p.1 id) (some p.2) (hget (hlow n r) id) = some hb := h
      cases h2 : Nat.beq p.1 id with
      | true =>
        rw [h2] at h
        exact ⟨of_beq h2 ▸ blt_lt h1, h⟩
      | false =>
        rw [h2] at h
        exact hget_hlow n id hb r h
    | false =>
      rw [h1] at h
      obtain ⟨a, b⟩ := hget_hlow n id hb r h
      cases h2 : Nat.beq p.1 id with
      | true =>
        have := of_beq h2
        subst this
        have : Nat.blt p.1 n = true := Nat.ble_eq_true_of_le a
        rw [h1] at this; cases this
      | false => exact ⟨a, b⟩
/-- Nothing leads into the blocks that are let go. -/
noncomputable def lowOk (n : Nat) (st : St) : Bool := st.tmps.all (AV.under n 8) && ((hlow n st.m.heap).all (fun p => p.2.pure || p.2.cells.all (AV.under n 8)))
theorem hget_mem {h : Heap} {id : Nat} {hb : HB} : hget h id = some hb → ∃ p ∈ h, p.2 = hb := by
  induction h with
  | nil => intro h; cases h
  | cons p r ih =>
    intro h
    rw [hget_cons p.1 p.2 r] at h
    cases hc : Nat.beq p.1 id with
    | true => rw [hc] at h; exact ⟨p, List.mem_cons_self .., Option.some.inj h⟩
    | false => rw [hc] at h; obtain ⟨q, hq, e⟩ := ih h; exact ⟨q, List.mem_cons_of_mem _ hq, e⟩
/-- Blocks are let go, and their numbers are free again. -/
theorem Less.drop {C : Cfg} {st : St} (n : Nat) (hn : n ≤ st.m.nx) (hds : st.ds = []) (hlp : st.m.lp = []) (hok : lowOk n st = true) : Less C st ⟨st.tmps, [], ⟨hlow n st.m.heap, n, []⟩⟩ := fun w B oC oL ω a S => by
  simp only [lowOk, Bool.and_eq_true, List.all_eq_true] at hok
  refine ⟨ω, ⟨S.tm.1, fun i hi => (S.tm.2 i hi).lower (hok.1 _ (List.getElem_mem hi))⟩, ?_, ⟨⟨fun id hb h => ?_, fun i j b h1 h2 => ?_, S.ms.hp.ob⟩, ⟨fun id e h => (by cases h), fun i j l h => (by cases h), S.ms.lp.dis⟩, S.ms.gl, S.ms.gb, S.ms.bl⟩⟩
  · have := S.dn
    rw [hds] at this
    show Marks ω n [] a.defers
    cases hq : a.defers with
    | nil => exact trivial
    | cons x xs => rw [hq] at this; exact this.elim
  · obtain ⟨h1, h2⟩ := hget_hlow n id hb _ h
    obtain ⟨q1, b, arr, q2, q3, q4, q5, q6⟩ := S.ms.hp.rel id hb h2
    refine ⟨h1, b, arr, q2, q3, q4, q5, fun i hi => ?_⟩
    have := q6 i hi
    cases hp : hb.pure with
    | true => rw [hp] at this; exact this
    | false =>
      rw [hp] at this
      obtain ⟨p, hp1, hp2⟩ := hget_mem h
      have h3 := hok.2 p hp1
      rw [hp2, hp, Bool.false_or, List.all_eq_true] at h3
      exact this.lower (h3 _ (List.getElem_mem hi))
  · obtain ⟨x1, e1⟩ := Option.isSome_iff_exists.1 h1
    obtain ⟨x2, e2⟩ := Option.isSome_iff_exists.1 h2
    obtain ⟨_, e1⟩ := hget_hlow n i x1 _ e1
    obtain ⟨_, e2⟩ := hget_hlow n j x2 _ e2
    exact S.ms.hp.inj i j b (by rw [e1]; rfl) (by rw [e2]; rfl)
section
variable {C : Cfg} {K K' : Ex → St → Prop} {st : St}
theorem AWq.runMK (hC : C.Ok) (ls : List Nat) {n : Nat} {c : Code} {l : List LF} (hl : LoopsOk C (loopsOf c) l) (h : ∀ k : Ex → St → Bool, (∀ e s, K e s → k e s = true) → Bas.runM C n c l st (fun e s => k e (keepS ls s)) = true) : AWq C c st K := by
  classical
  have h1 := h (fun e s => decide (K e s)) (fun e s h => decide_eq_true h)
  have := runA_sound hC (mkA c l) st _ (mkA_ok c l hl) h1
  rw [mkA_code] at this
  intro w B oC oL ω a Q S hQ
  refine this w B oC oL ω a Q S (fun e st' a' w' oC' oL' ω' out S' E hK ho => ?_)
  have hl := LessS.keep (C := C) ls st'
  refine hQ e (keepS ls st') a' w' oC' oL' ω' out (hl.2 _ _ _ _ _ _ S') (hl.1 ▸ E) (of_decide_eq_true hK) ?_
  cases e with
  | panic v => obtain ⟨u, h1, h2⟩ := ho; exact ⟨u, h1, hl.1 ▸ h2⟩
  | _ => exact ho
end
end Go.Bas
end
section
namespace Go.Bas
open Go.RowKit
set_option linter.unusedSimpArgs false
set_option linter.unusedVariables false
section
variable {C : Cfg}
/-- A region with a fixed order, its calls asv they are proved to go. -/
theorem AWp.region (hC : C.Ok) {inr : Option Nat} {id : Nat} {ops : Array Oper} {st : St} {k : Ex → St → Bool}
    (h : opsK C (callR C (goA C) false) ops ops.toList st (fun st' => k .normal st') (fun v st' => k (.panic v) st') false = true) :
    AWp C inr (.region id ops false) st (fun e s => k e s = true) := fun w B oC oL ω a Q ro S hI hQ => by
  refine wpIn_region ?_
  have := ops_sound (ro := ro) (Q := Q) (ops := ops) (call_sound hC goA_ok) ops.toList 0 rfl st a w oC oL ω h S (fun st' a' w' oC' oL' ω' S' E hk' => hQ .normal _ _ _ _ _ _ _ S' E hk' rfl)
    (fun v u st' a' w' oC' oL' ω' S' E hk' hr => hQ (.panic v) _ _ _ _ _ _ _ S' E hk' ⟨u, rfl, hr⟩)
  rw [List.range_eq_range']
  simpa using this

/-- What a function does where it stands, out of its body. -/
theorem inp_of_awp (hC : C.Ok) {f : FuncId} {fn : Func} {c : Code} (hfn : C.P.funcs[f]? = some fn) (hb : fn.body = some c) (hX : C.X f = none) (hS : C.S f = none) (hQ : C.Q f = false) {F : List AV → Mem → TrM}
    (h : ∀ args m (kk : AV → Mem → Bool), (F args m).ev kk false = true → AWp C none c ⟨padL args fn.ntmps, [], m⟩ (fun e st' => (e = .ret ∨ e = .normal) ∧ closeK st'.ds st'.m.lp (fun lp => resK C fn st' (fun v => kk v ⟨st'.m.heap, st'.m.nx, lp⟩) false) false = true)) : InpOk C f F := fun args m kk w B oC oL ω us hk M hr => by
  refine call_sound hC goA_ok (.fn f) args m kk (fun _ _ => false) w B oC oL ω us ?_ M hr
  rw [callR_in hfn hb hX hS hQ]
  refine goA_true ((h args m kk hk).mono fun e s he => ?_)
  rcases he with ⟨rfl | rfl, he⟩
  · exact he
  · exact he
/-- The same over numbers kept: what is above a number is let go. -/
def LessD (C : Cfg) (n : Nat) (st st' : St) : Prop := n ≤ st'.m.nx ∧ st'.m.nx ≤ st.m.nx ∧ ∀ (w : World) (B oC oL : Nat → Prop) (ω : Nat → Option Nat) (a : Act), Sim C w B oC oL ω st a → Sim C w B oC oL ω st' a
theorem LessS.d {st st' : St} (h : LessS C st st') : LessD C st.m.nx st st' := ⟨by rw [h.1]; exact Nat.le_refl _, by rw [h.1]; exact Nat.le_refl _, h.2⟩
theorem LessD.trans {n : Nat} {st st1 st2 : St} (h : LessD C n st st1) (h' : LessD C n st1 st2) : LessD C n st st2 := ⟨h'.1, Nat.le_trans h'.2.1 h.2.1, fun w B oC oL ω a S => h'.2.2 _ _ _ _ _ _ (h.2.2 _ _ _ _ _ _ S)⟩
theorem ExtR.lowN {w w' : World} {oC oL oC' oL' : Nat → Prop} {ω ω' : Nat → Option Nat} {nx nx' n' : Nat} (E : ExtR w oC oL ω nx w' oC' oL' ω' nx') (h : nx ≤ n') : ExtR w oC oL ω nx w' oC' oL' ω' n' :=
  ⟨E.os, E.tape, E.output, E.size, E.old, E.owns, h, E.om, E.row⟩
/-- No loop, and no mark, leads into the blocks that are let go. -/
noncomputable def lowLp (n : Nat) (st : St) : Bool := (st.m.lp.all fun p => Nat.blt p.1 n && (match p.2 with
  | .dfb => true
  | .lop _ _ tmps _ _ _ d => tmps.all (AV.under n 8) && Nat.blt d n)) && st.ds.all (fun d => Nat.blt d n)
theorem lpget_mem {lp : Loops} {id : Nat} {e : LB} : lpget lp id = some e → ∃ p ∈ lp, p.1 = id ∧ p.2 = e := by
  induction lp with
  | nil => intro h; cases h
  | cons p r ih =>
    intro h
    simp only [lpget] at h
    cases hc : Nat.beq p.1 id with
    | true => rw [hc] at h; exact ⟨p, List.mem_cons_self .., of_beq hc, Option.some.inj h⟩
    | false => rw [hc] at h; obtain ⟨q, hq, e⟩ := ih h; exact ⟨q, List.mem_cons_of_mem _ hq, e⟩
theorem Marks.low {ω : Nat → Option Nat} {nx n : Nat} : ∀ {ds : List Nat} {xs : List Deferred}, Marks ω nx ds xs → (∀ d ∈ ds, Nat.blt d n = true) → Marks ω n ds xs
  | [], [], _, _ => trivial
  | d :: ds, x :: xs, h, hd => ⟨⟨blt_lt (hd d (List.mem_cons_self ..)), h.1.2⟩, Marks.low h.2 (fun e he => hd e (List.mem_cons_of_mem _ he))⟩
  | [], _ :: _, h, _ => h.elim
  | _ :: _, [], h, _ => h.elim
/-- Blocks are let go, and their numbers are free again, in a loop's round too. -/
theorem LessD.drop {st : St} (n base : Nat) (hb : base ≤ n) (hn : n ≤ st.m.nx) (hok : lowOk n st = true) (hlp : lowLp n st = true) : LessD C base st ⟨st.tmps, st.ds, ⟨hlow n st.m.heap, n, st.m.lp⟩⟩ := ⟨hb, hn, fun w B oC oL ω a S => by
  simp only [lowOk, Bool.and_eq_true, List.all_eq_true] at hok
  simp only [lowLp, Bool.and_eq_true, List.all_eq_true] at hlp
  refine ⟨⟨S.tm.1, fun i hi => (S.tm.2 i hi).lower (hok.1 _ (List.getElem_mem hi))⟩, S.dn.low hlp.2, ⟨⟨fun id hb h => ?_, fun i j b h1 h2 => ?_, S.ms.hp.ob⟩, ⟨fun id e h => ?_, S.ms.lp.inj, S.ms.lp.dis⟩, S.ms.gl, S.ms.gb, S.ms.bl⟩⟩
  · obtain ⟨h1, h2⟩ := hget_hlow n id hb _ h
    obtain ⟨q1, b, arr, q2, q3, q4, q5, q6⟩ := S.ms.hp.rel id hb h2
    refine ⟨h1, b, arr, q2, q3, q4, q5, fun i hi => ?_⟩
    have := q6 i hi
    cases hp : hb.pure with
    | true => rw [hp] at this; exact this
    | false =>
      rw [hp] at this
      obtain ⟨p, hp1, hp2⟩ := hget_mem h
      have h3 := hok.2 p hp1
      rw [hp2, hp, Bool.false_or, List.all_eq_true] at h3
      exact this.lower (h3 _ (List.getElem_mem hi))
  · obtain ⟨x1, e1⟩ := Option.isSome_iff_exists.1 h1
    obtain ⟨x2, e2⟩ := Option.isSome_iff_exists.1 h2
    obtain ⟨_, e1⟩ := hget_hlow n i x1 _ e1
    obtain ⟨_, e2⟩ := hget_hlow n j x2 _ e2
    exact S.ms.hp.inj i j b (by rw [e1]; rfl) (by rw [e2]; rfl)
  · obtain ⟨p, hp1, rfl, rfl⟩ := lpget_mem h
    obtain ⟨g1, l, g2, g3, g4⟩ := S.ms.lp.rel p.1 p.2 h
    obtain ⟨k1, k2⟩ := hlp.1 p hp1
    refine ⟨blt_lt k1, l, g2, g3, ?_⟩
    cases hq : p.2 with
    | dfb => rw [hq] at g4; exact g4
    | lop s pend tmps params asg body d =>
      rw [hq] at g4 k2
      simp only [Bool.and_eq_true, List.all_eq_true] at k2
      obtain ⟨r, r1, r2, r3, r4, r5, r6, r7, r8, r9, r10⟩ := g4
      exact ⟨r, r1, r2, r3, r4, ⟨r5.1, fun i hi => (r5.2 i hi).lower (k2.1 _ (List.getElem_mem hi))⟩, r6, r7, r8, blt_lt k2.2, r10⟩⟩
/-- A loop, by a family of states over the same numbers and a measure. -/
theorem AWp.loopD {K : Ex → St → Prop} {ι : Type} {inr : Option Nat} {body : Code} (I : ι → St) (n0 : Nat) (hn0 : ∀ i, (I i).m.nx = n0) (μ : ι → Nat) (h : ∀ i, AWp C inr body (I i) (fun e s => match e with | .normal => ∃ j, μ j < μ i ∧ LessD C n0 s (I j) | .panic _ => False | e => ∃ s', LessD C n0 s s' ∧ K e s')) (i : ι) : AWp C inr (.loop body) (I i) K := fun w B oC oL ω a Q ro S hI hQ => by
  have key : ∀ (m : Nat) (i : ι) (a : Act) (w : World) (oC oL : Nat → Prop) (ω : Nat → Option Nat), μ i < m → Sim C w B oC oL ω (I i) a → InR ω (I i).m.nx inr ro →
      (∀ e st' a' w' oC' oL' ω' out, Sim C w' B oC' oL' ω' st' a' → ExtR w oC oL ω (I i).m.nx w' oC' oL' ω' st'.m.nx → K e st' → OutIs w' B oC' oL' ω' st'.m.nx e out → Q out a' w') → Code.roundsIn (Fr ro) 0 C.P body Q m a w := by
    intro m
    induction m with
    | zero => intro i a w oC oL ω h; exact absurd h (Nat.not_lt_zero _)
    | succ m ih =>
      intro i a w oC oL ω hm S hI hQ
      rw [roundsIn_succ]
      refine h i w B oC oL ω a _ ro S hI (fun e st' a' w' oC' oL' ω' out S' E hk ho => ?_)
      cases e with
      | normal =>
        obtain ⟨j, hj, hl⟩ := hk
        subst ho
        have E1 : ExtR w oC oL ω (I i).m.nx w' oC' oL' ω' (I j).m.nx := E.lowN (by rw [hn0, hn0]; exact Nat.le_refl _)
        exact ih j a' w' oC' oL' ω' (by omega) (hl.2.2 _ _ _ _ _ _ S') (hI.ext E1) (fun e2 st2 a2 w2 oC2 oL2 ω2 out2 S2 E2 hk2 ho2 => hQ e2 st2 a2 w2 oC2 oL2 ω2 out2 S2 (E1.trans E2) hk2 ho2)
      | exit id =>
        obtain ⟨s', hl, hk⟩ := hk
        subst ho
        exact hQ (.exit id) s' a' w' oC' oL' ω' _ (hl.2.2 _ _ _ _ _ _ S') (E.lowN (by rw [hn0]; exact hl.1)) hk rfl
      | goto l =>
        obtain ⟨s', hl, hk⟩ := hk
        subst ho
        exact hQ (.goto l) s' a' w' oC' oL' ω' _ (hl.2.2 _ _ _ _ _ _ S') (E.lowN (by rw [hn0]; exact hl.1)) hk rfl
      | ret =>
        obtain ⟨s', hl, hk⟩ := hk
        subst ho
        exact hQ .ret s' a' w' oC' oL' ω' _ (hl.2.2 _ _ _ _ _ _ S') (E.lowN (by rw [hn0]; exact hl.1)) hk rfl
      | panic v => exact hk.elim
  exact wpIn_loop_rounds (μ i + 1) (key (μ i + 1) i a w oC oL ω (Nat.lt_succ_self _) S hI hQ)
end
end Go.Bas
end
section
namespace Go.Bas
open Go.RowKit
set_option linter.unusedVariables false

/-- The elements of a tuple or a struct, and one of them. -/
def AV.elems : AV → List AV
  | .tup l => l
  | .agg l => l
  | _ => []
def AV.nth : Nat → List AV → AV
  | 0, l => l.headD .any
  | j + 1, l => AV.nth j l.tail
def AV.ix (v : AV) (j : Nat) : AV := AV.nth j v.elems
/-- A shape: who has it, and how a value that has it is put together of its parts. -/
structure Sp where
  has : AV → Bool
  bd : AV → AV
  ok : ∀ v, has v = true → v = bd v
def sI (k : IntKind) : Sp := ⟨fun v => match v with
  | .int k' _ => kindEq k' k
  | _ => false, fun v => .int k v.toI, fun v h => by
    cases v <;> try (cases h)
    rename_i k' n
    cases kindEq_eq (show kindEq k' k = true from h)
    rfl⟩
def sB : Sp := ⟨fun v => match v with
  | .bool _ => true
  | _ => false, fun v => .bool v.toB, fun v h => by
    cases v <;> try (cases h)
    rfl⟩
def hasL : List Sp → List AV → Bool
  | [], [] => true
  | s :: r, v :: vs => s.has v && hasL r vs
  | _, _ => false
def bdL : List Sp → List AV → List AV
  | [], _ => []
  | s :: r, vs => s.bd (vs.headD .any) :: bdL r vs.tail
theorem hasL_ok : ∀ {l : List Sp} {vs : List AV}, hasL l vs = true → vs = bdL l vs
  | [], [], _ => rfl
  | [], _ :: _, h => by cases h
  | _ :: _, [], h => by cases h
  | s :: r, v :: vs, h => by
    have h : (s.has v && hasL r vs) = true := h
    simp only [Bool.and_eq_true] at h
    show v :: vs = s.bd v :: bdL r vs
    rw [← s.ok v h.1, ← hasL_ok h.2]
def sT (l : List Sp) : Sp := ⟨fun v => match v with
  | .tup vs => hasL l vs
  | _ => false, fun v => .tup (bdL l v.elems), fun v h => by
    cases v <;> try (cases h)
    rename_i vs
    exact congrArg AV.tup (hasL_ok (show hasL l vs = true from h))⟩
def sG (l : List Sp) : Sp := ⟨fun v => match v with
  | .agg vs => hasL l vs
  | _ => false, fun v => .agg (bdL l v.elems), fun v h => by
    cases v <;> try (cases h)
    rename_i vs
    exact congrArg AV.agg (hasL_ok (show hasL l vs = true from h))⟩

theorem runF_nat {Ω Ω' : Type} (g : Ω → Ω') (C : Cfg) (n : Nat) (f : FuncId) (args : List AV) (k : AV → Ω) (z : Ω) :
    g (runF C n f args k z) = runF C n f args (fun v => g (k v)) (g z) := by
  unfold runF
  split
  · split
    · exact standK_nat (f := g) (run_nat C n) C z _ _ args k
    · rfl
  · rfl
/-- What a run comes to. -/
noncomputable def outV (C : Cfg) (n : Nat) (f : FuncId) (args : List AV) : AV := runF C n f args (fun v => v) .any
theorem run_out {C : Cfg} {n : Nat} {f : FuncId} {args : List AV} {P : AV → Bool} (h : runF C n f args P false = true) :
    P (outV C n f args) = true ∧ ∀ k : AV → Bool, runF C n f args k false = k (outV C n f args) := by
  have key : ∀ {Ω : Type} (k : AV → Ω) (z : Ω), runF C n f args k z = (match runF C n f args some none with
    | some v => k v
    | none => z) := fun k z => (runF_nat (fun o : Option AV => match o with
    | some v => k v
    | none => z) C n f args some none).symm
  have h1 := key P false
  have h2 := key (fun v => v) AV.any
  cases ho : runF C n f args some none with
  | none => rw [ho] at h1; rw [h] at h1; cases h1
  | some v =>
    rw [ho] at h1 h2
    have e : outV C n f args = v := h2
    refine ⟨by rw [e, ← h]; exact h1.symm, fun k => ?_⟩
    have h3 := key k false
    rw [ho] at h3
    rw [e]
    exact h3
theorem acalls_out {P : Program} {G : Nat → Option (List AV)} (h : Base P) {l : List Sum} (hl : ∀ s ∈ l, SumOk P G s) {f : FuncId} {args : List AV} {n : Nat} (s : Sp)
    (hr : runF ⟨P, G, lookS l, fun _ => false, fun _ => none⟩ n f args s.has false = true) : ACalls P G f args (fun v => v = s.bd (outV ⟨P, G, lookS l, fun _ => false, fun _ => none⟩ n f args)) :=
  acalls_eq h hl (n := n) fun k hk => ((run_out hr).2 k).trans (by rw [s.ok _ (run_out hr).1]; exact hk)
theorem ctt {b x y : Bool} (hx : x = true) (hy : y = true) : (bif b then x else y) = true := by
  cases b
  · exact hy
  · exact hx
theorem ctf {b x y : Bool} (hb : b = false) (hy : y = true) : (bif b then x else y) = true := by
  cases hb
  exact hy
theorem cand {b x : Bool} (hb : b = true) (hx : x = true) : (b && x) = true := by
  cases hb
  exact hx
/-- A condition asv a tree prints it. It is 'cond', but its head is not cond's: the kernel then never takes a run's own 'cond' for it, and opens nothing twice. -/
noncomputable def br (b x y : Bool) : Bool := Bool.rec y x b
theorem btt {b x y : Bool} (hx : x = true) (hy : y = true) : br b x y = true := by
  cases b
  · exact hy
  · exact hx
theorem btb {b x y : Bool} (hb : b = true) (hx : x = true) : br b x y = true := by
  cases hb
  exact hx
theorem bdt {b x y : Bool} (hx : b = true → x = true) (hy : b = false → y = true) : br b x y = true := by
  cases b
  · exact hy rfl
  · exact hx rfl
theorem btf {b x y : Bool} (hb : b = false) (hy : y = true) : br b x y = true := by
  cases hb
  exact hy
noncomputable def ba (b x : Bool) : Bool := Bool.rec false x b
theorem band {b x : Bool} (hb : b = true) (hx : x = true) : ba b x = true := by
  cases hb
  exact hx
end Go.Bas
end
section
namespace Go.Bas
open Go.RowKit
theorem andT {b : Bool} (hb : b = true) : (b && true) = true := by
  cases hb
  rfl
theorem cT {α : Type} {b : Bool} {x y z : α} (h : b = true) (k : x = z) : cond b x y = z := by
  cases h
  exact k
theorem cF {α : Type} {b : Bool} {x y z : α} (h : b = false) (k : y = z) : cond b x y = z := by
  cases h
  exact k
end Go.Bas
end
section
namespace Go.Bas
set_option linter.unusedVariables false
structure TRa where
  (f : Frm) (c : Conf) (us : List AV) (m : Nat) (rk rv : Int) (told : Bool)
def TRa.av (r : TRa) : AV := .iptr (r.f.cells ++ r.c.cells ++ [.lst r.us r.m, .int .u64 r.rk, .int .u64 r.rv, .bool r.told]) 0
def traOf : AV → Option TRa
  | .iptr [.int .u8 kind, .int .u32 a, .int .u32 b, .int .u8 pc, .int .u8 i, .int .u8 j, .int .u8 n, .int .u8 p, .int .u8 h, .int .u32 x, .int .u32 y, .int .u8 ob, .int .i64 ins, .int .i64 thr, .int .u8 ckind, .int .i64 str, .int .i64 bits, .int .i64 cap, .int .i64 node, .int .i64 batch, .int .i64 chunk, .int .u64 limit, .int .u64 most, .lst us m, .int .u64 rk, .int .u64 rv, .bool told] 0 =>
    some ⟨⟨kind, a, b, pc, i, j, n, p, h, x, y⟩, ⟨ob, ins, thr, ckind, str, bits, cap, node, batch, chunk, limit, most⟩, us, m, rk, rv, told⟩
  | _ => none
theorem traOf_some {a : AV} {c : TRa} (h : traOf a = some c) : a = c.av := by
  unfold traOf at h
  split at h
  · simp only [Option.some.injEq] at h
    subst h
    rfl
  · cases h
def rTra : Rd TRa := ⟨traOf, TRa.av, fun _ _ => traOf_some⟩
/-- One to five levels. -/
def lvOk (us : List AV) (m : Nat) : Bool := Nat.ble 1 m && (Nat.ble m 5 && (Nat.beq us.length m && us.all (AV.isI .i64)))
theorem lvOk_num {us : List AV} {m : Nat} (h : lvOk us m = true) : 1 ≤ m ∧ m ≤ 5 := by
  unfold lvOk at h
  simp only [Bool.and_eq_true] at h
  exact ⟨Nat.le_of_ble_eq_true h.1, Nat.le_of_ble_eq_true h.2.1⟩
theorem isI_is {v : AV} (h : v.isI .i64 = true) : v = .int .i64 v.toI := AV.of_isI h
theorem lvOk_cases {us : List AV} {m : Nat} (h : lvOk us m = true) : (∃ a, us = [.int .i64 a] ∧ m = 1) ∨ (∃ a b, us = [.int .i64 a, .int .i64 b] ∧ m = 2) ∨ (∃ a b c, us = [.int .i64 a, .int .i64 b, .int .i64 c] ∧ m = 3) ∨
    (∃ a b c d, us = [.int .i64 a, .int .i64 b, .int .i64 c, .int .i64 d] ∧ m = 4) ∨ (∃ a b c d e, us = [.int .i64 a, .int .i64 b, .int .i64 c, .int .i64 d, .int .i64 e] ∧ m = 5) := by
  have hn := lvOk_num h
  unfold lvOk at h
  simp only [Bool.and_eq_true] at h
  obtain ⟨_, _, h3, h4⟩ := h
  have h3 : us.length = m := Nat.eq_of_beq_eq_true h3
  match us, h3, h4 with
  | [], h3, _ => simp only [List.length_nil] at h3; omega
  | [a], h3, h4 =>
    simp only [List.all_cons, List.all_nil, Bool.and_true] at h4
    exact .inl ⟨a.toI, by rw [← isI_is h4], h3.symm⟩
  | [a, b], h3, h4 =>
    simp only [List.all_cons, List.all_nil, Bool.and_true, Bool.and_eq_true] at h4
    exact .inr (.inl ⟨a.toI, b.toI, by rw [← isI_is h4.1, ← isI_is h4.2], h3.symm⟩)
  | [a, b, c], h3, h4 =>
    simp only [List.all_cons, List.all_nil, Bool.and_true, Bool.and_eq_true] at h4
    exact .inr (.inr (.inl ⟨a.toI, b.toI, c.toI, by rw [← isI_is h4.1, ← isI_is h4.2.1, ← isI_is h4.2.2], h3.symm⟩))
  | [a, b, c, d], h3, h4 =>
    simp only [List.all_cons, List.all_nil, Bool.and_true, Bool.and_eq_true] at h4
    exact .inr (.inr (.inr (.inl ⟨a.toI, b.toI, c.toI, d.toI, by rw [← isI_is h4.1, ← isI_is h4.2.1, ← isI_is h4.2.2.1, ← isI_is h4.2.2.2], h3.symm⟩)))
  | [a, b, c, d, e], h3, h4 =>
    simp only [List.all_cons, List.all_nil, Bool.and_true, Bool.and_eq_true] at h4
    exact .inr (.inr (.inr (.inr ⟨a.toI, b.toI, c.toI, d.toI, e.toI, by rw [← isI_is h4.1, ← isI_is h4.2.1, ← isI_is h4.2.2.1, ← isI_is h4.2.2.2.1, ← isI_is h4.2.2.2.2], h3.symm⟩)))
  | _ :: _ :: _ :: _ :: _ :: _ :: _, h3, _ => simp only [List.length_cons] at h3; omega
end Go.Bas
end
section
namespace Go.Bas.BasZBase
open Go.RowKit Go.Proofs
set_option maxRecDepth 100000
set_option maxHeartbeats 4000000
set_option linter.unusedVariables false
set_option linter.unusedSimpArgs false
def cells0 : List AV := [.bool false, .bool true, .bool true, .bool false, .bool true, .bool true, .bool false, .bool false, .bool false, .bool true, .bool true, .bool false, .bool true, .bool true, .bool false]
def cells1 : List AV := [.int .u8 0, .int .u8 1, .int .u8 1, .int .u8 1, .int .u8 2, .int .u8 2, .int .u8 2, .int .u8 2, .int .u8 2, .int .u8 3, .int .u8 3, .int .u8 3, .int .u8 4, .int .u8 4, .int .u8 4]
def cells2 : List AV := [.int .u8 0, .int .u8 1, .int .u8 56, .int .u8 2, .int .u8 57, .int .u8 49, .int .u8 28, .int .u8 3, .int .u8 61, .int .u8 58, .int .u8 42, .int .u8 50, .int .u8 38, .int .u8 29, .int .u8 17, .int .u8 4, .int .u8 62, .int .u8 47, .int .u8 59, .int .u8 36, .int .u8 45, .int .u8 43, .int .u8 51, .int .u8 22, .int .u8 53, .int .u8 39, .int .u8 33, .int .u8 30, .int .u8 24, .int .u8 18, .int .u8 12, .int .u8 5, .int .u8 63, .int .u8 55, .int .u8 48, .int .u8 27, .int .u8 60, .int .u8 41, .int .u8 37, .int .u8 16, .int .u8 46, .int .u8 35, .int .u8 44, .int .u8 21, .int .u8 52, .int .u8 32, .int .u8 23, .int .u8 11, .int .u8 54, .int .u8 26, .int .u8 40, .int .u8 15, .int .u8 34, .int .u8 20, .int .u8 31, .int .u8 10, .int .u8 25, .int .u8 14, .int .u8 19, .int .u8 9, .int .u8 13, .int .u8 8, .int .u8 7, .int .u8 6]
def cells3 : List AV := [.int .i64 1, .int .i64 2, .int .i64 4, .int .i64 8, .int .i64 16, .int .i64 1, .int .i64 3, .int .i64 9, .int .i64 27, .int .i64 81, .int .i64 1, .int .i64 4, .int .i64 16, .int .i64 64, .int .i64 256]
def gs : List (Nat × List AV) := [(0, cells0), (1, cells1), (2, cells2), (3, cells3)]
noncomputable abbrev cfg (l : List Sum) : Cfg := ⟨Tryz.prog, gmap gs, lookS l, fun _ => false, fun _ => none⟩

theorem base : Base Tryz.prog := ⟨by kernel_rfl, by kernel_rfl⟩
def S_within : Sum := (48, Fwithin)
theorem t_within (b : Bool) (n l m : Int) (k : AV → Bool) : runF (cfg []) 300 48 [.bool b, .int .i64 n, .int .i64 l, .int .i64 m] k false = ((bif (!b) then (k (AV.bool (decide (n = 0)))) else (bif decide (n ≥ l) then (k (AV.bool (decide (n ≤ m)))) else (k (AV.bool Bool.false))))) := by kernel_rfl
theorem s_within : SumOk Tryz.prog (gmap gs) S_within := fun args r hr => by
    simp only [S_within] at hr
    unfold Fwithin at hr
    split at hr
    · rename_i b n l m
      simp only [Option.some.injEq, Prod.mk.injEq, true_and] at hr
      subst hr
      refine acalls_eq base sums_nil (n := 300) fun k hk => ?_
      refine (t_within _ _ _ _ _).trans ?_
      cases b
      · exact hk
      · cases h : decide (n ≥ l) <;> simp_all [within]
    · cases hr
def S_check : Sum := (29, onConf fun c => .int .i64 (errC c))
theorem t_check (c : Conf) (k : AV → Bool) : runF (cfg [S_within]) 300 29 [c.av] k false = ((bif decide (c.1 < 1) then (k (AV.int .i64 40)) else (bif decide (c.1 > 4) then (k (AV.int .i64 40)) else (bif (!decide (c.4 = 1)) then (bif (!decide (c.4 = 2)) then (k (AV.int .i64 40)) else (bif (!(within Bool.true c.2 2 4)) then (k (AV.int .i64 40)) else (bif (!(within Bool.true c.3 1 16)) then (k (AV.int .i64 40)) else (bif (!(within (decide (c.4 = 2)) c.5 1 4)) then (k (AV.int .i64 40)) else (bif (!(within (decide (c.1 = 1)) c.6 1 6)) then (k (AV.int .i64 40)) else (bif (!(within Bool.true c.7 1 32)) then (k (AV.int .i64 40)) else (bif (!(within (decide (c.1 = 2)) c.8 2 4)) then (k (AV.int .i64 40)) else (bif (!(within (decide (c.1 = 2)) c.10 1 8)) then (k (AV.int .i64 40)) else (bif (!(within Bool.true c.9 1 16)) then (k (AV.int .i64 40)) else (bif decide (c.11 < 131072) then (k (AV.int .i64 40)) else (bif decide (c.11 > 4611686018427387904) then (k (AV.int .i64 40)) else (bif decide (c.4 = 2) then (bif decide (c.12 < 1) then (k (AV.int .i64 40)) else (bif decide (c.12 > 4611686018427387904) then (k (AV.int .i64 40)) else (bif (!decide (c.4 = 2)) then (bif (!decide (c.12 = 0)) then (k (AV.int .i64 40)) else (k (AV.int .i64 0))) else (k (AV.int .i64 0))))) else (bif (!decide (c.4 = 2)) then (bif (!decide (c.12 = 0)) then (k (AV.int .i64 40)) else (k (AV.int .i64 0))) else (k (AV.int .i64 0))))))))))))))) else (bif (!(within Bool.true c.2 2 4)) then (k (AV.int .i64 40)) else (bif (!(within Bool.true c.3 1 16)) then (k (AV.int .i64 40)) else (bif (!(within (decide (c.4 = 2)) c.5 1 4)) then (k (AV.int .i64 40)) else (bif (!(within (decide (c.1 = 1)) c.6 1 6)) then (k (AV.int .i64 40)) else (bif (!(within Bool.true c.7 1 32)) then (k (AV.int .i64 40)) else (bif (!(within (decide (c.1 = 2)) c.8 2 4)) then (k (AV.int .i64 40)) else (bif (!(within (decide (c.1 = 2)) c.10 1 8)) then (k (AV.int .i64 40)) else (bif (!(within Bool.true c.9 1 16)) then (k (AV.int .i64 40)) else (bif decide (c.11 < 131072) then (k (AV.int .i64 40)) else (bif decide (c.11 > 4611686018427387904) then (k (AV.int .i64 40)) else (bif decide (c.4 = 2) then (bif decide (c.12 < 1) then (k (AV.int .i64 40)) else (bif decide (c.12 > 4611686018427387904) then (k (AV.int .i64 40)) else (bif (!decide (c.4 = 2)) then (bif (!decide (c.12 = 0)) then (k (AV.int .i64 40)) else (k (AV.int .i64 0))) else (k (AV.int .i64 0))))) else (bif (!decide (c.4 = 2)) then (bif (!decide (c.12 = 0)) then (k (AV.int .i64 40)) else (k (AV.int .i64 0))) else (k (AV.int .i64 0)))))))))))))))))) := by kernel_rfl
theorem s_check : SumOk Tryz.prog (gmap gs) S_check := onConf_sum fun c => acalls_eq base (sums_cons s_within sums_nil) (n := 300) fun k hk => by
    rw [t_check]
    have h1 : c.ok = true → k (.int .i64 0) = true := fun h => by rw [errC, h] at hk; exact hk
    have h2 : c.ok = false → k (.int .i64 40) = true := fun h => by rw [errC, h] at hk; exact hk
    clear hk
    repeat' (first | refine condI (fun h => ?_) (fun h => ?_) | refine andI ?_ ?_)
    all_goals first
      | (refine h1 (decide_eq_true ?_)
         clear h1 h2
         simp only [within_true, within_false, decide_eq_true_eq, decide_eq_false_iff_not, Bool.not_eq_true', Bool.not_eq_false', true_and, false_and, or_false, false_or, and_true, and_false, reduceCtorEq, ge_iff_le, gt_iff_lt] at *
         unfold Conf.OkP
         omega)
      | (refine h2 (decide_eq_false ?_)
         clear h1 h2
         simp only [within_true, within_false, decide_eq_true_eq, decide_eq_false_iff_not, Bool.not_eq_true', Bool.not_eq_false', true_and, false_and, or_false, false_or, and_true, and_false, reduceCtorEq, ge_iff_le, gt_iff_lt] at *
         unfold Conf.OkP
         omega)
def S_rest : Sum := (117, onConf fun c => .int .i64 (restS c))
theorem t_rest (c : Conf) (k : AV → Bool) : runF (cfg []) 300 117 [c.av] k false = ((k (AV.int .i64 (IntKind.wrap .i64 (c.2 + 5))))) := by kernel_rfl
theorem s_rest : SumOk Tryz.prog (gmap gs) S_rest := onConf_sum fun c => acalls_eq base sums_nil (n := 300) fun k hk => by
    rw [t_rest]
    exact hk
def S_may : Sum := (79, onConf2 stgOf (fun c _ => decide (0 ≤ c.thr)) fun c s => .bool (mayP c s))
theorem t_may (c : Conf) (s : Stg) (k : AV → Bool) : runF (cfg [S_rest]) 300 79 [c.av, s.av] k false = ((bif decide (s.2 < 1) then (k (AV.bool Bool.false)) else (bif decide (s.2 > (restS c)) then (k (AV.bool Bool.false)) else (bif decide (s.1 ≥ (IntKind.wrap .u64 (Int.tdiv c.11 65536))) then (k (AV.bool Bool.false)) else (bif decide (c.3 < 0) then Bool.false else (bif (!decide ((ishr .u64 s.3 c.3) = 0)) then (k (AV.bool Bool.false)) else (bif decide (s.4 < 0) then (k (AV.bool Bool.false)) else (bif decide (s.4 ≥ c.3) then (k (AV.bool Bool.false)) else (bif decide (s.1 = 0) then (k (AV.bool (decide (s.2 = (restS c))))) else (k (AV.bool (!decide (s.3 = 0))))))))))))) := by kernel_rfl
theorem s_may : SumOk Tryz.prog (gmap gs) S_may := onConf2_sum (fun _ _ => stgOf_some) fun c s hp => acalls_eq base (sums_cons s_rest sums_nil) (n := 300) fun k hk => by
    rw [t_may]
    repeat' (first | refine condI (fun h => ?_) (fun h => ?_) | refine andI ?_ ?_)
    all_goals first
      | (refine (congrArg k (congrArg AV.bool ?_)).trans hk
         clear hk
         rw [Bool.eq_iff_iff]
         simp only [mayP_true, batches, decide_eq_true_eq, decide_eq_false_iff_not, Bool.not_eq_true', Bool.not_eq_false', Bool.false_eq_true, false_iff, iff_false, true_and, false_and, or_false, false_or, and_true, and_false, reduceCtorEq, ge_iff_le, gt_iff_lt] at *
         try unfold Conf.OkP
         omega)
      | (clear hk
         simp only [mayP_true, batches, decide_eq_true_eq, decide_eq_false_iff_not, Bool.not_eq_true', Bool.not_eq_false'] at *
         omega)
def S_chk : Sum := (50, onConf2 stgOf (fun _ _ => true) fun c s => .int .i64 (chk mayP c s))
theorem t_chk (c : Conf) (s : Stg) (k : AV → Bool) : runF (cfg [S_check, S_may]) 300 50 [c.av, s.av] k false = ((bif (!decide ((errC c) = 0)) then (k (AV.int .i64 (errC c))) else (decide (0 ≤ c.3) && (bif (!(mayP c s)) then (k (AV.int .i64 2)) else (k (AV.int .i64 0)))))) := by kernel_rfl
theorem s_chk : SumOk Tryz.prog (gmap gs) S_chk := onConf2_sum (fun _ _ => stgOf_some) fun c s hp => acalls_eq base (sums_cons s_check (sums_cons s_may sums_nil)) (n := 300) fun k hk => by
    rw [t_chk]
    unfold chk at hk
    unfold errC
    cases ho : c.ok with
    | false => rw [ho] at hk; exact hk
    | true =>
      rw [ho] at hk
      have : 0 ≤ c.thr := by have := of_decide_eq_true ho; simp only [Conf.OkP] at this; omega
      cases hm : mayP c s <;> rw [hm] at hk <;> simpa [this] using hk
end Go.Bas.BasZBase
end
section
namespace Go.Bas.BasZRank
open Go.RowKit Go.Proofs
open Go.Bas.BasZBase
set_option maxRecDepth 100000
set_option maxHeartbeats 4000000
set_option linter.unusedVariables false
set_option linter.unusedSimpArgs false
noncomputable def T_width (n : Int) (l : Int) (w : Int) : Tr := (.br (decide (n ≥ l)) (.br (decide (n ≤ 32)) (.br (decide (w ≥ 2)) (.leaf [.bool (decide (w ≤ 4))]) (.leaf [.bool Bool.false])) (.leaf [.bool Bool.false])) (.leaf [.bool Bool.false]))
def ks_width : List CK := [.b]
noncomputable def sh_width (l : List AV) : AV := lget l 0
noncomputable def f_width_0 (n : Int) (l : Int) (w : Int) : Bool := (T_width n l w).bool 0
noncomputable def o_width (n : Int) (l : Int) (w : Int) : AV := .bool (f_width_0 n l w)
noncomputable def S_width : Sum := (144, on3 (rI .i64) (rI .i64) (rI .i64) (fun n l w => true) (fun n l w => o_width n l w))
theorem t_width (n : Int) (l : Int) (w : Int) (k : AV → Bool) : runF (cfg []) 300 144 [.int .i64 n, .int .i64 l, .int .i64 w] k false = (T_width n l w).ev (fun l => k (sh_width l)) false := by kernel_rfl
theorem fits_width (n : Int) (l : Int) (w : Int) : (T_width n l w).fits ks_width = true := by kernel_rfl
theorem s_width : SumOk Tryz.prog (gmap gs) S_width := on3_sum fun n l w hp => acalls_eq base sums_nil (n := 300) fun k hk => (t_width n l w k).trans ((Tr.merge (fits_width n l w) (Tr.ok_of_total (by kernel_rfl))).trans hk)
noncomputable def T_up (n : Int) (w : Int) (h : Int) : Tr := (.br ((inside (IntKind.wrap .i64 (w - 2)) 3)) (.br ((inside h 5)) (.br ((Nat.ble (((0 + ((Int.toNat (IntKind.wrap .i64 (w - 2))) * 5)) + ((Int.toNat h) * 1)) + 1) 15)) (.br ((AV.isI .i64 (lget [(AV.int .i64 1), (AV.int .i64 2), (AV.int .i64 4), (AV.int .i64 8), (AV.int .i64 16), (AV.int .i64 1), (AV.int .i64 3), (AV.int .i64 9), (AV.int .i64 27), (AV.int .i64 81), (AV.int .i64 1), (AV.int .i64 4), (AV.int .i64 16), (AV.int .i64 64), (AV.int .i64 256)] ((0 + ((Int.toNat (IntKind.wrap .i64 (w - 2))) * 5)) + ((Int.toNat h) * 1))))) (.br (decide ((AV.toI (lget [(AV.int .i64 1), (AV.int .i64 2), (AV.int .i64 4), (AV.int .i64 8), (AV.int .i64 16), (AV.int .i64 1), (AV.int .i64 3), (AV.int .i64 9), (AV.int .i64 27), (AV.int .i64 81), (AV.int .i64 1), (AV.int .i64 4), (AV.int .i64 16), (AV.int .i64 64), (AV.int .i64 256)] ((0 + ((Int.toNat (IntKind.wrap .i64 (w - 2))) * 5)) + ((Int.toNat h) * 1)))) = 0)) .bad (.leaf [.int .i64 (IntKind.wrap .i64 (Int.tdiv (IntKind.wrap .i64 ((IntKind.wrap .i64 (n + (AV.toI (lget [(AV.int .i64 1), (AV.int .i64 2), (AV.int .i64 4), (AV.int .i64 8), (AV.int .i64 16), (AV.int .i64 1), (AV.int .i64 3), (AV.int .i64 9), (AV.int .i64 27), (AV.int .i64 81), (AV.int .i64 1), (AV.int .i64 4), (AV.int .i64 16), (AV.int .i64 64), (AV.int .i64 256)] ((0 + ((Int.toNat (IntKind.wrap .i64 (w - 2))) * 5)) + ((Int.toNat h) * 1)))))) - 1)) (AV.toI (lget [(AV.int .i64 1), (AV.int .i64 2), (AV.int .i64 4), (AV.int .i64 8), (AV.int .i64 16), (AV.int .i64 1), (AV.int .i64 3), (AV.int .i64 9), (AV.int .i64 27), (AV.int .i64 81), (AV.int .i64 1), (AV.int .i64 4), (AV.int .i64 16), (AV.int .i64 64), (AV.int .i64 256)] ((0 + ((Int.toNat (IntKind.wrap .i64 (w - 2))) * 5)) + ((Int.toNat h) * 1))))))])) .bad) .bad) .bad) .bad)
def ks_up : List CK := [.i .i64]
noncomputable def sh_up (l : List AV) : AV := lget l 0
noncomputable def f_up_0 (n : Int) (w : Int) (h : Int) : Int := (T_up n w h).int 0
noncomputable def o_up (n : Int) (w : Int) (h : Int) : AV := .int .i64 (f_up_0 n w h)
noncomputable def ok_up (n : Int) (w : Int) (h : Int) : Bool := (T_up n w h).ok
noncomputable def S_up : Sum := (145, on3 (rI .i64) (rI .i64) (rI .i64) (fun n w h => ok_up n w h) (fun n w h => o_up n w h))
theorem t_up (n : Int) (w : Int) (h : Int) (k : AV → Bool) : runF (cfg []) 300 145 [.int .i64 n, .int .i64 w, .int .i64 h] k false = (T_up n w h).ev (fun l => k (sh_up l)) false := by kernel_rfl
theorem fits_up (n : Int) (w : Int) (h : Int) : (T_up n w h).fits ks_up = true := by kernel_rfl
theorem s_up : SumOk Tryz.prog (gmap gs) S_up := on3_sum fun n w h hp => acalls_eq base sums_nil (n := 300) fun k hk => (t_up n w h k).trans ((Tr.merge (fits_up n w h) hp).trans hk)
noncomputable def T_count (n : Int) (w : Int) (h : Int) : Tr := (.br ((!(f_width_0 n 0 w))) (.leaf [.int .i64 0, .int .i64 2]) (.br (decide (h < 0)) (.leaf [.int .i64 0, .int .i64 2]) (.br (decide (h > 4)) (.leaf [.int .i64 0, .int .i64 2]) (.br ((ok_up n w h)) (.leaf [.int .i64 (f_up_0 n w h), .int .i64 0]) .bad))))
def ks_count : List CK := [.i .i64, .i .i64]
noncomputable def sh_count (l : List AV) : AV := .tup [lget l 0, lget l 1]
noncomputable def f_count_0 (n : Int) (w : Int) (h : Int) : Int := (T_count n w h).int 0
noncomputable def f_count_1 (n : Int) (w : Int) (h : Int) : Int := (T_count n w h).int 1
noncomputable def o_count (n : Int) (w : Int) (h : Int) : AV := .tup [.int .i64 (f_count_0 n w h), .int .i64 (f_count_1 n w h)]
noncomputable def ok_count (n : Int) (w : Int) (h : Int) : Bool := (T_count n w h).ok
noncomputable def S_count : Sum := (200, on3 (rI .i64) (rI .i64) (rI .i64) (fun n w h => ok_count n w h) (fun n w h => o_count n w h))
theorem t_count (n : Int) (w : Int) (h : Int) (k : AV → Bool) : runF (cfg [S_width, S_up]) 300 200 [.int .i64 n, .int .i64 w, .int .i64 h] k false = (T_count n w h).ev (fun l => k (sh_count l)) false := by kernel_rfl
theorem fits_count (n : Int) (w : Int) (h : Int) : (T_count n w h).fits ks_count = true := by kernel_rfl
theorem s_count : SumOk Tryz.prog (gmap gs) S_count := on3_sum fun n w h hp => acalls_eq base (sums_cons s_width (sums_cons s_up sums_nil)) (n := 300) fun k hk => (t_count n w h k).trans ((Tr.merge (fits_count n w h) hp).trans hk)
noncomputable def T_last (n : Int) (w : Int) (h : Int) (i : Int) : Tr := (.br ((!(f_width_0 n 1 w))) (.leaf [.int .i64 0, .int .i64 2]) (.br (decide (h < 1)) (.leaf [.int .i64 0, .int .i64 2]) (.br (decide (h > 4)) (.leaf [.int .i64 0, .int .i64 2]) (.br (decide (i < 0)) (.leaf [.int .i64 0, .int .i64 2]) (.br ((ok_up n w h)) (.br (decide (i ≥ (f_up_0 n w h))) (.leaf [.int .i64 0, .int .i64 2]) (.br ((ok_up n w (IntKind.wrap .i64 (h - 1)))) (.leaf [.int .i64 (IntKind.wrap .i64 ((imin (IntKind.wrap .i64 ((IntKind.wrap .i64 (i + 1)) * w)) (f_up_0 n w (IntKind.wrap .i64 (h - 1)))) - 1)), .int .i64 0]) .bad)) .bad)))))
def ks_last : List CK := [.i .i64, .i .i64]
noncomputable def sh_last (l : List AV) : AV := .tup [lget l 0, lget l 1]
noncomputable def f_last_0 (n : Int) (w : Int) (h : Int) (i : Int) : Int := (T_last n w h i).int 0
noncomputable def f_last_1 (n : Int) (w : Int) (h : Int) (i : Int) : Int := (T_last n w h i).int 1
noncomputable def o_last (n : Int) (w : Int) (h : Int) (i : Int) : AV := .tup [.int .i64 (f_last_0 n w h i), .int .i64 (f_last_1 n w h i)]
noncomputable def ok_last (n : Int) (w : Int) (h : Int) (i : Int) : Bool := (T_last n w h i).ok
noncomputable def S_last : Sum := (175, on4 (rI .i64) (rI .i64) (rI .i64) (rI .i64) (fun n w h i => ok_last n w h i) (fun n w h i => o_last n w h i))
theorem t_last (n : Int) (w : Int) (h : Int) (i : Int) (k : AV → Bool) : runF (cfg [S_width, S_up]) 300 175 [.int .i64 n, .int .i64 w, .int .i64 h, .int .i64 i] k false = (T_last n w h i).ev (fun l => k (sh_last l)) false := by kernel_rfl
theorem fits_last (n : Int) (w : Int) (h : Int) (i : Int) : (T_last n w h i).fits ks_last = true := by kernel_rfl
theorem s_last : SumOk Tryz.prog (gmap gs) S_last := on4_sum fun n w h i hp => acalls_eq base (sums_cons s_width (sums_cons s_up sums_nil)) (n := 300) fun k hk => (t_last n w h i k).trans ((Tr.merge (fits_last n w h i) hp).trans hk)
noncomputable def T_size (c : Conf) : Tr := (.br (decide (c.1 = 1)) (.br (decide (c.6 < 0)) .bad (.leaf [.int .i64 (ishl .i64 2 c.6)])) (.br (decide (c.1 = 2)) (.br ((!(f_width_0 c.7 1 c.8))) (.leaf [.int .i64 1]) (.br ((ok_up c.7 c.8 0)) (.br (decide ((f_up_0 c.7 c.8 0) ≤ c.8)) (.leaf [.int .i64 (IntKind.wrap .i64 (1 + (f_up_0 c.7 c.8 0)))]) (.br ((ok_up c.7 c.8 1)) (.br (decide ((f_up_0 c.7 c.8 1) ≤ c.8)) (.leaf [.int .i64 (IntKind.wrap .i64 ((IntKind.wrap .i64 (1 + (f_up_0 c.7 c.8 0))) + (f_up_0 c.7 c.8 1)))]) (.br ((ok_up c.7 c.8 2)) (.br (decide ((f_up_0 c.7 c.8 2) ≤ c.8)) (.leaf [.int .i64 (IntKind.wrap .i64 ((IntKind.wrap .i64 ((IntKind.wrap .i64 (1 + (f_up_0 c.7 c.8 0))) + (f_up_0 c.7 c.8 1))) + (f_up_0 c.7 c.8 2)))]) (.br ((ok_up c.7 c.8 3)) (.br (decide ((f_up_0 c.7 c.8 3) ≤ c.8)) (.leaf [.int .i64 (IntKind.wrap .i64 ((IntKind.wrap .i64 ((IntKind.wrap .i64 ((IntKind.wrap .i64 (1 + (f_up_0 c.7 c.8 0))) + (f_up_0 c.7 c.8 1))) + (f_up_0 c.7 c.8 2))) + (f_up_0 c.7 c.8 3)))]) (.br ((ok_up c.7 c.8 4)) (.br (decide ((f_up_0 c.7 c.8 4) ≤ c.8)) (.leaf [.int .i64 (IntKind.wrap .i64 ((IntKind.wrap .i64 ((IntKind.wrap .i64 ((IntKind.wrap .i64 ((IntKind.wrap .i64 (1 + (f_up_0 c.7 c.8 0))) + (f_up_0 c.7 c.8 1))) + (f_up_0 c.7 c.8 2))) + (f_up_0 c.7 c.8 3))) + (f_up_0 c.7 c.8 4)))]) (.leaf [.int .i64 (IntKind.wrap .i64 ((IntKind.wrap .i64 ((IntKind.wrap .i64 ((IntKind.wrap .i64 ((IntKind.wrap .i64 (1 + (f_up_0 c.7 c.8 0))) + (f_up_0 c.7 c.8 1))) + (f_up_0 c.7 c.8 2))) + (f_up_0 c.7 c.8 3))) + (f_up_0 c.7 c.8 4)))])) .bad)) .bad)) .bad)) .bad)) .bad)) (.leaf [.int .i64 c.7])))
def ks_size : List CK := [.i .i64]
noncomputable def sh_size (l : List AV) : AV := lget l 0
noncomputable def f_size_0 (c : Conf) : Int := (T_size c).int 0
noncomputable def o_size (c : Conf) : AV := .int .i64 (f_size_0 c)
noncomputable def ok_size (c : Conf) : Bool := (T_size c).ok
noncomputable def S_size : Sum := (74, on1 rConf (fun c => ok_size c) (fun c => o_size c))
theorem t_size (c : Conf) (k : AV → Bool) : runF (cfg [S_width, S_up]) 300 74 [c.av] k false = (T_size c).ev (fun l => k (sh_size l)) false := by kernel_rfl
theorem fits_size (c : Conf) : (T_size c).fits ks_size = true := by kernel_rfl
theorem s_size : SumOk Tryz.prog (gmap gs) S_size := on1_sum fun c hp => acalls_eq base (sums_cons s_width (sums_cons s_up sums_nil)) (n := 300) fun k hk => (t_size c k).trans ((Tr.merge (fits_size c) hp).trans hk)
end Go.Bas.BasZRank
end
section
namespace Go.Bas.BasZLev
open Go.RowKit Go.Proofs
open Go.Bas.BasZBase Go.Bas.BasZRank
set_option maxRecDepth 100000
set_option maxHeartbeats 4000000
set_option linter.unusedVariables false
set_option linter.unusedSimpArgs false

theorem t_levels (n w : Int) (k : AV → Bool) : runF (cfg [S_width, S_up]) 300 116 [.int .i64 n, .int .i64 w] k false = ((bif (!(f_width_0 n 1 w)) then (k (AV.tup [AV.nils, (AV.int .i64 2)])) else ((ok_up n w 0) && (bif decide ((f_up_0 n w 0) ≤ w) then (k (AV.tup [(AV.lst [(AV.int .i64 (f_up_0 n w 0))] 1), (AV.int .i64 0)])) else ((ok_up n w 1) && (bif decide ((f_up_0 n w 1) ≤ w) then (k (AV.tup [(AV.lst [(AV.int .i64 (f_up_0 n w 0)), (AV.int .i64 (f_up_0 n w 1))] 2), (AV.int .i64 0)])) else ((ok_up n w 2) && (bif decide ((f_up_0 n w 2) ≤ w) then (k (AV.tup [(AV.lst [(AV.int .i64 (f_up_0 n w 0)), (AV.int .i64 (f_up_0 n w 1)), (AV.int .i64 (f_up_0 n w 2))] 3), (AV.int .i64 0)])) else ((ok_up n w 3) && (bif decide ((f_up_0 n w 3) ≤ w) then (k (AV.tup [(AV.lst [(AV.int .i64 (f_up_0 n w 0)), (AV.int .i64 (f_up_0 n w 1)), (AV.int .i64 (f_up_0 n w 2)), (AV.int .i64 (f_up_0 n w 3))] 4), (AV.int .i64 0)])) else ((ok_up n w 4) && (bif decide ((f_up_0 n w 4) ≤ w) then (k (AV.tup [(AV.lst [(AV.int .i64 (f_up_0 n w 0)), (AV.int .i64 (f_up_0 n w 1)), (AV.int .i64 (f_up_0 n w 2)), (AV.int .i64 (f_up_0 n w 3)), (AV.int .i64 (f_up_0 n w 4))] 5), (AV.int .i64 0)])) else (k (AV.tup [(AV.lst [(AV.int .i64 (f_up_0 n w 0)), (AV.int .i64 (f_up_0 n w 1)), (AV.int .i64 (f_up_0 n w 2)), (AV.int .i64 (f_up_0 n w 3)), (AV.int .i64 (f_up_0 n w 4))] 5), (AV.int .i64 0)])))))))))))))) := by kernel_rfl
/-- The levels are so many. -/
noncomputable def levIs (n w : Int) (m : Nat) : Bool := (bif (!(f_width_0 n 1 w)) then false else (ok_up n w 0 && (bif decide (f_up_0 n w 0 ≤ w) then Nat.beq m 1 else (ok_up n w 1 && (bif decide (f_up_0 n w 1 ≤ w) then Nat.beq m 2 else (ok_up n w 2 && (bif decide (f_up_0 n w 2 ≤ w) then Nat.beq m 3 else (ok_up n w 3 && (bif decide (f_up_0 n w 3 ≤ w) then Nat.beq m 4 else (ok_up n w 4 && (bif decide (f_up_0 n w 4 ≤ w) then Nat.beq m 5 else Nat.beq m 5)))))))))))
noncomputable def levTree (n w : Int) (k : AV → Bool) : Bool := (bif (!(f_width_0 n 1 w)) then k (.tup [.nils, .int .i64 2]) else (ok_up n w 0 && (bif decide (f_up_0 n w 0 ≤ w) then k (.tup [.lst [.int .i64 (f_up_0 n w 0)] 1, .int .i64 0]) else (ok_up n w 1 && (bif decide (f_up_0 n w 1 ≤ w) then k (.tup [.lst [.int .i64 (f_up_0 n w 0), .int .i64 (f_up_0 n w 1)] 2, .int .i64 0]) else (ok_up n w 2 && (bif decide (f_up_0 n w 2 ≤ w) then k (.tup [.lst [.int .i64 (f_up_0 n w 0), .int .i64 (f_up_0 n w 1), .int .i64 (f_up_0 n w 2)] 3, .int .i64 0]) else (ok_up n w 3 && (bif decide (f_up_0 n w 3 ≤ w) then k (.tup [.lst [.int .i64 (f_up_0 n w 0), .int .i64 (f_up_0 n w 1), .int .i64 (f_up_0 n w 2), .int .i64 (f_up_0 n w 3)] 4, .int .i64 0]) else (ok_up n w 4 && (bif decide (f_up_0 n w 4 ≤ w) then k (.tup [.lst [.int .i64 (f_up_0 n w 0), .int .i64 (f_up_0 n w 1), .int .i64 (f_up_0 n w 2), .int .i64 (f_up_0 n w 3), .int .i64 (f_up_0 n w 4)] 5, .int .i64 0]) else k (.tup [.lst [.int .i64 (f_up_0 n w 0), .int .i64 (f_up_0 n w 1), .int .i64 (f_up_0 n w 2), .int .i64 (f_up_0 n w 3), .int .i64 (f_up_0 n w 4)] 5, .int .i64 0]))))))))))))
noncomputable def levO (n w : Int) (m : Nat) : AV := .tup [.lst ((List.range m).map fun (i : Nat) => AV.int .i64 (f_up_0 n w (i : Int))) m, .int .i64 0]
theorem lt_leaf {m L : Nat} {k : AV → Bool} {n w : Int} {v : AV} (h : levO n w L = v) (hm : Nat.beq m L = true) (hk : k (levO n w m) = true) : k v = true := by
  have := Nat.eq_of_beq_eq_true hm
  subst this
  rw [← h]; exact hk
theorem lt_br {b x y x' y' : Bool} (h1 : x = true → x' = true) (h2 : y = true → y' = true) (h : (bif b then x else y) = true) : (bif b then x' else y') = true := by
  cases b
  · exact h2 h
  · exact h1 h
theorem lt_and {b y y' : Bool} (h2 : y = true → y' = true) (h : (b && y) = true) : (b && y') = true := by
  cases b
  · exact h
  · exact h2 h
theorem levTree_is {n w : Int} {m : Nat} {k : AV → Bool} (hp : levIs n w m = true) (hk : k (levO n w m) = true) : levTree n w k = true :=
  lt_br (fun h => Bool.noConfusion h) (lt_and (lt_br (fun h => lt_leaf (L := 1) rfl h hk) (lt_and (lt_br (fun h => lt_leaf (L := 2) rfl h hk) (lt_and (lt_br (fun h => lt_leaf (L := 3) rfl h hk) (lt_and (lt_br (fun h => lt_leaf (L := 4) rfl h hk) (lt_and (lt_br (fun h => lt_leaf (L := 5) rfl h hk) (fun h => lt_leaf (L := 5) rfl h hk))))))))))) hp
theorem acalls_lev {n w : Int} {m : Nat} (hp : levIs n w m = true) : ACalls Tryz.prog (gmap gs) 116 [.int .i64 n, .int .i64 w] (fun v => v = levO n w m) :=
  acalls_eq base (sums_cons s_width (sums_cons s_up sums_nil)) (n := 300) fun k hk => (t_levels n w k).trans (levTree_is hp hk)
noncomputable def S_lev1 : Sum := (116, on2 (rI .i64) (rI .i64) (fun n w => levIs n w 1) (fun n w => .tup [.lst [.int .i64 (f_up_0 n w 0)] 1, .int .i64 0]))
theorem s_lev1 : SumOk Tryz.prog (gmap gs) S_lev1 := on2_sum fun n w hp => acalls_lev hp
noncomputable def S_lev2 : Sum := (116, on2 (rI .i64) (rI .i64) (fun n w => levIs n w 2) (fun n w => .tup [.lst [.int .i64 (f_up_0 n w 0), .int .i64 (f_up_0 n w 1)] 2, .int .i64 0]))
theorem s_lev2 : SumOk Tryz.prog (gmap gs) S_lev2 := on2_sum fun n w hp => acalls_lev hp
noncomputable def S_lev3 : Sum := (116, on2 (rI .i64) (rI .i64) (fun n w => levIs n w 3) (fun n w => .tup [.lst [.int .i64 (f_up_0 n w 0), .int .i64 (f_up_0 n w 1), .int .i64 (f_up_0 n w 2)] 3, .int .i64 0]))
theorem s_lev3 : SumOk Tryz.prog (gmap gs) S_lev3 := on2_sum fun n w hp => acalls_lev hp
noncomputable def S_lev4 : Sum := (116, on2 (rI .i64) (rI .i64) (fun n w => levIs n w 4) (fun n w => .tup [.lst [.int .i64 (f_up_0 n w 0), .int .i64 (f_up_0 n w 1), .int .i64 (f_up_0 n w 2), .int .i64 (f_up_0 n w 3)] 4, .int .i64 0]))
theorem s_lev4 : SumOk Tryz.prog (gmap gs) S_lev4 := on2_sum fun n w hp => acalls_lev hp
noncomputable def S_lev5 : Sum := (116, on2 (rI .i64) (rI .i64) (fun n w => levIs n w 5) (fun n w => .tup [.lst [.int .i64 (f_up_0 n w 0), .int .i64 (f_up_0 n w 1), .int .i64 (f_up_0 n w 2), .int .i64 (f_up_0 n w 3), .int .i64 (f_up_0 n w 4)] 5, .int .i64 0]))
theorem s_lev5 : SumOk Tryz.prog (gmap gs) S_lev5 := on2_sum fun n w hp => acalls_lev hp
end Go.Bas.BasZLev
end
section
namespace Go.Bas.BasZRank3
open Go.RowKit Go.Proofs Go.Bas.BasZBase Go.Bas.BasZRank Go.Bas.BasZLev
set_option maxRecDepth 100000
set_option linter.unusedVariables false
set_option linter.unusedSimpArgs false
theorem width_is (n l w : Int) : f_width_0 n l w = (decide (n ≥ l) && (decide (n ≤ 32) && (decide (w ≥ 2) && decide (w ≤ 4)))) := by
  show (bif decide (n ≥ l) then bif decide (n ≤ 32) then bif decide (w ≥ 2) then decide (w ≤ 4) else false else false else false) = _
  cases decide (n ≥ l) <;> cases decide (n ≤ 32) <;> cases decide (w ≥ 2) <;> rfl
theorem of_width {n l w : Int} (h : f_width_0 n l w = true) : l ≤ n ∧ n ≤ 32 ∧ 2 ≤ w ∧ w ≤ 4 := by
  rw [width_is] at h
  simp only [Bool.and_eq_true, decide_eq_true_eq] at h
  omega
theorem ok_up_all {n w h : Int} (hw : 2 ≤ w ∧ w ≤ 4) (hh : 0 ≤ h ∧ h ≤ 4) : ok_up n w h = true := by
  rcases (show w = 2 ∨ w = 3 ∨ w = 4 by omega) with rfl | rfl | rfl <;> rcases (show h = 0 ∨ h = 1 ∨ h = 2 ∨ h = 3 ∨ h = 4 by omega) with rfl | rfl | rfl | rfl | rfl <;> kernel_rfl
theorem ok_up_dec {n w h : Int} (hw : 2 ≤ w ∧ w ≤ 4) (hh : 1 ≤ h ∧ h ≤ 4) : ok_up n w (IntKind.wrap .i64 (h - 1)) = true := by
  rcases (show w = 2 ∨ w = 3 ∨ w = 4 by omega) with rfl | rfl | rfl <;> rcases (show h = 1 ∨ h = 2 ∨ h = 3 ∨ h = 4 by omega) with rfl | rfl | rfl | rfl <;> kernel_rfl
theorem ok_count_all (n w h : Int) : ok_count n w h = true := by
  show (bif !(f_width_0 n 0 w) then true else bif decide (h < 0) then true else bif decide (h > 4) then true else bif ok_up n w h then true else false) = true
  cases hw : f_width_0 n 0 w with
  | false => rfl
  | true =>
    have := of_width hw
    by_cases h0 : h < 0
    · rw [decide_eq_true h0]; rfl
    · by_cases h4 : h > 4
      · rw [decide_eq_false h0, decide_eq_true h4]; rfl
      · rw [decide_eq_false h0, decide_eq_false h4, ok_up_all (by omega) (by omega)]; rfl
theorem ok_last_all (n w h i : Int) : ok_last n w h i = true := by
  show (bif !(f_width_0 n 1 w) then true else bif decide (h < 1) then true else bif decide (h > 4) then true else bif decide (i < 0) then true else
    bif ok_up n w h then bif decide (i ≥ f_up_0 n w h) then true else bif ok_up n w (IntKind.wrap .i64 (h - 1)) then true else false else false) = true
  cases hw : f_width_0 n 1 w with
  | false => rfl
  | true =>
    have := of_width hw
    by_cases h0 : h < 1
    · rw [decide_eq_true h0]; rfl
    · by_cases h4 : h > 4
      · rw [decide_eq_false h0, decide_eq_true h4]; rfl
      · rw [decide_eq_false h0, decide_eq_false h4, ok_up_all (by omega) (by omega), ok_up_dec (by omega) (by omega)]
        cases decide (i < 0) <;> cases decide (i ≥ f_up_0 n w h) <;> rfl
noncomputable def S_cnt : Sum := (200, on3 (rI .i64) (rI .i64) (rI .i64) (fun _ _ _ => true) (fun n w h => o_count n w h))
theorem s_cnt : SumOk Tryz.prog (gmap gs) S_cnt := fun args r hr => by
  have e : S_count.2 args = some (true, r) := by
    have h2 : on3 (rI .i64) (rI .i64) (rI .i64) (fun n w h => ok_count n w h) (fun n w h => o_count n w h) args = on3 (rI .i64) (rI .i64) (rI .i64) (fun _ _ _ => true) (fun n w h => o_count n w h) args := by
      congr 1
      funext n w h
      exact ok_count_all n w h
    exact h2.trans hr
  exact s_count args r e
noncomputable def S_lst : Sum := (175, on4 (rI .i64) (rI .i64) (rI .i64) (rI .i64) (fun _ _ _ _ => true) (fun n w h i => o_last n w h i))
theorem s_lst : SumOk Tryz.prog (gmap gs) S_lst := fun args r hr => by
  have e : BasZRank.S_last.2 args = some (true, r) := by
    have h2 : on4 (rI .i64) (rI .i64) (rI .i64) (rI .i64) (fun n w h i => ok_last n w h i) (fun n w h i => o_last n w h i) args = on4 (rI .i64) (rI .i64) (rI .i64) (rI .i64) (fun _ _ _ _ => true) (fun n w h i => o_last n w h i) args := by
      congr 1
      funext n w h i
      exact ok_last_all n w h i
    exact h2.trans hr
  exact BasZRank.s_last args r e
theorem lev_some {n w : Int} (hw : f_width_0 n 1 w = true) : levIs n w 1 = true ∨ levIs n w 2 = true ∨ levIs n w 3 = true ∨ levIs n w 4 = true ∨ levIs n w 5 = true := by
  have h := of_width hw
  have h2 : 2 ≤ w ∧ w ≤ 4 := by omega
  unfold levIs
  rw [hw, ok_up_all h2 (h := 0) (by omega), ok_up_all h2 (h := 1) (by omega), ok_up_all h2 (h := 2) (by omega), ok_up_all h2 (h := 3) (by omega), ok_up_all h2 (h := 4) (by omega)]
  cases decide (f_up_0 n w 0 ≤ w) <;> cases decide (f_up_0 n w 1 ≤ w) <;> cases decide (f_up_0 n w 2 ≤ w) <;> cases decide (f_up_0 n w 3 ≤ w) <;> cases decide (f_up_0 n w 4 ≤ w) <;> simp
end Go.Bas.BasZRank3
end
section
namespace Go.Bas.BasZOp
open Go.RowKit Go.Proofs
open Go.Bas.BasZBase
set_option maxRecDepth 100000
set_option maxHeartbeats 4000000
set_option linter.unusedVariables false
set_option linter.unusedSimpArgs false
noncomputable def T_obj (n : Int) : Tr := (.br (decide ((IntKind.wrap .i64 n) ≥ 15)) (.leaf [.int .u8 0]) (.br ((inside n 15)) (.br ((Nat.ble ((0 + ((Int.toNat n) * 1)) + 1) 15)) (.br ((AV.isI .u8 (lget [(AV.int .u8 0), (AV.int .u8 1), (AV.int .u8 1), (AV.int .u8 1), (AV.int .u8 2), (AV.int .u8 2), (AV.int .u8 2), (AV.int .u8 2), (AV.int .u8 2), (AV.int .u8 3), (AV.int .u8 3), (AV.int .u8 3), (AV.int .u8 4), (AV.int .u8 4), (AV.int .u8 4)] (0 + ((Int.toNat n) * 1))))) (.leaf [.int .u8 (AV.toI (lget [(AV.int .u8 0), (AV.int .u8 1), (AV.int .u8 1), (AV.int .u8 1), (AV.int .u8 2), (AV.int .u8 2), (AV.int .u8 2), (AV.int .u8 2), (AV.int .u8 2), (AV.int .u8 3), (AV.int .u8 3), (AV.int .u8 3), (AV.int .u8 4), (AV.int .u8 4), (AV.int .u8 4)] (0 + ((Int.toNat n) * 1))))]) .bad) .bad) .bad))
def ks_obj : List CK := [.i .u8]
noncomputable def sh_obj (l : List AV) : AV := lget l 0
noncomputable def f_obj_0 (n : Int) : Int := (T_obj n).int 0
noncomputable def o_obj (n : Int) : AV := .int .u8 (f_obj_0 n)
noncomputable def ok_obj (n : Int) : Bool := (T_obj n).ok
noncomputable def S_obj : Sum := (30, on1 (rI .u8) (fun n => ok_obj n) (fun n => o_obj n))
theorem t_obj (n : Int) (k : AV → Bool) : runF (cfg []) 300 30 [.int .u8 n] k false = (T_obj n).ev (fun l => k (sh_obj l)) false := by kernel_rfl
theorem fits_obj (n : Int) : (T_obj n).fits ks_obj = true := by kernel_rfl
theorem s_obj : SumOk Tryz.prog (gmap gs) S_obj := on1_sum fun n hp => acalls_eq base sums_nil (n := 300) fun k hk => (t_obj n k).trans ((Tr.merge (fits_obj n) hp).trans hk)
noncomputable def T_wr (n : Int) : Tr := (.br (decide ((IntKind.wrap .i64 n) < 15)) (.br ((inside n 15)) (.br ((Nat.ble ((0 + ((Int.toNat n) * 1)) + 1) 15)) (.br ((AV.isB (lget [(AV.bool Bool.false), (AV.bool Bool.true), (AV.bool Bool.true), (AV.bool Bool.false), (AV.bool Bool.true), (AV.bool Bool.true), (AV.bool Bool.false), (AV.bool Bool.false), (AV.bool Bool.false), (AV.bool Bool.true), (AV.bool Bool.true), (AV.bool Bool.false), (AV.bool Bool.true), (AV.bool Bool.true), (AV.bool Bool.false)] (0 + ((Int.toNat n) * 1))))) (.leaf [.bool (AV.toB (lget [(AV.bool Bool.false), (AV.bool Bool.true), (AV.bool Bool.true), (AV.bool Bool.false), (AV.bool Bool.true), (AV.bool Bool.true), (AV.bool Bool.false), (AV.bool Bool.false), (AV.bool Bool.false), (AV.bool Bool.true), (AV.bool Bool.true), (AV.bool Bool.false), (AV.bool Bool.true), (AV.bool Bool.true), (AV.bool Bool.false)] (0 + ((Int.toNat n) * 1))))]) .bad) .bad) .bad) (.leaf [.bool Bool.false]))
def ks_wr : List CK := [.b]
noncomputable def sh_wr (l : List AV) : AV := lget l 0
noncomputable def f_wr_0 (n : Int) : Bool := (T_wr n).bool 0
noncomputable def o_wr (n : Int) : AV := .bool (f_wr_0 n)
noncomputable def ok_wr (n : Int) : Bool := (T_wr n).ok
noncomputable def S_wr : Sum := (15, on1 (rI .u8) (fun n => ok_wr n) (fun n => o_wr n))
theorem t_wr (n : Int) (k : AV → Bool) : runF (cfg []) 300 15 [.int .u8 n] k false = (T_wr n).ev (fun l => k (sh_wr l)) false := by kernel_rfl
theorem fits_wr (n : Int) : (T_wr n).fits ks_wr = true := by kernel_rfl
theorem s_wr : SumOk Tryz.prog (gmap gs) S_wr := on1_sum fun n hp => acalls_eq base sums_nil (n := 300) fun k hk => (t_wr n k).trans ((Tr.merge (fits_wr n) hp).trans hk)
noncomputable def T_path (a : Int) (b : Int) : Tr := (.br ((!decide ((iand .u32 a 65535) = 0))) (.br ((!decide ((ishr .u32 a 16) = 0))) (.leaf [.bool (decide (b ≤ 65535))]) (.br (decide (b = 0)) (.leaf [.bool (decide (b ≤ 65535))]) (.leaf [.bool Bool.false]))) (.leaf [.bool Bool.false]))
def ks_path : List CK := [.b]
noncomputable def sh_path (l : List AV) : AV := lget l 0
noncomputable def f_path_0 (a : Int) (b : Int) : Bool := (T_path a b).bool 0
noncomputable def o_path (a : Int) (b : Int) : AV := .bool (f_path_0 a b)
noncomputable def S_path : Sum := (49, on2 (rI .u32) (rI .u32) (fun a b => true) (fun a b => o_path a b))
theorem t_path (a : Int) (b : Int) (k : AV → Bool) : runF (cfg []) 300 49 [.int .u32 a, .int .u32 b] k false = (T_path a b).ev (fun l => k (sh_path l)) false := by kernel_rfl
theorem fits_path (a : Int) (b : Int) : (T_path a b).fits ks_path = true := by kernel_rfl
theorem s_path : SumOk Tryz.prog (gmap gs) S_path := on2_sum fun a b hp => acalls_eq base sums_nil (n := 300) fun k hk => (t_path a b k).trans ((Tr.merge (fits_path a b) (Tr.ok_of_total (by kernel_rfl))).trans hk)
noncomputable def T_start (o : Opr) : Tr := (.leaf [.int .u8 o.1, .int .u32 o.2, .int .u32 o.3, .int .u8 0, .int .u8 0, .int .u8 0, .int .u8 0, .int .u8 0, .int .u8 0, .int .u32 0, .int .u32 o.4])
def ks_start : List CK := [.i .u8, .i .u32, .i .u32, .i .u8, .i .u8, .i .u8, .i .u8, .i .u8, .i .u8, .i .u32, .i .u32]
noncomputable def sh_start (l : List AV) : AV := .agg [lget l 0, lget l 1, lget l 2, lget l 3, lget l 4, lget l 5, lget l 6, lget l 7, lget l 8, lget l 9, lget l 10]
noncomputable def f_start_0 (o : Opr) : Int := (T_start o).int 0
noncomputable def f_start_1 (o : Opr) : Int := (T_start o).int 1
noncomputable def f_start_2 (o : Opr) : Int := (T_start o).int 2
noncomputable def f_start_3 (o : Opr) : Int := (T_start o).int 3
noncomputable def f_start_4 (o : Opr) : Int := (T_start o).int 4
noncomputable def f_start_5 (o : Opr) : Int := (T_start o).int 5
noncomputable def f_start_6 (o : Opr) : Int := (T_start o).int 6
noncomputable def f_start_7 (o : Opr) : Int := (T_start o).int 7
noncomputable def f_start_8 (o : Opr) : Int := (T_start o).int 8
noncomputable def f_start_9 (o : Opr) : Int := (T_start o).int 9
noncomputable def f_start_10 (o : Opr) : Int := (T_start o).int 10
noncomputable def o_start (o : Opr) : AV := .agg [.int .u8 (f_start_0 o), .int .u32 (f_start_1 o), .int .u32 (f_start_2 o), .int .u8 (f_start_3 o), .int .u8 (f_start_4 o), .int .u8 (f_start_5 o), .int .u8 (f_start_6 o), .int .u8 (f_start_7 o), .int .u8 (f_start_8 o), .int .u32 (f_start_9 o), .int .u32 (f_start_10 o)]
noncomputable def S_start : Sum := (40, on1 rOpr (fun o => true) (fun o => o_start o))
theorem t_start (o : Opr) (k : AV → Bool) : runF (cfg []) 300 40 [o.av] k false = (T_start o).ev (fun l => k (sh_start l)) false := by kernel_rfl
theorem fits_start (o : Opr) : (T_start o).fits ks_start = true := by kernel_rfl
theorem s_start : SumOk Tryz.prog (gmap gs) S_start := on1_sum fun o hp => acalls_eq base sums_nil (n := 300) fun k hk => (t_start o k).trans ((Tr.merge (fits_start o) (Tr.ok_of_total (by kernel_rfl))).trans hk)
noncomputable def T_opof (l : Cel) : Tr := (.leaf [.int .u64 l.1, .int .u8 (IntKind.wrap .u8 (iand .u64 (ishr .u64 l.2 0) 255)), .int .u32 (IntKind.wrap .u32 (iand .u64 (ishr .u64 l.2 8) 4294967295)), .int .u32 (IntKind.wrap .u32 l.3), .int .u32 (IntKind.wrap .u32 l.4)])
def ks_opof : List CK := [.i .u64, .i .u8, .i .u32, .i .u32, .i .u32]
noncomputable def sh_opof (l : List AV) : AV := .tup [lget l 0, .agg [lget l 1, lget l 2, lget l 3, lget l 4]]
noncomputable def f_opof_0 (l : Cel) : Int := (T_opof l).int 0
noncomputable def f_opof_1 (l : Cel) : Int := (T_opof l).int 1
noncomputable def f_opof_2 (l : Cel) : Int := (T_opof l).int 2
noncomputable def f_opof_3 (l : Cel) : Int := (T_opof l).int 3
noncomputable def f_opof_4 (l : Cel) : Int := (T_opof l).int 4
noncomputable def o_opof (l : Cel) : AV := .tup [.int .u64 (f_opof_0 l), .agg [.int .u8 (f_opof_1 l), .int .u32 (f_opof_2 l), .int .u32 (f_opof_3 l), .int .u32 (f_opof_4 l)]]
noncomputable def S_opof : Sum := (86, on1 rCel (fun l => true) (fun l => o_opof l))
theorem t_opof (l : Cel) (k : AV → Bool) : runF (cfg []) 400 86 [l.av] k false = (T_opof l).ev (fun l => k (sh_opof l)) false := by kernel_rfl
theorem fits_opof (l : Cel) : (T_opof l).fits ks_opof = true := by kernel_rfl
theorem s_opof : SumOk Tryz.prog (gmap gs) S_opof := on1_sum fun l hp => acalls_eq base sums_nil (n := 400) fun k hk => (t_opof l k).trans ((Tr.merge (fits_opof l) (Tr.ok_of_total (by kernel_rfl))).trans hk)
noncomputable def T_oplaid (s : Int) (o : Opr) : Tr := (.br (decide ((IntKind.wrap .u64 o.1) > 255)) (.br (decide ((IntKind.wrap .u64 o.2) > 4294967295)) (.leaf [.int .u64 s, .int .u64 0, .int .u64 (IntKind.wrap .u64 o.3), .int .u64 (IntKind.wrap .u64 o.4)]) (.leaf [.int .u64 s, .int .u64 0, .int .u64 (IntKind.wrap .u64 o.3), .int .u64 (IntKind.wrap .u64 o.4)])) (.br (decide ((IntKind.wrap .u64 o.2) > 4294967295)) (.leaf [.int .u64 s, .int .u64 0, .int .u64 (IntKind.wrap .u64 o.3), .int .u64 (IntKind.wrap .u64 o.4)]) (.leaf [.int .u64 s, .int .u64 (ior .u64 (iandNot .u64 (ior .u64 0 (ishl .u64 (IntKind.wrap .u64 o.1) 0)) 1099511627520) (ishl .u64 (IntKind.wrap .u64 o.2) 8)), .int .u64 (IntKind.wrap .u64 o.3), .int .u64 (IntKind.wrap .u64 o.4)])))
def ks_oplaid : List CK := [.i .u64, .i .u64, .i .u64, .i .u64]
noncomputable def sh_oplaid (l : List AV) : AV := .agg [lget l 0, lget l 1, lget l 2, lget l 3]
noncomputable def f_oplaid_0 (s : Int) (o : Opr) : Int := (T_oplaid s o).int 0
noncomputable def f_oplaid_1 (s : Int) (o : Opr) : Int := (T_oplaid s o).int 1
noncomputable def f_oplaid_2 (s : Int) (o : Opr) : Int := (T_oplaid s o).int 2
noncomputable def f_oplaid_3 (s : Int) (o : Opr) : Int := (T_oplaid s o).int 3
noncomputable def o_oplaid (s : Int) (o : Opr) : AV := .agg [.int .u64 (f_oplaid_0 s o), .int .u64 (f_oplaid_1 s o), .int .u64 (f_oplaid_2 s o), .int .u64 (f_oplaid_3 s o)]
noncomputable def S_oplaid : Sum := (63, on2 (rI .u64) rOpr (fun s o => true) (fun s o => o_oplaid s o))
theorem t_oplaid (s : Int) (o : Opr) (k : AV → Bool) : runF (cfg []) 400 63 [.int .u64 s, o.av] k false = (T_oplaid s o).ev (fun l => k (sh_oplaid l)) false := by kernel_rfl
theorem fits_oplaid (s : Int) (o : Opr) : (T_oplaid s o).fits ks_oplaid = true := by kernel_rfl
theorem s_oplaid : SumOk Tryz.prog (gmap gs) S_oplaid := on2_sum fun s o hp => acalls_eq base sums_nil (n := 400) fun k hk => (t_oplaid s o k).trans ((Tr.merge (fits_oplaid s o) (Tr.ok_of_total (by kernel_rfl))).trans hk)
noncomputable def T_regof (l : Cel) : Tr := (.leaf [.int .u64 l.1, .int .u8 (IntKind.wrap .u8 (iand .u64 (ishr .u64 l.2 0) 31)), .int .u8 (IntKind.wrap .u8 (iand .u64 (ishr .u64 l.2 5) 127)), .int .u8 (IntKind.wrap .u8 (iand .u64 (ishr .u64 l.2 12) 15)), .int .u32 (IntKind.wrap .u32 (iand .u64 (ishr .u64 l.3 0) 4294967295)), .int .u32 (IntKind.wrap .u32 (iand .u64 (ishr .u64 l.3 32) 4294967295)), .int .u8 (IntKind.wrap .u8 (iand .u64 (ishr .u64 l.2 16) 31)), .int .u8 (IntKind.wrap .u8 (iand .u64 (ishr .u64 l.2 21) 127)), .int .u8 (IntKind.wrap .u8 (iand .u64 (ishr .u64 l.2 28) 127)), .int .u8 (IntKind.wrap .u8 (iand .u64 (ishr .u64 l.2 35) 63)), .int .u8 (IntKind.wrap .u8 (iand .u64 (ishr .u64 l.2 41) 63)), .int .u8 (IntKind.wrap .u8 (iand .u64 (ishr .u64 l.2 47) 7)), .int .u32 (IntKind.wrap .u32 (iand .u64 (ishr .u64 l.4 0) 4294967295)), .int .u32 (IntKind.wrap .u32 (iand .u64 (ishr .u64 l.4 32) 4294967295))])
def ks_regof : List CK := [.i .u64, .i .u8, .i .u8, .i .u8, .i .u32, .i .u32, .i .u8, .i .u8, .i .u8, .i .u8, .i .u8, .i .u8, .i .u32, .i .u32]
noncomputable def sh_regof (l : List AV) : AV := .agg [lget l 0, lget l 1, lget l 2, lget l 3, lget l 4, lget l 5, lget l 6, lget l 7, lget l 8, lget l 9, lget l 10, lget l 11, lget l 12, lget l 13]
noncomputable def f_regof_0 (l : Cel) : Int := (T_regof l).int 0
noncomputable def f_regof_1 (l : Cel) : Int := (T_regof l).int 1
noncomputable def f_regof_2 (l : Cel) : Int := (T_regof l).int 2
noncomputable def f_regof_3 (l : Cel) : Int := (T_regof l).int 3
noncomputable def f_regof_4 (l : Cel) : Int := (T_regof l).int 4
noncomputable def f_regof_5 (l : Cel) : Int := (T_regof l).int 5
noncomputable def f_regof_6 (l : Cel) : Int := (T_regof l).int 6
noncomputable def f_regof_7 (l : Cel) : Int := (T_regof l).int 7
noncomputable def f_regof_8 (l : Cel) : Int := (T_regof l).int 8
noncomputable def f_regof_9 (l : Cel) : Int := (T_regof l).int 9
noncomputable def f_regof_10 (l : Cel) : Int := (T_regof l).int 10
noncomputable def f_regof_11 (l : Cel) : Int := (T_regof l).int 11
noncomputable def f_regof_12 (l : Cel) : Int := (T_regof l).int 12
noncomputable def f_regof_13 (l : Cel) : Int := (T_regof l).int 13
noncomputable def o_regof (l : Cel) : AV := .agg [.int .u64 (f_regof_0 l), .int .u8 (f_regof_1 l), .int .u8 (f_regof_2 l), .int .u8 (f_regof_3 l), .int .u32 (f_regof_4 l), .int .u32 (f_regof_5 l), .int .u8 (f_regof_6 l), .int .u8 (f_regof_7 l), .int .u8 (f_regof_8 l), .int .u8 (f_regof_9 l), .int .u8 (f_regof_10 l), .int .u8 (f_regof_11 l), .int .u32 (f_regof_12 l), .int .u32 (f_regof_13 l)]
noncomputable def S_regof : Sum := (34, on1 rCel (fun l => true) (fun l => o_regof l))
theorem t_regof (l : Cel) (k : AV → Bool) : runF (cfg []) 600 34 [l.av] k false = (T_regof l).ev (fun l => k (sh_regof l)) false := by kernel_rfl
theorem fits_regof (l : Cel) : (T_regof l).fits ks_regof = true := by kernel_rfl
theorem s_regof : SumOk Tryz.prog (gmap gs) S_regof := on1_sum fun l hp => acalls_eq base sums_nil (n := 600) fun k hk => (t_regof l k).trans ((Tr.merge (fits_regof l) (Tr.ok_of_total (by kernel_rfl))).trans hk)
noncomputable def T_fits (c : Conf) (o : Opr) : Tr := (.br (decide (o.1 = 1)) (.br (decide (o.4 ≤ 2147483647)) (.br (decide (o.3 ≤ (IntKind.wrap .u32 c.6))) (.br (decide (o.3 < 0)) .bad (.leaf [.bool (decide (o.2 < (ishl .u32 1 o.3)))])) (.leaf [.bool Bool.false])) (.leaf [.bool Bool.false])) (.br (decide (o.1 = 2)) (.br (decide (o.4 = 0)) (.br (decide (o.3 ≤ (IntKind.wrap .u32 c.6))) (.br (decide (o.3 < 0)) .bad (.leaf [.bool (decide (o.2 < (ishl .u32 1 o.3)))])) (.leaf [.bool Bool.false])) (.leaf [.bool Bool.false])) (.br (decide (o.1 = 3)) (.br (decide (o.4 = 0)) (.br (decide (o.3 = 0)) (.br (decide (c.6 < 0)) .bad (.leaf [.bool (decide (o.2 < (ishl .u32 1 c.6)))])) (.leaf [.bool Bool.false])) (.leaf [.bool Bool.false])) (.br (decide (o.1 = 5)) (.br (decide (o.4 = 0)) (.br (decide (o.3 = 0)) (.br (decide (o.2 ≤ 2147483647)) (.leaf [.bool (decide (o.3 ≤ 2147483647))]) (.leaf [.bool Bool.false])) (.leaf [.bool Bool.false])) (.leaf [.bool Bool.false])) (.br (decide (o.1 = 6)) (.br (decide (o.4 = 0)) (.br (decide (o.3 = 0)) (.br (decide (o.2 ≤ 2147483647)) (.leaf [.bool (decide (o.3 ≤ 2147483647))]) (.leaf [.bool Bool.false])) (.leaf [.bool Bool.false])) (.leaf [.bool Bool.false])) (.br (decide (o.1 = 7)) (.br (decide (o.4 = 0)) (.br (decide (o.3 = 0)) (.br (decide (o.2 ≤ 2147483647)) (.leaf [.bool (decide (o.3 ≤ 2147483647))]) (.leaf [.bool Bool.false])) (.leaf [.bool Bool.false])) (.leaf [.bool Bool.false])) (.br (decide (o.1 = 4)) (.br (decide (o.4 = 0)) (.br (decide (o.2 ≤ 2147483647)) (.leaf [.bool (decide (o.3 ≤ 2147483647))]) (.leaf [.bool Bool.false])) (.leaf [.bool Bool.false])) (.br (decide (o.1 = 8)) (.br (decide (o.4 = 0)) (.br (decide (o.2 ≤ 2147483647)) (.leaf [.bool (decide (o.3 ≤ 2147483647))]) (.leaf [.bool Bool.false])) (.leaf [.bool Bool.false])) (.br (decide (o.1 = 11)) (.br (decide (o.4 = 0)) (.br (decide ((IntKind.wrap .u32 (o.2 - 1)) < 65535)) (.leaf [.bool (decide ((IntKind.wrap .u32 (o.3 - 1)) < 65535))]) (.leaf [.bool Bool.false])) (.leaf [.bool Bool.false])) (.br (decide (o.1 = 9)) (.br (decide (o.4 = 1)) (.br (decide (o.2 ≤ 65535)) (.leaf [.bool (decide (o.3 ≤ 65535))]) (.leaf [.bool Bool.false])) (.br (decide (o.4 = 2)) (.br (decide (o.2 ≤ 65535)) (.leaf [.bool (decide (o.3 ≤ 65535))]) (.leaf [.bool Bool.false])) (.leaf [.bool Bool.false]))) (.br (decide (o.1 = 10)) (.br (decide (o.4 = 0)) (.br (decide (o.2 ≤ 65535)) (.leaf [.bool (decide (o.3 ≤ 65535))]) (.leaf [.bool Bool.false])) (.leaf [.bool Bool.false])) (.br (decide (o.1 = 12)) (.br (decide (o.4 ≤ 2147483647)) (.leaf [.bool (f_path_0 o.2 o.3)]) (.leaf [.bool Bool.false])) (.br (decide (o.4 = 0)) (.leaf [.bool (f_path_0 o.2 o.3)]) (.leaf [.bool Bool.false]))))))))))))))
def ks_fits : List CK := [.b]
noncomputable def sh_fits (l : List AV) : AV := lget l 0
noncomputable def f_fits_0 (c : Conf) (o : Opr) : Bool := (T_fits c o).bool 0
noncomputable def o_fits (c : Conf) (o : Opr) : AV := .bool (f_fits_0 c o)
noncomputable def ok_fits (c : Conf) (o : Opr) : Bool := (T_fits c o).ok
noncomputable def S_fits : Sum := (31, on2 rConf rOpr (fun c o => ok_fits c o) (fun c o => o_fits c o))
theorem t_fits (c : Conf) (o : Opr) (k : AV → Bool) : runF (cfg [S_path]) 300 31 [c.av, o.av] k false = (T_fits c o).ev (fun l => k (sh_fits l)) false := by kernel_rfl
theorem fits_fits (c : Conf) (o : Opr) : (T_fits c o).fits ks_fits = true := by kernel_rfl
theorem s_fits : SumOk Tryz.prog (gmap gs) S_fits := on2_sum fun c o hp => acalls_eq base (sums_cons s_path sums_nil) (n := 300) fun k hk => (t_fits c o k).trans ((Tr.merge (fits_fits c o) hp).trans hk)
noncomputable def T_opc (c : Conf) (o : Opr) : Tr := (.br ((!decide ((errC c) = 0))) (.leaf [.int .i64 (errC c)]) (.br ((ok_obj o.1)) (.br ((!decide ((f_obj_0 o.1) = c.1))) (.leaf [.int .i64 50]) (.br ((ok_fits c o)) (.br ((!(f_fits_0 c o))) (.leaf [.int .i64 10]) (.leaf [.int .i64 0])) .bad)) .bad))
def ks_opc : List CK := [.i .i64]
noncomputable def sh_opc (l : List AV) : AV := lget l 0
noncomputable def f_opc_0 (c : Conf) (o : Opr) : Int := (T_opc c o).int 0
noncomputable def o_opc (c : Conf) (o : Opr) : AV := .int .i64 (f_opc_0 c o)
noncomputable def ok_opc (c : Conf) (o : Opr) : Bool := (T_opc c o).ok
noncomputable def S_opc : Sum := (14, on2 rConf rOpr (fun c o => ok_opc c o) (fun c o => o_opc c o))
theorem t_opc (c : Conf) (o : Opr) (k : AV → Bool) : runF (cfg [S_check, S_obj, S_fits]) 300 14 [c.av, o.av] k false = (T_opc c o).ev (fun l => k (sh_opc l)) false := by kernel_rfl
theorem fits_opc (c : Conf) (o : Opr) : (T_opc c o).fits ks_opc = true := by kernel_rfl
theorem s_opc : SumOk Tryz.prog (gmap gs) S_opc := on2_sum fun c o hp => acalls_eq base (sums_cons s_check (sums_cons s_obj (sums_cons s_fits sums_nil))) (n := 300) fun k hk => (t_opc c o k).trans ((Tr.merge (fits_opc c o) hp).trans hk)
end Go.Bas.BasZOp
end
