/- The engine: a region that stands behind a deferred call: what is deferred stays as it is. -/
import Derived.Test.YtehfcbppcfpjoaaGreatDoorBasXr
import Derived.DefersIn
import Derived.RecoverIn
namespace Go.Bas
open Go.RowKit
set_option linter.unusedSimpArgs false
set_option linter.unusedVariables false
def withD (a : Act) (ds : List Deferred) : Act := { a with defers := ds }
theorem put_withD (a : Act) (ds : List Deferred) (dst : Option Nat) (u : Value) : (withD a ds).put dst u = withD (a.put dst u) ds := by cases dst <;> rfl
section
variable {C : Cfg} {B : Nat → Prop}
theorem ops_soundD {call : CallF Bool} (hcall : CallOk C call) (hmap : MapOk C) {ro : Option Nat} {ops : Array Oper} {Q : Exit → Act → World → Prop} {k : St → Bool} {kp : AV → St → Bool} {ds : List Deferred} :
    ∀ (rest : List Oper) (i : Nat), ops.toList.drop i = rest → ∀ (st : St) (a : Act) (w : World) (oC oL : Nat → Prop) (ω : Nat → Option Nat), opsK C call ops rest st k kp false = true → Sim C w B oC oL ω st a →
      (∀ st' a' w' oC' oL' ω', Sim C w' B oC' oL' ω' st' a' → ExtR w oC oL ω st.m.nx w' oC' oL' ω' st'.m.nx → k st' = true → Q .normal (withD a' ds) w') →
      (∀ v u st' a' w' oC' oL' ω', Sim C w' B oC' oL' ω' st' a' → ExtR w oC oL ω st.m.nx w' oC' oL' ω' st'.m.nx → kp v st' = true → Rep w' (Or2 B oL') oC' ω' st'.m.nx v u → Q (.panic [{ v := u, recovered := false }]) (withD a' ds) w') →
      wpOpsIn (Fr ro) 0 C.P ops Q (List.range' i rest.length) (withD a ds) w
  | [], i, _, st, a, w, oC, oL, ω, hk, S, hQ, hP => hQ st a w oC oL ω S ExtR.refl hk
  | o :: r, i, hd, st, a, w, oC, oL, ω, hk, S, hQ, hP => by
    have hlt : i < ops.toList.length := by
      rcases Nat.lt_or_ge i ops.toList.length with h | h
      · exact h
      · rw [List.drop_eq_nil_of_le h] at hd; cases hd
    have ho : ops[i]? = some o := by
      have h0 : (ops.toList.drop i)[0]? = some o := by rw [hd]; rfl
      rw [List.getElem?_drop] at h0
      simpa using h0
    have hr : ops.toList.drop (i + 1) = r := by rw [← List.drop_drop, hd]; rfl
    have go : ∀ (v : AV) (u : Value) (m' : Mem) (w' : World) (oC' oL' : Nat → Prop) (ω' : Nat → Option Nat), opsK C call ops r ⟨setT st.tmps o.dst v, st.ds, m'⟩ k kp false = true → ExtR w oC oL ω st.m.nx w' oC' oL' ω' m'.nx → MemSim C w' B oC' oL' ω' m' → Rep w' (Or2 B oL') oC' ω' m'.nx v u →
        wpOpsIn (Fr ro) 0 C.P ops Q (List.range' (i + 1) r.length) ((withD a ds).put o.dst u) w' := fun v u m' w' oC' oL' ω' hk E M hr' => by
      rw [put_withD]
      exact ops_soundD hcall hmap r (i + 1) hr _ _ w' oC' oL' ω' hk (S.put E M hr') (fun st' a' w'' oC'' oL'' ω'' S' E' hk' => hQ st' a' w'' oC'' oL'' ω'' S' (E.trans E') hk')
        (fun v u st' a' w'' oC'' oL'' ω'' S' E' hk' hr'' => hP v u st' a' w'' oC'' oL'' ω'' S' (E.trans E') hk' hr'')
    simp only [List.length_cons, List.range'_succ, wpOpsIn, ho]
    rw [opsK_cons] at hk
    have htm : (withD a ds).tmps = a.tmps := rfl
    rw [htm]
    rcases guardK_sound S.tm hk with ⟨hw, h⟩ | ⟨hw, h⟩
    · rw [if_pos hw]
      rcases of_cond2 h with ⟨hb, h⟩ | ⟨hb, h⟩
      · obtain ⟨v, u, m', w', oC', oL', ω', hrun, h1, h2, h3, h4⟩ := hmap w B oC oL ω st.m _ (withD a ds).eval o _ h S.ms S.ev
        refine ⟨about_fr _ _ _ _ _, ?_⟩
        rw [Oper.semAt_eq _ _ _ (fun c e => by rw [e] at hb; cases hb)]
        have := go v u m' w' oC' oL' ω' h1 h2 h3 h4
        rcases hrun with hrun | ⟨hrun, rfl⟩
        · rw [hrun, Oper.uponIn_value]; exact this
        · rw [hrun, Oper.uponIn_skip]; exact this
      exact oper_wp hcall (st := st) (a := withD a ds) (h := st.m.heap) S.ms S.ev h (fun v u h' nx' w' oC' ω' hk' E M hr' => go v u _ w' oC' oL ω' hk' E.toR M hr')
        (fun v m' => opsK C call ops r ⟨setT st.tmps o.dst v, st.ds, m'⟩ k kp false) (fun v m' => kp v ⟨st.tmps, st.ds, m'⟩) (fun t args h => h)
        (fun v u m' w' oC' oL' ω' hk' E M hr' => go v u m' w' oC' oL' ω' hk' E M hr')
        (fun v u m' w' oC' oL' ω' hk' E M hr' => hP v u ⟨st.tmps, st.ds, m'⟩ a w' oC' oL' ω' ⟨S.tm.extR E, S.dn.extR E, M⟩ E hk' hr')
        (fun v u hk' hr' => hP v u _ a w oC oL ω S ExtR.refl hk' hr')
    · rw [if_neg (by simp [hw])]
      exact ⟨about_fr _ _ _ _ _, go (.tup []) undef st.m w oC oL ω h ExtR.refl S.ms (.tup _ _ _ rfl (fun i hi => absurd hi (Nat.not_lt_zero _)))⟩
/-- Of the loops' blocks nothing is looked at again. -/
noncomputable def dropLp (st : St) : St := ⟨st.tmps, st.ds, ⟨st.m.heap, st.m.nx, []⟩⟩
theorem LessS.dropLp (st : St) : LessS C st (Bas.dropLp st) := ⟨rfl, fun w B oC oL ω a S => ⟨S.tm, S.dn, ⟨S.ms.hp, ⟨fun id e h => (by cases h), fun i j l h => (by cases h), S.ms.lp.dis⟩, S.ms.gl, S.ms.gb, S.ms.bl⟩⟩⟩
noncomputable def keepSN (ls ids : List Nat) (st : St) : St := Bas.dropLp (keepSH ls ids st)
theorem LessS.keepSN (ls ids : List Nat) (st : St) : LessS C st (Bas.keepSN ls ids st) := (LessS.keepSH ls ids st).trans' (LessS.dropLp _)
variable {n : Nat} {Q : Exit → Act → World → Prop}
/-- Pieces of code one behind the other, none of which leaves. -/
noncomputable def runs {Ω : Type} (C : Cfg) (n : Nat) : List Code → St → (St → Ω) → Ω → Ω
  | [], st, k, _ => k st
  | p :: ps, st, k, z => run C n none none p st (fun e s => match e with
    | .normal => runs C n ps s k z
    | _ => z) z
def seqs : List Code → Code → Code
  | [], t => t
  | p :: ps, t => .seq p (seqs ps t)
theorem runs_wp (hC : C.Ok) {t : Code} {k : St → Bool} : ∀ (ps : List Code) (st : St) (a : Act) (w : World) (oC oL : Nat → Prop) (ω : Nat → Option Nat), runs C n ps st k false = true → Sim C w B oC oL ω st a →
    (∀ s a' w' oC' oL' ω', k s = true → Sim C w' B oC' oL' ω' s a' → ExtR w oC oL ω st.m.nx w' oC' oL' ω' s.m.nx → t.wpIn (Fr none) 0 C.P Q a' w') → (seqs ps t).wpIn (Fr none) 0 C.P Q a w
  | [], st, a, w, oC, oL, ω, hk, S, h => h st a w oC oL ω hk S ExtR.refl
  | p :: ps, st, a, w, oC, oL, ω, hk, S, h => by
    refine wpIn_seq ?_
    refine (run_sound hC n).1 none p st _ w B oC oL ω a _ none hk S trivial (fun e s a' w' oC' oL' ω' out S' E hk' ho => ?_)
    cases e with
    | normal =>
      have ho : out = .normal := ho
      subst ho
      exact runs_wp hC ps s a' w' oC' oL' ω' hk' S' (fun s2 a2 w2 oC2 oL2 ω2 hk2 S2 E2 => h s2 a2 w2 oC2 oL2 ω2 hk2 S2 (E.trans E2))
    | exit id => cases hk'
    | goto l => cases hk'
    | ret => cases hk'
    | panic v => cases hk'
/-- A region behind a deferred call, run. -/
theorem region_wpD (hC : C.Ok) {id : Nat} {ops : Array Oper} {st : St} {a : Act} {w : World} {oC oL : Nat → Prop} {ω : Nat → Option Nat} {k : St → Bool} {kp : AV → St → Bool} {ds : List Deferred}
    (hk : opsK C (callR C (run C n) false) ops ops.toList st k kp false = true) (S : Sim C w B oC oL ω st a)
    (hQ : ∀ st' a' w' oC' oL' ω', Sim C w' B oC' oL' ω' st' a' → ExtR w oC oL ω st.m.nx w' oC' oL' ω' st'.m.nx → k st' = true → Q .normal (withD a' ds) w')
    (hP : ∀ v u st' a' w' oC' oL' ω', Sim C w' B oC' oL' ω' st' a' → ExtR w oC oL ω st.m.nx w' oC' oL' ω' st'.m.nx → kp v st' = true → Rep w' (Or2 B oL') oC' ω' st'.m.nx v u → Q (.panic [{ v := u, recovered := false }]) (withD a' ds) w') :
    (Code.region id ops false).wpIn (Fr none) 0 C.P Q (withD a ds) w := by
  refine wpIn_region ?_
  have := ops_soundD (ro := none) (Q := Q) (ops := ops) (ds := ds) (call_sound hC (run_sound hC n).1) (mapOk C) ops.toList 0 rfl st a w oC oL ω hk S hQ hP
  rw [List.range_eq_range']
  simpa using this
end
end Go.Bas
