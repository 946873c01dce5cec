/- The engine, part Mc: runs over code some pieces of which are known; regions with calls that are walked apart. -/
import Derived.Test.YtehfcbppcfpjoaaGreatDoorBasNMb
namespace Go.Bas
open Go.RowKit
set_option linter.unusedSimpArgs false
set_option linter.unusedVariables false
section
variable {C : Cfg}
/-- A region with a fixed order, its calls as they are proved to go. -/
theorem AWp.region (hC : C.Ok) {inr : Option Nat} {id : Nat} {ops : Array Oper} {st : St} {k : Ex → St → Bool}
    (h : opsK C (callR C (goA C) false) ops ops.toList st (fun st' => k .normal st') (fun v st' => k (.panic v) st') false = true) :
    AWp C inr (.region id ops false) st (fun e s => k e s = true) := fun w B oC oL ω a Q ro S hI hQ => by
  refine wpIn_region ?_
  have := ops_sound (ro := ro) (Q := Q) (ops := ops) (call_sound hC goA_ok) (mapOk C) ops.toList 0 rfl st a w oC oL ω h S (fun st' a' w' oC' oL' ω' S' E hk' => hQ .normal _ _ _ _ _ _ _ S' E hk' rfl)
    (fun v u st' a' w' oC' oL' ω' S' E hk' hr => hQ (.panic v) _ _ _ _ _ _ _ S' E hk' ⟨u, rfl, hr⟩)
  rw [List.range_eq_range']
  simpa using this

/-- What a function does where it stands, out of its body. -/
theorem inp_of_awp (hC : C.Ok) {f : FuncId} {fn : Func} {c : Code} (hfn : C.P.funcs[f]? = some fn) (hb : fn.body = some c) (hX : C.X f = none) (hS : C.S f = none) (hQ : C.Q f = false) {F : List AV → Mem → TrM}
    (h : ∀ args m (kk : AV → Mem → Bool), (F args m).ev kk false = true → AWp C none c ⟨padL args fn.ntmps, [], m⟩ (fun e st' => (e = .ret ∨ e = .normal) ∧ closeK st'.ds st'.m.lp (fun lp => resK C fn st' (fun v => kk v ⟨st'.m.heap, st'.m.nx, lp⟩) false) false = true)) : InpOk C f F := fun args m kk w B oC oL ω us hk M hr => by
  refine call_sound hC goA_ok (.fn f) args m kk (fun _ _ => false) w B oC oL ω us ?_ M hr
  rw [callR_in hfn hb hX hS hQ]
  refine goA_true ((h args m kk hk).mono fun e s he => ?_)
  rcases he with ⟨rfl | rfl, he⟩
  · exact he
  · exact he
/-- The same over numbers kept: what is above a number is let go. -/
def LessD (C : Cfg) (n : Nat) (st st' : St) : Prop := n ≤ st'.m.nx ∧ st'.m.nx ≤ st.m.nx ∧ ∀ (w : World) (B oC oL : Nat → Prop) (ω : Nat → Option Nat) (a : Act), Sim C w B oC oL ω st a → Sim C w B oC oL ω st' a
theorem LessS.d {st st' : St} (h : LessS C st st') : LessD C st.m.nx st st' := ⟨by rw [h.1]; exact Nat.le_refl _, by rw [h.1]; exact Nat.le_refl _, h.2⟩
theorem LessD.trans {n : Nat} {st st1 st2 : St} (h : LessD C n st st1) (h' : LessD C n st1 st2) : LessD C n st st2 := ⟨h'.1, Nat.le_trans h'.2.1 h.2.1, fun w B oC oL ω a S => h'.2.2 _ _ _ _ _ _ (h.2.2 _ _ _ _ _ _ S)⟩
theorem ExtR.lowN {w w' : World} {oC oL oC' oL' : Nat → Prop} {ω ω' : Nat → Option Nat} {nx nx' n' : Nat} (E : ExtR w oC oL ω nx w' oC' oL' ω' nx') (h : nx ≤ n') : ExtR w oC oL ω nx w' oC' oL' ω' n' :=
  ⟨E.os, E.tape, E.output, E.size, E.old, E.owns, h, E.om, E.row⟩
/-- No loop, and no mark, leads into the blocks that are let go. -/
noncomputable def lowLp (n : Nat) (st : St) : Bool := (st.m.lp.all fun p => Nat.blt p.1 n && (match p.2 with
  | .dfb => true
  | .obj _ => true
  | .lop _ _ tmps _ _ _ d => tmps.all (AV.under n 8) && Nat.blt d n)) && st.ds.all (fun d => Nat.blt d n)
theorem lpget_mem {lp : Loops} {id : Nat} {e : LB} : lpget lp id = some e → ∃ p ∈ lp, p.1 = id ∧ p.2 = e := by
  induction lp with
  | nil => intro h; cases h
  | cons p r ih =>
    intro h
    simp only [lpget] at h
    cases hc : Nat.beq p.1 id with
    | true => rw [hc] at h; exact ⟨p, List.mem_cons_self .., of_beq hc, Option.some.inj h⟩
    | false => rw [hc] at h; obtain ⟨q, hq, e⟩ := ih h; exact ⟨q, List.mem_cons_of_mem _ hq, e⟩
theorem Marks.low {ω : Nat → Option Nat} {nx n : Nat} : ∀ {ds : List Nat} {xs : List Deferred}, Marks ω nx ds xs → (∀ d ∈ ds, Nat.blt d n = true) → Marks ω n ds xs
  | [], [], _, _ => trivial
  | d :: ds, x :: xs, h, hd => ⟨⟨blt_lt (hd d (List.mem_cons_self ..)), h.1.2⟩, Marks.low h.2 (fun e he => hd e (List.mem_cons_of_mem _ he))⟩
  | [], _ :: _, h, _ => h.elim
  | _ :: _, [], h, _ => h.elim
/-- Blocks are let go, and their numbers are free again, in a loop's round too. -/
theorem LessD.drop {st : St} (n base : Nat) (hb : base ≤ n) (hn : n ≤ st.m.nx) (hok : lowOk n st = true) (hlp : lowLp n st = true) : LessD C base st ⟨st.tmps, st.ds, ⟨hlow n st.m.heap, n, st.m.lp⟩⟩ := ⟨hb, hn, fun w B oC oL ω a S => by
  simp only [lowOk, Bool.and_eq_true, List.all_eq_true] at hok
  simp only [lowLp, Bool.and_eq_true, List.all_eq_true] at hlp
  refine ⟨⟨S.tm.1, fun i hi => (S.tm.2 i hi).lower (hok.1 _ (List.getElem_mem hi))⟩, S.dn.low hlp.2, ⟨⟨fun id hb h => ?_, fun i j b h1 h2 => ?_, S.ms.hp.ob⟩, ⟨fun id e h => ?_, S.ms.lp.inj, S.ms.lp.dis⟩, S.ms.gl, S.ms.gb, S.ms.bl⟩⟩
  · obtain ⟨h1, h2⟩ := hget_hlow n id hb _ h
    obtain ⟨q1, b, arr, q2, q3, q4, q5, q6⟩ := S.ms.hp.rel id hb h2
    refine ⟨h1, b, arr, q2, q3, q4, q5, fun i hi => ?_⟩
    have := q6 i hi
    cases hp : hb.pure with
    | true => rw [hp] at this; exact this
    | false =>
      rw [hp] at this
      obtain ⟨p, hp1, hp2⟩ := hget_mem h
      have h3 := hok.2 p hp1
      rw [hp2, hp, Bool.false_or, List.all_eq_true] at h3
      exact this.lower (h3 _ (List.getElem_mem hi))
  · obtain ⟨x1, e1⟩ := Option.isSome_iff_exists.1 h1
    obtain ⟨x2, e2⟩ := Option.isSome_iff_exists.1 h2
    obtain ⟨_, e1⟩ := hget_hlow n i x1 _ e1
    obtain ⟨_, e2⟩ := hget_hlow n j x2 _ e2
    exact S.ms.hp.inj i j b (by rw [e1]; rfl) (by rw [e2]; rfl)
  · obtain ⟨p, hp1, rfl, rfl⟩ := lpget_mem h
    obtain ⟨g1, l, g2, g3, g4⟩ := S.ms.lp.rel p.1 p.2 h
    obtain ⟨k1, k2⟩ := hlp.1 p hp1
    refine ⟨blt_lt k1, l, g2, g3, ?_⟩
    cases hq : p.2 with
    | dfb => rw [hq] at g4; exact g4
    | obj o => rw [hq] at g4; exact g4
    | lop s pend tmps params asg body d =>
      rw [hq] at g4 k2
      simp only [Bool.and_eq_true, List.all_eq_true] at k2
      obtain ⟨r, r1, r2, r3, r4, r5, r6, r7, r8, r9, r10⟩ := g4
      exact ⟨r, r1, r2, r3, r4, ⟨r5.1, fun i hi => (r5.2 i hi).lower (k2.1 _ (List.getElem_mem hi))⟩, r6, r7, r8, blt_lt k2.2, r10⟩⟩
/-- A loop, by a family of states over the same numbers and a measure. -/
theorem AWp.loopD {K : Ex → St → Prop} {ι : Type} {inr : Option Nat} {body : Code} (I : ι → St) (n0 : Nat) (hn0 : ∀ i, (I i).m.nx = n0) (μ : ι → Nat) (h : ∀ i, AWp C inr body (I i) (fun e s => match e with | .normal => ∃ j, μ j < μ i ∧ LessD C n0 s (I j) | .panic _ => False | e => ∃ s', LessD C n0 s s' ∧ K e s')) (i : ι) : AWp C inr (.loop body) (I i) K := fun w B oC oL ω a Q ro S hI hQ => by
  have key : ∀ (m : Nat) (i : ι) (a : Act) (w : World) (oC oL : Nat → Prop) (ω : Nat → Option Nat), μ i < m → Sim C w B oC oL ω (I i) a → InR ω (I i).m.nx inr ro →
      (∀ e st' a' w' oC' oL' ω' out, Sim C w' B oC' oL' ω' st' a' → ExtR w oC oL ω (I i).m.nx w' oC' oL' ω' st'.m.nx → K e st' → OutIs w' B oC' oL' ω' st'.m.nx e out → Q out a' w') → Code.roundsIn (Fr ro) 0 C.P body Q m a w := by
    intro m
    induction m with
    | zero => intro i a w oC oL ω h; exact absurd h (Nat.not_lt_zero _)
    | succ m ih =>
      intro i a w oC oL ω hm S hI hQ
      rw [roundsIn_succ]
      refine h i w B oC oL ω a _ ro S hI (fun e st' a' w' oC' oL' ω' out S' E hk ho => ?_)
      cases e with
      | normal =>
        obtain ⟨j, hj, hl⟩ := hk
        subst ho
        have E1 : ExtR w oC oL ω (I i).m.nx w' oC' oL' ω' (I j).m.nx := E.lowN (by rw [hn0, hn0]; exact Nat.le_refl _)
        exact ih j a' w' oC' oL' ω' (by omega) (hl.2.2 _ _ _ _ _ _ S') (hI.ext E1) (fun e2 st2 a2 w2 oC2 oL2 ω2 out2 S2 E2 hk2 ho2 => hQ e2 st2 a2 w2 oC2 oL2 ω2 out2 S2 (E1.trans E2) hk2 ho2)
      | exit id =>
        obtain ⟨s', hl, hk⟩ := hk
        subst ho
        exact hQ (.exit id) s' a' w' oC' oL' ω' _ (hl.2.2 _ _ _ _ _ _ S') (E.lowN (by rw [hn0]; exact hl.1)) hk rfl
      | goto l =>
        obtain ⟨s', hl, hk⟩ := hk
        subst ho
        exact hQ (.goto l) s' a' w' oC' oL' ω' _ (hl.2.2 _ _ _ _ _ _ S') (E.lowN (by rw [hn0]; exact hl.1)) hk rfl
      | ret =>
        obtain ⟨s', hl, hk⟩ := hk
        subst ho
        exact hQ .ret s' a' w' oC' oL' ω' _ (hl.2.2 _ _ _ _ _ _ S') (E.lowN (by rw [hn0]; exact hl.1)) hk rfl
      | panic v => exact hk.elim
  exact wpIn_loop_rounds (μ i + 1) (key (μ i + 1) i a w oC oL ω (Nat.lt_succ_self _) S hI hQ)
/-- Code with its known pieces marked. -/
def mkB (m : Code → Option LF) (c : Code) : AC :=
  match m c with
  | some F => .known c F
  | none => match c with
    | .seq a b => .seq (mkB m a) (mkB m b)
    | .cond o a b => .cond o (mkB m a) (mkB m b)
    | .block id a => .block id (mkB m a)
    | c => .leaf c
/-- The known pieces. -/
def marksOf (m : Code → Option LF) (c : Code) : List Code :=
  match m c with
  | some _ => [c]
  | none => match c with
    | .seq a b => marksOf m a ++ marksOf m b
    | .cond _ a b => marksOf m a ++ marksOf m b
    | .block _ a => marksOf m a
    | _ => []
theorem mkB_code (m : Code → Option LF) : ∀ c : Code, (mkB m c).code = c := fun c => by
  induction c with
  | seq a b ha hb =>
    unfold mkB
    split
    · rfl
    · show Code.seq (mkB m a).code (mkB m b).code = _; rw [ha, hb]
  | cond o a b ha hb =>
    unfold mkB
    split
    · rfl
    · show Code.cond o (mkB m a).code (mkB m b).code = _; rw [ha, hb]
  | block id a ha =>
    unfold mkB
    split
    · rfl
    · show Code.block id (mkB m a).code = _; rw [ha]
  | _ => unfold mkB; split <;> rfl
def PieceOk (C : Cfg) (c : Code) (F : LF) : Prop := ∀ st k, F st k = true → AWp C none c st (fun e s => k e s = true)
theorem mkB_ok {m : Code → Option LF} : ∀ {c : Code}, (∀ c' ∈ marksOf m c, ∀ F, m c' = some F → PieceOk C c' F) → (mkB m c).OkP C := fun {c} => by
  induction c with
  | seq a b ha hb =>
    intro h
    unfold mkB
    split
    · rename_i F hF
      exact fun st k hk => h _ (by unfold marksOf; rw [hF]; exact List.mem_singleton.2 rfl) F hF st k hk
    · rename_i hF
      have e : marksOf m (.seq a b) = marksOf m a ++ marksOf m b := by conv => lhs; unfold marksOf; rw [hF]
      rw [e] at h
      exact ⟨ha fun c' hc => h c' (List.mem_append_left _ hc), hb fun c' hc => h c' (List.mem_append_right _ hc)⟩
  | cond o a b ha hb =>
    intro h
    unfold mkB
    split
    · rename_i F hF
      exact fun st k hk => h _ (by unfold marksOf; rw [hF]; exact List.mem_singleton.2 rfl) F hF st k hk
    · rename_i hF
      have e : marksOf m (.cond o a b) = marksOf m a ++ marksOf m b := by conv => lhs; unfold marksOf; rw [hF]
      rw [e] at h
      exact ⟨ha fun c' hc => h c' (List.mem_append_left _ hc), hb fun c' hc => h c' (List.mem_append_right _ hc)⟩
  | block id a ha =>
    intro h
    unfold mkB
    split
    · rename_i F hF
      exact fun st k hk => h _ (by unfold marksOf; rw [hF]; exact List.mem_singleton.2 rfl) F hF st k hk
    · rename_i hF
      have e : marksOf m (.block id a) = marksOf m a := by conv => lhs; unfold marksOf; rw [hF]
      rw [e] at h
      exact ha h
  | _ =>
    intro h
    unfold mkB
    split
    · rename_i F hF
      exact fun st k hk => h _ (by unfold marksOf; rw [hF]; exact List.mem_singleton.2 rfl) F hF st k hk
    · trivial
/-- A run over code with known pieces. -/
noncomputable def runB (C : Cfg) (n : Nat) (m : Code → Option LF) (c : Code) (st : St) (k : Ex → St → Bool) : Bool := runA C n (mkB m c) st k
theorem runB_sound (hC : C.Ok) {n : Nat} {m : Code → Option LF} {c : Code} {st : St} {k : Ex → St → Bool} (hm : ∀ c' ∈ marksOf m c, ∀ F, m c' = some F → PieceOk C c' F) (h : runB C n m c st k = true) : AWp C none c st (fun e s => k e s = true) := by
  have := runA_soundP hC (mkB m c) st k (mkB_ok hm) h
  rwa [mkB_code] at this
end
end Go.Bas
