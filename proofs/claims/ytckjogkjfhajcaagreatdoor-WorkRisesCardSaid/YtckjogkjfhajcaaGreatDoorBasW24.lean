/- The engine, part Md: loops gone through round by round, in stretches: a closed run is cut where one; How a desc's small fields are joined: the loop, and the function; How a desc's fields are joined: the contract; Contracts with no law of their own: a desc's cell; What a desc's frame is made of: numbers such asv their types have; Where a place stands: the loops' bodies; Where a place stands: the places of a part, in order, asv they are looked through. -/
import Derived.Test.YtckjogkjfhajcaaGreatDoorBasW23
import Derived.LoopNIn
section
namespace Go.Bas
open Go.RowKit
set_option linter.unusedSimpArgs false
set_option linter.unusedVariables false
section
variable {F : Fence} {n : Nat} {P : Program} {Q : Exit → Act → World → Prop} {a : Act} {w : World} {c : Code}
/-- A loop whose next round is about to begin. -/
def loopR (F : Fence) (n : Nat) (P : Program) (c : Code) (Q : Exit → Act → World → Prop) (a : Act) (w : World) : Prop :=
  ∀ (b : Frame) (k : List Item) (cs : List Frame), b.roundOf = F.round → F.fn b.fn → F.room (cs.length + 1 + n) →
    ∃ e a' w', Q e a' w' ∧ ArrivesIn (Machine.fenced P F) P (lone (b.atR a (.code c :: .inLoop c :: k)) cs w) b k cs e a' w'
theorem loopR_wp (h : loopR F n P c Q a w) : (Code.loop c).wpIn F n P Q a w := fun b k cs hro hb hr => by
  obtain ⟨e, a', w', hq, harr⟩ := h b k cs hro hb hr
  exact ⟨e, a', w', hq, .of_steps (.one (fenced_calm hb hr rfl) stepR_loop) harr⟩
theorem loopR_step (h : c.wpIn F n P (Exit.then (loopR F n P c Q) Q) a w) : loopR F n P c Q a w := fun b k cs hro hb hr => by
  obtain ⟨e, a₁, w₁, hq, harr⟩ := h b (.inLoop c :: k) cs hro hb hr
  cases e with
  | normal =>
    obtain ⟨e₂, a₂, w₂, hq₂, harr₂⟩ := hq b k cs hro hb hr
    exact ⟨e₂, a₂, w₂, hq₂, .of_steps (StepsIn.trans harr (.one (fenced_calm hb hr rfl) stepR_inLoop)) harr₂⟩
  | exit id => exact ⟨_, a₁, w₁, hq, .pass (x := .inLoop c) rfl (fun _ _ => .inl (by simp)) harr⟩
  | goto l => exact ⟨_, a₁, w₁, hq, .pass (x := .inLoop c) rfl (fun _ _ => .inl (by simp)) harr⟩
  | ret => exact ⟨_, a₁, w₁, hq, .pass (x := .inLoop c) rfl (fun _ _ => .inl (by simp)) harr⟩
  | panic ch => exact ⟨_, a₁, w₁, hq, .pass (x := .inLoop c) rfl (fun _ _ => .inl (by simp)) harr⟩
  | outgrown => exact ⟨_, a₁, w₁, hq, .pass (x := .inLoop c) rfl (fun _ _ => .inl (by simp)) harr⟩
end
section
variable {C : Cfg} {K : Ex → St → Prop} {st : St} {inr : Option Nat} {body : Code}
/-- From this state on a loop's rounds come to an end, and there 'K' holds. -/
def AWr (C : Cfg) (inr : Option Nat) (body : Code) (st : St) (K : Ex → St → Prop) : Prop :=
  ∀ (w : World) (B oC oL : Nat → Prop) (ω : Nat → Option Nat) (a : Act) (Q : Exit → Act → World → Prop) (ro : Option Nat), Sim C w B oC oL ω st a → InR ω st.m.nx inr ro →
    (∀ e st' a' w' oC' oL' ω' out, Sim C w' B oC' oL' ω' st' a' → ExtR w oC oL ω st.m.nx w' oC' oL' ω' st'.m.nx → K e st' → OutIs w' B oC' oL' ω' st'.m.nx e out → Q out a' w') → loopR (Fr ro) 0 C.P body Q a w
theorem AWr.loop (h : AWr C inr body st K) : AWp C inr (.loop body) st K := fun w B oC oL ω a Q ro S hI hQ => loopR_wp (h w B oC oL ω a Q ro S hI hQ)
theorem AWr.step (h : AWp C inr body st (fun e s => match e with | .normal => AWr C inr body s K | e => K e s)) : AWr C inr body st K := fun w B oC oL ω a Q ro S hI hQ => by
  refine loopR_step (h w B oC oL ω a _ ro S hI (fun e st' a' w' oC' oL' ω' out S' E hk ho => ?_))
  cases e with
  | normal =>
    subst ho
    exact hk w' B oC' oL' ω' a' Q ro S' (hI.ext E) (fun e2 st2 a2 w2 oC2 oL2 ω2 out2 S2 E2 hk2 ho2 => hQ e2 st2 a2 w2 oC2 oL2 ω2 out2 S2 (E.trans E2) hk2 ho2)
  | exit id => have h2 := hQ _ st' a' w' oC' oL' ω' out S' E hk ho; subst ho; exact h2
  | goto l => have h2 := hQ _ st' a' w' oC' oL' ω' out S' E hk ho; subst ho; exact h2
  | ret => have h2 := hQ _ st' a' w' oC' oL' ω' out S' E hk ho; subst ho; exact h2
  | panic v => have h2 := hQ _ st' a' w' oC' oL' ω' out S' E hk ho; obtain ⟨u, rfl, _⟩ := ho; exact h2
theorem AWr.less {st' : St} (h : LessS C st st') (hw : AWr C inr body st' K) : AWr C inr body st K := fun w B oC oL ω a Q ro S hI hQ =>
  hw w B oC oL ω a Q ro (h.2 _ _ _ _ _ _ S) (h.1 ▸ hI) (fun e s a' w' oC' oL' ω' out S' E hk ho => hQ e s a' w' oC' oL' ω' out S' (h.1 ▸ E) hk ho)
end
end Go.Bas
end
section
namespace Go.Bas.BasZJoin2
open Go.RowKit Go.Proofs Go.Bas.BasZBase Go.Bas.BasZJoin
set_option maxRecDepth 100000
set_option maxHeartbeats 1000000
set_option linter.unusedVariables false
set_option linter.unusedSimpArgs false
theorem hC0 : (cfg []).Ok := cfg_ok base sums_nil
theorem jr_code : loopN (fcode Tryz.prog 96) 0 = .rangeFunc (.tmp 12) #[13, 14] jA jB := by kernel_rfl
theorem it_code : fcode Tryz.prog 120 = .seq (sel [false] (fcode Tryz.prog 120)) (.block 0 (.loop (loopAt (fcode Tryz.prog 120) [0]))) := by kernel_rfl
theorem j_loops : loopsOf (fcode Tryz.prog 96) = [loopN (fcode Tryz.prog 96) 0] := by kernel_rfl
section
variable {v0 v1 v2 v3 v4 v5 v6 v7 v8 : Int} {K : Ex → St → Prop} {w : Int} {fits : Bool}
theorem st0 (h : AWr (cfg []) none (loopAt (fcode Tryz.prog 120) [0]) (I_j 1 5 (jstep 31 31 0 v0 (w, fits)).1 (jstep 31 31 0 v0 (w, fits)).2 v0 v1 v2 v3 v4 v5 v6 v7 v8) K) : AWr (cfg []) none (loopAt (fcode Tryz.prog 120) [0]) (I_j 0 0 w fits v0 v1 v2 v3 v4 v5 v6 v7 v8) K := by
  refine AWr.step (AWp.runK hC0 [0, 1, 2, 3, 7, 8] (n := 100) fun k hk => ?_)
  refine (t_j0 w fits v0 v1 v2 v3 v4 v5 v6 v7 v8 k).trans ?_
  refine andI rfl (andI rfl (andI rfl (condI (fun hv => ?_) (fun hv => ?_))))
  · have e : jstep 31 31 0 v0 (w, fits) = (w, false) := by unfold jstep; rw [hv]; rfl
    rw [e] at h
    exact hk .normal _ h
  · have e : jstep 31 31 0 v0 (w, fits) = (ior .u64 (iandNot .u64 w 31) (ishl .u64 v0 0), fits) := by unfold jstep; rw [hv]; rfl
    rw [e] at h
    exact andI rfl (andI rfl (hk .normal _ h))
theorem st1 (h : AWr (cfg []) none (loopAt (fcode Tryz.prog 120) [0]) (I_j 2 12 (jstep 127 4064 5 v1 (w, fits)).1 (jstep 127 4064 5 v1 (w, fits)).2 v0 v1 v2 v3 v4 v5 v6 v7 v8) K) : AWr (cfg []) none (loopAt (fcode Tryz.prog 120) [0]) (I_j 1 5 w fits v0 v1 v2 v3 v4 v5 v6 v7 v8) K := by
  refine AWr.step (AWp.runK hC0 [0, 1, 2, 3, 7, 8] (n := 100) fun k hk => ?_)
  refine (t_j1 w fits v0 v1 v2 v3 v4 v5 v6 v7 v8 k).trans ?_
  refine andI rfl (andI rfl (andI rfl (condI (fun hv => ?_) (fun hv => ?_))))
  · have e : jstep 127 4064 5 v1 (w, fits) = (w, false) := by unfold jstep; rw [hv]; rfl
    rw [e] at h
    exact hk .normal _ h
  · have e : jstep 127 4064 5 v1 (w, fits) = (ior .u64 (iandNot .u64 w 4064) (ishl .u64 v1 5), fits) := by unfold jstep; rw [hv]; rfl
    rw [e] at h
    exact andI rfl (andI rfl (hk .normal _ h))
theorem st2 (h : AWr (cfg []) none (loopAt (fcode Tryz.prog 120) [0]) (I_j 3 16 (jstep 15 61440 12 v2 (w, fits)).1 (jstep 15 61440 12 v2 (w, fits)).2 v0 v1 v2 v3 v4 v5 v6 v7 v8) K) : AWr (cfg []) none (loopAt (fcode Tryz.prog 120) [0]) (I_j 2 12 w fits v0 v1 v2 v3 v4 v5 v6 v7 v8) K := by
  refine AWr.step (AWp.runK hC0 [0, 1, 2, 3, 7, 8] (n := 100) fun k hk => ?_)
  refine (t_j2 w fits v0 v1 v2 v3 v4 v5 v6 v7 v8 k).trans ?_
  refine andI rfl (andI rfl (andI rfl (condI (fun hv => ?_) (fun hv => ?_))))
  · have e : jstep 15 61440 12 v2 (w, fits) = (w, false) := by unfold jstep; rw [hv]; rfl
    rw [e] at h
    exact hk .normal _ h
  · have e : jstep 15 61440 12 v2 (w, fits) = (ior .u64 (iandNot .u64 w 61440) (ishl .u64 v2 12), fits) := by unfold jstep; rw [hv]; rfl
    rw [e] at h
    exact andI rfl (andI rfl (hk .normal _ h))
theorem st3 (h : AWr (cfg []) none (loopAt (fcode Tryz.prog 120) [0]) (I_j 4 21 (jstep 31 2031616 16 v3 (w, fits)).1 (jstep 31 2031616 16 v3 (w, fits)).2 v0 v1 v2 v3 v4 v5 v6 v7 v8) K) : AWr (cfg []) none (loopAt (fcode Tryz.prog 120) [0]) (I_j 3 16 w fits v0 v1 v2 v3 v4 v5 v6 v7 v8) K := by
  refine AWr.step (AWp.runK hC0 [0, 1, 2, 3, 7, 8] (n := 100) fun k hk => ?_)
  refine (t_j3 w fits v0 v1 v2 v3 v4 v5 v6 v7 v8 k).trans ?_
  refine andI rfl (andI rfl (andI rfl (condI (fun hv => ?_) (fun hv => ?_))))
  · have e : jstep 31 2031616 16 v3 (w, fits) = (w, false) := by unfold jstep; rw [hv]; rfl
    rw [e] at h
    exact hk .normal _ h
  · have e : jstep 31 2031616 16 v3 (w, fits) = (ior .u64 (iandNot .u64 w 2031616) (ishl .u64 v3 16), fits) := by unfold jstep; rw [hv]; rfl
    rw [e] at h
    exact andI rfl (andI rfl (hk .normal _ h))
theorem st4 (h : AWr (cfg []) none (loopAt (fcode Tryz.prog 120) [0]) (I_j 5 28 (jstep 127 266338304 21 v4 (w, fits)).1 (jstep 127 266338304 21 v4 (w, fits)).2 v0 v1 v2 v3 v4 v5 v6 v7 v8) K) : AWr (cfg []) none (loopAt (fcode Tryz.prog 120) [0]) (I_j 4 21 w fits v0 v1 v2 v3 v4 v5 v6 v7 v8) K := by
  refine AWr.step (AWp.runK hC0 [0, 1, 2, 3, 7, 8] (n := 100) fun k hk => ?_)
  refine (t_j4 w fits v0 v1 v2 v3 v4 v5 v6 v7 v8 k).trans ?_
  refine andI rfl (andI rfl (andI rfl (condI (fun hv => ?_) (fun hv => ?_))))
  · have e : jstep 127 266338304 21 v4 (w, fits) = (w, false) := by unfold jstep; rw [hv]; rfl
    rw [e] at h
    exact hk .normal _ h
  · have e : jstep 127 266338304 21 v4 (w, fits) = (ior .u64 (iandNot .u64 w 266338304) (ishl .u64 v4 21), fits) := by unfold jstep; rw [hv]; rfl
    rw [e] at h
    exact andI rfl (andI rfl (hk .normal _ h))
theorem st5 (h : AWr (cfg []) none (loopAt (fcode Tryz.prog 120) [0]) (I_j 6 35 (jstep 127 34091302912 28 v5 (w, fits)).1 (jstep 127 34091302912 28 v5 (w, fits)).2 v0 v1 v2 v3 v4 v5 v6 v7 v8) K) : AWr (cfg []) none (loopAt (fcode Tryz.prog 120) [0]) (I_j 5 28 w fits v0 v1 v2 v3 v4 v5 v6 v7 v8) K := by
  refine AWr.step (AWp.runK hC0 [0, 1, 2, 3, 7, 8] (n := 100) fun k hk => ?_)
  refine (t_j5 w fits v0 v1 v2 v3 v4 v5 v6 v7 v8 k).trans ?_
  refine andI rfl (andI rfl (andI rfl (condI (fun hv => ?_) (fun hv => ?_))))
  · have e : jstep 127 34091302912 28 v5 (w, fits) = (w, false) := by unfold jstep; rw [hv]; rfl
    rw [e] at h
    exact hk .normal _ h
  · have e : jstep 127 34091302912 28 v5 (w, fits) = (ior .u64 (iandNot .u64 w 34091302912) (ishl .u64 v5 28), fits) := by unfold jstep; rw [hv]; rfl
    rw [e] at h
    exact andI rfl (andI rfl (hk .normal _ h))
theorem st6 (h : AWr (cfg []) none (loopAt (fcode Tryz.prog 120) [0]) (I_j 7 41 (jstep 63 2164663517184 35 v6 (w, fits)).1 (jstep 63 2164663517184 35 v6 (w, fits)).2 v0 v1 v2 v3 v4 v5 v6 v7 v8) K) : AWr (cfg []) none (loopAt (fcode Tryz.prog 120) [0]) (I_j 6 35 w fits v0 v1 v2 v3 v4 v5 v6 v7 v8) K := by
  refine AWr.step (AWp.runK hC0 [0, 1, 2, 3, 7, 8] (n := 100) fun k hk => ?_)
  refine (t_j6 w fits v0 v1 v2 v3 v4 v5 v6 v7 v8 k).trans ?_
  refine andI rfl (andI rfl (andI rfl (condI (fun hv => ?_) (fun hv => ?_))))
  · have e : jstep 63 2164663517184 35 v6 (w, fits) = (w, false) := by unfold jstep; rw [hv]; rfl
    rw [e] at h
    exact hk .normal _ h
  · have e : jstep 63 2164663517184 35 v6 (w, fits) = (ior .u64 (iandNot .u64 w 2164663517184) (ishl .u64 v6 35), fits) := by unfold jstep; rw [hv]; rfl
    rw [e] at h
    exact andI rfl (andI rfl (hk .normal _ h))
theorem st7 (h : AWr (cfg []) none (loopAt (fcode Tryz.prog 120) [0]) (I_j 8 47 (jstep 63 138538465099776 41 v7 (w, fits)).1 (jstep 63 138538465099776 41 v7 (w, fits)).2 v0 v1 v2 v3 v4 v5 v6 v7 v8) K) : AWr (cfg []) none (loopAt (fcode Tryz.prog 120) [0]) (I_j 7 41 w fits v0 v1 v2 v3 v4 v5 v6 v7 v8) K := by
  refine AWr.step (AWp.runK hC0 [0, 1, 2, 3, 7, 8] (n := 100) fun k hk => ?_)
  refine (t_j7 w fits v0 v1 v2 v3 v4 v5 v6 v7 v8 k).trans ?_
  refine andI rfl (andI rfl (andI rfl (condI (fun hv => ?_) (fun hv => ?_))))
  · have e : jstep 63 138538465099776 41 v7 (w, fits) = (w, false) := by unfold jstep; rw [hv]; rfl
    rw [e] at h
    exact hk .normal _ h
  · have e : jstep 63 138538465099776 41 v7 (w, fits) = (ior .u64 (iandNot .u64 w 138538465099776) (ishl .u64 v7 41), fits) := by unfold jstep; rw [hv]; rfl
    rw [e] at h
    exact andI rfl (andI rfl (hk .normal _ h))
theorem st8 (h : AWr (cfg []) none (loopAt (fcode Tryz.prog 120) [0]) (I_j 9 50 (jstep 7 985162418487296 47 v8 (w, fits)).1 (jstep 7 985162418487296 47 v8 (w, fits)).2 v0 v1 v2 v3 v4 v5 v6 v7 v8) K) : AWr (cfg []) none (loopAt (fcode Tryz.prog 120) [0]) (I_j 8 47 w fits v0 v1 v2 v3 v4 v5 v6 v7 v8) K := by
  refine AWr.step (AWp.runK hC0 [0, 1, 2, 3, 7, 8] (n := 100) fun k hk => ?_)
  refine (t_j8 w fits v0 v1 v2 v3 v4 v5 v6 v7 v8 k).trans ?_
  refine andI rfl (andI rfl (andI rfl (condI (fun hv => ?_) (fun hv => ?_))))
  · have e : jstep 7 985162418487296 47 v8 (w, fits) = (w, false) := by unfold jstep; rw [hv]; rfl
    rw [e] at h
    exact hk .normal _ h
  · have e : jstep 7 985162418487296 47 v8 (w, fits) = (ior .u64 (iandNot .u64 w 985162418487296) (ishl .u64 v8 47), fits) := by unfold jstep; rw [hv]; rfl
    rw [e] at h
    exact andI rfl (andI rfl (hk .normal _ h))
theorem rounds (h : AWr (cfg []) none (loopAt (fcode Tryz.prog 120) [0]) (I_j 9 50 (jS9 v0 v1 v2 v3 v4 v5 v6 v7 v8).1 (jS9 v0 v1 v2 v3 v4 v5 v6 v7 v8).2 v0 v1 v2 v3 v4 v5 v6 v7 v8) K) : AWr (cfg []) none (loopAt (fcode Tryz.prog 120) [0]) (I_j 0 0 0 true v0 v1 v2 v3 v4 v5 v6 v7 v8) K :=
  st0 (st1 (st2 (st3 (st4 (st5 (st6 (st7 (st8 h))))))))
end
theorem G_jr_ok : ∀ (v0 v1 v2 v3 v4 v5 v6 v7 v8 : Int) (k : Ex → St → Bool), G_jr v0 v1 v2 v3 v4 v5 v6 v7 v8 k = true →
    AWq (cfg []) (loopN (fcode Tryz.prog 96) 0) (I_jr v0 v1 v2 v3 v4 v5 v6 v7 v8) (fun e s => k e s = true) := by
  intro v0 v1 v2 v3 v4 v5 v6 v7 v8 k hG
  obtain ⟨fn, hfn, hbd, hnt, hrs⟩ := fn_is (P := Tryz.prog) (f := 120) (n := 26) (r := 0) (by kernel_rfl)
  rw [jr_code]
  refine AWq.rangeF hC0 (f := 120) (first := []) (cap := [.ptr 5 0, .ptr 8 0, .ptr 6 0]) rfl hfn hbd rfl rfl rfl (List.eq_nil_of_length_eq_zero hrs) ?_
  rw [hnt, it_code]
  show AWp _ none _ ⟨padL [.yld 10, .ptr 5 0, .ptr 8 0, .ptr 6 0] 26, [], jM 0 0 true 0 none v0 v1 v2 v3 v4 v5 v6 v7 v8⟩ _
  refine AWp.seq (AWp.runK hC0 [0, 1, 2, 3, 7, 8] (n := 100) fun k' hk => ?_)
  refine (t_jit v0 v1 v2 v3 v4 v5 v6 v7 v8 k').trans ?_
  refine hk .normal _ ?_
  refine AWp.block (AWp.mono ?_ (AWr.loop (K := fun e s => e = .exit 0 ∧ s = I_j 9 50 (jS9 v0 v1 v2 v3 v4 v5 v6 v7 v8).1 (jS9 v0 v1 v2 v3 v4 v5 v6 v7 v8).2 v0 v1 v2 v3 v4 v5 v6 v7 v8) (rounds ?_)))
  · rintro e s ⟨rfl, rfl⟩
    exact ⟨fun _ => ⟨.inr rfl, rfl, hG⟩, fun h => absurd rfl h⟩
  · refine AWr.step (AWp.runK hC0 [0, 1, 2, 3, 7, 8] (n := 100) fun k hk => ?_)
    refine (t_j9 _ _ v0 v1 v2 v3 v4 v5 v6 v7 v8 k).trans ?_
    exact hk (.exit 0) _ ⟨rfl, rfl⟩
theorem jr_ok : LoopsOk (cfg []) (loopsOf (fcode Tryz.prog 96)) [F_jr] := by
  rw [j_loops]
  exact ⟨fun st k h => P_jr_ok G_jr_ok st k h, trivial⟩
end Go.Bas.BasZJoin2
end
section
namespace Go.Bas.BasZJoin3
open Go.RowKit Go.Proofs
open Go.Bas.BasZBase Go.Bas.BasZJoin Go.Bas.BasZJoin2
set_option maxRecDepth 100000
set_option maxHeartbeats 4000000
set_option linter.unusedVariables false
set_option linter.unusedSimpArgs false

theorem t_join2 (v0 v1 : Int) (k : AV → Bool) : runF (cfg []) 300 96 [.lst [.int .i64 32, .int .u64 v0, .int .i64 32, .int .u64 v1] 2] k false = ((bif decide (0 < (Int.ofNat 2)) then ((decide (0 < (Int.ofNat 2)) && Bool.true) && ((decide (0 < (Int.ofNat 2)) && Bool.true) && ((decide (0 < (Int.ofNat 2)) && Bool.true) && (bif decide (v0 > 4294967295) then (bif decide (1 < (Int.ofNat 2)) then ((decide (1 < (Int.ofNat 2)) && Bool.true) && ((decide (1 < (Int.ofNat 2)) && Bool.true) && ((decide (1 < (Int.ofNat 2)) && Bool.true) && (bif decide (v1 > 4294967295) then (bif decide (2 < (Int.ofNat 2)) then ((decide (2 < (Int.ofNat 2)) && Bool.true) && Bool.false) else (k (AV.tup [(AV.int .u64 0), (AV.int .i64 10)]))) else ((decide (1 < (Int.ofNat 2)) && Bool.true) && ((decide (1 < (Int.ofNat 2)) && Bool.true) && (bif decide (2 < (Int.ofNat 2)) then ((decide (2 < (Int.ofNat 2)) && Bool.true) && Bool.false) else (k (AV.tup [(AV.int .u64 0), (AV.int .i64 10)]))))))))) else (k (AV.tup [(AV.int .u64 0), (AV.int .i64 10)]))) else ((decide (0 < (Int.ofNat 2)) && Bool.true) && ((decide (0 < (Int.ofNat 2)) && Bool.true) && (bif decide (1 < (Int.ofNat 2)) then ((decide (1 < (Int.ofNat 2)) && Bool.true) && ((decide (1 < (Int.ofNat 2)) && Bool.true) && ((decide (1 < (Int.ofNat 2)) && Bool.true) && (bif decide (v1 > 4294967295) then (bif decide (2 < (Int.ofNat 2)) then ((decide (2 < (Int.ofNat 2)) && Bool.true) && Bool.false) else (k (AV.tup [(AV.int .u64 0), (AV.int .i64 10)]))) else ((decide (1 < (Int.ofNat 2)) && Bool.true) && ((decide (1 < (Int.ofNat 2)) && Bool.true) && (bif decide (2 < (Int.ofNat 2)) then ((decide (2 < (Int.ofNat 2)) && Bool.true) && Bool.false) else (k (AV.tup [(AV.int .u64 (ior .u64 (iandNot .u64 (ior .u64 0 (ishl .u64 v0 0)) 18446744069414584320) (ishl .u64 v1 32))), (AV.int .i64 0)]))))))))) else (k (AV.tup [(AV.int .u64 (ior .u64 0 (ishl .u64 v0 0))), (AV.int .i64 0)]))))))))) else (k (AV.tup [(AV.int .u64 0), (AV.int .i64 0)])))) := by kernel_rfl
def j2ok (v0 v1 : Int) : Bool := !decide (v0 > 4294967295) && !decide (v1 > 4294967295)
def j2w (v0 v1 : Int) : Int := ior .u64 (iandNot .u64 (ior .u64 0 (ishl .u64 v0 0)) 18446744069414584320) (ishl .u64 v1 32)
def joinF : List AV → Option (Bool × AV)
  | [.lst [.int .i64 b0, .int .u64 v0, .int .i64 b1, .int .u64 v1] n] => some (decide (b0 = 32) && (decide (b1 = 32) && Nat.beq n 2), .tup [.int .u64 (cond (j2ok v0 v1) (j2w v0 v1) 0), .int .i64 (cond (j2ok v0 v1) 0 10)])
  | [.lst [.int .i64 b0, .int .u64 v0, .int .i64 b1, .int .u64 v1, .int .i64 b2, .int .u64 v2, .int .i64 b3, .int .u64 v3, .int .i64 b4, .int .u64 v4, .int .i64 b5, .int .u64 v5, .int .i64 b6, .int .u64 v6, .int .i64 b7, .int .u64 v7, .int .i64 b8, .int .u64 v8] n] => some (decide (b0 = 5) && decide (b1 = 7) && decide (b2 = 4) && decide (b3 = 5) && decide (b4 = 7) && decide (b5 = 7) && decide (b6 = 6) && decide (b7 = 6) && decide (b8 = 3) && Nat.beq n 9, .tup [.int .u64 (cond (jS9 v0 v1 v2 v3 v4 v5 v6 v7 v8).2 (jS9 v0 v1 v2 v3 v4 v5 v6 v7 v8).1 0), .int .i64 (cond (jS9 v0 v1 v2 v3 v4 v5 v6 v7 v8).2 0 10)])
  | _ => none
def S_join : Sum := (96, joinF)
theorem s_join : SumOk Tryz.prog (gmap gs) S_join := fun args r hr => by
  simp only [S_join] at hr
  unfold joinF at hr
  split at hr
  · rename_i b0 v0 b1 v1 n
    simp only [Option.some.injEq, Prod.mk.injEq, Bool.and_eq_true, decide_eq_true_eq, beq_iff] at hr
    obtain ⟨⟨rfl, rfl, rfl⟩, rfl⟩ := hr
    refine acalls_eq base sums_nil (n := 300) fun k hk => ?_
    refine (t_join2 v0 v1 k).trans ?_
    unfold j2ok j2w at hk
    cases h0 : decide (v0 > 4294967295) <;> cases h1 : decide (v1 > 4294967295) <;> simp only [h0, h1, Bool.not_true, Bool.not_false, Bool.and_true, Bool.and_false, Bool.and_self, cond_true, cond_false] at hk ⊢ <;> exact hk
  · rename_i b0 v0 b1 v1 b2 v2 b3 v3 b4 v4 b5 v5 b6 v6 b7 v7 b8 v8 n
    simp only [Option.some.injEq, Prod.mk.injEq, Bool.and_eq_true, decide_eq_true_eq, beq_iff] at hr
    obtain ⟨⟨⟨⟨⟨⟨⟨⟨⟨⟨rfl, rfl⟩, rfl⟩, rfl⟩, rfl⟩, rfl⟩, rfl⟩, rfl⟩, rfl⟩, rfl⟩, rfl⟩ := hr
    refine acalls_eqM base sums_nil (n := 300) (fs := [F_jr]) (q := fun _ => false) (by kernel_rfl) jr_ok fun k hk => ?_
    refine (t_join9 v0 v1 v2 v3 v4 v5 v6 v7 v8 k).trans ?_
    refine andI rfl ?_
    cases hf : (jS9 v0 v1 v2 v3 v4 v5 v6 v7 v8).2 with
    | true => rw [hf] at hk; exact hk
    | false => rw [hf] at hk; exact hk
  · cases hr
def jJ : List Int → Int
  | [v0, v1] => cond (j2ok v0 v1) (j2w v0 v1) 0
  | [v0, v1, v2, v3, v4, v5, v6, v7, v8] => cond (jS9 v0 v1 v2 v3 v4 v5 v6 v7 v8).2 (jS9 v0 v1 v2 v3 v4 v5 v6 v7 v8).1 0
  | _ => 0
def jE : List Int → Int
  | [v0, v1] => cond (j2ok v0 v1) 0 10
  | [v0, v1, v2, v3, v4, v5, v6, v7, v8] => cond (jS9 v0 v1 v2 v3 v4 v5 v6 v7 v8).2 0 10
  | _ => 0
def joinG (J E : List Int → Int) : List AV → Option (Bool × AV)
  | [.lst [.int .i64 b0, .int .u64 v0, .int .i64 b1, .int .u64 v1] n] => some (decide (b0 = 32) && (decide (b1 = 32) && Nat.beq n 2), .tup [.int .u64 (J [v0, v1]), .int .i64 (E [v0, v1])])
  | [.lst [.int .i64 b0, .int .u64 v0, .int .i64 b1, .int .u64 v1, .int .i64 b2, .int .u64 v2, .int .i64 b3, .int .u64 v3, .int .i64 b4, .int .u64 v4, .int .i64 b5, .int .u64 v5, .int .i64 b6, .int .u64 v6, .int .i64 b7, .int .u64 v7, .int .i64 b8, .int .u64 v8] n] => some (decide (b0 = 5) && decide (b1 = 7) && decide (b2 = 4) && decide (b3 = 5) && decide (b4 = 7) && decide (b5 = 7) && decide (b6 = 6) && decide (b7 = 6) && decide (b8 = 3) && Nat.beq n 9, .tup [.int .u64 (J [v0, v1, v2, v3, v4, v5, v6, v7, v8]), .int .i64 (E [v0, v1, v2, v3, v4, v5, v6, v7, v8])])
  | _ => none

def SA_join (J E : List Int → Int) : Sum := (96, joinG J E)
theorem s_joinA : SumOk Tryz.prog (gmap gs) (SA_join jJ jE) := fun args r h => s_join args r (by
  simp only [SA_join] at h
  simp only [S_join]
  unfold joinG at h
  unfold joinF
  split at h
  · exact h
  · exact h
  · cases h)
end Go.Bas.BasZJoin3
end
section
namespace Go.Bas.BasZReg
open Go.RowKit Go.Proofs
open Go.Bas.BasZBase Go.Bas.BasZJoin Go.Bas.BasZJoin2 Go.Bas.BasZJoin3
set_option maxRecDepth 100000
set_option maxHeartbeats 4000000
set_option linter.unusedVariables false
set_option linter.unusedSimpArgs false
noncomputable def T_reglaid (d : Dsc) (J : List Int → Int) (E : List Int → Int) : Tr := (.br ((!decide ((E [(IntKind.wrap .u64 d.2), (IntKind.wrap .u64 d.3), (IntKind.wrap .u64 d.4), (IntKind.wrap .u64 d.7), (IntKind.wrap .u64 d.8), (IntKind.wrap .u64 d.9), (IntKind.wrap .u64 d.10), (IntKind.wrap .u64 d.11), (IntKind.wrap .u64 d.12)]) = 0))) (.leaf [.int .u64 0, .int .u64 0, .int .u64 0, .int .u64 0, .int .i64 (E [(IntKind.wrap .u64 d.2), (IntKind.wrap .u64 d.3), (IntKind.wrap .u64 d.4), (IntKind.wrap .u64 d.7), (IntKind.wrap .u64 d.8), (IntKind.wrap .u64 d.9), (IntKind.wrap .u64 d.10), (IntKind.wrap .u64 d.11), (IntKind.wrap .u64 d.12)])]) (.leaf [.int .u64 d.1, .int .u64 (J [(IntKind.wrap .u64 d.2), (IntKind.wrap .u64 d.3), (IntKind.wrap .u64 d.4), (IntKind.wrap .u64 d.7), (IntKind.wrap .u64 d.8), (IntKind.wrap .u64 d.9), (IntKind.wrap .u64 d.10), (IntKind.wrap .u64 d.11), (IntKind.wrap .u64 d.12)]), .int .u64 (J [(IntKind.wrap .u64 d.5), (IntKind.wrap .u64 d.6)]), .int .u64 (J [(IntKind.wrap .u64 d.13), (IntKind.wrap .u64 d.14)]), .int .i64 0]))
def ks_reglaid : List CK := [.i .u64, .i .u64, .i .u64, .i .u64, .i .i64]
noncomputable def sh_reglaid (l : List AV) : AV := .tup [.agg [lget l 0, lget l 1, lget l 2, lget l 3], lget l 4]
noncomputable def f_reglaid_0 (d : Dsc) (J : List Int → Int) (E : List Int → Int) : Int := (T_reglaid d J E).int 0
noncomputable def f_reglaid_1 (d : Dsc) (J : List Int → Int) (E : List Int → Int) : Int := (T_reglaid d J E).int 1
noncomputable def f_reglaid_2 (d : Dsc) (J : List Int → Int) (E : List Int → Int) : Int := (T_reglaid d J E).int 2
noncomputable def f_reglaid_3 (d : Dsc) (J : List Int → Int) (E : List Int → Int) : Int := (T_reglaid d J E).int 3
noncomputable def f_reglaid_4 (d : Dsc) (J : List Int → Int) (E : List Int → Int) : Int := (T_reglaid d J E).int 4
noncomputable def o_reglaid (d : Dsc) (J : List Int → Int) (E : List Int → Int) : AV := .tup [.agg [.int .u64 (f_reglaid_0 d J E), .int .u64 (f_reglaid_1 d J E), .int .u64 (f_reglaid_2 d J E), .int .u64 (f_reglaid_3 d J E)], .int .i64 (f_reglaid_4 d J E)]
theorem t_reglaid (d : Dsc) (J : List Int → Int) (E : List Int → Int) (k : AV → Bool) : runF (cfg [(SA_join J E)]) 500 122 [d.av] k false = (T_reglaid d J E).ev (fun l => k (sh_reglaid l)) false := by kernel_rfl
theorem fits_reglaid (d : Dsc) (J : List Int → Int) (E : List Int → Int) : (T_reglaid d J E).fits ks_reglaid = true := by kernel_rfl
noncomputable def S_reglaid : Sum := (122, on1 rDsc (fun _ => true) (fun d => o_reglaid d jJ jE))
theorem s_reglaid : SumOk Tryz.prog (gmap gs) S_reglaid := on1_sum fun d _ => acalls_eq base (sums_cons s_joinA sums_nil) (n := 500) fun k hk => (t_reglaid d jJ jE k).trans ((Tr.merge (fits_reglaid d jJ jE) (Tr.ok_of_total (by kernel_rfl))).trans hk)
end Go.Bas.BasZReg
end
section
namespace Go.Bas.BasZReg2
open Go.RowKit Go.Proofs Go.Bas.BasZBase Go.Bas.BasZOp Go.Bas.BasZOk Go.Bas.BasZReg Go.Bas.BasZJoin3
set_option maxRecDepth 100000
set_option linter.unusedVariables false
set_option linter.unusedSimpArgs false
theorem w8 (n : Int) : 0 ≤ IntKind.wrap .u8 n ∧ IntKind.wrap .u8 n ≤ 255 := by
  simp only [IntKind.wrap, IntKind.signed, IntKind.bits]
  constructor <;> (try simp) <;> omega
theorem w32 (n : Int) : 0 ≤ IntKind.wrap .u32 n ∧ IntKind.wrap .u32 n ≤ 4294967295 := by
  simp only [IntKind.wrap, IntKind.signed, IntKind.bits]
  constructor <;> (try simp) <;> omega
noncomputable def frmD (l : Cel) : Frm := ⟨f_regof_3 l, f_regof_4 l, f_regof_5 l, f_regof_6 l, f_regof_7 l, f_regof_8 l, f_regof_9 l, f_regof_10 l, f_regof_11 l, f_regof_12 l, f_regof_13 l⟩
theorem posF_D (l : Cel) : posF (frmD l) = true := posF_true.2 ⟨(w8 _).1, (w8 _).2, (w32 _).1, (w8 _).1, (w8 _).2, (w32 _).2⟩
theorem two {b : Bool} {l1 l2 : List AV} (h : (Tr.br b (.leaf l1) (.leaf l2)).int 4 = 0) (hb : b = true → (lget l1 4).toI ≠ 0) : (Tr.br b (.leaf l1) (.leaf l2)).int 0 = (lget l2 0).toI := by
  cases b
  · rfl
  · exact absurd h (hb rfl)
theorem nd {x : Int} (h : (!decide (x = 0)) = true) : x ≠ 0 := by
  intro e
  rw [decide_eq_true e] at h
  cases h
theorem laid_tag (d : Dsc) (h : f_reglaid_4 d jJ jE = 0) : f_reglaid_0 d jJ jE = d.tag := two h (fun hb => nd hb)
end Go.Bas.BasZReg2
end
section
namespace Go.Bas.BasZAt
open Go.RowKit Go.Proofs
open Go.Bas.BasZBase
set_option maxRecDepth 100000
set_option maxHeartbeats 4000000
set_option linter.unusedVariables false
set_option linter.unusedSimpArgs false
/-- Whether it holds, asv a bool. -/
noncomputable def onB (P : Prop) : Bool := @decide P (Classical.propDecidable _)
theorem onB_true {P : Prop} : onB P = true ↔ P := by unfold onB; exact @decide_eq_true_iff P (Classical.propDecidable _)
noncomputable def atA : Code := rfAssign (loopN (fcode Tryz.prog 62) 0)
noncomputable def atB : Code := loopAt (fcode Tryz.prog 62) [0]
/-- The temporaries of 'At' where its loop begins. -/
def T0 (c : Conf) (p : Plc) : List AV := [c.av, p.av, .ptr 0 0, .ptr 1 0, .ptr 2 0, .ptr 3 0, .int .i64 (errC c), .ptr 4 0, .tup [], c.av, .int .i64 (errC c), .int .i64 (errC c), .bool false, .tup [], c.av, .fn (.func 131) [] [.ptr 5 0], .tup [], .tup [], .tup [], .tup [], .tup [], .tup [], .tup []]
def I_in (kd : Int) (fr : Int) (as_ : Int) (bs : Int) (a : Int) (bs2 : Int) (b : Int) (n : Int) (r : Int) (pp : Int) (pa : Int) (pb : Int) (cc : List AV) (c5 : List AV) (T : List AV) (asg : Code) (bdy : Code) : St := ⟨fill 32 [(0, .int .u8 kd), (1, .int .i64 fr), (2, .int .i64 as_), (3, .int .i64 bs), (4, .ptr 8 0), (9, .bool false), (10, .int .i64 a), (20, .int .i64 bs2), (21, .int .i64 b)], [], ⟨[(8, ⟨[.yld 7], 243, false⟩), (5, ⟨c5, 24, true⟩), (4, ⟨[.int .i64 n], 3, true⟩), (3, ⟨[.int .i64 0], 32, true⟩), (2, ⟨[.int .i64 r], 3, true⟩), (1, ⟨[.int .u8 pp, .int .i64 pa, .int .i64 pb], 158, true⟩), (0, ⟨cc, 24, true⟩)], 9, [(7, .lop 0 none T [16] asg bdy 6), (6, .dfb)]⟩⟩
noncomputable def P_in {Ω : Type} (st : St) (g : (Int) → (Int) → (Int) → (Int) → (Int) → (Int) → (Int) → (Int) → (Int) → (Int) → (Int) → (Int) → (List AV) → (List AV) → (List AV) → (Code) → (Code) → Ω) (z : Ω) : Ω := match lget st.tmps 0, lget st.tmps 1, lget st.tmps 2, lget st.tmps 3, lget st.tmps 4, lget st.tmps 9, lget st.tmps 10, lget st.tmps 20, lget st.tmps 21, st.ds, st.m with
  | .int .u8 kd, .int .i64 fr, .int .i64 as_, .int .i64 bs, .ptr z1 z2, .bool false, .int .i64 a, .int .i64 bs2, .int .i64 b, [], ⟨[(z3, ⟨[.yld z4], z5, false⟩), (z6, ⟨c5, z7, true⟩), (z8, ⟨[.int .i64 n], z9, true⟩), (z10, ⟨[.int .i64 z11], z12, true⟩), (z13, ⟨[.int .i64 r], z14, true⟩), (z15, ⟨[.int .u8 pp, .int .i64 pa, .int .i64 pb], z16, true⟩), (z17, ⟨cc, z18, true⟩)], z19, [(z20, .lop z21 none T [z22] asg bdy z23), (z24, .dfb)]⟩ => cond (Nat.beq st.tmps.length 32 && (Nat.beq z1 8 && (Nat.beq z2 0 && (Nat.beq z3 8 && (Nat.beq z4 7 && (Nat.beq z5 243 && (Nat.beq z6 5 && (Nat.beq z7 24 && (Nat.beq z8 4 && (Nat.beq z9 3 && (Nat.beq z10 3 && (decide (z11 = 0) && (Nat.beq z12 32 && (Nat.beq z13 2 && (Nat.beq z14 3 && (Nat.beq z15 1 && (Nat.beq z16 158 && (Nat.beq z17 0 && (Nat.beq z18 24 && (Nat.beq z19 9 && (Nat.beq z20 7 && (Nat.beq z21 0 && (Nat.beq z22 16 && (Nat.beq z23 6 && (Nat.beq z24 6 && (true)))))))))))))))))))))))))) (g kd fr as_ bs a bs2 b n r pp pa pb cc c5 T asg bdy) z
  | _, _, _, _, _, _, _, _, _, _, _ => z
theorem P_in_okP {C : Cfg} {c : Code} {G : (Int) → (Int) → (Int) → (Int) → (Int) → (Int) → (Int) → (Int) → (Int) → (Int) → (Int) → (Int) → (List AV) → (List AV) → (List AV) → (Code) → (Code) → (Ex → St → Bool) → Bool} (hG : ∀ kd fr as_ bs a bs2 b n r pp pa pb cc c5 T asg bdy k, G kd fr as_ bs a bs2 b n r pp pa pb cc c5 T asg bdy k = true → AWp C none c (I_in kd fr as_ bs a bs2 b n r pp pa pb cc c5 T asg bdy) (fun e s => k e s = true)) : ∀ st k, P_in st (fun kd fr as_ bs a bs2 b n r pp pa pb cc c5 T asg bdy => G kd fr as_ bs a bs2 b n r pp pa pb cc c5 T asg bdy k) false = true → AWp C none c st (fun e s => k e s = true) := by
  intro st k h
  unfold P_in at h
  split at h
  · rename_i q0 q1 q2 q3 q4 q5 q6 q7 q8 hd hm
    rcases of_cond2 h with ⟨hb, h2⟩ | ⟨_, h2⟩
    · simp only [Bool.and_eq_true, and_true, decide_eq_true_eq, beq_iff] at hb
      obtain ⟨hb0, hb1, hb2, hb3, hb4, hb5, hb6, hb7, hb8, hb9, hb10, hb11, hb12, hb13, hb14, hb15, hb16, hb17, hb18, hb19, hb20, hb21, hb22, hb23, hb24⟩ := hb
      subst hb1 hb2 hb3 hb4 hb5 hb6 hb7 hb8 hb9 hb10 hb11 hb12 hb13 hb14 hb15 hb16 hb17 hb18 hb19 hb20 hb21 hb22 hb23 hb24
      exact AWp.less (LessS.fill hb0 (AllL_cons q0 (AllL_cons q1 (AllL_cons q2 (AllL_cons q3 (AllL_cons q4 (AllL_cons q5 (AllL_cons q6 (AllL_cons q7 (AllL_cons q8 AllL_nil))))))))) hd hm) (hG _ _ _ _ _ _ _ _ _ _ _ _ _ _ _ _ _ _ h2)
    · cases h2
  · cases h
def I_out (kd : Int) (fr : Int) (as_ : Int) (bs : Int) (a : Int) (n : Int) (r : Int) (pp : Int) (pa : Int) (pb : Int) (cc : List AV) (c5 : List AV) (T : List AV) (asg : Code) (bdy : Code) : St := ⟨fill 32 [(0, .int .u8 kd), (1, .int .i64 fr), (2, .int .i64 as_), (3, .int .i64 bs), (4, .ptr 8 0), (9, .bool false), (10, .int .i64 a)], [], ⟨[(8, ⟨[.yld 7], 243, false⟩), (5, ⟨c5, 24, true⟩), (4, ⟨[.int .i64 n], 3, true⟩), (3, ⟨[.int .i64 0], 32, true⟩), (2, ⟨[.int .i64 r], 3, true⟩), (1, ⟨[.int .u8 pp, .int .i64 pa, .int .i64 pb], 158, true⟩), (0, ⟨cc, 24, true⟩)], 9, [(7, .lop 0 none T [16] asg bdy 6), (6, .dfb)]⟩⟩
noncomputable def P_out {Ω : Type} (st : St) (g : (Int) → (Int) → (Int) → (Int) → (Int) → (Int) → (Int) → (Int) → (Int) → (Int) → (List AV) → (List AV) → (List AV) → (Code) → (Code) → Ω) (z : Ω) : Ω := match lget st.tmps 0, lget st.tmps 1, lget st.tmps 2, lget st.tmps 3, lget st.tmps 4, lget st.tmps 9, lget st.tmps 10, st.ds, st.m with
  | .int .u8 kd, .int .i64 fr, .int .i64 as_, .int .i64 bs, .ptr z1 z2, .bool false, .int .i64 a, [], ⟨[(z3, ⟨[.yld z4], z5, false⟩), (z6, ⟨c5, z7, true⟩), (z8, ⟨[.int .i64 n], z9, true⟩), (z10, ⟨[.int .i64 z11], z12, true⟩), (z13, ⟨[.int .i64 r], z14, true⟩), (z15, ⟨[.int .u8 pp, .int .i64 pa, .int .i64 pb], z16, true⟩), (z17, ⟨cc, z18, true⟩)], z19, [(z20, .lop z21 none T [z22] asg bdy z23), (z24, .dfb)]⟩ => cond (Nat.beq st.tmps.length 32 && (Nat.beq z1 8 && (Nat.beq z2 0 && (Nat.beq z3 8 && (Nat.beq z4 7 && (Nat.beq z5 243 && (Nat.beq z6 5 && (Nat.beq z7 24 && (Nat.beq z8 4 && (Nat.beq z9 3 && (Nat.beq z10 3 && (decide (z11 = 0) && (Nat.beq z12 32 && (Nat.beq z13 2 && (Nat.beq z14 3 && (Nat.beq z15 1 && (Nat.beq z16 158 && (Nat.beq z17 0 && (Nat.beq z18 24 && (Nat.beq z19 9 && (Nat.beq z20 7 && (Nat.beq z21 0 && (Nat.beq z22 16 && (Nat.beq z23 6 && (Nat.beq z24 6 && (true)))))))))))))))))))))))))) (g kd fr as_ bs a n r pp pa pb cc c5 T asg bdy) z
  | _, _, _, _, _, _, _, _, _ => z
theorem P_out_okP {C : Cfg} {c : Code} {G : (Int) → (Int) → (Int) → (Int) → (Int) → (Int) → (Int) → (Int) → (Int) → (Int) → (List AV) → (List AV) → (List AV) → (Code) → (Code) → (Ex → St → Bool) → Bool} (hG : ∀ kd fr as_ bs a n r pp pa pb cc c5 T asg bdy k, G kd fr as_ bs a n r pp pa pb cc c5 T asg bdy k = true → AWp C none c (I_out kd fr as_ bs a n r pp pa pb cc c5 T asg bdy) (fun e s => k e s = true)) : ∀ st k, P_out st (fun kd fr as_ bs a n r pp pa pb cc c5 T asg bdy => G kd fr as_ bs a n r pp pa pb cc c5 T asg bdy k) false = true → AWp C none c st (fun e s => k e s = true) := by
  intro st k h
  unfold P_out at h
  split at h
  · rename_i q0 q1 q2 q3 q4 q5 q6 hd hm
    rcases of_cond2 h with ⟨hb, h2⟩ | ⟨_, h2⟩
    · simp only [Bool.and_eq_true, and_true, decide_eq_true_eq, beq_iff] at hb
      obtain ⟨hb0, hb1, hb2, hb3, hb4, hb5, hb6, hb7, hb8, hb9, hb10, hb11, hb12, hb13, hb14, hb15, hb16, hb17, hb18, hb19, hb20, hb21, hb22, hb23, hb24⟩ := hb
      subst hb1 hb2 hb3 hb4 hb5 hb6 hb7 hb8 hb9 hb10 hb11 hb12 hb13 hb14 hb15 hb16 hb17 hb18 hb19 hb20 hb21 hb22 hb23 hb24
      exact AWp.less (LessS.fill hb0 (AllL_cons q0 (AllL_cons q1 (AllL_cons q2 (AllL_cons q3 (AllL_cons q4 (AllL_cons q5 (AllL_cons q6 AllL_nil))))))) hd hm) (hG _ _ _ _ _ _ _ _ _ _ _ _ _ _ _ _ h2)
    · cases h2
  · cases h
/-- The memory in which it goes: nothing found yet (s = 0), or found (s = 2). -/
noncomputable def atM (c : Conf) (p : Plc) (n r : Int) (s : Nat) (pend : Option Ex) : Mem := ⟨[(8, ⟨[.yld 7], 243, false⟩), (5, ⟨c.cells, 24, true⟩), (4, ⟨[.int .i64 n], 3, true⟩), (3, ⟨[.int .i64 0], 32, true⟩), (2, ⟨[.int .i64 r], 3, true⟩), (1, ⟨[.int .u8 p.part, .int .i64 p.a, .int .i64 p.b], 158, true⟩), (0, ⟨c.cells, 24, true⟩)], 9, [(7, .lop s pend (T0 c p) [16] atA atB 6), (6, .dfb)]⟩
noncomputable def eSt (kd fr as_ bs a : Int) (t9 : Bool) (m : Mem) : St := ⟨fill 32 [(0, .int .u8 kd), (1, .int .i64 fr), (2, .int .i64 as_), (3, .int .i64 bs), (4, .ptr 8 0), (9, .bool t9), (10, .int .i64 a)], [], m⟩
def InOk (c : Conf) (p : Plc) (bs bs2 b n : Int) (c5 T : List AV) (asg bdy : Code) : Prop := bs2 = bs ∧ b = 0 ∧ 0 ≤ bs ∧ bs ≤ 1000 ∧ 0 ≤ n ∧ n ≤ 1000000 ∧ c5 = c.cells ∧ T = T0 c p ∧ asg = atA ∧ bdy = atB
def OutOk (c : Conf) (p : Plc) (fr as_ bs a n : Int) (c5 T : List AV) (asg bdy : Code) : Prop := a = fr ∧ 0 ≤ fr ∧ fr ≤ 1000 ∧ 0 ≤ as_ ∧ as_ ≤ 1000 ∧ 0 ≤ bs ∧ bs ≤ 1000 ∧ 0 ≤ n ∧ n + as_ * bs ≤ 1000000 ∧ c5 = c.cells ∧ T = T0 c p ∧ asg = atA ∧ bdy = atB
def Found (kd fr as_ bs : Int) (p : Plc) : Prop := kd = p.part ∧ fr ≤ p.a ∧ p.a < fr + as_ ∧ 0 ≤ p.b ∧ p.b < bs
noncomputable def G_in (kd : Int) (fr : Int) (as_ : Int) (bs : Int) (a : Int) (bs2 : Int) (b : Int) (n : Int) (r : Int) (pp : Int) (pa : Int) (pb : Int) (cc : List AV) (c5 : List AV) (T : List AV) (asg : Code) (bdy : Code) (k : Ex → St → Bool) : Bool := match confOf (.agg cc) with
  | some c => cond (onB (InOk c ⟨pp, pa, pb⟩ bs bs2 b n c5 T asg bdy)) (cond (onB (Found kd a 1 bs ⟨pp, pa, pb⟩)) (k .ret (eSt kd fr as_ bs a false (atM c ⟨pp, pa, pb⟩ (n + pb) (n + pb) 2 (some .ret)))) (k (.exit 2) (eSt kd fr as_ bs a false (atM c ⟨pp, pa, pb⟩ (n + bs) r 0 none)))) false
  | none => false
noncomputable def F_in : LF := fun st k => P_in st (fun kd fr as_ bs a bs2 b n r pp pa pb cc c5 T asg bdy => G_in kd fr as_ bs a bs2 b n r pp pa pb cc c5 T asg bdy k) false
noncomputable def eS0 (t9 : Bool) (m : Mem) : St := ⟨fill 32 [(9, .bool t9)], [], m⟩
noncomputable def G_out (kd : Int) (fr : Int) (as_ : Int) (bs : Int) (a : Int) (n : Int) (r : Int) (pp : Int) (pa : Int) (pb : Int) (cc : List AV) (c5 : List AV) (T : List AV) (asg : Code) (bdy : Code) (k : Ex → St → Bool) : Bool := match confOf (.agg cc) with
  | some c => cond (onB (OutOk c ⟨pp, pa, pb⟩ fr as_ bs a n c5 T asg bdy)) (cond (onB (Found kd fr as_ bs ⟨pp, pa, pb⟩)) (k .ret (eS0 false (atM c ⟨pp, pa, pb⟩ (n + (pa - fr) * bs + pb) (n + (pa - fr) * bs + pb) 2 (some .ret)))) (k (.exit 0) (eS0 false (atM c ⟨pp, pa, pb⟩ (n + as_ * bs) r 0 none)))) false
  | none => false
noncomputable def F_out : LF := fun st k => P_out st (fun kd fr as_ bs a n r pp pa pb cc c5 T asg bdy => G_out kd fr as_ bs a n r pp pa pb cc c5 T asg bdy k) false

theorem t_in (c : Conf) (p : Plc) (kd : Int) (fr : Int) (as_ : Int) (bs : Int) (a : Int) (bs2 b n r : Int) (k : Ex → St → Bool) : run (cfg [S_check]) 100 none none (loopAt (fcode Tryz.prog 132) [0, 0]) (I_in kd fr as_ bs a bs2 b n r p.part p.a p.b c.cells c.cells (T0 c p) atA atB) (fun e s => k e (keepS [0, 1, 2, 3, 4, 9, 10, 20, 21] s)) false = ((bif decide (b < bs2) then (bif (decide (kd = p.1) && (decide (a = p.2) && (decide (b = p.3) && Bool.true))) then (k Ex.ret (St.mk [(AV.int .u8 kd), (AV.int .i64 fr), (AV.int .i64 as_), (AV.int .i64 bs), (AV.ptr 8 0), AV.any, AV.any, AV.any, AV.any, (AV.bool Bool.false), (AV.int .i64 a), AV.any, AV.any, AV.any, AV.any, AV.any, AV.any, AV.any, AV.any, AV.any, (AV.int .i64 bs2), (AV.int .i64 b), AV.any, AV.any, AV.any, AV.any, AV.any, AV.any, AV.any, AV.any, AV.any, AV.any] [] (Mem.mk [(9, (HB.mk [(AV.int .u8 kd), (AV.int .i64 a), (AV.int .i64 b)] 158 Bool.true)), (8, (HB.mk [(AV.yld 7)] 243 Bool.false)), (5, (HB.mk [(AV.int .u8 c.1), (AV.int .i64 c.2), (AV.int .i64 c.3), (AV.int .u8 c.4), (AV.int .i64 c.5), (AV.int .i64 c.6), (AV.int .i64 c.7), (AV.int .i64 c.8), (AV.int .i64 c.9), (AV.int .i64 c.10), (AV.int .u64 c.11), (AV.int .u64 c.12)] 24 Bool.true)), (4, (HB.mk [(AV.int .i64 n)] 3 Bool.true)), (3, (HB.mk [(AV.int .i64 0)] 32 Bool.true)), (2, (HB.mk [(AV.int .i64 n)] 3 Bool.true)), (1, (HB.mk [(AV.int .u8 p.1), (AV.int .i64 p.2), (AV.int .i64 p.3)] 158 Bool.true)), (0, (HB.mk [(AV.int .u8 c.1), (AV.int .i64 c.2), (AV.int .i64 c.3), (AV.int .u8 c.4), (AV.int .i64 c.5), (AV.int .i64 c.6), (AV.int .i64 c.7), (AV.int .i64 c.8), (AV.int .i64 c.9), (AV.int .i64 c.10), (AV.int .u64 c.11), (AV.int .u64 c.12)] 24 Bool.true))] 10 [(7, (LB.lop 2 (Option.some Ex.ret) [(AV.agg [(AV.int .u8 c.1), (AV.int .i64 c.2), (AV.int .i64 c.3), (AV.int .u8 c.4), (AV.int .i64 c.5), (AV.int .i64 c.6), (AV.int .i64 c.7), (AV.int .i64 c.8), (AV.int .i64 c.9), (AV.int .i64 c.10), (AV.int .u64 c.11), (AV.int .u64 c.12)]), (AV.agg [(AV.int .u8 p.1), (AV.int .i64 p.2), (AV.int .i64 p.3)]), (AV.ptr 0 0), (AV.ptr 1 0), (AV.ptr 2 0), (AV.ptr 3 0), (AV.int .i64 (errC c)), (AV.ptr 4 0), (AV.tup []), (AV.agg [(AV.int .u8 c.1), (AV.int .i64 c.2), (AV.int .i64 c.3), (AV.int .u8 c.4), (AV.int .i64 c.5), (AV.int .i64 c.6), (AV.int .i64 c.7), (AV.int .i64 c.8), (AV.int .i64 c.9), (AV.int .i64 c.10), (AV.int .u64 c.11), (AV.int .u64 c.12)]), (AV.int .i64 (errC c)), (AV.int .i64 (errC c)), (AV.bool Bool.false), (AV.tup []), (AV.agg [(AV.int .u8 c.1), (AV.int .i64 c.2), (AV.int .i64 c.3), (AV.int .u8 c.4), (AV.int .i64 c.5), (AV.int .i64 c.6), (AV.int .i64 c.7), (AV.int .i64 c.8), (AV.int .i64 c.9), (AV.int .i64 c.10), (AV.int .u64 c.11), (AV.int .u64 c.12)]), (AV.fn (Fn.func 131) [] [(AV.ptr 5 0)]), (AV.tup []), (AV.tup []), (AV.tup []), (AV.tup []), (AV.tup []), (AV.tup []), (AV.tup [])] [16] atA atB 6)), (6, LB.dfb)]))) else (k Ex.normal (St.mk [(AV.int .u8 kd), (AV.int .i64 fr), (AV.int .i64 as_), (AV.int .i64 bs), (AV.ptr 8 0), AV.any, AV.any, AV.any, AV.any, (AV.bool Bool.false), (AV.int .i64 a), AV.any, AV.any, AV.any, AV.any, AV.any, AV.any, AV.any, AV.any, AV.any, (AV.int .i64 bs2), (AV.int .i64 (IntKind.wrap .i64 (b + 1))), AV.any, AV.any, AV.any, AV.any, AV.any, AV.any, AV.any, AV.any, AV.any, AV.any] [] (Mem.mk [(9, (HB.mk [(AV.int .u8 kd), (AV.int .i64 a), (AV.int .i64 b)] 158 Bool.true)), (8, (HB.mk [(AV.yld 7)] 243 Bool.false)), (5, (HB.mk [(AV.int .u8 c.1), (AV.int .i64 c.2), (AV.int .i64 c.3), (AV.int .u8 c.4), (AV.int .i64 c.5), (AV.int .i64 c.6), (AV.int .i64 c.7), (AV.int .i64 c.8), (AV.int .i64 c.9), (AV.int .i64 c.10), (AV.int .u64 c.11), (AV.int .u64 c.12)] 24 Bool.true)), (4, (HB.mk [(AV.int .i64 (IntKind.wrap .i64 (n + 1)))] 3 Bool.true)), (3, (HB.mk [(AV.int .i64 0)] 32 Bool.true)), (2, (HB.mk [(AV.int .i64 r)] 3 Bool.true)), (1, (HB.mk [(AV.int .u8 p.1), (AV.int .i64 p.2), (AV.int .i64 p.3)] 158 Bool.true)), (0, (HB.mk [(AV.int .u8 c.1), (AV.int .i64 c.2), (AV.int .i64 c.3), (AV.int .u8 c.4), (AV.int .i64 c.5), (AV.int .i64 c.6), (AV.int .i64 c.7), (AV.int .i64 c.8), (AV.int .i64 c.9), (AV.int .i64 c.10), (AV.int .u64 c.11), (AV.int .u64 c.12)] 24 Bool.true))] 10 [(7, (LB.lop 0 (Option.none) [(AV.agg [(AV.int .u8 c.1), (AV.int .i64 c.2), (AV.int .i64 c.3), (AV.int .u8 c.4), (AV.int .i64 c.5), (AV.int .i64 c.6), (AV.int .i64 c.7), (AV.int .i64 c.8), (AV.int .i64 c.9), (AV.int .i64 c.10), (AV.int .u64 c.11), (AV.int .u64 c.12)]), (AV.agg [(AV.int .u8 p.1), (AV.int .i64 p.2), (AV.int .i64 p.3)]), (AV.ptr 0 0), (AV.ptr 1 0), (AV.ptr 2 0), (AV.ptr 3 0), (AV.int .i64 (errC c)), (AV.ptr 4 0), (AV.tup []), (AV.agg [(AV.int .u8 c.1), (AV.int .i64 c.2), (AV.int .i64 c.3), (AV.int .u8 c.4), (AV.int .i64 c.5), (AV.int .i64 c.6), (AV.int .i64 c.7), (AV.int .i64 c.8), (AV.int .i64 c.9), (AV.int .i64 c.10), (AV.int .u64 c.11), (AV.int .u64 c.12)]), (AV.int .i64 (errC c)), (AV.int .i64 (errC c)), (AV.bool Bool.false), (AV.tup []), (AV.agg [(AV.int .u8 c.1), (AV.int .i64 c.2), (AV.int .i64 c.3), (AV.int .u8 c.4), (AV.int .i64 c.5), (AV.int .i64 c.6), (AV.int .i64 c.7), (AV.int .i64 c.8), (AV.int .i64 c.9), (AV.int .i64 c.10), (AV.int .u64 c.11), (AV.int .u64 c.12)]), (AV.fn (Fn.func 131) [] [(AV.ptr 5 0)]), (AV.tup []), (AV.tup []), (AV.tup []), (AV.tup []), (AV.tup []), (AV.tup []), (AV.tup [])] [16] atA atB 6)), (6, LB.dfb)])))) else (k (Ex.exit 2) (St.mk [(AV.int .u8 kd), (AV.int .i64 fr), (AV.int .i64 as_), (AV.int .i64 bs), (AV.ptr 8 0), AV.any, AV.any, AV.any, AV.any, (AV.bool Bool.false), (AV.int .i64 a), AV.any, AV.any, AV.any, AV.any, AV.any, AV.any, AV.any, AV.any, AV.any, (AV.int .i64 bs2), (AV.int .i64 b), AV.any, AV.any, AV.any, AV.any, AV.any, AV.any, AV.any, AV.any, AV.any, AV.any] [] (Mem.mk [(8, (HB.mk [(AV.yld 7)] 243 Bool.false)), (5, (HB.mk [(AV.int .u8 c.1), (AV.int .i64 c.2), (AV.int .i64 c.3), (AV.int .u8 c.4), (AV.int .i64 c.5), (AV.int .i64 c.6), (AV.int .i64 c.7), (AV.int .i64 c.8), (AV.int .i64 c.9), (AV.int .i64 c.10), (AV.int .u64 c.11), (AV.int .u64 c.12)] 24 Bool.true)), (4, (HB.mk [(AV.int .i64 n)] 3 Bool.true)), (3, (HB.mk [(AV.int .i64 0)] 32 Bool.true)), (2, (HB.mk [(AV.int .i64 r)] 3 Bool.true)), (1, (HB.mk [(AV.int .u8 p.1), (AV.int .i64 p.2), (AV.int .i64 p.3)] 158 Bool.true)), (0, (HB.mk [(AV.int .u8 c.1), (AV.int .i64 c.2), (AV.int .i64 c.3), (AV.int .u8 c.4), (AV.int .i64 c.5), (AV.int .i64 c.6), (AV.int .i64 c.7), (AV.int .i64 c.8), (AV.int .i64 c.9), (AV.int .i64 c.10), (AV.int .u64 c.11), (AV.int .u64 c.12)] 24 Bool.true))] 9 [(7, (LB.lop 0 (Option.none) [(AV.agg [(AV.int .u8 c.1), (AV.int .i64 c.2), (AV.int .i64 c.3), (AV.int .u8 c.4), (AV.int .i64 c.5), (AV.int .i64 c.6), (AV.int .i64 c.7), (AV.int .i64 c.8), (AV.int .i64 c.9), (AV.int .i64 c.10), (AV.int .u64 c.11), (AV.int .u64 c.12)]), (AV.agg [(AV.int .u8 p.1), (AV.int .i64 p.2), (AV.int .i64 p.3)]), (AV.ptr 0 0), (AV.ptr 1 0), (AV.ptr 2 0), (AV.ptr 3 0), (AV.int .i64 (errC c)), (AV.ptr 4 0), (AV.tup []), (AV.agg [(AV.int .u8 c.1), (AV.int .i64 c.2), (AV.int .i64 c.3), (AV.int .u8 c.4), (AV.int .i64 c.5), (AV.int .i64 c.6), (AV.int .i64 c.7), (AV.int .i64 c.8), (AV.int .i64 c.9), (AV.int .i64 c.10), (AV.int .u64 c.11), (AV.int .u64 c.12)]), (AV.int .i64 (errC c)), (AV.int .i64 (errC c)), (AV.bool Bool.false), (AV.tup []), (AV.agg [(AV.int .u8 c.1), (AV.int .i64 c.2), (AV.int .i64 c.3), (AV.int .u8 c.4), (AV.int .i64 c.5), (AV.int .i64 c.6), (AV.int .i64 c.7), (AV.int .i64 c.8), (AV.int .i64 c.9), (AV.int .i64 c.10), (AV.int .u64 c.11), (AV.int .u64 c.12)]), (AV.fn (Fn.func 131) [] [(AV.ptr 5 0)]), (AV.tup []), (AV.tup []), (AV.tup []), (AV.tup []), (AV.tup []), (AV.tup []), (AV.tup [])] [16] atA atB 6)), (6, LB.dfb)]))))) := by kernel_rfl
theorem t_out (c : Conf) (p : Plc) (kd : Int) (fr : Int) (as_ : Int) (bs : Int) (a : Int) (n r : Int) (k : Ex → St → Bool) : runM (cfg [S_check]) 100 (loopAt (fcode Tryz.prog 132) [0]) [F_in] (I_out kd fr as_ bs a n r p.part p.a p.b c.cells c.cells (T0 c p) atA atB) (fun e s => k e (keepS [0, 1, 2, 3, 4, 9, 10] s)) = ((bif decide (a < (IntKind.wrap .i64 (fr + as_))) then ((BasZAt.onB (BasZAt.InOk c p bs bs 0 n [(AV.int .u8 c.1), (AV.int .i64 c.2), (AV.int .i64 c.3), (AV.int .u8 c.4), (AV.int .i64 c.5), (AV.int .i64 c.6), (AV.int .i64 c.7), (AV.int .i64 c.8), (AV.int .i64 c.9), (AV.int .i64 c.10), (AV.int .u64 c.11), (AV.int .u64 c.12)] [(AV.agg [(AV.int .u8 c.1), (AV.int .i64 c.2), (AV.int .i64 c.3), (AV.int .u8 c.4), (AV.int .i64 c.5), (AV.int .i64 c.6), (AV.int .i64 c.7), (AV.int .i64 c.8), (AV.int .i64 c.9), (AV.int .i64 c.10), (AV.int .u64 c.11), (AV.int .u64 c.12)]), (AV.agg [(AV.int .u8 p.1), (AV.int .i64 p.2), (AV.int .i64 p.3)]), (AV.ptr 0 0), (AV.ptr 1 0), (AV.ptr 2 0), (AV.ptr 3 0), (AV.int .i64 (errC c)), (AV.ptr 4 0), (AV.tup []), (AV.agg [(AV.int .u8 c.1), (AV.int .i64 c.2), (AV.int .i64 c.3), (AV.int .u8 c.4), (AV.int .i64 c.5), (AV.int .i64 c.6), (AV.int .i64 c.7), (AV.int .i64 c.8), (AV.int .i64 c.9), (AV.int .i64 c.10), (AV.int .u64 c.11), (AV.int .u64 c.12)]), (AV.int .i64 (errC c)), (AV.int .i64 (errC c)), (AV.bool Bool.false), (AV.tup []), (AV.agg [(AV.int .u8 c.1), (AV.int .i64 c.2), (AV.int .i64 c.3), (AV.int .u8 c.4), (AV.int .i64 c.5), (AV.int .i64 c.6), (AV.int .i64 c.7), (AV.int .i64 c.8), (AV.int .i64 c.9), (AV.int .i64 c.10), (AV.int .u64 c.11), (AV.int .u64 c.12)]), (AV.fn (Fn.func 131) [] [(AV.ptr 5 0)]), (AV.tup []), (AV.tup []), (AV.tup []), (AV.tup []), (AV.tup []), (AV.tup []), (AV.tup [])] atA atB)) && (bif (BasZAt.onB (BasZAt.Found kd a 1 bs p)) then (k Ex.ret (St.mk [(AV.int .u8 kd), (AV.int .i64 fr), (AV.int .i64 as_), (AV.int .i64 bs), (AV.ptr 8 0), AV.any, AV.any, AV.any, AV.any, (AV.bool Bool.false), (AV.int .i64 a), AV.any, AV.any, AV.any, AV.any, AV.any, AV.any, AV.any, AV.any, AV.any, AV.any, AV.any, AV.any, AV.any, AV.any, AV.any, AV.any, AV.any, AV.any, AV.any, AV.any, AV.any] [] (Mem.mk [(8, (HB.mk [(AV.yld 7)] 243 Bool.false)), (5, (HB.mk [(AV.int .u8 c.1), (AV.int .i64 c.2), (AV.int .i64 c.3), (AV.int .u8 c.4), (AV.int .i64 c.5), (AV.int .i64 c.6), (AV.int .i64 c.7), (AV.int .i64 c.8), (AV.int .i64 c.9), (AV.int .i64 c.10), (AV.int .u64 c.11), (AV.int .u64 c.12)] 24 Bool.true)), (4, (HB.mk [(AV.int .i64 (n + p.3))] 3 Bool.true)), (3, (HB.mk [(AV.int .i64 0)] 32 Bool.true)), (2, (HB.mk [(AV.int .i64 (n + p.3))] 3 Bool.true)), (1, (HB.mk [(AV.int .u8 p.1), (AV.int .i64 p.2), (AV.int .i64 p.3)] 158 Bool.true)), (0, (HB.mk [(AV.int .u8 c.1), (AV.int .i64 c.2), (AV.int .i64 c.3), (AV.int .u8 c.4), (AV.int .i64 c.5), (AV.int .i64 c.6), (AV.int .i64 c.7), (AV.int .i64 c.8), (AV.int .i64 c.9), (AV.int .i64 c.10), (AV.int .u64 c.11), (AV.int .u64 c.12)] 24 Bool.true))] 9 [(7, (LB.lop 2 (Option.some Ex.ret) [(AV.agg [(AV.int .u8 c.1), (AV.int .i64 c.2), (AV.int .i64 c.3), (AV.int .u8 c.4), (AV.int .i64 c.5), (AV.int .i64 c.6), (AV.int .i64 c.7), (AV.int .i64 c.8), (AV.int .i64 c.9), (AV.int .i64 c.10), (AV.int .u64 c.11), (AV.int .u64 c.12)]), (AV.agg [(AV.int .u8 p.1), (AV.int .i64 p.2), (AV.int .i64 p.3)]), (AV.ptr 0 0), (AV.ptr 1 0), (AV.ptr 2 0), (AV.ptr 3 0), (AV.int .i64 (errC c)), (AV.ptr 4 0), (AV.tup []), (AV.agg [(AV.int .u8 c.1), (AV.int .i64 c.2), (AV.int .i64 c.3), (AV.int .u8 c.4), (AV.int .i64 c.5), (AV.int .i64 c.6), (AV.int .i64 c.7), (AV.int .i64 c.8), (AV.int .i64 c.9), (AV.int .i64 c.10), (AV.int .u64 c.11), (AV.int .u64 c.12)]), (AV.int .i64 (errC c)), (AV.int .i64 (errC c)), (AV.bool Bool.false), (AV.tup []), (AV.agg [(AV.int .u8 c.1), (AV.int .i64 c.2), (AV.int .i64 c.3), (AV.int .u8 c.4), (AV.int .i64 c.5), (AV.int .i64 c.6), (AV.int .i64 c.7), (AV.int .i64 c.8), (AV.int .i64 c.9), (AV.int .i64 c.10), (AV.int .u64 c.11), (AV.int .u64 c.12)]), (AV.fn (Fn.func 131) [] [(AV.ptr 5 0)]), (AV.tup []), (AV.tup []), (AV.tup []), (AV.tup []), (AV.tup []), (AV.tup []), (AV.tup [])] [16] atA atB 6)), (6, LB.dfb)]))) else (k Ex.normal (St.mk [(AV.int .u8 kd), (AV.int .i64 fr), (AV.int .i64 as_), (AV.int .i64 bs), (AV.ptr 8 0), AV.any, AV.any, AV.any, AV.any, (AV.bool Bool.false), (AV.int .i64 (IntKind.wrap .i64 (a + 1))), AV.any, AV.any, AV.any, AV.any, AV.any, AV.any, AV.any, AV.any, AV.any, AV.any, AV.any, AV.any, AV.any, AV.any, AV.any, AV.any, AV.any, AV.any, AV.any, AV.any, AV.any] [] (Mem.mk [(8, (HB.mk [(AV.yld 7)] 243 Bool.false)), (5, (HB.mk [(AV.int .u8 c.1), (AV.int .i64 c.2), (AV.int .i64 c.3), (AV.int .u8 c.4), (AV.int .i64 c.5), (AV.int .i64 c.6), (AV.int .i64 c.7), (AV.int .i64 c.8), (AV.int .i64 c.9), (AV.int .i64 c.10), (AV.int .u64 c.11), (AV.int .u64 c.12)] 24 Bool.true)), (4, (HB.mk [(AV.int .i64 (n + bs))] 3 Bool.true)), (3, (HB.mk [(AV.int .i64 0)] 32 Bool.true)), (2, (HB.mk [(AV.int .i64 r)] 3 Bool.true)), (1, (HB.mk [(AV.int .u8 p.1), (AV.int .i64 p.2), (AV.int .i64 p.3)] 158 Bool.true)), (0, (HB.mk [(AV.int .u8 c.1), (AV.int .i64 c.2), (AV.int .i64 c.3), (AV.int .u8 c.4), (AV.int .i64 c.5), (AV.int .i64 c.6), (AV.int .i64 c.7), (AV.int .i64 c.8), (AV.int .i64 c.9), (AV.int .i64 c.10), (AV.int .u64 c.11), (AV.int .u64 c.12)] 24 Bool.true))] 9 [(7, (LB.lop 0 (Option.none) [(AV.agg [(AV.int .u8 c.1), (AV.int .i64 c.2), (AV.int .i64 c.3), (AV.int .u8 c.4), (AV.int .i64 c.5), (AV.int .i64 c.6), (AV.int .i64 c.7), (AV.int .i64 c.8), (AV.int .i64 c.9), (AV.int .i64 c.10), (AV.int .u64 c.11), (AV.int .u64 c.12)]), (AV.agg [(AV.int .u8 p.1), (AV.int .i64 p.2), (AV.int .i64 p.3)]), (AV.ptr 0 0), (AV.ptr 1 0), (AV.ptr 2 0), (AV.ptr 3 0), (AV.int .i64 (errC c)), (AV.ptr 4 0), (AV.tup []), (AV.agg [(AV.int .u8 c.1), (AV.int .i64 c.2), (AV.int .i64 c.3), (AV.int .u8 c.4), (AV.int .i64 c.5), (AV.int .i64 c.6), (AV.int .i64 c.7), (AV.int .i64 c.8), (AV.int .i64 c.9), (AV.int .i64 c.10), (AV.int .u64 c.11), (AV.int .u64 c.12)]), (AV.int .i64 (errC c)), (AV.int .i64 (errC c)), (AV.bool Bool.false), (AV.tup []), (AV.agg [(AV.int .u8 c.1), (AV.int .i64 c.2), (AV.int .i64 c.3), (AV.int .u8 c.4), (AV.int .i64 c.5), (AV.int .i64 c.6), (AV.int .i64 c.7), (AV.int .i64 c.8), (AV.int .i64 c.9), (AV.int .i64 c.10), (AV.int .u64 c.11), (AV.int .u64 c.12)]), (AV.fn (Fn.func 131) [] [(AV.ptr 5 0)]), (AV.tup []), (AV.tup []), (AV.tup []), (AV.tup []), (AV.tup []), (AV.tup []), (AV.tup [])] [16] atA atB 6)), (6, LB.dfb)]))))) else (k (Ex.exit 0) (St.mk [(AV.int .u8 kd), (AV.int .i64 fr), (AV.int .i64 as_), (AV.int .i64 bs), (AV.ptr 8 0), AV.any, AV.any, AV.any, AV.any, (AV.bool Bool.false), (AV.int .i64 a), AV.any, AV.any, AV.any, AV.any, AV.any, AV.any, AV.any, AV.any, AV.any, AV.any, AV.any, AV.any, AV.any, AV.any, AV.any, AV.any, AV.any, AV.any, AV.any, AV.any, AV.any] [] (Mem.mk [(8, (HB.mk [(AV.yld 7)] 243 Bool.false)), (5, (HB.mk [(AV.int .u8 c.1), (AV.int .i64 c.2), (AV.int .i64 c.3), (AV.int .u8 c.4), (AV.int .i64 c.5), (AV.int .i64 c.6), (AV.int .i64 c.7), (AV.int .i64 c.8), (AV.int .i64 c.9), (AV.int .i64 c.10), (AV.int .u64 c.11), (AV.int .u64 c.12)] 24 Bool.true)), (4, (HB.mk [(AV.int .i64 n)] 3 Bool.true)), (3, (HB.mk [(AV.int .i64 0)] 32 Bool.true)), (2, (HB.mk [(AV.int .i64 r)] 3 Bool.true)), (1, (HB.mk [(AV.int .u8 p.1), (AV.int .i64 p.2), (AV.int .i64 p.3)] 158 Bool.true)), (0, (HB.mk [(AV.int .u8 c.1), (AV.int .i64 c.2), (AV.int .i64 c.3), (AV.int .u8 c.4), (AV.int .i64 c.5), (AV.int .i64 c.6), (AV.int .i64 c.7), (AV.int .i64 c.8), (AV.int .i64 c.9), (AV.int .i64 c.10), (AV.int .u64 c.11), (AV.int .u64 c.12)] 24 Bool.true))] 9 [(7, (LB.lop 0 (Option.none) [(AV.agg [(AV.int .u8 c.1), (AV.int .i64 c.2), (AV.int .i64 c.3), (AV.int .u8 c.4), (AV.int .i64 c.5), (AV.int .i64 c.6), (AV.int .i64 c.7), (AV.int .i64 c.8), (AV.int .i64 c.9), (AV.int .i64 c.10), (AV.int .u64 c.11), (AV.int .u64 c.12)]), (AV.agg [(AV.int .u8 p.1), (AV.int .i64 p.2), (AV.int .i64 p.3)]), (AV.ptr 0 0), (AV.ptr 1 0), (AV.ptr 2 0), (AV.ptr 3 0), (AV.int .i64 (errC c)), (AV.ptr 4 0), (AV.tup []), (AV.agg [(AV.int .u8 c.1), (AV.int .i64 c.2), (AV.int .i64 c.3), (AV.int .u8 c.4), (AV.int .i64 c.5), (AV.int .i64 c.6), (AV.int .i64 c.7), (AV.int .i64 c.8), (AV.int .i64 c.9), (AV.int .i64 c.10), (AV.int .u64 c.11), (AV.int .u64 c.12)]), (AV.int .i64 (errC c)), (AV.int .i64 (errC c)), (AV.bool Bool.false), (AV.tup []), (AV.agg [(AV.int .u8 c.1), (AV.int .i64 c.2), (AV.int .i64 c.3), (AV.int .u8 c.4), (AV.int .i64 c.5), (AV.int .i64 c.6), (AV.int .i64 c.7), (AV.int .i64 c.8), (AV.int .i64 c.9), (AV.int .i64 c.10), (AV.int .u64 c.11), (AV.int .u64 c.12)]), (AV.fn (Fn.func 131) [] [(AV.ptr 5 0)]), (AV.tup []), (AV.tup []), (AV.tup []), (AV.tup []), (AV.tup []), (AV.tup []), (AV.tup [])] [16] atA atB 6)), (6, LB.dfb)]))))) := by kernel_rfl
theorem t_each (c : Conf) (p : Plc) (kd fr as_ bs n r : Int) (k : Ex → St → Bool) : runM (cfg [S_check]) 100 (fcode Tryz.prog 132) [F_out] ⟨padL [.int .u8 kd, .int .i64 fr, .int .i64 as_, .int .i64 bs, .ptr 8 0] 32, [], atM c p n r 0 none⟩ (fun e s => k e (keepS [9] s)) = (((BasZAt.onB (BasZAt.OutOk c p fr as_ bs fr n [(AV.int .u8 c.1), (AV.int .i64 c.2), (AV.int .i64 c.3), (AV.int .u8 c.4), (AV.int .i64 c.5), (AV.int .i64 c.6), (AV.int .i64 c.7), (AV.int .i64 c.8), (AV.int .i64 c.9), (AV.int .i64 c.10), (AV.int .u64 c.11), (AV.int .u64 c.12)] [(AV.agg [(AV.int .u8 c.1), (AV.int .i64 c.2), (AV.int .i64 c.3), (AV.int .u8 c.4), (AV.int .i64 c.5), (AV.int .i64 c.6), (AV.int .i64 c.7), (AV.int .i64 c.8), (AV.int .i64 c.9), (AV.int .i64 c.10), (AV.int .u64 c.11), (AV.int .u64 c.12)]), (AV.agg [(AV.int .u8 p.1), (AV.int .i64 p.2), (AV.int .i64 p.3)]), (AV.ptr 0 0), (AV.ptr 1 0), (AV.ptr 2 0), (AV.ptr 3 0), (AV.int .i64 (errC c)), (AV.ptr 4 0), (AV.tup []), (AV.agg [(AV.int .u8 c.1), (AV.int .i64 c.2), (AV.int .i64 c.3), (AV.int .u8 c.4), (AV.int .i64 c.5), (AV.int .i64 c.6), (AV.int .i64 c.7), (AV.int .i64 c.8), (AV.int .i64 c.9), (AV.int .i64 c.10), (AV.int .u64 c.11), (AV.int .u64 c.12)]), (AV.int .i64 (errC c)), (AV.int .i64 (errC c)), (AV.bool Bool.false), (AV.tup []), (AV.agg [(AV.int .u8 c.1), (AV.int .i64 c.2), (AV.int .i64 c.3), (AV.int .u8 c.4), (AV.int .i64 c.5), (AV.int .i64 c.6), (AV.int .i64 c.7), (AV.int .i64 c.8), (AV.int .i64 c.9), (AV.int .i64 c.10), (AV.int .u64 c.11), (AV.int .u64 c.12)]), (AV.fn (Fn.func 131) [] [(AV.ptr 5 0)]), (AV.tup []), (AV.tup []), (AV.tup []), (AV.tup []), (AV.tup []), (AV.tup []), (AV.tup [])] atA atB)) && (bif (BasZAt.onB (BasZAt.Found kd fr as_ bs p)) then (k Ex.ret (St.mk [AV.any, AV.any, AV.any, AV.any, AV.any, AV.any, AV.any, AV.any, AV.any, (AV.bool Bool.false), AV.any, AV.any, AV.any, AV.any, AV.any, AV.any, AV.any, AV.any, AV.any, AV.any, AV.any, AV.any, AV.any, AV.any, AV.any, AV.any, AV.any, AV.any, AV.any, AV.any, AV.any, AV.any] [] (Mem.mk [(8, (HB.mk [(AV.yld 7)] 243 Bool.false)), (5, (HB.mk [(AV.int .u8 c.1), (AV.int .i64 c.2), (AV.int .i64 c.3), (AV.int .u8 c.4), (AV.int .i64 c.5), (AV.int .i64 c.6), (AV.int .i64 c.7), (AV.int .i64 c.8), (AV.int .i64 c.9), (AV.int .i64 c.10), (AV.int .u64 c.11), (AV.int .u64 c.12)] 24 Bool.true)), (4, (HB.mk [(AV.int .i64 ((n + ((p.2 - fr) * bs)) + p.3))] 3 Bool.true)), (3, (HB.mk [(AV.int .i64 0)] 32 Bool.true)), (2, (HB.mk [(AV.int .i64 ((n + ((p.2 - fr) * bs)) + p.3))] 3 Bool.true)), (1, (HB.mk [(AV.int .u8 p.1), (AV.int .i64 p.2), (AV.int .i64 p.3)] 158 Bool.true)), (0, (HB.mk [(AV.int .u8 c.1), (AV.int .i64 c.2), (AV.int .i64 c.3), (AV.int .u8 c.4), (AV.int .i64 c.5), (AV.int .i64 c.6), (AV.int .i64 c.7), (AV.int .i64 c.8), (AV.int .i64 c.9), (AV.int .i64 c.10), (AV.int .u64 c.11), (AV.int .u64 c.12)] 24 Bool.true))] 9 [(7, (LB.lop 2 (Option.some Ex.ret) [(AV.agg [(AV.int .u8 c.1), (AV.int .i64 c.2), (AV.int .i64 c.3), (AV.int .u8 c.4), (AV.int .i64 c.5), (AV.int .i64 c.6), (AV.int .i64 c.7), (AV.int .i64 c.8), (AV.int .i64 c.9), (AV.int .i64 c.10), (AV.int .u64 c.11), (AV.int .u64 c.12)]), (AV.agg [(AV.int .u8 p.1), (AV.int .i64 p.2), (AV.int .i64 p.3)]), (AV.ptr 0 0), (AV.ptr 1 0), (AV.ptr 2 0), (AV.ptr 3 0), (AV.int .i64 (errC c)), (AV.ptr 4 0), (AV.tup []), (AV.agg [(AV.int .u8 c.1), (AV.int .i64 c.2), (AV.int .i64 c.3), (AV.int .u8 c.4), (AV.int .i64 c.5), (AV.int .i64 c.6), (AV.int .i64 c.7), (AV.int .i64 c.8), (AV.int .i64 c.9), (AV.int .i64 c.10), (AV.int .u64 c.11), (AV.int .u64 c.12)]), (AV.int .i64 (errC c)), (AV.int .i64 (errC c)), (AV.bool Bool.false), (AV.tup []), (AV.agg [(AV.int .u8 c.1), (AV.int .i64 c.2), (AV.int .i64 c.3), (AV.int .u8 c.4), (AV.int .i64 c.5), (AV.int .i64 c.6), (AV.int .i64 c.7), (AV.int .i64 c.8), (AV.int .i64 c.9), (AV.int .i64 c.10), (AV.int .u64 c.11), (AV.int .u64 c.12)]), (AV.fn (Fn.func 131) [] [(AV.ptr 5 0)]), (AV.tup []), (AV.tup []), (AV.tup []), (AV.tup []), (AV.tup []), (AV.tup []), (AV.tup [])] [16] atA atB 6)), (6, LB.dfb)]))) else (k Ex.ret (St.mk [AV.any, AV.any, AV.any, AV.any, AV.any, AV.any, AV.any, AV.any, AV.any, (AV.bool Bool.true), AV.any, AV.any, AV.any, AV.any, AV.any, AV.any, AV.any, AV.any, AV.any, AV.any, AV.any, AV.any, AV.any, AV.any, AV.any, AV.any, AV.any, AV.any, AV.any, AV.any, AV.any, AV.any] [] (Mem.mk [(8, (HB.mk [(AV.yld 7)] 243 Bool.false)), (5, (HB.mk [(AV.int .u8 c.1), (AV.int .i64 c.2), (AV.int .i64 c.3), (AV.int .u8 c.4), (AV.int .i64 c.5), (AV.int .i64 c.6), (AV.int .i64 c.7), (AV.int .i64 c.8), (AV.int .i64 c.9), (AV.int .i64 c.10), (AV.int .u64 c.11), (AV.int .u64 c.12)] 24 Bool.true)), (4, (HB.mk [(AV.int .i64 (n + (as_ * bs)))] 3 Bool.true)), (3, (HB.mk [(AV.int .i64 0)] 32 Bool.true)), (2, (HB.mk [(AV.int .i64 r)] 3 Bool.true)), (1, (HB.mk [(AV.int .u8 p.1), (AV.int .i64 p.2), (AV.int .i64 p.3)] 158 Bool.true)), (0, (HB.mk [(AV.int .u8 c.1), (AV.int .i64 c.2), (AV.int .i64 c.3), (AV.int .u8 c.4), (AV.int .i64 c.5), (AV.int .i64 c.6), (AV.int .i64 c.7), (AV.int .i64 c.8), (AV.int .i64 c.9), (AV.int .i64 c.10), (AV.int .u64 c.11), (AV.int .u64 c.12)] 24 Bool.true))] 9 [(7, (LB.lop 0 (Option.none) [(AV.agg [(AV.int .u8 c.1), (AV.int .i64 c.2), (AV.int .i64 c.3), (AV.int .u8 c.4), (AV.int .i64 c.5), (AV.int .i64 c.6), (AV.int .i64 c.7), (AV.int .i64 c.8), (AV.int .i64 c.9), (AV.int .i64 c.10), (AV.int .u64 c.11), (AV.int .u64 c.12)]), (AV.agg [(AV.int .u8 p.1), (AV.int .i64 p.2), (AV.int .i64 p.3)]), (AV.ptr 0 0), (AV.ptr 1 0), (AV.ptr 2 0), (AV.ptr 3 0), (AV.int .i64 (errC c)), (AV.ptr 4 0), (AV.tup []), (AV.agg [(AV.int .u8 c.1), (AV.int .i64 c.2), (AV.int .i64 c.3), (AV.int .u8 c.4), (AV.int .i64 c.5), (AV.int .i64 c.6), (AV.int .i64 c.7), (AV.int .i64 c.8), (AV.int .i64 c.9), (AV.int .i64 c.10), (AV.int .u64 c.11), (AV.int .u64 c.12)]), (AV.int .i64 (errC c)), (AV.int .i64 (errC c)), (AV.bool Bool.false), (AV.tup []), (AV.agg [(AV.int .u8 c.1), (AV.int .i64 c.2), (AV.int .i64 c.3), (AV.int .u8 c.4), (AV.int .i64 c.5), (AV.int .i64 c.6), (AV.int .i64 c.7), (AV.int .i64 c.8), (AV.int .i64 c.9), (AV.int .i64 c.10), (AV.int .u64 c.11), (AV.int .u64 c.12)]), (AV.fn (Fn.func 131) [] [(AV.ptr 5 0)]), (AV.tup []), (AV.tup []), (AV.tup []), (AV.tup []), (AV.tup []), (AV.tup []), (AV.tup [])] [16] atA atB 6)), (6, LB.dfb)])))))) := by kernel_rfl
end Go.Bas.BasZAt
end
section
namespace Go.Bas.BasZAt2
open Go.RowKit Go.Proofs Go.Bas.BasZBase Go.Bas.BasZAt
set_option maxRecDepth 100000
set_option maxHeartbeats 1000000
set_option linter.unusedVariables false
set_option linter.unusedSimpArgs false
section
variable {C : Cfg} {K : Ex → St → Prop} {st : St}
theorem AWp.runMK (hC : C.Ok) (ls : List Nat) {n : Nat} {c : Code} {l : List LF} (hl : LoopsOkP C (loopsOf c) l) (h : ∀ k : Ex → St → Bool, (∀ e s, K e s → k e s = true) → Bas.runM C n c l st (fun e s => k e (keepS ls s)) = true) : AWp C none c st K := by
  classical
  have h1 := h (fun e s => decide (K e s)) (fun e s h => decide_eq_true h)
  have := runA_soundP hC (mkA c l) st _ (mkA_okP c l hl) h1
  rw [mkA_code] at this
  exact this.post fun e s hk => ⟨_, LessS.keep ls s, of_decide_eq_true hk⟩
theorem LessD.base {n n' : Nat} {st st' : St} (h : LessD C n st st') (hn : n' ≤ n) : LessD C n' st st' := ⟨Nat.le_trans hn h.1, h.2⟩
theorem LessD.eqN {n : Nat} {st st' : St} (h : st = st') (hn : st.m.nx = n) : LessD C n st st' := by subst h; subst hn; exact (LessS.refl st).d
theorem LessD.fill (st : St) (N : Nat) (live : List (Nat × AV)) (b : Nat) (hn : st.tmps.length = N) (hl : AllL st.tmps live) (hb : b ≤ st.m.nx) : LessD C b st ⟨Bas.fill N live, st.ds, st.m⟩ :=
  ⟨hb, Nat.le_refl _, (LessS.fill hn hl rfl rfl).2⟩
end
theorem hC : (cfg [S_check]).Ok := cfg_ok base (sums_cons s_check sums_nil)
theorem w64i {n : Int} (h : -1000000000 ≤ n) (h' : n ≤ 1000000000) : IntKind.wrap .i64 n = n := wrap_eq (by simp [Lit.wf, IntKind.min, IntKind.max, IntKind.signed, IntKind.bits]; omega)
theorem in_loops : loopsOf (loopAt (fcode Tryz.prog 132) [0]) = [.loop (loopAt (fcode Tryz.prog 132) [0, 0])] := by kernel_rfl
theorem out_loops : loopsOf (fcode Tryz.prog 132) = [.loop (loopAt (fcode Tryz.prog 132) [0])] := by kernel_rfl

theorem G_in_ok : ∀ (kd fr as_ bs a bs2 b n r pp pa pb : Int) (cc c5 T : List AV) (asg bdy : Code) (k : Ex → St → Bool), G_in kd fr as_ bs a bs2 b n r pp pa pb cc c5 T asg bdy k = true →
    AWp (cfg [S_check]) none (.loop (loopAt (fcode Tryz.prog 132) [0, 0])) (I_in kd fr as_ bs a bs2 b n r pp pa pb cc c5 T asg bdy) (fun e s => k e s = true) := by
  intro kd fr as_ bs a bs2 b n r pp pa pb cc c5 T asg bdy k hG
  unfold G_in at hG
  split at hG
  case h_2 => cases hG
  rename_i c hc
  have hcc : cc = c.cells := AV.agg.inj (confOf_some hc)
  subst hcc
  rcases of_cond2 hG with ⟨hok, hG2⟩ | ⟨_, hG2⟩
  case inr => cases hG2
  clear hG
  obtain ⟨rfl, rfl, hb0, hb1, hn0, hn1, rfl, rfl, rfl, rfl⟩ := onB_true.1 hok
  suffices key : AWp (cfg [S_check]) none (.loop (loopAt (fcode Tryz.prog 132) [0, 0])) (I_in kd fr as_ bs2 a bs2 ((0 : Nat) : Int) (n + ((0 : Nat) : Int)) r pp pa pb c.cells c.cells (T0 c ⟨pp, pa, pb⟩) atA atB) (fun e s => k e s = true) by
    rw [show n + ((0 : Nat) : Int) = n by simp] at key
    exact key
  refine AWp.loopD (K := fun e s => k e s = true) (fun i : { i : Nat // (i : Int) ≤ bs2 ∧ ∀ j : Nat, j < i → ¬ (kd = pp ∧ a = pa ∧ (j : Int) = pb) } => I_in kd fr as_ bs2 a bs2 ((i.1 : Nat) : Int) (n + ((i.1 : Nat) : Int)) r pp pa pb c.cells c.cells (T0 c ⟨pp, pa, pb⟩) atA atB) 9 (fun _ => rfl) (fun i => bs2.toNat - i.1) ?_ ⟨0, hb0, fun j hj => absurd hj (Nat.not_lt_zero _)⟩
  rintro ⟨i, hi, hno⟩
  refine AWp.runK hC [0, 1, 2, 3, 4, 9, 10, 20, 21] (n := 100) fun k' hk => ?_
  refine (t_in c ⟨pp, pa, pb⟩ kd fr as_ bs2 a bs2 ((i : Nat) : Int) (n + ((i : Nat) : Int)) r k').trans ?_
  refine condI (fun h => ?_) (fun h => ?_)
  · have hlt : ((i : Nat) : Int) < bs2 := of_decide_eq_true h
    refine condI (fun hf => ?_) (fun hf => ?_)
    · simp only [Bool.and_true, Bool.and_eq_true, decide_eq_true_eq] at hf
      obtain ⟨f1, f2, f3⟩ := hf
      have f1 : kd = pp := f1
      have f2 : a = pa := f2
      have f3 : ((i : Nat) : Int) = pb := f3
      have hF : onB (BasZAt.Found kd a 1 bs2 ⟨pp, pa, pb⟩) = true := onB_true.2 ⟨f1, by show a ≤ pa; omega, by show pa < a + 1; omega, by show 0 ≤ pb; omega, by show pb < bs2; omega⟩
      rw [hF] at hG2
      subst f3
      refine hk .ret _ ?_
      refine ⟨_, (LessD.fill _ 32 [(0, .int .u8 kd), (1, .int .i64 fr), (2, .int .i64 as_), (3, .int .i64 bs2), (4, .ptr 8 0), (9, .bool false), (10, .int .i64 a)] 9 rfl ⟨rfl, rfl, rfl, rfl, rfl, rfl, rfl, trivial⟩ (by show 9 ≤ 10; omega)).trans (LessD.drop 9 9 (Nat.le_refl _) (by show 9 ≤ 10; omega) (by kernel_rfl) (by kernel_rfl)), ?_⟩
      exact hG2
    · have hw1 : IntKind.wrap .i64 (((i : Nat) : Int) + 1) = ((i + 1 : Nat) : Int) := by rw [w64i (by omega) (by omega)]; omega
      have hw2 : IntKind.wrap .i64 (n + ((i : Nat) : Int) + 1) = n + ((i + 1 : Nat) : Int) := by rw [w64i (by omega) (by omega)]; omega
      rw [hw1, hw2]
      refine hk .normal _ ⟨⟨i + 1, by omega, fun j hj => ?_⟩, by show bs2.toNat - (i + 1) < bs2.toNat - i; omega, (LessD.drop 9 9 (Nat.le_refl _) (by show 9 ≤ 10; omega) (by kernel_rfl) (by kernel_rfl)).trans (LessD.eqN rfl rfl)⟩
      rcases Nat.lt_succ_iff_lt_or_eq.1 hj with hj | rfl
      · exact hno j hj
      · intro ⟨g1, g2, g3⟩
        have : (decide (kd = pp) && (decide (a = pa) && (decide (((j : Nat) : Int) = pb) && true))) = true := by simp [g1, g2, g3]
        have hf : (decide (kd = pp) && (decide (a = pa) && (decide (((j : Nat) : Int) = pb) && true))) = false := hf
        rw [this] at hf; cases hf
  · have hge : ¬ ((i : Nat) : Int) < bs2 := of_decide_eq_false h
    have hib : ((i : Nat) : Int) = bs2 := by omega
    have hF : onB (BasZAt.Found kd a 1 bs2 ⟨pp, pa, pb⟩) = false := by
      rw [Bool.eq_false_iff]
      intro hh
      obtain ⟨f1, f2, f3, f4, f5⟩ := onB_true.1 hh
      have f2 : a ≤ pa := f2
      have f3 : pa < a + 1 := f3
      have f4 : 0 ≤ pb := f4
      have f5 : pb < bs2 := f5
      exact hno pb.toNat (by omega) ⟨f1, by omega, by omega⟩
    rw [hF] at hG2
    refine hk (.exit 2) _ ?_
    refine ⟨_, LessD.fill _ 32 [(0, .int .u8 kd), (1, .int .i64 fr), (2, .int .i64 as_), (3, .int .i64 bs2), (4, .ptr 8 0), (9, .bool false), (10, .int .i64 a)] 9 rfl ⟨rfl, rfl, rfl, rfl, rfl, rfl, rfl, trivial⟩ (Nat.le_refl _), ?_⟩
    rw [hib]
    exact hG2
theorem in_ok : LoopsOkP (cfg [S_check]) (loopsOf (loopAt (fcode Tryz.prog 132) [0])) [F_in] := by
  rw [in_loops]
  exact ⟨fun st k h => P_in_okP G_in_ok st k h, trivial⟩
theorem mul_step {x y z : Int} (h : 0 ≤ z) (hxy : x ≤ y) : x * z ≤ y * z := Int.mul_le_mul_of_nonneg_right hxy h
theorem G_out_ok : ∀ (kd fr as_ bs a n r pp pa pb : Int) (cc c5 T : List AV) (asg bdy : Code) (k : Ex → St → Bool), G_out kd fr as_ bs a n r pp pa pb cc c5 T asg bdy k = true →
    AWp (cfg [S_check]) none (.loop (loopAt (fcode Tryz.prog 132) [0])) (I_out kd fr as_ bs a n r pp pa pb cc c5 T asg bdy) (fun e s => k e s = true) := by
  intro kd fr as_ bs a n r pp pa pb cc c5 T asg bdy k hG
  unfold G_out at hG
  split at hG
  case h_2 => cases hG
  rename_i c hc
  have hcc : cc = c.cells := AV.agg.inj (confOf_some hc)
  subst hcc
  rcases of_cond2 hG with ⟨hok, hG2⟩ | ⟨_, hG2⟩
  case inr => cases hG2
  clear hG
  obtain ⟨rfl, hf0, hf1, ha0, ha1, hb0, hb1, hn0, hn1, rfl, rfl, rfl, rfl⟩ := onB_true.1 hok
  suffices key : AWp (cfg [S_check]) none (.loop (loopAt (fcode Tryz.prog 132) [0])) (I_out kd a as_ bs (a + ((0 : Nat) : Int)) (n + ((0 : Nat) : Int) * bs) r pp pa pb c.cells c.cells (T0 c ⟨pp, pa, pb⟩) atA atB) (fun e s => k e s = true) by
    rw [show n + ((0 : Nat) : Int) * bs = n by simp, show a + ((0 : Nat) : Int) = a by simp] at key
    exact key
  refine AWp.loopD (K := fun e s => k e s = true) (fun i : { i : Nat // (i : Int) ≤ as_ ∧ ∀ j : Nat, j < i → ¬ (kd = pp ∧ a + (j : Int) = pa ∧ 0 ≤ pb ∧ pb < bs) } => I_out kd a as_ bs (a + ((i.1 : Nat) : Int)) (n + ((i.1 : Nat) : Int) * bs) r pp pa pb c.cells c.cells (T0 c ⟨pp, pa, pb⟩) atA atB) 9 (fun _ => rfl) (fun i => as_.toNat - i.1) ?_ ⟨0, ha0, fun j hj => absurd hj (Nat.not_lt_zero _)⟩
  rintro ⟨i, hi, hno⟩
  have hm0 : 0 ≤ ((i : Nat) : Int) * bs := Int.mul_nonneg (by omega) hb0
  have hm1 := mul_step hb0 hi
  refine AWp.runMK hC [0, 1, 2, 3, 4, 9, 10] (n := 100) in_ok fun k' hk => ?_
  refine (t_out c ⟨pp, pa, pb⟩ kd a as_ bs (a + ((i : Nat) : Int)) (n + ((i : Nat) : Int) * bs) r k').trans ?_
  have hw0 : IntKind.wrap .i64 (a + as_) = a + as_ := w64i (by omega) (by omega)
  rw [hw0]
  refine condI (fun h => ?_) (fun h => ?_)
  · have hlt : a + ((i : Nat) : Int) < a + as_ := of_decide_eq_true h
    have hm2 : (((i + 1 : Nat) : Nat) : Int) * bs ≤ as_ * bs := mul_step hb0 (by omega)
    have hm3 : (((i + 1 : Nat) : Nat) : Int) * bs = ((i : Nat) : Int) * bs + bs := by rw [Int.natCast_add, Int.add_mul]; simp
    refine andI (onB_true.2 ⟨rfl, rfl, hb0, hb1, by omega, by omega, rfl, rfl, rfl, rfl⟩) (condI (fun hf => ?_) (fun hf => ?_))
    · obtain ⟨f1, f2, f3, f4, f5⟩ := onB_true.1 hf
      have f1 : kd = pp := f1
      have f2 : a + ((i : Nat) : Int) ≤ pa := f2
      have f3 : pa < a + ((i : Nat) : Int) + 1 := f3
      have f4 : 0 ≤ pb := f4
      have f5 : pb < bs := f5
      have hF : onB (BasZAt.Found kd a as_ bs ⟨pp, pa, pb⟩) = true := onB_true.2 ⟨f1, by show a ≤ pa; omega, by show pa < a + as_; omega, f4, f5⟩
      rw [hF] at hG2
      refine hk .ret _ ?_
      refine ⟨_, LessD.fill _ 32 [(9, .bool false)] 9 rfl ⟨rfl, trivial⟩ (Nat.le_refl _), ?_⟩
      have e1 : pa - a = ((i : Nat) : Int) := by omega
      rw [e1] at hG2
      exact hG2
    · have hw1 : IntKind.wrap .i64 (a + ((i : Nat) : Int) + 1) = a + ((i + 1 : Nat) : Int) := by rw [w64i (by omega) (by omega)]; omega
      have hw2 : n + ((i : Nat) : Int) * bs + bs = n + ((i + 1 : Nat) : Int) * bs := by omega
      rw [hw1, hw2]
      refine hk .normal _ ⟨⟨i + 1, by omega, fun j hj => ?_⟩, by show as_.toNat - (i + 1) < as_.toNat - i; omega, LessD.eqN rfl rfl⟩
      rcases Nat.lt_succ_iff_lt_or_eq.1 hj with hj | rfl
      · exact hno j hj
      · intro ⟨g1, g2, g3, g4⟩
        have : onB (BasZAt.Found kd (a + ((j : Nat) : Int)) 1 bs ⟨pp, pa, pb⟩) = true := onB_true.2 ⟨g1, by show a + ((j : Nat) : Int) ≤ pa; omega, by show pa < a + ((j : Nat) : Int) + 1; omega, g3, g4⟩
        rw [this] at hf; cases hf
  · have hge : ¬ a + ((i : Nat) : Int) < a + as_ := of_decide_eq_false h
    have hib : ((i : Nat) : Int) = as_ := by omega
    have hF : onB (BasZAt.Found kd a as_ bs ⟨pp, pa, pb⟩) = false := by
      rw [Bool.eq_false_iff]
      intro hh
      obtain ⟨f1, f2, f3, f4, f5⟩ := onB_true.1 hh
      have f2 : a ≤ pa := f2
      have f3 : pa < a + as_ := f3
      exact hno (pa - a).toNat (by omega) ⟨f1, by omega, f4, f5⟩
    rw [hF] at hG2
    refine hk (.exit 0) _ ?_
    refine ⟨_, LessD.fill _ 32 [(9, .bool false)] 9 rfl ⟨rfl, trivial⟩ (Nat.le_refl _), ?_⟩
    rw [hib]
    exact hG2
theorem out_ok : LoopsOkP (cfg [S_check]) (loopsOf (fcode Tryz.prog 132)) [F_out] := by
  rw [out_loops]
  exact ⟨fun st k h => P_out_okP G_out_ok st k h, trivial⟩

/-- What the places of a part do, where they stand. -/
noncomputable def F_each (args : List AV) (m : Mem) : TrM := match args with
  | [.int .u8 kd, .int .i64 fr, .int .i64 as_, .int .i64 bs, .ptr 8 0] => match m with
    | ⟨[(8, ⟨[.yld 7], 243, false⟩), (5, ⟨c5, 24, true⟩), (4, ⟨[.int .i64 n], 3, true⟩), (3, ⟨[.int .i64 z], 32, true⟩), (2, ⟨[.int .i64 r], 3, true⟩), (1, ⟨[.int .u8 pp, .int .i64 pa, .int .i64 pb], 158, true⟩), (0, ⟨cc, 24, true⟩)], 9, [(7, .lop 0 none T [16] asg bdy 6), (6, .dfb)]⟩ => match confOf (.agg cc) with
      | some c => .br (decide (z = 0)) (.br (onB (OutOk c ⟨pp, pa, pb⟩ fr as_ bs fr n c5 T asg bdy)) (.br (onB (BasZAt.Found kd fr as_ bs ⟨pp, pa, pb⟩)) (.leaf (.bool false) (atM c ⟨pp, pa, pb⟩ (n + (pa - fr) * bs + pb) (n + (pa - fr) * bs + pb) 2 (some .ret))) (.leaf (.bool true) (atM c ⟨pp, pa, pb⟩ (n + as_ * bs) r 0 none))) .bad) .bad
      | none => .bad
    | _ => .bad
  | _ => .bad
theorem each_ok : InpOk (cfg [S_check]) 132 F_each := by
  obtain ⟨fn, hfn, hbd, hnt, hrs⟩ := fn_is (P := Tryz.prog) (f := 132) (n := 32) (r := 1) (by kernel_rfl)
  refine inp_of_awp hC hfn hbd rfl rfl rfl fun args m kk h => ?_
  unfold F_each at h
  split at h
  case h_2 => cases h
  rename_i kd fr as_ bs
  split at h
  case h_2 => cases h
  rename_i c5 n z r pp pa pb cc T asg bdy
  split at h
  case h_2 => cases h
  rename_i c hc
  have hcc : cc = c.cells := AV.agg.inj (confOf_some hc)
  subst hcc
  rw [TrM.ev_br] at h
  rcases of_cond2 h with ⟨hz, h1⟩ | ⟨_, h1⟩
  case inr => cases h1
  clear h
  obtain rfl : z = 0 := of_decide_eq_true hz
  rw [TrM.ev_br] at h1
  rcases of_cond2 h1 with ⟨hok, h⟩ | ⟨_, h2⟩
  case inr => cases h2
  clear h1
  have hok' := onB_true.1 hok
  obtain ⟨_, hf0, hf1, ha0, ha1, hb0, hb1, hn0, hn1, rfl, rfl, rfl, rfl⟩ := hok'
  rw [hnt]
  refine AWp.runMK hC [9] (n := 100) out_ok fun k hk => ?_
  refine (t_each c ⟨pp, pa, pb⟩ kd fr as_ bs n r k).trans ?_
  refine andI hok ?_
  rw [TrM.ev_br] at h
  have hres : ∀ (s : St) (kk : AV → Mem → Bool), s.ds = [] → closeK s.ds s.m.lp (fun lp => resK (cfg [S_check]) fn s (fun v => kk v ⟨s.m.heap, s.m.nx, lp⟩) false) false = kk (lget s.tmps 9) s.m := fun s kk hd => by
    rw [hd]
    show resK (cfg [S_check]) fn s (fun v => kk v ⟨s.m.heap, s.m.nx, s.m.lp⟩) false = _
    have : ((Tryz.prog.funcs[132]?).map fun fn => fn.results.toList) = some [.tmp 9] := by kernel_rfl
    rw [show Tryz.prog.funcs[132]? = some fn from hfn] at this
    have hr : fn.results.toList = [.tmp 9] := Option.some.inj this
    unfold resK
    rw [hr]
    rfl
  refine condI (fun hf => ?_) (fun hf => ?_)
  · rw [hf] at h
    refine hk .ret _ ⟨.inl rfl, ?_⟩
    rw [hres _ _ rfl]
    exact h
  · rw [hf] at h
    refine hk .ret _ ⟨.inl rfl, ?_⟩
    rw [hres _ _ rfl]
    exact h
end Go.Bas.BasZAt2
end
