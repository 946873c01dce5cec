/- The engine, part W: a run that comes to 'true' is the model's; The engine, part X: a region whose order is drawn; a loop over a function begins and ends; The engine, part Y: a run that comes to 'true' is the model's: the whole; and a function's run; The engine, part K: summaries asv a list, and a function's summary out of its run; The engine, part L: what a row's arguments read asv, seen abstractly; and a row's claim 'it returns; The engine, part M: pieces of code put together by hand: sequences, blocks, loops with a family of s. -/
import Derived.Test.YtjibpphcdfbgkaaDoorBasW4
import Derived.ProofKit
section
namespace Go.Bas
open Go.RowKit
set_option linter.unusedSimpArgs false
set_option linter.unusedVariables false

section
variable {P : Program} {F : Fence} {n : Nat} {b : Frame} {a : Act} {k : List Item} {cs : List Frame} {w : World}
theorem stepR_scope {body : Code} : step P (lone (b.atR a (.code (.scope body) :: k)) cs w) = .next (lone (b.atR a (.code body :: .inScope body :: k)) cs w) :=
  step_lone_go (by simp [stepG, stepG.exec, Frame.atR])
theorem stepR_inScope {body : Code} : step P (lone (b.atR a (.inScope body :: k)) cs w) = .next (lone (b.atR a k) cs w) :=
  step_lone_go (by simp [stepG, stepG.exec, Frame.atR])
/-- A scope, its jumps counted. -/
def scopeIn (F : Fence) (P : Program) (body : Code) (Q : Exit → Act → World → Prop) : Nat → Code → Act → World → Prop
  | 0, _, _, _ => False
  | n + 1, cur, a, w => cur.wpIn F 0 P (fun e a' w' => match e with
    | .goto l => match findLabel body l with
      | some rest => scopeIn F P body Q n rest a' w'
      | none => Q (.goto l) a' w'
    | e => Q e a' w') a w
theorem wpIn_scopeIn {body : Code} {Q : Exit → Act → World → Prop} {n : Nat} {a : Act} {w : World} (h : scopeIn F P body Q n body a w) : (Code.scope body).wpIn F 0 P Q a w := by
  intro b k cs hro hb hr
  have key : ∀ n cur a w, scopeIn F P body Q n cur a w → ∃ e a' w', Q e a' w' ∧ ArrivesIn (Machine.fenced P F) P (lone (b.atR a (.code cur :: .inScope body :: k)) cs w) b k cs e a' w' := by
    intro n
    induction n with
    | zero => intro cur a w h; exact h.elim
    | succ n ih =>
      intro cur a w h
      obtain ⟨e, a₁, w₁, hq, harr⟩ := h b (.inScope body :: k) cs hro hb hr
      cases e with
      | normal => exact ⟨.normal, a₁, w₁, hq, StepsIn.trans harr (.one (fenced_calm hb hr rfl) stepR_inScope)⟩
      | exit id => exact ⟨.exit id, a₁, w₁, hq, fun k' hk => harr.1 k' (by simp [exitTo, hk]), fun hs hk => harr.2 hs (by simp [exitTo, hk])⟩
      | goto l =>
        simp only at hq
        split at hq
        · rename_i rest hf
          obtain ⟨e₂, a₂, w₂, hq₂, harr₂⟩ := ih rest a₁ w₁ hq
          exact ⟨e₂, a₂, w₂, hq₂, .of_steps (harr.1 _ (by simp [gotoIn, hf])) harr₂⟩
        · rename_i hf
          exact ⟨.goto l, a₁, w₁, hq, fun k' hk => harr.1 k' (by simp [gotoIn, hf, hk]), fun hs hk => harr.2 hs (by simp [gotoIn, hf, hk])⟩
      | ret => exact ⟨_, a₁, w₁, hq, harr⟩
      | panic ch => exact ⟨_, a₁, w₁, hq, harr⟩
      | outgrown => exact ⟨_, a₁, w₁, hq, harr⟩
  obtain ⟨e, a₁, w₁, hq, harr⟩ := key n body a w h
  exact ⟨e, a₁, w₁, hq, .of_steps (.one (fenced_calm hb hr rfl) stepR_scope) harr⟩
end

section
variable {C : Cfg}

/-- In which round it is. -/
def InR (ω : Nat → Option Nat) (nx : Nat) : Option Nat → Option Nat → Prop
  | none, none => True
  | some id, some l => id < nx ∧ ω id = some l
  | _, _ => False
theorem InR.ext {w w' : World} {oC oL oC' oL' : Nat → Prop} {ω ω' : Nat → Option Nat} {nx nx' : Nat} {inr ro : Option Nat} (h : InR ω nx inr ro) (E : ExtR w oC oL ω nx w' oC' oL' ω' nx') : InR ω' nx' inr ro := by
  cases inr <;> cases ro <;> first | exact h | exact ⟨Nat.lt_of_lt_of_le h.1 E.nxle, (E.om _ h.1).trans h.2⟩
/-- What is asked of the ways out. -/
def Outs (C : Cfg) (B : Nat → Prop) (w : World) (oC oL : Nat → Prop) (ω : Nat → Option Nat) (nx : Nat) (k : Ex → St → Bool) (Q : Exit → Act → World → Prop) : Prop :=
  ∀ e st' a' w' oC' oL' ω' out, Sim C w' B oC' oL' ω' st' a' → ExtR w oC oL ω nx w' oC' oL' ω' st'.m.nx → k e st' = true → OutIs w' B oC' oL' ω' st'.m.nx e out → Q out a' w'
/-- The way of going on is right. -/
def RunOk (C : Cfg) (go : RunF Bool) : Prop := ∀ (inr : Option Nat) (code : Code) (st : St) (k : Ex → St → Bool) (w : World) (B oC oL : Nat → Prop) (ω : Nat → Option Nat) (a : Act) (Q : Exit → Act → World → Prop) (ro : Option Nat),
  go inr none code st k false = true → Sim C w B oC oL ω st a → InR ω st.m.nx inr ro → Outs C B w oC oL ω st.m.nx k Q → code.wpIn (Fr ro) 0 C.P Q a w

theorem resKs_congr {st st' : St} (h1 : st.tmps = st'.tmps) (h2 : st.m.heap = st'.m.heap) : ∀ (rs : List ResultVar) (k : List AV → Bool), resKs C st rs k false = resKs C st' rs k false
  | [], k => rfl
  | r :: rs, k => by
    have e1 : ∀ k', resK1 C st r k' false = resK1 C st' r k' false := fun k' => by unfold resK1; rw [h1, h2]
    simp only [resKs]
    rw [e1]
    congr 1
    funext v
    exact resKs_congr h1 h2 rs _
theorem resK_congr {st st' : St} (h1 : st.tmps = st'.tmps) (h2 : st.m.heap = st'.m.heap) (fn : Func) (k : AV → Bool) : resK C fn st k false = resK C fn st' k false := resKs_congr h1 h2 _ _

theorem pad_rep {w : World} {B own : Nat → Prop} {ω : Nat → Option Nat} {nx : Nat} {args : List AV} {us : Array Value} (hr : RepL w B own ω nx args us) (n : Nat) : RepL w B own ω nx (padL args n) (us ++ Array.replicate (n - us.size) undef) := by
  unfold padL
  rw [← hr.1]
  refine RepL.append hr (repL_of (by simp) (fun j x v hx hv => ?_))
  rw [List.getElem?_replicate] at hx
  rw [Array.getElem?_replicate] at hv
  split at hx
  · rename_i hj
    rw [if_pos hj] at hv
    rw [← Option.some.inj hx, ← Option.some.inj hv]
    exact .tup _ _ _ rfl (fun i hi => absurd hi (Nat.not_lt_zero _))
  · cases hx

/-- An activation that returns. -/
theorem leave_ret {w : World} {B oC oL : Nat → Prop} {ω : Nat → Option Nat} {st : St} {a : Act} {fn : Func} {k : AV → Loops → Bool} {R : Ending → World → Prop} (S : Sim C w B oC oL ω st a)
    (hk : closeK st.ds st.m.lp (fun lp => resK C fn st (fun v => k v lp) false) false = true)
    (hR : ∀ v u lp' w', k v lp' = true → MemSim C w' B oC oL ω ⟨st.m.heap, st.m.nx, lp'⟩ → ExtR w oC oL ω st.m.nx w' oC oL ω st.m.nx → Rep w' (Or2 B oL) oC ω st.m.nx v u → R (.returned u) w') :
    LeavesInM (Fr none) 0 C.P fn a.tmps R a.defers .returning w := by
  refine leaves_marks (u := .returning) (by simp) (heap := st.m.heap) (tm := st.tmps) st.ds a.defers st.m.lp _ w hk S.dn S.ms S.tm (fun w' lp' M E ht hk' => ?_)
  rw [resK_congr (st := st) (st' := ⟨st.tmps, [], ⟨st.m.heap, st.m.nx, lp'⟩⟩) rfl rfl] at hk'
  have S' : Sim C w' B oC oL ω ⟨st.tmps, [], ⟨st.m.heap, st.m.nx, lp'⟩⟩ { tmps := a.tmps, defers := [] } := ⟨ht, trivial, M⟩
  obtain ⟨v, u, h1, h2, h3⟩ := resK_sound S' hk'
  exact ⟨u, h1, hR v u lp' w' h3 M E h2⟩

/-- A function walked apart. -/
theorem stand_sound (hC : C.Ok) {go : RunF Bool} (hgo : RunOk C go) : StandOk C (standK C go false) := fun fn c f args k hfn hb hk => by
  intro w us bad hg gb bl hr
  refine (callsIn_calls (ro := none) (n := 0)).1 (callsIn_of_wp_marks hfn hb trivial ?_ rfl)
  unfold standK at hk
  have H0 : Hp w (Or2 bad (fun _ => False)) (fun _ => False) (fun _ => none) 0 [] := ⟨fun id hb h => (by cases h), fun i j b h => (by cases h), fun b (h : False) => h.elim⟩
  have M0 : MemSim C w bad (fun _ => False) (fun _ => False) (fun _ => none) ⟨[], 0, []⟩ := ⟨H0, ⟨fun id e h => (by cases h), fun i j l h => (by cases h), fun l (h : False) => h.elim⟩, hg, fun g cells h => ⟨fun h => h, fun h => h, gb g cells h⟩, bl⟩
  have hl : RepL w (Or2 bad (fun _ => False)) (fun _ => False) (fun _ => none) 0 (padL args fn.ntmps) (us ++ Array.replicate (fn.ntmps - us.size) undef) :=
    (pad_rep hr fn.ntmps).other fun b h1 h2 => ⟨h1, fun h => h.elim h2 (fun h => h)⟩
  refine hgo none c ⟨padL args fn.ntmps, [], ⟨[], 0, []⟩⟩ _ w bad (fun _ => False) (fun _ => False) (fun _ => none) _ _ none hk ⟨hl, trivial, M0⟩ trivial (fun e st' a' w' oC' oL' ω' out S' E hk' ho => ?_)
  have fin : closeK st'.ds st'.m.lp (fun _ => resK C fn st' (fun v => freezeK st'.m.heap 6 v k false) false) false = true → LeavesInM (Fr none) 0 C.P fn a'.tmps (fun e w' => ∃ v u, e = .returned u ∧ k v = true ∧ Still w w' ∧ Rep w' bad (fun _ => False) (fun _ => none) 0 v u) a'.defers .returning w' := fun hk' => by
    refine leave_ret (k := fun v _ => freezeK st'.m.heap 6 v k false) S' hk' (fun v u lp' w2 h1 M E2 hr2 => ?_)
    have hE := E.trans E2
    have hown : ∀ b, oC' b → ¬ Or2 bad oL' b := fun b ho hbad => by
      rcases hbad with hbad | hbad
      · rcases hE.owns b (.inl ho) with h | h
        · exact h.elim (fun h => h) (fun h => h)
        · have := bl b hbad; omega
      · exact (M.lp.dis b hbad).2 ho
    obtain ⟨v', h3, h4⟩ := freezeK_sound M.hp hown 6 v k h1
    refine ⟨v', u, rfl, h3, ⟨hE.os, hE.tape, hE.output, hE.size, fun b hb _ => hE.old b hb (fun h => h.elim (fun h => h) (fun h => h)), fun _ h => .inl h, Nat.le_refl _, fun _ _ => rfl, hE.row⟩, ?_⟩
    exact (h4 u hr2).other fun b _ h2 => ⟨fun h => h, fun h => h2 (.inl h)⟩
  cases e with
  | ret => subst ho; exact fin hk'
  | normal => subst ho; exact fin hk'
  | exit id => cases hk'
  | goto l => cases hk'
  | panic v => cases hk'

theorem setAll_rep {w : World} {B own : Nat → Prop} {ω : Nat → Option Nat} {nx : Nat} : ∀ (ps : List Nat) (vs : List AV) (us : List Value) (tmps : List AV) (arr : Array Value), RepL w B own ω nx tmps arr → vs.length = us.length → (∀ (j : Nat) (v : AV) (u : Value), vs[j]? = some v → us[j]? = some u → Rep w B own ω nx v u) →
    RepL w B own ω nx (setAll tmps ps vs) ((ps.zip us).foldl (fun tmps (t, a) => tmps.setIfInBounds t a) arr)
  | [], vs, us, tmps, arr, h, hl, hv => by cases vs <;> exact h
  | p :: ps, [], us, tmps, arr, h, hl, hv => by
    cases us with
    | nil => exact h
    | cons u us => cases hl
  | p :: ps, v :: vs, [], tmps, arr, h, hl, hv => by cases hl
  | p :: ps, v :: vs, u :: us, tmps, arr, h, hl, hv =>
    setAll_rep ps vs us _ _ (h.set p (hv 0 v u rfl rfl)) (by simpa using hl) (fun j v u h1 h2 => hv (j + 1) v u h1 h2)

theorem zip_foldl (ps : Array Nat) (us : Array Value) (arr : Array Value) : ((ps.zip us).foldl (fun tmps (t, a) => tmps.setIfInBounds t a) arr) = ((ps.toList.zip us.toList).foldl (fun tmps (t, a) => tmps.setIfInBounds t a) arr) := by
  rw [← Array.foldl_toList, Array.toList_zip]

set_option maxHeartbeats 1000000 in
/-- The way of calls is right. -/
theorem call_sound (hC : C.Ok) {go : RunF Bool} (hgo : RunOk C go) : CallOk C (callR C go false) := by
  intro t args m kk kp w B oC oL ω us hk M hr
  cases t with
  | fn f =>
    simp only [callR] at hk
    split at hk
    · rename_i F hX
      obtain ⟨h1, h2⟩ := hC.inpl f F hX args m kk w B oC oL ω us hk M hr
      refine ⟨h1, h2.mono fun e w' he => ?_⟩
      rcases he with he | ⟨v, u, m', oC', oL', ω', he, hf, _⟩
      · exact .inl he
      · cases hf
    obtain ⟨fn, c, hfn, hb, hor⟩ := floatK_sound hC (stand_sound hC hgo) M hr hk
    refine ⟨call_in hC hfn hb us w, ?_⟩
    rcases hor with hk | hc
    · refine callsIn_of_wp_marks hfn hb trivial ?_ rfl
      refine hgo none c ⟨padL args fn.ntmps, [], m⟩ _ w B oC oL ω _ _ none hk ⟨pad_rep hr fn.ntmps, trivial, M⟩ trivial (fun e st' a' w' oC' oL' ω' out S' E hk' ho => ?_)
      have fin : closeK st'.ds st'.m.lp (fun lp => resK C fn st' (fun v => kk v ⟨st'.m.heap, st'.m.nx, lp⟩) false) false = true → LeavesInM (Fr none) 0 C.P fn a'.tmps (CallEnd C w B oC oL ω m.nx kk kp) a'.defers .returning w' := fun hk' =>
        leave_ret (k := fun v lp => kk v ⟨st'.m.heap, st'.m.nx, lp⟩) S' hk' (fun v u lp' w2 h1 M2 E2 hr2 => .inl ⟨v, u, _, oC', oL', ω', rfl, h1, E.trans E2, M2, hr2⟩)
      cases e with
      | ret => subst ho; exact fin hk'
      | normal => subst ho; exact fin hk'
      | exit id => cases hk'
      | goto l => cases hk'
      | panic v =>
        obtain ⟨u, rfl, hu⟩ := ho
        refine leaves_marks (u := .panicking _) (by simp) (heap := st'.m.heap) (tm := v :: st'.tmps) (arr := #[u] ++ a'.tmps) st'.ds a'.defers st'.m.lp _ w' hk' S'.dn S'.ms (RepL.append (cs := [v]) (a := #[u]) ⟨rfl, fun i hi => match i, hi with | 0, _ => hu⟩ S'.tm) (fun w2 lp' M2 E2 ht hk2 => ?_)
        exact .inr ⟨v, u, _, oC', oL', ω', rfl, hk2, E.trans E2, M2, ht.at (j := 0) rfl (by rw [Array.getElem?_append_left (by simp)]; rfl)⟩
    · refine hc.mono fun e w' he => ?_
      obtain ⟨v, u, rfl, hv, E, hr'⟩ := he
      exact .inl ⟨v, u, m, oC, oL, ω, rfl, hv, Still.ext E, M.still E, hr'.extR (nx' := m.nx) ExtR.refl⟩
  | yld id =>
    intro l hl
    simp only [callR] at hk
    split at hk
    · rename_i tmps params assign body d hid
      obtain ⟨hlen, hk⟩ := of_cond hk
      obtain ⟨g1, l', g2, g3, g4⟩ := M.lp.rel id _ hid
      rw [hl] at g2; cases g2
      obtain ⟨r, r1, r2, r3, r4, r5, r6, r7, r8, r9, r10⟩ := g4
      have hsz : us.size = r.params.size := by rw [← hr.1, of_beq hlen, ← r6, Array.length_toList]
      refine ⟨_, _, _, _, run_yield r1 hsz, fun ro => roundIn_of_wpIn (F := Fr ro) trivial ?_⟩
      subst r7 r8
      have ht : RepL w (Or2 B oL) oC ω m.nx (setAll tmps params args) ((r.params.zip us).foldl (fun tmps (t, a) => tmps.setIfInBounds t a) r.tmps) := by
        rw [zip_foldl, r6]
        exact setAll_rep params args us.toList tmps r.tmps r5 (by rw [Array.length_toList]; exact hr.1) (fun j v u h1 h2 => hr.at h1 (by rw [← Array.getElem?_toList]; exact h2))
      refine hgo (some id) r.assign ⟨setAll tmps params args, [], m⟩ _ w B oC oL ω { tmps := _, defers := [] } _ (some l) hk ⟨ht, trivial, M⟩ ⟨g1, hl⟩ (fun e st1 a1 w1 oC1 oL1 ω1 out S1 E1 hk1 ho => ?_)
      cases e with
      | exit id => cases hk1
      | goto l => cases hk1
      | ret => cases hk1
      | panic v => cases hk1
      | normal =>
        subst ho
        simp only at hk1
        split at hk1
        · rename_i tm1 ps1 as1 bo1 d1 hid1
          obtain ⟨k1, l1, k2, k3, k4⟩ := S1.ms.lp.rel id _ hid1
          rw [E1.om id g1, hl] at k2; cases k2
          obtain ⟨q, q1, q2, q3, q4, q5, q6, q7, q8, q9, q10⟩ := k4
          have hω1 : ω1 id = some l := (E1.om id g1).trans hl
          obtain ⟨M2, E2⟩ := S1.ms.setL hid1 hω1 (.loop { q with state := .busy }) (e' := .lop 1 none tm1 ps1 as1 bo1 d1)
            ⟨{ q with state := .busy }, World.putObj_heap_same (S1.ms.lp.dis l k3).1, rfl, q3, q4, q5.extR (ExtR.put k3 (LbIs.noCells (e := .lop 0 none tm1 ps1 as1 bo1 d1) ⟨q, q1, q2, q3, q4, q5, q6, q7, q8, q9, q10⟩) _), q6, q7, q8, q9, q10⟩
          refine ⟨_, run_beginRound q1 q2, ?_⟩
          refine hgo (some id) r.body ⟨st1.tmps, st1.ds, _⟩ _ _ B oC1 oL1 ω1 a1 _ (some l) hk1 ⟨S1.tm.extR E2, S1.dn.extR E2, M2⟩ ⟨k1, hω1⟩ (fun e st2 a2 w2 oC2 oL2 ω2 out S2 E3 hk2 ho => ?_)
          split at hk2
          · rename_i s2 p2 tm2 ps2 as2 bo2 d2 b s j hid2 hend
            obtain ⟨x1, l2, x2, x3, x4⟩ := S2.ms.lp.rel id _ hid2
            have hω2 : ω2 id = some l := (E3.om id k1).trans hω1
            rw [hω2] at x2; cases x2
            obtain ⟨y, y1, y2, y3, y4, y5, y6, y7, y8, y9, y10⟩ := x4
            have done : ∀ (jump : Option Code) (b : Bool) (s : Nat) (j : Option Ex), jump.isNone = b → (if jump.isNone then LoopState.ready else LoopState.done) = stOf s → j.bind codeOf = jump → (∀ e, j = some e → (codeOf e).isSome = true) →
                kk (.bool b) ⟨st2.m.heap, st2.m.nx, lpset st2.m.lp id (.lop s j tm2 ps2 as2 bo2 d2)⟩ = true → ∃ v w', (Instr.endRound l jump).run C.P w2 = .ok v w' ∧ CallEnd C w B oC oL ω m.nx kk kp (.returned v) w' := fun jump b s j h1 h2 h3 h4 h5 => by
              obtain ⟨M3, E4⟩ := S2.ms.setL hid2 hω2 (.loop { y with state := if jump.isNone then .ready else .done, pending := jump }) (e' := .lop s j tm2 ps2 as2 bo2 d2)
                ⟨{ y with state := if jump.isNone then .ready else .done, pending := jump }, World.putObj_heap_same (S2.ms.lp.dis l x3).1, h2, h3.symm, h4, y5.extR (ExtR.put x3 (LbIs.noCells (e := .lop s2 p2 tm2 ps2 as2 bo2 d2) ⟨y, y1, y2, y3, y4, y5, y6, y7, y8, y9, y10⟩) _), y6, y7, y8, y9, y10⟩
              refine ⟨_, _, run_endRound jump y1, .inl ⟨.bool b, _, _, oC2, oL2, ω2, rfl, h5, ((E1.trans E2).trans E3).trans E4, M3, ?_⟩⟩
              rw [h1]
              exact .bool _ _
            cases e with
            | normal => subst ho; cases hend; exact done none true 0 none rfl rfl rfl (fun e h => by cases h) hk2
            | ret => subst ho; cases hend; exact done (some .ret) false 2 (some .ret) rfl rfl rfl (fun e h => by cases h; rfl) hk2
            | exit i => subst ho; cases hend; exact done (some (.exit i)) false 2 (some (.exit i)) rfl rfl rfl (fun e h => by cases h; rfl) hk2
            | goto i => subst ho; cases hend; exact done (some (.goto i)) false 2 (some (.goto i)) rfl rfl rfl (fun e h => by cases h; rfl) hk2
            | panic v => cases hend
          · cases hk2
        · cases hk1
    · cases hk
end
end Go.Bas
end
section
namespace Go.Bas
open Go.RowKit
set_option linter.unusedSimpArgs false
set_option linter.unusedVariables false

section
variable {C : Cfg}

theorem call_false (C : Cfg) (n : Nat) (t : Tgt) (args : List AV) (m : Mem) : callR C (run C n) false t args m (fun _ _ => false) (fun _ _ => false) = false :=
  (callR_nat (f := fun _ : Unit => false) (run_nat C n) C () t args m (fun _ _ => ()) (fun _ _ => ())).symm
theorem opD_det (C : Cfg) (n : Nat) (tmps : List AV) (m : Mem) (ai : Nat) (o : Oper) : Det (fun k => opD C (standK C (run C n) false) (callR C (run C n) false) tmps m ai o k false) :=
  det_of_nat (o := opD C (standK C (run C n) none) (callR C (run C n) none) tmps m ai o some none) fun k => by
    have h := (opD_nat (f := fun o : Option Rc => match o with | some a => k a | none => false) (standK_nat (run_nat C n) C none) (callR_nat (run_nat C n) C none) C tmps m ai o some none).symm
    refine Eq.trans ?_ (h.trans ?_)
    · rfl
    · cases opD C (standK C (run C n) none) (callR C (run C n) none) tmps m ai o some none <;> rfl

/-- Numbers are kept for what a region will make. -/
theorem MemSim.keep {w : World} {B oC oL : Nat → Prop} {ω : Nat → Option Nat} {m : Mem} (M : MemSim C w B oC oL ω m) (k : Nat) : MemSim C w B oC oL (fun i => if i < m.nx then ω i else none) ⟨m.heap, m.nx + k, m.lp⟩ ∧
    (∀ n v u, n ≤ m.nx → Rep w (Or2 B oL) oC ω n v u → ∀ n', n ≤ n' → Rep w (Or2 B oL) oC (fun i => if i < m.nx then ω i else none) n' v u) := by
  have rep : ∀ n v u, n ≤ m.nx → Rep w (Or2 B oL) oC ω n v u → ∀ n', n ≤ n' → Rep w (Or2 B oL) oC (fun i => if i < m.nx then ω i else none) n' v u := fun n v u hn h n' hn' =>
    h.mono (Nat.le_refl _) (fun _ _ h1 h2 => ⟨rfl, h1, h2⟩) (fun id b hi hb => ⟨by omega, (if_pos (by omega)).trans hb⟩) (fun _ _ h => h)
  refine ⟨⟨⟨fun id x hx => ?_, fun i j b hi hj h1 h2 => ?_, M.hp.ob⟩, ⟨fun id e he => ?_, fun i j l hi hj h1 h2 => ?_, M.lp.dis⟩, M.gl, M.gb, M.bl⟩, rep⟩
  · obtain ⟨h1, b, arr, h2, h3, h4, h5, h6⟩ := M.hp.rel id x hx
    refine ⟨by show id < m.nx + k; omega, b, arr, (if_pos h1).trans h2, h3, h4, h5, fun i hi => ?_⟩
    have := h6 i hi
    cases hp : x.pure with
    | true => rw [hp] at this; exact rep 0 _ _ (Nat.zero_le _) this 0 (Nat.le_refl _)
    | false => rw [hp] at this; exact rep _ _ _ (Nat.le_refl _) this _ (by simp)
  · obtain ⟨x, hx⟩ := Option.isSome_iff_exists.1 hi
    obtain ⟨y, hy⟩ := Option.isSome_iff_exists.1 hj
    have a1 := (M.hp.rel i x hx).1
    have a2 := (M.hp.rel j y hy).1
    simp only [a1, a2, if_true] at h1 h2
    exact M.hp.inj i j b hi hj h1 h2
  · obtain ⟨h1, l, h2, h3, h4⟩ := M.lp.rel id e he
    refine ⟨by show id < m.nx + k; omega, l, (if_pos h1).trans h2, h3, ?_⟩
    cases e with
    | dfb => exact h4
    | obj o => exact h4
    | lop s pend tmps params assign body d =>
      obtain ⟨r, r1, r2, r3, r4, r5, r6, r7, r8, r9, r10⟩ := h4
      exact ⟨r, r1, r2, r3, r4, ⟨r5.1, fun i hi => rep _ _ _ (Nat.le_refl _) (r5.2 i hi) _ (by simp)⟩, r6, r7, r8, by show d < m.nx + k; omega, (if_pos r9).trans r10⟩
  · obtain ⟨x, hx⟩ := Option.isSome_iff_exists.1 hi
    obtain ⟨y, hy⟩ := Option.isSome_iff_exists.1 hj
    have a1 := (M.lp.rel i x hx).1
    have a2 := (M.lp.rel j y hy).1
    simp only [a1, a2, if_true] at h1 h2
    exact M.lp.inj i j l hi hj h1 h2
theorem Marks.keep {ω : Nat → Option Nat} {nx k : Nat} : ∀ {ds : List Nat} {xs : List Deferred}, Marks ω nx ds xs → Marks (fun i => if i < nx then ω i else none) (nx + k) ds xs
  | [], [], _ => trivial
  | d :: ds, x :: xs, h => ⟨⟨by have := h.1.1; omega, let ⟨r, h1, h2⟩ := h.1.2; ⟨r, (if_pos h.1.1).trans h1, h2⟩⟩, Marks.keep h.2⟩
  | [], _ :: _, h => h.elim
  | _ :: _, [], h => h.elim

theorem draw_any (hC : C.Ok) {n : Nat} (hgo : RunOk C (run C n)) {ro : Option Nat} {ops : Array Oper} {st : St} {k : St → Bool} {w : World} {B oC oL : Nat → Prop} {ω : Nat → Option Nat} {a : Act} {Q : Exit → Act → World → Prop}
    (hk : drawK C (standK C (run C n) false) (callR C (run C n) false) ops st.m.nx (st.m.nx + newCount ops.toList) ops.toList ⟨st.tmps, st.ds, ⟨st.m.heap, st.m.nx + newCount ops.toList, st.m.lp⟩⟩ st.m.nx [] k false = true)
    (S : Sim C w B oC oL ω st a) (hQ : ∀ st' a' w' oC' oL' ω', Sim C w' B oC' oL' ω' st' a' → ExtR w oC oL ω st.m.nx w' oC' oL' ω' st'.m.nx → k st' = true → Q .normal a' w') : wpAnyIn (Fr ro) 0 C.P .any ops Q ops.size (Array.replicate ops.size false) a { w with drawn := w.drawn + 1 } := by
  obtain ⟨rs, h1, h2, h3, h4⟩ := trace_of (opD_det C n) _ _ _ _ hk
  have E0 := Still.drew w
  have M1 := S.ms.still E0
  obtain ⟨M2, rep⟩ := M1.keep (newCount ops.toList)
  have S2 : Sim C { w with drawn := w.drawn + 1 } B oC oL (fun i => if i < st.m.nx then ω i else none) ⟨st.tmps, st.ds, ⟨st.m.heap, st.m.nx + newCount ops.toList, st.m.lp⟩⟩ a :=
    ⟨⟨S.tm.1, fun i hi => rep _ _ _ (Nat.le_refl _) ((S.tm.2 i hi).ext E0.ext) _ (by simp)⟩, S.dn.keep, M2⟩
  have hL : ∀ j, (Array.replicate ops.size false).getD j false = false := fun j => by
    rw [Array.getD_eq_getD_getElem?, Array.getElem?_replicate]
    split <;> rfl
  refine any_sound hC (stand_sound hC hgo) (call_sound hC hgo) (call_false C n) (rs := rs) (nx0 := st.m.nx) (hi := st.m.nx + newCount ops.toList) (by simpa using h1) (fun j o ho => h4 j o (by rw [Array.getElem?_toList]; exact ho)) (by simpa using h2) (w0 := { w with drawn := w.drawn + 1 }) (oC0 := oC) (oL0 := oL) (ω0 := fun i => if i < st.m.nx then ω i else none)
    (fun a' w' oC' oL' ω' S' E' hn => hQ _ a' w' oC' oL' ω' S' ?_ h3) ops.size _ a _ oC oL _ _ ?_ (by simp) (fun j o _ h => by rw [hL] at h; cases h) ?_ S2 ExtR.refl (fun i j hb rc hr he _ => ?_) (Nat.le_refl _) (by omega)
  · have E1 : ExtR w oC oL ω st.m.nx w' oC' oL' ω' st.m.nx := Ext.trans (Still.ext E0) ⟨E'.os, E'.tape, E'.output, E'.size, E'.old, E'.owns, Nat.le_refl _, fun i hi => (E'.om i hi).trans (if_pos hi), E'.row⟩
    exact Ext.raise E1 (by omega)
  · simp only [left]
    refine Nat.le_trans (List.length_filter_le _ _) (by simp)
  · have := sAt_ext (L := fun i => (Array.replicate ops.size false).getD i false) (L' := fun x => Nat.blt x (0 + 0)) rs 0 ⟨st.tmps, st.ds, ⟨st.m.heap, st.m.nx + newCount ops.toList, st.m.lp⟩⟩ (fun j _ => by
      rw [hL]
      cases hb : Nat.blt j (0 + 0) with
      | false => rfl
      | true => have := Nat.le_of_ble_eq_true hb; omega)
    rw [this, sAt_pre]
    exact StEq.refl _
  · simp only [okRcs, Bool.and_eq_true] at h2
    have := List.all_eq_true.1 h2.1.2.2 i (List.mem_flatMap.2 ⟨rc, by simpa using getRc_mem hr, by rw [he]; exact List.mem_singleton_self _⟩)
    simp only [Bool.and_eq_true] at this
    have := of_ble this.1
    exact if_neg (by omega)

theorem draw_sound (hC : C.Ok) {n : Nat} (hgo : RunOk C (run C n)) {ro : Option Nat} {ops : Array Oper} {id : Nat} {st : St} {k : St → Bool} {w : World} {B oC oL : Nat → Prop} {ω : Nat → Option Nat} {a : Act} {Q : Exit → Act → World → Prop}
    (hk : drawK C (standK C (run C n) false) (callR C (run C n) false) ops st.m.nx (st.m.nx + newCount ops.toList) ops.toList ⟨st.tmps, st.ds, ⟨st.m.heap, st.m.nx + newCount ops.toList, st.m.lp⟩⟩ st.m.nx [] k false = true)
    (S : Sim C w B oC oL ω st a) (hQ : ∀ st' a' w' oC' oL' ω', Sim C w' B oC' oL' ω' st' a' → ExtR w oC oL ω st.m.nx w' oC' oL' ω' st'.m.nx → k st' = true → Q .normal a' w') : (Code.region id ops true).wpIn (Fr ro) 0 C.P Q a w := wpIn_region_any hC.mixed (draw_any hC hgo hk S hQ)

/-- How a region's end goes on by one more operation. -/
def lastQ (ro : Option Nat) (P : Program) (ops : Array Oper) (m : Nat) (Q : Exit → Act → World → Prop) : Exit → Act → World → Prop
  | .normal, a, w => wpOpIn (Fr ro) 0 P ops Q m (Q .normal) a w
  | e, a, w => Q e a w
theorem wpOp_last {ro : Option Nat} {P : Program} {ops : Array Oper} {m : Nat} {Q : Exit → Act → World → Prop} {i : Nat} {K K' : Act → World → Prop} {a : Act} {w : World} (he : ops.pop[i]? = ops[i]?) (hy : ∀ o, ops[i]? = some o → Region.wanted o (yielded ops.pop a.tmps) = Region.wanted o (yielded ops a.tmps))
    (hK : ∀ a w, K a w → K' a w) (h : wpOpIn (Fr ro) 0 P ops.pop (lastQ ro P ops m Q) i K a w) : wpOpIn (Fr ro) 0 P ops Q i K' a w := by
  unfold wpOpIn at h ⊢
  rw [he] at h
  cases ho : ops[i]? with
  | none => rw [ho] at h; exact hK _ _ h
  | some o =>
    rw [ho] at h
    simp only at h ⊢
    rw [hy o ho] at h
    split
    · rename_i hw
      rw [if_pos hw] at h
      unfold Oper.wpIn at h ⊢
      refine ⟨h.1, ?_⟩
      have hh := h.2
      generalize (o.semAt (Fr ro).round a.eval).run P w = r at hh ⊢
      cases r with
      | ok x w' =>
        cases x <;> simp only [Oper.uponIn] at hh ⊢ <;>
          first
            | exact hK _ _ hh
            | exact ⟨hh.1, CallsIn.mono hh.2 (fun e w'' he => by cases e <;> first | exact hK _ _ he | exact he)⟩
            | exact ⟨hh.1, RowsIn.mono hh.2 (fun _ _ he => hK _ _ he)⟩
            | exact ⟨hh.1, RoundIn.mono hh.2 (fun e w'' he => by cases e <;> first | exact hK _ _ he | exact he)⟩
      | halt x w' => cases x <;> simp only [Oper.uponIn] at hh ⊢ <;> exact hh
    · rename_i hw
      rw [if_neg hw] at h
      exact ⟨h.1, hK _ _ h.2⟩
theorem getD_push {listed : Array Bool} (i : Nat) : (listed.push false).getD i false = listed.getD i false := by
  rw [Array.getD_eq_getD_getElem?, Array.getD_eq_getD_getElem?, Array.getElem?_push]
  split
  · rename_i h
    subst h
    simp
  · rfl
theorem any_last {ro : Option Nat} {P : Program} {ops : Array Oper} {Q : Exit → Act → World → Prop} {m : Nat} {ol : Oper} (hm : ops.size = m + 1) (hol : ops[m]? = some ol)
    (back : ∀ i o, ops[i]? = some o → ∀ e ∈ o.after, Region.binds .any e = true → e.on < i) (bef : ∀ i, i < m → befB ops ops.size i m = true)
    (gd : ∀ i o, i < m → ops[i]? = some o → ∀ j b, o.guard = some (j, b) → j < m) :
    ∀ (fuel : Nat) (listed : Array Bool) (a : Act) (w : World), listed.size = m →
      (∀ j o, ops[j]? = some o → listed.getD j false = true → ∀ e ∈ o.after, Region.binds .any e = true → listed.getD e.on false = true) →
      wpAnyIn (Fr ro) 0 P .any ops.pop (lastQ ro P ops m Q) fuel listed a w → wpAnyIn (Fr ro) 0 P .any ops Q (fuel + 1) (listed.push false) a w := by
  have pop : ∀ i, i < m → ops.pop[i]? = ops[i]? := fun i hi => by
    rw [Array.getElem?_pop, if_pos (by omega)]
  have lt : ∀ (L : Array Bool) (i : Nat), L.size = m → i < m → (L.push false).getD i true = L.getD i true := fun L i hL hi => by
    rw [Array.getD_eq_getD_getElem?, Array.getD_eq_getD_getElem?, Array.getElem?_push, if_neg (by omega)]
  have tf : ∀ (L : Array Bool) (i : Nat), L.getD i false = true → L.getD i true = true := fun L i h => by
    rw [Array.getD_eq_getD_getElem?] at h ⊢
    cases hx : L[i]? with
    | none => rw [hx] at h; cases h
    | some b => rw [hx] at h; exact h
  have rdy : ∀ (L : Array Bool) (i : Nat), L.size = m → i < m → (i ∈ Region.ready .any ops (L.push false) ↔ i ∈ Region.ready .any ops.pop L) := fun L i hL hi => by
    rw [mem_ready, mem_ready, pop i hi, lt L i hL hi]
    simp only [getD_push]
  have all_of_nil : ∀ (L : Array Bool), L.size = m → Region.ready .any ops.pop L = [] → ∀ i, i < m → L.getD i false = true := fun L hL hr i => by
    induction i using Nat.strongRecOn with
    | ind i ih =>
      intro hi
      cases hli : L.getD i false with
      | true => rfl
      | false =>
        have hio : i < ops.size := by omega
        have hmem : i ∈ Region.ready .any ops.pop L := mem_ready.2 ⟨getD_both' hL hi hli, ops[i], by rw [pop i hi]; exact Array.getElem?_eq_getElem hio, fun e he hb =>
          ih e.on (back i _ (Array.getElem?_eq_getElem hio) e he hb) (by have := back i _ (Array.getElem?_eq_getElem hio) e he hb; omega)⟩
        rw [hr] at hmem
        cases hmem
  have last_ready : ∀ (L : Array Bool), L.size = m → (∀ i, i < m → L.getD i false = true) → m ∈ Region.ready .any ops (L.push false) := fun L hL h =>
    mem_ready.2 ⟨by rw [Array.getD_eq_getD_getElem?, Array.getElem?_push, if_pos hL.symm]; rfl, ol, hol, fun e he hb => by rw [getD_push]; exact h _ (back m ol hol e he hb)⟩
  have nil_of_last : ∀ (L : Array Bool), L.size = m → (∀ j o, ops[j]? = some o → L.getD j false = true → ∀ e ∈ o.after, Region.binds .any e = true → L.getD e.on false = true) →
      m ∈ Region.ready .any ops (L.push false) → Region.ready .any ops.pop L = [] := fun L hL hcl h => by
    obtain ⟨_, o, ho, hed⟩ := mem_ready.1 h
    have hed' : ∀ e ∈ o.after, Region.binds .any e = true → L.getD e.on false = true := fun e he hb => by have := hed e he hb; rwa [getD_push] at this
    have all : ∀ i, i < m → L.getD i false = true := fun i hi => befB_listed (L := fun i => L.getD i false) hcl ops.size i m o ho hed' (bef i hi)
    refine List.eq_nil_iff_forall_not_mem.2 fun j hj => ?_
    obtain ⟨h1, oj, h2, _⟩ := mem_ready.1 hj
    have hjm : j < m := by
      have := (Array.getElem?_eq_some_iff.1 h2).1
      simp at this
      omega
    rw [tf L j (all j hjm)] at h1
    cases h1
  have full : ∀ (L : Array Bool), L.size = m → (∀ i, i < m → L.getD i false = true) → Region.ready .any ops ((L.push false).setIfInBounds m true) = [] := fun L hL h => by
    refine List.eq_nil_iff_forall_not_mem.2 fun j hj => ?_
    obtain ⟨h1, oj, h2, _⟩ := mem_ready.1 hj
    have hjs := (Array.getElem?_eq_some_iff.1 h2).1
    rw [Array.getD_eq_getD_getElem?, Array.getElem?_setIfInBounds] at h1
    split at h1
    · rename_i hmj
      rw [if_pos (by simp; omega)] at h1
      cases h1
    · rename_i hmj
      have hjm : j < m := by omega
      rw [Array.getElem?_push, if_neg (by omega)] at h1
      have := tf L j (h j hjm)
      rw [Array.getD_eq_getD_getElem?] at this
      rw [this] at h1
      cases h1
  have setp : ∀ (L : Array Bool) (i : Nat), L.size = m → i < m → (L.push false).setIfInBounds i true = (L.setIfInBounds i true).push false := fun L i hL hi => by
    refine Array.ext_getElem? fun j => ?_
    rw [Array.getElem?_setIfInBounds, Array.getElem?_push, Array.getElem?_push, Array.getElem?_setIfInBounds]
    by_cases hij : i = j
    · subst hij
      rw [if_pos rfl, if_pos (by rw [Array.size_push]; omega), if_neg (by rw [Array.size_setIfInBounds]; omega), if_pos rfl, if_pos (by omega)]
    · simp [hij, hL]
  have hy : ∀ (i : Nat) (a : Act), i < m → ∀ o, ops[i]? = some o → Region.wanted o (yielded ops.pop a.tmps) = Region.wanted o (yielded ops a.tmps) := fun i a hi o ho => by
    unfold Region.wanted
    cases hg : o.guard with
    | none => rfl
    | some p =>
      obtain ⟨j, b⟩ := p
      simp only
      unfold yielded
      rw [pop j (gd i o hi ho j b hg)]
  intro fuel
  induction fuel with
  | zero =>
    intro L a w hL hcl h
    obtain ⟨h1, h2⟩ := h
    have all := all_of_nil L hL h1
    refine ⟨fun hr => ?_, fun i hi => ?_⟩
    · have := last_ready L hL all
      rw [hr] at this
      cases this
    · by_cases him : i < m
      · have := (rdy L i hL him).1 hi
        rw [h1] at this
        cases this
      · have hie : i = m := by
          obtain ⟨_, oj, h3, _⟩ := mem_ready.1 hi
          have := (Array.getElem?_eq_some_iff.1 h3).1
          omega
        subst hie
        exact wpOpIn_mono (fun a w hq => ⟨full L hL all, hq⟩) h2
  | succ fuel ih =>
    intro L a w hL hcl h
    obtain ⟨h1, h2⟩ := h
    refine ⟨fun hr => ?_, fun i hi => ?_⟩
    · have hn : Region.ready .any ops.pop L = [] := List.eq_nil_iff_forall_not_mem.2 fun j hj => by
        have hjm : j < m := by
          obtain ⟨_, oj, h3, _⟩ := mem_ready.1 hj
          have := (Array.getElem?_eq_some_iff.1 h3).1
          simp at this
          omega
        have := (rdy L j hL hjm).2 hj
        rw [hr] at this
        cases this
      have := last_ready L hL (all_of_nil L hL hn)
      rw [hr] at this
      cases this
    · by_cases him : i < m
      · have hi' := (rdy L i hL him).1 hi
        obtain ⟨_, o, ho, hed⟩ := mem_ready.1 hi'
        rw [pop i him] at ho
        refine wpOp_last (pop i him) (hy i a him) (fun a w hk => ?_) (h2 i hi')
        rw [setp L i hL him]
        refine ih (L.setIfInBounds i true) a w (by simpa using hL) (fun j oj hoj hj e he hb => ?_) hk
        have mono : ∀ x, L.getD x false = true → (L.setIfInBounds i true).getD x false = true := fun x hx => by
          rw [Array.getD_eq_getD_getElem?, Array.getElem?_setIfInBounds]
          rw [Array.getD_eq_getD_getElem?] at hx
          split
          · rw [if_pos (by omega)]; rfl
          · exact hx
        by_cases hji : j = i
        · subst hji
          rw [ho] at hoj
          cases hoj
          exact mono _ (hed e he hb)
        · refine mono _ (hcl j oj hoj ?_ e he hb)
          rw [Array.getD_eq_getD_getElem?, Array.getElem?_setIfInBounds, if_neg (fun h => hji h.symm)] at hj
          rw [Array.getD_eq_getD_getElem?]
          exact hj
      · have hie : i = m := by
          obtain ⟨_, oj, h3, _⟩ := mem_ready.1 hi
          have := (Array.getElem?_eq_some_iff.1 h3).1
          omega
        subst hie
        have hn := nil_of_last L hL hcl hi
        exact wpOpIn_mono (fun a w hq => ⟨fun _ => hq, fun j hj => by rw [full L hL (all_of_nil L hL hn)] at hj; cases hj⟩) (h1 hn)
theorem draw_last (hC : C.Ok) {n : Nat} (hgo : RunOk C (run C n)) {ro : Option Nat} {ops : Array Oper} {id : Nat} {st : St} {k : St → Bool} {kp : AV → St → Bool} {w : World} {B oC oL : Nat → Prop} {ω : Nat → Option Nat} {a : Act} {Q : Exit → Act → World → Prop} (hl : lastB C.P ops = true)
    (hk : drawK C (standK C (run C n) false) (callR C (run C n) false) ops.pop st.m.nx (st.m.nx + newCount ops.pop.toList) ops.pop.toList ⟨st.tmps, st.ds, ⟨st.m.heap, st.m.nx + newCount ops.pop.toList, st.m.lp⟩⟩ st.m.nx []
      (fun st' => opsK C (callR C (run C n) false) ops (ops.toList.drop (ops.size - 1)) st' k kp false) false = true)
    (S : Sim C w B oC oL ω st a) (hQ : ∀ st' a' w' oC' oL' ω', Sim C w' B oC' oL' ω' st' a' → ExtR w oC oL ω st.m.nx w' oC' oL' ω' st'.m.nx → k st' = true → Q .normal a' w')
    (hP : ∀ v u st' a' w' oC' oL' ω', Sim C w' B oC' oL' ω' st' a' → ExtR w oC oL ω st.m.nx w' oC' oL' ω' st'.m.nx → kp v st' = true → Rep w' (Or2 B oL') oC' ω' st'.m.nx v u → Q (.panic [{ v := u, recovered := false }]) a' w') : (Code.region id ops true).wpIn (Fr ro) 0 C.P Q a w := by
  unfold lastB at hl
  split at hl
  · rename_i ol hol
    obtain ⟨_, hl⟩ := of_cond hl
    split at hl
    · obtain ⟨_, hl⟩ := of_cond hl
      simp only [Bool.and_eq_true, List.all_eq_true] at hl
      obtain ⟨hbef, hback, hgd⟩ := hl
      obtain ⟨m, hm⟩ : ∃ m, ops.size = m + 1 := by
        cases hs : ops.size with
        | zero =>
          have : ops = #[] := Array.eq_empty_of_size_eq_zero hs
          rw [this] at hol
          cases hol
        | succ m => exact ⟨m, rfl⟩
      have hm1 : ops.size - 1 = m := by omega
      rw [hm1] at hbef hgd hk
      have hlast : ops[m]? = some ol := by
        rw [Array.back?_eq_getElem?, hm1] at hol
        exact hol
      refine wpIn_region_any hC.mixed ?_
      have A := draw_any (Q := lastQ ro C.P ops m Q) (ro := ro) hC hgo hk S (fun st' a' w' oC' oL' ω' S' E hk' => by
        have := ops_sound (ro := ro) (Q := Q) (ops := ops) (call_sound hC hgo) (mapOk C) (ops.toList.drop m) m rfl st' a' w' oC' oL' ω' hk' S' (fun st2 a2 w2 oC2 oL2 ω2 S2 E2 h2 => hQ st2 a2 w2 oC2 oL2 ω2 S2 (E.trans E2) h2)
          (fun v u st2 a2 w2 oC2 oL2 ω2 S2 E2 h2 h3 => hP v u st2 a2 w2 oC2 oL2 ω2 S2 (E.trans E2) h2 h3)
        have hlen : (ops.toList.drop m).length = 1 := by simp; omega
        rw [hlen] at this
        show wpOpIn (Fr ro) 0 C.P ops Q m (Q .normal) a' w'
        rw [show List.range' m 1 = [m] from rfl, wpOpsIn_cons] at this
        exact this)
      have hps : ops.pop.size = m := by simp; omega
      rw [hps] at A
      have := any_last (ro := ro) (P := C.P) (Q := Q) hm hlast (fun i o ho e he hb => by
        have := hback i (List.mem_range.2 (Array.getElem?_eq_some_iff.1 ho).1)
        rw [ho] at this
        have := List.all_eq_true.1 this e (Array.mem_toList_iff.2 he)
        rw [hb] at this
        simp only [Bool.not_true, Bool.false_or] at this
        exact Nat.le_of_ble_eq_true this) (fun i hi => hbef i (List.mem_range.2 hi)) (fun i o hi ho j b hg => by
        have hpi : ops.pop[i]? = some o := by rw [Array.getElem?_pop, if_pos (by omega)]; exact ho
        have := hgd o (Array.mem_toList_iff.2 (Array.mem_of_getElem? hpi))
        rw [hg] at this
        exact Nat.le_of_ble_eq_true this) m (Array.replicate m false) a _ (by simp) (fun j o _ h => by
          rw [Array.getD_eq_getD_getElem?, Array.getElem?_replicate] at h
          split at h <;> cases h) A
      rw [hm]
      rw [show Array.replicate (m + 1) false = (Array.replicate m false).push false from by rw [Array.replicate_succ]]
      exact this
    · cases hl
  · cases hl

theorem wpIn_code {ro : Option Nat} {e : Ex} {c : Code} (hc : codeOf e = some c) {Q : Exit → Act → World → Prop} {a : Act} {w : World} (hQ : ∀ out, (match e with | .normal => out = Exit.normal | .exit id => out = .exit id | .goto l => out = .goto l | .ret => out = .ret | .panic _ => False) → Q out a w) : c.wpIn (Fr ro) 0 C.P Q a w := by
  cases e <;> cases hc
  · exact wpIn_exit (hQ _ rfl)
  · exact wpIn_goto (hQ _ rfl)
  · exact wpIn_ret (hQ _ rfl)

theorem ExtR.add {w : World} {oC oL : Nat → Prop} {ω : Nat → Option Nat} {nx : Nat} (o : Obj) : ExtR w oC oL ω nx (w.alloc o) oC (fun x => oL x ∨ x = w.heap.size) (fun i => if i = nx then some w.heap.size else ω i) (nx + 1) := by
  refine ⟨rfl, rfl, rfl, by simp, fun b hb _ => heap_alloc_old w o hb, fun b hb => ?_, by omega, fun id hi => if_neg (by omega), fun b n hr => ?_⟩
  · rcases hb with hb | hb | rfl
    · exact .inl (.inl hb)
    · exact .inl (.inr hb)
    · exact .inr (Nat.le_refl _)
  · have hlt := rowSize_lt hr
    simp only [rowSize, heap_alloc_old w o hlt] at hr ⊢
    exact hr
/-- A loop's record is laid. -/
theorem MemSim.addLoop {w : World} {B oC oL : Nat → Prop} {ω : Nat → Option Nat} {m : Mem} (M : MemSim C w B oC oL ω m) {tmps : List AV} {arr : Array Value} (ht : RepL w (Or2 B oL) oC ω m.nx tmps arr) (fn : FuncId) (params : Array Tmp) (assign body : Code) {d D : Nat} (hd : d < m.nx) (hD : ω d = some D) :
    MemSim C (w.alloc (.loop { state := .ready, pending := none, fn := fn, tmps := arr, params := params, assign := assign, body := body, defers := D })) B oC (fun x => oL x ∨ x = w.heap.size) (fun i => if i = m.nx then some w.heap.size else ω i) ⟨m.heap, m.nx + 1, (m.nx, .lop 0 none tmps params.toList assign body d) :: m.lp⟩ :=
  (M.addL (.loop { state := .ready, pending := none, fn := fn, tmps := arr, params := params, assign := assign, body := body, defers := D }) (.lop 0 none tmps params.toList assign body d) (fun c t f h => by cases h) ⟨_, heap_alloc_new w _, rfl, rfl, fun e h => (by cases h), ht.extR (ExtR.add _), rfl, rfl, rfl, by show d < m.nx + 1; omega, (if_neg (by show ¬ d = m.nx; omega)).trans hD⟩).1

/-- A loop over a function begins. -/
theorem loop_enter {w : World} {B oC oL : Nat → Prop} {ω : Nat → Option Nat} {st : St} {a : Act} {inr ro : Option Nat} {params : Array Tmp} {assign body : Code} {K : Nat → List Nat → Mem → Bool} (S : Sim C w B oC oL ω st a) (hI : InR ω st.m.nx inr ro)
    (hk : loopM inr st params.toList assign body K false = true) (fn : FuncId) :
    ∃ (l : Nat) (mark : List Deferred) (w1 : World) (oL1 : Nat → Prop) (ω1 : Nat → Option Nat) (id : Nat) (ds : List Nat) (m : Mem), (Instr.enterLoop fn a.tmps params assign body ro).run C.P w = .ok (l, mark) w1 ∧ MemSim C w1 B oC oL1 ω1 m ∧ ExtR w oC oL ω st.m.nx w1 oC oL1 ω1 m.nx ∧
      id < m.nx ∧ ω1 id = some l ∧ Marks ω1 m.nx ds (mark ++ a.defers) ∧ K id ds m = true := by
  unfold loopM at hk
  cases inr with
  | none =>
    cases ro with
    | some l => exact hI.elim
    | none =>
      simp only at hk
      obtain ⟨M1, E1⟩ := S.ms.addL (.deferred (some [])) .dfb (fun c t f h => by cases h) (heap_alloc_new w _)
      have M2 := M1.addLoop (S.tm.extR E1) fn params assign body (d := st.m.nx) (D := w.heap.size) (by show st.m.nx < st.m.nx + 1; omega) (if_pos rfl)
      have E2 := E1.trans (ExtR.add (.loop { state := .ready, pending := none, fn := fn, tmps := a.tmps, params := params, assign := assign, body := body, defers := w.heap.size }))
      refine ⟨_, _, _, _, _, _, _, _, run_enterLoop_outer fn a.tmps params assign body, M2, E2, (by show st.m.nx + 1 < st.m.nx + 1 + 1; omega), ?_, ?_, hk⟩
      · rw [if_pos rfl, World.size_alloc]
      · exact ⟨⟨by show st.m.nx < st.m.nx + 1 + 1; omega, _, (if_neg (by show ¬ st.m.nx = st.m.nx + 1; omega)).trans (if_pos rfl), rfl⟩, S.dn.extR E2⟩
  | some id0 =>
    cases ro with
    | none => exact hI.elim
    | some l0 =>
      simp only at hk
      split at hk
      · rename_i s0 p0 tm0 ps0 as0 bo0 d0 hlp0
        obtain ⟨x1, l2, x2, x3, x4⟩ := S.ms.lp.rel id0 _ hlp0
        rw [hI.2] at x2; cases x2
        obtain ⟨y, y1, y2, y3, y4, y5, y6, y7, y8, y9, y10⟩ := x4
        have M1 := S.ms.addLoop S.tm fn params assign body y9 y10
        have E1 : ExtR w oC oL ω st.m.nx _ oC _ _ (st.m.nx + 1) := ExtR.add (.loop { state := .ready, pending := none, fn := fn, tmps := a.tmps, params := params, assign := assign, body := body, defers := y.defers })
        exact ⟨_, _, _, _, _, _, _, _, run_enterLoop_inner y1 fn a.tmps params assign body, M1, E1, (by show st.m.nx < st.m.nx + 1; omega), if_pos rfl, S.dn.extR E1, hk⟩
      · cases hk

/-- What follows a loop over a function. -/
def afterK (C : Cfg) (st : St) (k : Ex → St → Bool) (id : Nat) (ds : List Nat) (m' : Mem) : Bool := match lpget m'.lp id with
  | some (.lop s pend _ _ _ _ _) => cond (Nat.beq s 1) false (k (match pend with | none => .normal | some e => e) ⟨st.tmps, ds, ⟨m'.heap, m'.nx, lpdel m'.lp id⟩⟩)
  | _ => false

theorem range_post {w w1 w' : World} {B oC oL oC1 oL1 : Nat → Prop} {ω ω1 : Nat → Option Nat} {st : St} {a : Act} {ro : Option Nat} {k : Ex → St → Bool} {Q : Exit → Act → World → Prop} (S : Sim C w B oC oL ω st a) (hQ : Outs C B w oC oL ω st.m.nx k Q)
    {l id : Nat} {mark : List Deferred} {ds : List Nat} {m : Mem} (E1 : ExtR w oC oL ω st.m.nx w1 oC1 oL1 ω1 m.nx) (hid : id < m.nx) (hω : ω1 id = some l) (hm : Marks ω1 m.nx ds (mark ++ a.defers)) {e : Ending}
    (he : CallEnd C w1 B oC1 oL1 ω1 m.nx (fun _ m' => afterK C st k id ds m') (fun v m' => k (.panic v) ⟨st.tmps, ds, m'⟩) e w') : rangePost (Fr ro) 0 C.P l Q { a with defers := mark ++ a.defers } e w' := by
  rcases he with ⟨v, u, m', oC', oL', ω', rfl, k1, k2, k3, k4⟩ | ⟨v, u, m', oC', oL', ω', rfl, k1, k2, k3, k4⟩
  · replace k1 : afterK C st k id ds m' = true := k1
    unfold afterK at k1
    split at k1
    · rename_i s pend tm ps asv bo d hlp
      rcases of_cond2 k1 with ⟨_, hf⟩ | ⟨hs, k1⟩
      · cases hf
      · obtain ⟨x1, l2, x2, x3, x4⟩ := k3.lp.rel id _ hlp
        have hω' : ω' id = some l := (k2.om id hid).trans hω
        rw [hω'] at x2; cases x2
        obtain ⟨y, y1, y2, y3, y4, _⟩ := x4
        have hne : y.state ≠ .busy := by
          rw [y2]
          match s, hs with
          | 0, _ => simp [stOf]
          | 1, hs => cases hs
          | s + 2, _ => simp [stOf]
        obtain ⟨M2, E2⟩ := k3.delL hlp hω' (.loop { y with state := .exhausted })
        have E3 := E1.trans (k2.trans E2)
        have S3 : Sim C (w'.putObj l (.loop { y with state := .exhausted })) B oC' oL' ω' ⟨st.tmps, ds, ⟨m'.heap, m'.nx, lpdel m'.lp id⟩⟩ { a with defers := mark ++ a.defers } := ⟨S.tm.extR E3, hm.extR (k2.trans E2), M2⟩
        have e2 := run_endLoop (P := C.P) y1 hne
        generalize w'.putObj l (.loop { y with state := .exhausted }) = w2 at e2 S3 E3
        refine ⟨y.pending, w2, e2, ?_⟩
        rw [y3]
        cases pend with
        | none => exact hQ .normal _ _ _ _ _ _ _ S3 E3 k1 rfl
        | some e =>
          obtain ⟨c, hc⟩ := Option.isSome_iff_exists.1 (y4 e rfl)
          simp only [Option.bind_some, hc]
          refine wpIn_code hc (fun out ho => hQ e _ _ _ _ _ _ out S3 E3 k1 ?_)
          cases e <;> first | exact ho | exact ho.elim
    · cases k1
  · have E3 := E1.trans k2
    exact hQ (.panic v) ⟨st.tmps, ds, m'⟩ { a with defers := mark ++ a.defers } w' oC' oL' ω' _ ⟨S.tm.extR E3, hm.extR k2, k3⟩ E3 k1 ⟨u, rfl, k4⟩
end
end Go.Bas
end
section
namespace Go.Bas
open Go.RowKit
set_option linter.unusedSimpArgs false
set_option linter.unusedVariables false

section
variable {C : Cfg}

theorem range_sound (hC : C.Ok) {go : RunF Bool} (hA : RunOk C go) {w : World} {B oC oL : Nat → Prop} {ω : Nat → Option Nat} {st : St} {a : Act} {inr ro : Option Nat} {k : Ex → St → Bool} {Q : Exit → Act → World → Prop} (S : Sim C w B oC oL ω st a) (hI : InR ω st.m.nx inr ro) (hQ : Outs C B w oC oL ω st.m.nx k Q)
    {g : Operand} {f : FuncId} {first cap : List AV} {fs cs : Array Value} (hv : a.eval g = .func (.func f) fs cs) (h1 : first.length = fs.size) (h2 : cap.length = cs.size) (h3 : ∀ i (h : i < first.length), Rep w (Or2 B oL) oC ω st.m.nx first[i] (fs.getD i undef)) (h4 : ∀ i (h : i < cap.length), Rep w (Or2 B oL) oC ω st.m.nx cap[i] (cs.getD i undef))
    {params : Array Tmp} {assign body : Code} (hk : loopM inr st params.toList assign body (fun id ds m => callR C go false (.fn f) (first ++ [.yld id] ++ cap) m (fun _ m' => afterK C st k id ds m') (fun v m' => k (.panic v) ⟨st.tmps, ds, m'⟩)) false = true) :
    (Code.rangeFunc g params assign body).wpIn (Fr ro) 0 C.P Q a w := by
  refine wpIn_rangeFunc fun fn _ => ?_
  obtain ⟨l, mark, w1, oL1, ω1, id, ds, m, e1, M1, E1, hid, hω, hm, hk1⟩ := loop_enter S hI hk fn
  have r1 : RepL w1 (Or2 B oL1) oC ω1 m.nx first fs := ⟨h1, fun i hi => (h3 i hi).extR E1⟩
  have r3 : RepL w1 (Or2 B oL1) oC ω1 m.nx cap cs := ⟨h2, fun i hi => (h4 i hi).extR E1⟩
  have r2 : RepL w1 (Or2 B oL1) oC ω1 m.nx [.yld id] #[.func (.yield l) #[] #[]] := ⟨rfl, fun i hi => match i, hi with | 0, _ => .yld _ _ _ hid hω⟩
  have hargs : RepL w1 (Or2 B oL1) oC ω1 m.nx (first ++ [.yld id] ++ cap) (fs ++ #[.func (.yield l) #[] #[]] ++ cs) :=
    RepL.append (RepL.append r1 r2) r3
  obtain ⟨c1, c2⟩ := call_sound hC hA (.fn f) _ m _ _ w1 B oC oL1 ω1 _ hk1 M1 hargs
  have hres : (resolve a.eval (rangeCall g l) 0).run C.P w1 = .ok { target := .fn (.func f) cs, args := fs ++ #[.func (.yield l) #[] #[]] } w1 := by
    simp [resolve, rangeCall, hv, Deferred.ofValue, Sem.run, show ∀ l, a.eval (.const (.func (.yield l) #[] #[])) = .func (.yield l) #[] #[] from fun _ => rfl]
  have hinv : (invoke (.fn (.func f) cs) (fs ++ #[.func (.yield l) #[] #[]])).run C.P w1 = .ok (.enter f (fs ++ #[.func (.yield l) #[] #[]] ++ cs)) w1 := by
    simp only [invoke]
    exact c1
  exact ⟨l, mark, w1, _, w1, f, _, w1, e1, hres, fun _ _ => trivial, hinv, fr_deep ro, (callsIn_fr c2).mono fun e w' he => range_post S hQ E1 hid hω hm he⟩

set_option maxHeartbeats 2000000 in
/-- **A RUN THAT COMES TO 'true' IS THE MODEL's.** -/
theorem run_sound (hC : C.Ok) : ∀ n, RunOk C (run C n) ∧
    (∀ (inr : Option Nat) (body code : Code) (st : St) (k : Ex → St → Bool) (w : World) (B oC oL : Nat → Prop) (ω : Nat → Option Nat) (a : Act) (Q : Exit → Act → World → Prop) (ro : Option Nat),
      run C n inr (some body) code st k false = true → Sim C w B oC oL ω st a → InR ω st.m.nx inr ro → Outs C B w oC oL ω st.m.nx k Q → scopeIn (Fr ro) C.P body Q n code a w) ∧
    (∀ (inr : Option Nat) (body : Code) (st : St) (k : Ex → St → Bool) (w : World) (B oC oL : Nat → Prop) (ω : Nat → Option Nat) (a : Act) (Q : Exit → Act → World → Prop) (ro : Option Nat),
      run C n inr none (.loop body) st k false = true → Sim C w B oC oL ω st a → InR ω st.m.nx inr ro → Outs C B w oC oL ω st.m.nx k Q → Code.roundsIn (Fr ro) 0 C.P body Q n a w)
  | 0 => ⟨fun inr code st k w B oC oL ω a Q ro hk => (by cases hk), fun inr body code st k w B oC oL ω a Q ro hk => (by cases hk), fun inr body st k w B oC oL ω a Q ro hk => (by cases hk)⟩
  | n + 1 => by
    obtain ⟨hA, hS, hL⟩ := run_sound hC n
    have next : ∀ {w w1 : World} {B oC oL oC1 oL1 : Nat → Prop} {ω ω1 : Nat → Option Nat} {nx nx1 : Nat} {k : Ex → St → Bool} {Q : Exit → Act → World → Prop}, Outs C B w oC oL ω nx k Q → ExtR w oC oL ω nx w1 oC1 oL1 ω1 nx1 → Outs C B w1 oC1 oL1 ω1 nx1 k Q := fun hQ E e st' a' w' oC' oL' ω' out S' E' hk ho => hQ e st' a' w' oC' oL' ω' out S' (E.trans E') hk ho
    have loopS : ∀ (inr : Option Nat) (body : Code) (st : St) (k : Ex → St → Bool) (w : World) (B oC oL : Nat → Prop) (ω : Nat → Option Nat) (a : Act) (Q : Exit → Act → World → Prop) (ro : Option Nat),
        run C (n + 1) inr none (.loop body) st k false = true → Sim C w B oC oL ω st a → InR ω st.m.nx inr ro → Outs C B w oC oL ω st.m.nx k Q → Code.roundsIn (Fr ro) 0 C.P body Q (n + 1) a w := fun inr body st k w B oC oL ω a Q ro hk S hI hQ => by
      rw [roundsIn_succ]
      refine hA inr body st _ w B oC oL ω a _ ro hk S hI (fun e st' a' w' oC' oL' ω' out S' E hk' ho => ?_)
      cases e with
      | normal => subst ho; exact hL inr body st' k w' B oC' oL' ω' a' Q ro hk' S' (hI.ext E) (next hQ E)
      | exit id => have h2 := hQ _ st' a' w' oC' oL' ω' out S' E hk' ho; subst ho; exact h2
      | goto l => have h2 := hQ _ st' a' w' oC' oL' ω' out S' E hk' ho; subst ho; exact h2
      | ret => have h2 := hQ _ st' a' w' oC' oL' ω' out S' E hk' ho; subst ho; exact h2
      | panic v => have h2 := hQ _ st' a' w' oC' oL' ω' out S' E hk' ho; obtain ⟨u, rfl, _⟩ := ho; exact h2
    refine ⟨?_, ?_, loopS⟩
    · intro inr code st k w B oC oL ω a Q ro hk S hI hQ
      have hk0 := hk
      rw [run_succ] at hk
      unfold runStep at hk
      cases code <;> simp only at hk <;> try cases hk
      case skip => exact wpIn_skip (hQ .normal st a w oC oL ω _ S ExtR.refl hk rfl)
      case label l => exact wpIn_label (hQ .normal st a w oC oL ω _ S ExtR.refl hk rfl)
      case ret => exact wpIn_ret (hQ .ret st a w oC oL ω _ S ExtR.refl hk rfl)
      case exit id => exact wpIn_exit (hQ (.exit id) st a w oC oL ω _ S ExtR.refl hk rfl)
      case goto l => exact wpIn_goto (hQ (.goto l) st a w oC oL ω _ S ExtR.refl hk rfl)
      case seq x y =>
        refine wpIn_seq (hA inr x st _ w B oC oL ω a _ ro hk S hI (fun e st' a' w' oC' oL' ω' out S' E hk' ho => ?_))
        cases e with
        | normal => subst ho; exact hA inr y st' k w' B oC' oL' ω' a' Q ro hk' S' (hI.ext E) (next hQ E)
        | exit id => have h2 := hQ _ st' a' w' oC' oL' ω' out S' E hk' ho; subst ho; exact h2
        | goto l => have h2 := hQ _ st' a' w' oC' oL' ω' out S' E hk' ho; subst ho; exact h2
        | ret => have h2 := hQ _ st' a' w' oC' oL' ω' out S' E hk' ho; subst ho; exact h2
        | panic v => have h2 := hQ _ st' a' w' oC' oL' ω' out S' E hk' ho; obtain ⟨u, rfl, _⟩ := ho; exact h2
      case cond c x y =>
        split at hk
        · rename_i t ht
          have hev := S.ev c
          rw [ht] at hev
          generalize hv : a.eval c = u at hev
          cases hev
          have hset : ∀ b, b = t → setO st.tmps c (.bool b) = st.tmps := fun b e => by
            subst e
            cases c with
            | tmp d => exact lset_same ht
            | _ => rfl
          rcases of_cond2 hk with ⟨h1, h2⟩ | ⟨h1, h2⟩
          · rw [hset true h1.symm] at h2
            exact wpIn_cond_true (by rw [hv, h1]) (hA inr x st k w B oC oL ω a Q ro h2 S hI hQ)
          · rw [hset false h1.symm] at h2
            exact wpIn_cond_false (by rw [hv, h1]) (hA inr y st k w B oC oL ω a Q ro h2 S hI hQ)
        · cases hk
      case block id body =>
        refine wpIn_block (hA inr body st _ w B oC oL ω a _ ro hk S hI (fun e st' a' w' oC' oL' ω' out S' E hk' ho => ?_))
        cases e with
        | normal => subst ho; exact hQ .normal _ _ _ _ _ _ _ S' E hk' rfl
        | exit id' =>
          subst ho
          simp only [Exit.inBlock]
          rcases of_cond2 hk' with ⟨h1, h2⟩ | ⟨h1, h2⟩
          · rw [if_pos (of_beq h1)]; exact hQ .normal _ _ _ _ _ _ _ S' E h2 rfl
          · rw [if_neg (fun e => by rw [(beq_iff _ _).2 e] at h1; cases h1)]; exact hQ (.exit id') _ _ _ _ _ _ _ S' E h2 rfl
        | goto l => have h2 := hQ _ st' a' w' oC' oL' ω' out S' E hk' ho; subst ho; exact h2
        | ret => have h2 := hQ _ st' a' w' oC' oL' ω' out S' E hk' ho; subst ho; exact h2
        | panic v => have h2 := hQ _ st' a' w' oC' oL' ω' out S' E hk' ho; obtain ⟨u, rfl, _⟩ := ho; exact h2
      case loop body => exact wpIn_loop_rounds (n + 1) (loopS inr body st k w B oC oL ω a Q ro hk0 S hI hQ)
      case scope body => exact wpIn_scopeIn (hS inr body body st k w B oC oL ω a Q ro hk S hI hQ)
      case region id ops draw =>
        cases draw with
        | false =>
          simp only [cond_false] at hk
          refine wpIn_region ?_
          have := ops_sound (ro := ro) (Q := Q) (ops := ops) (call_sound hC hA) (mapOk C) ops.toList 0 rfl st a w oC oL ω hk S (fun st' a' w' oC' oL' ω' S' E hk' => hQ .normal _ _ _ _ _ _ _ S' E hk' rfl)
            (fun v u st' a' w' oC' oL' ω' S' E hk' hr => hQ (.panic v) _ _ _ _ _ _ _ S' E hk' ⟨u, rfl, hr⟩)
          rw [List.range_eq_range']
          simpa using this
        | true =>
          simp only [cond_true] at hk
          rcases of_cond2 hk with ⟨hl, hk⟩ | ⟨_, hk⟩
          · exact draw_last hC hA hl hk S (fun st' a' w' oC' oL' ω' S' E hk' => hQ .normal _ _ _ _ _ _ _ S' E hk' rfl) (fun v u st' a' w' oC' oL' ω' S' E hk' hr => hQ (.panic v) _ _ _ _ _ _ _ S' E hk' ⟨u, rfl, hr⟩)
          exact draw_sound hC hA hk S (fun st' a' w' oC' oL' ω' S' E hk' => hQ .normal _ _ _ _ _ _ _ S' E hk' rfl)
      case rangeFunc g params assign body =>
        split at hk
        · rename_i f first cap hg
          have hev := S.ev g
          rw [hg] at hev
          generalize hv : a.eval g = gv at hev
          cases hev with
          | fn _ _ _ _ fs cs h1 h2 h3 h4 =>
            exact range_sound hC hA S hI hQ hv h1 h2 h3 h4 hk
        · cases hk
    · intro inr body code st k w B oC oL ω a Q ro hk S hI hQ
      rw [run_succ] at hk
      unfold runStep at hk
      simp only at hk
      refine hA inr code st _ w B oC oL ω a _ ro hk S hI (fun e st' a' w' oC' oL' ω' out S' E hk' ho => ?_)
      cases e with
      | normal => have h2 := hQ _ st' a' w' oC' oL' ω' out S' E hk' ho; subst ho; exact h2
      | exit id => have h2 := hQ _ st' a' w' oC' oL' ω' out S' E hk' ho; subst ho; exact h2
      | ret => have h2 := hQ _ st' a' w' oC' oL' ω' out S' E hk' ho; subst ho; exact h2
      | panic v => have h2 := hQ _ st' a' w' oC' oL' ω' out S' E hk' ho; obtain ⟨u, rfl, _⟩ := ho; exact h2
      | goto l =>
        subst ho
        simp only at hk' ⊢
        split at hk'
        · rename_i rest hf
          simp only [hf]
          exact hS inr body rest st' k w' B oC' oL' ω' a' Q ro hk' S' (hI.ext E) (next hQ E)
        · rename_i hf
          simp only [hf]
          exact hQ (.goto l) _ _ _ _ _ _ _ S' E hk' rfl

/-- **What the run of a function comes to, the call comes to.** -/
theorem runF_sound (hC : C.Ok) {n : Nat} {f : FuncId} {args : List AV} {k : AV → Bool} (hk : runF C n f args k false = true) : ACalls C.P C.G f args (fun v => k v = true) := by
  unfold runF at hk
  split at hk
  · rename_i fn hfn
    split at hk
    · rename_i c hb
      exact stand_sound hC (run_sound hC n).1 fn c f args k hfn hb hk
    · cases hk
  · cases hk
end
end Go.Bas
end
section
namespace Go.Bas
open Go.RowKit

/-- A function, and what it answers to abstract arguments. -/
abbrev Sum := FuncId × (List AV → Option (Bool × AV))
def lookS : List Sum → FuncId → Option (List AV → Option (Bool × AV))
  | [], _ => none
  | s :: r, g => cond (Nat.beq s.1 g) (some s.2) (lookS r g)
/-- The summary is right. -/
def SumOk (P : Program) (G : Nat → Option (List AV)) (s : Sum) : Prop := ∀ args r, s.2 args = some (true, r) → ACalls P G s.1 args (fun v => v = r)

structure Base (P : Program) : Prop where
  mixed : P.follows .mixedOrders = true
  names : (P.funcs.toList.all fun fn => !(fn.name == "runtime.NumGoroutine")) = true

theorem cfg_ok {P : Program} {G : Nat → Option (List AV)} {q : FuncId → Bool} (h : Base P) {l : List Sum} (hl : ∀ s ∈ l, SumOk P G s) : Cfg.Ok ⟨P, G, lookS l, q, fun _ => none⟩ where
  sums f F hf args r hr := by
    have key : ∀ l : List Sum, (∀ s ∈ l, SumOk P G s) → lookS l f = some F → ACalls P G f args (fun v => v = r) := by
      intro l
      induction l with
      | nil => intro _ h; cases h
      | cons s l ih =>
        intro hl hf
        simp only [lookS] at hf
        cases hb : Nat.beq s.1 f with
        | true =>
          rw [hb] at hf
          simp only [cond_true, Option.some.injEq] at hf
          have := hl s (List.mem_cons_self ..) args r (by rw [hf]; exact hr)
          rw [of_beq hb] at this
          exact this
        | false =>
          rw [hb] at hf
          exact ih (fun s hs => hl s (List.mem_cons_of_mem _ hs)) hf
    exact key l hl hf
  inpl f F hF := by cases hF
  mixed := h.mixed
  names f fn hfn := by
    have := List.all_eq_true.1 h.names fn (by
      have : P.funcs.toList[f]? = some fn := by rw [Array.getElem?_toList]; exact hfn
      exact List.mem_of_getElem? this)
    simpa using this

theorem sums_nil {P : Program} {G : Nat → Option (List AV)} : ∀ s ∈ ([] : List Sum), SumOk P G s := fun _ h => by cases h
theorem sums_cons {P : Program} {G : Nat → Option (List AV)} {s : Sum} {l : List Sum} (h : SumOk P G s) (hl : ∀ s ∈ l, SumOk P G s) : ∀ t ∈ s :: l, SumOk P G t := fun t ht => by
  rcases List.mem_cons.1 ht with rfl | h'
  · exact h
  · exact hl t h'

/-- The run comes to one value. -/
theorem acalls_eqQ {P : Program} {G : Nat → Option (List AV)} {q : FuncId → Bool} (h : Base P) {l : List Sum} (hl : ∀ s ∈ l, SumOk P G s) {f : FuncId} {args : List AV} {r : AV} {n : Nat}
    (hrun : ∀ k : AV → Bool, k r = true → runF ⟨P, G, lookS l, q, fun _ => none⟩ n f args k false = true) : ACalls P G f args (fun v => v = r) := by
  classical
  have := runF_sound (cfg_ok h hl) (hrun (fun v => decide (v = r)) (by simp))
  exact this.mono fun v hv => by simpa using hv

theorem acalls_eq {P : Program} {G : Nat → Option (List AV)} (h : Base P) {l : List Sum} (hl : ∀ s ∈ l, SumOk P G s) {f : FuncId} {args : List AV} {r : AV} {n : Nat}
    (hrun : ∀ k : AV → Bool, k r = true → runF ⟨P, G, lookS l, fun _ => false, fun _ => none⟩ n f args k false = true) : ACalls P G f args (fun v => v = r) := acalls_eqQ h hl hrun

end Go.Bas
end
section
namespace Go.Bas
open Go.RowKit Go.ChangeShapes Go.WideShapes
set_option linter.unusedSimpArgs false
set_option linter.unusedVariables false

/-- Cells of numbers and bools. -/
def CellsOk : List CK → List Value → Prop
  | [], cs => cs = []
  | .b :: ks, cs => ∃ (b : Bool) (r : List Value), cs = .bool b :: r ∧ CellsOk ks r
  | .i k :: ks, cs => ∃ (n : Int) (r : List Value), cs = .int k n :: r ∧ (Lit.int k n).wf = true ∧ CellsOk ks r
  | .s :: _, _ => False
  | .o :: _, _ => False

theorem CellsOk.append : ∀ {ks ms : List CK} {a b : List Value}, CellsOk ks a → CellsOk ms b → CellsOk (ks ++ ms) (a ++ b)
  | [], ms, a, b, h1, h2 => by
    obtain rfl : a = [] := h1
    exact h2
  | .b :: ks, ms, a, b, ⟨x, r, e, h1⟩, h2 => ⟨x, r ++ b, by rw [e]; rfl, h1.append h2⟩
  | .i k :: ks, ms, a, b, ⟨x, r, e, hw, h1⟩, h2 => ⟨x, r ++ b, by rw [e]; rfl, hw, h1.append h2⟩
  | .s :: _, _, _, _, h1, _ => h1.elim
  | .o :: _, _, _, _, h1, _ => h1.elim

theorem CellsOk.length : ∀ {ks : List CK} {a : List Value}, CellsOk ks a → a.length = ks.length
  | [], a, h => by obtain rfl : a = [] := h; rfl
  | .b :: ks, a, ⟨x, r, e, h1⟩ => by rw [e]; simp [h1.length]
  | .i k :: ks, a, ⟨x, r, e, hw, h1⟩ => by rw [e]; simp [h1.length]
  | .s :: _, _, h1 => h1.elim
  | .o :: _, _, h1 => h1.elim

section
variable {H : Type} {enc : TypeId × Value → H} {P : Program} {w : World} {base : Nat} {spare : Nat → Bool} {held : Bool}

theorem flatFs_cells {g : TypeId → Option (List CK)} (hg : ∀ t ks, g t = some ks → ∀ fuel cs x, P.cellsOf t = ks.length → DataW.trod enc P w base spare held fuel t cs = some x → CellsOk ks cs) {cs : List Value} {n : Nat} :
    ∀ (r : List Field) (ks all : List CK), flatFs P g r ks = some all → cs.length = all.length → (∀ f ∈ r, ∃ y, DataW.trod enc P w base spare held n f.type ((cs.drop f.offset).take (P.cellsOf f.type)) = some y) →
    ∃ rest, all = ks ++ rest ∧ CellsOk rest (cs.drop ks.length)
  | [], ks, all, h, hl, _ => by
    obtain rfl := Option.some.inj h
    exact ⟨[], by simp, List.drop_eq_nil_of_le (by omega)⟩
  | f :: r, ks, all, h, hl, hf => by
    simp only [flatFs] at h
    cases hc : (Nat.beq f.offset ks.length && f.name != "_") with
    | false => rw [hc] at h; cases h
    | true =>
      rw [hc] at h
      simp only [cond_true] at h
      obtain ⟨c1, c2⟩ := of_and hc
      replace c1 := of_beq c1
      split at h
      · rename_i ms i hms hi
        cases hb : Nat.beq i.size ms.length with
        | false => rw [hb] at h; cases h
        | true =>
          rw [hb] at h
          simp only [cond_true] at h
          replace hb := of_beq hb
          have hco : P.cellsOf f.type = ms.length := by simp [Program.cellsOf, hi, hb]
          obtain ⟨rest, e, h2⟩ := flatFs_cells hg r (ks ++ ms) all h hl (fun f hf' => hf f (List.mem_cons_of_mem _ hf'))
          obtain ⟨y, hy⟩ := hf f (List.mem_cons_self ..)
          rw [c1, hco] at hy
          have h1 := hg _ _ hms _ _ _ hco hy
          refine ⟨ms ++ rest, by rw [e, List.append_assoc], ?_⟩
          have := h1.append h2
          rwa [List.length_append, ← List.drop_drop, List.take_append_drop] at this
      · cases h

theorem flat_cells : ∀ (d : Nat) (t : TypeId) (ks : List CK), flatT P d t = some ks → ∀ fuel cs x, P.cellsOf t = ks.length → DataW.trod enc P w base spare held fuel t cs = some x → CellsOk ks cs
  | 0, _, _, h => by cases h
  | d + 1, t, ks, h => fun fuel cs x hc hx => by
    simp only [flatT] at h
    split at h
    · rename_i hu
      obtain rfl := Option.some.inj h
      obtain ⟨b, rfl, _⟩ := DataW.trod_bool hu hx
      exact ⟨b, [], rfl, rfl⟩
    · rename_i k hu
      obtain rfl := Option.some.inj h
      obtain ⟨n, rfl, _, hw⟩ := DataW.trod_int hu hx
      exact ⟨n, [], rfl, hw, rfl⟩
    · rename_i fs hu
      cases hst : P.stoodInHeld t with
      | true => rw [hst] at h; cases h
      | false =>
        rw [hst] at h
        simp only [cond_false] at h
        obtain ⟨xs, n, _, _, hl, hlen, hf⟩ := DataW.trod_struct hu hx
        obtain ⟨rest, e, h2⟩ := flatFs_cells (cs := cs) (n := n) (flat_cells d) fs.toList [] ks h (by omega) (fun f hf' => by
          obtain ⟨i, hi, e⟩ := List.mem_iff_getElem.1 hf'
          have hi' : i < fs.size := by simpa using hi
          have := hf i f (by rw [← e]; simp)
          rw [this]
          exact ⟨_, List.getElem?_eq_getElem (by omega)⟩)
        simp only [List.nil_append] at e
        subst e
        simpa using h2
    · cases h

/-- An argument: a struct of numbers and bools. -/
theorem open_flat {r : Reach} {b0 : Nat} {t : TypeId} {v : Value} {d : DataW H} {ps : List MemPlace} {fs : Array Field} {ks : List CK} (ht : P.underlying t = some (.struct fs)) (hf : flatT P 8 t = some ks) (hc : P.cellsOf t = ks.length)
    (hval : Value.okWide P w r b0 t v) (hd : DataW.Trod enc P w base spare held t v d ps) : ∃ l, v = .agg (List.toArray l) ∧ CellsOk ks l := by
  simp only [Value.okWide, ht] at hval
  obtain ⟨cs, rfl, _, _⟩ := hval
  obtain ⟨fuel, hx⟩ := hd
  exact ⟨cs.toList, by simp, flat_cells 8 t ks hf _ _ _ hc (by simpa [Value.cells] using hx)⟩

theorem cells?_get {a : Addr} {n : Nat} {cs : List Value} (h : w.cells? base a n = some cs) : cs.length = n ∧ ∀ j (hj : j < cs.length), w.cell? (a.add j) = some cs[j] := by
  unfold World.cells? at h
  split at h
  · have key : ∀ (l : List Nat) (cs : List Value), l.mapM (fun i => w.cell? (a.add i)) = some cs → cs.length = l.length ∧ ∀ j (hj : j < cs.length) (hj' : j < l.length), w.cell? (a.add l[j]) = some cs[j] := by
      intro l
      induction l with
      | nil => intro cs h; simp at h; subst h; exact ⟨rfl, fun j hj => absurd hj (Nat.not_lt_zero _)⟩
      | cons i l ih =>
        intro cs h
        simp only [List.mapM_cons, Option.bind_eq_bind, Option.bind_eq_some_iff, Option.pure_def, Option.some.injEq] at h
        obtain ⟨c, h1, r, h2, rfl⟩ := h
        obtain ⟨e1, e2⟩ := ih r h2
        refine ⟨by simp [e1], fun j hj hj' => ?_⟩
        cases j with
        | zero => exact h1
        | succ j => exact e2 j (by simpa using hj) (by simpa using hj')
    obtain ⟨e1, e2⟩ := key _ _ h
    exact ⟨by simpa using e1, fun j hj => by
      have := e2 j hj (by rw [← e1]; exact hj)
      rwa [List.getElem_range] at this⟩
  · cases h

theorem flat_at {sz : Nat} : ∀ (rows : List (List Value)), (∀ r ∈ rows, r.length = sz) → ∀ i j, i < rows.length → j < sz → rows.flatten[i * sz + j]? = (rows.getD i [])[j]?
  | [], _, i, j, hi, _ => absurd hi (Nat.not_lt_zero _)
  | r :: rows, h, 0, j, _, hj => by
    have hr := h r (List.mem_cons_self ..)
    simp only [List.flatten_cons, Nat.zero_mul, Nat.zero_add]
    rw [List.getElem?_append_left (by omega)]
    rfl
  | r :: rows, h, i + 1, j, hi, hj => by
    have hr := h r (List.mem_cons_self ..)
    have e : (i + 1) * sz + j = r.length + (i * sz + j) := by rw [Nat.succ_mul]; omega
    simp only [List.flatten_cons]
    rw [e, List.getElem?_append_right (Nat.le_add_right _ _), Nat.add_sub_cancel_left]
    rw [flat_at rows (fun r hr => h r (List.mem_cons_of_mem _ hr)) i j (by simpa using hi) hj]
    rfl
theorem flatten_len {sz : Nat} : ∀ (rows : List (List Value)), (∀ r ∈ rows, r.length = sz) → rows.flatten.length = rows.length * sz
  | [], _ => by simp
  | r :: rows, h => by
    have hr := h r (List.mem_cons_self ..)
    simp only [List.flatten_cons, List.length_append, List.length_cons, flatten_len rows (fun r hr => h r (List.mem_cons_of_mem _ hr)), hr, Nat.succ_mul]
    omega

/-- An argument: a slice of such, in memory that nobody writes. -/
theorem open_flats {r : Reach} {b0 : Nat} {t e : TypeId} {v : Value} {d : DataW H} {ps : List MemPlace} {ks : List CK} (ht : P.underlying t = some (.slice e)) (hf : flatT P 8 e = some ks) (hc : P.cellsOf e = ks.length) (hpos : 0 < ks.length)
    (hval : Value.okWide P w r b0 t v) (hd : DataW.Trod enc P w base spare held t v d ps) :
    ∃ rows : List (List Value), (∀ x ∈ rows, CellsOk ks x) ∧ rows.length ≤ maxLen ∧ Rep w (fun _ => False) (fun _ => False) (fun _ => none) 0 (.lst (rows.flatten.map ofS) rows.length) v := by
  have hone : ∃ (sa : Option Addr) (sn sc : Nat), v = .slice sa sn sc := by
    simp only [Value.okWide, ht, Cell.okWide, Cell.ok] at hval
    cases v <;> first | exact ⟨_, _, _, rfl⟩ | exact hval.elim | cases hval
  obtain ⟨sa, sn, sc, rfl⟩ := hone
  obtain ⟨fuel, hx⟩ := hd
  simp only [Value.cells] at hx
  rcases DataW.trod_slice ht hx with ⟨h0, _⟩ | ⟨a, len, cap, elems, rest, n, _, h0, _, hb, hl, hm, hlen, hel, hsp, hns⟩
  · simp at h0
    obtain ⟨rfl, rfl, rfl⟩ := h0
    exact ⟨[], fun x h => (by cases h), Nat.zero_le _, .lstn _ _ _⟩
  · simp at h0
    obtain ⟨rfl, rfl, rfl⟩ := h0
    have each : ∀ i, i < sn → ∃ cs, w.cells? base (a.add (i * ks.length)) ks.length = some cs ∧ CellsOk ks cs := fun i hi => by
      have := hel i hi
      rw [List.getElem?_eq_getElem (by omega), hc] at this
      obtain ⟨cs, h1, h2⟩ := Option.bind_eq_some_iff.1 this
      exact ⟨cs, h1, flat_cells 8 e ks hf _ _ _ hc h2⟩
    let row : Nat → List Value := fun i => (w.cells? base (a.add (i * ks.length)) ks.length).getD []
    have hrow : ∀ i, i < sn → w.cells? base (a.add (i * ks.length)) ks.length = some (row i) ∧ CellsOk ks (row i) := fun i hi => by
      obtain ⟨cs, h1, h2⟩ := each i hi
      simp only [row, h1, Option.getD_some]
      exact ⟨trivial, h2⟩
    have hmem : ∀ x ∈ (List.range sn).map row, CellsOk ks x := fun x hx => by
      obtain ⟨i, hi, rfl⟩ := List.mem_map.1 hx
      exact (hrow i (by simpa using hi)).2
    refine ⟨(List.range sn).map row, hmem, by simp; omega, ?_⟩
    have hlens : ∀ x ∈ (List.range sn).map row, x.length = ks.length := fun x hx => (hmem x hx).length
    by_cases hz : sn = 0
    · subst hz
      exact .lstn _ _ _
    · have hspot : a.spot = none := by
        have h1 := (cells?_get (hrow 0 (by omega)).1)
        have h2 := h1.2 0 (by omega)
        simp only [Nat.zero_mul] at h2
        have h3 : ((a.add 0).add 0).spot = none := by
          cases hs : ((a.add 0).add 0).spot with
          | none => rfl
          | some s =>
            simp only [World.cell?, hs, Option.isSome_some, if_true] at h2
            split at h2 <;> cases h2
        simpa [Addr.add] using h3
      obtain ⟨b, o, sp⟩ := a
      simp only at hspot
      subst hspot
      have hfl := flatten_len _ hlens
      simp only [List.length_map, List.length_range] at hfl
      have hcell : ∀ q (hq : q < ((List.range sn).map row).flatten.length), w.cell? ⟨b, o + q, none⟩ = some ((List.range sn).map row).flatten[q] := fun q hq => by
        have hpk := hpos
        have hi : q / ks.length < sn := (Nat.div_lt_iff_lt_mul hpos).2 (by omega)
        have hj : q % ks.length < ks.length := Nat.mod_lt _ hpos
        have h1 := cells?_get (hrow _ hi).1
        have h2 := h1.2 (q % ks.length) (by omega)
        rw [addr_add, addr_add, Nat.add_assoc, Nat.mul_comm, Nat.div_add_mod] at h2
        rw [h2]
        have h3 := flat_at _ hlens (q / ks.length) (q % ks.length) (by simpa using hi) hj
        rw [Nat.mul_comm, Nat.div_add_mod, List.getElem?_eq_getElem hq] at h3
        rw [h3]
        simp only [List.getD_eq_getElem?_getD, List.getElem?_map, List.getElem?_range hi, Option.map_some, Option.getD_some]
        exact (List.getElem?_eq_getElem (by omega)).symm
      have h0 : 0 < ((List.range sn).map row).flatten.length := by rw [hfl]; exact Nat.mul_pos (by omega) hpos
      rw [show ((List.range sn).map row).length = sn by simp]
      clear hlens hmem
      generalize ((List.range sn).map row).flatten = fl at hcell h0
      refine Rep.lst (B := fun _ => False) (own := fun _ => False) _ _ _ sc b o (fun q => fl.getD q undef) (fun _ => ⟨?_, fun h => h, fun h => h⟩) (by simpa using hl) (fun q hq => ?_) (fun q hq => ?_)
      · have := hcell 0 h0
        rcases Nat.lt_or_ge b w.heap.size with h | h
        · exact h
        · simp [World.cell?, Array.getElem?_eq_none h] at this
      · rw [List.length_map] at hq
        rw [hcell q hq, List.getD_eq_getElem?_getD, List.getElem?_eq_getElem hq, Option.getD_some]
      · have hq' : q < fl.length := by rw [List.length_map] at hq; exact hq
        rw [List.getElem_map, List.getD_eq_getElem?_getD, List.getElem?_eq_getElem hq', Option.getD_some]
        exact rep_ofS _ _ _ _ _ _

end

/-! ### The row's frame -/
theorem Still.below {w w' : World} (E : Still w w') : Below w.heap.size w w' := ⟨E.os, E.tape, E.output, E.size, fun k hk => E.old k hk (fun h => h)⟩
def rowed (P : Program) (ts : List TypeId) : Bool := ts.all fun t => P.readableRec t && decide (t < P.types.size)

theorem trodAll_below {H : Type} {enc : TypeId × Value → H} {P : Program} (hl : laidOutB P = true) {W W' : World} (hb : Below W.heap.size W W') {sp : Nat → Bool} : ∀ {ts : List TypeId} {vs : List Value} {ds : List (DataW H)} {ps : List MemPlace}, rowed P ts = true →
    (∀ x ∈ ps, x.block < W.heap.size) → (∀ x ∈ ps, sp x.block = true) → DataW.TrodAll enc P W 0 (fun _ => true) true ts vs ds ps → DataW.TrodAll enc P W' 0 sp true ts vs ds ps
  | [], [], [], _, _, _, _, h => h
  | t :: ts, v :: vs, d :: ds, ps, hr, hlt, hsp, ⟨p, q, h1, h2, e⟩ => by
    subst e
    simp only [rowed, List.all_cons, Bool.and_eq_true, decide_eq_true_eq] at hr
    refine ⟨p, q, ?_, trodAll_below hl hb (by simpa [rowed] using hr.2) (fun x hx => hlt x (List.mem_append_right _ hx)) (fun x hx => hsp x (List.mem_append_right _ hx)) h2, rfl⟩
    exact WideElems.Trod_stays hl hr.1.1 hr.1.2 h1 (fun x hx => hb.same (hlt x (List.mem_append_left _ hx))) (fun x hx => hsp x (List.mem_append_left _ hx))
  | [], _ :: _, _, _, _, _, _, h => h.elim
  | [], [], _ :: _, _, _, _, _, h => h.elim
  | _ :: _, [], _, _, _, _, _, h => h.elim
  | _ :: _, _ :: _, [], _, _, _, _, h => h.elim

theorem post_true {H : Type} {enc : TypeId × Value → H} {P : Program} {f : Func} {s : ChangeSpec} {apart fresh handsOn again : Bool} {W W' : World} {args : Array Value} {ds gs : List (DataW H)} {before : List MemPlace} {t : TypeId}
    (hl : laidOutB P = true) (hr : rowed P f.params.toList = true) (hv : s.vars = [])
    (hW : DataW.Whole enc P f.params.toList s.vars apart W args.toList ds gs before) (hb : Below W.heap.size W W') (hres : f.resultTypes = #[t]) (ht : P.underlying t = some .bool)
    (h1 : (s.fn H (ds ++ gs)).results = [.lit (.bool true)]) (h2 : (s.fn H (ds ++ gs)).args = ds) (h3 : (s.fn H (ds ++ gs)).vars = []) :
    s.post enc P f apart fresh handsOn again W args (.bool true) W' := by
  have hlt := hW.lt
  have hW0 := hW
  obtain ⟨p, q, hA, hV, rfl, hz, hn⟩ := hW
  rw [hv] at hV
  obtain ⟨rfl, rfl⟩ := trodVars_none hV
  have hr1 : ∀ (b : Nat) (sp : Nat → Bool) (hd : Bool), DataW.TrodAll enc P W' b sp hd f.resultTypes.toList ((Value.bool true).resultList f.resultTypes.size) (s.fn H (ds ++ [])).results [] := fun b sp hd => by
    rw [hres, h1]
    exact trodAll_mk1 (shut_bool ht true)
  have hr2 : ∀ sp : Nat → Bool, (∀ x ∈ p, sp x.block = true) → DataW.TrodAll enc P W' 0 sp true f.params.toList args.toList ds p := fun sp hs =>
    trodAll_below hl hb hr (fun x hx => hlt x (List.mem_append_left _ hx)) hs hA
  refine ⟨ds, [], p ++ [], [], p, [], hW0, hr1 _ _ _, by rw [h2]; exact hr2 _ (fun x hx => by simpa using hlt x (List.mem_append_left _ hx)), by rw [hv, h3]; exact rfl, World.keptBut_mono (fun _ h => h.elim) (hb.frame fun _ => False), fun _ => ⟨?_, (s.fn H (ds ++ [])).results ++ ds, [], [] ++ p, ⟨[] ++ p, [], trodAll_append (hr2 _ (fun _ _ => rfl)) (hr1 _ _ _), by rw [hv]; exact rfl, by simp, ?_, ?_⟩, ?_⟩⟩
  · rw [hres]
    intro j t' r hj hx
    match j, hj, hx with
    | 0, hj, hx =>
      simp [Value.resultList] at hj hx
      subst hj; subst hx
      exact okWide_bool_mk ht true
  · intro b off hp
    have hp' : MemPlace.cell b off ∈ p ++ [] := by simpa using hp
    rw [hb.frozen (p := ⟨b, off, none⟩) (hlt _ hp')]
    exact hz b off hp'
  · intro ha
    have := hn ha
    simpa using this
  · intro x hx _
    simpa using hx

theorem rep_cells {w : World} {B : Nat → Prop} {own : Nat → Prop} {ω : Nat → Option Nat} {nx : Nat} (l : List Value) : Rep w B own ω nx (.agg (l.map ofS)) (.agg l.toArray) := by
  have := repL_ofS (w := w) (B := B) (own := own) (ω := ω) (nx := nx) l.toArray
  exact .agg _ _ _ this.1 this.2
theorem repL_nil {w : World} {B : Nat → Prop} {own : Nat → Prop} {ω : Nat → Option Nat} {nx : Nat} : RepL w B own ω nx [] #[] := ⟨rfl, fun i hi => absurd hi (Nat.not_lt_zero _)⟩
theorem repL_cons {w : World} {B : Nat → Prop} {own : Nat → Prop} {ω : Nat → Option Nat} {nx : Nat} {v : AV} {u : Value} {vs : List AV} {us : List Value} (h : Rep w B own ω nx v u) (hs : RepL w B own ω nx vs us.toArray) : RepL w B own ω nx (v :: vs) (u :: us).toArray := by
  refine repL_of (by simpa using hs.1) (fun j a x ha hx => ?_)
  cases j with
  | zero => simp at ha hx; subst ha hx; exact h
  | succ j => exact hs.at (by simpa using ha) (by simpa using hx)

theorem wrap_eq {k : IntKind} {n : Int} (h : (Lit.int k n).wf = true) : k.wrap n = n := by
  simp only [Lit.wf, Bool.and_eq_true, decide_eq_true_eq] at h
  unfold IntKind.wrap
  cases k <;> simp [IntKind.min, IntKind.max, IntKind.bits, IntKind.signed] at h ⊢ <;> omega
theorem wf_iff {k : IntKind} {n : Int} : (Lit.int k n).wf = true ↔ k.min ≤ n ∧ n ≤ k.max := by simp [Lit.wf]
end Go.Bas
end
section
namespace Go.Bas
open Go.RowKit
set_option linter.unusedSimpArgs false
set_option linter.unusedVariables false

/-- From this abstract state the code comes to an end, and there 'K' holds. -/
def AWp (C : Cfg) (inr : Option Nat) (code : Code) (st : St) (K : Ex → St → Prop) : Prop :=
  ∀ (w : World) (B oC oL : Nat → Prop) (ω : Nat → Option Nat) (a : Act) (Q : Exit → Act → World → Prop) (ro : Option Nat), Sim C w B oC oL ω st a → InR ω st.m.nx inr ro →
    (∀ e st' a' w' oC' oL' ω' out, Sim C w' B oC' oL' ω' st' a' → ExtR w oC oL ω st.m.nx w' oC' oL' ω' st'.m.nx → K e st' → OutIs w' B oC' oL' ω' st'.m.nx e out → Q out a' w') → code.wpIn (Fr ro) 0 C.P Q a w

section
variable {C : Cfg} {K K' : Ex → St → Prop} {st : St} {inr : Option Nat}

theorem AWp.mono {code : Code} (hk : ∀ e s, K e s → K' e s) (h : AWp C inr code st K) : AWp C inr code st K' := fun w B oC oL ω a Q ro S hI hQ =>
  h w B oC oL ω a Q ro S hI (fun e st' a' w' oC' oL' ω' out S' E k ho => hQ e st' a' w' oC' oL' ω' out S' E (hk e st' k) ho)

/-- A piece that the run goes through. -/
theorem AWp.run (hC : C.Ok) {n : Nat} {code : Code} (h : ∀ k : Ex → St → Bool, (∀ e s, K e s → k e s = true) → Bas.run C n inr none code st k false = true) : AWp C inr code st K := fun w B oC oL ω a Q ro S hI hQ => by
  classical
  exact (run_sound hC n).1 inr code st _ w B oC oL ω a Q ro (h (fun e s => decide (K e s)) (fun e s hk => decide_eq_true hk)) S hI (fun e st' a' w' oC' oL' ω' out S' E hk ho => hQ e st' a' w' oC' oL' ω' out S' E (of_decide_eq_true hk) ho)

theorem AWp.seq {x y : Code} (h : AWp C inr x st (fun e s => match e with | .normal => AWp C inr y s K | e => K e s)) : AWp C inr (.seq x y) st K := fun w B oC oL ω a Q ro S hI hQ => by
  refine wpIn_seq (h w B oC oL ω a _ ro S hI (fun e st' a' w' oC' oL' ω' out S' E hk ho => ?_))
  cases e with
  | normal => subst ho; exact hk w' B oC' oL' ω' a' Q ro S' (hI.ext E) (fun e2 st2 a2 w2 oC2 oL2 ω2 out2 S2 E2 hk2 ho2 => hQ e2 st2 a2 w2 oC2 oL2 ω2 out2 S2 (E.trans E2) hk2 ho2)
  | exit id => have h2 := hQ _ st' a' w' oC' oL' ω' out S' E hk ho; subst ho; exact h2
  | goto l => have h2 := hQ _ st' a' w' oC' oL' ω' out S' E hk ho; subst ho; exact h2
  | ret => have h2 := hQ _ st' a' w' oC' oL' ω' out S' E hk ho; subst ho; exact h2
  | panic v => have h2 := hQ _ st' a' w' oC' oL' ω' out S' E hk ho; obtain ⟨u, rfl, _⟩ := ho; exact h2

theorem AWp.block {id : Nat} {body : Code} (h : AWp C inr body st (fun e s => match e with | .exit id' => (id' = id → K .normal s) ∧ (id' ≠ id → K (.exit id') s) | e => K e s)) : AWp C inr (.block id body) st K := fun w B oC oL ω a Q ro S hI hQ => by
  refine wpIn_block (h w B oC oL ω a _ ro S hI (fun e st' a' w' oC' oL' ω' out S' E hk ho => ?_))
  cases e with
  | normal => exact hQ .normal _ _ _ _ _ _ out S' E hk ho |> fun h2 => by subst ho; exact h2
  | exit id' =>
    subst ho
    simp only [Exit.inBlock]
    by_cases h : id' = id
    · rw [if_pos h]; exact hQ .normal _ _ _ _ _ _ _ S' E (hk.1 h) rfl
    · rw [if_neg h]; exact hQ (.exit id') _ _ _ _ _ _ _ S' E (hk.2 h) rfl
  | goto l => have h2 := hQ _ st' a' w' oC' oL' ω' out S' E hk ho; subst ho; exact h2
  | ret => have h2 := hQ _ st' a' w' oC' oL' ω' out S' E hk ho; subst ho; exact h2
  | panic v => have h2 := hQ _ st' a' w' oC' oL' ω' out S' E hk ho; obtain ⟨u, rfl, _⟩ := ho; exact h2

theorem AWp.cond {c : Operand} {x y : Code} {t : Bool} (hc : evO C st.tmps c = .bool t) (hx : t = true → AWp C inr x st K) (hy : t = false → AWp C inr y st K) : AWp C inr (.cond c x y) st K := fun w B oC oL ω a Q ro S hI hQ => by
  have hev := S.ev c
  rw [hc] at hev
  generalize hv : a.eval c = u at hev
  cases hev
  cases t with
  | true => exact wpIn_cond_true hv (hx rfl w B oC oL ω a Q ro S hI hQ)
  | false => exact wpIn_cond_false hv (hy rfl w B oC oL ω a Q ro S hI hQ)

/-- A loop, by a family of states and a measure. -/
theorem AWp.loop {ι : Type} {body : Code} (I : ι → St) (μ : ι → Nat) (h : ∀ i, AWp C inr body (I i) (fun e s => match e with | .normal => ∃ j, s = I j ∧ μ j < μ i | e => K e s)) (i : ι) : AWp C inr (.loop body) (I i) K := fun w B oC oL ω a Q ro S hI hQ => by
  have key : ∀ (m : Nat) (i : ι) (a : Act) (w : World) (oC oL : Nat → Prop) (ω : Nat → Option Nat), μ i < m → Sim C w B oC oL ω (I i) a → InR ω (I i).m.nx inr ro →
      (∀ e st' a' w' oC' oL' ω' out, Sim C w' B oC' oL' ω' st' a' → ExtR w oC oL ω (I i).m.nx w' oC' oL' ω' st'.m.nx → K e st' → OutIs w' B oC' oL' ω' st'.m.nx e out → Q out a' w') → Code.roundsIn (Fr ro) 0 C.P body Q m a w := by
    intro m
    induction m with
    | zero => intro i a w oC oL ω h; exact absurd h (Nat.not_lt_zero _)
    | succ m ih =>
      intro i a w oC oL ω hm S hI hQ
      rw [roundsIn_succ]
      refine h i w B oC oL ω a _ ro S hI (fun e st' a' w' oC' oL' ω' out S' E hk ho => ?_)
      cases e with
      | normal =>
        obtain ⟨j, rfl, hj⟩ := hk
        subst ho
        exact ih j a' w' oC' oL' ω' (by omega) S' (hI.ext E) (fun e2 st2 a2 w2 oC2 oL2 ω2 out2 S2 E2 hk2 ho2 => hQ e2 st2 a2 w2 oC2 oL2 ω2 out2 S2 (E.trans E2) hk2 ho2)
      | exit id => have h2 := hQ _ st' a' w' oC' oL' ω' out S' E hk ho; subst ho; exact h2
      | goto l => have h2 := hQ _ st' a' w' oC' oL' ω' out S' E hk ho; subst ho; exact h2
      | ret => have h2 := hQ _ st' a' w' oC' oL' ω' out S' E hk ho; subst ho; exact h2
      | panic v => have h2 := hQ _ st' a' w' oC' oL' ω' out S' E hk ho; obtain ⟨u, rfl, _⟩ := ho; exact h2
  exact wpIn_loop_rounds (μ i + 1) (key (μ i + 1) i a w oC oL ω (Nat.lt_succ_self _) S hI hQ)

open Classical in
/-- What is proved of pieces, asv a way of going on. -/
noncomputable def goA (C : Cfg) : RunF Bool := fun inr sc code st k _ => match sc with
  | none => decide (AWp C inr code st (fun e s => k e s = true))
  | some _ => false
open Classical in
theorem goA_ok : RunOk C (goA C) := fun inr code st k w B oC oL ω a Q ro hk S hI hQ =>
  (show AWp C inr code st (fun e s => k e s = true) from of_decide_eq_true hk) w B oC oL ω a Q ro S hI hQ
open Classical in
/-- A loop over a function: its iterator's call, with the round's way back. -/
theorem AWp.range (hC : C.Ok) {g : Operand} {f : FuncId} {first cap : List AV} {params : Array Tmp} {assign body : Code} {k : Ex → St → Bool} (hg : evO C st.tmps g = .fn (.func f) first cap)
    (h : loopM inr st params.toList assign body (fun id ds m => callR C (goA C) false (.fn f) (first ++ [.yld id] ++ cap) m (fun _ m' => afterK C st k id ds m') (fun v m' => k (.panic v) ⟨st.tmps, ds, m'⟩)) false = true) (hk : ∀ e s, k e s = true → K e s) :
    AWp C inr (.rangeFunc g params assign body) st K := fun w B oC oL ω a Q ro S hI hQ => by
  have hev := S.ev g
  rw [hg] at hev
  generalize hv : a.eval g = gv at hev
  cases hev with
  | fn _ _ _ _ fs cs h1 h2 h3 h4 =>
    exact range_sound hC goA_ok S hI (fun e st' a' w' oC' oL' ω' out S' E hk' ho => hQ e st' a' w' oC' oL' ω' out S' E (hk e st' hk') ho) hv h1 h2 h3 h4 h

/-- The code of a function. -/
def fcode (P : Program) (f : FuncId) : Code := ((P.funcs[f]?).bind (·.body)).getD .skip
/-- A part of a piece of code. -/
def sel : List Bool → Code → Code
  | [], c => c
  | b :: r, c => match c with
    | .seq x y => sel r (cond b y x)
    | .cond _ x y => sel r (cond b y x)
    | .block _ x => sel r x
    | .loop x => sel r x
    | .scope x => sel r x
    | .rangeFunc _ _ _ x => sel r x
    | c => c
/-- The state that a function's body begins in. -/
def st0 (P : Program) (f : FuncId) (args : List AV) : St := ⟨padL args (((P.funcs[f]?).map (·.ntmps)).getD 0), [], ⟨[], 0, []⟩⟩
/-- What a function's results are, its own blocks given up. -/
noncomputable def resF {Ω : Type} (C : Cfg) (f : FuncId) (st : St) (k : AV → Ω) (z : Ω) : Ω :=
  match C.P.funcs[f]? with
  | some fn => closeK st.ds st.m.lp (fun _ => resK C fn st (fun v => freezeK st.m.heap 6 v k z) z) z
  | none => z

end
end Go.Bas
end
