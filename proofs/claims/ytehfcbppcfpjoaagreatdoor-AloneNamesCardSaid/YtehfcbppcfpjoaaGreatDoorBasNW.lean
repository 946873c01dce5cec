/- The engine, part W: a run that comes to 'true' is the model's. -/
import Derived.Test.YtehfcbppcfpjoaaGreatDoorBasNV
namespace Go.Bas
open Go.RowKit
set_option linter.unusedSimpArgs false
set_option linter.unusedVariables false

section
variable {P : Program} {F : Fence} {n : Nat} {b : Frame} {a : Act} {k : List Item} {cs : List Frame} {w : World}
theorem stepR_scope {body : Code} : step P (lone (b.atR a (.code (.scope body) :: k)) cs w) = .next (lone (b.atR a (.code body :: .inScope body :: k)) cs w) :=
  step_lone_go (by simp [stepG, stepG.exec, Frame.atR])
theorem stepR_inScope {body : Code} : step P (lone (b.atR a (.inScope body :: k)) cs w) = .next (lone (b.atR a k) cs w) :=
  step_lone_go (by simp [stepG, stepG.exec, Frame.atR])
/-- A scope, its jumps counted. -/
def scopeIn (F : Fence) (P : Program) (body : Code) (Q : Exit → Act → World → Prop) : Nat → Code → Act → World → Prop
  | 0, _, _, _ => False
  | n + 1, cur, a, w => cur.wpIn F 0 P (fun e a' w' => match e with
    | .goto l => match findLabel body l with
      | some rest => scopeIn F P body Q n rest a' w'
      | none => Q (.goto l) a' w'
    | e => Q e a' w') a w
theorem wpIn_scopeIn {body : Code} {Q : Exit → Act → World → Prop} {n : Nat} {a : Act} {w : World} (h : scopeIn F P body Q n body a w) : (Code.scope body).wpIn F 0 P Q a w := by
  intro b k cs hro hb hr
  have key : ∀ n cur a w, scopeIn F P body Q n cur a w → ∃ e a' w', Q e a' w' ∧ ArrivesIn (Machine.fenced P F) P (lone (b.atR a (.code cur :: .inScope body :: k)) cs w) b k cs e a' w' := by
    intro n
    induction n with
    | zero => intro cur a w h; exact h.elim
    | succ n ih =>
      intro cur a w h
      obtain ⟨e, a₁, w₁, hq, harr⟩ := h b (.inScope body :: k) cs hro hb hr
      cases e with
      | normal => exact ⟨.normal, a₁, w₁, hq, StepsIn.trans harr (.one (fenced_calm hb hr rfl) stepR_inScope)⟩
      | exit id => exact ⟨.exit id, a₁, w₁, hq, fun k' hk => harr.1 k' (by simp [exitTo, hk]), fun hs hk => harr.2 hs (by simp [exitTo, hk])⟩
      | goto l =>
        simp only at hq
        split at hq
        · rename_i rest hf
          obtain ⟨e₂, a₂, w₂, hq₂, harr₂⟩ := ih rest a₁ w₁ hq
          exact ⟨e₂, a₂, w₂, hq₂, .of_steps (harr.1 _ (by simp [gotoIn, hf])) harr₂⟩
        · rename_i hf
          exact ⟨.goto l, a₁, w₁, hq, fun k' hk => harr.1 k' (by simp [gotoIn, hf, hk]), fun hs hk => harr.2 hs (by simp [gotoIn, hf, hk])⟩
      | ret => exact ⟨_, a₁, w₁, hq, harr⟩
      | panic ch => exact ⟨_, a₁, w₁, hq, harr⟩
      | outgrown => exact ⟨_, a₁, w₁, hq, harr⟩
  obtain ⟨e, a₁, w₁, hq, harr⟩ := key n body a w h
  exact ⟨e, a₁, w₁, hq, .of_steps (.one (fenced_calm hb hr rfl) stepR_scope) harr⟩
end

section
variable {C : Cfg}

/-- In which round it is. -/
def InR (ω : Nat → Option Nat) (nx : Nat) : Option Nat → Option Nat → Prop
  | none, none => True
  | some id, some l => id < nx ∧ ω id = some l
  | _, _ => False
theorem InR.ext {w w' : World} {oC oL oC' oL' : Nat → Prop} {ω ω' : Nat → Option Nat} {nx nx' : Nat} {inr ro : Option Nat} (h : InR ω nx inr ro) (E : ExtR w oC oL ω nx w' oC' oL' ω' nx') : InR ω' nx' inr ro := by
  cases inr <;> cases ro <;> first | exact h | exact ⟨Nat.lt_of_lt_of_le h.1 E.nxle, (E.om _ h.1).trans h.2⟩
/-- What is asked of the ways out. -/
def Outs (C : Cfg) (B : Nat → Prop) (w : World) (oC oL : Nat → Prop) (ω : Nat → Option Nat) (nx : Nat) (k : Ex → St → Bool) (Q : Exit → Act → World → Prop) : Prop :=
  ∀ e st' a' w' oC' oL' ω' out, Sim C w' B oC' oL' ω' st' a' → ExtR w oC oL ω nx w' oC' oL' ω' st'.m.nx → k e st' = true → OutIs w' B oC' oL' ω' st'.m.nx e out → Q out a' w'
/-- The way of going on is right. -/
def RunOk (C : Cfg) (go : RunF Bool) : Prop := ∀ (inr : Option Nat) (code : Code) (st : St) (k : Ex → St → Bool) (w : World) (B oC oL : Nat → Prop) (ω : Nat → Option Nat) (a : Act) (Q : Exit → Act → World → Prop) (ro : Option Nat),
  go inr none code st k false = true → Sim C w B oC oL ω st a → InR ω st.m.nx inr ro → Outs C B w oC oL ω st.m.nx k Q → code.wpIn (Fr ro) 0 C.P Q a w

theorem resKs_congr {st st' : St} (h1 : st.tmps = st'.tmps) (h2 : st.m.heap = st'.m.heap) : ∀ (rs : List ResultVar) (k : List AV → Bool), resKs C st rs k false = resKs C st' rs k false
  | [], k => rfl
  | r :: rs, k => by
    have e1 : ∀ k', resK1 C st r k' false = resK1 C st' r k' false := fun k' => by unfold resK1; rw [h1, h2]
    simp only [resKs]
    rw [e1]
    congr 1
    funext v
    exact resKs_congr h1 h2 rs _
theorem resK_congr {st st' : St} (h1 : st.tmps = st'.tmps) (h2 : st.m.heap = st'.m.heap) (fn : Func) (k : AV → Bool) : resK C fn st k false = resK C fn st' k false := resKs_congr h1 h2 _ _

theorem pad_rep {w : World} {B own : Nat → Prop} {ω : Nat → Option Nat} {nx : Nat} {args : List AV} {us : Array Value} (hr : RepL w B own ω nx args us) (n : Nat) : RepL w B own ω nx (padL args n) (us ++ Array.replicate (n - us.size) undef) := by
  unfold padL
  rw [← hr.1]
  refine RepL.append hr (repL_of (by simp) (fun j x v hx hv => ?_))
  rw [List.getElem?_replicate] at hx
  rw [Array.getElem?_replicate] at hv
  split at hx
  · rename_i hj
    rw [if_pos hj] at hv
    rw [← Option.some.inj hx, ← Option.some.inj hv]
    exact .tup _ _ _ rfl (fun i hi => absurd hi (Nat.not_lt_zero _))
  · cases hx

/-- An activation that returns. -/
theorem leave_ret {w : World} {B oC oL : Nat → Prop} {ω : Nat → Option Nat} {st : St} {a : Act} {fn : Func} {k : AV → Loops → Bool} {R : Ending → World → Prop} (S : Sim C w B oC oL ω st a)
    (hk : closeK st.ds st.m.lp (fun lp => resK C fn st (fun v => k v lp) false) false = true)
    (hR : ∀ v u lp' w', k v lp' = true → MemSim C w' B oC oL ω ⟨st.m.heap, st.m.nx, lp'⟩ → ExtR w oC oL ω st.m.nx w' oC oL ω st.m.nx → Rep w' (Or2 B oL) oC ω st.m.nx v u → R (.returned u) w') :
    LeavesInM (Fr none) 0 C.P fn a.tmps R a.defers .returning w := by
  refine leaves_marks (u := .returning) (by simp) (heap := st.m.heap) (tm := st.tmps) st.ds a.defers st.m.lp _ w hk S.dn S.ms S.tm (fun w' lp' M E ht hk' => ?_)
  rw [resK_congr (st := st) (st' := ⟨st.tmps, [], ⟨st.m.heap, st.m.nx, lp'⟩⟩) rfl rfl] at hk'
  have S' : Sim C w' B oC oL ω ⟨st.tmps, [], ⟨st.m.heap, st.m.nx, lp'⟩⟩ { tmps := a.tmps, defers := [] } := ⟨ht, trivial, M⟩
  obtain ⟨v, u, h1, h2, h3⟩ := resK_sound S' hk'
  exact ⟨u, h1, hR v u lp' w' h3 M E h2⟩

/-- A function walked apart. -/
theorem stand_sound (hC : C.Ok) {go : RunF Bool} (hgo : RunOk C go) : StandOk C (standK C go false) := fun fn c f args k hfn hb hk => by
  intro w us bad hg gb bl hr
  refine (callsIn_calls (ro := none) (n := 0)).1 (callsIn_of_wp_marks hfn hb trivial ?_ rfl)
  unfold standK at hk
  have H0 : Hp w (Or2 bad (fun _ => False)) (fun _ => False) (fun _ => none) 0 [] := ⟨fun id hb h => (by cases h), fun i j b h => (by cases h), fun b (h : False) => h.elim⟩
  have M0 : MemSim C w bad (fun _ => False) (fun _ => False) (fun _ => none) ⟨[], 0, []⟩ := ⟨H0, ⟨fun id e h => (by cases h), fun i j l h => (by cases h), fun l (h : False) => h.elim⟩, hg, fun g cells h => ⟨fun h => h, fun h => h, gb g cells h⟩, bl⟩
  have hl : RepL w (Or2 bad (fun _ => False)) (fun _ => False) (fun _ => none) 0 (padL args fn.ntmps) (us ++ Array.replicate (fn.ntmps - us.size) undef) :=
    (pad_rep hr fn.ntmps).other fun b h1 h2 => ⟨h1, fun h => h.elim h2 (fun h => h)⟩
  refine hgo none c ⟨padL args fn.ntmps, [], ⟨[], 0, []⟩⟩ _ w bad (fun _ => False) (fun _ => False) (fun _ => none) _ _ none hk ⟨hl, trivial, M0⟩ trivial (fun e st' a' w' oC' oL' ω' out S' E hk' ho => ?_)
  have fin : closeK st'.ds st'.m.lp (fun _ => resK C fn st' (fun v => freezeK st'.m.heap 6 v k false) false) false = true → LeavesInM (Fr none) 0 C.P fn a'.tmps (fun e w' => ∃ v u, e = .returned u ∧ k v = true ∧ Still w w' ∧ Rep w' bad (fun _ => False) (fun _ => none) 0 v u) a'.defers .returning w' := fun hk' => by
    refine leave_ret (k := fun v _ => freezeK st'.m.heap 6 v k false) S' hk' (fun v u lp' w2 h1 M E2 hr2 => ?_)
    have hE := E.trans E2
    have hown : ∀ b, oC' b → ¬ Or2 bad oL' b := fun b ho hbad => by
      rcases hbad with hbad | hbad
      · rcases hE.owns b (.inl ho) with h | h
        · exact h.elim (fun h => h) (fun h => h)
        · have := bl b hbad; omega
      · exact (M.lp.dis b hbad).2 ho
    obtain ⟨v', h3, h4⟩ := freezeK_sound M.hp hown 6 v k h1
    refine ⟨v', u, rfl, h3, ⟨hE.os, hE.tape, hE.output, hE.size, fun b hb _ => hE.old b hb (fun h => h.elim (fun h => h) (fun h => h)), fun _ h => .inl h, Nat.le_refl _, fun _ _ => rfl, hE.row⟩, ?_⟩
    exact (h4 u hr2).other fun b _ h2 => ⟨fun h => h, fun h => h2 (.inl h)⟩
  cases e with
  | ret => subst ho; exact fin hk'
  | normal => subst ho; exact fin hk'
  | exit id => cases hk'
  | goto l => cases hk'
  | panic v => cases hk'

theorem setAll_rep {w : World} {B own : Nat → Prop} {ω : Nat → Option Nat} {nx : Nat} : ∀ (ps : List Nat) (vs : List AV) (us : List Value) (tmps : List AV) (arr : Array Value), RepL w B own ω nx tmps arr → vs.length = us.length → (∀ (j : Nat) (v : AV) (u : Value), vs[j]? = some v → us[j]? = some u → Rep w B own ω nx v u) →
    RepL w B own ω nx (setAll tmps ps vs) ((ps.zip us).foldl (fun tmps (t, a) => tmps.setIfInBounds t a) arr)
  | [], vs, us, tmps, arr, h, hl, hv => by cases vs <;> exact h
  | p :: ps, [], us, tmps, arr, h, hl, hv => by
    cases us with
    | nil => exact h
    | cons u us => cases hl
  | p :: ps, v :: vs, [], tmps, arr, h, hl, hv => by cases hl
  | p :: ps, v :: vs, u :: us, tmps, arr, h, hl, hv =>
    setAll_rep ps vs us _ _ (h.set p (hv 0 v u rfl rfl)) (by simpa using hl) (fun j v u h1 h2 => hv (j + 1) v u h1 h2)

theorem zip_foldl (ps : Array Nat) (us : Array Value) (arr : Array Value) : ((ps.zip us).foldl (fun tmps (t, a) => tmps.setIfInBounds t a) arr) = ((ps.toList.zip us.toList).foldl (fun tmps (t, a) => tmps.setIfInBounds t a) arr) := by
  rw [← Array.foldl_toList, Array.toList_zip]

set_option maxHeartbeats 1000000 in
/-- The way of calls is right. -/
theorem call_sound (hC : C.Ok) {go : RunF Bool} (hgo : RunOk C go) : CallOk C (callR C go false) := by
  intro t args m kk kp w B oC oL ω us hk M hr
  cases t with
  | fn f =>
    simp only [callR] at hk
    split at hk
    · rename_i F hX
      obtain ⟨h1, h2⟩ := hC.inpl f F hX args m kk w B oC oL ω us hk M hr
      refine ⟨h1, h2.mono fun e w' he => ?_⟩
      rcases he with he | ⟨v, u, m', oC', oL', ω', he, hf, _⟩
      · exact .inl he
      · cases hf
    obtain ⟨fn, c, hfn, hb, hor⟩ := floatK_sound hC (stand_sound hC hgo) M hr hk
    refine ⟨call_in hC hfn hb us w, ?_⟩
    rcases hor with hk | hc
    · refine callsIn_of_wp_marks hfn hb trivial ?_ rfl
      refine hgo none c ⟨padL args fn.ntmps, [], m⟩ _ w B oC oL ω _ _ none hk ⟨pad_rep hr fn.ntmps, trivial, M⟩ trivial (fun e st' a' w' oC' oL' ω' out S' E hk' ho => ?_)
      have fin : closeK st'.ds st'.m.lp (fun lp => resK C fn st' (fun v => kk v ⟨st'.m.heap, st'.m.nx, lp⟩) false) false = true → LeavesInM (Fr none) 0 C.P fn a'.tmps (CallEnd C w B oC oL ω m.nx kk kp) a'.defers .returning w' := fun hk' =>
        leave_ret (k := fun v lp => kk v ⟨st'.m.heap, st'.m.nx, lp⟩) S' hk' (fun v u lp' w2 h1 M2 E2 hr2 => .inl ⟨v, u, _, oC', oL', ω', rfl, h1, E.trans E2, M2, hr2⟩)
      cases e with
      | ret => subst ho; exact fin hk'
      | normal => subst ho; exact fin hk'
      | exit id => cases hk'
      | goto l => cases hk'
      | panic v =>
        obtain ⟨u, rfl, hu⟩ := ho
        refine leaves_marks (u := .panicking _) (by simp) (heap := st'.m.heap) (tm := v :: st'.tmps) (arr := #[u] ++ a'.tmps) st'.ds a'.defers st'.m.lp _ w' hk' S'.dn S'.ms (RepL.append (cs := [v]) (a := #[u]) ⟨rfl, fun i hi => match i, hi with | 0, _ => hu⟩ S'.tm) (fun w2 lp' M2 E2 ht hk2 => ?_)
        exact .inr ⟨v, u, _, oC', oL', ω', rfl, hk2, E.trans E2, M2, ht.at (j := 0) rfl (by rw [Array.getElem?_append_left (by simp)]; rfl)⟩
    · refine hc.mono fun e w' he => ?_
      obtain ⟨v, u, rfl, hv, E, hr'⟩ := he
      exact .inl ⟨v, u, m, oC, oL, ω, rfl, hv, Still.ext E, M.still E, hr'.extR (nx' := m.nx) ExtR.refl⟩
  | yld id =>
    intro l hl
    simp only [callR] at hk
    split at hk
    · rename_i tmps params assign body d hid
      obtain ⟨hlen, hk⟩ := of_cond hk
      obtain ⟨g1, l', g2, g3, g4⟩ := M.lp.rel id _ hid
      rw [hl] at g2; cases g2
      obtain ⟨r, r1, r2, r3, r4, r5, r6, r7, r8, r9, r10⟩ := g4
      have hsz : us.size = r.params.size := by rw [← hr.1, of_beq hlen, ← r6, Array.length_toList]
      refine ⟨_, _, _, _, run_yield r1 hsz, fun ro => roundIn_of_wpIn (F := Fr ro) trivial ?_⟩
      subst r7 r8
      have ht : RepL w (Or2 B oL) oC ω m.nx (setAll tmps params args) ((r.params.zip us).foldl (fun tmps (t, a) => tmps.setIfInBounds t a) r.tmps) := by
        rw [zip_foldl, r6]
        exact setAll_rep params args us.toList tmps r.tmps r5 (by rw [Array.length_toList]; exact hr.1) (fun j v u h1 h2 => hr.at h1 (by rw [← Array.getElem?_toList]; exact h2))
      refine hgo (some id) r.assign ⟨setAll tmps params args, [], m⟩ _ w B oC oL ω { tmps := _, defers := [] } _ (some l) hk ⟨ht, trivial, M⟩ ⟨g1, hl⟩ (fun e st1 a1 w1 oC1 oL1 ω1 out S1 E1 hk1 ho => ?_)
      cases e with
      | exit id => cases hk1
      | goto l => cases hk1
      | ret => cases hk1
      | panic v => cases hk1
      | normal =>
        subst ho
        simp only at hk1
        split at hk1
        · rename_i tm1 ps1 as1 bo1 d1 hid1
          obtain ⟨k1, l1, k2, k3, k4⟩ := S1.ms.lp.rel id _ hid1
          rw [E1.om id g1, hl] at k2; cases k2
          obtain ⟨q, q1, q2, q3, q4, q5, q6, q7, q8, q9, q10⟩ := k4
          have hω1 : ω1 id = some l := (E1.om id g1).trans hl
          obtain ⟨M2, E2⟩ := S1.ms.setL hid1 hω1 (.loop { q with state := .busy }) (e' := .lop 1 none tm1 ps1 as1 bo1 d1)
            ⟨{ q with state := .busy }, World.putObj_heap_same (S1.ms.lp.dis l k3).1, rfl, q3, q4, q5.extR (ExtR.put k3 (LbIs.noCells (e := .lop 0 none tm1 ps1 as1 bo1 d1) ⟨q, q1, q2, q3, q4, q5, q6, q7, q8, q9, q10⟩) _), q6, q7, q8, q9, q10⟩
          refine ⟨_, run_beginRound q1 q2, ?_⟩
          refine hgo (some id) r.body ⟨st1.tmps, st1.ds, _⟩ _ _ B oC1 oL1 ω1 a1 _ (some l) hk1 ⟨S1.tm.extR E2, S1.dn.extR E2, M2⟩ ⟨k1, hω1⟩ (fun e st2 a2 w2 oC2 oL2 ω2 out S2 E3 hk2 ho => ?_)
          split at hk2
          · rename_i s2 p2 tm2 ps2 as2 bo2 d2 b s j hid2 hend
            obtain ⟨x1, l2, x2, x3, x4⟩ := S2.ms.lp.rel id _ hid2
            have hω2 : ω2 id = some l := (E3.om id k1).trans hω1
            rw [hω2] at x2; cases x2
            obtain ⟨y, y1, y2, y3, y4, y5, y6, y7, y8, y9, y10⟩ := x4
            have done : ∀ (jump : Option Code) (b : Bool) (s : Nat) (j : Option Ex), jump.isNone = b → (if jump.isNone then LoopState.ready else LoopState.done) = stOf s → j.bind codeOf = jump → (∀ e, j = some e → (codeOf e).isSome = true) →
                kk (.bool b) ⟨st2.m.heap, st2.m.nx, lpset st2.m.lp id (.lop s j tm2 ps2 as2 bo2 d2)⟩ = true → ∃ v w', (Instr.endRound l jump).run C.P w2 = .ok v w' ∧ CallEnd C w B oC oL ω m.nx kk kp (.returned v) w' := fun jump b s j h1 h2 h3 h4 h5 => by
              obtain ⟨M3, E4⟩ := S2.ms.setL hid2 hω2 (.loop { y with state := if jump.isNone then .ready else .done, pending := jump }) (e' := .lop s j tm2 ps2 as2 bo2 d2)
                ⟨{ y with state := if jump.isNone then .ready else .done, pending := jump }, World.putObj_heap_same (S2.ms.lp.dis l x3).1, h2, h3.symm, h4, y5.extR (ExtR.put x3 (LbIs.noCells (e := .lop s2 p2 tm2 ps2 as2 bo2 d2) ⟨y, y1, y2, y3, y4, y5, y6, y7, y8, y9, y10⟩) _), y6, y7, y8, y9, y10⟩
              refine ⟨_, _, run_endRound jump y1, .inl ⟨.bool b, _, _, oC2, oL2, ω2, rfl, h5, ((E1.trans E2).trans E3).trans E4, M3, ?_⟩⟩
              rw [h1]
              exact .bool _ _
            cases e with
            | normal => subst ho; cases hend; exact done none true 0 none rfl rfl rfl (fun e h => by cases h) hk2
            | ret => subst ho; cases hend; exact done (some .ret) false 2 (some .ret) rfl rfl rfl (fun e h => by cases h; rfl) hk2
            | exit i => subst ho; cases hend; exact done (some (.exit i)) false 2 (some (.exit i)) rfl rfl rfl (fun e h => by cases h; rfl) hk2
            | goto i => subst ho; cases hend; exact done (some (.goto i)) false 2 (some (.goto i)) rfl rfl rfl (fun e h => by cases h; rfl) hk2
            | panic v => cases hend
          · cases hk2
        · cases hk1
    · cases hk
end
end Go.Bas
