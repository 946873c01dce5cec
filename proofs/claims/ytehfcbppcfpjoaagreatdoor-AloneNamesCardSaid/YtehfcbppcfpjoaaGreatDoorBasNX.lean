/- The engine, part X: a region whose order is drawn; a loop over a function begins and ends. -/
import Derived.Test.YtehfcbppcfpjoaaGreatDoorBasNW
namespace Go.Bas
open Go.RowKit
set_option linter.unusedSimpArgs false
set_option linter.unusedVariables false

section
variable {C : Cfg}

theorem call_false (C : Cfg) (n : Nat) (t : Tgt) (args : List AV) (m : Mem) : callR C (run C n) false t args m (fun _ _ => false) (fun _ _ => false) = false :=
  (callR_nat (f := fun _ : Unit => false) (run_nat C n) C () t args m (fun _ _ => ()) (fun _ _ => ())).symm
theorem opD_det (C : Cfg) (n : Nat) (tmps : List AV) (m : Mem) (ai : Nat) (o : Oper) : Det (fun k => opD C (standK C (run C n) false) (callR C (run C n) false) tmps m ai o k false) :=
  det_of_nat (o := opD C (standK C (run C n) none) (callR C (run C n) none) tmps m ai o some none) fun k => by
    have h := (opD_nat (f := fun o : Option Rc => match o with | some a => k a | none => false) (standK_nat (run_nat C n) C none) (callR_nat (run_nat C n) C none) C tmps m ai o some none).symm
    refine Eq.trans ?_ (h.trans ?_)
    · rfl
    · cases opD C (standK C (run C n) none) (callR C (run C n) none) tmps m ai o some none <;> rfl

/-- Numbers are kept for what a region will make. -/
theorem MemSim.keep {w : World} {B oC oL : Nat → Prop} {ω : Nat → Option Nat} {m : Mem} (M : MemSim C w B oC oL ω m) (k : Nat) : MemSim C w B oC oL (fun i => if i < m.nx then ω i else none) ⟨m.heap, m.nx + k, m.lp⟩ ∧
    (∀ n v u, n ≤ m.nx → Rep w (Or2 B oL) oC ω n v u → ∀ n', n ≤ n' → Rep w (Or2 B oL) oC (fun i => if i < m.nx then ω i else none) n' v u) := by
  have rep : ∀ n v u, n ≤ m.nx → Rep w (Or2 B oL) oC ω n v u → ∀ n', n ≤ n' → Rep w (Or2 B oL) oC (fun i => if i < m.nx then ω i else none) n' v u := fun n v u hn h n' hn' =>
    h.mono (Nat.le_refl _) (fun _ _ h1 h2 => ⟨rfl, h1, h2⟩) (fun id b hi hb => ⟨by omega, (if_pos (by omega)).trans hb⟩) (fun _ _ h => h)
  refine ⟨⟨⟨fun id x hx => ?_, fun i j b hi hj h1 h2 => ?_, M.hp.ob⟩, ⟨fun id e he => ?_, fun i j l hi hj h1 h2 => ?_, M.lp.dis⟩, M.gl, M.gb, M.bl⟩, rep⟩
  · obtain ⟨h1, b, arr, h2, h3, h4, h5, h6⟩ := M.hp.rel id x hx
    refine ⟨by show id < m.nx + k; omega, b, arr, (if_pos h1).trans h2, h3, h4, h5, fun i hi => ?_⟩
    have := h6 i hi
    cases hp : x.pure with
    | true => rw [hp] at this; exact rep 0 _ _ (Nat.zero_le _) this 0 (Nat.le_refl _)
    | false => rw [hp] at this; exact rep _ _ _ (Nat.le_refl _) this _ (by simp)
  · obtain ⟨x, hx⟩ := Option.isSome_iff_exists.1 hi
    obtain ⟨y, hy⟩ := Option.isSome_iff_exists.1 hj
    have a1 := (M.hp.rel i x hx).1
    have a2 := (M.hp.rel j y hy).1
    simp only [a1, a2, if_true] at h1 h2
    exact M.hp.inj i j b hi hj h1 h2
  · obtain ⟨h1, l, h2, h3, h4⟩ := M.lp.rel id e he
    refine ⟨by show id < m.nx + k; omega, l, (if_pos h1).trans h2, h3, ?_⟩
    cases e with
    | dfb => exact h4
    | obj o => exact h4
    | lop s pend tmps params assign body d =>
      obtain ⟨r, r1, r2, r3, r4, r5, r6, r7, r8, r9, r10⟩ := h4
      exact ⟨r, r1, r2, r3, r4, ⟨r5.1, fun i hi => rep _ _ _ (Nat.le_refl _) (r5.2 i hi) _ (by simp)⟩, r6, r7, r8, by show d < m.nx + k; omega, (if_pos r9).trans r10⟩
  · obtain ⟨x, hx⟩ := Option.isSome_iff_exists.1 hi
    obtain ⟨y, hy⟩ := Option.isSome_iff_exists.1 hj
    have a1 := (M.lp.rel i x hx).1
    have a2 := (M.lp.rel j y hy).1
    simp only [a1, a2, if_true] at h1 h2
    exact M.lp.inj i j l hi hj h1 h2
theorem Marks.keep {ω : Nat → Option Nat} {nx k : Nat} : ∀ {ds : List Nat} {xs : List Deferred}, Marks ω nx ds xs → Marks (fun i => if i < nx then ω i else none) (nx + k) ds xs
  | [], [], _ => trivial
  | d :: ds, x :: xs, h => ⟨⟨by have := h.1.1; omega, let ⟨r, h1, h2⟩ := h.1.2; ⟨r, (if_pos h.1.1).trans h1, h2⟩⟩, Marks.keep h.2⟩
  | [], _ :: _, h => h.elim
  | _ :: _, [], h => h.elim

theorem draw_any (hC : C.Ok) {n : Nat} (hgo : RunOk C (run C n)) {ro : Option Nat} {ops : Array Oper} {st : St} {k : St → Bool} {w : World} {B oC oL : Nat → Prop} {ω : Nat → Option Nat} {a : Act} {Q : Exit → Act → World → Prop}
    (hk : drawK C (standK C (run C n) false) (callR C (run C n) false) ops st.m.nx (st.m.nx + newCount ops.toList) ops.toList ⟨st.tmps, st.ds, ⟨st.m.heap, st.m.nx + newCount ops.toList, st.m.lp⟩⟩ st.m.nx [] k false = true)
    (S : Sim C w B oC oL ω st a) (hQ : ∀ st' a' w' oC' oL' ω', Sim C w' B oC' oL' ω' st' a' → ExtR w oC oL ω st.m.nx w' oC' oL' ω' st'.m.nx → k st' = true → Q .normal a' w') : wpAnyIn (Fr ro) 0 C.P .any ops Q ops.size (Array.replicate ops.size false) a { w with drawn := w.drawn + 1 } := by
  obtain ⟨rs, h1, h2, h3, h4⟩ := trace_of (opD_det C n) _ _ _ _ hk
  have E0 := Still.drew w
  have M1 := S.ms.still E0
  obtain ⟨M2, rep⟩ := M1.keep (newCount ops.toList)
  have S2 : Sim C { w with drawn := w.drawn + 1 } B oC oL (fun i => if i < st.m.nx then ω i else none) ⟨st.tmps, st.ds, ⟨st.m.heap, st.m.nx + newCount ops.toList, st.m.lp⟩⟩ a :=
    ⟨⟨S.tm.1, fun i hi => rep _ _ _ (Nat.le_refl _) ((S.tm.2 i hi).ext E0.ext) _ (by simp)⟩, S.dn.keep, M2⟩
  have hL : ∀ j, (Array.replicate ops.size false).getD j false = false := fun j => by
    rw [Array.getD_eq_getD_getElem?, Array.getElem?_replicate]
    split <;> rfl
  refine any_sound hC (stand_sound hC hgo) (call_sound hC hgo) (call_false C n) (rs := rs) (nx0 := st.m.nx) (hi := st.m.nx + newCount ops.toList) (by simpa using h1) (fun j o ho => h4 j o (by rw [Array.getElem?_toList]; exact ho)) (by simpa using h2) (w0 := { w with drawn := w.drawn + 1 }) (oC0 := oC) (oL0 := oL) (ω0 := fun i => if i < st.m.nx then ω i else none)
    (fun a' w' oC' oL' ω' S' E' hn => hQ _ a' w' oC' oL' ω' S' ?_ h3) ops.size _ a _ oC oL _ _ ?_ (by simp) (fun j o _ h => by rw [hL] at h; cases h) ?_ S2 ExtR.refl (fun i j hb rc hr he _ => ?_) (Nat.le_refl _) (by omega)
  · have E1 : ExtR w oC oL ω st.m.nx w' oC' oL' ω' st.m.nx := Ext.trans (Still.ext E0) ⟨E'.os, E'.tape, E'.output, E'.size, E'.old, E'.owns, Nat.le_refl _, fun i hi => (E'.om i hi).trans (if_pos hi), E'.row⟩
    exact Ext.raise E1 (by omega)
  · simp only [left]
    refine Nat.le_trans (List.length_filter_le _ _) (by simp)
  · have := sAt_ext (L := fun i => (Array.replicate ops.size false).getD i false) (L' := fun x => Nat.blt x (0 + 0)) rs 0 ⟨st.tmps, st.ds, ⟨st.m.heap, st.m.nx + newCount ops.toList, st.m.lp⟩⟩ (fun j _ => by
      rw [hL]
      cases hb : Nat.blt j (0 + 0) with
      | false => rfl
      | true => have := Nat.le_of_ble_eq_true hb; omega)
    rw [this, sAt_pre]
    exact StEq.refl _
  · simp only [okRcs, Bool.and_eq_true] at h2
    have := List.all_eq_true.1 h2.1.2.2 i (List.mem_flatMap.2 ⟨rc, by simpa using getRc_mem hr, by rw [he]; exact List.mem_singleton_self _⟩)
    simp only [Bool.and_eq_true] at this
    have := of_ble this.1
    exact if_neg (by omega)

theorem draw_sound (hC : C.Ok) {n : Nat} (hgo : RunOk C (run C n)) {ro : Option Nat} {ops : Array Oper} {id : Nat} {st : St} {k : St → Bool} {w : World} {B oC oL : Nat → Prop} {ω : Nat → Option Nat} {a : Act} {Q : Exit → Act → World → Prop}
    (hk : drawK C (standK C (run C n) false) (callR C (run C n) false) ops st.m.nx (st.m.nx + newCount ops.toList) ops.toList ⟨st.tmps, st.ds, ⟨st.m.heap, st.m.nx + newCount ops.toList, st.m.lp⟩⟩ st.m.nx [] k false = true)
    (S : Sim C w B oC oL ω st a) (hQ : ∀ st' a' w' oC' oL' ω', Sim C w' B oC' oL' ω' st' a' → ExtR w oC oL ω st.m.nx w' oC' oL' ω' st'.m.nx → k st' = true → Q .normal a' w') : (Code.region id ops true).wpIn (Fr ro) 0 C.P Q a w := wpIn_region_any hC.mixed (draw_any hC hgo hk S hQ)

/-- How a region's end goes on by one more operation. -/
def lastQ (ro : Option Nat) (P : Program) (ops : Array Oper) (m : Nat) (Q : Exit → Act → World → Prop) : Exit → Act → World → Prop
  | .normal, a, w => wpOpIn (Fr ro) 0 P ops Q m (Q .normal) a w
  | e, a, w => Q e a w
theorem wpOp_last {ro : Option Nat} {P : Program} {ops : Array Oper} {m : Nat} {Q : Exit → Act → World → Prop} {i : Nat} {K K' : Act → World → Prop} {a : Act} {w : World} (he : ops.pop[i]? = ops[i]?) (hy : ∀ o, ops[i]? = some o → Region.wanted o (yielded ops.pop a.tmps) = Region.wanted o (yielded ops a.tmps))
    (hK : ∀ a w, K a w → K' a w) (h : wpOpIn (Fr ro) 0 P ops.pop (lastQ ro P ops m Q) i K a w) : wpOpIn (Fr ro) 0 P ops Q i K' a w := by
  unfold wpOpIn at h ⊢
  rw [he] at h
  cases ho : ops[i]? with
  | none => rw [ho] at h; exact hK _ _ h
  | some o =>
    rw [ho] at h
    simp only at h ⊢
    rw [hy o ho] at h
    split
    · rename_i hw
      rw [if_pos hw] at h
      unfold Oper.wpIn at h ⊢
      refine ⟨h.1, ?_⟩
      have hh := h.2
      generalize (o.semAt (Fr ro).round a.eval).run P w = r at hh ⊢
      cases r with
      | ok x w' =>
        cases x <;> simp only [Oper.uponIn] at hh ⊢ <;>
          first
            | exact hK _ _ hh
            | exact ⟨hh.1, CallsIn.mono hh.2 (fun e w'' he => by cases e <;> first | exact hK _ _ he | exact he)⟩
            | exact ⟨hh.1, RowsIn.mono hh.2 (fun _ _ he => hK _ _ he)⟩
            | exact ⟨hh.1, RoundIn.mono hh.2 (fun e w'' he => by cases e <;> first | exact hK _ _ he | exact he)⟩
      | halt x w' => cases x <;> simp only [Oper.uponIn] at hh ⊢ <;> exact hh
    · rename_i hw
      rw [if_neg hw] at h
      exact ⟨h.1, hK _ _ h.2⟩
theorem getD_push {listed : Array Bool} (i : Nat) : (listed.push false).getD i false = listed.getD i false := by
  rw [Array.getD_eq_getD_getElem?, Array.getD_eq_getD_getElem?, Array.getElem?_push]
  split
  · rename_i h
    subst h
    simp
  · rfl
theorem any_last {ro : Option Nat} {P : Program} {ops : Array Oper} {Q : Exit → Act → World → Prop} {m : Nat} {ol : Oper} (hm : ops.size = m + 1) (hol : ops[m]? = some ol)
    (back : ∀ i o, ops[i]? = some o → ∀ e ∈ o.after, Region.binds .any e = true → e.on < i) (bef : ∀ i, i < m → befB ops ops.size i m = true)
    (gd : ∀ i o, i < m → ops[i]? = some o → ∀ j b, o.guard = some (j, b) → j < m) :
    ∀ (fuel : Nat) (listed : Array Bool) (a : Act) (w : World), listed.size = m →
      (∀ j o, ops[j]? = some o → listed.getD j false = true → ∀ e ∈ o.after, Region.binds .any e = true → listed.getD e.on false = true) →
      wpAnyIn (Fr ro) 0 P .any ops.pop (lastQ ro P ops m Q) fuel listed a w → wpAnyIn (Fr ro) 0 P .any ops Q (fuel + 1) (listed.push false) a w := by
  have pop : ∀ i, i < m → ops.pop[i]? = ops[i]? := fun i hi => by
    rw [Array.getElem?_pop, if_pos (by omega)]
  have lt : ∀ (L : Array Bool) (i : Nat), L.size = m → i < m → (L.push false).getD i true = L.getD i true := fun L i hL hi => by
    rw [Array.getD_eq_getD_getElem?, Array.getD_eq_getD_getElem?, Array.getElem?_push, if_neg (by omega)]
  have tf : ∀ (L : Array Bool) (i : Nat), L.getD i false = true → L.getD i true = true := fun L i h => by
    rw [Array.getD_eq_getD_getElem?] at h ⊢
    cases hx : L[i]? with
    | none => rw [hx] at h; cases h
    | some b => rw [hx] at h; exact h
  have rdy : ∀ (L : Array Bool) (i : Nat), L.size = m → i < m → (i ∈ Region.ready .any ops (L.push false) ↔ i ∈ Region.ready .any ops.pop L) := fun L i hL hi => by
    rw [mem_ready, mem_ready, pop i hi, lt L i hL hi]
    simp only [getD_push]
  have all_of_nil : ∀ (L : Array Bool), L.size = m → Region.ready .any ops.pop L = [] → ∀ i, i < m → L.getD i false = true := fun L hL hr i => by
    induction i using Nat.strongRecOn with
    | ind i ih =>
      intro hi
      cases hli : L.getD i false with
      | true => rfl
      | false =>
        have hio : i < ops.size := by omega
        have hmem : i ∈ Region.ready .any ops.pop L := mem_ready.2 ⟨getD_both' hL hi hli, ops[i], by rw [pop i hi]; exact Array.getElem?_eq_getElem hio, fun e he hb =>
          ih e.on (back i _ (Array.getElem?_eq_getElem hio) e he hb) (by have := back i _ (Array.getElem?_eq_getElem hio) e he hb; omega)⟩
        rw [hr] at hmem
        cases hmem
  have last_ready : ∀ (L : Array Bool), L.size = m → (∀ i, i < m → L.getD i false = true) → m ∈ Region.ready .any ops (L.push false) := fun L hL h =>
    mem_ready.2 ⟨by rw [Array.getD_eq_getD_getElem?, Array.getElem?_push, if_pos hL.symm]; rfl, ol, hol, fun e he hb => by rw [getD_push]; exact h _ (back m ol hol e he hb)⟩
  have nil_of_last : ∀ (L : Array Bool), L.size = m → (∀ j o, ops[j]? = some o → L.getD j false = true → ∀ e ∈ o.after, Region.binds .any e = true → L.getD e.on false = true) →
      m ∈ Region.ready .any ops (L.push false) → Region.ready .any ops.pop L = [] := fun L hL hcl h => by
    obtain ⟨_, o, ho, hed⟩ := mem_ready.1 h
    have hed' : ∀ e ∈ o.after, Region.binds .any e = true → L.getD e.on false = true := fun e he hb => by have := hed e he hb; rwa [getD_push] at this
    have all : ∀ i, i < m → L.getD i false = true := fun i hi => befB_listed (L := fun i => L.getD i false) hcl ops.size i m o ho hed' (bef i hi)
    refine List.eq_nil_iff_forall_not_mem.2 fun j hj => ?_
    obtain ⟨h1, oj, h2, _⟩ := mem_ready.1 hj
    have hjm : j < m := by
      have := (Array.getElem?_eq_some_iff.1 h2).1
      simp at this
      omega
    rw [tf L j (all j hjm)] at h1
    cases h1
  have full : ∀ (L : Array Bool), L.size = m → (∀ i, i < m → L.getD i false = true) → Region.ready .any ops ((L.push false).setIfInBounds m true) = [] := fun L hL h => by
    refine List.eq_nil_iff_forall_not_mem.2 fun j hj => ?_
    obtain ⟨h1, oj, h2, _⟩ := mem_ready.1 hj
    have hjs := (Array.getElem?_eq_some_iff.1 h2).1
    rw [Array.getD_eq_getD_getElem?, Array.getElem?_setIfInBounds] at h1
    split at h1
    · rename_i hmj
      rw [if_pos (by simp; omega)] at h1
      cases h1
    · rename_i hmj
      have hjm : j < m := by omega
      rw [Array.getElem?_push, if_neg (by omega)] at h1
      have := tf L j (h j hjm)
      rw [Array.getD_eq_getD_getElem?] at this
      rw [this] at h1
      cases h1
  have setp : ∀ (L : Array Bool) (i : Nat), L.size = m → i < m → (L.push false).setIfInBounds i true = (L.setIfInBounds i true).push false := fun L i hL hi => by
    refine Array.ext_getElem? fun j => ?_
    rw [Array.getElem?_setIfInBounds, Array.getElem?_push, Array.getElem?_push, Array.getElem?_setIfInBounds]
    by_cases hij : i = j
    · subst hij
      rw [if_pos rfl, if_pos (by rw [Array.size_push]; omega), if_neg (by rw [Array.size_setIfInBounds]; omega), if_pos rfl, if_pos (by omega)]
    · simp [hij, hL]
  have hy : ∀ (i : Nat) (a : Act), i < m → ∀ o, ops[i]? = some o → Region.wanted o (yielded ops.pop a.tmps) = Region.wanted o (yielded ops a.tmps) := fun i a hi o ho => by
    unfold Region.wanted
    cases hg : o.guard with
    | none => rfl
    | some p =>
      obtain ⟨j, b⟩ := p
      simp only
      unfold yielded
      rw [pop j (gd i o hi ho j b hg)]
  intro fuel
  induction fuel with
  | zero =>
    intro L a w hL hcl h
    obtain ⟨h1, h2⟩ := h
    have all := all_of_nil L hL h1
    refine ⟨fun hr => ?_, fun i hi => ?_⟩
    · have := last_ready L hL all
      rw [hr] at this
      cases this
    · by_cases him : i < m
      · have := (rdy L i hL him).1 hi
        rw [h1] at this
        cases this
      · have hie : i = m := by
          obtain ⟨_, oj, h3, _⟩ := mem_ready.1 hi
          have := (Array.getElem?_eq_some_iff.1 h3).1
          omega
        subst hie
        exact wpOpIn_mono (fun a w hq => ⟨full L hL all, hq⟩) h2
  | succ fuel ih =>
    intro L a w hL hcl h
    obtain ⟨h1, h2⟩ := h
    refine ⟨fun hr => ?_, fun i hi => ?_⟩
    · have hn : Region.ready .any ops.pop L = [] := List.eq_nil_iff_forall_not_mem.2 fun j hj => by
        have hjm : j < m := by
          obtain ⟨_, oj, h3, _⟩ := mem_ready.1 hj
          have := (Array.getElem?_eq_some_iff.1 h3).1
          simp at this
          omega
        have := (rdy L j hL hjm).2 hj
        rw [hr] at this
        cases this
      have := last_ready L hL (all_of_nil L hL hn)
      rw [hr] at this
      cases this
    · by_cases him : i < m
      · have hi' := (rdy L i hL him).1 hi
        obtain ⟨_, o, ho, hed⟩ := mem_ready.1 hi'
        rw [pop i him] at ho
        refine wpOp_last (pop i him) (hy i a him) (fun a w hk => ?_) (h2 i hi')
        rw [setp L i hL him]
        refine ih (L.setIfInBounds i true) a w (by simpa using hL) (fun j oj hoj hj e he hb => ?_) hk
        have mono : ∀ x, L.getD x false = true → (L.setIfInBounds i true).getD x false = true := fun x hx => by
          rw [Array.getD_eq_getD_getElem?, Array.getElem?_setIfInBounds]
          rw [Array.getD_eq_getD_getElem?] at hx
          split
          · rw [if_pos (by omega)]; rfl
          · exact hx
        by_cases hji : j = i
        · subst hji
          rw [ho] at hoj
          cases hoj
          exact mono _ (hed e he hb)
        · refine mono _ (hcl j oj hoj ?_ e he hb)
          rw [Array.getD_eq_getD_getElem?, Array.getElem?_setIfInBounds, if_neg (fun h => hji h.symm)] at hj
          rw [Array.getD_eq_getD_getElem?]
          exact hj
      · have hie : i = m := by
          obtain ⟨_, oj, h3, _⟩ := mem_ready.1 hi
          have := (Array.getElem?_eq_some_iff.1 h3).1
          omega
        subst hie
        have hn := nil_of_last L hL hcl hi
        exact wpOpIn_mono (fun a w hq => ⟨fun _ => hq, fun j hj => by rw [full L hL (all_of_nil L hL hn)] at hj; cases hj⟩) (h1 hn)
theorem draw_last (hC : C.Ok) {n : Nat} (hgo : RunOk C (run C n)) {ro : Option Nat} {ops : Array Oper} {id : Nat} {st : St} {k : St → Bool} {kp : AV → St → Bool} {w : World} {B oC oL : Nat → Prop} {ω : Nat → Option Nat} {a : Act} {Q : Exit → Act → World → Prop} (hl : lastB C.P ops = true)
    (hk : drawK C (standK C (run C n) false) (callR C (run C n) false) ops.pop st.m.nx (st.m.nx + newCount ops.pop.toList) ops.pop.toList ⟨st.tmps, st.ds, ⟨st.m.heap, st.m.nx + newCount ops.pop.toList, st.m.lp⟩⟩ st.m.nx []
      (fun st' => opsK C (callR C (run C n) false) ops (ops.toList.drop (ops.size - 1)) st' k kp false) false = true)
    (S : Sim C w B oC oL ω st a) (hQ : ∀ st' a' w' oC' oL' ω', Sim C w' B oC' oL' ω' st' a' → ExtR w oC oL ω st.m.nx w' oC' oL' ω' st'.m.nx → k st' = true → Q .normal a' w')
    (hP : ∀ v u st' a' w' oC' oL' ω', Sim C w' B oC' oL' ω' st' a' → ExtR w oC oL ω st.m.nx w' oC' oL' ω' st'.m.nx → kp v st' = true → Rep w' (Or2 B oL') oC' ω' st'.m.nx v u → Q (.panic [{ v := u, recovered := false }]) a' w') : (Code.region id ops true).wpIn (Fr ro) 0 C.P Q a w := by
  unfold lastB at hl
  split at hl
  · rename_i ol hol
    obtain ⟨_, hl⟩ := of_cond hl
    split at hl
    · obtain ⟨_, hl⟩ := of_cond hl
      simp only [Bool.and_eq_true, List.all_eq_true] at hl
      obtain ⟨hbef, hback, hgd⟩ := hl
      obtain ⟨m, hm⟩ : ∃ m, ops.size = m + 1 := by
        cases hs : ops.size with
        | zero =>
          have : ops = #[] := Array.eq_empty_of_size_eq_zero hs
          rw [this] at hol
          cases hol
        | succ m => exact ⟨m, rfl⟩
      have hm1 : ops.size - 1 = m := by omega
      rw [hm1] at hbef hgd hk
      have hlast : ops[m]? = some ol := by
        rw [Array.back?_eq_getElem?, hm1] at hol
        exact hol
      refine wpIn_region_any hC.mixed ?_
      have A := draw_any (Q := lastQ ro C.P ops m Q) (ro := ro) hC hgo hk S (fun st' a' w' oC' oL' ω' S' E hk' => by
        have := ops_sound (ro := ro) (Q := Q) (ops := ops) (call_sound hC hgo) (mapOk C) (ops.toList.drop m) m rfl st' a' w' oC' oL' ω' hk' S' (fun st2 a2 w2 oC2 oL2 ω2 S2 E2 h2 => hQ st2 a2 w2 oC2 oL2 ω2 S2 (E.trans E2) h2)
          (fun v u st2 a2 w2 oC2 oL2 ω2 S2 E2 h2 h3 => hP v u st2 a2 w2 oC2 oL2 ω2 S2 (E.trans E2) h2 h3)
        have hlen : (ops.toList.drop m).length = 1 := by simp; omega
        rw [hlen] at this
        show wpOpIn (Fr ro) 0 C.P ops Q m (Q .normal) a' w'
        rw [show List.range' m 1 = [m] from rfl, wpOpsIn_cons] at this
        exact this)
      have hps : ops.pop.size = m := by simp; omega
      rw [hps] at A
      have := any_last (ro := ro) (P := C.P) (Q := Q) hm hlast (fun i o ho e he hb => by
        have := hback i (List.mem_range.2 (Array.getElem?_eq_some_iff.1 ho).1)
        rw [ho] at this
        have := List.all_eq_true.1 this e (Array.mem_toList_iff.2 he)
        rw [hb] at this
        simp only [Bool.not_true, Bool.false_or] at this
        exact Nat.le_of_ble_eq_true this) (fun i hi => hbef i (List.mem_range.2 hi)) (fun i o hi ho j b hg => by
        have hpi : ops.pop[i]? = some o := by rw [Array.getElem?_pop, if_pos (by omega)]; exact ho
        have := hgd o (Array.mem_toList_iff.2 (Array.mem_of_getElem? hpi))
        rw [hg] at this
        exact Nat.le_of_ble_eq_true this) m (Array.replicate m false) a _ (by simp) (fun j o _ h => by
          rw [Array.getD_eq_getD_getElem?, Array.getElem?_replicate] at h
          split at h <;> cases h) A
      rw [hm]
      rw [show Array.replicate (m + 1) false = (Array.replicate m false).push false from by rw [Array.replicate_succ]]
      exact this
    · cases hl
  · cases hl

theorem wpIn_code {ro : Option Nat} {e : Ex} {c : Code} (hc : codeOf e = some c) {Q : Exit → Act → World → Prop} {a : Act} {w : World} (hQ : ∀ out, (match e with | .normal => out = Exit.normal | .exit id => out = .exit id | .goto l => out = .goto l | .ret => out = .ret | .panic _ => False) → Q out a w) : c.wpIn (Fr ro) 0 C.P Q a w := by
  cases e <;> cases hc
  · exact wpIn_exit (hQ _ rfl)
  · exact wpIn_goto (hQ _ rfl)
  · exact wpIn_ret (hQ _ rfl)

theorem ExtR.add {w : World} {oC oL : Nat → Prop} {ω : Nat → Option Nat} {nx : Nat} (o : Obj) : ExtR w oC oL ω nx (w.alloc o) oC (fun x => oL x ∨ x = w.heap.size) (fun i => if i = nx then some w.heap.size else ω i) (nx + 1) := by
  refine ⟨rfl, rfl, rfl, by simp, fun b hb _ => heap_alloc_old w o hb, fun b hb => ?_, by omega, fun id hi => if_neg (by omega), fun b n hr => ?_⟩
  · rcases hb with hb | hb | rfl
    · exact .inl (.inl hb)
    · exact .inl (.inr hb)
    · exact .inr (Nat.le_refl _)
  · have hlt := rowSize_lt hr
    simp only [rowSize, heap_alloc_old w o hlt] at hr ⊢
    exact hr
/-- A loop's record is laid. -/
theorem MemSim.addLoop {w : World} {B oC oL : Nat → Prop} {ω : Nat → Option Nat} {m : Mem} (M : MemSim C w B oC oL ω m) {tmps : List AV} {arr : Array Value} (ht : RepL w (Or2 B oL) oC ω m.nx tmps arr) (fn : FuncId) (params : Array Tmp) (assign body : Code) {d D : Nat} (hd : d < m.nx) (hD : ω d = some D) :
    MemSim C (w.alloc (.loop { state := .ready, pending := none, fn := fn, tmps := arr, params := params, assign := assign, body := body, defers := D })) B oC (fun x => oL x ∨ x = w.heap.size) (fun i => if i = m.nx then some w.heap.size else ω i) ⟨m.heap, m.nx + 1, (m.nx, .lop 0 none tmps params.toList assign body d) :: m.lp⟩ :=
  (M.addL (.loop { state := .ready, pending := none, fn := fn, tmps := arr, params := params, assign := assign, body := body, defers := D }) (.lop 0 none tmps params.toList assign body d) (fun c t f h => by cases h) ⟨_, heap_alloc_new w _, rfl, rfl, fun e h => (by cases h), ht.extR (ExtR.add _), rfl, rfl, rfl, by show d < m.nx + 1; omega, (if_neg (by show ¬ d = m.nx; omega)).trans hD⟩).1

/-- A loop over a function begins. -/
theorem loop_enter {w : World} {B oC oL : Nat → Prop} {ω : Nat → Option Nat} {st : St} {a : Act} {inr ro : Option Nat} {params : Array Tmp} {assign body : Code} {K : Nat → List Nat → Mem → Bool} (S : Sim C w B oC oL ω st a) (hI : InR ω st.m.nx inr ro)
    (hk : loopM inr st params.toList assign body K false = true) (fn : FuncId) :
    ∃ (l : Nat) (mark : List Deferred) (w1 : World) (oL1 : Nat → Prop) (ω1 : Nat → Option Nat) (id : Nat) (ds : List Nat) (m : Mem), (Instr.enterLoop fn a.tmps params assign body ro).run C.P w = .ok (l, mark) w1 ∧ MemSim C w1 B oC oL1 ω1 m ∧ ExtR w oC oL ω st.m.nx w1 oC oL1 ω1 m.nx ∧
      id < m.nx ∧ ω1 id = some l ∧ Marks ω1 m.nx ds (mark ++ a.defers) ∧ K id ds m = true := by
  unfold loopM at hk
  cases inr with
  | none =>
    cases ro with
    | some l => exact hI.elim
    | none =>
      simp only at hk
      obtain ⟨M1, E1⟩ := S.ms.addL (.deferred (some [])) .dfb (fun c t f h => by cases h) (heap_alloc_new w _)
      have M2 := M1.addLoop (S.tm.extR E1) fn params assign body (d := st.m.nx) (D := w.heap.size) (by show st.m.nx < st.m.nx + 1; omega) (if_pos rfl)
      have E2 := E1.trans (ExtR.add (.loop { state := .ready, pending := none, fn := fn, tmps := a.tmps, params := params, assign := assign, body := body, defers := w.heap.size }))
      refine ⟨_, _, _, _, _, _, _, _, run_enterLoop_outer fn a.tmps params assign body, M2, E2, (by show st.m.nx + 1 < st.m.nx + 1 + 1; omega), ?_, ?_, hk⟩
      · rw [if_pos rfl, World.size_alloc]
      · exact ⟨⟨by show st.m.nx < st.m.nx + 1 + 1; omega, _, (if_neg (by show ¬ st.m.nx = st.m.nx + 1; omega)).trans (if_pos rfl), rfl⟩, S.dn.extR E2⟩
  | some id0 =>
    cases ro with
    | none => exact hI.elim
    | some l0 =>
      simp only at hk
      split at hk
      · rename_i s0 p0 tm0 ps0 as0 bo0 d0 hlp0
        obtain ⟨x1, l2, x2, x3, x4⟩ := S.ms.lp.rel id0 _ hlp0
        rw [hI.2] at x2; cases x2
        obtain ⟨y, y1, y2, y3, y4, y5, y6, y7, y8, y9, y10⟩ := x4
        have M1 := S.ms.addLoop S.tm fn params assign body y9 y10
        have E1 : ExtR w oC oL ω st.m.nx _ oC _ _ (st.m.nx + 1) := ExtR.add (.loop { state := .ready, pending := none, fn := fn, tmps := a.tmps, params := params, assign := assign, body := body, defers := y.defers })
        exact ⟨_, _, _, _, _, _, _, _, run_enterLoop_inner y1 fn a.tmps params assign body, M1, E1, (by show st.m.nx < st.m.nx + 1; omega), if_pos rfl, S.dn.extR E1, hk⟩
      · cases hk

/-- What follows a loop over a function. -/
def afterK (C : Cfg) (st : St) (k : Ex → St → Bool) (id : Nat) (ds : List Nat) (m' : Mem) : Bool := match lpget m'.lp id with
  | some (.lop s pend _ _ _ _ _) => cond (Nat.beq s 1) false (k (match pend with | none => .normal | some e => e) ⟨st.tmps, ds, ⟨m'.heap, m'.nx, lpdel m'.lp id⟩⟩)
  | _ => false

theorem range_post {w w1 w' : World} {B oC oL oC1 oL1 : Nat → Prop} {ω ω1 : Nat → Option Nat} {st : St} {a : Act} {ro : Option Nat} {k : Ex → St → Bool} {Q : Exit → Act → World → Prop} (S : Sim C w B oC oL ω st a) (hQ : Outs C B w oC oL ω st.m.nx k Q)
    {l id : Nat} {mark : List Deferred} {ds : List Nat} {m : Mem} (E1 : ExtR w oC oL ω st.m.nx w1 oC1 oL1 ω1 m.nx) (hid : id < m.nx) (hω : ω1 id = some l) (hm : Marks ω1 m.nx ds (mark ++ a.defers)) {e : Ending}
    (he : CallEnd C w1 B oC1 oL1 ω1 m.nx (fun _ m' => afterK C st k id ds m') (fun v m' => k (.panic v) ⟨st.tmps, ds, m'⟩) e w') : rangePost (Fr ro) 0 C.P l Q { a with defers := mark ++ a.defers } e w' := by
  rcases he with ⟨v, u, m', oC', oL', ω', rfl, k1, k2, k3, k4⟩ | ⟨v, u, m', oC', oL', ω', rfl, k1, k2, k3, k4⟩
  · replace k1 : afterK C st k id ds m' = true := k1
    unfold afterK at k1
    split at k1
    · rename_i s pend tm ps as bo d hlp
      rcases of_cond2 k1 with ⟨_, hf⟩ | ⟨hs, k1⟩
      · cases hf
      · obtain ⟨x1, l2, x2, x3, x4⟩ := k3.lp.rel id _ hlp
        have hω' : ω' id = some l := (k2.om id hid).trans hω
        rw [hω'] at x2; cases x2
        obtain ⟨y, y1, y2, y3, y4, _⟩ := x4
        have hne : y.state ≠ .busy := by
          rw [y2]
          match s, hs with
          | 0, _ => simp [stOf]
          | 1, hs => cases hs
          | s + 2, _ => simp [stOf]
        obtain ⟨M2, E2⟩ := k3.delL hlp hω' (.loop { y with state := .exhausted })
        have E3 := E1.trans (k2.trans E2)
        have S3 : Sim C (w'.putObj l (.loop { y with state := .exhausted })) B oC' oL' ω' ⟨st.tmps, ds, ⟨m'.heap, m'.nx, lpdel m'.lp id⟩⟩ { a with defers := mark ++ a.defers } := ⟨S.tm.extR E3, hm.extR (k2.trans E2), M2⟩
        have e2 := run_endLoop (P := C.P) y1 hne
        generalize w'.putObj l (.loop { y with state := .exhausted }) = w2 at e2 S3 E3
        refine ⟨y.pending, w2, e2, ?_⟩
        rw [y3]
        cases pend with
        | none => exact hQ .normal _ _ _ _ _ _ _ S3 E3 k1 rfl
        | some e =>
          obtain ⟨c, hc⟩ := Option.isSome_iff_exists.1 (y4 e rfl)
          simp only [Option.bind_some, hc]
          refine wpIn_code hc (fun out ho => hQ e _ _ _ _ _ _ out S3 E3 k1 ?_)
          cases e <;> first | exact ho | exact ho.elim
    · cases k1
  · have E3 := E1.trans k2
    exact hQ (.panic v) ⟨st.tmps, ds, m'⟩ { a with defers := mark ++ a.defers } w' oC' oL' ω' _ ⟨S.tm.extR E3, hm.extR k2, k3⟩ E3 k1 ⟨u, rfl, k4⟩
end
end Go.Bas
