/- The engine, part S: loops over functions in the memory; calls that stand apart; activations that leave. -/
import Derived.Test.YtehfcbppcfpjoaaGreatDoorBasNR
import Derived.RangeFuncRecord
import Derived.RangeFuncNested
import Derived.MapKept
namespace Go.Bas
open Go.RowKit
set_option linter.unusedSimpArgs false
set_option linter.unusedVariables false

theorem lpget_set (h : Loops) (id j : Nat) (x : LB) : lpget (lpset h id x) j = if j = id then (lpget h id).map (fun _ => x) else lpget h j := by
  induction h with
  | nil => simp [lpset, lpget]
  | cons a r ih =>
    obtain ⟨i, b⟩ := a
    simp only [lpset]
    cases hi : Nat.beq i id with
    | true =>
      have hi' := (beq_iff i id).1 hi
      subst hi'
      simp only [cond_true, lpget]
      by_cases hj : j = i
      · subst hj; simp
      · have : Nat.beq i j = false := by
          cases h : Nat.beq i j with
          | false => rfl
          | true => exact absurd ((beq_iff i j).1 h).symm hj
        simp [this, hj]
    | false =>
      simp only [cond_false, lpget]
      cases hj : Nat.beq i j with
      | true =>
        have hj' := (beq_iff i j).1 hj
        subst hj'
        have hne : ¬ i = id := fun e => by subst e; rw [hi] at hj; cases hj
        simp [hne]
      | false => simp only [cond_false, ih, hi]
theorem lpget_del (h : Loops) (id j : Nat) : lpget (lpdel h id) j = if j = id then none else lpget h j := by
  induction h with
  | nil => simp [lpdel, lpget]
  | cons a r ih =>
    obtain ⟨i, b⟩ := a
    simp only [lpdel]
    cases hi : Nat.beq i id with
    | true =>
      have hi' := (beq_iff i id).1 hi
      subst hi'
      simp only [cond_true, ih, lpget]
      by_cases hj : j = i
      · simp [hj]
      · have : Nat.beq i j = false := by
          cases h : Nat.beq i j with
          | false => rfl
          | true => exact absurd ((beq_iff i j).1 h).symm hj
        simp [this, hj]
    | false =>
      simp only [cond_false, lpget, ih]
      cases hj : Nat.beq i j with
      | true =>
        have hj' := (beq_iff i j).1 hj
        subst hj'
        have hne : ¬ i = id := fun e => by subst e; rw [hi] at hj; cases hj
        simp [hne]
      | false => simp

section
variable {C : Cfg} {w w' : World} {B oC oL oC' oL' : Nat → Prop} {ω ω' : Nat → Option Nat} {nx nx' : Nat}

theorem LbIs.extR {l : Nat} {e : LB} (h : LbIs w (Or2 B oL) oC ω nx l e) (hl : w'.heap[l]? = w.heap[l]?) (E : ExtR w oC oL ω nx w' oC' oL' ω' nx') : LbIs w' (Or2 B oL') oC' ω' nx' l e := by
  cases e with
  | obj o => exact ⟨hl.trans h.1, h.2⟩
  | dfb => exact hl.trans h
  | lop s pend tmps params assign body d =>
    obtain ⟨r, h1, h2, h3, h4, h5, h6, h7, h8, h9, h10⟩ := h
    exact ⟨r, hl.trans h1, h2, h3, h4, h5.extR E, h6, h7, h8, Nat.lt_of_lt_of_le h9 E.nxle, (E.om _ h9).trans h10⟩

/-- No row of cells. -/
def NoCells (w : World) (l : Nat) : Prop := ∀ c e f, w.heap[l]? ≠ some (.cells c e f)
theorem LbIs.noCells {l : Nat} {e : LB} (h : LbIs w B oC ω nx l e) : NoCells w l := fun c t f hh => by
  cases e with
  | obj o => obtain ⟨h1, h2⟩ := h; rw [hh] at h1; exact h2 _ _ _ (Option.some.inj h1).symm
  | dfb => simp only [LbIs] at h; rw [hh] at h; cases h
  | lop s pend tmps params assign body d => obtain ⟨r, h1, _⟩ := h; rw [hh] at h1; cases h1
theorem putObj_row {l b n : Nat} (o : Obj) (hn : NoCells w l) (hr : rowSize w b = some n) : rowSize (w.putObj l o) b = some n := by
  have hne : b ≠ l := fun e => by
    subst e
    unfold rowSize at hr
    split at hr
    · rename_i c e f hh
      exact hn _ _ _ hh
    · cases hr
  simp only [rowSize, World.putObj_heap_other hne] at hr ⊢
  exact hr
theorem ExtR.put {l : Nat} (hl : oL l) (hn : NoCells w l) (o : Obj) : ExtR w oC oL ω nx (w.putObj l o) oC oL ω nx :=
  ⟨rfl, rfl, rfl, by simp, fun b _ hb => World.putObj_heap_other (fun e => hb (by subst e; exact .inr hl)), fun _ h => .inl h, Nat.le_refl _, fun _ _ => rfl, fun b n hr => putObj_row o hn hr⟩
/-- One of the loops' blocks is turned. -/
theorem MemSim.putL {m : Mem} (M : MemSim C w B oC oL ω m) {l : Nat} (hl : oL l) (hn : NoCells w l) (o : Obj) {lp' : Loops}
    (hrel : ∀ id e, lpget lp' id = some e → id < m.nx ∧ ∃ l', ω id = some l' ∧ oL l' ∧ LbIs (w.putObj l o) (Or2 B oL) oC ω m.nx l' e)
    (hsub : ∀ id, (lpget lp' id).isSome = true → (lpget m.lp id).isSome = true) : MemSim C (w.putObj l o) B oC oL ω ⟨m.heap, m.nx, lp'⟩ := by
  have E : ExtR w oC oL ω m.nx (w.putObj l o) oC oL ω m.nx := ExtR.put hl hn o
  refine ⟨⟨fun id x hx => ?_, M.hp.inj, fun b hb => by simpa using M.hp.ob b hb⟩, ⟨hrel, fun i j l hi hj => M.lp.inj i j l (hsub i hi) (hsub j hj), fun l' hl' => ⟨by simpa using (M.lp.dis l' hl').1, (M.lp.dis l' hl').2⟩⟩,
    (M.gl.ext (B' := B) (own := Or2 oC oL) (fun g cells h => (fun hh => hh.elim (M.gb g cells h).1 (M.gb g cells h).2.1)) E).1, M.gb, fun b hb => by simpa using M.bl b hb⟩
  obtain ⟨h1, b, arr, h2, h3, h4, h5, h6⟩ := M.hp.rel id x hx
  have hne : b ≠ l := fun e => by subst e; exact (M.lp.dis b hl).2 h3
  refine ⟨h1, b, arr, h2, h3, (World.putObj_heap_other hne).trans h4, h5, fun i hi => ?_⟩
  have := h6 i hi
  cases hp : x.pure with
  | true => rw [hp] at this; exact this.extR0 E
  | false => rw [hp] at this; exact this.extR E
/-- What the other loops are stays. -/
theorem LpOk.put {m : Mem} (M : MemSim C w B oC oL ω m) {l : Nat} (hl : oL l) (hn : NoCells w l) (o : Obj) {id0 : Nat} {e0 : LB} (h0 : lpget m.lp id0 = some e0) (hω : ω id0 = some l) :
    ∀ id e, id ≠ id0 → lpget m.lp id = some e → id < m.nx ∧ ∃ l', ω id = some l' ∧ oL l' ∧ LbIs (w.putObj l o) (Or2 B oL) oC ω m.nx l' e := fun id e hne he => by
  obtain ⟨h1, l', h2, h3, h4⟩ := M.lp.rel id e he
  have hll : l' ≠ l := fun e' => by
    subst e'
    exact hne (M.lp.inj id id0 l' (by rw [he]; rfl) (by rw [h0]; rfl) h2 hω)
  exact ⟨h1, l', h2, h3, h4.extR (World.putObj_heap_other hll) (ExtR.put hl hn o)⟩
/-- A loop's entry is turned. -/
theorem MemSim.setL {m : Mem} (M : MemSim C w B oC oL ω m) {id l : Nat} {e e' : LB} (hid : lpget m.lp id = some e) (hω : ω id = some l) (o : Obj) (h' : LbIs (w.putObj l o) (Or2 B oL) oC ω m.nx l e') :
    MemSim C (w.putObj l o) B oC oL ω ⟨m.heap, m.nx, lpset m.lp id e'⟩ ∧ ExtR w oC oL ω m.nx (w.putObj l o) oC oL ω m.nx := by
  obtain ⟨h1, l', h2, h3, h4⟩ := M.lp.rel id e hid
  rw [hω] at h2; cases h2
  refine ⟨M.putL h3 h4.noCells o (fun j x hx => ?_) (fun j hj => ?_), ExtR.put h3 h4.noCells o⟩
  · rw [lpget_set] at hx
    split at hx
    · rename_i hj
      subst hj
      rw [hid] at hx
      simp only [Option.map_some, Option.some.injEq] at hx
      subst hx
      exact ⟨h1, l, hω, h3, h'⟩
    · rename_i hj
      exact LpOk.put M h3 h4.noCells o hid hω j x hj hx
  · rw [lpget_set] at hj
    split at hj
    · rename_i e; subst e; rw [hid]; rfl
    · exact hj
/-- A loop's entry is struck. -/
theorem MemSim.delL {m : Mem} (M : MemSim C w B oC oL ω m) {id l : Nat} {e : LB} (hid : lpget m.lp id = some e) (hω : ω id = some l) (o : Obj) :
    MemSim C (w.putObj l o) B oC oL ω ⟨m.heap, m.nx, lpdel m.lp id⟩ ∧ ExtR w oC oL ω m.nx (w.putObj l o) oC oL ω m.nx := by
  obtain ⟨h1, l', h2, h3, h4⟩ := M.lp.rel id e hid
  rw [hω] at h2; cases h2
  refine ⟨M.putL h3 h4.noCells o (fun j x hx => ?_) (fun j hj => ?_), ExtR.put h3 h4.noCells o⟩
  · rw [lpget_del] at hx
    split at hx
    · cases hx
    · rename_i hj
      exact LpOk.put M h3 h4.noCells o hid hω j x hj hx
  · rw [lpget_del] at hj
    split at hj
    · cases hj
    · exact hj
/-- A loop's block is laid. -/
theorem MemSim.addL {m : Mem} (M : MemSim C w B oC oL ω m) (o : Obj) (e : LB) (hrow : ∀ c t f, o ≠ .cells c t f)
    (h' : LbIs (w.alloc o) (Or2 B (fun x => oL x ∨ x = w.heap.size)) oC (fun i => if i = m.nx then some w.heap.size else ω i) (m.nx + 1) w.heap.size e) :
    MemSim C (w.alloc o) B oC (fun x => oL x ∨ x = w.heap.size) (fun i => if i = m.nx then some w.heap.size else ω i) ⟨m.heap, m.nx + 1, (m.nx, e) :: m.lp⟩ ∧
    ExtR w oC oL ω m.nx (w.alloc o) oC (fun x => oL x ∨ x = w.heap.size) (fun i => if i = m.nx then some w.heap.size else ω i) (m.nx + 1) := by
  have E : ExtR w oC oL ω m.nx (w.alloc o) oC (fun x => oL x ∨ x = w.heap.size) (fun i => if i = m.nx then some w.heap.size else ω i) (m.nx + 1) := by
    refine ⟨rfl, rfl, rfl, by simp, fun b hb _ => heap_alloc_old w o hb, fun b hb => ?_, by omega, fun id hi => if_neg (by omega), fun b n hr => ?_⟩
    · rcases hb with hb | hb | rfl
      · exact .inl (.inl hb)
      · exact .inl (.inr hb)
      · exact .inr (Nat.le_refl _)
    · have hlt := rowSize_lt hr
      simp only [rowSize, heap_alloc_old w o hlt] at hr ⊢
      exact hr
  refine ⟨⟨⟨fun id x hx => ?_, fun i j b hi hj h1 h2 => ?_, fun b hb => by have := M.hp.ob b hb; simp; omega⟩, ⟨fun id x hx => ?_, fun i j l hi hj h1 h2 => ?_, fun l hl => ?_⟩,
    (M.gl.ext (B' := B) (own := Or2 oC oL) (fun g cells h => (fun hh => hh.elim (M.gb g cells h).1 (M.gb g cells h).2.1)) E).1, fun g cells h => ?_, fun b hb => by have := M.bl b hb; simp; omega⟩, E⟩
  · obtain ⟨h1, b, arr, h2, h3, h4, h5, h6⟩ := M.hp.rel id x hx
    refine ⟨by show id < m.nx + 1; omega, b, arr, by rw [if_neg (by omega)]; exact h2, h3, (heap_alloc_old w o (M.hp.ob b h3)).trans h4, h5, fun i hi => ?_⟩
    have := h6 i hi
    cases hp : x.pure with
    | true => rw [hp] at this; exact this.extR0 E
    | false => rw [hp] at this; exact this.extR E
  · obtain ⟨x, hx⟩ := Option.isSome_iff_exists.1 hi
    obtain ⟨y, hy⟩ := Option.isSome_iff_exists.1 hj
    have a1 := (M.hp.rel i x hx).1
    have a2 := (M.hp.rel j y hy).1
    rw [if_neg (by omega)] at h1 h2
    exact M.hp.inj i j b hi hj h1 h2
  · simp only [lpget] at hx
    cases he : Nat.beq m.nx id with
    | true =>
      have := of_beq he
      subst this
      simp only [he, cond_true, Option.some.injEq] at hx
      subst hx
      exact ⟨by show m.nx < m.nx + 1; omega, _, if_pos rfl, .inr rfl, h'⟩
    | false =>
      simp only [he, cond_false] at hx
      obtain ⟨h1, l, h2, h3, h4⟩ := M.lp.rel id x hx
      exact ⟨by show id < m.nx + 1; omega, l, by rw [if_neg (by omega)]; exact h2, .inl h3, h4.extR (heap_alloc_old w o (M.lp.dis l h3).1) E⟩
  · have key : ∀ i, (lpget ((m.nx, e) :: m.lp) i).isSome = true → (if i = m.nx then some w.heap.size else ω i) = some l → (i = m.nx ∧ l = w.heap.size) ∨ (i ≠ m.nx ∧ (lpget m.lp i).isSome = true ∧ ω i = some l ∧ l < w.heap.size) := fun i hi hl => by
      by_cases hne : i = m.nx
      · subst hne
        rw [if_pos rfl] at hl
        exact .inl ⟨rfl, (Option.some.inj hl).symm⟩
      · rw [if_neg hne] at hl
        simp only [lpget] at hi
        have hb : Nat.beq m.nx i = false := by
          cases hb : Nat.beq m.nx i with
          | false => rfl
          | true => exact absurd (of_beq hb).symm hne
        rw [hb] at hi
        simp only [cond_false] at hi
        obtain ⟨x, hx⟩ := Option.isSome_iff_exists.1 hi
        obtain ⟨_, l', g2, g3, _⟩ := M.lp.rel i x hx
        rw [hl] at g2; cases g2
        exact .inr ⟨hne, hi, hl, (M.lp.dis l g3).1⟩
    rcases key i hi h1 with ⟨a1, a2⟩ | ⟨a1, a2, a3, a4⟩ <;> rcases key j hj h2 with ⟨b1, b2⟩ | ⟨b1, b2, b3, b4⟩
    · omega
    · omega
    · omega
    · exact M.lp.inj i j l a2 b2 a3 b3
  · rcases hl with hl | rfl
    · exact ⟨by have := (M.lp.dis l hl).1; simp; omega, (M.lp.dis l hl).2⟩
    · exact ⟨by simp, fun h => by have := M.hp.ob _ h; omega⟩
  · obtain ⟨h1, h2, h3⟩ := M.gb g cells h
    exact ⟨h1, fun hh => hh.elim h2 (fun e => by have := (M.gl g cells h).1; omega), h3⟩

/-- An activation leaves: its marks are settled. -/
theorem leaves_marks {P : Program} {fn : Func} {tmps arr : Array Value} {R : Ending → World → Prop} {u : FrameMode} (hu : u ≠ .run) {heap : Heap} {tm : List AV} : ∀ (ds : List Nat) (xs : List Deferred) (lp : Loops) (k : Loops → Bool) (w : World), closeK ds lp k false = true → Marks ω nx ds xs →
    MemSim C w B oC oL ω ⟨heap, nx, lp⟩ → RepL w (Or2 B oL) oC ω nx tm arr →
    (∀ w' lp', MemSim C w' B oC oL ω ⟨heap, nx, lp'⟩ → ExtR w oC oL ω nx w' oC oL ω nx → RepL w' (Or2 B oL) oC ω nx tm arr → k lp' = true → LeavesIn (Fr none) 0 P fn tmps R [] u w') → LeavesInM (Fr none) 0 P fn tmps R xs u w
  | [], [], lp, k, w, hk, _, M, ht, hR => hR w lp M ExtR.refl ht hk
  | d :: ds, x :: xs, lp, k, w, hk, hm, M, ht, hR => by
    simp only [closeK] at hk
    split at hk
    · rename_i hd
      obtain ⟨⟨h1, r, h2, rfl⟩, hm⟩ := hm
      obtain ⟨_, l, g2, g3, g4⟩ := M.lp.rel d _ hd
      rw [h2] at g2; cases g2
      obtain ⟨M', E⟩ := M.delL hd h2 (.deferred none)
      refine ⟨hu, .inl ⟨r, w.putObj r (.deferred none), rfl, run_takeDeferred g4, ?_⟩⟩
      exact leaves_marks hu ds xs _ k _ hk hm M' (ht.extR E) (fun w' lp' M2 E2 ht2 hk2 => hR w' lp' M2 (E.trans E2) ht2 hk2)
    · cases hk
  | [], _ :: _, _, _, _, _, h, _, _, _ => h.elim
  | _ :: _, [], _, _, _, _, h, _, _, _ => h.elim
end

/-! ### Calls that stand apart -/
section
variable {C : Cfg} {w : World} {B oC oL : Nat → Prop} {ω : Nat → Option Nat}
theorem call_in (hC : C.Ok) {f : FuncId} {fn : Func} {c : Code} (hfn : C.P.funcs[f]? = some fn) (hb : fn.body = some c) (us : Array Value) (w : World) : (callFunc f us).run C.P w = .ok (.enter f us) w := by
  have : ¬ fn.name = "runtime.NumGoroutine" := by simpa using hC.names f fn hfn
  simp [callFunc, program, hfn, this, hb, Sem.run, Result.andThen]
/-- What is walked apart is right. -/
def StandOk (C : Cfg) (stand : Func → Code → List AV → (AV → Bool) → Bool) : Prop :=
  ∀ fn c f args k, C.P.funcs[f]? = some fn → fn.body = some c → stand fn c args k = true → ACalls C.P C.G f args (fun v => k v = true)
theorem ACalls.mono {P : Program} {G : Nat → Option (List AV)} {f : FuncId} {args : List AV} {R R' : AV → Prop} (h : ∀ v, R v → R' v) (hc : ACalls P G f args R) : ACalls P G f args R' := fun w us bad hg gb bl hr =>
  (hc w us bad hg gb bl hr).mono fun _ _ ⟨v, u, he, hv, hx, hr⟩ => ⟨v, u, he, h v hv, hx, hr⟩

theorem floatK_sound (hC : C.Ok) {stand : Func → Code → List AV → (AV → Bool) → Bool} (hst : StandOk C stand) {m : Mem} (M : MemSim C w B oC oL ω m) {f : FuncId} {args : List AV} {us : Array Value} (hr : RepL w (Or2 B oL) oC ω m.nx args us)
    {k : AV → Bool} {other : Func → Code → Bool} (hk : floatK C stand f args m.heap k other false = true) :
    ∃ fn c, C.P.funcs[f]? = some fn ∧ fn.body = some c ∧ (other fn c = true ∨ CallsIn (Fr none) 0 C.P f us w (fun e w' => ∃ v u, e = .returned u ∧ k v = true ∧ Still w w' ∧ Rep w' (Or2 B oL) oC ω m.nx v u)) := by
  have near : ∀ R : AV → Prop, args.all (AV.noRef 6) = true → ACalls C.P C.G f args R → CallsIn (Fr none) 0 C.P f us w (fun e w' => ∃ v u, e = .returned u ∧ R v ∧ Still w w' ∧ Rep w' (Or2 B oL) oC ω m.nx v u) := fun R hn ha => by
    have hl : RepL w (Or2 oC (Or2 B oL)) (fun _ => False) (fun _ => none) 0 args us := ⟨hr.1, fun i hi => by
      have := ((hr.2 i hi).down (all_noRef hn i hi) 0)
      exact this.mono (Nat.le_refl _) (fun b _ ho hB => ⟨rfl, fun h => h, fun h => h.elim ho hB⟩) (fun id b hi => absurd hi (Nat.not_lt_zero _)) (fun _ _ h => h)⟩
    refine callsIn_calls.2 ((ha w us (Or2 oC (Or2 B oL)) M.gl (fun g cells h ho => ho.elim (M.gb g cells h).1 (fun hh => hh.elim (M.gb g cells h).2.2 (M.gb g cells h).2.1)) (fun b hb => hb.elim (M.hp.ob b) (fun hh => hh.elim (M.bl b) (fun hh => (M.lp.dis b hh).1))) hl).mono fun e w' hh => ?_)
    obtain ⟨v, u, rfl, hv, E, R⟩ := hh
    exact ⟨v, u, rfl, hv, E, R.mono (Nat.le_refl _) (fun b hb _ hn => ⟨rfl, fun ho => hn (.inl ho), fun h => hn (.inr h)⟩) (fun id b hi => absurd hi (Nat.not_lt_zero _)) (fun _ _ h => h)⟩
  have far : ∀ (R : AV → Prop) (args' : List AV), args'.length = args.length → (∀ (j : Nat) (a' a : AV) (u : Value), args'[j]? = some a' → args[j]? = some a → Rep w (Or2 B oL) oC ω m.nx a u → Rep w (fun _ => False) (fun _ => False) (fun _ => none) 0 a' u) →
      ACalls C.P C.G f args' (fun v => v.noMem 6 = true ∧ R v) → CallsIn (Fr none) 0 C.P f us w (fun e w' => ∃ v u, e = .returned u ∧ R v ∧ Still w w' ∧ Rep w' (Or2 B oL) oC ω m.nx v u) := fun R args' h2 h3 ha => by
    have hl : RepL w (fun _ => False) (fun _ => False) (fun _ => none) 0 args' us := rep_list hr.1 hr.2 h2 h3
    refine callsIn_calls.2 ((ha w us (fun _ => False) M.gl (fun _ _ _ h => h) (fun _ h => h.elim) hl).mono fun e w' hh => ?_)
    obtain ⟨v, u, rfl, ⟨hm, hv⟩, E, R⟩ := hh
    exact ⟨v, u, rfl, hv, E, R.noMem hm _ _ _ _ _⟩
  have views := fun (k : List AV → Bool) (h : viewsK (viewK m.heap 6) args k false = true) => viewsK_sound (Rl := fun v u => Rep w (Or2 B oL) oC ω m.nx v u) (Rl' := fun v u => Rep w (fun _ => False) (fun _ => False) (fun _ => none) 0 v u) (viewK_sound M.hp 6) args k h
  unfold floatK at hk
  split at hk
  · rename_i fn hfn
    split at hk
    · rename_i c hb
      refine ⟨fn, c, hfn, hb, ?_⟩
      split at hk
      · rename_i F hF
        refine .inr ?_
        rcases of_cond2 hk with ⟨hn, hk⟩ | ⟨_, hk⟩
        · split at hk
          · rename_i p r hFr
            obtain ⟨rfl, hk⟩ := of_cond hk
            exact near _ hn ((hC.sums f F hF args r hFr).mono fun v e => by rw [e]; exact hk)
          · cases hk
        · obtain ⟨args', h1, h2, h3⟩ := views _ hk
          split at h1
          · rename_i p r hFr
            have q1 := of_cond h1
            obtain ⟨hp, q1⟩ := q1
            have q2 := of_cond q1
            subst hp
            exact far _ args' h2 h3 ((hC.sums f F hF args' r hFr).mono fun v e => by rw [e]; exact q2)
          · cases h1
      · rcases of_cond2 hk with ⟨_, hk⟩ | ⟨_, hk⟩
        · refine .inr ?_
          rcases of_cond2 hk with ⟨hn, hk⟩ | ⟨_, hk⟩
          · exact near _ hn (hst fn c f args k hfn hb hk)
          · obtain ⟨args', h1, h2, h3⟩ := views _ hk
            exact far _ args' h2 h3 ((hst fn c f args' _ hfn hb h1).mono fun v e => of_cond e)
        · exact .inl hk
    · cases hk
  · cases hk
theorem findI_some {P : Program} {kt : TypeId} {es : Array MapEntry} {kd : IntKind} {n : Int} {r : Option (IntKind × Int)} (h : findI P kt es kd n = some r) :
    P.underlying kt = some (.int kd) ∧ ∃ a, Instr.findNow (.int kd) (.int kd n) es.toList 0 = some a ∧ a.map (·.2) = r.map fun p => .int p.1 p.2 := by
  unfold findI at h
  split at h
  · rename_i kd0 hk
    cases hb : kindEq kd kd0 with
    | false => rw [hb] at h; cases h
    | true =>
      rw [hb] at h
      have := kindEq_eq hb
      subst this
      simp only [cond_true] at h
      split at h
      · rename_i j kv v hf
        cases h
        exact ⟨hk, _, hf, rfl⟩
      · rename_i hf
        cases h
        exact ⟨hk, _, hf, rfl⟩
      · cases h
  · cases h
theorem zeroI_some {P : Program} {t : TypeId} {k : IntKind} {n : Int} {w : World} (h : zeroI P t = some (k, n)) : (zeroValue t).run P w = .ok (.int k n) w := by
  unfold zeroI at h
  split at h
  · rename_i i hi
    split at h
    · rename_i k' n' hz
      cases h
      simp [zeroValue, typeInfo, hi, hz, Sem.run, Result.andThen]
    · cases h
  · cases h
/-- What a run does with its own maps is right. -/
theorem mapOk (C : Cfg) : MapOk C := fun w B oC oL ω m ρ e o kv hk M hρ => by
  obtain ⟨dst, op, type, pos, after, guard⟩ := o
  cases op <;> simp only [mapK] at hk <;> try cases hk
  case makeMap t r =>
    cases r with
    | some x => cases hk
    | none =>
      obtain ⟨M1, E1⟩ := M.addL (.map #[] 0) (.obj (.map #[] 0)) (fun c t f h => by cases h) ⟨heap_alloc_new w _, fun c t f h => by cases h⟩
      refine ⟨.mp m.nx, .map (some w.heap.size), _, _, _, _, _, .inl ?_, hk, E1, M1, .mp _ _ _ (by show m.nx < m.nx + 1; omega) (if_pos rfl)⟩
      simp [execOp, Instr.makeMap, newObj, Sem.run, Result.andThen]
  case lookup t x ix ok =>
    split at hk
    · rename_i kt et id kd n hu hx hi
      split at hk
      · rename_i es cl kz nz hl hz
        have hxr := hρ x
        rw [hx] at hxr
        generalize hex : e x = ex at hxr
        cases hxr with
        | mp _ _ l g1 g2 =>
          have hir := hρ ix
          rw [hi] at hir
          generalize hei : e ix = ei at hir
          cases hir
          obtain ⟨a1, l', a2, a3, a4, _⟩ := M.lp.rel id _ hl
          rw [g2] at a2
          cases a2
          have run : ∀ {r : Option (IntKind × Int)}, findI C.P kt es kd n = some r → (Instr.lookup t (.map (some l)) (.int kd n) ok).run C.P w = .ok (if ok then .tuple #[.int (r.getD (kz, nz)).1 (r.getD (kz, nz)).2, .bool r.isSome] else .int (r.getD (kz, nz)).1 (r.getD (kz, nz)).2) w := fun {r} hf => by
            obtain ⟨hkt, a, ha, hr⟩ := findI_some hf
            have hc : (Instr.checkKey es.isEmpty 10000 kt (.int kd n)).run C.P w = .ok () w := MapKept.run_checkKey (k := .int kd n) hkt (by simp [MapKept.IsKey]) _ 9999
            simp only [Instr.lookup, Sem.run_bind, run_underlying hu, MapKept.run_getObj_map a4, hc, MapKept.run_findKey hkt ha, Result.andThen]
            cases a with
            | none =>
              cases r with
              | none => cases ok <;> simp [zeroI_some hz, Result.andThen, MapKept.run_getObj_map a4, hc, MapKept.run_findKey hkt ha]
              | some p => cases hr
            | some q =>
              cases r with
              | none => cases hr
              | some p =>
                obtain ⟨qi, qv⟩ := q
                simp only [Option.map_some, Option.some.injEq] at hr
                subst hr
                cases ok <;> simp [Result.andThen, MapKept.run_getObj_map a4, hc, MapKept.run_findKey hkt ha]
          have rep : ∀ (k : IntKind) (n : Int) (b : Bool), Rep w (Or2 B oL) oC ω m.nx (cond ok (.tup [.int k n, .bool b]) (.int k n)) (if ok then .tuple #[.int k n, .bool b] else .int k n) := fun k n b => by
            cases ok with
            | false => exact .int _ _ _
            | true => exact .tup _ _ _ rfl (fun i hi => match i, hi with
              | 0, _ => .int _ _ _
              | 1, _ => .bool _ _)
          have fin : ∀ {u : Value}, (Instr.lookup t (.map (some l)) (.int kd n) ok).run C.P w = .ok u w → (execOp e ⟨dst, .lookup t x ix ok, type, pos, after, guard⟩).run C.P w = .ok (.value u) w := fun h => by
            simp [execOp, hex, hei, h, Result.andThen]
          split at hk
          · rename_i kv' v' hf
            exact ⟨_, _, m, w, oC, oL, ω, .inl (fin (run hf)), hk, ExtR.refl, M, rep _ _ true⟩
          · rename_i hf
            exact ⟨_, _, m, w, oC, oL, ω, .inl (fin (run hf)), hk, ExtR.refl, M, rep _ _ false⟩
          · cases hk
      · cases hk
    · cases hk
  case mapUpdate t x kx vx =>
    split at hk
    · rename_i kt et id kd n kv' v' hu hx hi hv
      split at hk
      · rename_i es cl hl
        have hxr := hρ x
        rw [hx] at hxr
        generalize hex : e x = ex at hxr
        cases hxr with
        | mp _ _ l g1 g2 =>
          have hir := hρ kx
          rw [hi] at hir
          generalize hei : e kx = ei at hir
          cases hir
          have hvr := hρ vx
          rw [hv] at hvr
          generalize hev : e vx = ev at hvr
          cases hvr
          obtain ⟨a1, l', a2, a3, a4, _⟩ := M.lp.rel id _ hl
          rw [g2] at a2
          cases a2
          split at hk
          · rename_i hf
            obtain ⟨hkt, a, ha, hr⟩ := findI_some hf
            have ha0 : a = none := by cases a with
              | none => rfl
              | some q => cases hr
            subst ha0
            have hlt : l < w.heap.size := (M.lp.dis l a3).1
            obtain ⟨M1, E1⟩ := M.setL hl g2 (.map (es.push { key := .int kd n, val := .int kv' v', born := cl }) (cl + 1)) (e' := .obj (.map (es.push { key := .int kd n, val := .int kv' v', born := cl }) (cl + 1))) ⟨World.putObj_heap_same hlt, fun c t f h => by cases h⟩
            have hc : (Instr.checkKey false 10000 kt (.int kd n)).run C.P w = .ok () w := MapKept.run_checkKey (k := .int kd n) hkt (by simp [MapKept.IsKey]) _ 9999
            refine ⟨.tup [], undef, _, _, _, _, _, .inr ⟨?_, rfl⟩, hk, E1, M1, .tup _ _ _ rfl (fun i hi => absurd hi (Nat.not_lt_zero _))⟩
            simp [execOp, hex, hei, hev, Instr.mapUpdate, run_underlying hu, MapKept.run_getObj_map a4, hc, MapKept.run_findKey hkt ha, MapKept.run_setObj_map _ a4, Result.andThen, World.putObj]
          · cases hk
      · cases hk
    · cases hk
end
end Go.Bas
