/- The engine, part C: the operations of part B are the model's. -/
import Derived.Test.YtehfcbppcfpjoaaGreatDoorBasNB
namespace Go.Bas
open Go.RowKit
set_option linter.unusedSimpArgs false
set_option linter.unusedVariables false

theorem of_cond {b : Bool} {x : Bool} (h : cond b x false = true) : b = true ∧ x = true := by cases b <;> simp_all
theorem of_cond2 {b x y : Bool} (h : cond b x y = true) : (b = true ∧ x = true) ∨ (b = false ∧ y = true) := by cases b <;> simp_all
theorem of_condn {b x : Bool} (h : cond b false x = true) : b = false ∧ x = true := by cases b <;> simp_all
theorem of_and {a b : Bool} (h : (a && b) = true) : a = true ∧ b = true := by simpa using h
theorem of_beq {a b : Nat} (h : Nat.beq a b = true) : a = b := (beq_iff a b).1 h
theorem of_ble {a b : Nat} (h : Nat.ble a b = true) : a ≤ b := Nat.le_of_ble_eq_true h

theorem addr_add (b o j : Nat) : (⟨b, o, none⟩ : Addr).add j = ⟨b, o + j, none⟩ := by unfold Addr.add; split <;> simp_all

theorem coerce_sl {v : AV} {k : AV → Bool} (h : cond v.isL (k (.lst v.lc v.ln)) (cond v.isNils (k .nils) (cond v.isNs (k .ns) (cond v.isEs (k .es) false))) = true) : k v = true := by
  cases v <;> first | exact h | cases h
theorem coerce1_sound {c : CK} {mode : Nat} {v : AV} {k : AV → Bool} (h : coerce1 c mode v k false = true) : k v = true := by
  unfold coerce1 at h
  split at h
  · obtain ⟨h1, h2⟩ := of_cond h; rw [AV.of_isB h1]; exact h2
  · obtain ⟨h1, h2⟩ := of_cond h; rw [AV.of_isI h1]; exact h2
  · split at h
    · exact coerce_sl h
    · exact coerce_sl h
    · exact h
  · exact h
theorem loadsK_sound {mode : Nat} {cells : List AV} : ∀ {ks : List CK} {off : Nat} {k : List AV → Bool}, loadsK mode cells ks off k false = true →
    k ((List.range ks.length).map fun j => cells.getD (off + j) .any) = true
  | [], off, k, h => h
  | c :: cs, off, k, h => by
    have h1 := coerce1_sound h
    have h2 := loadsK_sound h1
    rw [lget_eq] at h2
    simp only [List.length_cons, List.range_succ_eq_map, List.map_cons, List.map_map, Nat.add_zero]
    rw [show (fun j => cells.getD (off + j) AV.any) ∘ Nat.succ = fun j => cells.getD (off + 1 + j) AV.any from funext fun j => by simp [Nat.add_assoc, Nat.add_comm 1 j]]
    exact h2

theorem lhead_eq (l : List AV) : lhead l = l.getD 0 .any := by cases l <;> rfl
theorem loadsL_sound {mode : Nat} : ∀ {ks : List CK} {l : List AV} {k : List AV → Bool}, loadsL mode ks l k false = true → k ((List.range ks.length).map fun j => l.getD j .any) = true
  | [], l, k, h => h
  | c :: cs, l, k, h => by
    have h1 := coerce1_sound h
    have h2 := loadsL_sound h1
    rw [lhead_eq] at h2
    simp only [List.length_cons, List.range_succ_eq_map, List.map_cons, List.map_map]
    have e : ((fun j => l.getD j AV.any) ∘ Nat.succ) = fun j => (ltail l).getD j AV.any := funext fun j => by cases l <;> simp [ltail]
    rw [e]
    exact h2
theorem loadsX_sound {mode : Nat} {cells : List AV} {ks : List CK} {off : Nat} {k : List AV → Bool} (h : loadsX mode cells ks off k false = true) : k ((List.range ks.length).map fun j => cells.getD (off + j) .any) = true := by
  unfold loadsX at h
  rcases of_cond2 h with ⟨_, h⟩ | ⟨_, h⟩
  · exact loadsK_sound h
  · have h2 := loadsL_sound h
    have e : (fun j => (cells.drop off).getD j AV.any) = fun j => cells.getD (off + j) AV.any := funext fun j => by
      rw [List.getD_eq_getElem?_getD, List.getD_eq_getElem?_getD, List.getElem?_drop]
    rw [e] at h2
    exact h2

/-- Cells that lie from a place on. -/
def Lies (w : World) (B : Nat → Prop) (own : Nat → Prop) (ω : Nat → Option Nat) (nx b o : Nat) (cells : List AV) : Prop :=
  ∃ vs : Nat → Value, (∀ i, i < cells.length → w.cell? ⟨b, o + i, none⟩ = some (vs i)) ∧ ∀ i (h : i < cells.length), Rep w B own ω nx cells[i] (vs i)

section
variable {w : World} {B : Nat → Prop} {own : Nat → Prop} {ω : Nat → Option Nat} {nx : Nat} {P : Program}

/-- Every cell that is there is there in the other world, and holds the same. -/
def Same (w w' : World) : Prop := ∀ a v, w.cell? a = some v → w'.cell? a = some v
theorem Same.refl (w : World) : Same w w := fun _ _ h => h

theorem loadK_sound {t : TypeId} {mode : Nat} {cells : List AV} {off b o : Nat} {k : AV → Bool} (hl : Lies w B own ω nx b o cells) (h : loadK P t mode cells off k false = true) :
    ∃ v u, (∀ w', Same w w' → (loadVar t ⟨b, o + off, none⟩).run P w' = .ok u w') ∧ Rep w B own ω nx v u ∧ k v = true := by
  obtain ⟨vs, hv, hr⟩ := hl
  unfold loadK at h
  split at h
  · rename_i i d hi hd
    obtain ⟨hk, h⟩ := of_cond h
    have hk := of_beq hk
    have hu := fun w => run_underlying hd w
    rcases of_cond2 h with ⟨ha, h⟩ | ⟨ha, h⟩
    · obtain ⟨hb, h⟩ := of_cond h
      have hb := of_ble hb
      have h2 := loadsX_sound h
      refine ⟨_, .agg ((List.range i.size).map fun j => vs (off + j)).toArray, fun w' hw => ?_, ?_, h2⟩
      · have hrun := run_loadCells (P := P) w' ⟨b, o + off, none⟩ i.size (fun j => vs (off + j)) (fun j hj => by rw [addr_add, Nat.add_assoc]; exact hw _ _ (hv _ (by omega)))
        have hag : (isAgg t).run P w' = .ok true w' := by
          unfold isAgg
          cases d <;> simp [aggD] at ha <;> simp [hu]
        simp [loadVar, hag, sizeOf, typeInfo, hi, hrun, Result.andThen]
      · refine .agg _ _ _ (by simp [hk]) (fun j hj => ?_)
        simp only [List.length_map, List.length_range, hk] at hj
        have hjl : off + j < cells.length := by omega
        have e1 : (((List.range (kindsOf i).length).map fun j => cells.getD (off + j) AV.any)[j]'(by simpa [hk] using hj)) = cells[off + j] := by simp [hjl]
        have e2 : (((List.range i.size).map fun j => vs (off + j)).toArray.getD j undef) = vs (off + j) := by simp [hj]
        rw [e1, e2]
        exact hr _ hjl
    · obtain ⟨hb, h⟩ := of_cond h
      have hb := of_ble hb
      have hlt : off < cells.length := by omega
      have hag : ∀ w, (isAgg t).run P w = .ok false w := fun w => by
        unfold isAgg
        cases d <;> simp [aggD] at ha <;> simp [hu]
      split at h
      · have h2 := coerce1_sound h
        rw [lget_eq] at h2
        have e : cells.getD off AV.any = cells[off] := by simp [hlt]
        rw [e] at h2
        refine ⟨_, vs off, fun w' hw => ?_, hr off hlt, h2⟩
        have hc := hw _ _ (hv off hlt)
        simp [loadVar, hag, load, Sem.run, hc, Result.andThen]
      · cases h
  · cases h

end

/-- The own blocks are in order. -/
structure Hp (w : World) (B : Nat → Prop) (own : Nat → Prop) (ω : Nat → Option Nat) (nx : Nat) (h : Heap) : Prop where
  rel : HRel w B own ω nx h
  inj : ∀ i j b, (hget h i).isSome = true → (hget h j).isSome = true → ω i = some b → ω j = some b → i = j
  ob : ∀ b, own b → b < w.heap.size

section
variable {w w' : World} {B : Nat → Prop} {own : Nat → Prop} {ω : Nat → Option Nat} {nx : Nat} {h h' : Heap}

theorem cond_up {w : World} {B : Nat → Prop} {own : Nat → Prop} {ω : Nat → Option Nat} {p : Bool} {nx nx' : Nat} {v : AV} {u : Value} (hr : Rep w B own ω (cond p 0 nx) v u) (hn : nx ≤ nx') : Rep w B own ω (cond p 0 nx') v u := by
  cases p
  · exact hr.up hn
  · exact hr

theorem rep_cond_ext {own' : Nat → Prop} {ω' : Nat → Option Nat} {nx' : Nat} {p : Bool} {v : AV} {u : Value} (hr : Rep w B own ω (cond p 0 nx) v u) (e : Ext w own ω nx w' own' ω' nx') : Rep w' B own' ω' (cond p 0 nx') v u := by
  cases p
  · exact hr.ext e
  · exact hr.ext0 e

/-- A block comes to the own ones under a new number. -/
theorem Hp.put (H : Hp w B own ω nx h) {b : Nat} {arr : Array Value} {hb : HB} (hos : w'.os = w.os) (htape : w'.tape = w.tape) (hout : w'.output = w.output) (hsz : w.heap.size ≤ w'.heap.size)
    (hold : ∀ k, k < w.heap.size → k ≠ b → w'.heap[k]? = w.heap[k]?) (hb' : w'.heap[b]? = some (.cells arr hb.elem (0, 0)))
    (hnew : w.heap.size ≤ b ∨ (own b ∧ ∀ j, (hget h' j).isSome = true → ω j ≠ some b)) (hrow : ∀ n, rowSize w b = some n → n = arr.size)
    (hsub : ∀ j x, hget h' j = some x → hget h j = some x) (hlen : hb.cells.length ≤ arr.size)
    (hcell : ∀ i (hi : i < hb.cells.length), Rep w B own ω (cond hb.pure 0 nx) hb.cells[i] (arr.getD i undef)) :
    Ext w own ω nx w' (fun x => own x ∨ x = b) (fun i => if i = nx then some b else ω i) (nx + 1) ∧
    Hp w' B (fun x => own x ∨ x = b) (fun i => if i = nx then some b else ω i) (nx + 1) ((nx, hb) :: h') := by
  have hblt : b < w'.heap.size := (Array.getElem?_eq_some_iff.1 hb').1
  have E : Ext w own ω nx w' (fun x => own x ∨ x = b) (fun i => if i = nx then some b else ω i) (nx + 1) := by
    refine ⟨hos, htape, hout, hsz, fun k hk hn => hold k hk (fun e => ?_), fun k hk => ?_, by omega, fun id hi => if_neg (by omega), fun k n hr => ?_⟩
    · subst e
      exact hnew.elim (fun h => by omega) (fun h => hn h.1)
    · rcases hk with hk | rfl
      · exact .inl hk
      · exact hnew.elim .inr (fun h => .inl h.1)
    · by_cases e : k = b
      · subst e
        have := hrow n hr
        simp [rowSize, hb', this]
      · have hk : k < w.heap.size := by
          rcases Nat.lt_or_ge k w.heap.size with h | h
          · exact h
          · simp [rowSize, Array.getElem?_eq_none h] at hr
        simpa [rowSize, hold k hk e] using hr
  refine ⟨E, ⟨fun id x hx => ?_, fun i j c hi hj h1 h2 => ?_, fun c hc => ?_⟩⟩
  · simp only [hget_cons] at hx
    cases he : Nat.beq nx id with
    | true =>
      have := of_beq he
      subst this
      simp only [he, cond_true, Option.some.injEq] at hx
      subst hx
      exact ⟨by omega, b, arr, by simp, .inr rfl, hb', hlen, fun i hi => rep_cond_ext (hcell i hi) E⟩
    | false =>
      simp only [he, cond_false] at hx
      have hne : id ≠ nx := fun e => by subst e; exact absurd he (by simp [(beq_iff id id).2 rfl])
      obtain ⟨h1, c, arr', h2, h3, h4, h5, h6⟩ := H.rel id x (hsub id x hx)
      refine ⟨by omega, ?_⟩
      have hcb : c ≠ b := fun e => by
        subst e
        rcases hnew with hn | hn
        · have := H.ob c h3; omega
        · exact hn.2 id (by simp [hx]) h2
      refine ⟨c, arr', by simp [hne, h2], .inl h3, ?_, h5, fun i hi => rep_cond_ext (h6 i hi) E⟩
      rw [hold c (H.ob c h3) hcb]
      exact h4
  · have key : ∀ i, (hget ((nx, hb) :: h') i).isSome = true → i ≠ nx → (hget h' i).isSome = true := fun i hi hne => by
      simp only [hget_cons] at hi
      cases he : Nat.beq nx i with
      | true => exact absurd (of_beq he).symm hne
      | false => simpa [he] using hi
    have up : ∀ i, (hget h' i).isSome = true → (hget h i).isSome = true := fun i hi => by
      obtain ⟨x, hx⟩ := Option.isSome_iff_exists.1 hi
      simp [hsub i x hx]
    have fresh : ∀ i, (hget h' i).isSome = true → ω i = some b → False := fun i hi hw => by
      rcases hnew with hn | hn
      · obtain ⟨x, hx⟩ := Option.isSome_iff_exists.1 (up i hi)
        obtain ⟨_, c, _, h2, h3, _⟩ := H.rel i x hx
        rw [h2] at hw; cases hw; have := H.ob b h3; omega
      · exact hn.2 i hi hw
    by_cases ei : i = nx
    · by_cases ej : j = nx
      · rw [ei, ej]
      · simp only [ei, if_true, Option.some.injEq] at h1
        simp only [ej, if_false] at h2
        subst h1
        exact (fresh j (key j hj ej) h2).elim
    · by_cases ej : j = nx
      · simp only [ej, if_true, Option.some.injEq] at h2
        simp only [ei, if_false] at h1
        subst h2
        exact (fresh i (key i hi ei) h1).elim
      · simp only [ei, ej, if_false] at h1 h2
        exact H.inj i j c (up i (key i hi ei)) (up j (key j hj ej)) h1 h2
  · rcases hc with hc | rfl
    · exact Nat.lt_of_lt_of_le (H.ob c hc) hsz
    · exact hblt

/-- An own block's cells are written. -/
theorem Hp.write (H : Hp w B own ω nx h) {id b : Nat} {arr : Array Value} {hb hb2 : HB} (hid : hget h id = some hb) (hω : ω id = some b) (hos : w'.os = w.os) (htape : w'.tape = w.tape) (hout : w'.output = w.output)
    (hsz : w'.heap.size = w.heap.size) (hold : ∀ k, k ≠ b → w'.heap[k]? = w.heap[k]?) (hb' : w'.heap[b]? = some (.cells arr hb2.elem (0, 0)))
    (hrow : ∀ n, rowSize w b = some n → n = arr.size) (hlen : hb2.cells.length ≤ arr.size)
    (hcell : ∀ i (hi : i < hb2.cells.length), Rep w B own ω (cond hb2.pure 0 nx) hb2.cells[i] (arr.getD i undef)) :
    Ext w own ω nx w' own ω nx ∧ Hp w' B own ω nx (hset h id hb2) := by
  obtain ⟨hidn, hrel⟩ := H.rel id hb hid
  have hown : own b := by
    obtain ⟨c, _, h2, h3, _⟩ := hrel
    rw [h2] at hω; cases hω; exact h3
  have E : Ext w own ω nx w' own ω nx := by
    refine ⟨hos, htape, hout, by omega, fun k _ hn => hold k (fun e => hn (e ▸ hown)), fun k hk => .inl hk, Nat.le_refl _, fun _ _ => rfl, fun k n hr => ?_⟩
    by_cases e : k = b
    · subst e
      simp [rowSize, hb', hrow n hr]
    · simpa [rowSize, hold k e] using hr
  refine ⟨E, ⟨fun j x hx => ?_, fun i j c hi hj h1 h2 => ?_, fun c hc => (by have := H.ob c hc; omega)⟩⟩
  · rw [hget_hset] at hx
    split at hx
    · rename_i e
      subst e
      simp only [hid, Option.map_some, Option.some.injEq] at hx
      subst hx
      exact ⟨hidn, b, arr, hω, hown, hb', hlen, fun i hi => rep_cond_ext (hcell i hi) E⟩
    · rename_i hne
      obtain ⟨h1, c, arr', h2, h3, h4, h5, h6⟩ := H.rel j x hx
      refine ⟨h1, ?_⟩
      have hcb : c ≠ b := fun e => by
        subst e
        exact hne (H.inj j id c (by simp [hx]) (by simp [hid]) h2 hω)
      exact ⟨c, arr', h2, h3, by rw [hold c hcb]; exact h4, h5, fun i hi => rep_cond_ext (h6 i hi) E⟩
  · have key : ∀ i, (hget (hset h id hb2) i).isSome = true → (hget h i).isSome = true := fun i hi => by
      rw [hget_hset] at hi
      split at hi
      · rename_i e; subst e; simp [hid]
      · exact hi
    exact H.inj i j c (key i hi) (key j hj) h1 h2

end
end Go.Bas
