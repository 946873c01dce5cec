/- The engine, part E: operations that make or write own blocks. -/
import Derived.Test.YtehfcbppcfpjoaaGreatDoorBasND
namespace Go.Bas
open Go.RowKit
set_option linter.unusedSimpArgs false
set_option linter.unusedVariables false

section
variable {w : World} {B : Nat → Prop} {own : Nat → Prop} {ω : Nat → Option Nat} {nx : Nat} {h : Heap} {P : Program}

/-- A list of abstract values, cell by cell. -/
def RepL (w : World) (B : Nat → Prop) (own : Nat → Prop) (ω : Nat → Option Nat) (nx : Nat) (cells : List AV) (arr : Array Value) : Prop :=
  cells.length = arr.size ∧ ∀ i (hi : i < cells.length), Rep w B own ω nx cells[i] (arr.getD i undef)

theorem getD_lt {arr : Array Value} {i : Nat} (hi : i < arr.size) : arr.getD i undef = arr[i] := by simp [hi]

theorem repL_ofS (arr : Array Value) : RepL w B own ω nx (arr.toList.map ofS) arr := by
  refine ⟨by simp, fun i hi => ?_⟩
  have hi' : i < arr.size := by simpa using hi
  rw [getD_lt hi']
  simp only [List.getElem_map, Array.getElem_toList]
  exact rep_ofS _ _ _ _ _ _

theorem zeroCells_some {t : TypeId} {cs : List AV} (hz : zeroCells P t = some cs) : ∃ i v, P.info? t = some i ∧ i.zero = some v ∧ v.cells.size = i.size ∧ cs = v.cells.toList.map ofS := by
  unfold zeroCells at hz
  split at hz
  · rename_i i hi
    split at hz
    · rename_i v hv
      cases hb : Nat.beq v.cells.size i.size with
      | true =>
        rw [hb] at hz
        simp only [cond_true, Option.some.injEq] at hz
        exact ⟨i, v, hi, hv, of_beq hb, hz.symm⟩
      | false => rw [hb] at hz; cases hz
    · cases hz
  · cases hz

theorem all_noRef {cs : List AV} {d : Nat} (ha : cs.all (AV.noRef d) = true) : ∀ i (hi : i < cs.length), cs[i].noRef d = true := fun i hi => (List.all_eq_true.1 ha) _ (List.getElem_mem hi)

theorem rep_cond {p : Bool} {v : AV} {u : Value} (hr : Rep w B own ω nx v u) (hp : p = true → v.noRef 2 = true) : Rep w B own ω (cond p 0 nx) v u := by
  cases p with
  | false => exact hr
  | true => exact hr.down (hp rfl) 0

theorem rowSize_lt {b n : Nat} (hr : rowSize w b = some n) : b < w.heap.size := by
  rcases Nat.lt_or_ge b w.heap.size with h' | h'
  · exact h'
  · simp [rowSize, Array.getElem?_eq_none h'] at hr

/-- What an operation has come to. -/
def Yields (P : Program) (w : World) (B : Nat → Prop) (own : Nat → Prop) (ω : Nat → Option Nat) (nx : Nat) (kv : AV → Heap → Nat → Bool) (r : Result Value) : Prop :=
  ∃ u w' v h' nx' own' ω', r = .ok u w' ∧ kv v h' nx' = true ∧ Ext w own ω nx w' own' ω' nx' ∧ Hp w' B own' ω' nx' h' ∧ Rep w' B own' ω' nx' v u

/-- A new block. -/
theorem Hp.new (H : Hp w B own ω nx h) {arr : Array Value} {hb : HB} (hlen : hb.cells.length ≤ arr.size) (hcell : ∀ i (hi : i < hb.cells.length), Rep w B own ω (cond hb.pure 0 nx) hb.cells[i] (arr.getD i undef)) :
    Ext w own ω nx (w.alloc (.cells arr hb.elem)) (fun x => own x ∨ x = w.heap.size) (fun i => if i = nx then some w.heap.size else ω i) (nx + 1) ∧
    Hp (w.alloc (.cells arr hb.elem)) B (fun x => own x ∨ x = w.heap.size) (fun i => if i = nx then some w.heap.size else ω i) (nx + 1) ((nx, hb) :: h) :=
  H.put (w' := w.alloc (.cells arr hb.elem)) rfl rfl rfl (by simp) (fun k hk _ => heap_alloc_old w _ hk) (heap_alloc_new w _) (.inl (Nat.le_refl _)) (fun n hr => absurd (rowSize_lt hr) (Nat.lt_irrefl _)) (fun _ _ hx => hx) hlen hcell

theorem new_ptr (H : Hp w B own ω nx h) {arr : Array Value} {cs : List AV} {t : TypeId} {p : Bool} {kv : AV → Heap → Nat → Bool} (hl : RepL w B own ω nx cs arr) (hp : p = true → cs.all (AV.noRef 2) = true)
    (hk : kv (.ptr nx 0) ((nx, ⟨cs, t, p⟩) :: h) (nx + 1) = true) : Yields P w B own ω nx kv (.ok (.pointer (some ⟨w.heap.size, 0, none⟩)) (w.alloc (.cells arr t))) := by
  obtain ⟨E, H'⟩ := H.new (arr := arr) (hb := ⟨cs, t, p⟩) (Nat.le_of_eq hl.1) (fun i hi => rep_cond (hl.2 i hi) (fun e => all_noRef (hp e) i hi))
  exact ⟨_, _, _, _, _, _, _, rfl, hk, E, H', .ptr _ _ _ _ (by omega) (by simp)⟩

/-- An operation that makes a block ('n0': its number). -/
def Makes (w : World) (B : Nat → Prop) (own : Nat → Prop) (ω : Nat → Option Nat) (nx : Nat) (kv : AV → Heap → Nat → Bool) (h : Heap) (n0 : Nat) (r : Result Value) : Prop :=
  ∃ (mk : Nat → AV) (cs : List AV) (e : TypeId) (p : Bool) (arr : Array Value) (u : Value), r = .ok u (w.alloc (.cells arr e)) ∧ kv (mk n0) ((n0, ⟨cs, e, p⟩) :: h) (n0 + 1) = true ∧ RepL w B own ω nx cs arr ∧ (p = true → cs.all (AV.noRef 2) = true) ∧
    ((mk = (fun i => .ptr i 0) ∧ u = .pointer (some ⟨w.heap.size, 0, none⟩)) ∨ ∃ n cap sz, mk = (fun i => .sl i 0 n sz true) ∧ u = .slice (some ⟨w.heap.size, 0, none⟩) n cap ∧ n ≤ cap ∧ cap ≤ maxLen ∧ arr.size = cap * sz)

theorem alloc_makes {t : TypeId} {cs : List AV} {kv : AV → Heap → Nat → Bool} {n0 : Nat} (hz : zeroCells P t = some cs) (hk : kv (.ptr n0 0) ((n0, ⟨cs, t, true⟩) :: h) (n0 + 1) = true) :
    Makes w B own ω nx kv h n0 ((Instr.alloc t true (.tuple #[])).run P w) := by
  obtain ⟨i, v, hi, hv, hs, rfl⟩ := zeroCells_some hz
  have hr : (Instr.alloc t true (.tuple #[])).run P w = .ok (.pointer (some ⟨w.heap.size, 0, none⟩)) (w.alloc (.cells v.cells t)) := by
    simp [Instr.alloc, zeroValue, typeInfo, hi, hv, newVar, newRow, newObj, Sem.run, Result.andThen]
  rw [hr]
  refine ⟨_, _, _, _, _, _, rfl, hk, repL_ofS v.cells, fun _ => List.all_eq_true.2 fun x hx => ?_, .inl ⟨rfl, rfl⟩⟩
  obtain ⟨y, _, rfl⟩ := List.mem_map.1 hx
  unfold ofS
  split <;> rfl

theorem cellsL_rep {v : AV} {u : Value} {vs : List AV} (hr : Rep w B own ω nx v u) (hc : v.cellsL = some vs) : RepL w B own ω nx vs u.cells := by
  have one : ∀ {v : AV} {u : Value}, Rep w B own ω nx v u → v.cellsL = some [v] → u.cells = #[u] → v.cellsL = some vs → RepL w B own ω nx vs u.cells := fun hr h1 h2 h3 => by
    rw [h1, Option.some.injEq] at h3
    subst h3
    rw [h2]
    exact ⟨rfl, fun i hi => by simp at hi; subst hi; simpa using hr⟩
  cases hr with
  | any => cases hc
  | agg _ cs as h1 h2 => simp only [AV.cellsL, Option.some.injEq] at hc; subst hc; exact ⟨h1, h2⟩
  | bool => exact one (.bool _ _) rfl rfl hc
  | int => exact one (.int _ _ _) rfl rfl hc
  | str => exact one (.str _ _) rfl rfl hc
  | nilp => exact one (.nilp _) rfl rfl hc
  | ptr _ _ _ b h1 h2 => exact one (.ptr _ _ _ _ h1 h2) rfl rfl hc
  | iptr _ _ _ b o vs' h1 h2 h3 => exact one (.iptr _ _ _ b o vs' h1 h2 h3) rfl rfl hc
  | nils => exact one (.nils _) rfl rfl hc
  | lst _ _ _ cap b o vs' h1 h2 h3 h4 => exact one (.lst _ _ _ _ b o vs' h1 h2 h3 h4) rfl rfl hc
  | lstn => exact one (.lstn _ _ _) rfl rfl hc
  | es => exact one (.es _ _) rfl rfl hc
  | ns => exact one (.ns _ _ _) rfl rfl hc
  | sl _ _ _ _ _ cap b h1 h2 h3 => exact one (.sl _ _ _ _ _ _ _ h1 h2 h3) rfl rfl hc
  | sla _ _ _ _ cap b h1 h2 h3 h4 h5 => exact one (.sla _ _ _ _ _ _ h1 h2 h3 h4 h5) rfl rfl hc
  | yld _ _ l h1 h2 => exact one (.yld _ _ _ h1 h2) rfl rfl hc
  | mp _ _ l h1 h2 => exact one (.mp _ _ _ h1 h2) rfl rfl hc
  | fn _ _ _ _ fs cs h1 h2 h3 h4 => exact one (.fn _ _ _ _ _ _ h1 h2 h3 h4) rfl rfl hc
  | nilfn => exact one (.nilfn _) rfl rfl hc
  | iface _ _ _ _ h1 => exact one (.iface _ _ _ _ h1) rfl rfl hc
  | niliface => exact one (.niliface _) rfl rfl hc
  | tup _ _ _ h1 h2 => exact one (.tup _ _ _ h1 h2) rfl rfl hc

theorem box_makes {t : TypeId} {v : AV} {u : Value} {cs : List AV} {kv : AV → Heap → Nat → Bool} {n0 : Nat} (hr : Rep w B own ω nx v u) (hc : v.cellsL = some cs)
    (hk : kv (.ptr n0 0) ((n0, ⟨cs, t, cs.all (AV.noRef 2)⟩) :: h) (n0 + 1) = true) : Makes w B own ω nx kv h n0 ((Instr.box t u).run P w) := by
  have hrun : (Instr.box t u).run P w = .ok (.pointer (some ⟨w.heap.size, 0, none⟩)) (w.alloc (.cells u.cells t)) := by
    simp [Instr.box, newVar, newRow, newObj, Sem.run, Result.andThen]
  rw [hrun]
  exact ⟨_, _, _, _, _, _, rfl, hk, cellsL_rep hr hc, fun e => e, .inl ⟨rfl, rfl⟩⟩

theorem setMany_length : ∀ (vs cells : List AV) (off : Nat), (setMany cells off vs).length = cells.length
  | [], _, _ => rfl
  | v :: r, cells, off => by simp [setMany, setMany_length r]
theorem setMany_cons (x : AV) : ∀ (vs l : List AV) (n : Nat), setMany (x :: l) (n + 1) vs = x :: setMany l n vs
  | [], l, n => rfl
  | v :: r, l, n => by
    show setMany (x :: l.set n v) (n + 1 + 1) r = x :: setMany (l.set n v) (n + 1) r
    exact setMany_cons x r _ _
theorem lsplice_eq : ∀ (cells : List AV) (off : Nat) (vs : List AV), off + vs.length ≤ cells.length → lsplice cells off vs = setMany cells off vs
  | [], off, vs, h => by
    have hv : vs = [] := List.eq_nil_of_length_eq_zero (by have : off + vs.length ≤ 0 := h; omega)
    subst hv
    rfl
  | a :: r, 0, [], _ => rfl
  | a :: r, 0, v :: w, h => by
    have ih := lsplice_eq r 0 w (by simp at h ⊢; omega)
    show v :: lsplice r 0 w = setMany (v :: r) 1 w
    rw [ih, setMany_cons]
  | a :: r, m + 1, vs, h => by
    have ih := lsplice_eq r m vs (by simp at h ⊢; omega)
    show a :: lsplice r m vs = setMany (a :: r) (m + 1) vs
    rw [ih, setMany_cons]
theorem setAt_eq {cells vs : List AV} {off : Nat} (h : off + vs.length ≤ cells.length) : setAt cells off vs = setMany cells off vs := by
  unfold setAt
  split
  · rfl
  · rfl
  · exact lsplice_eq _ _ _ h
theorem setMany_get : ∀ (vs cells : List AV) (off j : Nat), off + vs.length ≤ cells.length → (setMany cells off vs)[j]? = if off ≤ j ∧ j < off + vs.length then vs[j - off]? else cells[j]?
  | [], cells, off, j, _ => by simp [setMany]; omega
  | v :: r, cells, off, j, hl => by
    simp only [List.length_cons] at hl
    rw [setMany, setMany_get r _ _ _ (by simp; omega)]
    simp only [List.length_cons]
    by_cases h1 : off + 1 ≤ j ∧ j < off + 1 + r.length
    · rw [if_pos h1, if_pos (by omega), show j - off = (j - (off + 1)) + 1 by omega, List.getElem?_cons_succ]
    · rw [if_neg h1]
      by_cases h2 : j = off
      · subst h2
        rw [if_pos (by omega), Nat.sub_self, List.getElem?_cons_zero, List.getElem?_set_self (by omega)]
      · rw [if_neg (by omega), List.getElem?_set_ne (Ne.symm h2)]

theorem repL_of {cells : List AV} {arr : Array Value} (hl : cells.length = arr.size) (hj : ∀ (j : Nat) (a : AV) (v : Value), cells[j]? = some a → arr[j]? = some v → Rep w B own ω nx a v) : RepL w B own ω nx cells arr :=
  ⟨hl, fun i hi => by
    have hi' : i < arr.size := by omega
    rw [getD_lt hi']
    exact hj i _ _ (List.getElem?_eq_getElem hi) (Array.getElem?_eq_getElem hi')⟩
theorem RepL.at {cells : List AV} {arr : Array Value} (hl : RepL w B own ω nx cells arr) {j : Nat} {a : AV} {v : Value} (h1 : cells[j]? = some a) (h2 : arr[j]? = some v) : Rep w B own ω nx a v := by
  obtain ⟨hi, e⟩ := List.getElem?_eq_some_iff.1 h1
  obtain ⟨hi', e'⟩ := Array.getElem?_eq_some_iff.1 h2
  have := hl.2 j hi
  rw [getD_lt hi', e, e'] at this
  exact this

theorem fold_get (off : Nat) : ∀ (us : List Value) (n : Nat) (arr : Array Value) (j : Nat), off + n + us.length ≤ arr.size →
    ((us.zipIdx n).foldl (fun (cs : Array Value) p => cs.setIfInBounds (off + p.2) p.1) arr)[j]? = if off + n ≤ j ∧ j < off + n + us.length then us[j - (off + n)]? else arr[j]?
  | [], n, arr, j, _ => by simp; omega
  | u :: r, n, arr, j, hl => by
    simp only [List.length_cons] at hl
    simp only [List.zipIdx_cons, List.foldl_cons]
    rw [fold_get off r (n + 1) _ j (by simp; omega)]
    simp only [List.length_cons]
    by_cases h1 : off + (n + 1) ≤ j ∧ j < off + (n + 1) + r.length
    · rw [if_pos h1, if_pos (by omega), show j - (off + n) = (j - (off + (n + 1))) + 1 by omega, List.getElem?_cons_succ]
    · rw [if_neg h1]
      by_cases h2 : j = off + n
      · subst h2
        rw [if_pos (by omega), Nat.sub_self, List.getElem?_cons_zero, Array.getElem?_setIfInBounds_self_of_lt (by omega)]
      · rw [if_neg (by omega), Array.getElem?_setIfInBounds_ne (Ne.symm h2)]
theorem fold_size (off : Nat) : ∀ (us : List Value) (n : Nat) (arr : Array Value), ((us.zipIdx n).foldl (fun (cs : Array Value) p => cs.setIfInBounds (off + p.2) p.1) arr).size = arr.size
  | [], _, _ => rfl
  | u :: r, n, arr => by simp only [List.zipIdx_cons, List.foldl_cons]; rw [fold_size off r]; simp

theorem fillK_sound {place : Nat → Option (Nat × Nat)} {k : List AV → Bool} : ∀ (parts : List (Nat × AV)) (vparts : List (Nat × Value)) (cells : List AV) (arr : Array Value), parts.length = vparts.length →
    (∀ (j : Nat) (p : Nat × AV) (q : Nat × Value), parts[j]? = some p → vparts[j]? = some q → p.1 = q.1 ∧ Rep w B own ω nx p.2 q.2) → RepL w B own ω nx cells arr → fillK place cells parts k false = true →
    ∃ cells' arr', Instr.fill place arr vparts = some arr' ∧ RepL w B own ω nx cells' arr' ∧ k cells' = true
  | [], [], cells, arr, _, _, hl, hk => ⟨cells, arr, rfl, hl, hk⟩
  | [], _ :: _, _, _, hlen, _, _, _ => by simp at hlen
  | _ :: _, [], _, _, hlen, _, _, _ => by simp at hlen
  | (i, v) :: rest, (i', u) :: vrest, cells, arr, hlen, hp, hl, hk => by
    have h0 := hp 0 (i, v) (i', u) rfl rfl
    have hi : i = i' := h0.1
    have hr : Rep w B own ω nx v u := h0.2
    subst hi
    simp only [fillK] at hk
    split at hk
    · rename_i off size vs hpl hcs
      replace hk := of_cond hk
      obtain ⟨hc, hk⟩ := hk
      obtain ⟨h1, h2⟩ := of_and hc
      replace h1 := of_beq h1
      replace h2 := of_ble h2
      have hv := cellsL_rep hr hcs
      have e1 : ¬ (u.cells.size ≠ size || off + u.cells.size > arr.size) = true := by
        have := hv.1
        have := hl.1
        simp
        omega
      have hsz : off + 0 + u.cells.toList.length ≤ arr.size := by
        have := hv.1; have := hl.1; simp; omega
      have hl' : RepL w B own ω nx (setAt cells off vs) (u.cells.zipIdx.foldl (fun cs p => cs.setIfInBounds (off + p.2) p.1) arr) := by
        rw [setAt_eq (by omega), ← Array.foldl_toList, Array.toList_zipIdx]
        refine repL_of (by rw [setMany_length, fold_size]; exact hl.1) (fun j a x ha hx => ?_)
        rw [setMany_get _ _ _ _ (by omega)] at ha
        rw [fold_get off _ 0 _ _ hsz] at hx
        have := hv.1
        by_cases hj : off ≤ j ∧ j < off + vs.length
        · rw [if_pos hj] at ha
          rw [if_pos (by simp; omega)] at hx
          simp only [Nat.add_zero, Array.getElem?_toList] at hx
          exact hv.at ha hx
        · rw [if_neg hj] at ha
          rw [if_neg (by simp; omega)] at hx
          exact hl.at ha hx
      obtain ⟨cells', arr', hf, hl2, hk2⟩ := fillK_sound rest vrest _ _ (by simpa using hlen) (fun j p q hp1 hq1 => hp (j + 1) p q (by simpa using hp1) (by simpa using hq1)) hl' hk
      refine ⟨cells', arr', ?_, hl2, hk2⟩
      simp only [Instr.fill, hpl]
      rw [if_neg e1]
      exact hf
    · cases hk

theorem places_map : ∀ (fs : List Field), (fs.all fun f => (P.info? f.type).isSome) = true → fs.mapM (fun f => (P.info? f.type).map fun i => (f.offset, i.size)) = some (fs.map fun f => (f.offset, ((P.info? f.type).map (·.size)).getD 0))
  | [], _ => rfl
  | f :: r, h => by
    simp only [List.all_cons, Bool.and_eq_true] at h
    obtain ⟨x, hx⟩ := Option.isSome_iff_exists.1 h.1
    simp [List.mapM_cons, hx, places_map r h.2]

theorem build_sound {t : TypeId} {parts : List (Nat × AV)} {vparts : Array (Nat × Value)} {k : AV → Bool} (hlen : parts.length = vparts.size)
    (hp : ∀ (j : Nat) (p : Nat × AV) (q : Nat × Value), parts[j]? = some p → vparts.toList[j]? = some q → p.1 = q.1 ∧ Rep w B own ω nx p.2 q.2) (hk : buildK P t parts k false = true) :
    Reckons P w B own ω nx (Instr.build t vparts) k := by
  unfold buildK at hk
  split at hk
  · rename_i zs fs hz hu
    obtain ⟨i, v, hi, hv, hs, rfl⟩ := zeroCells_some hz
    replace hk := of_cond hk
    obtain ⟨ho, hk⟩ := hk
    obtain ⟨cells', arr', hf, hl, hk2⟩ := fillK_sound parts vparts.toList _ v.cells (by simpa using hlen) hp (repL_ofS v.cells) hk
    refine ⟨_, .agg arr', fun w' _ => ?_, .agg _ _ _ hl.1 hl.2, hk2⟩
    have hpl : (fun j => (fs.map fun f => (f.offset, ((P.info? f.type).map (·.size)).getD 0))[j]?) = fieldPlaces P fs := by
      funext j
      simp only [fieldPlaces, Array.getElem?_map]
      cases hj : fs[j]? with
      | none => rfl
      | some f =>
        have : (P.info? f.type).isSome = true := by
          have := List.all_eq_true.1 ho f (by rw [← Array.getElem?_toList] at hj; exact List.mem_of_getElem? hj)
          simpa using this
        obtain ⟨x, hx⟩ := Option.isSome_iff_exists.1 this
        simp [hx]
    have hm := run_places (P := P) w' fs.toList _ (places_map fs.toList ho)
    have hpl2 : (fun j : Nat => (List.map (fun f : Field => (f.offset, ((P.info? f.type).map (·.size)).getD 0)) fs.toList)[j]?) = fieldPlaces P fs := by
      rw [← hpl]
      funext j
      simp
    simp [Instr.build, run_underlying hu, typeInfo, zeroValue, hi, hv, Array.mapM_eq_mapM_toList, hm, Sem.run, Result.andThen]
    simp only [List.getElem?_map, Array.getElem?_toList] at hpl2
    rw [hpl2, hf]
    rfl
  · rename_i zs len e hz hu
    obtain ⟨i, v, hi, hv, hs, rfl⟩ := zeroCells_some hz
    split at hk
    · rename_i ie hie
      obtain ⟨cells', arr', hf, hl, hk2⟩ := fillK_sound parts vparts.toList _ v.cells (by simpa using hlen) hp (repL_ofS v.cells) hk
      refine ⟨_, .agg arr', fun w' _ => ?_, .agg _ _ _ hl.1 hl.2, hk2⟩
      simp [Instr.build, zeroValue, typeInfo, hi, hv, run_underlying hu, sizeOf, hie, hf, Sem.run, Result.andThen]
    · cases hk
  · cases hk

theorem flat_get {α : Type} (zs : List α) : ∀ (n j : Nat), ((List.replicate n zs).flatten)[j]? = if j < n * zs.length then zs[j % zs.length]? else none
  | 0, j => by simp
  | n + 1, j => by
    rw [List.replicate_succ, List.flatten_cons, List.getElem?_append]
    by_cases hj : j < zs.length
    · rw [if_pos hj, if_pos (by rw [Nat.succ_mul]; omega), Nat.mod_eq_of_lt hj]
    · rw [if_neg hj, flat_get zs n (j - zs.length)]
      have e : (n + 1) * zs.length = n * zs.length + zs.length := Nat.succ_mul _ _
      by_cases h2 : j - zs.length < n * zs.length
      · rw [if_pos h2, if_pos (by omega), Nat.mod_eq_sub_mod (Nat.le_of_not_lt hj)]
      · rw [if_neg h2, if_neg (by omega)]

theorem repL_made {v : Value} {zs : List AV} {n size : Nat} (hs : v.cells.size = size) (hz : zs = v.cells.toList.map ofS) : RepL w B own ω nx ((List.replicate n zs).flatten) (madeCells v.cells (n * size)) := by
  subst hz
  have hl : (v.cells.toList.map ofS).length = size := by simpa using hs
  have hlen : ((List.replicate n (v.cells.toList.map ofS)).flatten).length = n * size := by
    rw [List.length_flatten]; simp [hs]
  refine repL_of (by rw [hlen, size_madeCells]) (fun j a x ha hx => ?_)
  rw [flat_get, hl] at ha
  have hj : j < n * size := by
    rcases Nat.lt_or_ge j (n * size) with h | h
    · exact h
    · rw [if_neg (by omega)] at ha; cases ha
  rw [if_pos hj] at ha
  have hpos : 0 < size := by
    rcases Nat.eq_zero_or_pos size with h | h
    · subst h; simp at hj
    · exact h
  have hm : j % size < v.cells.size := by rw [hs]; exact Nat.mod_lt _ hpos
  simp only [List.getElem?_map, Array.getElem?_toList, Array.getElem?_eq_getElem hm, Option.map_some, Option.some.injEq] at ha
  simp only [madeCells, Array.getElem?_map, Array.getElem?_range, hj, if_true, Option.map_some, Option.some.injEq] at hx
  rw [hs] at hx
  rw [← ha, ← hx]
  have : v.cells[j % size]! = v.cells[j % size] := by simp [hm]
  rw [this]
  exact rep_ofS _ _ _ _ _ _

theorem all_ofS {l : List Value} : (l.map ofS).all (AV.noRef 2) = true := List.all_eq_true.2 fun x hx => by
  obtain ⟨y, _, rfl⟩ := List.mem_map.1 hx
  unfold ofS
  split <;> rfl

/-- A slice over a new block of the run's own. -/
theorem new_sl (H : Hp w B own ω nx h) {arr : Array Value} {cs : List AV} {e : TypeId} {p : Bool} {n cap sz : Nat} {kv : AV → Heap → Nat → Bool} (hl : RepL w B own ω nx cs arr) (hp : p = true → cs.all (AV.noRef 2) = true)
    (hn : n ≤ cap) (hm : cap ≤ maxLen) (hc : arr.size = cap * sz) (hk : kv (.sl nx 0 n sz true) ((nx, ⟨cs, e, p⟩) :: h) (nx + 1) = true) :
    Yields P w B own ω nx kv (.ok (.slice (some ⟨w.heap.size, 0, none⟩) n cap) (w.alloc (.cells arr e))) := by
  obtain ⟨E, H'⟩ := H.new (arr := arr) (hb := ⟨cs, e, p⟩) (Nat.le_of_eq hl.1) (fun i hi => rep_cond (hl.2 i hi) (fun e => all_noRef (hp e) i hi))
  refine ⟨_, _, _, _, _, _, _, rfl, hk, E, H', .sla _ _ _ _ _ _ (by omega) (by simp) hn hm ?_⟩
  have := heap_alloc_new w (.cells arr e)
  simp only [rowSize]
  rw [this]
  simp [hc]

theorem buildSlice_makes {n0 : Nat} {t e : TypeId} {len : Nat} {i : TypeInfo} {zs : List AV} {parts : List (Nat × AV)} {vparts : Array (Nat × Value)} {kv : AV → Heap → Nat → Bool} (hu : P.underlying t = some (.slice e)) (hi : P.info? e = some i) (hz : zeroCells P e = some zs)
    (hle : Nat.ble (len * i.size) 16777216 = true) (hlm : Nat.ble len maxLen = true) (hlen : parts.length = vparts.size)
    (hp : ∀ (j : Nat) (p : Nat × AV) (q : Nat × Value), parts[j]? = some p → vparts.toList[j]? = some q → p.1 = q.1 ∧ Rep w B own ω nx p.2 q.2)
    (hk : fillK (fun j => some (j * i.size, i.size)) (List.replicate len zs).flatten parts (fun cs => kv (.sl n0 0 len i.size true) ((n0, ⟨cs, e, cs.all (AV.noRef 2)⟩) :: h) (n0 + 1)) false = true) :
    Makes w B own ω nx kv h n0 ((Instr.buildSlice t len vparts).run P w) := by
  obtain ⟨i', v, hi', hv, hs, rfl⟩ := zeroCells_some hz
  rw [hi] at hi'; obtain rfl := Option.some.inj hi'
  obtain ⟨cells', arr', hf, hl, hk2⟩ := fillK_sound parts vparts.toList _ (madeCells v.cells (len * i.size)) (by simpa using hlen) hp (repL_made hs rfl) hk
  have h16 := of_ble hle
  have hsz : arr'.size = len * i.size := by
    have : ∀ (l : List (Nat × Value)) (a b : Array Value), Instr.fill (fun j => some (j * i.size, i.size)) a l = some b → b.size = a.size := by
      intro l
      induction l with
      | nil => intro a b h; simp only [Instr.fill, Option.some.injEq] at h; rw [h]
      | cons x r ih =>
        intro a b h
        obtain ⟨j, u⟩ := x
        simp only [Instr.fill] at h
        split at h
        · cases h
        · rw [ih _ _ h, ← Array.foldl_toList, Array.toList_zipIdx, fold_size]
    rw [this _ _ _ hf, size_madeCells]
  have hrun : (Instr.buildSlice t len vparts).run P w = .ok (.slice (some ⟨w.heap.size, 0, none⟩) len len) (w.alloc (.cells arr' e)) := by
    have n16 : ¬ (16777216 < len * i.size) := by omega
    by_cases h0 : len * i.size = 0
    · have hm : madeCells v.cells (len * i.size) = (Array.range (len * i.size)).map (fun j => (#[] : Array Value)[j % (#[] : Array Value).size]!) := by
        rw [h0]; simp [madeCells]
      rw [hm] at hf
      simp [Instr.buildSlice, run_underlying hu, sizeOf, typeInfo, hi, n16, h0, Sem.run, Result.andThen]
      rw [h0] at hf
      simp at hf
      rw [hf]
      simp [newRow, newObj, Sem.run, Result.andThen]
    · simp [Instr.buildSlice, run_underlying hu, sizeOf, typeInfo, hi, n16, h0, zeroValue, hv, Sem.run, Result.andThen]
      simp only [madeCells] at hf
      rw [hf]
      simp [newRow, newObj, Sem.run, Result.andThen]
  rw [hrun]
  exact ⟨_, _, _, _, _, _, rfl, hk2, hl, fun e => e, .inr ⟨_, _, _, rfl, rfl, Nat.le_refl _, of_ble hlm, hsz⟩⟩

theorem makeSlice_makes {n0 : Nat} {t : TypeId} {len cap : AV} {ul uc : Value} {kv : AV → Heap → Nat → Bool} (hl : Rep w B own ω nx len ul) (hc : Rep w B own ω nx cap uc)
    (hk : makeSliceK P h n0 t len cap kv false = true) : Makes w B own ω nx kv h n0 ((Instr.makeSlice t ul uc).run P w) := by
  unfold makeSliceK at hk
  split at hk
  · rename_i e kl l kc c hu
    cases hl
    cases hc
    split at hk
    · rename_i i zs hi hz
      obtain ⟨i', v, hi', hv, hs, rfl⟩ := zeroCells_some hz
      rw [hi] at hi'; obtain rfl := Option.some.inj hi'
      replace hk := of_cond hk
      obtain ⟨hb, hk⟩ := hk
      obtain ⟨b1, b2⟩ := of_and hb
      obtain ⟨b2, b3⟩ := of_and b2
      obtain ⟨b3, b4⟩ := of_and b3
      replace b1 : 0 ≤ l := by simpa using b1
      replace b2 : l ≤ c := by simpa using b2
      replace b3 := of_ble b3
      replace b4 := of_ble b4
      have hm : c.toNat ≤ 9223372036854775807 := by simpa [maxLen] using b3
      have hbytes : (i.bytes : Int) * c ≤ 281474976710656 := by
        have h1 : ((c.toNat * i.bytes : Nat) : Int) ≤ 140737488355328 := by omega
        rw [Int.natCast_mul, Int.toNat_of_nonneg (by omega), Int.mul_comm] at h1
        omega
      rw [run_make (P := P) w t e i v hu hi hv kl kc l c b1 b2 hbytes (by omega)]
      exact ⟨_, _, _, _, _, _, rfl, hk, repL_made hs rfl, fun _ => List.all_eq_true.2 fun x hx => by
        obtain ⟨y, hy, hxy⟩ := List.mem_flatten.1 hx
        rw [(List.mem_replicate.1 hy).2] at hxy
        exact List.all_eq_true.1 all_ofS x hxy, .inr ⟨_, _, _, rfl, rfl, by omega, b3, by rw [size_madeCells]⟩⟩
    · cases hk
  · cases hk

theorem Makes.yields (H : Hp w B own ω nx h) {kv : AV → Heap → Nat → Bool} {r : Result Value} (hm : Makes w B own ω nx kv h nx r) : Yields P w B own ω nx kv r := by
  obtain ⟨mk, cs, e, p, arr, u, rfl, hk, hl, hp, ⟨rfl, rfl⟩ | ⟨n, cap, sz, rfl, rfl, h1, h2, h3⟩⟩ := hm
  · exact new_ptr H hl hp hk
  · exact new_sl H hl hp h1 h2 h3 hk

theorem one_rep {v : AV} {u : Value} (hr : Rep w B own ω nx v u) (ho : v.one = true) : u.oneCell' = true := by
  cases hr <;> first | rfl | cases ho

theorem RepL.one {cs : List AV} {arr : Array Value} (hl : RepL w B own ω nx cs arr) (ho : cs.all AV.one = true) : ∀ v ∈ arr.toList, v.oneCell' = true := fun v hv => by
  obtain ⟨j, hj, e⟩ := List.mem_iff_getElem.1 hv
  have hj' : j < cs.length := by rw [hl.1]; simpa using hj
  exact one_rep (hl.at (List.getElem?_eq_getElem hj') (by rw [← Array.getElem?_toList, List.getElem?_eq_getElem hj, e])) (List.all_eq_true.1 ho _ (List.getElem_mem hj'))

/-- An own block that is there. -/
theorem Hp.there (H : Hp w B own ω nx h) {id b : Nat} {hb : HB} (hid : hget h id = some hb) (hω : ω id = some b) :
    ∃ arr, own b ∧ w.heap[b]? = some (.cells arr hb.elem (0, 0)) ∧ hb.cells.length ≤ arr.size ∧ ∀ i (hi : i < hb.cells.length), Rep w B own ω (cond hb.pure 0 nx) hb.cells[i] (arr.getD i undef) := by
  obtain ⟨_, c, arr, h2, h3, h4, h5, h6⟩ := H.rel id hb hid
  rw [h2] at hω
  cases hω
  exact ⟨arr, h3, h4, h5, h6⟩

theorem Hp.lies (H : Hp w B own ω nx h) {id b : Nat} {hb : HB} (hid : hget h id = some hb) (hω : ω id = some b) : Lies w B own ω nx b 0 hb.cells := by
  obtain ⟨arr, h3, h4, h5, h6⟩ := H.there hid hω
  refine ⟨fun i => arr.getD i undef, fun i hi => ?_, fun i hi => ?_⟩
  · have hi' : i < arr.size := by omega
    simp [World.cell?, h4, hi']
  · have := h6 i hi
    cases hp : hb.pure with
    | false => rw [hp] at this; exact this
    | true => rw [hp] at this; exact Rep.up this (Nat.zero_le _)

theorem splice_rep {cs vs : List AV} {arr : Array Value} {us : List Value} {off : Nat} {nx' : Nat} (hlen : cs.length ≤ arr.size) (hc : ∀ i (hi : i < cs.length), Rep w B own ω nx' cs[i] (arr.getD i undef))
    (hv : vs.length = us.length) (hu : ∀ (j : Nat) (a : AV) (v : Value), vs[j]? = some a → us[j]? = some v → Rep w B own ω nx' a v) (hoff : off + us.length ≤ cs.length) :
    (∀ i (hi : i < (cs.take off ++ vs ++ cs.drop (off + vs.length)).length), Rep w B own ω nx' ((cs.take off ++ vs ++ cs.drop (off + vs.length))[i]) ((arr.toList.take off ++ us ++ arr.toList.drop (off + us.length)).toArray.getD i undef)) := by
  intro i hi
  have hlen2 : (cs.take off ++ vs ++ cs.drop (off + vs.length)).length = cs.length := by simp; omega
  have hi' : i < cs.length := by omega
  have e : ∀ {α : Type} (l m : List α), off + m.length ≤ l.length → (l.take off ++ m ++ l.drop (off + m.length))[i]? = if off ≤ i ∧ i < off + m.length then m[i - off]? else l[i]? := fun l m hm => by
    rw [List.append_assoc, List.getElem?_append]
    simp only [List.length_take, Nat.min_eq_left (show off ≤ l.length by omega)]
    by_cases h1 : i < off
    · rw [if_pos h1, if_neg (by omega), List.getElem?_take, if_pos h1]
    · rw [if_neg h1, List.getElem?_append]
      by_cases h2 : i - off < m.length
      · rw [if_pos h2, if_pos (by omega)]
      · rw [if_neg h2, if_neg (by omega), List.getElem?_drop]
        congr 1
        omega
  have e1 := e cs vs (by omega)
  have e2 := e arr.toList us (by simp; omega)
  have hi2 : i < (arr.toList.take off ++ us ++ arr.toList.drop (off + us.length)).length := by simp; omega
  rw [List.getElem?_eq_getElem hi] at e1
  rw [List.getElem?_eq_getElem hi2] at e2
  rw [getD_lt (by simpa using hi2)]
  simp only [List.getElem_toArray]
  by_cases hin : off ≤ i ∧ i < off + vs.length
  · rw [if_pos hin] at e1
    rw [if_pos (by omega)] at e2
    exact hu _ _ _ e1.symm e2.symm
  · rw [if_neg hin] at e1
    rw [if_neg (by omega)] at e2
    rw [List.getElem?_eq_getElem hi'] at e1
    have hi3 : i < arr.size := by omega
    rw [Array.getElem?_toList, Array.getElem?_eq_getElem hi3] at e2
    rw [Option.some.inj e1, Option.some.inj e2]
    have := hc i hi'
    rwa [getD_lt hi3] at this

theorem setMany_splice (cs vs : List AV) (off : Nat) (h : off + vs.length ≤ cs.length) : setMany cs off vs = cs.take off ++ vs ++ cs.drop (off + vs.length) := by
  apply List.ext_getElem?
  intro i
  rw [setMany_get _ _ _ _ h, List.append_assoc, List.getElem?_append]
  simp only [List.length_take, Nat.min_eq_left (show off ≤ cs.length by omega)]
  by_cases h1 : i < off
  · rw [if_pos h1, if_neg (by omega), List.getElem?_take, if_pos h1]
  · rw [if_neg h1, List.getElem?_append]
    by_cases h2 : i - off < vs.length
    · rw [if_pos h2, if_pos (by omega)]
    · rw [if_neg h2, if_neg (by omega), List.getElem?_drop]
      congr 1
      omega

theorem pure_and {p q : Bool} {v : AV} {u : Value} (hr : Rep w B own ω (cond p 0 nx) v u) : Rep w B own ω (cond (p && q) 0 nx) v u := by
  cases p
  · exact hr
  · cases q
    · exact hr.up (Nat.zero_le _)
    · exact hr

theorem row_eq {b : Nat} {arr : Array Value} {e : TypeId} {f : Nat × Nat} (hb : w.heap[b]? = some (.cells arr e f)) {n : Nat} (hr : rowSize w b = some n) : n = arr.size := by
  simp only [rowSize, hb, Option.some.injEq] at hr
  exact hr.symm

/-- Cells written into an own block. -/
theorem write_row (H : Hp w B own ω nx h) {id b off : Nat} {hb : HB} {vs : List AV} {us : List Value} {q : Bool} (hid : hget h id = some hb) (hω : ω id = some b) (hv : vs.length = us.length)
    (hu : ∀ (j : Nat) (a : AV) (v : Value), vs[j]? = some a → us[j]? = some v → Rep w B own ω (cond q 0 nx) a v) (h1 : ∀ v ∈ us, v.oneCell' = true) (hoff : off + us.length ≤ hb.cells.length) :
    ∃ w', (storeCells ⟨b, off, none⟩ us).run P w = .ok () w' ∧ Ext w own ω nx w' own ω nx ∧ Hp w' B own ω nx (hset h id ⟨hb.cells.take off ++ vs ++ hb.cells.drop (off + vs.length), hb.elem, hb.pure && q⟩) := by
  obtain ⟨arr, h3, h4, h5, h6⟩ := H.there hid hω
  have hst := run_storeCells_at P b off hb.elem us 0 arr w h4 (by omega) h1
  simp only [Nat.add_zero] at hst
  refine ⟨_, hst, H.write hid hω (hb2 := ⟨_, hb.elem, _⟩) rfl rfl rfl (by simp) (fun k hk => setRow_other w b k _ hk) (setRow_heap w b arr _ hb.elem (0, 0) h4) (fun n hr => ?_) ?_ ?_⟩
  · rw [row_eq h4 hr]; simp; omega
  · simp; omega
  · refine splice_rep h5 (fun i hi => pure_and (h6 i hi)) hv (fun j a v ha hv => ?_) hoff
    rw [Bool.and_comm]
    exact pure_and (hu j a v ha hv)

theorem store_sound (H : Hp w B own ω nx h) {t : TypeId} {id off : Nat} {v : AV} {ua u : Value} {vs : List AV} {i : TypeInfo} {hb : HB} {kv : AV → Heap → Nat → Bool} (ha : Rep w B own ω nx (.ptr id off) ua) (hr : Rep w B own ω nx v u)
    (hc : v.cellsL = some vs) (hi : P.info? t = some i) (hid : hget h id = some hb) (ho : vs.all AV.one = true) (h1 : vs.length = i.size) (h2 : off + vs.length ≤ hb.cells.length)
    (hk : kv (.tup []) (hset h id ⟨setAt hb.cells off vs, hb.elem, hb.pure && vs.all (AV.noRef 2)⟩) nx = true) :
    ∃ w', (Instr.storeAt t ua u).run P w = .ok () w' ∧ Ext w own ω nx w' own ω nx ∧ Hp w' B own ω nx (hset h id ⟨setAt hb.cells off vs, hb.elem, hb.pure && vs.all (AV.noRef 2)⟩) := by
  have hl := cellsL_rep hr hc
  cases ha with
  | ptr _ _ _ b g1 g2 =>
    obtain ⟨w', hst, E, H'⟩ := write_row (P := P) H (vs := vs) (us := u.cells.toList) (q := vs.all (AV.noRef 2)) (off := off) hid g2 (by simpa using hl.1)
      (fun j a x ha hx => rep_cond (hl.at ha (by simpa using hx)) (fun e => List.all_eq_true.1 e _ (List.mem_of_getElem? ha))) (hl.one ho) (by have := hl.1; simp; omega)
    refine ⟨w', ?_, E, by rw [setAt_eq h2, setMany_splice _ _ _ h2]; exact H'⟩
    have hs : u.cells.size = i.size := by have := hl.1; omega
    simp [Instr.storeAt, Instr.sureAddr, storeVar, sizeOf, typeInfo, hi, hs, hst, Sem.run, Result.andThen]

/-- What a slice's cells are. -/
def Src (w : World) (B : Nat → Prop) (own : Nat → Prop) (ω : Nat → Option Nat) (nx sz : Nat) (u : Value) (cells : List AV) (m : Nat) (p : Bool) : Prop :=
  cells.length = m * sz ∧ ((∃ a c, u = .slice a 0 c ∧ m = 0) ∨ ∃ (b o c : Nat) (news : List Value), u = .slice (some ⟨b, o, none⟩) m c ∧ news.length = m * sz ∧ (∀ (j : Nat) (x : Value), news[j]? = some x → w.cell? ((⟨b, o, none⟩ : Addr).add j) = some x) ∧
    ∀ (j : Nat) (a : AV) (x : Value), cells[j]? = some a → news[j]? = some x → Rep w B own ω (cond p 0 nx) a x)

theorem range_get {vs : Nat → Value} {n j : Nat} {x : Value} (h : ((List.range n).map vs)[j]? = some x) : j < n ∧ x = vs j := by
  simp only [List.getElem?_map, Option.map_eq_some_iff] at h
  obtain ⟨y, hy, rfl⟩ := h
  obtain ⟨h1, h2⟩ := List.getElem?_eq_some_iff.1 hy
  simp at h1 h2
  subst h2
  exact ⟨h1, rfl⟩

theorem srcK_sound (H : Hp w B own ω nx h) {sz : Nat} {x : AV} {u : Value} {k : List AV → Nat → Bool → Bool} (hx : Rep w B own ω nx x u) (hk : srcK h sz x k false = true) :
    ∃ cells m p, k cells m p = true ∧ Src w B own ω nx sz u cells m p := by
  unfold srcK at hk
  split at hk
  · cases hx; exact ⟨[], 0, true, hk, by simp, .inl ⟨_, _, rfl, rfl⟩⟩
  · cases hx; exact ⟨[], 0, true, hk, by simp, .inl ⟨_, _, rfl, rfl⟩⟩
  · cases hx; exact ⟨[], 0, true, hk, by simp, .inl ⟨_, _, rfl, rfl⟩⟩
  · rename_i cells n
    replace hk := of_cond hk
    obtain ⟨hl, hk⟩ := hk
    replace hl := of_beq hl
    refine ⟨cells, n, true, hk, hl, ?_⟩
    cases hx with
    | lst _ _ _ cap b o vs g1 g2 g3 g4 =>
      refine .inr ⟨b, o, cap, (List.range cells.length).map vs, rfl, by simp [hl], fun j x hj => ?_, fun j a x ha hj => ?_⟩
      · obtain ⟨h1, rfl⟩ := range_get hj
        rw [addr_add]; exact g3 j h1
      · obtain ⟨h1, rfl⟩ := range_get hj
        obtain ⟨_, e⟩ := List.getElem?_eq_some_iff.1 ha
        rw [← e]; exact g4 j h1
    | lstn => exact .inl ⟨_, _, rfl, rfl⟩
  · rename_i id off n s app
    split at hk
    · rename_i hb hid
      replace hk := of_cond hk
      obtain ⟨hc, hk⟩ := hk
      obtain ⟨h1, h2⟩ := of_and hc
      replace h1 := of_beq h1
      replace h2 := of_ble h2
      subst h1
      have key : ∀ b c, ω id = some b → u = .slice (some ⟨b, off, none⟩) n c → Src w B own ω nx s u ((hb.cells.drop off).take (n * s)) n hb.pure := fun b c hω hu => by
        obtain ⟨arr, h3, h4, h5, h6⟩ := H.there hid hω
        refine ⟨by simp; omega, .inr ⟨b, off, c, (List.range (n * s)).map (fun j => arr.getD (off + j) undef), hu, by simp, fun j x hj => ?_, fun j a x ha hj => ?_⟩⟩
        · obtain ⟨hj1, rfl⟩ := range_get hj
          have : off + j < arr.size := by omega
          rw [addr_add]
          simp [World.cell?, h4, this]
        · obtain ⟨hj1, rfl⟩ := range_get hj
          rw [List.getElem?_take, if_pos hj1, List.getElem?_drop] at ha
          obtain ⟨hlt, e⟩ := List.getElem?_eq_some_iff.1 ha
          rw [← e]; exact h6 _ hlt
      cases hx with
      | sl _ _ _ _ _ cap b g1 g2 g3 => exact ⟨_, _, _, hk, key b cap g2 rfl⟩
      | sla _ _ _ _ cap b g1 g2 g3 g4 g5 => exact ⟨_, _, _, hk, key b cap g2 rfl⟩
    · cases hk
  · cases hk

theorem Src.one {sz m : Nat} {cells : List AV} {p : Bool} {news : List Value} (hl : cells.length = m * sz) (hn : news.length = m * sz) (ho : cells.all AV.one = true)
    (hr : ∀ (j : Nat) (a : AV) (x : Value), cells[j]? = some a → news[j]? = some x → Rep w B own ω (cond p 0 nx) a x) : ∀ v ∈ news, v.oneCell' = true := fun v hv => by
  obtain ⟨j, hj, e⟩ := List.mem_iff_getElem.1 hv
  have hj' : j < cells.length := by omega
  exact one_rep (hr j _ _ (List.getElem?_eq_getElem hj') (by rw [List.getElem?_eq_getElem hj, e])) (List.all_eq_true.1 ho _ (List.getElem_mem hj'))

end
end Go.Bas
