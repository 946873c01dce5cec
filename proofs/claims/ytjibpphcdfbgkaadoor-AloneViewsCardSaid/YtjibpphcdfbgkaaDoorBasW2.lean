/- The engine, part E: operations that make or write own blocks; The engine, part F: append, copy, len, min, max, and what is equal; The engine, part G: what is equal; The engine, part H: every operation that part B knows is the model's. -/
import Derived.Test.YtjibpphcdfbgkaaDoorBasW1
section
namespace Go.Bas
open Go.RowKit
set_option linter.unusedSimpArgs false
set_option linter.unusedVariables false

section
variable {w : World} {B : Nat → Prop} {own : Nat → Prop} {ω : Nat → Option Nat} {nx : Nat} {h : Heap} {P : Program}

/-- A list of abstract values, cell by cell. -/
def RepL (w : World) (B : Nat → Prop) (own : Nat → Prop) (ω : Nat → Option Nat) (nx : Nat) (cells : List AV) (arr : Array Value) : Prop :=
  cells.length = arr.size ∧ ∀ i (hi : i < cells.length), Rep w B own ω nx cells[i] (arr.getD i undef)

theorem getD_lt {arr : Array Value} {i : Nat} (hi : i < arr.size) : arr.getD i undef = arr[i] := by simp [hi]

theorem repL_ofS (arr : Array Value) : RepL w B own ω nx (arr.toList.map ofS) arr := by
  refine ⟨by simp, fun i hi => ?_⟩
  have hi' : i < arr.size := by simpa using hi
  rw [getD_lt hi']
  simp only [List.getElem_map, Array.getElem_toList]
  exact rep_ofS _ _ _ _ _ _

theorem zeroCells_some {t : TypeId} {cs : List AV} (hz : zeroCells P t = some cs) : ∃ i v, P.info? t = some i ∧ i.zero = some v ∧ v.cells.size = i.size ∧ cs = v.cells.toList.map ofS := by
  unfold zeroCells at hz
  split at hz
  · rename_i i hi
    split at hz
    · rename_i v hv
      cases hb : Nat.beq v.cells.size i.size with
      | true =>
        rw [hb] at hz
        simp only [cond_true, Option.some.injEq] at hz
        exact ⟨i, v, hi, hv, of_beq hb, hz.symm⟩
      | false => rw [hb] at hz; cases hz
    · cases hz
  · cases hz

theorem all_noRef {cs : List AV} {d : Nat} (ha : cs.all (AV.noRef d) = true) : ∀ i (hi : i < cs.length), cs[i].noRef d = true := fun i hi => (List.all_eq_true.1 ha) _ (List.getElem_mem hi)

theorem rep_cond {p : Bool} {v : AV} {u : Value} (hr : Rep w B own ω nx v u) (hp : p = true → v.noRef 2 = true) : Rep w B own ω (cond p 0 nx) v u := by
  cases p with
  | false => exact hr
  | true => exact hr.down (hp rfl) 0

theorem rowSize_lt {b n : Nat} (hr : rowSize w b = some n) : b < w.heap.size := by
  rcases Nat.lt_or_ge b w.heap.size with h' | h'
  · exact h'
  · simp [rowSize, Array.getElem?_eq_none h'] at hr

/-- What an operation has come to. -/
def Yields (P : Program) (w : World) (B : Nat → Prop) (own : Nat → Prop) (ω : Nat → Option Nat) (nx : Nat) (kv : AV → Heap → Nat → Bool) (r : Result Value) : Prop :=
  ∃ u w' v h' nx' own' ω', r = .ok u w' ∧ kv v h' nx' = true ∧ Ext w own ω nx w' own' ω' nx' ∧ Hp w' B own' ω' nx' h' ∧ Rep w' B own' ω' nx' v u

/-- A new block. -/
theorem Hp.new (H : Hp w B own ω nx h) {arr : Array Value} {hb : HB} (hlen : hb.cells.length ≤ arr.size) (hcell : ∀ i (hi : i < hb.cells.length), Rep w B own ω (cond hb.pure 0 nx) hb.cells[i] (arr.getD i undef)) :
    Ext w own ω nx (w.alloc (.cells arr hb.elem)) (fun x => own x ∨ x = w.heap.size) (fun i => if i = nx then some w.heap.size else ω i) (nx + 1) ∧
    Hp (w.alloc (.cells arr hb.elem)) B (fun x => own x ∨ x = w.heap.size) (fun i => if i = nx then some w.heap.size else ω i) (nx + 1) ((nx, hb) :: h) :=
  H.put (w' := w.alloc (.cells arr hb.elem)) rfl rfl rfl (by simp) (fun k hk _ => heap_alloc_old w _ hk) (heap_alloc_new w _) (.inl (Nat.le_refl _)) (fun n hr => absurd (rowSize_lt hr) (Nat.lt_irrefl _)) (fun _ _ hx => hx) hlen hcell

theorem new_ptr (H : Hp w B own ω nx h) {arr : Array Value} {cs : List AV} {t : TypeId} {p : Bool} {kv : AV → Heap → Nat → Bool} (hl : RepL w B own ω nx cs arr) (hp : p = true → cs.all (AV.noRef 2) = true)
    (hk : kv (.ptr nx 0) ((nx, ⟨cs, t, p⟩) :: h) (nx + 1) = true) : Yields P w B own ω nx kv (.ok (.pointer (some ⟨w.heap.size, 0, none⟩)) (w.alloc (.cells arr t))) := by
  obtain ⟨E, H'⟩ := H.new (arr := arr) (hb := ⟨cs, t, p⟩) (Nat.le_of_eq hl.1) (fun i hi => rep_cond (hl.2 i hi) (fun e => all_noRef (hp e) i hi))
  exact ⟨_, _, _, _, _, _, _, rfl, hk, E, H', .ptr _ _ _ _ (by omega) (by simp)⟩

/-- An operation that makes a block ('n0': its number). -/
def Makes (w : World) (B : Nat → Prop) (own : Nat → Prop) (ω : Nat → Option Nat) (nx : Nat) (kv : AV → Heap → Nat → Bool) (h : Heap) (n0 : Nat) (r : Result Value) : Prop :=
  ∃ (mk : Nat → AV) (cs : List AV) (e : TypeId) (p : Bool) (arr : Array Value) (u : Value), r = .ok u (w.alloc (.cells arr e)) ∧ kv (mk n0) ((n0, ⟨cs, e, p⟩) :: h) (n0 + 1) = true ∧ RepL w B own ω nx cs arr ∧ (p = true → cs.all (AV.noRef 2) = true) ∧
    ((mk = (fun i => .ptr i 0) ∧ u = .pointer (some ⟨w.heap.size, 0, none⟩)) ∨ ∃ n cap sz, mk = (fun i => .sl i 0 n sz true) ∧ u = .slice (some ⟨w.heap.size, 0, none⟩) n cap ∧ n ≤ cap ∧ cap ≤ maxLen ∧ arr.size = cap * sz)

theorem alloc_makes {t : TypeId} {cs : List AV} {kv : AV → Heap → Nat → Bool} {n0 : Nat} (hz : zeroCells P t = some cs) (hk : kv (.ptr n0 0) ((n0, ⟨cs, t, true⟩) :: h) (n0 + 1) = true) :
    Makes w B own ω nx kv h n0 ((Instr.alloc t true (.tuple #[])).run P w) := by
  obtain ⟨i, v, hi, hv, hs, rfl⟩ := zeroCells_some hz
  have hr : (Instr.alloc t true (.tuple #[])).run P w = .ok (.pointer (some ⟨w.heap.size, 0, none⟩)) (w.alloc (.cells v.cells t)) := by
    simp [Instr.alloc, zeroValue, typeInfo, hi, hv, newVar, newRow, newObj, Sem.run, Result.andThen]
  rw [hr]
  refine ⟨_, _, _, _, _, _, rfl, hk, repL_ofS v.cells, fun _ => List.all_eq_true.2 fun x hx => ?_, .inl ⟨rfl, rfl⟩⟩
  obtain ⟨y, _, rfl⟩ := List.mem_map.1 hx
  unfold ofS
  split <;> rfl

theorem cellsL_rep {v : AV} {u : Value} {vs : List AV} (hr : Rep w B own ω nx v u) (hc : v.cellsL = some vs) : RepL w B own ω nx vs u.cells := by
  have one : ∀ {v : AV} {u : Value}, Rep w B own ω nx v u → v.cellsL = some [v] → u.cells = #[u] → v.cellsL = some vs → RepL w B own ω nx vs u.cells := fun hr h1 h2 h3 => by
    rw [h1, Option.some.injEq] at h3
    subst h3
    rw [h2]
    exact ⟨rfl, fun i hi => by simp at hi; subst hi; simpa using hr⟩
  cases hr with
  | any => cases hc
  | agg _ cs asv h1 h2 => simp only [AV.cellsL, Option.some.injEq] at hc; subst hc; exact ⟨h1, h2⟩
  | bool => exact one (.bool _ _) rfl rfl hc
  | int => exact one (.int _ _ _) rfl rfl hc
  | str => exact one (.str _ _) rfl rfl hc
  | nilp => exact one (.nilp _) rfl rfl hc
  | ptr _ _ _ b h1 h2 => exact one (.ptr _ _ _ _ h1 h2) rfl rfl hc
  | iptr _ _ _ b o vs' h1 h2 h3 => exact one (.iptr _ _ _ b o vs' h1 h2 h3) rfl rfl hc
  | nils => exact one (.nils _) rfl rfl hc
  | lst _ _ _ cap b o vs' h1 h2 h3 h4 => exact one (.lst _ _ _ _ b o vs' h1 h2 h3 h4) rfl rfl hc
  | lstn => exact one (.lstn _ _ _) rfl rfl hc
  | es => exact one (.es _ _) rfl rfl hc
  | ns => exact one (.ns _ _ _) rfl rfl hc
  | sl _ _ _ _ _ cap b h1 h2 h3 => exact one (.sl _ _ _ _ _ _ _ h1 h2 h3) rfl rfl hc
  | sla _ _ _ _ cap b h1 h2 h3 h4 h5 => exact one (.sla _ _ _ _ _ _ h1 h2 h3 h4 h5) rfl rfl hc
  | yld _ _ l h1 h2 => exact one (.yld _ _ _ h1 h2) rfl rfl hc
  | mp _ _ l h1 h2 => exact one (.mp _ _ _ h1 h2) rfl rfl hc
  | fn _ _ _ _ fs cs h1 h2 h3 h4 => exact one (.fn _ _ _ _ _ _ h1 h2 h3 h4) rfl rfl hc
  | nilfn => exact one (.nilfn _) rfl rfl hc
  | iface _ _ _ _ h1 => exact one (.iface _ _ _ _ h1) rfl rfl hc
  | niliface => exact one (.niliface _) rfl rfl hc
  | tup _ _ _ h1 h2 => exact one (.tup _ _ _ h1 h2) rfl rfl hc

theorem box_makes {t : TypeId} {v : AV} {u : Value} {cs : List AV} {kv : AV → Heap → Nat → Bool} {n0 : Nat} (hr : Rep w B own ω nx v u) (hc : v.cellsL = some cs)
    (hk : kv (.ptr n0 0) ((n0, ⟨cs, t, cs.all (AV.noRef 2)⟩) :: h) (n0 + 1) = true) : Makes w B own ω nx kv h n0 ((Instr.box t u).run P w) := by
  have hrun : (Instr.box t u).run P w = .ok (.pointer (some ⟨w.heap.size, 0, none⟩)) (w.alloc (.cells u.cells t)) := by
    simp [Instr.box, newVar, newRow, newObj, Sem.run, Result.andThen]
  rw [hrun]
  exact ⟨_, _, _, _, _, _, rfl, hk, cellsL_rep hr hc, fun e => e, .inl ⟨rfl, rfl⟩⟩

theorem setMany_length : ∀ (vs cells : List AV) (off : Nat), (setMany cells off vs).length = cells.length
  | [], _, _ => rfl
  | v :: r, cells, off => by simp [setMany, setMany_length r]
theorem setMany_cons (x : AV) : ∀ (vs l : List AV) (n : Nat), setMany (x :: l) (n + 1) vs = x :: setMany l n vs
  | [], l, n => rfl
  | v :: r, l, n => by
    show setMany (x :: l.set n v) (n + 1 + 1) r = x :: setMany (l.set n v) (n + 1) r
    exact setMany_cons x r _ _
theorem lsplice_eq : ∀ (cells : List AV) (off : Nat) (vs : List AV), off + vs.length ≤ cells.length → lsplice cells off vs = setMany cells off vs
  | [], off, vs, h => by
    have hv : vs = [] := List.eq_nil_of_length_eq_zero (by have : off + vs.length ≤ 0 := h; omega)
    subst hv
    rfl
  | a :: r, 0, [], _ => rfl
  | a :: r, 0, v :: w, h => by
    have ih := lsplice_eq r 0 w (by simp at h ⊢; omega)
    show v :: lsplice r 0 w = setMany (v :: r) 1 w
    rw [ih, setMany_cons]
  | a :: r, m + 1, vs, h => by
    have ih := lsplice_eq r m vs (by simp at h ⊢; omega)
    show a :: lsplice r m vs = setMany (a :: r) (m + 1) vs
    rw [ih, setMany_cons]
theorem setAt_eq {cells vs : List AV} {off : Nat} (h : off + vs.length ≤ cells.length) : setAt cells off vs = setMany cells off vs := by
  unfold setAt
  split
  · rfl
  · rfl
  · exact lsplice_eq _ _ _ h
theorem setMany_get : ∀ (vs cells : List AV) (off j : Nat), off + vs.length ≤ cells.length → (setMany cells off vs)[j]? = if off ≤ j ∧ j < off + vs.length then vs[j - off]? else cells[j]?
  | [], cells, off, j, _ => by simp [setMany]; omega
  | v :: r, cells, off, j, hl => by
    simp only [List.length_cons] at hl
    rw [setMany, setMany_get r _ _ _ (by simp; omega)]
    simp only [List.length_cons]
    by_cases h1 : off + 1 ≤ j ∧ j < off + 1 + r.length
    · rw [if_pos h1, if_pos (by omega), show j - off = (j - (off + 1)) + 1 by omega, List.getElem?_cons_succ]
    · rw [if_neg h1]
      by_cases h2 : j = off
      · subst h2
        rw [if_pos (by omega), Nat.sub_self, List.getElem?_cons_zero, List.getElem?_set_self (by omega)]
      · rw [if_neg (by omega), List.getElem?_set_ne (Ne.symm h2)]

theorem repL_of {cells : List AV} {arr : Array Value} (hl : cells.length = arr.size) (hj : ∀ (j : Nat) (a : AV) (v : Value), cells[j]? = some a → arr[j]? = some v → Rep w B own ω nx a v) : RepL w B own ω nx cells arr :=
  ⟨hl, fun i hi => by
    have hi' : i < arr.size := by omega
    rw [getD_lt hi']
    exact hj i _ _ (List.getElem?_eq_getElem hi) (Array.getElem?_eq_getElem hi')⟩
theorem RepL.at {cells : List AV} {arr : Array Value} (hl : RepL w B own ω nx cells arr) {j : Nat} {a : AV} {v : Value} (h1 : cells[j]? = some a) (h2 : arr[j]? = some v) : Rep w B own ω nx a v := by
  obtain ⟨hi, e⟩ := List.getElem?_eq_some_iff.1 h1
  obtain ⟨hi', e'⟩ := Array.getElem?_eq_some_iff.1 h2
  have := hl.2 j hi
  rw [getD_lt hi', e, e'] at this
  exact this

theorem fold_get (off : Nat) : ∀ (us : List Value) (n : Nat) (arr : Array Value) (j : Nat), off + n + us.length ≤ arr.size →
    ((us.zipIdx n).foldl (fun (cs : Array Value) p => cs.setIfInBounds (off + p.2) p.1) arr)[j]? = if off + n ≤ j ∧ j < off + n + us.length then us[j - (off + n)]? else arr[j]?
  | [], n, arr, j, _ => by simp; omega
  | u :: r, n, arr, j, hl => by
    simp only [List.length_cons] at hl
    simp only [List.zipIdx_cons, List.foldl_cons]
    rw [fold_get off r (n + 1) _ j (by simp; omega)]
    simp only [List.length_cons]
    by_cases h1 : off + (n + 1) ≤ j ∧ j < off + (n + 1) + r.length
    · rw [if_pos h1, if_pos (by omega), show j - (off + n) = (j - (off + (n + 1))) + 1 by omega, List.getElem?_cons_succ]
    · rw [if_neg h1]
      by_cases h2 : j = off + n
      · subst h2
        rw [if_pos (by omega), Nat.sub_self, List.getElem?_cons_zero, Array.getElem?_setIfInBounds_self_of_lt (by omega)]
      · rw [if_neg (by omega), Array.getElem?_setIfInBounds_ne (Ne.symm h2)]
theorem fold_size (off : Nat) : ∀ (us : List Value) (n : Nat) (arr : Array Value), ((us.zipIdx n).foldl (fun (cs : Array Value) p => cs.setIfInBounds (off + p.2) p.1) arr).size = arr.size
  | [], _, _ => rfl
  | u :: r, n, arr => by simp only [List.zipIdx_cons, List.foldl_cons]; rw [fold_size off r]; simp

theorem fillK_sound {place : Nat → Option (Nat × Nat)} {k : List AV → Bool} : ∀ (parts : List (Nat × AV)) (vparts : List (Nat × Value)) (cells : List AV) (arr : Array Value), parts.length = vparts.length →
    (∀ (j : Nat) (p : Nat × AV) (q : Nat × Value), parts[j]? = some p → vparts[j]? = some q → p.1 = q.1 ∧ Rep w B own ω nx p.2 q.2) → RepL w B own ω nx cells arr → fillK place cells parts k false = true →
    ∃ cells' arr', Instr.fill place arr vparts = some arr' ∧ RepL w B own ω nx cells' arr' ∧ k cells' = true
  | [], [], cells, arr, _, _, hl, hk => ⟨cells, arr, rfl, hl, hk⟩
  | [], _ :: _, _, _, hlen, _, _, _ => by simp at hlen
  | _ :: _, [], _, _, hlen, _, _, _ => by simp at hlen
  | (i, v) :: rest, (i', u) :: vrest, cells, arr, hlen, hp, hl, hk => by
    have h0 := hp 0 (i, v) (i', u) rfl rfl
    have hi : i = i' := h0.1
    have hr : Rep w B own ω nx v u := h0.2
    subst hi
    simp only [fillK] at hk
    split at hk
    · rename_i off size vs hpl hcs
      replace hk := of_cond hk
      obtain ⟨hc, hk⟩ := hk
      obtain ⟨h1, h2⟩ := of_and hc
      replace h1 := of_beq h1
      replace h2 := of_ble h2
      have hv := cellsL_rep hr hcs
      have e1 : ¬ (u.cells.size ≠ size || off + u.cells.size > arr.size) = true := by
        have := hv.1
        have := hl.1
        simp
        omega
      have hsz : off + 0 + u.cells.toList.length ≤ arr.size := by
        have := hv.1; have := hl.1; simp; omega
      have hl' : RepL w B own ω nx (setAt cells off vs) (u.cells.zipIdx.foldl (fun cs p => cs.setIfInBounds (off + p.2) p.1) arr) := by
        rw [setAt_eq (by omega), ← Array.foldl_toList, Array.toList_zipIdx]
        refine repL_of (by rw [setMany_length, fold_size]; exact hl.1) (fun j a x ha hx => ?_)
        rw [setMany_get _ _ _ _ (by omega)] at ha
        rw [fold_get off _ 0 _ _ hsz] at hx
        have := hv.1
        by_cases hj : off ≤ j ∧ j < off + vs.length
        · rw [if_pos hj] at ha
          rw [if_pos (by simp; omega)] at hx
          simp only [Nat.add_zero, Array.getElem?_toList] at hx
          exact hv.at ha hx
        · rw [if_neg hj] at ha
          rw [if_neg (by simp; omega)] at hx
          exact hl.at ha hx
      obtain ⟨cells', arr', hf, hl2, hk2⟩ := fillK_sound rest vrest _ _ (by simpa using hlen) (fun j p q hp1 hq1 => hp (j + 1) p q (by simpa using hp1) (by simpa using hq1)) hl' hk
      refine ⟨cells', arr', ?_, hl2, hk2⟩
      simp only [Instr.fill, hpl]
      rw [if_neg e1]
      exact hf
    · cases hk

theorem places_map : ∀ (fs : List Field), (fs.all fun f => (P.info? f.type).isSome) = true → fs.mapM (fun f => (P.info? f.type).map fun i => (f.offset, i.size)) = some (fs.map fun f => (f.offset, ((P.info? f.type).map (·.size)).getD 0))
  | [], _ => rfl
  | f :: r, h => by
    simp only [List.all_cons, Bool.and_eq_true] at h
    obtain ⟨x, hx⟩ := Option.isSome_iff_exists.1 h.1
    simp [List.mapM_cons, hx, places_map r h.2]

theorem build_sound {t : TypeId} {parts : List (Nat × AV)} {vparts : Array (Nat × Value)} {k : AV → Bool} (hlen : parts.length = vparts.size)
    (hp : ∀ (j : Nat) (p : Nat × AV) (q : Nat × Value), parts[j]? = some p → vparts.toList[j]? = some q → p.1 = q.1 ∧ Rep w B own ω nx p.2 q.2) (hk : buildK P t parts k false = true) :
    Reckons P w B own ω nx (Instr.build t vparts) k := by
  unfold buildK at hk
  split at hk
  · rename_i zs fs hz hu
    obtain ⟨i, v, hi, hv, hs, rfl⟩ := zeroCells_some hz
    replace hk := of_cond hk
    obtain ⟨ho, hk⟩ := hk
    obtain ⟨cells', arr', hf, hl, hk2⟩ := fillK_sound parts vparts.toList _ v.cells (by simpa using hlen) hp (repL_ofS v.cells) hk
    refine ⟨_, .agg arr', fun w' _ => ?_, .agg _ _ _ hl.1 hl.2, hk2⟩
    have hpl : (fun j => (fs.map fun f => (f.offset, ((P.info? f.type).map (·.size)).getD 0))[j]?) = fieldPlaces P fs := by
      funext j
      simp only [fieldPlaces, Array.getElem?_map]
      cases hj : fs[j]? with
      | none => rfl
      | some f =>
        have : (P.info? f.type).isSome = true := by
          have := List.all_eq_true.1 ho f (by rw [← Array.getElem?_toList] at hj; exact List.mem_of_getElem? hj)
          simpa using this
        obtain ⟨x, hx⟩ := Option.isSome_iff_exists.1 this
        simp [hx]
    have hm := run_places (P := P) w' fs.toList _ (places_map fs.toList ho)
    have hpl2 : (fun j : Nat => (List.map (fun f : Field => (f.offset, ((P.info? f.type).map (·.size)).getD 0)) fs.toList)[j]?) = fieldPlaces P fs := by
      rw [← hpl]
      funext j
      simp
    simp [Instr.build, run_underlying hu, typeInfo, zeroValue, hi, hv, Array.mapM_eq_mapM_toList, hm, Sem.run, Result.andThen]
    simp only [List.getElem?_map, Array.getElem?_toList] at hpl2
    rw [hpl2, hf]
    rfl
  · rename_i zs len e hz hu
    obtain ⟨i, v, hi, hv, hs, rfl⟩ := zeroCells_some hz
    split at hk
    · rename_i ie hie
      obtain ⟨cells', arr', hf, hl, hk2⟩ := fillK_sound parts vparts.toList _ v.cells (by simpa using hlen) hp (repL_ofS v.cells) hk
      refine ⟨_, .agg arr', fun w' _ => ?_, .agg _ _ _ hl.1 hl.2, hk2⟩
      simp [Instr.build, zeroValue, typeInfo, hi, hv, run_underlying hu, sizeOf, hie, hf, Sem.run, Result.andThen]
    · cases hk
  · cases hk

theorem flat_get {α : Type} (zs : List α) : ∀ (n j : Nat), ((List.replicate n zs).flatten)[j]? = if j < n * zs.length then zs[j % zs.length]? else none
  | 0, j => by simp
  | n + 1, j => by
    rw [List.replicate_succ, List.flatten_cons, List.getElem?_append]
    by_cases hj : j < zs.length
    · rw [if_pos hj, if_pos (by rw [Nat.succ_mul]; omega), Nat.mod_eq_of_lt hj]
    · rw [if_neg hj, flat_get zs n (j - zs.length)]
      have e : (n + 1) * zs.length = n * zs.length + zs.length := Nat.succ_mul _ _
      by_cases h2 : j - zs.length < n * zs.length
      · rw [if_pos h2, if_pos (by omega), Nat.mod_eq_sub_mod (Nat.le_of_not_lt hj)]
      · rw [if_neg h2, if_neg (by omega)]

theorem repL_made {v : Value} {zs : List AV} {n size : Nat} (hs : v.cells.size = size) (hz : zs = v.cells.toList.map ofS) : RepL w B own ω nx ((List.replicate n zs).flatten) (madeCells v.cells (n * size)) := by
  subst hz
  have hl : (v.cells.toList.map ofS).length = size := by simpa using hs
  have hlen : ((List.replicate n (v.cells.toList.map ofS)).flatten).length = n * size := by
    rw [List.length_flatten]; simp [hs]
  refine repL_of (by rw [hlen, size_madeCells]) (fun j a x ha hx => ?_)
  rw [flat_get, hl] at ha
  have hj : j < n * size := by
    rcases Nat.lt_or_ge j (n * size) with h | h
    · exact h
    · rw [if_neg (by omega)] at ha; cases ha
  rw [if_pos hj] at ha
  have hpos : 0 < size := by
    rcases Nat.eq_zero_or_pos size with h | h
    · subst h; simp at hj
    · exact h
  have hm : j % size < v.cells.size := by rw [hs]; exact Nat.mod_lt _ hpos
  simp only [List.getElem?_map, Array.getElem?_toList, Array.getElem?_eq_getElem hm, Option.map_some, Option.some.injEq] at ha
  simp only [madeCells, Array.getElem?_map, Array.getElem?_range, hj, if_true, Option.map_some, Option.some.injEq] at hx
  rw [hs] at hx
  rw [← ha, ← hx]
  have : v.cells[j % size]! = v.cells[j % size] := by simp [hm]
  rw [this]
  exact rep_ofS _ _ _ _ _ _

theorem all_ofS {l : List Value} : (l.map ofS).all (AV.noRef 2) = true := List.all_eq_true.2 fun x hx => by
  obtain ⟨y, _, rfl⟩ := List.mem_map.1 hx
  unfold ofS
  split <;> rfl

/-- A slice over a new block of the run's own. -/
theorem new_sl (H : Hp w B own ω nx h) {arr : Array Value} {cs : List AV} {e : TypeId} {p : Bool} {n cap sz : Nat} {kv : AV → Heap → Nat → Bool} (hl : RepL w B own ω nx cs arr) (hp : p = true → cs.all (AV.noRef 2) = true)
    (hn : n ≤ cap) (hm : cap ≤ maxLen) (hc : arr.size = cap * sz) (hk : kv (.sl nx 0 n sz true) ((nx, ⟨cs, e, p⟩) :: h) (nx + 1) = true) :
    Yields P w B own ω nx kv (.ok (.slice (some ⟨w.heap.size, 0, none⟩) n cap) (w.alloc (.cells arr e))) := by
  obtain ⟨E, H'⟩ := H.new (arr := arr) (hb := ⟨cs, e, p⟩) (Nat.le_of_eq hl.1) (fun i hi => rep_cond (hl.2 i hi) (fun e => all_noRef (hp e) i hi))
  refine ⟨_, _, _, _, _, _, _, rfl, hk, E, H', .sla _ _ _ _ _ _ (by omega) (by simp) hn hm ?_⟩
  have := heap_alloc_new w (.cells arr e)
  simp only [rowSize]
  rw [this]
  simp [hc]

theorem buildSlice_makes {n0 : Nat} {t e : TypeId} {len : Nat} {i : TypeInfo} {zs : List AV} {parts : List (Nat × AV)} {vparts : Array (Nat × Value)} {kv : AV → Heap → Nat → Bool} (hu : P.underlying t = some (.slice e)) (hi : P.info? e = some i) (hz : zeroCells P e = some zs)
    (hle : Nat.ble (len * i.size) 16777216 = true) (hlm : Nat.ble len maxLen = true) (hlen : parts.length = vparts.size)
    (hp : ∀ (j : Nat) (p : Nat × AV) (q : Nat × Value), parts[j]? = some p → vparts.toList[j]? = some q → p.1 = q.1 ∧ Rep w B own ω nx p.2 q.2)
    (hk : fillK (fun j => some (j * i.size, i.size)) (List.replicate len zs).flatten parts (fun cs => kv (.sl n0 0 len i.size true) ((n0, ⟨cs, e, cs.all (AV.noRef 2)⟩) :: h) (n0 + 1)) false = true) :
    Makes w B own ω nx kv h n0 ((Instr.buildSlice t len vparts).run P w) := by
  obtain ⟨i', v, hi', hv, hs, rfl⟩ := zeroCells_some hz
  rw [hi] at hi'; obtain rfl := Option.some.inj hi'
  obtain ⟨cells', arr', hf, hl, hk2⟩ := fillK_sound parts vparts.toList _ (madeCells v.cells (len * i.size)) (by simpa using hlen) hp (repL_made hs rfl) hk
  have h16 := of_ble hle
  have hsz : arr'.size = len * i.size := by
    have : ∀ (l : List (Nat × Value)) (a b : Array Value), Instr.fill (fun j => some (j * i.size, i.size)) a l = some b → b.size = a.size := by
      intro l
      induction l with
      | nil => intro a b h; simp only [Instr.fill, Option.some.injEq] at h; rw [h]
      | cons x r ih =>
        intro a b h
        obtain ⟨j, u⟩ := x
        simp only [Instr.fill] at h
        split at h
        · cases h
        · rw [ih _ _ h, ← Array.foldl_toList, Array.toList_zipIdx, fold_size]
    rw [this _ _ _ hf, size_madeCells]
  have hrun : (Instr.buildSlice t len vparts).run P w = .ok (.slice (some ⟨w.heap.size, 0, none⟩) len len) (w.alloc (.cells arr' e)) := by
    have n16 : ¬ (16777216 < len * i.size) := by omega
    by_cases h0 : len * i.size = 0
    · have hm : madeCells v.cells (len * i.size) = (Array.range (len * i.size)).map (fun j => (#[] : Array Value)[j % (#[] : Array Value).size]!) := by
        rw [h0]; simp [madeCells]
      rw [hm] at hf
      simp [Instr.buildSlice, run_underlying hu, sizeOf, typeInfo, hi, n16, h0, Sem.run, Result.andThen]
      rw [h0] at hf
      simp at hf
      rw [hf]
      simp [newRow, newObj, Sem.run, Result.andThen]
    · simp [Instr.buildSlice, run_underlying hu, sizeOf, typeInfo, hi, n16, h0, zeroValue, hv, Sem.run, Result.andThen]
      simp only [madeCells] at hf
      rw [hf]
      simp [newRow, newObj, Sem.run, Result.andThen]
  rw [hrun]
  exact ⟨_, _, _, _, _, _, rfl, hk2, hl, fun e => e, .inr ⟨_, _, _, rfl, rfl, Nat.le_refl _, of_ble hlm, hsz⟩⟩

theorem makeSlice_makes {n0 : Nat} {t : TypeId} {len cap : AV} {ul uc : Value} {kv : AV → Heap → Nat → Bool} (hl : Rep w B own ω nx len ul) (hc : Rep w B own ω nx cap uc)
    (hk : makeSliceK P h n0 t len cap kv false = true) : Makes w B own ω nx kv h n0 ((Instr.makeSlice t ul uc).run P w) := by
  unfold makeSliceK at hk
  split at hk
  · rename_i e kl l kc c hu
    cases hl
    cases hc
    split at hk
    · rename_i i zs hi hz
      obtain ⟨i', v, hi', hv, hs, rfl⟩ := zeroCells_some hz
      rw [hi] at hi'; obtain rfl := Option.some.inj hi'
      replace hk := of_cond hk
      obtain ⟨hb, hk⟩ := hk
      obtain ⟨b1, b2⟩ := of_and hb
      obtain ⟨b2, b3⟩ := of_and b2
      obtain ⟨b3, b4⟩ := of_and b3
      replace b1 : 0 ≤ l := by simpa using b1
      replace b2 : l ≤ c := by simpa using b2
      replace b3 := of_ble b3
      replace b4 := of_ble b4
      have hm : c.toNat ≤ 9223372036854775807 := by simpa [maxLen] using b3
      have hbytes : (i.bytes : Int) * c ≤ 281474976710656 := by
        have h1 : ((c.toNat * i.bytes : Nat) : Int) ≤ 140737488355328 := by omega
        rw [Int.natCast_mul, Int.toNat_of_nonneg (by omega), Int.mul_comm] at h1
        omega
      rw [run_make (P := P) w t e i v hu hi hv kl kc l c b1 b2 hbytes (by omega)]
      exact ⟨_, _, _, _, _, _, rfl, hk, repL_made hs rfl, fun _ => List.all_eq_true.2 fun x hx => by
        obtain ⟨y, hy, hxy⟩ := List.mem_flatten.1 hx
        rw [(List.mem_replicate.1 hy).2] at hxy
        exact List.all_eq_true.1 all_ofS x hxy, .inr ⟨_, _, _, rfl, rfl, by omega, b3, by rw [size_madeCells]⟩⟩
    · cases hk
  · cases hk

theorem Makes.yields (H : Hp w B own ω nx h) {kv : AV → Heap → Nat → Bool} {r : Result Value} (hm : Makes w B own ω nx kv h nx r) : Yields P w B own ω nx kv r := by
  obtain ⟨mk, cs, e, p, arr, u, rfl, hk, hl, hp, ⟨rfl, rfl⟩ | ⟨n, cap, sz, rfl, rfl, h1, h2, h3⟩⟩ := hm
  · exact new_ptr H hl hp hk
  · exact new_sl H hl hp h1 h2 h3 hk

theorem one_rep {v : AV} {u : Value} (hr : Rep w B own ω nx v u) (ho : v.one = true) : u.oneCell' = true := by
  cases hr <;> first | rfl | cases ho

theorem RepL.one {cs : List AV} {arr : Array Value} (hl : RepL w B own ω nx cs arr) (ho : cs.all AV.one = true) : ∀ v ∈ arr.toList, v.oneCell' = true := fun v hv => by
  obtain ⟨j, hj, e⟩ := List.mem_iff_getElem.1 hv
  have hj' : j < cs.length := by rw [hl.1]; simpa using hj
  exact one_rep (hl.at (List.getElem?_eq_getElem hj') (by rw [← Array.getElem?_toList, List.getElem?_eq_getElem hj, e])) (List.all_eq_true.1 ho _ (List.getElem_mem hj'))

/-- An own block that is there. -/
theorem Hp.there (H : Hp w B own ω nx h) {id b : Nat} {hb : HB} (hid : hget h id = some hb) (hω : ω id = some b) :
    ∃ arr, own b ∧ w.heap[b]? = some (.cells arr hb.elem (0, 0)) ∧ hb.cells.length ≤ arr.size ∧ ∀ i (hi : i < hb.cells.length), Rep w B own ω (cond hb.pure 0 nx) hb.cells[i] (arr.getD i undef) := by
  obtain ⟨_, c, arr, h2, h3, h4, h5, h6⟩ := H.rel id hb hid
  rw [h2] at hω
  cases hω
  exact ⟨arr, h3, h4, h5, h6⟩

theorem Hp.lies (H : Hp w B own ω nx h) {id b : Nat} {hb : HB} (hid : hget h id = some hb) (hω : ω id = some b) : Lies w B own ω nx b 0 hb.cells := by
  obtain ⟨arr, h3, h4, h5, h6⟩ := H.there hid hω
  refine ⟨fun i => arr.getD i undef, fun i hi => ?_, fun i hi => ?_⟩
  · have hi' : i < arr.size := by omega
    simp [World.cell?, h4, hi']
  · have := h6 i hi
    cases hp : hb.pure with
    | false => rw [hp] at this; exact this
    | true => rw [hp] at this; exact Rep.up this (Nat.zero_le _)

theorem splice_rep {cs vs : List AV} {arr : Array Value} {us : List Value} {off : Nat} {nx' : Nat} (hlen : cs.length ≤ arr.size) (hc : ∀ i (hi : i < cs.length), Rep w B own ω nx' cs[i] (arr.getD i undef))
    (hv : vs.length = us.length) (hu : ∀ (j : Nat) (a : AV) (v : Value), vs[j]? = some a → us[j]? = some v → Rep w B own ω nx' a v) (hoff : off + us.length ≤ cs.length) :
    (∀ i (hi : i < (cs.take off ++ vs ++ cs.drop (off + vs.length)).length), Rep w B own ω nx' ((cs.take off ++ vs ++ cs.drop (off + vs.length))[i]) ((arr.toList.take off ++ us ++ arr.toList.drop (off + us.length)).toArray.getD i undef)) := by
  intro i hi
  have hlen2 : (cs.take off ++ vs ++ cs.drop (off + vs.length)).length = cs.length := by simp; omega
  have hi' : i < cs.length := by omega
  have e : ∀ {α : Type} (l m : List α), off + m.length ≤ l.length → (l.take off ++ m ++ l.drop (off + m.length))[i]? = if off ≤ i ∧ i < off + m.length then m[i - off]? else l[i]? := fun l m hm => by
    rw [List.append_assoc, List.getElem?_append]
    simp only [List.length_take, Nat.min_eq_left (show off ≤ l.length by omega)]
    by_cases h1 : i < off
    · rw [if_pos h1, if_neg (by omega), List.getElem?_take, if_pos h1]
    · rw [if_neg h1, List.getElem?_append]
      by_cases h2 : i - off < m.length
      · rw [if_pos h2, if_pos (by omega)]
      · rw [if_neg h2, if_neg (by omega), List.getElem?_drop]
        congr 1
        omega
  have e1 := e cs vs (by omega)
  have e2 := e arr.toList us (by simp; omega)
  have hi2 : i < (arr.toList.take off ++ us ++ arr.toList.drop (off + us.length)).length := by simp; omega
  rw [List.getElem?_eq_getElem hi] at e1
  rw [List.getElem?_eq_getElem hi2] at e2
  rw [getD_lt (by simpa using hi2)]
  simp only [List.getElem_toArray]
  by_cases hin : off ≤ i ∧ i < off + vs.length
  · rw [if_pos hin] at e1
    rw [if_pos (by omega)] at e2
    exact hu _ _ _ e1.symm e2.symm
  · rw [if_neg hin] at e1
    rw [if_neg (by omega)] at e2
    rw [List.getElem?_eq_getElem hi'] at e1
    have hi3 : i < arr.size := by omega
    rw [Array.getElem?_toList, Array.getElem?_eq_getElem hi3] at e2
    rw [Option.some.inj e1, Option.some.inj e2]
    have := hc i hi'
    rwa [getD_lt hi3] at this

theorem setMany_splice (cs vs : List AV) (off : Nat) (h : off + vs.length ≤ cs.length) : setMany cs off vs = cs.take off ++ vs ++ cs.drop (off + vs.length) := by
  apply List.ext_getElem?
  intro i
  rw [setMany_get _ _ _ _ h, List.append_assoc, List.getElem?_append]
  simp only [List.length_take, Nat.min_eq_left (show off ≤ cs.length by omega)]
  by_cases h1 : i < off
  · rw [if_pos h1, if_neg (by omega), List.getElem?_take, if_pos h1]
  · rw [if_neg h1, List.getElem?_append]
    by_cases h2 : i - off < vs.length
    · rw [if_pos h2, if_pos (by omega)]
    · rw [if_neg h2, if_neg (by omega), List.getElem?_drop]
      congr 1
      omega

theorem pure_and {p q : Bool} {v : AV} {u : Value} (hr : Rep w B own ω (cond p 0 nx) v u) : Rep w B own ω (cond (p && q) 0 nx) v u := by
  cases p
  · exact hr
  · cases q
    · exact hr.up (Nat.zero_le _)
    · exact hr

theorem row_eq {b : Nat} {arr : Array Value} {e : TypeId} {f : Nat × Nat} (hb : w.heap[b]? = some (.cells arr e f)) {n : Nat} (hr : rowSize w b = some n) : n = arr.size := by
  simp only [rowSize, hb, Option.some.injEq] at hr
  exact hr.symm

/-- Cells written into an own block. -/
theorem write_row (H : Hp w B own ω nx h) {id b off : Nat} {hb : HB} {vs : List AV} {us : List Value} {q : Bool} (hid : hget h id = some hb) (hω : ω id = some b) (hv : vs.length = us.length)
    (hu : ∀ (j : Nat) (a : AV) (v : Value), vs[j]? = some a → us[j]? = some v → Rep w B own ω (cond q 0 nx) a v) (h1 : ∀ v ∈ us, v.oneCell' = true) (hoff : off + us.length ≤ hb.cells.length) :
    ∃ w', (storeCells ⟨b, off, none⟩ us).run P w = .ok () w' ∧ Ext w own ω nx w' own ω nx ∧ Hp w' B own ω nx (hset h id ⟨hb.cells.take off ++ vs ++ hb.cells.drop (off + vs.length), hb.elem, hb.pure && q⟩) := by
  obtain ⟨arr, h3, h4, h5, h6⟩ := H.there hid hω
  have hst := run_storeCells_at P b off hb.elem us 0 arr w h4 (by omega) h1
  simp only [Nat.add_zero] at hst
  refine ⟨_, hst, H.write hid hω (hb2 := ⟨_, hb.elem, _⟩) rfl rfl rfl (by simp) (fun k hk => setRow_other w b k _ hk) (setRow_heap w b arr _ hb.elem (0, 0) h4) (fun n hr => ?_) ?_ ?_⟩
  · rw [row_eq h4 hr]; simp; omega
  · simp; omega
  · refine splice_rep h5 (fun i hi => pure_and (h6 i hi)) hv (fun j a v ha hv => ?_) hoff
    rw [Bool.and_comm]
    exact pure_and (hu j a v ha hv)

theorem store_sound (H : Hp w B own ω nx h) {t : TypeId} {id off : Nat} {v : AV} {ua u : Value} {vs : List AV} {i : TypeInfo} {hb : HB} {kv : AV → Heap → Nat → Bool} (ha : Rep w B own ω nx (.ptr id off) ua) (hr : Rep w B own ω nx v u)
    (hc : v.cellsL = some vs) (hi : P.info? t = some i) (hid : hget h id = some hb) (ho : vs.all AV.one = true) (h1 : vs.length = i.size) (h2 : off + vs.length ≤ hb.cells.length)
    (hk : kv (.tup []) (hset h id ⟨setAt hb.cells off vs, hb.elem, hb.pure && vs.all (AV.noRef 2)⟩) nx = true) :
    ∃ w', (Instr.storeAt t ua u).run P w = .ok () w' ∧ Ext w own ω nx w' own ω nx ∧ Hp w' B own ω nx (hset h id ⟨setAt hb.cells off vs, hb.elem, hb.pure && vs.all (AV.noRef 2)⟩) := by
  have hl := cellsL_rep hr hc
  cases ha with
  | ptr _ _ _ b g1 g2 =>
    obtain ⟨w', hst, E, H'⟩ := write_row (P := P) H (vs := vs) (us := u.cells.toList) (q := vs.all (AV.noRef 2)) (off := off) hid g2 (by simpa using hl.1)
      (fun j a x ha hx => rep_cond (hl.at ha (by simpa using hx)) (fun e => List.all_eq_true.1 e _ (List.mem_of_getElem? ha))) (hl.one ho) (by have := hl.1; simp; omega)
    refine ⟨w', ?_, E, by rw [setAt_eq h2, setMany_splice _ _ _ h2]; exact H'⟩
    have hs : u.cells.size = i.size := by have := hl.1; omega
    simp [Instr.storeAt, Instr.sureAddr, storeVar, sizeOf, typeInfo, hi, hs, hst, Sem.run, Result.andThen]

/-- What a slice's cells are. -/
def Src (w : World) (B : Nat → Prop) (own : Nat → Prop) (ω : Nat → Option Nat) (nx sz : Nat) (u : Value) (cells : List AV) (m : Nat) (p : Bool) : Prop :=
  cells.length = m * sz ∧ ((∃ a c, u = .slice a 0 c ∧ m = 0) ∨ ∃ (b o c : Nat) (news : List Value), u = .slice (some ⟨b, o, none⟩) m c ∧ news.length = m * sz ∧ (∀ (j : Nat) (x : Value), news[j]? = some x → w.cell? ((⟨b, o, none⟩ : Addr).add j) = some x) ∧
    ∀ (j : Nat) (a : AV) (x : Value), cells[j]? = some a → news[j]? = some x → Rep w B own ω (cond p 0 nx) a x)

theorem range_get {vs : Nat → Value} {n j : Nat} {x : Value} (h : ((List.range n).map vs)[j]? = some x) : j < n ∧ x = vs j := by
  simp only [List.getElem?_map, Option.map_eq_some_iff] at h
  obtain ⟨y, hy, rfl⟩ := h
  obtain ⟨h1, h2⟩ := List.getElem?_eq_some_iff.1 hy
  simp at h1 h2
  subst h2
  exact ⟨h1, rfl⟩

theorem srcK_sound (H : Hp w B own ω nx h) {sz : Nat} {x : AV} {u : Value} {k : List AV → Nat → Bool → Bool} (hx : Rep w B own ω nx x u) (hk : srcK h sz x k false = true) :
    ∃ cells m p, k cells m p = true ∧ Src w B own ω nx sz u cells m p := by
  unfold srcK at hk
  split at hk
  · cases hx; exact ⟨[], 0, true, hk, by simp, .inl ⟨_, _, rfl, rfl⟩⟩
  · cases hx; exact ⟨[], 0, true, hk, by simp, .inl ⟨_, _, rfl, rfl⟩⟩
  · cases hx; exact ⟨[], 0, true, hk, by simp, .inl ⟨_, _, rfl, rfl⟩⟩
  · rename_i cells n
    replace hk := of_cond hk
    obtain ⟨hl, hk⟩ := hk
    replace hl := of_beq hl
    refine ⟨cells, n, true, hk, hl, ?_⟩
    cases hx with
    | lst _ _ _ cap b o vs g1 g2 g3 g4 =>
      refine .inr ⟨b, o, cap, (List.range cells.length).map vs, rfl, by simp [hl], fun j x hj => ?_, fun j a x ha hj => ?_⟩
      · obtain ⟨h1, rfl⟩ := range_get hj
        rw [addr_add]; exact g3 j h1
      · obtain ⟨h1, rfl⟩ := range_get hj
        obtain ⟨_, e⟩ := List.getElem?_eq_some_iff.1 ha
        rw [← e]; exact g4 j h1
    | lstn => exact .inl ⟨_, _, rfl, rfl⟩
  · rename_i id off n s app
    split at hk
    · rename_i hb hid
      replace hk := of_cond hk
      obtain ⟨hc, hk⟩ := hk
      obtain ⟨h1, h2⟩ := of_and hc
      replace h1 := of_beq h1
      replace h2 := of_ble h2
      subst h1
      have key : ∀ b c, ω id = some b → u = .slice (some ⟨b, off, none⟩) n c → Src w B own ω nx s u ((hb.cells.drop off).take (n * s)) n hb.pure := fun b c hω hu => by
        obtain ⟨arr, h3, h4, h5, h6⟩ := H.there hid hω
        refine ⟨by simp; omega, .inr ⟨b, off, c, (List.range (n * s)).map (fun j => arr.getD (off + j) undef), hu, by simp, fun j x hj => ?_, fun j a x ha hj => ?_⟩⟩
        · obtain ⟨hj1, rfl⟩ := range_get hj
          have : off + j < arr.size := by omega
          rw [addr_add]
          simp [World.cell?, h4, this]
        · obtain ⟨hj1, rfl⟩ := range_get hj
          rw [List.getElem?_take, if_pos hj1, List.getElem?_drop] at ha
          obtain ⟨hlt, e⟩ := List.getElem?_eq_some_iff.1 ha
          rw [← e]; exact h6 _ hlt
      cases hx with
      | sl _ _ _ _ _ cap b g1 g2 g3 => exact ⟨_, _, _, hk, key b cap g2 rfl⟩
      | sla _ _ _ _ cap b g1 g2 g3 g4 g5 => exact ⟨_, _, _, hk, key b cap g2 rfl⟩
    · cases hk
  · cases hk

theorem Src.one {sz m : Nat} {cells : List AV} {p : Bool} {news : List Value} (hl : cells.length = m * sz) (hn : news.length = m * sz) (ho : cells.all AV.one = true)
    (hr : ∀ (j : Nat) (a : AV) (x : Value), cells[j]? = some a → news[j]? = some x → Rep w B own ω (cond p 0 nx) a x) : ∀ v ∈ news, v.oneCell' = true := fun v hv => by
  obtain ⟨j, hj, e⟩ := List.mem_iff_getElem.1 hv
  have hj' : j < cells.length := by omega
  exact one_rep (hr j _ _ (List.getElem?_eq_getElem hj') (by rw [List.getElem?_eq_getElem hj, e])) (List.all_eq_true.1 ho _ (List.getElem_mem hj'))

end
end Go.Bas
end
section
namespace Go.Bas
open Go.RowKit
set_option linter.unusedSimpArgs false
set_option linter.unusedVariables false

section
variable {w : World} {B : Nat → Prop} {own : Nat → Prop} {ω : Nat → Option Nat} {nx : Nat} {h : Heap} {P : Program}

theorem run_append_nothing (t ty e : TypeId) (i : TypeInfo) (ht : P.underlying t = some (.slice e)) (hi : P.info? e = some i) (a x : Option Addr) (n c c' : Nat) (hn : n ≤ c) :
    (Builtin.append_ #[t, t] ty #[.slice a n c, .slice x 0 c']).run P w = .ok (.slice a n c) w := by
  cases a <;> cases x <;> simp [Builtin.append_, run_underlying ht, sizeOf, typeInfo, hi, Builtin.lenOf, Builtin.firstCells, hn, Sem.run, Result.andThen, loadCells, loadCellsFrom, storeCells]

theorem run_append_zero (t ty e : TypeId) (i : TypeInfo) (z : Value) (ht : P.underlying t = some (.slice e)) (hi : P.info? e = some i) (hz : i.zero = some z)
    (a0 : Option Addr) (a : Addr) (n c : Nat) (news : List Value) (hl : news.length = n * i.size) (hnews : ∀ (j : Nat) (v : Value), news[j]? = some v → w.cell? (a.add j) = some v)
    (h0 : 0 < n) (h63 : (n : Int) ≤ 9223372036854775807) (h48 : n * i.bytes ≤ 140737488355328) :
    (Builtin.append_ #[t, t] ty #[.slice a0 0 0, .slice (some a) n c]).run P w =
      .ok (.slice (some ⟨w.heap.size, 0, none⟩) n (grownCap w n 0 e)) (w.drew.alloc (.cells (news.toArray ++ Builtin.zeroCells z.cells (grownCap w n 0 e - n)) e)) := by
  cases a0 with
  | none => exact run_append_nil (P := P) w t ty e i z ht hi hz a n c news hl hnews h0 h63 (by omega)
  | some b =>
    have := run_append_grow (P := P) w t ty e i z ht hi hz b 0 0 [] (by simp) (fun j v h => by simp at h) a n c news hl hnews (by omega) (by omega) (growslice_fits (by omega) (by simpa using h48))
    simpa using this

theorem hdel_sub {id : Nat} : ∀ j x, hget (hdel h id) j = some x → hget h j = some x := fun j x hx => by
  rw [hget_hdel] at hx
  split at hx
  · cases hx
  · exact hx
theorem hdel_other (H : Hp w B own ω nx h) {id b : Nat} {hb : HB} (hid : hget h id = some hb) (hω : ω id = some b) : ∀ j, (hget (hdel h id) j).isSome = true → ω j ≠ some b := fun j hj he => by
  rw [hget_hdel] at hj
  split at hj
  · cases hj
  · rename_i hne
    exact hne (H.inj j id b hj (by simp [hid]) he hω)

/-- A row in a block of its own, grown. -/
theorem grown_row (H : Hp w B own ω nx h) {h' : Heap} (hsub : ∀ j x, hget h' j = some x → hget h j = some x) {e : TypeId} {cells : List AV} {us rest : List Value} {p : Bool} {n cap sz : Nat} (hlen : cells.length = us.length) (hn : n ≤ cap) (hm : cap ≤ maxLen)
    (hsz : us.length + rest.length = cap * sz) (hu : ∀ (j : Nat) (a : AV) (v : Value), cells[j]? = some a → us[j]? = some v → Rep w B own ω (cond p 0 nx) a v) {arr : Array Value} (harr : arr.toList = us ++ rest) :
    ∃ own' ω', Ext w own ω nx (w.drew.alloc (.cells arr e)) own' ω' (nx + 1) ∧ Hp (w.drew.alloc (.cells arr e)) B own' ω' (nx + 1) ((nx, ⟨cells, e, p⟩) :: h') ∧
      Rep (w.drew.alloc (.cells arr e)) B own' ω' (nx + 1) (.sl nx 0 n sz true) (.slice (some ⟨w.heap.size, 0, none⟩) n cap) := by
  have hs : arr.size = us.length + rest.length := by rw [← Array.length_toList, harr, List.length_append]
  have hb : (w.drew.alloc (.cells arr e)).heap[w.heap.size]? = some (.cells arr e (0, 0)) := heap_alloc_new w.drew _
  obtain ⟨E, H'⟩ := H.put (w' := w.drew.alloc (.cells arr e)) (h' := h') (b := w.heap.size) (arr := arr) (hb := ⟨cells, e, p⟩) rfl rfl rfl (by simp) (fun k hk _ => heap_alloc_old w.drew _ hk) hb (.inl (Nat.le_refl _))
    (fun n hr => absurd (rowSize_lt hr) (Nat.lt_irrefl _)) hsub (by simp only [hlen]; omega) (fun i hi => by
      have h1 : i < us.length := by simp only [hlen] at hi; omega
      have h2 : i < arr.size := by omega
      rw [getD_lt h2]
      refine hu i _ _ (List.getElem?_eq_getElem hi) ?_
      have : arr.toList[i]? = us[i]? := by rw [harr, List.getElem?_append_left h1]
      rw [← this, Array.getElem?_toList, Array.getElem?_eq_getElem h2])
  refine ⟨_, _, E, H', .sla _ _ _ _ _ _ (by omega) (by simp) hn hm ?_⟩
  simp only [rowSize]
  rw [hb]
  simp [hs, hsz]

theorem okBytes_iff {n b : Nat} (hk : okBytes n b = true) : n ≤ maxLen ∧ n * b ≤ 140737488355328 := by
  obtain ⟨h1, h2⟩ := of_and hk
  exact ⟨of_ble h1, of_ble h2⟩

theorem append_cells {cs new : List AV} {us news : List Value} {p q : Bool} (hl : cs.length = us.length) (h1 : ∀ (j : Nat) (a : AV) (v : Value), cs[j]? = some a → us[j]? = some v → Rep w B own ω (cond p 0 nx) a v)
    (h2 : ∀ (j : Nat) (a : AV) (v : Value), new[j]? = some a → news[j]? = some v → Rep w B own ω (cond q 0 nx) a v) :
    ∀ (j : Nat) (a : AV) (v : Value), (cs ++ new)[j]? = some a → (us ++ news)[j]? = some v → Rep w B own ω (cond (p && q) 0 nx) a v := fun j a v ha hv => by
  by_cases hj : j < cs.length
  · rw [List.getElem?_append_left hj] at ha
    rw [List.getElem?_append_left (by omega)] at hv
    exact pure_and (h1 j a v ha hv)
  · rw [List.getElem?_append_right (by omega)] at ha
    rw [List.getElem?_append_right (by omega), ← hl] at hv
    rw [Bool.and_comm]
    exact pure_and (h2 _ a v ha hv)

theorem append_onto_nil (H : Hp w B own ω nx h) {t ty e : TypeId} {i : TypeInfo} {z : Value} {ux : Value} {new : List AV} {m : Nat} {pn : Bool} {h' : Heap} {p : Bool} {kv : AV → Heap → Nat → Bool} (hu : P.underlying t = some (.slice e)) (hi : P.info? e = some i) (hzz : i.zero = some z) (hzs : z.cells.size = i.size)
    (hsrc : Src w B own ω nx i.size ux new m pn) (hb : okBytes m i.bytes = true) (hsub : ∀ j x, hget h' j = some x → hget h j = some x) (a0 : Option Addr) (hm0 : ¬ m = 0)
    (hk : kv (.sl nx 0 m i.size true) ((nx, ⟨new, e, p && pn⟩) :: h') (nx + 1) = true) : Yields P w B own ω nx kv ((Builtin.append_ #[t, t] ty #[.slice a0 0 0, ux]).run P w) := by
  obtain ⟨b1, b2⟩ := okBytes_iff hb
  have b1' : m ≤ 9223372036854775807 := by simpa [maxLen] using b1
  obtain ⟨hnl, hsrc⟩ := hsrc
  rcases hsrc with ⟨a1, c1', rfl, hm1⟩ | ⟨b, o, c, news, rfl, g1, g2, g3⟩
  · exact absurd hm1 hm0
  · · rw [run_append_zero t ty e i z hu hi hzz a0 ⟨b, o, none⟩ m c news g1 g2 (by omega) (by omega) b2]
      have hge := grownCap_ge w m 0 e
      have hcm := grownCap_le_maxLen w m 0 e b1
      obtain ⟨own', ω', E, H', R⟩ := grown_row H (h' := h') hsub (e := e) (cells := new) (us := news) (rest := (Builtin.zeroCells z.cells (grownCap w m 0 e - m)).toList) (p := p && pn) (n := m) (cap := grownCap w m 0 e) (sz := i.size)
        (by omega) hge hcm (by rw [g1, Array.length_toList, size_zeroCells, hzs, ← Nat.add_mul]; congr 1; omega)
        (fun j a v ha hv => by rw [Bool.and_comm]; exact pure_and (g3 j a v ha hv)) (arr := news.toArray ++ Builtin.zeroCells z.cells (grownCap w m 0 e - m)) (by simp)
      exact ⟨_, _, _, _, _, _, _, rfl, hk, E, H', R⟩

/-- Nothing is appended. -/
theorem append_zero (H : Hp w B own ω nx h) {t ty e : TypeId} {i : TypeInfo} {ux : Value} {new : List AV} {pn : Bool} {kv : AV → Heap → Nat → Bool} {v : AV} (hu : P.underlying t = some (.slice e)) (hi : P.info? e = some i)
    (hsrc : Src w B own ω nx i.size ux new 0 pn) (a0 : Option Addr)
    (hk : kv v h nx = true) (hr : Rep w B own ω nx v (.slice a0 0 0)) : Yields P w B own ω nx kv ((Builtin.append_ #[t, t] ty #[.slice a0 0 0, ux]).run P w) := by
  have : (Builtin.append_ #[t, t] ty #[.slice a0 0 0, ux]).run P w = .ok (.slice a0 0 0) w := by
    rcases hsrc.2 with ⟨a1, c1', rfl, _⟩ | ⟨b, o, c, news, rfl, _⟩
    · exact run_append_nothing t ty e i hu hi a0 a1 0 0 c1' (Nat.le_refl _)
    · exact run_append_nothing t ty e i hu hi a0 (some ⟨b, o, none⟩) 0 0 c (Nat.le_refl _)
  rw [this]
  exact ⟨_, _, _, _, _, _, _, rfl, hk, Ext.refl _ _ _ _, H, hr⟩

set_option maxHeartbeats 1000000 in
theorem appendK_sound (H : Hp w B own ω nx h) {t t' ty : TypeId} {s x : AV} {us ux : Value} {kv : AV → Heap → Nat → Bool} (hs : Rep w B own ω nx s us) (hx : Rep w B own ω nx x ux)
    (hk : appendK P h nx t t' s x kv false = true) : Yields P w B own ω nx kv ((Builtin.append_ #[t, t'] ty #[us, ux]).run P w) := by
  unfold appendK at hk
  replace hk := of_cond hk
  obtain ⟨ht, hk⟩ := hk
  obtain rfl := of_beq ht
  split at hk
  · rename_i e hu
    split at hk
    · rename_i i hi
      replace hk := of_cond hk
      obtain ⟨hz, hk⟩ := hk
      replace hz := of_and hz; obtain ⟨hz1, hz2⟩ := hz
      have hpos : 0 < i.size := of_ble hz1
      obtain ⟨z, hzz, hzs⟩ : ∃ z, i.zero = some z ∧ z.cells.size = i.size := by
        cases hq : i.zero with
        | none => rw [hq] at hz2; cases hz2
        | some z => rw [hq] at hz2; exact ⟨z, rfl, of_beq hz2⟩
      replace hk := srcK_sound H hx hk
      obtain ⟨new, m, pn, hk, hsrc⟩ := hk
      replace hk := of_cond hk
      obtain ⟨hone, hk⟩ := hk
      obtain ⟨hnl, hsrc⟩ := hsrc
      split at hk
      · -- onto nil
        rcases of_cond2 hk with ⟨hm0, hk⟩ | ⟨hm0, hk⟩
        · cases hs
          obtain rfl := of_beq hm0
          exact append_zero H hu hi ⟨hnl, hsrc⟩ _ hk (.nils _)
        · replace hm0 : ¬ m = 0 := fun e => by rw [(beq_iff _ _).2 e] at hm0; cases hm0
          replace hk := of_cond hk; obtain ⟨hb, hk⟩ := hk
          cases hs
          exact append_onto_nil H (p := true) hu hi hzz hzs ⟨hnl, hsrc⟩ hb (fun _ _ hx => hx) none hm0 (by simpa using hk)
      · -- onto an empty slice
        rcases of_cond2 hk with ⟨hm0, hk⟩ | ⟨hm0, hk⟩
        · cases hs
          obtain rfl := of_beq hm0
          exact append_zero H hu hi ⟨hnl, hsrc⟩ _ hk (.es _ _)
        · replace hm0 : ¬ m = 0 := fun e => by rw [(beq_iff _ _).2 e] at hm0; cases hm0
          replace hk := of_cond hk; obtain ⟨hb, hk⟩ := hk
          cases hs
          exact append_onto_nil H (p := true) hu hi hzz hzs ⟨hnl, hsrc⟩ hb (fun _ _ hx => hx) _ hm0 (by simpa using hk)
      · -- onto an own row
        rename_i id n sz
        split at hk
        · rename_i hb hid
          replace hk := of_cond hk
          obtain ⟨hc, hk⟩ := hk
          replace hc := of_and hc; obtain ⟨c1, c2⟩ := hc
          replace c2 := of_and c2; obtain ⟨c2, c3⟩ := c2
          replace c3 := of_and c3; obtain ⟨c3, c4⟩ := c3
          replace c1 := of_beq c1
          replace c2 := of_beq c2
          replace c3 := of_ble c3
          obtain ⟨b1, b2⟩ := okBytes_iff c4
          have b1' : n + m ≤ 9223372036854775807 := by simpa [maxLen] using b1
          subst c1
          have htk : (hb.cells.take (n * i.size)).length = n * i.size := by simp; omega
          cases hs with
          | sla _ _ _ _ cap b q1 q2 q3 q4 q5 =>
            obtain ⟨arr, h3, h4, h5, h6⟩ := H.there hid q2
            have hsz := row_eq h4 q5
            have hold : ∀ (j : Nat) (a : AV) (v : Value), (hb.cells.take (n * i.size))[j]? = some a → (arr.toList.take (n * i.size))[j]? = some v → Rep w B own ω (cond hb.pure 0 nx) a v := fun j a v ha hv => by
              rw [List.getElem?_take] at ha hv
              split at ha
              · rename_i hj
                rw [if_pos hj] at hv
                obtain ⟨g, e1⟩ := List.getElem?_eq_some_iff.1 ha
                rw [Array.getElem?_toList] at hv
                obtain ⟨g', e2⟩ := Array.getElem?_eq_some_iff.1 hv
                have := h6 j g
                rw [getD_lt g', e1, e2] at this
                exact this
              · cases ha
            have hal : (arr.toList.take (n * i.size)).length = n * i.size := by simp; omega
            subst c2
            -- nothing is moved: the same block under a new number
            have same : new = [] → m = 0 → Yields P w B own ω nx kv (.ok (.slice (some ⟨b, 0, none⟩) n cap) w) := fun e1 e2 => by
              subst e1 e2
              have hlen : (hb.cells.take (n * i.size) ++ ([] : List AV)).length ≤ arr.size := by simp; omega
              obtain ⟨E, H'⟩ := H.put (w' := w) (h' := hdel h id) (b := b) (arr := arr) (hb := ⟨hb.cells.take (n * i.size) ++ [], hb.elem, hb.pure && pn⟩) rfl rfl rfl (Nat.le_refl _) (fun _ _ _ => rfl) h4 (.inr ⟨h3, hdel_other H hid q2⟩)
                (fun k hr => row_eq h4 hr) hdel_sub hlen (fun j hj => by
                  have hj2 : j < (hb.cells.take (n * i.size)).length := by simpa using hj
                  have hj3 : j < arr.size := by omega
                  refine pure_and ?_
                  refine hold j _ _ ?_ ?_
                  · simp only [List.append_nil]; exact List.getElem?_eq_getElem hj2
                  · rw [List.getElem?_take, if_pos (by omega), getD_lt hj3, Array.getElem?_toList, Array.getElem?_eq_getElem hj3])
              refine ⟨_, _, _, _, _, _, _, rfl, hk, E, H', .sla _ _ _ _ _ _ (by omega) (by simp) q3 q4 q5⟩
            rcases hsrc with ⟨a1, c1', rfl, hm0⟩ | ⟨b', o, c, news, rfl, g1, g2, g3⟩
            · rw [run_append_nothing t ty hb.elem i hu hi (some ⟨b, 0, none⟩) a1 n cap c1' q3]
              exact same (List.eq_nil_of_length_eq_zero (by rw [hnl, hm0]; simp)) hm0
            · have h1 := Src.one hnl g1 hone g3
              have hcells := append_cells (by omega) hold g3
              by_cases hroom : n + m ≤ cap
              · have hfit : n * i.size + news.length ≤ arr.size := by rw [g1, ← hsz, ← Nat.add_mul]; exact Nat.mul_le_mul_right _ hroom
                rw [run_append_room (P := P) w t ty hb.elem i hu hi b n cap arr h4 ⟨b', o, none⟩ m c news g1 g2 h1 hroom hfit]
                have hheap := setRow_heap w b arr (arr.toList.take (n * i.size) ++ news ++ arr.toList.drop (n * i.size + news.length)).toArray hb.elem (0, 0) h4
                have hsame : (arr.toList.take (n * i.size) ++ news ++ arr.toList.drop (n * i.size + news.length)).toArray.size = arr.size := by simp; omega
                obtain ⟨E, H'⟩ := H.put (w' := w.setRow b _) (h' := hdel h id) (b := b) (arr := (arr.toList.take (n * i.size) ++ news ++ arr.toList.drop (n * i.size + news.length)).toArray) (hb := ⟨hb.cells.take (n * i.size) ++ new, hb.elem, hb.pure && pn⟩)
                  rfl rfl rfl (by simp) (fun k hk hne => setRow_other w b k _ hne) hheap (.inr ⟨h3, hdel_other H hid q2⟩)
                  (fun k hr => by rw [hsame]; exact row_eq h4 hr) hdel_sub (by rw [hsame]; simp only [List.length_append, htk]; omega) (fun j hj => by
                    have hj2 : j < n * i.size + m * i.size := by simp only [List.length_append, htk, hnl] at hj; omega
                    have hj3 : j < (arr.toList.take (n * i.size) ++ news).length := by rw [List.length_append, hal, g1]; exact hj2
                    refine hcells j _ _ (List.getElem?_eq_getElem hj) ?_
                    rw [getD_lt (by rw [hsame]; omega), List.getElem_toArray, List.getElem_append_left hj3, List.getElem?_eq_getElem hj3])
                refine ⟨_, _, _, _, _, _, _, rfl, hk, E, H', .sla _ _ _ _ _ _ (by omega) (by simp) hroom q4 ?_⟩
                simp only [rowSize]
                rw [hheap]
                exact congrArg some (hsame.trans hsz.symm)
              · have holds : ∀ (j : Nat) (v : Value), (arr.toList.take (n * i.size))[j]? = some v → w.cell? ((⟨b, 0, none⟩ : Addr).add j) = some v := fun j v hv => by
                  rw [List.getElem?_take] at hv
                  split at hv
                  · rw [addr_add]
                    rw [Array.getElem?_toList] at hv
                    simp [World.cell?, h4, hv]
                  · cases hv
                rw [run_append_grow (P := P) w t ty hb.elem i z hu hi hzz ⟨b, 0, none⟩ n cap _ hal holds ⟨b', o, none⟩ m c news g1 g2 (by omega) (by omega) (growslice_fits (by omega) b2)]
                have hge := grownCap_ge w (n + m) cap hb.elem
                have hcm := grownCap_le_maxLen w (n + m) cap hb.elem b1
                obtain ⟨own', ω', E, H', R⟩ := grown_row H (h' := hdel h id) hdel_sub (e := hb.elem) (cells := hb.cells.take (n * i.size) ++ new) (us := arr.toList.take (n * i.size) ++ news)
                  (rest := (Builtin.zeroCells z.cells (grownCap w (n + m) cap hb.elem - (n + m))).toList) (p := hb.pure && pn) (n := n + m) (cap := grownCap w (n + m) cap hb.elem) (sz := i.size)
                  (by simp only [List.length_append]; omega) hge hcm (by rw [List.length_append, hal, g1, Array.length_toList, size_zeroCells, hzs, ← Nat.add_mul, ← Nat.add_mul]; congr 1; omega) hcells
                  (arr := (arr.toList.take (n * i.size)).toArray ++ news.toArray ++ Builtin.zeroCells z.cells (grownCap w (n + m) cap hb.elem - (n + m))) (by simp)
                exact ⟨_, _, _, _, _, _, _, rfl, hk, E, H', R⟩
        · cases hk
      · cases hk
    · cases hk
  · cases hk

theorem src_run {sz : Nat} {u : Value} {cells : List AV} {m n : Nat} {p : Bool} (hs : Src w B own ω nx sz u cells m p) :
    ∃ us : List Value, (Builtin.lenOf u).run P w = .ok m w ∧ (Builtin.firstCells sz (Nat.min m n) u).run P w = .ok us.toArray w ∧ us.length = Nat.min m n * sz ∧
      ∀ (j : Nat) (a : AV) (x : Value), (cells.take (Nat.min m n * sz))[j]? = some a → us[j]? = some x → Rep w B own ω (cond p 0 nx) a x := by
  obtain ⟨hl, hs⟩ := hs
  rcases hs with ⟨a1, c1', rfl, rfl⟩ | ⟨b, o, c, news, rfl, g1, g2, g3⟩
  · refine ⟨[], by simp [Builtin.lenOf, Sem.run], by cases a1 <;> simp [Builtin.firstCells, loadCells, loadCellsFrom, Sem.run], by simp, fun j a x _ hx => by simp at hx⟩
  · have hle : Nat.min m n * sz ≤ m * sz := Nat.mul_le_mul_right _ (Nat.min_le_left m n)
    refine ⟨news.take (Nat.min m n * sz), by simp [Builtin.lenOf, Sem.run], ?_, by rw [List.length_take, g1]; exact Nat.min_eq_left hle, fun j a x ha hx => ?_⟩
    · have := run_loadCells_list (P := P) w ⟨b, o, none⟩ (news.take (Nat.min m n * sz)) (fun j v hv => by
        rw [List.getElem?_take] at hv
        split at hv
        · exact g2 j v hv
        · cases hv)
      have hlen : (news.take (Nat.min m n * sz)).length = Nat.min m n * sz := by rw [List.length_take, g1]; exact Nat.min_eq_left hle
      rw [hlen] at this
      simpa [Builtin.firstCells] using this
    · rw [List.getElem?_take] at ha hx
      split at ha
      · rename_i hj
        rw [if_pos hj] at hx
        exact g3 j a x ha hx
      · cases ha

theorem copyK_sound (H : Hp w B own ω nx h) {t ty : TypeId} {ts : List TypeId} {d x : AV} {ud ux : Value} {kv : AV → Heap → Bool} (hd : Rep w B own ω nx d ud) (hx : Rep w B own ω nx x ux)
    (hk : copyK P h t d x kv false = true) :
    ∃ u w' v h', (Builtin.copy_ (t :: ts).toArray ty #[ud, ux]).run P w = .ok u w' ∧ kv v h' = true ∧ Ext w own ω nx w' own ω nx ∧ Hp w' B own ω nx h' ∧ Rep w' B own ω nx v u := by
  unfold copyK at hk
  split at hk
  · rename_i e hu
    split at hk
    · rename_i sz hsz
      obtain ⟨inf, hinf, rfl⟩ := elemSize_some hsz
      split at hk
      · rename_i id off n s app
        split at hk
        · rename_i hb hid
          replace hk := of_cond hk; obtain ⟨hc, hk⟩ := hk
          replace hc := of_and hc; obtain ⟨h1, h2⟩ := hc
          replace h1 := of_beq h1
          replace h2 := of_ble h2
          subst h1
          replace hk := srcK_sound H hx hk
          obtain ⟨new, m, pn, hk, hsrc⟩ := hk
          replace hk := of_cond hk; obtain ⟨hone, hk⟩ := hk
          obtain ⟨us, r1, r2, r3, r4⟩ := src_run (P := P) (n := n) hsrc
          have hnl := hsrc.1
          have hle : Nat.min m n * inf.size ≤ m * inf.size := Nat.mul_le_mul_right _ (Nat.min_le_left m n)
          have hle2 : Nat.min m n * inf.size ≤ n * inf.size := Nat.mul_le_mul_right _ (Nat.min_le_right m n)
          have htl : (new.take (Nat.min m n * inf.size)).length = Nat.min m n * inf.size := by simp; omega
          have main : ∀ b cap, ω id = some b → ud = .slice (some ⟨b, off, none⟩) n cap → ∃ u w' v h', (Builtin.copy_ (t :: ts).toArray ty #[ud, ux]).run P w = .ok u w' ∧ kv v h' = true ∧ Ext w own ω nx w' own ω nx ∧ Hp w' B own ω nx h' ∧ Rep w' B own ω nx v u := fun b cap hω hud => by
            subst hud
            have h1 := Src.one (sz := inf.size) (m := Nat.min m n) htl r3 (List.all_eq_true.2 fun x hx => List.all_eq_true.1 hone x (List.mem_of_mem_take hx)) r4
            obtain ⟨w', hst, E, H'⟩ := write_row (P := P) H (vs := new.take (Nat.min m n * inf.size)) (us := us) (q := pn) (off := off) hid hω (by omega) r4 h1 (by omega)
            refine ⟨.int .i64 (Nat.min m n : Nat), w', _, _, ?_, hk, E, ?_, .int _ _ _⟩
            · simp only [Nat.min_def] at r2 hst ⊢
              simp only [Builtin.copy_, List.getElem?_toArray, List.getElem?_cons_zero, run_underlying hu, sizeOf, typeInfo, hinf, r1, Sem.run_bind, Sem.run_pure, Result.andThen_ok]
              simp [run_underlying hu, r1, r2, hst, sizeOf, typeInfo, hinf, goInt, Sem.run, Result.andThen, Nat.min_def]
            · rw [htl] at H'
              exact H'
          cases hd with
          | sl _ _ _ _ _ cap b g1 g2 g3 => exact main b cap g2 rfl
          | sla _ _ _ _ cap b g1 g2 g3 g4 g5 => exact main b cap g2 rfl
        · cases hk
      · cases hk
    · cases hk
  · cases hk

theorem lenK_sound {t ty : TypeId} {ts : List TypeId} {x : AV} {us : List Value} {u : Value} {k : AV → Bool} (hx : Rep w B own ω nx x u) (hk : lenK P t x k false = true) :
    Reckons P w B own ω nx (Builtin.len_ (t :: ts).toArray ty (u :: us).toArray) k := by
  unfold lenK at hk
  split at hk
  · rename_i e hu
    split at hk
    · cases hx; exact ⟨_, _, fun _ _ => by simp [Builtin.len_, run_underlying hu, goInt, Sem.run, Result.andThen], .int _ _ _, hk⟩
    · cases hx; exact ⟨_, _, fun _ _ => by simp [Builtin.len_, run_underlying hu, goInt, Sem.run, Result.andThen], .int _ _ _, hk⟩
    · cases hx; exact ⟨_, _, fun _ _ => by simp [Builtin.len_, run_underlying hu, goInt, Sem.run, Result.andThen], .int _ _ _, hk⟩
    · cases hx <;> exact ⟨_, _, fun _ _ => by simp [Builtin.len_, run_underlying hu, goInt, Sem.run, Result.andThen], .int _ _ _, hk⟩
    · cases hx <;> exact ⟨_, _, fun _ _ => by simp [Builtin.len_, run_underlying hu, goInt, Sem.run, Result.andThen], .int _ _ _, hk⟩
    · cases hk
  · rename_i n e hu
    exact ⟨_, _, fun _ _ => by simp [Builtin.len_, run_underlying hu, goInt, Sem.run, Result.andThen], .int _ _ _, hk⟩
  · cases hk

theorem foldIntK_sound {f : Int → Int → Int} {g : Value → Value → Sem Value} (hg : ∀ w k x k' y, (g (.int k x) (.int k' y)).run P w = .ok (.int k (f x y)) w) {kd : IntKind} {k : AV → Bool} : ∀ (l : List AV) (us : List Value) (n : Int), l.length = us.length →
    (∀ (j : Nat) (a : AV) (v : Value), l[j]? = some a → us[j]? = some v → Rep w B own ω nx a v) → foldIntK f kd n l k false = true → Reckons P w B own ω nx (us.foldlM g (.int kd n)) k
  | [], [], n, _, _, hk => ⟨_, _, fun _ _ => by simp [Sem.run], .int _ _ _, hk⟩
  | [], _ :: _, _, hl, _, _ => by simp at hl
  | _ :: _, [], _, hl, _, _ => by simp at hl
  | a :: r, u :: us, n, hl, hr, hk => by
    have h0 := hr 0 a u rfl rfl
    cases a <;> simp only [foldIntK] at hk <;> try cases hk
    rename_i k' m
    cases h0
    obtain ⟨v, x, h1, h2, h3⟩ := foldIntK_sound hg r us (f n m) (by simpa using hl) (fun j a v ha hv => hr (j + 1) a v (by simpa using ha) (by simpa using hv)) hk
    exact ⟨v, x, fun w' hw => by simp [List.foldlM_cons, hg, h1 w' hw, Result.andThen], h2, h3⟩

theorem run_min2 (w : World) (k : IntKind) (x : Int) (k' : IntKind) (y : Int) : (Builtin.min2 (.int k x) (.int k' y)).run P w = .ok (.int k (imin x y)) w := by simp [Builtin.min2, imin, Sem.run]
theorem run_max2 (w : World) (k : IntKind) (x : Int) (k' : IntKind) (y : Int) : (Builtin.max2 (.int k x) (.int k' y)).run P w = .ok (.int k (imax x y)) w := by simp [Builtin.max2, imax, Sem.run]

theorem minmaxK_sound {f : Int → Int → Int} {g : Value → Value → Sem Value} (hg : ∀ w k x k' y, (g (.int k x) (.int k' y)).run P w = .ok (.int k (f x y)) w) {l : List AV} {us : List Value} {k : AV → Bool} (hl : l.length = us.length)
    (hr : ∀ (j : Nat) (a : AV) (v : Value), l[j]? = some a → us[j]? = some v → Rep w B own ω nx a v) (hk : minmaxK f l k false = true) :
    ∃ u r, us = u :: r ∧ Reckons P w B own ω nx (r.foldlM g u) k := by
  cases l with
  | nil => cases hk
  | cons a r =>
    cases us with
    | nil => simp at hl
    | cons u us =>
      have h0 := hr 0 a u rfl rfl
      cases a <;> simp only [minmaxK] at hk <;> try cases hk
      cases h0
      exact ⟨_, _, rfl, foldIntK_sound hg r us _ (by simpa using hl) (fun j a v ha hv => hr (j + 1) a v (by simpa using ha) (by simpa using hv)) hk⟩

end
end Go.Bas
end
section
namespace Go.Bas
open Go.RowKit
set_option linter.unusedSimpArgs false
set_option linter.unusedVariables false

section
variable {w : World} {B : Nat → Prop} {own : Nat → Prop} {ω : Nat → Option Nat} {nx : Nat} {h : Heap} {P : Program}

/-- The value of a type over these cells. -/
def valOf (P : Program) (t : TypeId) (arr : Array Value) : Value :=
  match P.underlying t with
  | some (.struct _) => .agg arr
  | _ => arr.getD 0 undef

theorem eqL_append : ∀ (a c b d : List AV), a.length = c.length → eqL (a ++ b) (c ++ d) = (eqL a c && eqL b d)
  | [], [], b, d, _ => by simp [eqL]
  | [], _ :: _, _, _, h => by simp at h
  | _ :: _, [], _, _, h => by simp at h
  | x :: a, y :: c, b, d, h => by simp only [List.cons_append, eqL, eqL_append a c b d (by simpa using h), Bool.and_assoc]
theorem fitL_len : ∀ (ks : List CK) (a c : List AV), fitL ks a c = true → a.length = ks.length ∧ c.length = ks.length
  | [], [], [], _ => ⟨rfl, rfl⟩
  | _ :: _, [], _, h => by simp [fitL] at h
  | _ :: _, _ :: _, [], h => by simp [fitL] at h
  | [], _ :: _, _, h => by simp [fitL] at h
  | [], [], _ :: _, h => by simp [fitL] at h
  | k :: ks, x :: a, y :: c, h => by
    simp only [fitL, Bool.and_eq_true] at h
    have := fitL_len ks a c h.2
    simp [this.1, this.2]
theorem fitL_append : ∀ (ks ms : List CK) (a c : List AV), fitL (ks ++ ms) a c = true → fitL ks (a.take ks.length) (c.take ks.length) = true ∧ fitL ms (a.drop ks.length) (c.drop ks.length) = true
  | [], ms, a, c, h => by simpa [fitL] using h
  | _ :: _, _, [], _, h => by simp [fitL] at h
  | _ :: _, _, _ :: _, [], h => by simp [fitL] at h
  | k :: ks, ms, x :: a, y :: c, h => by
    simp only [List.cons_append, fitL, Bool.and_eq_true] at h
    have := fitL_append ks ms a c h.2
    simp only [List.length_cons, List.take_succ_cons, List.drop_succ_cons, fitL, Bool.and_eq_true]
    exact ⟨⟨h.1, this.1⟩, this.2⟩

theorem RepL.sub {cs : List AV} {arr : Array Value} (hl : RepL w B own ω nx cs arr) (a m : Nat) : RepL w B own ω nx ((cs.drop a).take m) (arr.extract a (a + m)) := by
  refine repL_of (by have := hl.1; simp; omega) (fun j x v hx hv => ?_)
  rw [List.getElem?_take] at hx
  split at hx
  · rename_i hj
    rw [List.getElem?_drop] at hx
    rw [Array.getElem?_extract] at hv
    split at hv
    · exact hl.at hx hv
    · cases hv
  · cases hx

/-- Flat types: the comparison is cell by cell. -/
def EqFlat (P : Program) (w : World) (B : Nat → Prop) (own : Nat → Prop) (ω : Nat → Option Nat) (nx : Nat) (D : Nat) (t : TypeId) (ks : List CK) : Prop :=
  ∀ (xs ys : List AV) (ax ay : Array Value), RepL w B own ω nx xs ax → RepL w B own ω nx ys ay → fitL ks xs ys = true → ∀ w' : World, (Op.equalIn D t (valOf P t ax) (valOf P t ay)).run P w' = .ok (eqL xs ys) w'

theorem part_flat {t : TypeId} {d : Nat} {ks : List CK} {i : TypeInfo} (hf : flatT P d t = some ks) (hi : P.info? t = some i) (hs : i.size = ks.length) {arr : Array Value} {n : Nat} (hn : n + ks.length ≤ arr.size) :
    (part t arr n).run P w = .ok (valOf P t (arr.extract n (n + ks.length))) w := by
  have hag : ∀ b, (∃ d, P.underlying t = some d ∧ aggD d = b) → (isAgg t).run P w = .ok b w := fun b ⟨d, hd, ha⟩ => by
    have hu := run_underlying hd w
    unfold isAgg
    cases d <;> simp [aggD] at ha <;> simp [hu, ← ha]
  have : ∀ d', flatT P d' t = some ks → (part t arr n).run P w = .ok (valOf P t (arr.extract n (n + ks.length))) w := fun d' hf => by
    cases d' with
    | zero => cases hf
    | succ d' =>
      simp only [flatT] at hf
      split at hf
      · rename_i hd
        obtain rfl := Option.some.inj hf
        have hlt : n < arr.size := by simp at hn; omega
        simp [part, hag false ⟨_, hd, rfl⟩, hlt, valOf, hd, Sem.run, Result.andThen, Array.getElem?_extract, show 0 < min (n + 1) arr.size - n by omega]
      · rename_i k hd
        obtain rfl := Option.some.inj hf
        have hlt : n < arr.size := by simp at hn; omega
        simp [part, hag false ⟨_, hd, rfl⟩, hlt, valOf, hd, Sem.run, Result.andThen, Array.getElem?_extract, show 0 < min (n + 1) arr.size - n by omega]
      · rename_i fs hd
        simp [part, hag true ⟨_, hd, rfl⟩, sizeOf, typeInfo, hi, hs, valOf, hd, Sem.run, Result.andThen]
      · cases hf
  exact this d hf

theorem fields_eq {g : TypeId → Option (List CK)} {D : Nat} (hg : ∀ t ks, g t = some ks → EqFlat P w B own ω nx D t ks ∧ ∃ d, flatT P d t = some ks) (xs ys : List AV) (ax ay : Array Value) (hx : RepL w B own ω nx xs ax) (hy : RepL w B own ω nx ys ay) :
    ∀ (fs : List Field) (ks all : List CK), flatFs P g fs ks = some all → fitL all xs ys = true → ∀ w' : World,
      (forIn fs (none, ()) fun (f : Field) (_ : Option Bool × Unit) =>
          if f.name = "_" then (pure (ForInStep.yield (none, ())) : Sem (ForInStep (Option Bool × Unit)))
          else do
            let u ← part f.type ax f.offset
            let v ← part f.type ay f.offset
            let e ← Op.equalIn D f.type u v
            if e = false then pure (ForInStep.done (some false, ())) else pure (ForInStep.yield (none, ()))).run P w' =
        .ok (if eqL (xs.drop ks.length) (ys.drop ks.length) then (none, ()) else (some false, ())) w'
  | [], ks, all, h, hf, w' => by
    obtain rfl := Option.some.inj h
    obtain ⟨h1, h2⟩ := fitL_len _ _ _ hf
    have e1 : xs.drop ks.length = [] := List.drop_eq_nil_of_le (by omega)
    have e2 : ys.drop ks.length = [] := List.drop_eq_nil_of_le (by omega)
    simp [e1, e2, eqL, Sem.run]
  | f :: r, ks, all, h, hf, w' => by
    simp only [flatFs] at h
    cases hc : (Nat.beq f.offset ks.length && f.name != "_") with
    | false => rw [hc] at h; cases h
    | true =>
      rw [hc] at h
      simp only [cond_true] at h
      obtain ⟨c1, c2⟩ := of_and hc
      replace c1 := of_beq c1
      have c2 : ¬ f.name = "_" := by simpa using c2
      split at h
      · rename_i ms i hms hi
        cases hb : Nat.beq i.size ms.length with
        | false => rw [hb] at h; cases h
        | true =>
          rw [hb] at h
          simp only [cond_true] at h
          replace hb := of_beq hb
          obtain ⟨he, d, hfl⟩ := hg _ _ hms
          have hpre : ∃ rest, all = ks ++ ms ++ rest := by
            have : ∀ (l : List Field) (a b : List CK), flatFs P g l a = some b → ∃ rest, b = a ++ rest := by
              intro l
              induction l with
              | nil => intro a b h; exact ⟨[], by simpa using (Option.some.inj h).symm⟩
              | cons x l ih =>
                intro a b h
                simp only [flatFs] at h
                cases hc : (Nat.beq x.offset a.length && x.name != "_") with
                | false => rw [hc] at h; cases h
                | true =>
                  rw [hc] at h
                  simp only [cond_true] at h
                  split at h
                  · rename_i m1 i1 _ _
                    cases hb : Nat.beq i1.size m1.length with
                    | false => rw [hb] at h; cases h
                    | true =>
                      rw [hb] at h
                      obtain ⟨rest, hr⟩ := ih _ _ h
                      exact ⟨m1 ++ rest, by rw [hr, List.append_assoc]⟩
                  · cases h
            exact this r _ _ h
          obtain ⟨rest, hall⟩ := hpre
          have hfit := hf
          rw [hall, List.append_assoc] at hfit
          obtain ⟨_, f2⟩ := fitL_append ks (ms ++ rest) xs ys hfit
          obtain ⟨f3, f4⟩ := fitL_append ms rest _ _ f2
          obtain ⟨l1, l2⟩ := fitL_len _ _ _ hf
          have hlen : all.length = ks.length + (ms.length + rest.length) := by rw [hall]; simp [Nat.add_assoc]
          have p1 := part_flat (w := w') (arr := ax) (n := ks.length) hfl hi hb (by have := hx.1; omega)
          have p2 := part_flat (w := w') (arr := ay) (n := ks.length) hfl hi hb (by have := hy.1; omega)
          have he' := he _ _ _ _ (hx.sub ks.length ms.length) (hy.sub ks.length ms.length) f3 w'
          have ih := fields_eq hg xs ys ax ay hx hy r (ks ++ ms) all h hf w'
          have split : ∀ l : List AV, l.drop ks.length = (l.drop ks.length).take ms.length ++ l.drop (ks ++ ms).length := fun l => by
            rw [List.length_append, ← List.drop_drop, List.take_append_drop]
          rw [split xs, split ys, eqL_append _ _ _ _ (by simp; omega)]
          simp only [List.forIn_cons, c2, if_false, c1, Sem.run_bind, p1, p2, he', Result.andThen_ok]
          cases hq : eqL ((xs.drop ks.length).take ms.length) ((ys.drop ks.length).take ms.length) with
          | false => simp [Sem.run]
          | true =>
            simp only [Bool.true_eq_false, if_false, Sem.run_pure, Result.andThen_ok, Bool.true_and]
            exact ih
      · cases h

theorem fit_b {xs ys : List AV} (h : fitL [.b] xs ys = true) : ∃ a b, xs = [.bool a] ∧ ys = [.bool b] := by
  obtain ⟨h1, h2⟩ := fitL_len _ _ _ h
  obtain ⟨x, rfl⟩ := List.length_eq_one_iff.1 h1
  obtain ⟨y, rfl⟩ := List.length_eq_one_iff.1 h2
  cases x <;> cases y <;> simp [fitL, fit1] at h
  exact ⟨_, _, rfl, rfl⟩
theorem fit_i {k : IntKind} {xs ys : List AV} (h : fitL [.i k] xs ys = true) : ∃ a b, xs = [.int k a] ∧ ys = [.int k b] := by
  obtain ⟨h1, h2⟩ := fitL_len _ _ _ h
  obtain ⟨x, rfl⟩ := List.length_eq_one_iff.1 h1
  obtain ⟨y, rfl⟩ := List.length_eq_one_iff.1 h2
  cases x <;> cases y <;> simp [fitL, fit1] at h
  obtain rfl := kindEq_eq h.1
  obtain rfl := kindEq_eq h.2
  exact ⟨_, _, rfl, rfl⟩

theorem flat_eq : ∀ (d : Nat) (t : TypeId) (ks : List CK), flatT P d t = some ks → ∀ D, d ≤ D → EqFlat P w B own ω nx D t ks
  | 0, _, _, h, _, _ => by cases h
  | d + 1, t, ks, h, 0, hD => by omega
  | d + 1, t, ks, h, D + 1, hD => fun xs ys ax ay hx hy hf w' => by
    simp only [flatT] at h
    split at h
    · rename_i hu
      obtain rfl := Option.some.inj h
      obtain ⟨a, b, rfl, rfl⟩ := fit_b hf
      have h1 := hx.2 0 (by simp)
      have h2 := hy.2 0 (by simp)
      simp only [valOf, hu]
      simp only [List.getElem_cons_zero] at h1 h2
      generalize ax.getD 0 undef = u at *
      generalize ay.getD 0 undef = v at *
      cases h1; cases h2
      simp [Op.equalIn, run_underlying hu, eqL, eq1, Sem.run, Result.andThen]
    · rename_i k hu
      obtain rfl := Option.some.inj h
      obtain ⟨a, b, rfl, rfl⟩ := fit_i hf
      have h1 := hx.2 0 (by simp)
      have h2 := hy.2 0 (by simp)
      simp only [valOf, hu]
      simp only [List.getElem_cons_zero] at h1 h2
      generalize ax.getD 0 undef = u at *
      generalize ay.getD 0 undef = v at *
      cases h1; cases h2
      simp [Op.equalIn, run_underlying hu, eqL, eq1, Sem.run, Result.andThen]
    · rename_i fs hu
      cases hst : P.stoodInHeld t with
      | true => rw [hst] at h; cases h
      | false =>
        rw [hst] at h
        simp only [cond_false] at h
        have := fields_eq (P := P) (D := D) (g := flatT P d) (fun t' ks' h' => ⟨flat_eq d t' ks' h' D (by omega), d, h'⟩) xs ys ax ay hx hy fs.toList [] ks h hf w'
        simp only [List.length_nil, List.drop_zero] at this
        simp only [valOf, hu]
        simp [Op.equalIn, run_underlying hu, hst, Sem.run, Result.andThen]
        rw [← Array.forIn_toList, this]
        cases eqL xs ys <;> simp [Sem.run]
    · cases h

theorem eqopK_sound {op : BinOp} {b : Bool} {s : Sem Bool} {k : AV → Bool} (hs : ∀ w : World, s.run P w = .ok b w) (h : eqopK op b k false = true) {t : TypeId} {u v : Value} (he : op = .eql → binOp op t u v = (do pure (.bool (← s)))) (hn : op = .neq → binOp op t u v = (do pure (.bool (!(← s))))) :
    Reckons P w B own ω nx (binOp op t u v) k := by
  unfold eqopK at h
  split at h
  · rw [he rfl]; exact ⟨_, _, fun _ _ => by simp [hs, Sem.run, Result.andThen], .bool _ _, h⟩
  · rw [hn rfl]; exact ⟨_, _, fun _ _ => by simp [hs, Sem.run, Result.andThen], .bool _ _, h⟩
  · cases h


theorem flat_pin {t : TypeId} {fs : Array Field} {ks : List CK} (hu : P.underlying t = some (.struct fs)) (hf : flatT P 8 t = some ks) {xs ys : List AV} {ax ay : Array Value} (hx : RepL w B own ω nx xs ax) (hy : RepL w B own ω nx ys ay) (h : fitL ks xs ys = true) (w' : World) :
    (Op.equal t (.agg ax) (.agg ay)).run P w' = .ok (eqL xs ys) w' := by
  have := flat_eq (P := P) (w := w) (B := B) (own := own) (ω := ω) (nx := nx) 8 t ks hf Op.maxDepth (by decide) xs ys ax ay hx hy h w'
  simpa only [valOf, hu, Op.equal] using this

theorem equal_of {t : TypeId} {u v : Value} {b : Bool} (h : ∀ d, (Op.equalIn (d + 1) t u v).run P w = .ok b w) : (Op.equal t u v).run P w = .ok b w := h 9999
theorem eqv_sound {op : BinOp} {b : Bool} {t : TypeId} {u v : Value} {k : AV → Bool} (hk : eqopK op b k false = true) (hs : ∀ d (w : World), (Op.equalIn (d + 1) t u v).run P w = .ok b w) (he : binOp .eql t u v = (do pure (.bool (← Op.equal t u v)))) (hn : binOp .neq t u v = (do pure (.bool (!(← Op.equal t u v))))) :
    Reckons P w B own ω nx (binOp op t u v) k :=
  eqopK_sound (fun w => equal_of fun d => hs d w) hk (fun e => by subst e; exact he) (fun e => by subst e; exact hn)

theorem binK_sound {op : BinOp} {t : TypeId} {ox oy : Operand} {x y : AV} {u v : Value} {k : AV → Bool} (hx : Rep w B own ω nx x u) (hy : Rep w B own ω nx y v) (hk : binK P op t ox oy x y k false = true) :
    Reckons P w B own ω nx (do eqGuard op t ox oy u v; binOp op t u v) k := by
  have plain : ∀ {s : Sem Value}, (∀ w : World, (eqGuard op t ox oy u v).run P w = .ok () w) → Reckons P w B own ω nx s k → Reckons P w B own ω nx (do eqGuard op t ox oy u v; s) k := fun hg ⟨a, b, h1, h2, h3⟩ =>
    ⟨a, b, fun w' hw => by simp only [Sem.run_bind, hg, Result.andThen_ok]; exact h1 w' hw, h2, h3⟩
  unfold binK at hk
  split at hk
  · cases hx; cases hy
    exact plain (fun _ => by cases op <;> simp [eqGuard, Sem.run]) (ibinK_sound hk)
  · rename_i a b
    split at hk
    · rename_i hu
      cases hx; cases hy
      refine plain (fun _ => by cases op <;> simp [eqGuard, Sem.run]) (eqv_sound hk (fun d w => ?_) rfl rfl)
      simp [Op.equalIn, run_underlying hu, Sem.run, Result.andThen]
    · cases hk
  · rename_i xs ys
    split at hk
    · rename_i fs ks hu hfl
      replace hk := of_cond hk; obtain ⟨hc, hk⟩ := hk
      replace hc := of_and hc; obtain ⟨hf, hg⟩ := hc
      cases hx with
      | agg _ _ ax a1 a2 => cases hy with
        | agg _ _ ay b1 b2 =>
          have hg' : P.eqGuardType P.depth t = false := by simpa using hg
          refine plain ?_ (eqopK_sound (s := Op.equal t (.agg ax) (.agg ay)) (flat_pin hu hfl ⟨a1, a2⟩ ⟨b1, b2⟩ hf) hk (fun e => by subst e; rfl) (fun e => by subst e; rfl))
          intro _; cases op <;> simp [eqGuard, hg', Sem.run, Result.andThen]
    · cases hk
  · split at hk
    · rename_i e hu
      cases hx; cases hy
      refine plain (fun _ => by cases op <;> simp [eqGuard, Sem.run]) (eqv_sound hk (fun d w => ?_) rfl rfl)
      simp [Op.equalIn, run_underlying hu, Sem.run, Result.andThen]
    · cases hk
  · split at hk
    · rename_i e hu
      cases hx; cases hy
      refine plain (fun _ => by cases op <;> simp [eqGuard, Sem.run]) (eqv_sound hk (fun d w => ?_) rfl rfl)
      simp [Op.equalIn, run_underlying hu, Sem.run, Result.andThen]
    · cases hk
  · split at hk
    · rename_i e hu
      cases hx; cases hy
      refine plain (fun _ => by cases op <;> simp [eqGuard, Sem.run]) (eqv_sound hk (fun d w => ?_) rfl rfl)
      simp [Op.equalIn, run_underlying hu, Sem.run, Result.andThen]
    · cases hk
  · split at hk
    · rename_i e hu
      cases hx; cases hy
      refine plain (fun _ => by cases op <;> simp [eqGuard, Sem.run]) (eqv_sound hk (fun d w => ?_) rfl rfl)
      simp [Op.equalIn, run_underlying hu, Sem.run, Result.andThen]
    · cases hk
  · split at hk
    · rename_i e hu
      cases hx; cases hy
      refine plain (fun _ => by cases op <;> simp [eqGuard, Sem.run]) (eqv_sound hk (fun d w => ?_) rfl rfl)
      simp [Op.equalIn, run_underlying hu, Sem.run, Result.andThen]
    · cases hk
  · split at hk
    · rename_i e hu
      replace hk := of_cond hk; obtain ⟨hc, hk⟩ := hk
      cases hx; cases hy
      refine plain (fun _ => by clear plain; cases ox <;> cases oy <;> first | (simp [isConstO] at hc; done) | (cases op <;> simp [eqGuard, Sem.run])) (eqv_sound hk (fun d w => ?_) rfl rfl)
      simp [Op.equalIn, run_underlying hu, Sem.run, Result.andThen]
    · cases hk
  · split at hk
    · rename_i e hu
      cases hx; cases hy
      refine plain (fun _ => by cases op <;> simp [eqGuard, Sem.run]) (eqv_sound hk (fun d w => ?_) rfl rfl)
      simp [Op.equalIn, run_underlying hu, Sem.run, Result.andThen]
    · cases hk
  · split at hk
    · rename_i e hu
      cases hx; cases hy
      refine plain (fun _ => by cases op <;> simp [eqGuard, Sem.run]) (eqv_sound hk (fun d w => ?_) rfl rfl)
      simp [Op.equalIn, run_underlying hu, Sem.run, Result.andThen]
    · cases hk
  · split at hk
    · rename_i e hu
      cases hx; cases hy
      refine plain (fun _ => by cases op <;> simp [eqGuard, Sem.run]) (eqv_sound hk (fun d w => ?_) rfl rfl)
      simp [Op.equalIn, run_underlying hu, Sem.run, Result.andThen]
    · cases hk
  · split at hk
    · rename_i e hu
      cases hx; cases hy
      refine plain (fun _ => by cases op <;> simp [eqGuard, Sem.run]) (eqv_sound hk (fun d w => ?_) rfl rfl)
      simp [Op.equalIn, run_underlying hu, Sem.run, Result.andThen]
    · cases hk
  · split at hk
    · rename_i e hu
      cases hx; cases hy
      refine plain (fun _ => by cases op <;> simp [eqGuard, Sem.run]) (eqv_sound hk (fun d w => ?_) rfl rfl)
      simp [Op.equalIn, run_underlying hu, Sem.run, Result.andThen]
    · cases hk
  · split at hk
    · rename_i e hu
      cases hx; cases hy
      refine plain (fun _ => by cases op <;> simp [eqGuard, Sem.run]) (eqv_sound hk (fun d w => ?_) rfl rfl)
      simp [Op.equalIn, run_underlying hu, Sem.run, Result.andThen]
    · cases hk
  · split at hk
    · rename_i e hu
      cases hx <;> cases hy <;> (refine plain (fun _ => by cases op <;> simp [eqGuard, Sem.run]) (eqv_sound hk (fun d w => ?_) rfl rfl) ; simp [Op.equalIn, run_underlying hu, Sem.run, Result.andThen])
    · cases hk
  · split at hk
    · rename_i e hu
      cases hx <;> cases hy <;> (refine plain (fun _ => by cases op <;> simp [eqGuard, Sem.run]) (eqv_sound hk (fun d w => ?_) rfl rfl) ; simp [Op.equalIn, run_underlying hu, Sem.run, Result.andThen])
    · cases hk
  · split at hk
    · rename_i e hu
      cases hx <;> cases hy <;> (refine plain (fun _ => by cases op <;> simp [eqGuard, Sem.run]) (eqv_sound hk (fun d w => ?_) rfl rfl) ; simp [Op.equalIn, run_underlying hu, Sem.run, Result.andThen])
    · cases hk
  · split at hk
    · rename_i e hu
      cases hx <;> cases hy <;> (refine plain (fun _ => by cases op <;> simp [eqGuard, Sem.run]) (eqv_sound hk (fun d w => ?_) rfl rfl) ; simp [Op.equalIn, run_underlying hu, Sem.run, Result.andThen])
    · cases hk
  · split at hk
    · rename_i e hu
      cases hx <;> cases hy <;> (refine plain (fun _ => by cases op <;> simp [eqGuard, Sem.run]) (eqv_sound hk (fun d w => ?_) rfl rfl) ; simp [Op.equalIn, run_underlying hu, Sem.run, Result.andThen])
    · cases hk
  · split at hk
    · rename_i e hu
      cases hx <;> cases hy <;> (refine plain (fun _ => by cases op <;> simp [eqGuard, Sem.run]) (eqv_sound hk (fun d w => ?_) rfl rfl) ; simp [Op.equalIn, run_underlying hu, Sem.run, Result.andThen])
    · cases hk
  · cases hk

end
end Go.Bas
end
section
namespace Go.Bas
open Go.RowKit
set_option linter.unusedSimpArgs false
set_option linter.unusedVariables false

section
variable {w : World} {B : Nat → Prop} {own : Nat → Prop} {ω : Nat → Option Nat} {nx : Nat} {h : Heap}

/-- The operation has yielded a value. -/
def OpYields (w : World) (B : Nat → Prop) (own : Nat → Prop) (ω : Nat → Option Nat) (nx : Nat) (kv : AV → Heap → Nat → Bool) (r : Result Next) : Prop :=
  ∃ u w' v h' nx' own' ω', (r = .ok (.value u) w' ∨ (r = .ok .skip w' ∧ u = undef)) ∧ kv v h' nx' = true ∧ Ext w own ω nx w' own' ω' nx' ∧ Hp w' B own' ω' nx' h' ∧ Rep w' B own' ω' nx' v u
/-- Whom it leads to, in the model. -/
def TgtRun (P : Program) (w : World) (ω : Nat → Option Nat) : Tgt → Array Value → Result Next → Prop
  | .fn f, us, r => r = (callFunc f us).run P w
  | .yld id, us, r => ∃ l, ω id = some l ∧ r = (Instr.yield l us).run P w
/-- The operation calls a function, or a round. -/
def OpCalls (P : Program) (w : World) (B : Nat → Prop) (own : Nat → Prop) (ω : Nat → Option Nat) (nx : Nat) (kc : Tgt → List AV → Bool) (r : Result Next) : Prop :=
  ∃ t args us, TgtRun P w ω t us r ∧ kc t args = true ∧ RepL w B own ω nx args us
/-- The operation panics. -/
def OpPanics (w : World) (B : Nat → Prop) (own : Nat → Prop) (ω : Nat → Option Nat) (nx : Nat) (kp : AV → Bool) (r : Result Next) : Prop :=
  ∃ v u, r = .halt (.panic u) w ∧ kp v = true ∧ Rep w B own ω nx v u
def OpDoes (P : Program) (w : World) (B : Nat → Prop) (own : Nat → Prop) (ω : Nat → Option Nat) (nx : Nat) (kv : AV → Heap → Nat → Bool) (kc : Tgt → List AV → Bool) (kp : AV → Bool) (r : Result Next) : Prop :=
  OpYields w B own ω nx kv r ∨ OpCalls P w B own ω nx kc r ∨ OpPanics w B own ω nx kp r

theorem here (H : Hp w B own ω nx h) {P : Program} {s : Sem Value} {kv : AV → Heap → Nat → Bool} (hs : Reckons P w B own ω nx s (fun v => kv v h nx)) : OpYields w B own ω nx kv ((do pure (Next.value (← s)) : Sem Next).run P w) := by
  obtain ⟨v, u, h1, h2, h3⟩ := hs
  exact ⟨u, w, v, h, nx, own, ω, .inl (by simp [h1 w (Same.refl w), Sem.run, Result.andThen]), h3, Ext.refl _ _ _ _, H, h2⟩
theorem there {P : Program} {s : Sem Value} {kv : AV → Heap → Nat → Bool} (hs : Yields P w B own ω nx kv (s.run P w)) : OpYields w B own ω nx kv ((do pure (Next.value (← s)) : Sem Next).run P w) := by
  obtain ⟨u, w', v, h', nx', own', ω', h1, h2⟩ := hs
  exact ⟨u, w', v, h', nx', own', ω', .inl (by simp [h1, Sem.run, Result.andThen]), h2⟩

theorem repL_map {ρ : Operand → AV} {e : Operand → Value} (hρ : ∀ x, Rep w B own ω nx (ρ x) (e x)) (l : Array Operand) : RepL w B own ω nx (argsL ρ l) (l.map e) := by
  refine repL_of (by simp [argsL]) (fun j a v ha hv => ?_)
  simp only [argsL, List.getElem?_map, Array.getElem?_toList, Option.map_eq_some_iff] at ha
  obtain ⟨x, hx, rfl⟩ := ha
  simp only [Array.getElem?_map, hx, Option.map_some, Option.some.injEq] at hv
  rw [← hv]
  exact hρ x

theorem RepL.append {cs ds : List AV} {a b : Array Value} (h1 : RepL w B own ω nx cs a) (h2 : RepL w B own ω nx ds b) : RepL w B own ω nx (cs ++ ds) (a ++ b) := by
  refine repL_of (by simp [h1.1, h2.1]) (fun j x v hx hv => ?_)
  have := h1.1
  by_cases hj : j < cs.length
  · rw [List.getElem?_append_left hj] at hx
    rw [Array.getElem?_append_left (by omega)] at hv
    exact h1.at hx hv
  · rw [List.getElem?_append_right (by omega)] at hx
    rw [Array.getElem?_append_right (by omega), ← h1.1] at hv
    exact h2.at hx hv

theorem arr_cons {α : Type} {arr : Array α} {n : Nat} (h : n + 1 = arr.size) : ∃ u us, arr = (u :: us).toArray := by
  obtain ⟨l⟩ := arr
  cases l with
  | nil => simp at h
  | cons u us => exact ⟨u, us, rfl⟩
theorem arr_two {α : Type} {arr : Array α} (h : 2 = arr.size) : ∃ u v, arr = #[u, v] := by
  obtain ⟨l⟩ := arr
  match l, h with
  | [u, v], _ => exact ⟨u, v, rfl⟩

set_option maxHeartbeats 2000000 in
theorem methodK_sound {P : Program} {t f : Nat} {v r : AV} {u : Value} {name : String} (hr : Rep w B own ω nx v u) (hm : methodK P t v name = some (f, r)) :
    ∃ ur, Rep w B own ω nx r ur ∧ ∀ w' : World, (method (P.types.size + Made.depth) t u name).run P w' = .ok (f, ur) w' := by
  obtain ⟨n, hd⟩ : ∃ n, P.types.size + Made.depth = n + 1 := ⟨P.types.size + 99, rfl⟩
  unfold methodK at hm
  split at hm
  · rename_i i hi
    split at hm
    · rename_i m hfm
      cases hp : m.path.isEmpty with
      | false => rw [hp] at hm; cases hm
      | true =>
        rw [hp] at hm
        simp only [cond_true] at hm
        have hpl : m.path.toList = [] := by
          have : m.path = #[] := by simpa using hp
          rw [this]
        split at hm
        · rename_i f' e hf hu
          cases hm
          refine ⟨u, hr, fun w' => ?_⟩
          rw [hd]
          simp [method, typeInfo, hi, hfm, hpl, follow, hf, receiverAt, run_underlying hu, Place.get, Sem.run, Result.andThen]
        · rename_i f' e hf hu
          cases hm
          refine ⟨u, hr, fun w' => ?_⟩
          rw [hd]
          simp [method, typeInfo, hi, hfm, hpl, follow, hf, receiverAt, run_underlying hu, Place.get, Sem.run, Result.andThen]
        · rename_i f' e hf hu
          cases hm
          refine ⟨u, hr, fun w' => ?_⟩
          rw [hd]
          simp [method, typeInfo, hi, hfm, hpl, follow, hf, receiverAt, run_underlying hu, Place.get, Sem.run, Result.andThen]
        · cases hm
    · cases hm
  · cases hm

theorem callK_sound (C : Cfg) (H : Hp w B own ω nx h) {ρ : Operand → AV} {e : Operand → Value} (hρ : ∀ x, Rep w B own ω nx (ρ x) (e x)) {c : Call} {type : TypeId} {kv : AV → Heap → Nat → Bool} {kc : Tgt → List AV → Bool} {kp : AV → Bool}
    (hk : callK C ρ h nx c kv kc kp false = true) :
    OpDoes C.P w B own ω nx kv kc kp ((do let d ← resolve e c type; invoke d.target d.args : Sem Next).run C.P w) := by
  have hargs := repL_map hρ c.args
  unfold callK at hk
  split at hk
  · rename_i f hcal
    have hf := hρ f
    split at hk
    · rename_i g first cap hfe
      rw [hfe] at hf
      generalize hev : e f = ef at hf
      cases hf with
      | fn _ _ _ _ fs cs h1 h2 h3 h4 =>
        refine .inr (.inl ⟨.fn g, _, fs ++ c.args.map e ++ cs, ?_, hk, (RepL.append (RepL.append ⟨h1, h3⟩ hargs) ⟨h2, h4⟩)⟩)
        simp [TgtRun, resolve, hcal, hev, Deferred.ofValue, invoke, Sem.run, Result.andThen]
    · rename_i id hfe
      rw [hfe] at hf
      generalize hev : e f = ef at hf
      cases hf with
      | yld _ _ l h1 h2 =>
        refine .inr (.inl ⟨.yld id, _, c.args.map e, ⟨l, h2, ?_⟩, hk, hargs⟩)
        simp [resolve, hcal, hev, Deferred.ofValue, invoke, Sem.run, Result.andThen]
    · cases hk
  · rename_i recv name hcal
    have hf := hρ recv
    split at hk
    · rename_i t v hfe
      rw [hfe] at hf
      generalize hev : e recv = ef at hf
      cases hf with
      | iface _ _ _ u hr =>
        split at hk
        · rename_i f r hm
          obtain ⟨ur, h1, h2⟩ := methodK_sound (P := C.P) (name := name) hr hm
          refine .inr (.inl ⟨.fn f, _, #[ur] ++ c.args.map e, ?_, hk, (RepL.append (cs := [r]) (a := #[ur]) ⟨rfl, fun i hi => match i, hi with | 0, _ => h1⟩ hargs)⟩)
          have hx : (#[(.iface t u : Value)] ++ c.args.map e).extract 1 (#[(.iface t u : Value)] ++ c.args.map e).size = c.args.map e := by
            apply Array.ext'
            simp
            rw [List.take_of_length_le (by simp)]
          have hm2 := h2 w
          have hx0 : (#[(.iface t u : Value)] ++ c.args.map e)[0]? = some (.iface t u) := by rw [Array.getElem?_append_left (by simp)]; rfl
          simp only [TgtRun, resolve, hcal, hev, Sem.run_bind, Sem.run_pure, Result.andThen_ok, invoke, hx, hx0]
          simp [callMethod, program, hm2, Sem.run, Result.andThen]
        · cases hk
    · cases hk
  · rename_i hcal
    split at hk
    · rename_i t v r hx
      rw [hx] at hargs
      have hsz := hargs.1
      obtain ⟨u, us, hu⟩ := arr_cons hsz
      rw [hu] at hargs
      have hr : Rep w B own ω nx (.iface t v) u := hargs.at (j := 0) rfl (by simp)
      cases hr with
      | iface _ _ _ u' hr' =>
        refine .inr (.inr ⟨_, .iface t u', ?_, hk, .iface _ _ _ _ hr'⟩)
        simp [resolve, hcal, invoke, builtin, hu, Instr.panic, goPanic, Sem.run, Result.andThen]
    · cases hk
  · rename_i hcal
    split at hk
    · rename_i x r t ts hx ht
      rw [hx] at hargs
      have hsz := hargs.1
      obtain ⟨u, us, hu⟩ := arr_cons hsz
      have htt : c.argTypes = (t :: ts).toArray := by rw [← ht]
      rw [hu] at hargs
      have hr : Rep w B own ω nx x u := hargs.at (j := 0) rfl (by simp)
      refine .inl ?_
      have := here H (kv := kv) (lenK_sound (ty := type) (ts := ts) (us := us) hr hk)
      simpa [resolve, hcal, invoke, builtin, hu, htt, Sem.run] using this
    · cases hk
  · rename_i hcal
    split at hk
    · rename_i s x t t' hx ht
      rw [hx] at hargs
      have hsz := hargs.1
      obtain ⟨u, us, hu⟩ := arr_two hsz
      have htt : c.argTypes = #[t, t'] := by rw [← Array.toArray_toList (xs := c.argTypes), ht]
      rw [hu] at hargs
      have h0 : Rep w B own ω nx s u := hargs.at (j := 0) rfl (by simp)
      have h1 : Rep w B own ω nx x us := hargs.at (j := 1) rfl (by simp)
      refine .inl ?_
      have := there (appendK_sound (ty := type) H h0 h1 hk)
      simpa [resolve, hcal, invoke, builtin, hu, htt, Sem.run] using this
    · cases hk
  · rename_i hcal
    split at hk
    · rename_i d x t ts hx ht
      rw [hx] at hargs
      have hsz := hargs.1
      obtain ⟨u, us, hu⟩ := arr_two hsz
      have htt : c.argTypes = (t :: ts).toArray := by rw [← ht]
      rw [hu] at hargs
      have h0 : Rep w B own ω nx d u := hargs.at (j := 0) rfl (by simp)
      have h1 : Rep w B own ω nx x us := hargs.at (j := 1) rfl (by simp)
      refine .inl ?_
      obtain ⟨y, w', v, h', r1, r2, r3, r4, r5⟩ := copyK_sound (ty := type) (ts := ts) H h0 h1 hk
      exact ⟨y, w', v, h', nx, own, ω, .inl (by simp [resolve, hcal, invoke, builtin, hu, htt, r1, Sem.run, Result.andThen]), r2, r3, r4, r5⟩
    · cases hk
  · rename_i hcal
    refine .inl ?_
    obtain ⟨u, r, hl, hr⟩ := minmaxK_sound (P := C.P) (us := (c.args.map e).toList) run_min2 (by have := hargs.1; simp [this]) (fun j a v ha hv => hargs.at ha (by simpa using hv)) hk
    have hq := here H (kv := kv) hr
    have em : Builtin.min_ c.argTypes type (c.args.map e) = r.foldlM Builtin.min2 u := by
      unfold Builtin.min_
      rw [hl]
    rw [← em] at hq
    simpa [resolve, hcal, invoke, builtin, Sem.run] using hq
  · rename_i hcal
    refine .inl ?_
    obtain ⟨u, r, hl, hr⟩ := minmaxK_sound (P := C.P) (us := (c.args.map e).toList) run_max2 (by have := hargs.1; simp [this]) (fun j a v ha hv => hargs.at ha (by simpa using hv)) hk
    have hq := here H (kv := kv) hr
    have em : Builtin.max_ c.argTypes type (c.args.map e) = r.foldlM Builtin.max2 u := by
      unfold Builtin.max_
      rw [hl]
    rw [← em] at hq
    simpa [resolve, hcal, invoke, builtin, Sem.run] using hq
  · cases hk

theorem assertK_sound {P : Program} {x : AV} {u : Value} {xt asserted : TypeId} {ok : Bool} {k : AV → Bool} (hx : Rep w B own ω nx x u) (hk : assertK P x asserted ok k false = true) : Reckons P w B own ω nx (Instr.typeAssert u xt asserted ok) k := by
  unfold assertK at hk
  split at hk
  · cases hk
  · rename_i d i hnot hu hi
    have fails : ∀ (zv : Value), i.zero = some zv → cond ok (k (.tup [ofV zv, .bool false])) false = true → ∀ u : Value, (u = .nilIface ∨ ∃ t v, u = .iface t v ∧ ¬ t = asserted) → Reckons P w B own ω nx (Instr.typeAssert u xt asserted ok) k := fun zv hz hk u hu' => by
      obtain ⟨rfl, hk⟩ := of_cond hk
      refine ⟨_, .tuple #[zv, .bool false], fun w' _ => ?_, .tup _ _ _ rfl (fun j hj => ?_), hk⟩
      · rcases hu' with rfl | ⟨t, v, rfl, hne⟩
        · cases d <;> first | exact absurd rfl (hnot _) | simp [Instr.typeAssert, run_underlying hu, zeroValue, typeInfo, hi, hz, Sem.run, Result.andThen]
        · cases d <;> first | exact absurd rfl (hnot _) | simp [Instr.typeAssert, run_underlying hu, zeroValue, typeInfo, hi, hz, hne, Sem.run, Result.andThen]
      · match j, hj with
        | 0, _ => exact rep_ofV _ _ _ _ _ _
        | 1, _ => exact .bool _ _
    split at hk
    · rename_i t v zv hz
      cases hx with
      | iface _ _ _ u hr =>
        rcases of_cond2 hk with ⟨h1, h2⟩ | ⟨h1, h2⟩
        · obtain rfl := of_beq h1
          cases ok with
          | true =>
            refine ⟨_, .tuple #[u, .bool true], fun w' _ => ?_, .tup _ _ _ rfl (fun j hj => ?_), h2⟩
            · cases d <;> first | exact absurd rfl (hnot _) | simp [Instr.typeAssert, run_underlying hu, Sem.run, Result.andThen]
            · match j, hj with
              | 0, _ => exact hr
              | 1, _ => exact .bool _ _
          | false =>
            refine ⟨_, u, fun w' _ => ?_, hr, h2⟩
            cases d <;> first | exact absurd rfl (hnot _) | simp [Instr.typeAssert, run_underlying hu, Sem.run, Result.andThen]
        · exact fails zv hz h2 _ (.inr ⟨t, u, rfl, fun e => by rw [(beq_iff _ _).2 e] at h1; cases h1⟩)
    · rename_i zv hz
      cases hx with
      | niliface => exact fails zv hz hk _ (.inl rfl)
    · cases hk
  · cases hk

theorem parts_rep {ρ : Operand → AV} {e : Operand → Value} (hρ : ∀ x, Rep w B own ω nx (ρ x) (e x)) (parts : Array (Nat × Operand)) :
    (parts.toList.map fun p => (p.1, ρ p.2)).length = (parts.map fun (i, x) => (i, e x)).size ∧
    ∀ (j : Nat) (p : Nat × AV) (q : Nat × Value), (parts.toList.map fun p => (p.1, ρ p.2))[j]? = some p → (parts.map fun (i, x) => (i, e x)).toList[j]? = some q → p.1 = q.1 ∧ Rep w B own ω nx p.2 q.2 := by
  refine ⟨by simp, fun j p q hp hq => ?_⟩
  simp only [List.getElem?_map, Array.getElem?_toList, Option.map_eq_some_iff] at hp
  obtain ⟨x, hx, rfl⟩ := hp
  simp only [Array.getElem?_toList, Array.getElem?_map, hx, Option.map_some, Option.some.injEq] at hq
  subst hq
  exact ⟨rfl, hρ _⟩

set_option maxHeartbeats 4000000 in
theorem aop_sound (C : Cfg) (H : Hp w B own ω nx h) {ρ : Operand → AV} {e : Operand → Value} (hρ : ∀ x, Rep w B own ω nx (ρ x) (e x)) {o : Oper} {kv : AV → Heap → Nat → Bool} {kc : Tgt → List AV → Bool} {kp : AV → Bool}
    (hk : aop C ρ h nx o.op kv kc kp false = true) : OpDoes C.P w B own ω nx kv kc kp ((execOp e o).run C.P w) := by
  have stay : ∀ {u : Value} {v : AV}, Rep w B own ω nx v u → kv v h nx = true → OpYields w B own ω nx kv (.ok (.value u) w) := fun hr hv => ⟨_, _, _, _, _, _, _, .inl rfl, hv, Ext.refl _ _ _ _, H, hr⟩
  obtain ⟨dst, op, type, pos, after, guard⟩ := o
  cases op <;> simp only [aop] at hk <;> try cases hk
  case move x => exact .inl (stay (hρ x) hk)
  case assign x => exact .inl (stay (hρ x) hk)
  case pick c a b =>
    split at hk
    · rename_i t ht
      have hc := hρ c
      rw [ht] at hc
      generalize hev : e c = ec at hc
      cases hc
      refine .inl ?_
      rcases of_cond2 hk with ⟨h1, h2⟩ | ⟨h1, h2⟩
      · have := stay (hρ a) h2
        simpa [execOp, hev, asBool, h1, Sem.run, Result.andThen] using this
      · have := stay (hρ b) h2
        simpa [execOp, hev, asBool, h1, Sem.run, Result.andThen] using this
    · cases hk
  case alloc t =>
    split at hk
    · rename_i cs hz
      exact .inl (there (P := C.P) (Makes.yields H (alloc_makes hz hk)))
    · cases hk
  case box t x =>
    split at hk
    · rename_i cs hz
      exact .inl (there (P := C.P) (Makes.yields H (box_makes (hρ x) hz hk)))
    · cases hk
  case build t parts =>
    obtain ⟨p1, p2⟩ := parts_rep hρ parts
    exact .inl (here H (build_sound p1 p2 hk))
  case buildSlice t len parts =>
    split at hk
    · rename_i el hu
      split at hk
      · rename_i i zs hi hz
        replace hk := of_cond hk; obtain ⟨hc, hk⟩ := hk
        obtain ⟨c1, c2⟩ := of_and hc
        obtain ⟨p1, p2⟩ := parts_rep hρ parts
        exact .inl (there (P := C.P) (Makes.yields H (buildSlice_makes hu hi hz c1 c2 p1 p2 hk)))
      · cases hk
    · cases hk
  case load t x =>
    have hx := hρ x
    split at hk
    · rename_i id off hxe
      rw [hxe] at hx
      generalize hev : e x = ex at hx
      split at hk
      · rename_i hb hid
        cases hx with
        | ptr _ _ _ b g1 g2 =>
          obtain ⟨v, u, r1, r2, r3⟩ := loadK_sound (H.lies hid g2) hk
          refine .inl (here H ⟨v, u, fun w' hw => ?_, r2, r3⟩)
          simp only [hev, Instr.loadAt, Instr.sureAddr, Sem.run_bind, Sem.run_pure, Result.andThen_ok]
          simpa using r1 w' hw
      · cases hk
    · rename_i cells off hxe
      rw [hxe] at hx
      generalize hev : e x = ex at hx
      cases hx with
      | iptr _ _ _ b o vs g1 g2 g3 =>
        obtain ⟨v, u, r1, r2, r3⟩ := loadK_sound (w := w) (B := B) (own := own) (ω := ω) (nx := nx) ⟨vs, g2, fun i hi => (g3 i hi).up (Nat.zero_le _)⟩ hk
        refine .inl (here H ⟨v, u, fun w' hw => ?_, r2, r3⟩)
        simp only [hev, Instr.loadAt, Instr.sureAddr, Sem.run_bind, Sem.run_pure, Result.andThen_ok]
        exact r1 w' hw
    · cases hk
  case store t x v =>
    split at hk
    · rename_i id off vs i hxe hcs hi
      split at hk
      · rename_i hb hid
        replace hk := of_cond hk; obtain ⟨hc, hk⟩ := hk
        obtain ⟨c1, c2⟩ := of_and hc
        obtain ⟨c2, c3⟩ := of_and c2
        obtain ⟨w', r1, E, H'⟩ := store_sound (P := C.P) (t := t) H (by rw [← hxe]; exact hρ x) (hρ v) hcs hi hid c1 (of_beq c2) (of_ble c3) hk
        refine .inl ⟨undef, w', .tup [], _, nx, own, ω, .inr ⟨?_, rfl⟩, hk, E, H', .tup _ _ _ rfl (fun i hi => absurd hi (Nat.not_lt_zero _))⟩
        simp [execOp, r1, Sem.run, Result.andThen]
      · cases hk
    · cases hk
  case nilCheck x =>
    have hx := hρ x
    split at hk
    · rename_i id off hxe
      rw [hxe] at hx
      generalize hev : e x = ex at hx
      cases hx with
      | ptr _ _ _ b g1 g2 => exact .inl (by simpa [execOp, hev, Sem.run] using stay (.ptr _ _ _ b g1 g2) hk)
    · rename_i cells off hxe
      rw [hxe] at hx
      generalize hev : e x = ex at hx
      cases hx with
      | iptr _ _ _ b o vs g1 g2 g3 => exact .inl (by simpa [execOp, hev, Sem.run] using stay (.iptr _ _ _ b o vs g1 g2 g3) hk)
    · rename_i g fs cs hxe
      rw [hxe] at hx
      generalize hev : e x = ex at hx
      cases hx with
      | fn _ _ _ _ asv bs h1 h2 h3 h4 => exact .inl (by simpa [execOp, hev, Sem.run] using stay (.fn _ _ _ _ _ _ h1 h2 h3 h4) hk)
    · cases hk
  case binOp op t x y yt => exact .inl (here H (binK_sound (hρ x) (hρ y) hk))
  case unOp op t x => exact .inl (here H (unK_sound (hρ x) hk))
  case convert src dst x => exact .inl (here H (convK_sound (hρ x) hk))
  case makeInterface t x =>
    split at hk
    · cases hk
    · rename_i d hnot hu
      refine .inl (here H ⟨_, _, fun w' _ => ?_, .iface _ t _ _ (hρ x), hk⟩)
      cases d <;> first | exact absurd rfl (hnot _) | simp [Instr.makeInterface, run_underlying hu, Sem.run, Result.andThen]
    · cases hk
  case makeFunc fn first cap =>
    have h1 := repL_map hρ first
    have h2 := repL_map hρ cap
    exact .inl (here H ⟨_, _, fun _ _ => by simp [Instr.makeFunc, Sem.run], .fn _ _ _ _ _ _ h1.1 h2.1 h1.2 h2.2, hk⟩)
  case makeSlice t l c => exact .inl (there (P := C.P) (Makes.yields H (makeSlice_makes (hρ l) (hρ c) hk)))
  case slice t x lo hi mx =>
    have bnd : ∀ o : Option Operand, BoundIs w B own ω nx (o.map ρ) (o.map e) := fun o => by
      cases o with
      | none => trivial
      | some x => exact hρ x
    exact .inl (here H (sliceK_sound (hρ x) (bnd lo) (bnd hi) (bnd mx) hk))
  case fieldAddr s x f => exact .inl (here H (fieldAddrK_sound (hρ x) hk))
  case field t x f => exact .inl (here H (fieldK_sound (hρ x) hk))
  case indexAddr t x i => exact .inl (here H (indexAddrK_sound (hρ x) (hρ i) hk))
  case index t x i => exact .inl (here H (indexK_sound (hρ x) (hρ i) hk))
  case extract x i =>
    split at hk
    · rename_i vs hxe
      have hx := hρ x
      rw [hxe] at hx
      generalize hev : e x = ex at hx
      split at hk
      · rename_i v hv
        cases hx with
        | tup _ _ us h1 h2 =>
          obtain ⟨hi, e1⟩ := List.getElem?_eq_some_iff.1 hv
          have hi' : i < us.size := by omega
          have := h2 i hi
          rw [e1, getD_lt hi'] at this
          refine .inl (here H ⟨v, us[i], fun w' _ => ?_, this, hk⟩)
          simp [hev, Instr.extract, hi', Sem.run]
      · cases hk
    · cases hk
  case call c => exact callK_sound C H hρ hk
  case typeAssert x xt asserted ok => exact .inl (here H (assertK_sound (hρ x) hk))
  case panic x =>
    have hx := hρ x
    split at hk
    · rename_i t v hxe
      rw [hxe] at hx
      generalize hev : e x = ex at hx
      cases hx with
      | iface _ _ _ u' hr' =>
        refine .inr (.inr ⟨_, .iface t u', ?_, hk, .iface _ _ _ _ hr'⟩)
        simp [execOp, hev, Instr.panic, goPanic, Sem.run, Result.andThen]
    · cases hk

end
end Go.Bas
end
