/- The engine, part F: append, copy, len, min, max, and what is equal. -/
import Derived.Test.YtehfcbppcfpjoaaGreatDoorBasNE
namespace Go.Bas
open Go.RowKit
set_option linter.unusedSimpArgs false
set_option linter.unusedVariables false

section
variable {w : World} {B : Nat → Prop} {own : Nat → Prop} {ω : Nat → Option Nat} {nx : Nat} {h : Heap} {P : Program}

theorem run_append_nothing (t ty e : TypeId) (i : TypeInfo) (ht : P.underlying t = some (.slice e)) (hi : P.info? e = some i) (a x : Option Addr) (n c c' : Nat) (hn : n ≤ c) :
    (Builtin.append_ #[t, t] ty #[.slice a n c, .slice x 0 c']).run P w = .ok (.slice a n c) w := by
  cases a <;> cases x <;> simp [Builtin.append_, run_underlying ht, sizeOf, typeInfo, hi, Builtin.lenOf, Builtin.firstCells, hn, Sem.run, Result.andThen, loadCells, loadCellsFrom, storeCells]

theorem run_append_zero (t ty e : TypeId) (i : TypeInfo) (z : Value) (ht : P.underlying t = some (.slice e)) (hi : P.info? e = some i) (hz : i.zero = some z)
    (a0 : Option Addr) (a : Addr) (n c : Nat) (news : List Value) (hl : news.length = n * i.size) (hnews : ∀ (j : Nat) (v : Value), news[j]? = some v → w.cell? (a.add j) = some v)
    (h0 : 0 < n) (h63 : (n : Int) ≤ 9223372036854775807) (h48 : n * i.bytes ≤ 140737488355328) :
    (Builtin.append_ #[t, t] ty #[.slice a0 0 0, .slice (some a) n c]).run P w =
      .ok (.slice (some ⟨w.heap.size, 0, none⟩) n (grownCap w n 0 e)) (w.drew.alloc (.cells (news.toArray ++ Builtin.zeroCells z.cells (grownCap w n 0 e - n)) e)) := by
  cases a0 with
  | none => exact run_append_nil (P := P) w t ty e i z ht hi hz a n c news hl hnews h0 h63 (by omega)
  | some b =>
    have := run_append_grow (P := P) w t ty e i z ht hi hz b 0 0 [] (by simp) (fun j v h => by simp at h) a n c news hl hnews (by omega) (by omega) (growslice_fits (by omega) (by simpa using h48))
    simpa using this

theorem hdel_sub {id : Nat} : ∀ j x, hget (hdel h id) j = some x → hget h j = some x := fun j x hx => by
  rw [hget_hdel] at hx
  split at hx
  · cases hx
  · exact hx
theorem hdel_other (H : Hp w B own ω nx h) {id b : Nat} {hb : HB} (hid : hget h id = some hb) (hω : ω id = some b) : ∀ j, (hget (hdel h id) j).isSome = true → ω j ≠ some b := fun j hj he => by
  rw [hget_hdel] at hj
  split at hj
  · cases hj
  · rename_i hne
    exact hne (H.inj j id b hj (by simp [hid]) he hω)

/-- A row in a block of its own, grown. -/
theorem grown_row (H : Hp w B own ω nx h) {h' : Heap} (hsub : ∀ j x, hget h' j = some x → hget h j = some x) {e : TypeId} {cells : List AV} {us rest : List Value} {p : Bool} {n cap sz : Nat} (hlen : cells.length = us.length) (hn : n ≤ cap) (hm : cap ≤ maxLen)
    (hsz : us.length + rest.length = cap * sz) (hu : ∀ (j : Nat) (a : AV) (v : Value), cells[j]? = some a → us[j]? = some v → Rep w B own ω (cond p 0 nx) a v) {arr : Array Value} (harr : arr.toList = us ++ rest) :
    ∃ own' ω', Ext w own ω nx (w.drew.alloc (.cells arr e)) own' ω' (nx + 1) ∧ Hp (w.drew.alloc (.cells arr e)) B own' ω' (nx + 1) ((nx, ⟨cells, e, p⟩) :: h') ∧
      Rep (w.drew.alloc (.cells arr e)) B own' ω' (nx + 1) (.sl nx 0 n sz true) (.slice (some ⟨w.heap.size, 0, none⟩) n cap) := by
  have hs : arr.size = us.length + rest.length := by rw [← Array.length_toList, harr, List.length_append]
  have hb : (w.drew.alloc (.cells arr e)).heap[w.heap.size]? = some (.cells arr e (0, 0)) := heap_alloc_new w.drew _
  obtain ⟨E, H'⟩ := H.put (w' := w.drew.alloc (.cells arr e)) (h' := h') (b := w.heap.size) (arr := arr) (hb := ⟨cells, e, p⟩) rfl rfl rfl (by simp) (fun k hk _ => heap_alloc_old w.drew _ hk) hb (.inl (Nat.le_refl _))
    (fun n hr => absurd (rowSize_lt hr) (Nat.lt_irrefl _)) hsub (by simp only [hlen]; omega) (fun i hi => by
      have h1 : i < us.length := by simp only [hlen] at hi; omega
      have h2 : i < arr.size := by omega
      rw [getD_lt h2]
      refine hu i _ _ (List.getElem?_eq_getElem hi) ?_
      have : arr.toList[i]? = us[i]? := by rw [harr, List.getElem?_append_left h1]
      rw [← this, Array.getElem?_toList, Array.getElem?_eq_getElem h2])
  refine ⟨_, _, E, H', .sla _ _ _ _ _ _ (by omega) (by simp) hn hm ?_⟩
  simp only [rowSize]
  rw [hb]
  simp [hs, hsz]

theorem okBytes_iff {n b : Nat} (hk : okBytes n b = true) : n ≤ maxLen ∧ n * b ≤ 140737488355328 := by
  obtain ⟨h1, h2⟩ := of_and hk
  exact ⟨of_ble h1, of_ble h2⟩

theorem append_cells {cs new : List AV} {us news : List Value} {p q : Bool} (hl : cs.length = us.length) (h1 : ∀ (j : Nat) (a : AV) (v : Value), cs[j]? = some a → us[j]? = some v → Rep w B own ω (cond p 0 nx) a v)
    (h2 : ∀ (j : Nat) (a : AV) (v : Value), new[j]? = some a → news[j]? = some v → Rep w B own ω (cond q 0 nx) a v) :
    ∀ (j : Nat) (a : AV) (v : Value), (cs ++ new)[j]? = some a → (us ++ news)[j]? = some v → Rep w B own ω (cond (p && q) 0 nx) a v := fun j a v ha hv => by
  by_cases hj : j < cs.length
  · rw [List.getElem?_append_left hj] at ha
    rw [List.getElem?_append_left (by omega)] at hv
    exact pure_and (h1 j a v ha hv)
  · rw [List.getElem?_append_right (by omega)] at ha
    rw [List.getElem?_append_right (by omega), ← hl] at hv
    rw [Bool.and_comm]
    exact pure_and (h2 _ a v ha hv)

theorem append_onto_nil (H : Hp w B own ω nx h) {t ty e : TypeId} {i : TypeInfo} {z : Value} {ux : Value} {new : List AV} {m : Nat} {pn : Bool} {h' : Heap} {p : Bool} {kv : AV → Heap → Nat → Bool} (hu : P.underlying t = some (.slice e)) (hi : P.info? e = some i) (hzz : i.zero = some z) (hzs : z.cells.size = i.size)
    (hsrc : Src w B own ω nx i.size ux new m pn) (hb : okBytes m i.bytes = true) (hsub : ∀ j x, hget h' j = some x → hget h j = some x) (a0 : Option Addr) (hm0 : ¬ m = 0)
    (hk : kv (.sl nx 0 m i.size true) ((nx, ⟨new, e, p && pn⟩) :: h') (nx + 1) = true) : Yields P w B own ω nx kv ((Builtin.append_ #[t, t] ty #[.slice a0 0 0, ux]).run P w) := by
  obtain ⟨b1, b2⟩ := okBytes_iff hb
  have b1' : m ≤ 9223372036854775807 := by simpa [maxLen] using b1
  obtain ⟨hnl, hsrc⟩ := hsrc
  rcases hsrc with ⟨a1, c1', rfl, hm1⟩ | ⟨b, o, c, news, rfl, g1, g2, g3⟩
  · exact absurd hm1 hm0
  · · rw [run_append_zero t ty e i z hu hi hzz a0 ⟨b, o, none⟩ m c news g1 g2 (by omega) (by omega) b2]
      have hge := grownCap_ge w m 0 e
      have hcm := grownCap_le_maxLen w m 0 e b1
      obtain ⟨own', ω', E, H', R⟩ := grown_row H (h' := h') hsub (e := e) (cells := new) (us := news) (rest := (Builtin.zeroCells z.cells (grownCap w m 0 e - m)).toList) (p := p && pn) (n := m) (cap := grownCap w m 0 e) (sz := i.size)
        (by omega) hge hcm (by rw [g1, Array.length_toList, size_zeroCells, hzs, ← Nat.add_mul]; congr 1; omega)
        (fun j a v ha hv => by rw [Bool.and_comm]; exact pure_and (g3 j a v ha hv)) (arr := news.toArray ++ Builtin.zeroCells z.cells (grownCap w m 0 e - m)) (by simp)
      exact ⟨_, _, _, _, _, _, _, rfl, hk, E, H', R⟩

/-- Nothing is appended. -/
theorem append_zero (H : Hp w B own ω nx h) {t ty e : TypeId} {i : TypeInfo} {ux : Value} {new : List AV} {pn : Bool} {kv : AV → Heap → Nat → Bool} {v : AV} (hu : P.underlying t = some (.slice e)) (hi : P.info? e = some i)
    (hsrc : Src w B own ω nx i.size ux new 0 pn) (a0 : Option Addr)
    (hk : kv v h nx = true) (hr : Rep w B own ω nx v (.slice a0 0 0)) : Yields P w B own ω nx kv ((Builtin.append_ #[t, t] ty #[.slice a0 0 0, ux]).run P w) := by
  have : (Builtin.append_ #[t, t] ty #[.slice a0 0 0, ux]).run P w = .ok (.slice a0 0 0) w := by
    rcases hsrc.2 with ⟨a1, c1', rfl, _⟩ | ⟨b, o, c, news, rfl, _⟩
    · exact run_append_nothing t ty e i hu hi a0 a1 0 0 c1' (Nat.le_refl _)
    · exact run_append_nothing t ty e i hu hi a0 (some ⟨b, o, none⟩) 0 0 c (Nat.le_refl _)
  rw [this]
  exact ⟨_, _, _, _, _, _, _, rfl, hk, Ext.refl _ _ _ _, H, hr⟩

set_option maxHeartbeats 1000000 in
theorem appendK_sound (H : Hp w B own ω nx h) {t t' ty : TypeId} {s x : AV} {us ux : Value} {kv : AV → Heap → Nat → Bool} (hs : Rep w B own ω nx s us) (hx : Rep w B own ω nx x ux)
    (hk : appendK P h nx t t' s x kv false = true) : Yields P w B own ω nx kv ((Builtin.append_ #[t, t'] ty #[us, ux]).run P w) := by
  unfold appendK at hk
  replace hk := of_cond hk
  obtain ⟨ht, hk⟩ := hk
  obtain rfl := of_beq ht
  split at hk
  · rename_i e hu
    split at hk
    · rename_i i hi
      replace hk := of_cond hk
      obtain ⟨hz, hk⟩ := hk
      replace hz := of_and hz; obtain ⟨hz1, hz2⟩ := hz
      have hpos : 0 < i.size := of_ble hz1
      obtain ⟨z, hzz, hzs⟩ : ∃ z, i.zero = some z ∧ z.cells.size = i.size := by
        cases hq : i.zero with
        | none => rw [hq] at hz2; cases hz2
        | some z => rw [hq] at hz2; exact ⟨z, rfl, of_beq hz2⟩
      replace hk := srcK_sound H hx hk
      obtain ⟨new, m, pn, hk, hsrc⟩ := hk
      replace hk := of_cond hk
      obtain ⟨hone, hk⟩ := hk
      obtain ⟨hnl, hsrc⟩ := hsrc
      split at hk
      · -- onto nil
        rcases of_cond2 hk with ⟨hm0, hk⟩ | ⟨hm0, hk⟩
        · cases hs
          obtain rfl := of_beq hm0
          exact append_zero H hu hi ⟨hnl, hsrc⟩ _ hk (.nils _)
        · replace hm0 : ¬ m = 0 := fun e => by rw [(beq_iff _ _).2 e] at hm0; cases hm0
          replace hk := of_cond hk; obtain ⟨hb, hk⟩ := hk
          cases hs
          exact append_onto_nil H (p := true) hu hi hzz hzs ⟨hnl, hsrc⟩ hb (fun _ _ hx => hx) none hm0 (by simpa using hk)
      · -- onto an empty slice
        rcases of_cond2 hk with ⟨hm0, hk⟩ | ⟨hm0, hk⟩
        · cases hs
          obtain rfl := of_beq hm0
          exact append_zero H hu hi ⟨hnl, hsrc⟩ _ hk (.es _ _)
        · replace hm0 : ¬ m = 0 := fun e => by rw [(beq_iff _ _).2 e] at hm0; cases hm0
          replace hk := of_cond hk; obtain ⟨hb, hk⟩ := hk
          cases hs
          exact append_onto_nil H (p := true) hu hi hzz hzs ⟨hnl, hsrc⟩ hb (fun _ _ hx => hx) _ hm0 (by simpa using hk)
      · -- onto an own row
        rename_i id n sz
        split at hk
        · rename_i hb hid
          replace hk := of_cond hk
          obtain ⟨hc, hk⟩ := hk
          replace hc := of_and hc; obtain ⟨c1, c2⟩ := hc
          replace c2 := of_and c2; obtain ⟨c2, c3⟩ := c2
          replace c3 := of_and c3; obtain ⟨c3, c4⟩ := c3
          replace c1 := of_beq c1
          replace c2 := of_beq c2
          replace c3 := of_ble c3
          obtain ⟨b1, b2⟩ := okBytes_iff c4
          have b1' : n + m ≤ 9223372036854775807 := by simpa [maxLen] using b1
          subst c1
          have htk : (hb.cells.take (n * i.size)).length = n * i.size := by simp; omega
          cases hs with
          | sla _ _ _ _ cap b q1 q2 q3 q4 q5 =>
            obtain ⟨arr, h3, h4, h5, h6⟩ := H.there hid q2
            have hsz := row_eq h4 q5
            have hold : ∀ (j : Nat) (a : AV) (v : Value), (hb.cells.take (n * i.size))[j]? = some a → (arr.toList.take (n * i.size))[j]? = some v → Rep w B own ω (cond hb.pure 0 nx) a v := fun j a v ha hv => by
              rw [List.getElem?_take] at ha hv
              split at ha
              · rename_i hj
                rw [if_pos hj] at hv
                obtain ⟨g, e1⟩ := List.getElem?_eq_some_iff.1 ha
                rw [Array.getElem?_toList] at hv
                obtain ⟨g', e2⟩ := Array.getElem?_eq_some_iff.1 hv
                have := h6 j g
                rw [getD_lt g', e1, e2] at this
                exact this
              · cases ha
            have hal : (arr.toList.take (n * i.size)).length = n * i.size := by simp; omega
            subst c2
            -- nothing is moved: the same block under a new number
            have same : new = [] → m = 0 → Yields P w B own ω nx kv (.ok (.slice (some ⟨b, 0, none⟩) n cap) w) := fun e1 e2 => by
              subst e1 e2
              have hlen : (hb.cells.take (n * i.size) ++ ([] : List AV)).length ≤ arr.size := by simp; omega
              obtain ⟨E, H'⟩ := H.put (w' := w) (h' := hdel h id) (b := b) (arr := arr) (hb := ⟨hb.cells.take (n * i.size) ++ [], hb.elem, hb.pure && pn⟩) rfl rfl rfl (Nat.le_refl _) (fun _ _ _ => rfl) h4 (.inr ⟨h3, hdel_other H hid q2⟩)
                (fun k hr => row_eq h4 hr) hdel_sub hlen (fun j hj => by
                  have hj2 : j < (hb.cells.take (n * i.size)).length := by simpa using hj
                  have hj3 : j < arr.size := by omega
                  refine pure_and ?_
                  refine hold j _ _ ?_ ?_
                  · simp only [List.append_nil]; exact List.getElem?_eq_getElem hj2
                  · rw [List.getElem?_take, if_pos (by omega), getD_lt hj3, Array.getElem?_toList, Array.getElem?_eq_getElem hj3])
              refine ⟨_, _, _, _, _, _, _, rfl, hk, E, H', .sla _ _ _ _ _ _ (by omega) (by simp) q3 q4 q5⟩
            rcases hsrc with ⟨a1, c1', rfl, hm0⟩ | ⟨b', o, c, news, rfl, g1, g2, g3⟩
            · rw [run_append_nothing t ty hb.elem i hu hi (some ⟨b, 0, none⟩) a1 n cap c1' q3]
              exact same (List.eq_nil_of_length_eq_zero (by rw [hnl, hm0]; simp)) hm0
            · have h1 := Src.one hnl g1 hone g3
              have hcells := append_cells (by omega) hold g3
              by_cases hroom : n + m ≤ cap
              · have hfit : n * i.size + news.length ≤ arr.size := by rw [g1, ← hsz, ← Nat.add_mul]; exact Nat.mul_le_mul_right _ hroom
                rw [run_append_room (P := P) w t ty hb.elem i hu hi b n cap arr h4 ⟨b', o, none⟩ m c news g1 g2 h1 hroom hfit]
                have hheap := setRow_heap w b arr (arr.toList.take (n * i.size) ++ news ++ arr.toList.drop (n * i.size + news.length)).toArray hb.elem (0, 0) h4
                have hsame : (arr.toList.take (n * i.size) ++ news ++ arr.toList.drop (n * i.size + news.length)).toArray.size = arr.size := by simp; omega
                obtain ⟨E, H'⟩ := H.put (w' := w.setRow b _) (h' := hdel h id) (b := b) (arr := (arr.toList.take (n * i.size) ++ news ++ arr.toList.drop (n * i.size + news.length)).toArray) (hb := ⟨hb.cells.take (n * i.size) ++ new, hb.elem, hb.pure && pn⟩)
                  rfl rfl rfl (by simp) (fun k hk hne => setRow_other w b k _ hne) hheap (.inr ⟨h3, hdel_other H hid q2⟩)
                  (fun k hr => by rw [hsame]; exact row_eq h4 hr) hdel_sub (by rw [hsame]; simp only [List.length_append, htk]; omega) (fun j hj => by
                    have hj2 : j < n * i.size + m * i.size := by simp only [List.length_append, htk, hnl] at hj; omega
                    have hj3 : j < (arr.toList.take (n * i.size) ++ news).length := by rw [List.length_append, hal, g1]; exact hj2
                    refine hcells j _ _ (List.getElem?_eq_getElem hj) ?_
                    rw [getD_lt (by rw [hsame]; omega), List.getElem_toArray, List.getElem_append_left hj3, List.getElem?_eq_getElem hj3])
                refine ⟨_, _, _, _, _, _, _, rfl, hk, E, H', .sla _ _ _ _ _ _ (by omega) (by simp) hroom q4 ?_⟩
                simp only [rowSize]
                rw [hheap]
                exact congrArg some (hsame.trans hsz.symm)
              · have holds : ∀ (j : Nat) (v : Value), (arr.toList.take (n * i.size))[j]? = some v → w.cell? ((⟨b, 0, none⟩ : Addr).add j) = some v := fun j v hv => by
                  rw [List.getElem?_take] at hv
                  split at hv
                  · rw [addr_add]
                    rw [Array.getElem?_toList] at hv
                    simp [World.cell?, h4, hv]
                  · cases hv
                rw [run_append_grow (P := P) w t ty hb.elem i z hu hi hzz ⟨b, 0, none⟩ n cap _ hal holds ⟨b', o, none⟩ m c news g1 g2 (by omega) (by omega) (growslice_fits (by omega) b2)]
                have hge := grownCap_ge w (n + m) cap hb.elem
                have hcm := grownCap_le_maxLen w (n + m) cap hb.elem b1
                obtain ⟨own', ω', E, H', R⟩ := grown_row H (h' := hdel h id) hdel_sub (e := hb.elem) (cells := hb.cells.take (n * i.size) ++ new) (us := arr.toList.take (n * i.size) ++ news)
                  (rest := (Builtin.zeroCells z.cells (grownCap w (n + m) cap hb.elem - (n + m))).toList) (p := hb.pure && pn) (n := n + m) (cap := grownCap w (n + m) cap hb.elem) (sz := i.size)
                  (by simp only [List.length_append]; omega) hge hcm (by rw [List.length_append, hal, g1, Array.length_toList, size_zeroCells, hzs, ← Nat.add_mul, ← Nat.add_mul]; congr 1; omega) hcells
                  (arr := (arr.toList.take (n * i.size)).toArray ++ news.toArray ++ Builtin.zeroCells z.cells (grownCap w (n + m) cap hb.elem - (n + m))) (by simp)
                exact ⟨_, _, _, _, _, _, _, rfl, hk, E, H', R⟩
        · cases hk
      · cases hk
    · cases hk
  · cases hk

theorem src_run {sz : Nat} {u : Value} {cells : List AV} {m n : Nat} {p : Bool} (hs : Src w B own ω nx sz u cells m p) :
    ∃ us : List Value, (Builtin.lenOf u).run P w = .ok m w ∧ (Builtin.firstCells sz (Nat.min m n) u).run P w = .ok us.toArray w ∧ us.length = Nat.min m n * sz ∧
      ∀ (j : Nat) (a : AV) (x : Value), (cells.take (Nat.min m n * sz))[j]? = some a → us[j]? = some x → Rep w B own ω (cond p 0 nx) a x := by
  obtain ⟨hl, hs⟩ := hs
  rcases hs with ⟨a1, c1', rfl, rfl⟩ | ⟨b, o, c, news, rfl, g1, g2, g3⟩
  · refine ⟨[], by simp [Builtin.lenOf, Sem.run], by cases a1 <;> simp [Builtin.firstCells, loadCells, loadCellsFrom, Sem.run], by simp, fun j a x _ hx => by simp at hx⟩
  · have hle : Nat.min m n * sz ≤ m * sz := Nat.mul_le_mul_right _ (Nat.min_le_left m n)
    refine ⟨news.take (Nat.min m n * sz), by simp [Builtin.lenOf, Sem.run], ?_, by rw [List.length_take, g1]; exact Nat.min_eq_left hle, fun j a x ha hx => ?_⟩
    · have := run_loadCells_list (P := P) w ⟨b, o, none⟩ (news.take (Nat.min m n * sz)) (fun j v hv => by
        rw [List.getElem?_take] at hv
        split at hv
        · exact g2 j v hv
        · cases hv)
      have hlen : (news.take (Nat.min m n * sz)).length = Nat.min m n * sz := by rw [List.length_take, g1]; exact Nat.min_eq_left hle
      rw [hlen] at this
      simpa [Builtin.firstCells] using this
    · rw [List.getElem?_take] at ha hx
      split at ha
      · rename_i hj
        rw [if_pos hj] at hx
        exact g3 j a x ha hx
      · cases ha

theorem copyK_sound (H : Hp w B own ω nx h) {t ty : TypeId} {ts : List TypeId} {d x : AV} {ud ux : Value} {kv : AV → Heap → Bool} (hd : Rep w B own ω nx d ud) (hx : Rep w B own ω nx x ux)
    (hk : copyK P h t d x kv false = true) :
    ∃ u w' v h', (Builtin.copy_ (t :: ts).toArray ty #[ud, ux]).run P w = .ok u w' ∧ kv v h' = true ∧ Ext w own ω nx w' own ω nx ∧ Hp w' B own ω nx h' ∧ Rep w' B own ω nx v u := by
  unfold copyK at hk
  split at hk
  · rename_i e hu
    split at hk
    · rename_i sz hsz
      obtain ⟨inf, hinf, rfl⟩ := elemSize_some hsz
      split at hk
      · rename_i id off n s app
        split at hk
        · rename_i hb hid
          replace hk := of_cond hk; obtain ⟨hc, hk⟩ := hk
          replace hc := of_and hc; obtain ⟨h1, h2⟩ := hc
          replace h1 := of_beq h1
          replace h2 := of_ble h2
          subst h1
          replace hk := srcK_sound H hx hk
          obtain ⟨new, m, pn, hk, hsrc⟩ := hk
          replace hk := of_cond hk; obtain ⟨hone, hk⟩ := hk
          obtain ⟨us, r1, r2, r3, r4⟩ := src_run (P := P) (n := n) hsrc
          have hnl := hsrc.1
          have hle : Nat.min m n * inf.size ≤ m * inf.size := Nat.mul_le_mul_right _ (Nat.min_le_left m n)
          have hle2 : Nat.min m n * inf.size ≤ n * inf.size := Nat.mul_le_mul_right _ (Nat.min_le_right m n)
          have htl : (new.take (Nat.min m n * inf.size)).length = Nat.min m n * inf.size := by simp; omega
          have main : ∀ b cap, ω id = some b → ud = .slice (some ⟨b, off, none⟩) n cap → ∃ u w' v h', (Builtin.copy_ (t :: ts).toArray ty #[ud, ux]).run P w = .ok u w' ∧ kv v h' = true ∧ Ext w own ω nx w' own ω nx ∧ Hp w' B own ω nx h' ∧ Rep w' B own ω nx v u := fun b cap hω hud => by
            subst hud
            have h1 := Src.one (sz := inf.size) (m := Nat.min m n) htl r3 (List.all_eq_true.2 fun x hx => List.all_eq_true.1 hone x (List.mem_of_mem_take hx)) r4
            obtain ⟨w', hst, E, H'⟩ := write_row (P := P) H (vs := new.take (Nat.min m n * inf.size)) (us := us) (q := pn) (off := off) hid hω (by omega) r4 h1 (by omega)
            refine ⟨.int .i64 (Nat.min m n : Nat), w', _, _, ?_, hk, E, ?_, .int _ _ _⟩
            · simp only [Nat.min_def] at r2 hst ⊢
              simp only [Builtin.copy_, List.getElem?_toArray, List.getElem?_cons_zero, run_underlying hu, sizeOf, typeInfo, hinf, r1, Sem.run_bind, Sem.run_pure, Result.andThen_ok]
              simp [run_underlying hu, r1, r2, hst, sizeOf, typeInfo, hinf, goInt, Sem.run, Result.andThen, Nat.min_def]
            · rw [htl] at H'
              exact H'
          cases hd with
          | sl _ _ _ _ _ cap b g1 g2 g3 => exact main b cap g2 rfl
          | sla _ _ _ _ cap b g1 g2 g3 g4 g5 => exact main b cap g2 rfl
        · cases hk
      · cases hk
    · cases hk
  · cases hk

theorem lenK_sound {t ty : TypeId} {ts : List TypeId} {x : AV} {us : List Value} {u : Value} {k : AV → Bool} (hx : Rep w B own ω nx x u) (hk : lenK P t x k false = true) :
    Reckons P w B own ω nx (Builtin.len_ (t :: ts).toArray ty (u :: us).toArray) k := by
  unfold lenK at hk
  split at hk
  · rename_i e hu
    split at hk
    · cases hx; exact ⟨_, _, fun _ _ => by simp [Builtin.len_, run_underlying hu, goInt, Sem.run, Result.andThen], .int _ _ _, hk⟩
    · cases hx; exact ⟨_, _, fun _ _ => by simp [Builtin.len_, run_underlying hu, goInt, Sem.run, Result.andThen], .int _ _ _, hk⟩
    · cases hx; exact ⟨_, _, fun _ _ => by simp [Builtin.len_, run_underlying hu, goInt, Sem.run, Result.andThen], .int _ _ _, hk⟩
    · cases hx <;> exact ⟨_, _, fun _ _ => by simp [Builtin.len_, run_underlying hu, goInt, Sem.run, Result.andThen], .int _ _ _, hk⟩
    · cases hx <;> exact ⟨_, _, fun _ _ => by simp [Builtin.len_, run_underlying hu, goInt, Sem.run, Result.andThen], .int _ _ _, hk⟩
    · cases hk
  · rename_i n e hu
    exact ⟨_, _, fun _ _ => by simp [Builtin.len_, run_underlying hu, goInt, Sem.run, Result.andThen], .int _ _ _, hk⟩
  · cases hk

theorem foldIntK_sound {f : Int → Int → Int} {g : Value → Value → Sem Value} (hg : ∀ w k x k' y, (g (.int k x) (.int k' y)).run P w = .ok (.int k (f x y)) w) {kd : IntKind} {k : AV → Bool} : ∀ (l : List AV) (us : List Value) (n : Int), l.length = us.length →
    (∀ (j : Nat) (a : AV) (v : Value), l[j]? = some a → us[j]? = some v → Rep w B own ω nx a v) → foldIntK f kd n l k false = true → Reckons P w B own ω nx (us.foldlM g (.int kd n)) k
  | [], [], n, _, _, hk => ⟨_, _, fun _ _ => by simp [Sem.run], .int _ _ _, hk⟩
  | [], _ :: _, _, hl, _, _ => by simp at hl
  | _ :: _, [], _, hl, _, _ => by simp at hl
  | a :: r, u :: us, n, hl, hr, hk => by
    have h0 := hr 0 a u rfl rfl
    cases a <;> simp only [foldIntK] at hk <;> try cases hk
    rename_i k' m
    cases h0
    obtain ⟨v, x, h1, h2, h3⟩ := foldIntK_sound hg r us (f n m) (by simpa using hl) (fun j a v ha hv => hr (j + 1) a v (by simpa using ha) (by simpa using hv)) hk
    exact ⟨v, x, fun w' hw => by simp [List.foldlM_cons, hg, h1 w' hw, Result.andThen], h2, h3⟩

theorem run_min2 (w : World) (k : IntKind) (x : Int) (k' : IntKind) (y : Int) : (Builtin.min2 (.int k x) (.int k' y)).run P w = .ok (.int k (imin x y)) w := by simp [Builtin.min2, imin, Sem.run]
theorem run_max2 (w : World) (k : IntKind) (x : Int) (k' : IntKind) (y : Int) : (Builtin.max2 (.int k x) (.int k' y)).run P w = .ok (.int k (imax x y)) w := by simp [Builtin.max2, imax, Sem.run]

theorem minmaxK_sound {f : Int → Int → Int} {g : Value → Value → Sem Value} (hg : ∀ w k x k' y, (g (.int k x) (.int k' y)).run P w = .ok (.int k (f x y)) w) {l : List AV} {us : List Value} {k : AV → Bool} (hl : l.length = us.length)
    (hr : ∀ (j : Nat) (a : AV) (v : Value), l[j]? = some a → us[j]? = some v → Rep w B own ω nx a v) (hk : minmaxK f l k false = true) :
    ∃ u r, us = u :: r ∧ Reckons P w B own ω nx (r.foldlM g u) k := by
  cases l with
  | nil => cases hk
  | cons a r =>
    cases us with
    | nil => simp at hl
    | cons u us =>
      have h0 := hr 0 a u rfl rfl
      cases a <;> simp only [minmaxK] at hk <;> try cases hk
      cases h0
      exact ⟨_, _, rfl, foldIntK_sound hg r us _ (by simpa using hl) (fun j a v ha hv => hr (j + 1) a v (by simpa using ha) (by simpa using hv)) hk⟩

end
end Go.Bas
