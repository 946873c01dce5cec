/- The engine, part L: what a row's arguments read as, seen abstractly; and a row's claim 'it returns true, and its arguments read as before' out of a call that leaves old memory alone. -/
import Derived.Test.YtehfcbppcfpjoaaGreatDoorBasNK
import Derived.ProofKit
namespace Go.Bas
open Go.RowKit Go.ChangeShapes Go.WideShapes
set_option linter.unusedSimpArgs false
set_option linter.unusedVariables false

/-- Cells of numbers and bools. -/
def CellsOk : List CK → List Value → Prop
  | [], cs => cs = []
  | .b :: ks, cs => ∃ (b : Bool) (r : List Value), cs = .bool b :: r ∧ CellsOk ks r
  | .i k :: ks, cs => ∃ (n : Int) (r : List Value), cs = .int k n :: r ∧ (Lit.int k n).wf = true ∧ CellsOk ks r
  | .s :: _, _ => False
  | .o :: _, _ => False

theorem CellsOk.append : ∀ {ks ms : List CK} {a b : List Value}, CellsOk ks a → CellsOk ms b → CellsOk (ks ++ ms) (a ++ b)
  | [], ms, a, b, h1, h2 => by
    obtain rfl : a = [] := h1
    exact h2
  | .b :: ks, ms, a, b, ⟨x, r, e, h1⟩, h2 => ⟨x, r ++ b, by rw [e]; rfl, h1.append h2⟩
  | .i k :: ks, ms, a, b, ⟨x, r, e, hw, h1⟩, h2 => ⟨x, r ++ b, by rw [e]; rfl, hw, h1.append h2⟩
  | .s :: _, _, _, _, h1, _ => h1.elim
  | .o :: _, _, _, _, h1, _ => h1.elim

theorem CellsOk.length : ∀ {ks : List CK} {a : List Value}, CellsOk ks a → a.length = ks.length
  | [], a, h => by obtain rfl : a = [] := h; rfl
  | .b :: ks, a, ⟨x, r, e, h1⟩ => by rw [e]; simp [h1.length]
  | .i k :: ks, a, ⟨x, r, e, hw, h1⟩ => by rw [e]; simp [h1.length]
  | .s :: _, _, h1 => h1.elim
  | .o :: _, _, h1 => h1.elim

section
variable {H : Type} {enc : TypeId × Value → H} {P : Program} {w : World} {base : Nat} {spare : Nat → Bool} {held : Bool}

theorem flatFs_cells {g : TypeId → Option (List CK)} (hg : ∀ t ks, g t = some ks → ∀ fuel cs x, P.cellsOf t = ks.length → DataW.trod enc P w base spare held fuel t cs = some x → CellsOk ks cs) {cs : List Value} {n : Nat} :
    ∀ (r : List Field) (ks all : List CK), flatFs P g r ks = some all → cs.length = all.length → (∀ f ∈ r, ∃ y, DataW.trod enc P w base spare held n f.type ((cs.drop f.offset).take (P.cellsOf f.type)) = some y) →
    ∃ rest, all = ks ++ rest ∧ CellsOk rest (cs.drop ks.length)
  | [], ks, all, h, hl, _ => by
    obtain rfl := Option.some.inj h
    exact ⟨[], by simp, List.drop_eq_nil_of_le (by omega)⟩
  | f :: r, ks, all, h, hl, hf => by
    simp only [flatFs] at h
    cases hc : (Nat.beq f.offset ks.length && f.name != "_") with
    | false => rw [hc] at h; cases h
    | true =>
      rw [hc] at h
      simp only [cond_true] at h
      obtain ⟨c1, c2⟩ := of_and hc
      replace c1 := of_beq c1
      split at h
      · rename_i ms i hms hi
        cases hb : Nat.beq i.size ms.length with
        | false => rw [hb] at h; cases h
        | true =>
          rw [hb] at h
          simp only [cond_true] at h
          replace hb := of_beq hb
          have hco : P.cellsOf f.type = ms.length := by simp [Program.cellsOf, hi, hb]
          obtain ⟨rest, e, h2⟩ := flatFs_cells hg r (ks ++ ms) all h hl (fun f hf' => hf f (List.mem_cons_of_mem _ hf'))
          obtain ⟨y, hy⟩ := hf f (List.mem_cons_self ..)
          rw [c1, hco] at hy
          have h1 := hg _ _ hms _ _ _ hco hy
          refine ⟨ms ++ rest, by rw [e, List.append_assoc], ?_⟩
          have := h1.append h2
          rwa [List.length_append, ← List.drop_drop, List.take_append_drop] at this
      · cases h

theorem flat_cells : ∀ (d : Nat) (t : TypeId) (ks : List CK), flatT P d t = some ks → ∀ fuel cs x, P.cellsOf t = ks.length → DataW.trod enc P w base spare held fuel t cs = some x → CellsOk ks cs
  | 0, _, _, h => by cases h
  | d + 1, t, ks, h => fun fuel cs x hc hx => by
    simp only [flatT] at h
    split at h
    · rename_i hu
      obtain rfl := Option.some.inj h
      obtain ⟨b, rfl, _⟩ := DataW.trod_bool hu hx
      exact ⟨b, [], rfl, rfl⟩
    · rename_i k hu
      obtain rfl := Option.some.inj h
      obtain ⟨n, rfl, _, hw⟩ := DataW.trod_int hu hx
      exact ⟨n, [], rfl, hw, rfl⟩
    · rename_i fs hu
      cases hst : P.stoodInHeld t with
      | true => rw [hst] at h; cases h
      | false =>
        rw [hst] at h
        simp only [cond_false] at h
        obtain ⟨xs, n, _, _, hl, hlen, hf⟩ := DataW.trod_struct hu hx
        obtain ⟨rest, e, h2⟩ := flatFs_cells (cs := cs) (n := n) (flat_cells d) fs.toList [] ks h (by omega) (fun f hf' => by
          obtain ⟨i, hi, e⟩ := List.mem_iff_getElem.1 hf'
          have hi' : i < fs.size := by simpa using hi
          have := hf i f (by rw [← e]; simp)
          rw [this]
          exact ⟨_, List.getElem?_eq_getElem (by omega)⟩)
        simp only [List.nil_append] at e
        subst e
        simpa using h2
    · cases h

/-- An argument: a struct of numbers and bools. -/
theorem open_flat {r : Reach} {b0 : Nat} {t : TypeId} {v : Value} {d : DataW H} {ps : List MemPlace} {fs : Array Field} {ks : List CK} (ht : P.underlying t = some (.struct fs)) (hf : flatT P 8 t = some ks) (hc : P.cellsOf t = ks.length)
    (hval : Value.okWide P w r b0 t v) (hd : DataW.Trod enc P w base spare held t v d ps) : ∃ l, v = .agg (List.toArray l) ∧ CellsOk ks l := by
  simp only [Value.okWide, ht] at hval
  obtain ⟨cs, rfl, _, _⟩ := hval
  obtain ⟨fuel, hx⟩ := hd
  exact ⟨cs.toList, by simp, flat_cells 8 t ks hf _ _ _ hc (by simpa [Value.cells] using hx)⟩

theorem cells?_get {a : Addr} {n : Nat} {cs : List Value} (h : w.cells? base a n = some cs) : cs.length = n ∧ ∀ j (hj : j < cs.length), w.cell? (a.add j) = some cs[j] := by
  unfold World.cells? at h
  split at h
  · have key : ∀ (l : List Nat) (cs : List Value), l.mapM (fun i => w.cell? (a.add i)) = some cs → cs.length = l.length ∧ ∀ j (hj : j < cs.length) (hj' : j < l.length), w.cell? (a.add l[j]) = some cs[j] := by
      intro l
      induction l with
      | nil => intro cs h; simp at h; subst h; exact ⟨rfl, fun j hj => absurd hj (Nat.not_lt_zero _)⟩
      | cons i l ih =>
        intro cs h
        simp only [List.mapM_cons, Option.bind_eq_bind, Option.bind_eq_some_iff, Option.pure_def, Option.some.injEq] at h
        obtain ⟨c, h1, r, h2, rfl⟩ := h
        obtain ⟨e1, e2⟩ := ih r h2
        refine ⟨by simp [e1], fun j hj hj' => ?_⟩
        cases j with
        | zero => exact h1
        | succ j => exact e2 j (by simpa using hj) (by simpa using hj')
    obtain ⟨e1, e2⟩ := key _ _ h
    exact ⟨by simpa using e1, fun j hj => by
      have := e2 j hj (by rw [← e1]; exact hj)
      rwa [List.getElem_range] at this⟩
  · cases h

theorem flat_at {sz : Nat} : ∀ (rows : List (List Value)), (∀ r ∈ rows, r.length = sz) → ∀ i j, i < rows.length → j < sz → rows.flatten[i * sz + j]? = (rows.getD i [])[j]?
  | [], _, i, j, hi, _ => absurd hi (Nat.not_lt_zero _)
  | r :: rows, h, 0, j, _, hj => by
    have hr := h r (List.mem_cons_self ..)
    simp only [List.flatten_cons, Nat.zero_mul, Nat.zero_add]
    rw [List.getElem?_append_left (by omega)]
    rfl
  | r :: rows, h, i + 1, j, hi, hj => by
    have hr := h r (List.mem_cons_self ..)
    have e : (i + 1) * sz + j = r.length + (i * sz + j) := by rw [Nat.succ_mul]; omega
    simp only [List.flatten_cons]
    rw [e, List.getElem?_append_right (Nat.le_add_right _ _), Nat.add_sub_cancel_left]
    rw [flat_at rows (fun r hr => h r (List.mem_cons_of_mem _ hr)) i j (by simpa using hi) hj]
    rfl
theorem flatten_len {sz : Nat} : ∀ (rows : List (List Value)), (∀ r ∈ rows, r.length = sz) → rows.flatten.length = rows.length * sz
  | [], _ => by simp
  | r :: rows, h => by
    have hr := h r (List.mem_cons_self ..)
    simp only [List.flatten_cons, List.length_append, List.length_cons, flatten_len rows (fun r hr => h r (List.mem_cons_of_mem _ hr)), hr, Nat.succ_mul]
    omega

/-- An argument: a slice of such, in memory that nobody writes. -/
theorem open_flats {r : Reach} {b0 : Nat} {t e : TypeId} {v : Value} {d : DataW H} {ps : List MemPlace} {ks : List CK} (ht : P.underlying t = some (.slice e)) (hf : flatT P 8 e = some ks) (hc : P.cellsOf e = ks.length) (hpos : 0 < ks.length)
    (hval : Value.okWide P w r b0 t v) (hd : DataW.Trod enc P w base spare held t v d ps) :
    ∃ rows : List (List Value), (∀ x ∈ rows, CellsOk ks x) ∧ rows.length ≤ maxLen ∧ Rep w (fun _ => False) (fun _ => False) (fun _ => none) 0 (.lst (rows.flatten.map ofS) rows.length) v := by
  have hone : ∃ (sa : Option Addr) (sn sc : Nat), v = .slice sa sn sc := by
    simp only [Value.okWide, ht, Cell.okWide, Cell.ok] at hval
    cases v <;> first | exact ⟨_, _, _, rfl⟩ | exact hval.elim | cases hval
  obtain ⟨sa, sn, sc, rfl⟩ := hone
  obtain ⟨fuel, hx⟩ := hd
  simp only [Value.cells] at hx
  rcases DataW.trod_slice ht hx with ⟨h0, _⟩ | ⟨a, len, cap, elems, rest, n, _, h0, _, hb, hl, hm, hlen, hel, hsp, hns⟩
  · simp at h0
    obtain ⟨rfl, rfl, rfl⟩ := h0
    exact ⟨[], fun x h => (by cases h), Nat.zero_le _, .lstn _ _ _⟩
  · simp at h0
    obtain ⟨rfl, rfl, rfl⟩ := h0
    have each : ∀ i, i < sn → ∃ cs, w.cells? base (a.add (i * ks.length)) ks.length = some cs ∧ CellsOk ks cs := fun i hi => by
      have := hel i hi
      rw [List.getElem?_eq_getElem (by omega), hc] at this
      obtain ⟨cs, h1, h2⟩ := Option.bind_eq_some_iff.1 this
      exact ⟨cs, h1, flat_cells 8 e ks hf _ _ _ hc h2⟩
    let row : Nat → List Value := fun i => (w.cells? base (a.add (i * ks.length)) ks.length).getD []
    have hrow : ∀ i, i < sn → w.cells? base (a.add (i * ks.length)) ks.length = some (row i) ∧ CellsOk ks (row i) := fun i hi => by
      obtain ⟨cs, h1, h2⟩ := each i hi
      simp only [row, h1, Option.getD_some]
      exact ⟨trivial, h2⟩
    have hmem : ∀ x ∈ (List.range sn).map row, CellsOk ks x := fun x hx => by
      obtain ⟨i, hi, rfl⟩ := List.mem_map.1 hx
      exact (hrow i (by simpa using hi)).2
    refine ⟨(List.range sn).map row, hmem, by simp; omega, ?_⟩
    have hlens : ∀ x ∈ (List.range sn).map row, x.length = ks.length := fun x hx => (hmem x hx).length
    by_cases hz : sn = 0
    · subst hz
      exact .lstn _ _ _
    · have hspot : a.spot = none := by
        have h1 := (cells?_get (hrow 0 (by omega)).1)
        have h2 := h1.2 0 (by omega)
        simp only [Nat.zero_mul] at h2
        have h3 : ((a.add 0).add 0).spot = none := by
          cases hs : ((a.add 0).add 0).spot with
          | none => rfl
          | some s =>
            simp only [World.cell?, hs, Option.isSome_some, if_true] at h2
            split at h2 <;> cases h2
        simpa [Addr.add] using h3
      obtain ⟨b, o, sp⟩ := a
      simp only at hspot
      subst hspot
      have hfl := flatten_len _ hlens
      simp only [List.length_map, List.length_range] at hfl
      have hcell : ∀ q (hq : q < ((List.range sn).map row).flatten.length), w.cell? ⟨b, o + q, none⟩ = some ((List.range sn).map row).flatten[q] := fun q hq => by
        have hpk := hpos
        have hi : q / ks.length < sn := (Nat.div_lt_iff_lt_mul hpos).2 (by omega)
        have hj : q % ks.length < ks.length := Nat.mod_lt _ hpos
        have h1 := cells?_get (hrow _ hi).1
        have h2 := h1.2 (q % ks.length) (by omega)
        rw [addr_add, addr_add, Nat.add_assoc, Nat.mul_comm, Nat.div_add_mod] at h2
        rw [h2]
        have h3 := flat_at _ hlens (q / ks.length) (q % ks.length) (by simpa using hi) hj
        rw [Nat.mul_comm, Nat.div_add_mod, List.getElem?_eq_getElem hq] at h3
        rw [h3]
        simp only [List.getD_eq_getElem?_getD, List.getElem?_map, List.getElem?_range hi, Option.map_some, Option.getD_some]
        exact (List.getElem?_eq_getElem (by omega)).symm
      have h0 : 0 < ((List.range sn).map row).flatten.length := by rw [hfl]; exact Nat.mul_pos (by omega) hpos
      rw [show ((List.range sn).map row).length = sn by simp]
      clear hlens hmem
      generalize ((List.range sn).map row).flatten = fl at hcell h0
      refine Rep.lst (B := fun _ => False) (own := fun _ => False) _ _ _ sc b o (fun q => fl.getD q undef) (fun _ => ⟨?_, fun h => h, fun h => h⟩) (by simpa using hl) (fun q hq => ?_) (fun q hq => ?_)
      · have := hcell 0 h0
        rcases Nat.lt_or_ge b w.heap.size with h | h
        · exact h
        · simp [World.cell?, Array.getElem?_eq_none h] at this
      · rw [List.length_map] at hq
        rw [hcell q hq, List.getD_eq_getElem?_getD, List.getElem?_eq_getElem hq, Option.getD_some]
      · have hq' : q < fl.length := by rw [List.length_map] at hq; exact hq
        rw [List.getElem_map, List.getD_eq_getElem?_getD, List.getElem?_eq_getElem hq', Option.getD_some]
        exact rep_ofS _ _ _ _ _ _

end

/-! ### The row's frame -/
theorem Still.below {w w' : World} (E : Still w w') : Below w.heap.size w w' := ⟨E.os, E.tape, E.output, E.size, fun k hk => E.old k hk (fun h => h)⟩
def rowed (P : Program) (ts : List TypeId) : Bool := ts.all fun t => P.readableRec t && decide (t < P.types.size)

theorem trodAll_below {H : Type} {enc : TypeId × Value → H} {P : Program} (hl : laidOutB P = true) {W W' : World} (hb : Below W.heap.size W W') {sp : Nat → Bool} : ∀ {ts : List TypeId} {vs : List Value} {ds : List (DataW H)} {ps : List MemPlace}, rowed P ts = true →
    (∀ x ∈ ps, x.block < W.heap.size) → (∀ x ∈ ps, sp x.block = true) → DataW.TrodAll enc P W 0 (fun _ => true) true ts vs ds ps → DataW.TrodAll enc P W' 0 sp true ts vs ds ps
  | [], [], [], _, _, _, _, h => h
  | t :: ts, v :: vs, d :: ds, ps, hr, hlt, hsp, ⟨p, q, h1, h2, e⟩ => by
    subst e
    simp only [rowed, List.all_cons, Bool.and_eq_true, decide_eq_true_eq] at hr
    refine ⟨p, q, ?_, trodAll_below hl hb (by simpa [rowed] using hr.2) (fun x hx => hlt x (List.mem_append_right _ hx)) (fun x hx => hsp x (List.mem_append_right _ hx)) h2, rfl⟩
    exact WideElems.Trod_stays hl hr.1.1 hr.1.2 h1 (fun x hx => hb.same (hlt x (List.mem_append_left _ hx))) (fun x hx => hsp x (List.mem_append_left _ hx))
  | [], _ :: _, _, _, _, _, _, h => h.elim
  | [], [], _ :: _, _, _, _, _, h => h.elim
  | _ :: _, [], _, _, _, _, _, h => h.elim
  | _ :: _, _ :: _, [], _, _, _, _, h => h.elim

theorem post_true {H : Type} {enc : TypeId × Value → H} {P : Program} {f : Func} {s : ChangeSpec} {apart fresh handsOn again : Bool} {W W' : World} {args : Array Value} {ds gs : List (DataW H)} {before : List MemPlace} {t : TypeId}
    (hl : laidOutB P = true) (hr : rowed P f.params.toList = true) (hv : s.vars = [])
    (hW : DataW.Whole enc P f.params.toList s.vars apart W args.toList ds gs before) (hb : Below W.heap.size W W') (hres : f.resultTypes = #[t]) (ht : P.underlying t = some .bool)
    (h1 : (s.fn H (ds ++ gs)).results = [.lit (.bool true)]) (h2 : (s.fn H (ds ++ gs)).args = ds) (h3 : (s.fn H (ds ++ gs)).vars = []) :
    s.post enc P f apart fresh handsOn again W args (.bool true) W' := by
  have hlt := hW.lt
  have hW0 := hW
  obtain ⟨p, q, hA, hV, rfl, hz, hn⟩ := hW
  rw [hv] at hV
  obtain ⟨rfl, rfl⟩ := trodVars_none hV
  have hr1 : ∀ (b : Nat) (sp : Nat → Bool) (hd : Bool), DataW.TrodAll enc P W' b sp hd f.resultTypes.toList ((Value.bool true).resultList f.resultTypes.size) (s.fn H (ds ++ [])).results [] := fun b sp hd => by
    rw [hres, h1]
    exact trodAll_mk1 (shut_bool ht true)
  have hr2 : ∀ sp : Nat → Bool, (∀ x ∈ p, sp x.block = true) → DataW.TrodAll enc P W' 0 sp true f.params.toList args.toList ds p := fun sp hs =>
    trodAll_below hl hb hr (fun x hx => hlt x (List.mem_append_left _ hx)) hs hA
  refine ⟨ds, [], p ++ [], [], p, [], hW0, hr1 _ _ _, by rw [h2]; exact hr2 _ (fun x hx => by simpa using hlt x (List.mem_append_left _ hx)), by rw [hv, h3]; exact rfl, World.keptBut_mono (fun _ h => h.elim) (hb.frame fun _ => False), fun _ => ⟨?_, (s.fn H (ds ++ [])).results ++ ds, [], [] ++ p, ⟨[] ++ p, [], trodAll_append (hr2 _ (fun _ _ => rfl)) (hr1 _ _ _), by rw [hv]; exact rfl, by simp, ?_, ?_⟩, ?_⟩⟩
  · rw [hres]
    intro j t' r hj hx
    match j, hj, hx with
    | 0, hj, hx =>
      simp [Value.resultList] at hj hx
      subst hj; subst hx
      exact okWide_bool_mk ht true
  · intro b off hp
    have hp' : MemPlace.cell b off ∈ p ++ [] := by simpa using hp
    rw [hb.frozen (p := ⟨b, off, none⟩) (hlt _ hp')]
    exact hz b off hp'
  · intro ha
    have := hn ha
    simpa using this
  · intro x hx _
    simpa using hx

theorem rep_cells {w : World} {B : Nat → Prop} {own : Nat → Prop} {ω : Nat → Option Nat} {nx : Nat} (l : List Value) : Rep w B own ω nx (.agg (l.map ofS)) (.agg l.toArray) := by
  have := repL_ofS (w := w) (B := B) (own := own) (ω := ω) (nx := nx) l.toArray
  exact .agg _ _ _ this.1 this.2
theorem repL_nil {w : World} {B : Nat → Prop} {own : Nat → Prop} {ω : Nat → Option Nat} {nx : Nat} : RepL w B own ω nx [] #[] := ⟨rfl, fun i hi => absurd hi (Nat.not_lt_zero _)⟩
theorem repL_cons {w : World} {B : Nat → Prop} {own : Nat → Prop} {ω : Nat → Option Nat} {nx : Nat} {v : AV} {u : Value} {vs : List AV} {us : List Value} (h : Rep w B own ω nx v u) (hs : RepL w B own ω nx vs us.toArray) : RepL w B own ω nx (v :: vs) (u :: us).toArray := by
  refine repL_of (by simpa using hs.1) (fun j a x ha hx => ?_)
  cases j with
  | zero => simp at ha hx; subst ha hx; exact h
  | succ j => exact hs.at (by simpa using ha) (by simpa using hx)

theorem wrap_eq {k : IntKind} {n : Int} (h : (Lit.int k n).wf = true) : k.wrap n = n := by
  simp only [Lit.wf, Bool.and_eq_true, decide_eq_true_eq] at h
  unfold IntKind.wrap
  cases k <;> simp [IntKind.min, IntKind.max, IntKind.bits, IntKind.signed] at h ⊢ <;> omega
theorem wf_iff {k : IntKind} {n : Int} : (Lit.int k n).wf = true ↔ k.min ≤ n ∧ n ≤ k.max := by simp [Lit.wf]
end Go.Bas
