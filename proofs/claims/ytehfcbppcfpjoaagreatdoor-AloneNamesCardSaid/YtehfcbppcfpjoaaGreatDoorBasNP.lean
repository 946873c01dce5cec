/- The engine, part P: regions that draw their order: what was reckoned in the order of the text, in whatever order: the plain part. -/
import Derived.Test.YtehfcbppcfpjoaaGreatDoorBasNO
namespace Go.Bas
open Go.RowKit
set_option linter.unusedSimpArgs false
set_option linter.unusedVariables false

theorem hget_append (h g : Heap) (id : Nat) : hget (h ++ g) id = (hget h id).or (hget g id) := by
  induction h with
  | nil => simp [hget_nil]
  | cons p r ih =>
    obtain ⟨i, b⟩ := p
    rw [List.cons_append, hget_cons, hget_cons, ih]
    cases Nat.beq i id <;> simp
theorem hget_filter (q : Nat → Bool) (h : Heap) (id : Nat) : hget (h.filter fun p => q p.1) id = cond (q id) (hget h id) none := by
  induction h with
  | nil => simp [hget_nil]
  | cons p r ih =>
    obtain ⟨i, b⟩ := p
    rw [List.filter_cons]
    by_cases hi : i = id
    · subst hi
      have hb : Nat.beq i i = true := (beq_iff i i).2 rfl
      cases hq : q i with
      | true => simp [hget_cons, hb]
      | false => simp [hq] at ih ⊢; exact ih
    · have hb : Nat.beq i id = false := by
        cases hh : Nat.beq i id with
        | false => rfl
        | true => exact absurd ((beq_iff i id).1 hh) hi
      cases hq : q i with
      | true => simp [hget_cons, hb, ih]
      | false => simp [hget_cons, hb, ih]
theorem hget_pick (h : Heap) (fp : List Nat) (id : Nat) : hget (hpick h fp) id = cond (memN fp id) (hget h id) none := hget_filter (memN fp) h id
theorem hget_rest (h : Heap) (fp : List Nat) (id : Nat) : hget (hrest h fp) id = cond (memN fp id) none (hget h id) := by
  have := hget_filter (fun i => !memN fp i) h id
  rw [hrest, this]
  cases memN fp id <;> rfl
theorem hget_none {q : Nat → Bool} {h : Heap} {id : Nat} (ha : h.all (fun p => q p.1) = true) (hq : q id = false) : hget h id = none := by
  induction h with
  | nil => rfl
  | cons p r ih =>
    obtain ⟨i, b⟩ := p
    simp only [List.all_cons, Bool.and_eq_true] at ha
    rw [hget_cons]
    cases hb : Nat.beq i id with
    | true => rw [(beq_iff i id).1 hb] at ha; rw [ha.1] at hq; cases hq
    | false => exact ih ha.2

/-- States that nobody tells apart. -/
structure StEq (s t : St) : Prop where
  tm : s.tmps = t.tmps
  ds : s.ds = t.ds
  hp : ∀ id, hget s.m.heap id = hget t.m.heap id
  nx : s.m.nx = t.m.nx
  lp : s.m.lp = t.m.lp
theorem StEq.refl (s : St) : StEq s s := ⟨rfl, rfl, fun _ => rfl, rfl, rfl⟩
theorem StEq.trans {s t u : St} (h : StEq s t) (h' : StEq t u) : StEq s u := ⟨h.tm.trans h'.tm, h.ds.trans h'.ds, fun id => (h.hp id).trans (h'.hp id), h.nx.trans h'.nx, h.lp.trans h'.lp⟩
theorem StEq.symm {s t : St} (h : StEq s t) : StEq t s := ⟨h.tm.symm, h.ds.symm, fun id => (h.hp id).symm, h.nx.symm, h.lp.symm⟩
theorem applyRc_congr {s t : St} (r : Rc) (h : StEq s t) : StEq (applyRc s r) (applyRc t r) := by
  obtain ⟨dst, out, rd, eff⟩ := r
  cases eff with
  | nop => exact ⟨by simp [applyRc, h.tm], h.ds, h.hp, h.nx, h.lp⟩
  | new id hb => exact ⟨by simp [applyRc, h.tm], h.ds, fun i => by simp only [applyRc, hget_cons, h.hp i], h.nx, h.lp⟩
  | bar fp lo m' => exact ⟨by simp [applyRc, h.tm], h.ds, fun i => by simp only [applyRc, hget_append, hget_rest, h.hp i], rfl, rfl⟩

/-- What the listed ones have done, in the order of the text. -/
noncomputable def sAt (L : Nat → Bool) : Nat → List Rc → St → St
  | _, [], s => s
  | i, r :: rs, s => sAt L (i + 1) rs (cond (L i) (applyRc s r) s)
theorem sAt_congr {L : Nat → Bool} : ∀ (rs : List Rc) (i : Nat) {s t : St}, StEq s t → StEq (sAt L i rs s) (sAt L i rs t)
  | [], i, s, t, h => h
  | r :: rs, i, s, t, h => by
    simp only [sAt]
    refine sAt_congr rs (i + 1) ?_
    cases L i
    · exact h
    · exact applyRc_congr r h
theorem sAt_ext {L L' : Nat → Bool} : ∀ (rs : List Rc) (i : Nat) (s : St), (∀ j, i ≤ j → L j = L' j) → sAt L i rs s = sAt L' i rs s
  | [], i, s, h => rfl
  | r :: rs, i, s, h => by
    simp only [sAt]
    rw [h i (Nat.le_refl _)]
    exact sAt_ext rs (i + 1) _ (fun j hj => h j (by omega))
theorem sAt_pre : ∀ (rs : List Rc) (i j : Nat) (s : St), sAt (fun x => Nat.blt x (i + j)) i rs s = (rs.take j).foldl applyRc s
  | [], i, j, s => by simp [sAt]
  | r :: rs, i, 0, s => by
    have : ∀ (l : List Rc) (i' : Nat) (s : St), i ≤ i' → sAt (fun x => Nat.blt x (i + 0)) i' l s = s := by
      intro l
      induction l with
      | nil => intro i' s h; rfl
      | cons r l ih =>
        intro i' s h
        have hb : Nat.blt i' (i + 0) = false := by
          cases hh : Nat.blt i' (i + 0) with
          | false => rfl
          | true => have := Nat.le_of_ble_eq_true hh; omega
        simp only [sAt, hb, cond_false]
        exact ih _ _ (by omega)
    simpa using this (r :: rs) i s (Nat.le_refl _)
  | r :: rs, i, j + 1, s => by
    have hb : Nat.blt i (i + (j + 1)) = true := Nat.ble_eq_true_of_le (by omega)
    simp only [sAt, hb, cond_true, List.take_succ_cons, List.foldl_cons]
    have := sAt_pre rs (i + 1) j (applyRc s r)
    rw [show i + 1 + j = i + (j + 1) by omega] at this
    exact this
theorem sAt_all : ∀ (rs : List Rc) (i : Nat) (s : St) (L : Nat → Bool), (∀ j, i ≤ j → j < i + rs.length → L j = true) → sAt L i rs s = rs.foldl applyRc s
  | [], i, s, L, h => rfl
  | r :: rs, i, s, L, h => by
    simp only [sAt, h i (Nat.le_refl _) (by simp), cond_true, List.foldl_cons]
    exact sAt_all rs (i + 1) _ L (fun j hj hj' => h j (by omega) (by simp only [List.length_cons]; omega))

theorem lget_set_self {l : List AV} {t : Nat} {v : AV} (h : t < l.length) : lget (lset l t v) t = v := by rw [lset_eq, lget_eq]; simp [h]
theorem lget_set_ne {l : List AV} {t d : Nat} {v : AV} (h : d ≠ t) : lget (lset l d v) t = lget l t := by
  rw [lset_eq, lget_eq, lget_eq, List.getD_eq_getElem?_getD, List.getD_eq_getElem?_getD, List.getElem?_set_ne h]
theorem lget_out {l : List AV} {t : Nat} (h : l.length ≤ t) : lget l t = .any := by rw [lget_eq, List.getD_eq_getElem?_getD, List.getElem?_eq_none h]; rfl
theorem lset_length (l : List AV) (d : Nat) (v : AV) : (lset l d v).length = l.length := by rw [lset_eq]; simp
theorem setT_length (l : List AV) (d : Option Nat) (v : AV) : (setT l d v).length = l.length := by cases d <;> simp [setT, lset_length]
theorem lset_comm {l : List AV} {a b : Nat} {v u : AV} (h : a ≠ b) : lset (lset l a v) b u = lset (lset l b u) a v := by
  simp only [lset_eq]; exact List.set_comm _ _ h
theorem setT_comm {l : List AV} {a b : Option Nat} {v u : AV} (h : ∀ x, a = some x → b ≠ some x) : setT (setT l a v) b u = setT (setT l b u) a v := by
  cases a with
  | none => cases b <;> rfl
  | some x => cases b with
    | none => rfl
    | some y => exact lset_comm (fun e => h x rfl (by rw [e]))
theorem sAt_length (L : Nat → Bool) : ∀ (rs : List Rc) (i : Nat) (s : St), (sAt L i rs s).tmps.length = s.tmps.length
  | [], i, s => rfl
  | r :: rs, i, s => by
    simp only [sAt]
    rw [sAt_length L rs]
    cases L i
    · rfl
    · exact setT_length _ _ _
theorem sAt_ds (L : Nat → Bool) : ∀ (rs : List Rc) (i : Nat) (s : St), (sAt L i rs s).ds = s.ds
  | [], i, s => rfl
  | r :: rs, i, s => by
    simp only [sAt]
    rw [sAt_ds L rs]
    cases L i <;> rfl

/-- A temporary hangs on those that write it. -/
theorem agreeT {L L' : Nat → Bool} {t : Nat} : ∀ (rs : List Rc) (i : Nat) (s s' : St), (∀ j r, getRc rs j = some r → r.dst = some t → L (i + j) = L' (i + j)) → s.tmps.length = s'.tmps.length → lget s.tmps t = lget s'.tmps t →
    lget (sAt L i rs s).tmps t = lget (sAt L' i rs s').tmps t
  | [], i, s, s', h, hl, he => he
  | r :: rs, i, s, s', h, hl, he => by
    simp only [sAt]
    refine agreeT rs (i + 1) _ _ (fun j r' hj hd => ?_) ?_ ?_
    · have := h (j + 1) r' hj hd
      rw [show i + 1 + j = i + (j + 1) by omega]
      exact this
    · cases L i <;> cases L' i <;> simp [applyRc, setT_length, hl]
    · have keep : ∀ (b : Bool) (x : St), ¬ r.dst = some t → lget (cond b (applyRc x r) x).tmps t = lget x.tmps t := fun b x hd => by
        cases b
        · rfl
        · simp only [cond_true, applyRc]
          cases hr : r.dst with
          | none => rfl
          | some d => exact lget_set_ne (fun e => hd (by rw [hr, e]))
      by_cases hd : r.dst = some t
      · have h0 := h 0 r rfl hd
        rw [Nat.add_zero] at h0
        rw [h0]
        cases L' i
        · exact he
        · simp only [cond_true, applyRc, hd, setT]
          by_cases ht : t < s.tmps.length
          · rw [lget_set_self ht, lget_set_self (by omega)]
          · rw [lget_out (by rw [lset_length]; omega), lget_out (by rw [lset_length]; omega)]
      · rw [keep _ _ hd, keep _ _ hd]; exact he
/-- A block hangs on those that touch it. -/
theorem agreeH {L L' : Nat → Bool} {id : Nat} : ∀ (rs : List Rc) (i : Nat) (s s' : St), (∀ j r, getRc rs j = some r → r.eff.touches id = true → L (i + j) = L' (i + j)) → (∀ r ∈ rs, r.eff.domOk = true) → hget s.m.heap id = hget s'.m.heap id →
    hget (sAt L i rs s).m.heap id = hget (sAt L' i rs s').m.heap id
  | [], i, s, s', h, hd, he => he
  | r :: rs, i, s, s', h, hd, he => by
    simp only [sAt]
    refine agreeH rs (i + 1) _ _ (fun j r' hj ht => ?_) (fun r' hr' => hd r' (List.mem_cons_of_mem _ hr')) ?_
    · have := h (j + 1) r' hj ht
      rw [show i + 1 + j = i + (j + 1) by omega]
      exact this
    · have hdom := hd r (List.mem_cons_self ..)
      obtain ⟨dst, out, rd, eff⟩ := r
      simp only at hdom
      have keep : ∀ (b : Bool) (x : St), eff.touches id = false → hget (cond b (applyRc x ⟨dst, out, rd, eff⟩) x).m.heap id = hget x.m.heap id := fun b x ht => by
        cases b
        · rfl
        · simp only [cond_true, applyRc]
          cases eff with
          | nop => rfl
          | new i' hb =>
            simp only [Eff.touches] at ht
            simp only [hget_cons, ht, cond_false]
          | bar fp lo m' =>
            simp only [Eff.touches] at ht
            simp only [hget_append, hget_rest]
            rw [hget_none (q := fun i => memN fp i || Nat.ble lo i) hdom ht]
            simp only [Bool.or_eq_false_iff] at ht
            simp [ht.1]
      cases ht : eff.touches id with
      | false => rw [keep _ _ ht, keep _ _ ht]; exact he
      | true =>
        have h0 := h 0 _ rfl ht
        rw [Nat.add_zero] at h0
        rw [h0]
        cases L' i
        · exact he
        · simp only [cond_true, applyRc]
          cases eff with
          | nop => exact he
          | new i' hb => simp only [hget_cons, he]
          | bar fp lo m' => simp only [hget_append, hget_rest, he]
/-- The rest of the memory hangs on the barriers. -/
theorem agreeN {L L' : Nat → Bool} : ∀ (rs : List Rc) (i : Nat) (s s' : St), (∀ j r, getRc rs j = some r → r.eff.isBar = true → L (i + j) = L' (i + j)) → s.m.nx = s'.m.nx → s.m.lp = s'.m.lp →
    (sAt L i rs s).m.nx = (sAt L' i rs s').m.nx ∧ (sAt L i rs s).m.lp = (sAt L' i rs s').m.lp
  | [], i, s, s', h, hn, hl => ⟨hn, hl⟩
  | r :: rs, i, s, s', h, hn, hl => by
    simp only [sAt]
    have step : (cond (L i) (applyRc s r) s).m.nx = (cond (L' i) (applyRc s' r) s').m.nx ∧ (cond (L i) (applyRc s r) s).m.lp = (cond (L' i) (applyRc s' r) s').m.lp := by
      obtain ⟨dst, out, rd, eff⟩ := r
      cases eff with
      | nop => cases L i <;> cases L' i <;> exact ⟨hn, hl⟩
      | new i' hb => cases L i <;> cases L' i <;> exact ⟨hn, hl⟩
      | bar fp lo m' =>
        have h0 := h 0 _ rfl rfl
        rw [Nat.add_zero] at h0
        rw [h0]
        cases L' i
        · exact ⟨hn, hl⟩
        · exact ⟨rfl, rfl⟩
    refine agreeN rs (i + 1) _ _ (fun j r' hj ht => ?_) step.1 step.2
    have := h (j + 1) r' hj ht
    rw [show i + 1 + j = i + (j + 1) by omega]
    exact this

/-- They may come either way round. -/
def Commute (a b : Rc) : Prop := (∀ x, a.dst = some x → b.dst ≠ some x) ∧ effClash a.eff b.eff = false ∧ a.eff.domOk = true ∧ b.eff.domOk = true
theorem apply_comm {a b : Rc} (h : Commute a b) (s : St) : StEq (applyRc (applyRc s a) b) (applyRc (applyRc s b) a) := by
  obtain ⟨h1, h2, h3, h4⟩ := h
  obtain ⟨d1, o1, r1, e1⟩ := a
  obtain ⟨d2, o2, r2, e2⟩ := b
  have tm : (applyRc (applyRc s ⟨d1, o1, r1, e1⟩) ⟨d2, o2, r2, e2⟩).tmps = (applyRc (applyRc s ⟨d2, o2, r2, e2⟩) ⟨d1, o1, r1, e1⟩).tmps := setT_comm h1
  have nb : ∀ (i : Nat) (hb : HB) (fp : List Nat) (lo : Nat) (m' : Mem) (id : Nat), (memN fp i || Nat.ble lo i) = false → (m'.heap.all fun p => memN fp p.1 || Nat.ble lo p.1) = true →
      hget (m'.heap ++ hrest ((i, hb) :: s.m.heap) fp) id = hget ((i, hb) :: (m'.heap ++ hrest s.m.heap fp)) id := fun i hb fp lo m' id hc hd => by
    simp only [hget_append, hget_rest, hget_cons]
    cases hi : Nat.beq i id with
    | true =>
      have := (beq_iff i id).1 hi
      subst this
      rw [hget_none (q := fun i => memN fp i || Nat.ble lo i) hd hc]
      simp only [Bool.or_eq_false_iff] at hc
      simp [hc.1]
    | false => simp
  refine ⟨tm, rfl, fun id => ?_, ?_, ?_⟩
  · cases e1 <;> cases e2 <;> simp only [applyRc] <;> try rfl
    case new.new i hb j hb' =>
      have hne : ¬ i = j := fun e => by rw [effClash, (beq_iff i j).2 e] at h2; cases h2
      simp only [hget_cons]
      cases hi : Nat.beq i id with
      | true =>
        have e1 := (beq_iff i id).1 hi
        cases hj : Nat.beq j id with
        | true => exact absurd (e1.trans ((beq_iff j id).1 hj).symm) hne
        | false => rfl
      | false => cases Nat.beq j id <;> rfl
    case new.bar i hb fp lo m' => exact nb i hb fp lo m' id h2 h4
    case bar.new fp lo m' i hb => exact (nb i hb fp lo m' id h2 h3).symm
    case bar.bar => cases h2
  · cases e1 <;> cases e2 <;> first | rfl | cases h2
  · cases e1 <;> cases e2 <;> first | rfl | cases h2
theorem push {L : Nat → Bool} {r : Rc} : ∀ (rs : List Rc) (i : Nat) (s : St), (∀ j r', getRc rs j = some r' → L (i + j) = true → Commute r r') → StEq (sAt L i rs (applyRc s r)) (applyRc (sAt L i rs s) r)
  | [], i, s, h => StEq.refl _
  | r' :: rs, i, s, h => by
    simp only [sAt]
    have hrest : ∀ j r'', getRc rs j = some r'' → L (i + 1 + j) = true → Commute r r'' := fun j r'' hj hL => h (j + 1) r'' hj (by rw [show i + (j + 1) = i + 1 + j by omega]; exact hL)
    cases hL : L i with
    | false => exact push rs (i + 1) s hrest
    | true => exact (sAt_congr rs (i + 1) (apply_comm (h 0 r' rfl hL) s)).trans (push rs (i + 1) (applyRc s r') hrest)
/-- One more is listed. -/
theorem insert {L L' : Nat → Bool} {j : Nat} {r : Rc} : ∀ (rs : List Rc) (i : Nat) (s : St), getRc rs j = some r → L (i + j) = false → L' (i + j) = true → (∀ x, x ≠ i + j → L' x = L x) →
    (∀ x r', j < x → getRc rs x = some r' → L (i + x) = true → Commute r r') → StEq (sAt L' i rs s) (applyRc (sAt L i rs s) r)
  | [], i, s, hr, _, _, _, _ => by cases j <;> cases hr
  | r' :: rs, i, s, hr, h1, h2, h3, h4 => by
    simp only [sAt]
    cases j with
    | zero =>
      simp only [getRc, Option.some.injEq] at hr
      subst hr
      rw [Nat.add_zero] at h1 h2
      rw [h1, h2]
      simp only [cond_true, cond_false]
      rw [sAt_ext (L := L') (L' := L) rs (i + 1) _ (fun x hx => h3 x (by omega))]
      exact push rs (i + 1) s (fun x r'' hx hL => h4 (x + 1) r'' (by omega) hx (by rw [show i + (x + 1) = i + 1 + x by omega]; exact hL))
    | succ j =>
      rw [h3 i (by omega)]
      refine insert rs (i + 1) _ hr ?_ ?_ (fun x hx => h3 x (by omega)) (fun x r'' hx hg hL => h4 (x + 1) r'' (by omega) hg ?_)
      · rw [show i + 1 + j = i + (j + 1) by omega]; exact h1
      · rw [show i + 1 + j = i + (j + 1) by omega]; exact h2
      · rw [show i + (x + 1) = i + 1 + x by omega]; exact hL
end Go.Bas
