/- The engine, part T: regions that draw their order, in whatever order. -/
import Derived.Test.YtehfcbppcfpjoaaGreatDoorBasNS
namespace Go.Bas
open Go.RowKit
set_option linter.unusedSimpArgs false
set_option linter.unusedVariables false

theorem lset_same {l : List AV} {d : Nat} {v : AV} (h : lget l d = v) : lset l d v = l := by
  rw [lset_eq]
  rw [lget_eq] at h
  refine List.ext_getElem? fun i => ?_
  by_cases hi : i = d
  · subst hi
    by_cases hl : i < l.length
    · rw [List.getElem?_set_self hl]
      have : l[i]? = some (l.getD i .any) := by simp [hl]
      rw [this, h]
    · rw [List.getElem?_eq_none (by simpa using Nat.le_of_not_lt hl), List.getElem?_eq_none (Nat.le_of_not_lt hl)]
  · rw [List.getElem?_set_ne (Ne.symm hi)]
noncomputable def guardO (ops : Array Oper) (tmps : List AV) (o : Oper) : Option Bool := guardK ops tmps o (fun _ => some true) (fun _ => some false) none
theorem guardK_eq {Ω : Type} (ops : Array Oper) (tmps : List AV) (o : Oper) (x y : List AV → Ω) (z : Ω) : guardK ops tmps o x y z = match guardO ops tmps o with
    | some true => x tmps
    | some false => y tmps
    | none => z := by
  unfold guardO guardK
  split
  · rfl
  · rename_i j want hg
    split
    · split
      · split
        · rename_i b hb
          cases b with
          | true => rw [lset_same hb]; cases want <;> rfl
          | false => rw [lset_same hb]; cases want <;> rfl
        · rfl
        · rfl
      · rfl
    · rfl
theorem guardO_congr {ops : Array Oper} {tmps tmps' : List AV} {o : Oper} (h : ∀ t ∈ looksL ops o, lget tmps t = lget tmps' t) : guardO ops tmps o = guardO ops tmps' o := by
  unfold guardO guardK
  split
  · rfl
  · rename_i j want hg
    split
    · rename_i oj hoj
      split
      · rename_i d hd
        have : lget tmps d = lget tmps' d := h d (by simp [looksL, hg, hoj, hd])
        rw [this]
      · rfl
    · rfl

section
variable {C : Cfg} {w : World} {B oC oL : Nat → Prop} {ω : Nat → Option Nat} {nx nx0 : Nat}
theorem guardO_sound {B' own : Nat → Prop} {ops : Array Oper} {tmps : List AV} {arr : Array Value} {o : Oper} {b : Bool} (ht : RepL w B' own ω nx tmps arr) (h : guardO ops tmps o = some b) : Region.wanted o (yielded ops arr) = b := by
  have hk : guardK ops tmps o (fun _ => b) (fun _ => !b) false = true := by
    rw [guardK_eq, h]
    cases b <;> rfl
  rcases guardK_sound ht hk with ⟨h1, h2⟩ | ⟨h1, h2⟩
  · rw [h1]; exact h2.symm
  · rw [h1]; cases b <;> simp_all

theorem ev_congr {ops : Array Oper} {tmps tmps' : List AV} {o : Oper} (h : ∀ t ∈ looksL ops o, lget tmps t = lget tmps' t) : ∀ x ∈ o.op.operands, evO C tmps x = evO C tmps' x := fun x hx => by
  cases x with
  | tmp t => exact h t (by
      simp only [looksL, tmpsOf, List.mem_append, List.mem_filterMap]
      exact .inl ⟨.tmp t, Array.mem_toList_iff.2 hx, rfl⟩)
  | _ => rfl

/-- Quiet operations look at memory by what they read alone. -/
theorem quiet_same {Ω : Type} {ρ : Operand → AV} {op : Op} (hq : quietOp op = true) {h h' : Heap} {n n' : Nat} (hh : ∀ id, memN (readsOf ρ op) id = true → hget h id = hget h' id) (g : AV → Ω) (kv : AV → Heap → Nat → Ω) (hg : ∀ v, g v = kv v h' n') (kc : Tgt → List AV → Ω) (kp : AV → Ω) (z : Ω) :
    aop C ρ h' n' op kv kc kp z = aop C ρ h n op (fun v _ _ => g v) kc kp z := by
  have hg' : (fun v => kv v h' n') = g := funext fun v => (hg v).symm
  cases op <;> try cases hq
  case load t x =>
    simp only [aop]
    split
    · rename_i id off hx
      rw [hh id (by simp [readsOf, hx, memN, (beq_iff id id).2 rfl])]
      split
      · rw [hg']
      · rfl
    · rw [hg']
    · rfl
  case call c =>
    simp only [quietOp, quietCall] at hq
    simp only [aop, callK]
    split at hq <;> rename_i hc
    · rw [hc]; simp only []; split
      · rw [hg']
      · rfl
    · rw [hc]; simp only []; rw [hg']
    · rw [hc]; simp only []; rw [hg']
    · cases hq
  all_goals simp only [aop, hg]
  all_goals first | rfl | (split <;> simp [hg])

/-- Operations that make a block. -/
theorem new_makes {ρ : Operand → AV} {e : Operand → Value} {B' own : Nat → Prop} (hρ : ∀ x, Rep w B' own ω nx (ρ x) (e x)) {o : Oper} (hn : newOp o.op = true) {h : Heap} {n0 : Nat} {kv : AV → Heap → Nat → Bool} {kc : Tgt → List AV → Bool} {kp : AV → Bool} (hk : aop C ρ h n0 o.op kv kc kp false = true) :
    ∃ (mk : Nat → AV) (cs : List AV) (el : TypeId) (p : Bool) (arr : Array Value) (u : Value), (execOp e o).run C.P w = .ok (.value u) (w.alloc (.cells arr el)) ∧ kv (mk n0) ((n0, ⟨cs, el, p⟩) :: h) (n0 + 1) = true ∧ RepL w B' own ω nx cs arr ∧ (p = true → cs.all (AV.noRef 2) = true) ∧
      ((mk = (fun i => .ptr i 0) ∧ u = .pointer (some ⟨w.heap.size, 0, none⟩)) ∨ ∃ n cap sz, mk = (fun i => .sl i 0 n sz true) ∧ u = .slice (some ⟨w.heap.size, 0, none⟩) n cap ∧ n ≤ cap ∧ cap ≤ maxLen ∧ arr.size = cap * sz) := by
  have lift : ∀ {s : Sem Value}, Makes w B' own ω nx kv h n0 (s.run C.P w) → ∃ (mk : Nat → AV) (cs : List AV) (el : TypeId) (p : Bool) (arr : Array Value) (u : Value), (do pure (Next.value (← s)) : Sem Next).run C.P w = .ok (.value u) (w.alloc (.cells arr el)) ∧ kv (mk n0) ((n0, ⟨cs, el, p⟩) :: h) (n0 + 1) = true ∧ RepL w B' own ω nx cs arr ∧ (p = true → cs.all (AV.noRef 2) = true) ∧
      ((mk = (fun i => .ptr i 0) ∧ u = .pointer (some ⟨w.heap.size, 0, none⟩)) ∨ ∃ n cap sz, mk = (fun i => .sl i 0 n sz true) ∧ u = .slice (some ⟨w.heap.size, 0, none⟩) n cap ∧ n ≤ cap ∧ cap ≤ maxLen ∧ arr.size = cap * sz) := fun hm => by
    obtain ⟨mk, cs, el, p, arr, u, h1, h2⟩ := hm
    exact ⟨mk, cs, el, p, arr, u, by simp [h1, Sem.run, Result.andThen], h2⟩
  obtain ⟨dst, op, type, pos, after, guard⟩ := o
  cases op <;> simp only [aop] at hk <;> try cases hn
  case alloc t =>
    split at hk
    · rename_i cs hz
      exact lift (alloc_makes hz hk)
    · cases hk
  case box t x =>
    split at hk
    · rename_i cs hz
      exact lift (box_makes (hρ x) hz hk)
    · cases hk
  case buildSlice t len parts =>
    split at hk
    · rename_i el hu
      split at hk
      · rename_i i zs hi hz
        replace hk := of_cond hk; obtain ⟨hc, hk⟩ := hk
        obtain ⟨c1, c2⟩ := of_and hc
        obtain ⟨p1, p2⟩ := parts_rep hρ parts
        exact lift (buildSlice_makes hu hi hz c1 c2 p1 p2 hk)
      · cases hk
    · cases hk
  case makeSlice t l c => exact lift (makeSlice_makes (hρ l) (hρ c) hk)

theorem Rep.birth {B' own : Nat → Prop} {i b : Nat} (hi : ω i = none) {v : AV} {u : Value} (h : Rep w B' own ω nx v u) : Rep w B' own (fun j => if j = i then some b else ω j) nx v u :=
  h.mono (Nat.le_refl _) (fun _ _ h1 h2 => ⟨rfl, h1, h2⟩) (fun id c hid hc => ⟨hid, (if_neg (fun e => by rw [e, hi] at hc; cases hc)).trans hc⟩) (fun _ _ h => h)
/-- A block is born, under a number kept for it. -/
theorem MemSim.birth {m : Mem} (M : MemSim C w B oC oL ω m) {i : Nat} (hi : ω i = none) (hin : i < m.nx) (h0 : nx0 ≤ i) {cs : List AV} {el : TypeId} {p : Bool} {arr : Array Value} (hl : RepL w (Or2 B oL) oC ω m.nx cs arr) (hp : p = true → cs.all (AV.noRef 2) = true) :
    MemSim C (w.alloc (.cells arr el)) B (fun x => oC x ∨ x = w.heap.size) oL (fun j => if j = i then some w.heap.size else ω j) ⟨(i, ⟨cs, el, p⟩) :: m.heap, m.nx, m.lp⟩ ∧
    ExtR w oC oL ω nx0 (w.alloc (.cells arr el)) (fun x => oC x ∨ x = w.heap.size) oL (fun j => if j = i then some w.heap.size else ω j) nx0 ∧
    (∀ n v u, Rep w (Or2 B oL) oC ω n v u → Rep (w.alloc (.cells arr el)) (Or2 B oL) (fun x => oC x ∨ x = w.heap.size) (fun j => if j = i then some w.heap.size else ω j) n v u) := by
  have hrow : ∀ b n, rowSize w b = some n → rowSize (w.alloc (.cells arr el)) b = some n := fun b n hr => by
    have hlt := rowSize_lt hr
    simp only [rowSize, heap_alloc_old w _ hlt] at hr ⊢
    exact hr
  have rep : ∀ n v u, Rep w (Or2 B oL) oC ω n v u → Rep (w.alloc (.cells arr el)) (Or2 B oL) (fun x => oC x ∨ x = w.heap.size) (fun j => if j = i then some w.heap.size else ω j) n v u := fun n v u h =>
    h.mono (by rw [World.size_alloc]; exact Nat.le_succ _) (fun b hb h1 h2 => ⟨heap_alloc_old w _ hb, fun hh => hh.elim h1 (fun e => by omega), h2⟩) (fun id c hid hc => ⟨hid, (if_neg (fun e => by rw [e, hi] at hc; cases hc)).trans hc⟩) hrow
  have upd : ∀ id c, ω id = some c → (if id = i then some w.heap.size else ω id) = some c := fun id c hc => by rw [if_neg (fun e => by rw [e, hi] at hc; cases hc)]; exact hc
  have E : ExtR w oC oL ω nx0 (w.alloc (.cells arr el)) (fun x => oC x ∨ x = w.heap.size) oL (fun j => if j = i then some w.heap.size else ω j) nx0 := by
    refine ⟨rfl, rfl, rfl, by rw [World.size_alloc]; exact Nat.le_succ _, fun b hb _ => heap_alloc_old w _ hb, fun b hb => ?_, Nat.le_refl _, fun id hid => if_neg (by omega), hrow⟩
    rcases hb with (hb | rfl) | hb
    · exact .inl (.inl hb)
    · exact .inr (Nat.le_refl _)
    · exact .inl (.inr hb)
  have hnone : hget m.heap i = none := by
    cases hh : hget m.heap i with
    | none => rfl
    | some x => obtain ⟨_, b, _, h2, _⟩ := M.hp.rel i x hh; rw [hi] at h2; cases h2
  have g0 := M.gl.ext (B' := B) (own := Or2 oC oL) (own' := Or2 (fun x => oC x ∨ x = w.heap.size) oL) (w' := w.alloc (.cells arr el)) (ω := ω) (nx := nx0) (fun g cells h => (fun hh => hh.elim (M.gb g cells h).1 (M.gb g cells h).2.1)) E
  refine ⟨⟨⟨fun id x hx => ?_, fun a b c ha hb h1 h2 => ?_, fun b hb => ?_⟩, ⟨fun id e he => ?_, fun a b l ha hb h1 h2 => ?_, fun l hl => ?_⟩, g0.1, fun g cells h => ?_, fun b hb => by have := M.bl b hb; simp; omega⟩, E, rep⟩
  · rw [hget_cons] at hx
    cases he : Nat.beq i id with
    | true =>
      have := of_beq he
      subst this
      simp only [he, cond_true, Option.some.injEq] at hx
      subst hx
      refine ⟨hin, w.heap.size, arr, if_pos rfl, .inr rfl, heap_alloc_new w _, Nat.le_of_eq hl.1, fun j hj => ?_⟩
      have := rep_cond (hl.2 j hj) (p := p) (fun e => all_noRef (hp e) j hj)
      exact rep _ _ _ this
    | false =>
      simp only [he, cond_false] at hx
      obtain ⟨h1, b, arr', h2, h3, h4, h5, h6⟩ := M.hp.rel id x hx
      exact ⟨h1, b, arr', upd id b h2, .inl h3, (heap_alloc_old w _ (M.hp.ob b h3)).trans h4, h5, fun j hj => rep _ _ _ (h6 j hj)⟩
  · have key : ∀ a, (hget ((i, (⟨cs, el, p⟩ : HB)) :: m.heap) a).isSome = true → (if a = i then some w.heap.size else ω a) = some c → (a = i ∧ c = w.heap.size) ∨ (a ≠ i ∧ (hget m.heap a).isSome = true ∧ ω a = some c ∧ c < w.heap.size) := fun a ha hc => by
      by_cases hne : a = i
      · subst hne
        rw [if_pos rfl] at hc
        exact .inl ⟨rfl, (Option.some.inj hc).symm⟩
      · rw [if_neg hne] at hc
        rw [hget_cons] at ha
        have hb : Nat.beq i a = false := by
          cases hb : Nat.beq i a with
          | false => rfl
          | true => exact absurd (of_beq hb).symm hne
        rw [hb] at ha
        simp only [cond_false] at ha
        obtain ⟨x, hx⟩ := Option.isSome_iff_exists.1 ha
        obtain ⟨_, b', _, g2, g3, _⟩ := M.hp.rel a x hx
        rw [hc] at g2; cases g2
        exact .inr ⟨hne, ha, hc, M.hp.ob _ g3⟩
    rcases key a ha h1 with ⟨a1, a2⟩ | ⟨a1, a2, a3, a4⟩ <;> rcases key b hb h2 with ⟨b1, b2⟩ | ⟨b1, b2, b3, b4⟩
    · omega
    · omega
    · omega
    · exact M.hp.inj a b c a2 b2 a3 b3
  · rcases hb with hb | rfl
    · have := M.hp.ob b hb; simp; omega
    · simp
  · obtain ⟨h1, l, h2, h3, h4⟩ := M.lp.rel id e he
    refine ⟨h1, l, upd id l h2, h3, ?_⟩
    have hheap := heap_alloc_old w (.cells arr el) (M.lp.dis l h3).1
    cases e with
    | dfb => exact hheap.trans h4
    | obj o => exact ⟨hheap.trans h4.1, h4.2⟩
    | lop s pend tmps params assign body d =>
      obtain ⟨r, k1, k2, k3, k4, k5, k6, k7, k8, k9, k10⟩ := h4
      exact ⟨r, hheap.trans k1, k2, k3, k4, ⟨k5.1, fun j hj => rep _ _ _ (k5.2 j hj)⟩, k6, k7, k8, k9, upd _ _ k10⟩
  · obtain ⟨x, hx⟩ := Option.isSome_iff_exists.1 ha
    obtain ⟨y, hy⟩ := Option.isSome_iff_exists.1 hb
    obtain ⟨_, l1, a2, _⟩ := M.lp.rel a x hx
    obtain ⟨_, l2, b2, _⟩ := M.lp.rel b y hy
    have e1 := upd a l1 a2
    have e2 := upd b l2 b2
    rw [h1] at e1; cases e1
    rw [h2] at e2; cases e2
    exact M.lp.inj a b l ha hb a2 b2
  · exact ⟨by have := (M.lp.dis l hl).1; simp; omega, fun hh => hh.elim (M.lp.dis l hl).2 (fun e => by have := (M.lp.dis l hl).1; omega)⟩
  · obtain ⟨h1, h2, h3⟩ := M.gb g cells h
    exact ⟨fun hh => hh.elim h1 (fun e => by have := (M.gl g cells h).1; omega), h2, h3⟩
theorem Marks.birth {i b : Nat} (hi : ω i = none) : ∀ {ds : List Nat} {xs : List Deferred}, Marks ω nx ds xs → Marks (fun j => if j = i then some b else ω j) nx ds xs
  | [], [], _ => trivial
  | d :: ds, x :: xs, h => ⟨⟨h.1.1, let ⟨r, h1, h2⟩ := h.1.2; ⟨r, (if_neg (fun e => by rw [e, hi] at h1; cases h1)).trans h1, h2⟩⟩, Marks.birth hi h.2⟩
  | [], _ :: _, h => h.elim
  | _ :: _, [], h => h.elim
end
end Go.Bas
