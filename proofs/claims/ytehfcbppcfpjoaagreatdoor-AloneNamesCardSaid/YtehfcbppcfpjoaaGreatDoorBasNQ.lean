/- The engine, part Q: regions that draw their order: one operation of one, carried out whenever it may be. -/
import Derived.Test.YtehfcbppcfpjoaaGreatDoorBasNP
namespace Go.Bas
open Go.RowKit
set_option linter.unusedSimpArgs false
set_option linter.unusedVariables false

section
variable {C : Cfg} {w w' : World} {B oC oL oC' oL' : Nat → Prop} {ω ω' : Nat → Option Nat} {nx nx' nx0 : Nat}

theorem Rep.other {B B' own own' : Nat → Prop} {v : AV} {u : Value} (h : Rep w B own ω nx v u) (ho : ∀ b, ¬ own b → ¬ B b → ¬ own' b ∧ ¬ B' b) : Rep w B' own' ω nx v u :=
  h.mono (Nat.le_refl _) (fun b _ h1 h2 => ⟨rfl, ho b h1 h2⟩) (fun _ _ h1 h2 => ⟨h1, h2⟩) (fun _ _ h => h)
theorem RepL.other {B B' own own' : Nat → Prop} {cs : List AV} {us : Array Value} (h : RepL w B own ω nx cs us) (ho : ∀ b, ¬ own b → ¬ B b → ¬ own' b ∧ ¬ B' b) : RepL w B' own' ω nx cs us :=
  ⟨h.1, fun i hi => (h.2 i hi).other ho⟩
theorem Rep.cond_other {B B' own own' : Nat → Prop} {p : Bool} {v : AV} {u : Value} (h : Rep w B own ω (cond p 0 nx) v u) (ho : ∀ b, ¬ own b → ¬ B b → ¬ own' b ∧ ¬ B' b) : Rep w B' own' ω (cond p 0 nx) v u := Rep.other h ho

/-- What a part of the memory holds. -/
def partOf (ω : Nat → Option Nat) (h : Heap) : Nat → Prop := fun b => ∃ id, (hget h id).isSome = true ∧ ω id = some b
/-- The own blocks but these. -/
def butOf (oC : Nat → Prop) (ω : Nat → Option Nat) (h : Heap) : Nat → Prop := fun b => oC b ∧ ¬ partOf ω h b

theorem part_sub {m : Mem} (M : MemSim C w B oC oL ω m) {hp : Heap} (hs : ∀ id x, hget hp id = some x → hget m.heap id = some x) : ∀ b, partOf ω hp b → oC b := fun b hb => by
  obtain ⟨id, h1, h2⟩ := hb
  obtain ⟨x, hx⟩ := Option.isSome_iff_exists.1 h1
  obtain ⟨_, b', arr, h3, h4, _⟩ := M.hp.rel id x (hs id x hx)
  rw [h2] at h3; cases h3; exact h4
theorem LbIs.other {B B' own own' : Nat → Prop} {l : Nat} {e : LB} (h : LbIs w B own ω nx l e) (ho : ∀ b, ¬ own b → ¬ B b → ¬ own' b ∧ ¬ B' b) : LbIs w B' own' ω nx l e := by
  cases e with
  | obj o => exact h
  | dfb => exact h
  | lop s pend tmps params assign body d =>
    obtain ⟨r, h1, h2, h3, h4, h5, h6⟩ := h
    exact ⟨r, h1, h2, h3, h4, h5.other ho, h6⟩
/-- A part of the memory, alone. -/
theorem MemSim.pick {m : Mem} (M : MemSim C w B oC oL ω m) {hp : Heap} (hs : ∀ id x, hget hp id = some x → hget m.heap id = some x) :
    MemSim C w (Or2 B (butOf oC ω hp)) (partOf ω hp) oL ω ⟨hp, m.nx, m.lp⟩ := by
  have hsub := part_sub M hs
  have ho : ∀ b, ¬ oC b → ¬ Or2 B oL b → ¬ partOf ω hp b ∧ ¬ Or2 (Or2 B (butOf oC ω hp)) oL b := fun b h1 h2 => ⟨fun h => h1 (hsub b h), fun h => h.elim (fun h => h.elim (fun h => h2 (.inl h)) (fun h => h1 h.1)) (fun h => h2 (.inr h))⟩
  refine ⟨⟨fun id x hx => ?_, fun i j b hi hj => ?_, fun b hb => M.hp.ob b (hsub b hb)⟩, ⟨fun id e he => ?_, M.lp.inj, fun l hl => ⟨(M.lp.dis l hl).1, fun h => (M.lp.dis l hl).2 (hsub l h)⟩⟩, M.gl, fun g cells h => ?_, fun b hb => ?_⟩
  · obtain ⟨h1, b, arr, h2, h3, h4, h5, h6⟩ := M.hp.rel id x (hs id x hx)
    exact ⟨h1, b, arr, h2, ⟨id, by rw [hx]; rfl, h2⟩, h4, h5, fun i hi => Rep.cond_other (h6 i hi) ho⟩
  · obtain ⟨x, hx⟩ := Option.isSome_iff_exists.1 hi
    obtain ⟨y, hy⟩ := Option.isSome_iff_exists.1 hj
    exact M.hp.inj i j b (by rw [hs i x hx]; rfl) (by rw [hs j y hy]; rfl)
  · obtain ⟨h1, l, h2, h3, h4⟩ := M.lp.rel id e he
    exact ⟨h1, l, h2, h3, h4.other ho⟩
  · obtain ⟨h1, h2, h3⟩ := M.gb g cells h
    exact ⟨fun hh => h1 (hsub g hh), h2, fun hh => hh.elim h3 (fun hh => h1 hh.1)⟩
  · rcases hb with hb | hb
    · exact M.bl b hb
    · exact M.hp.ob b hb.1
theorem pick_rep {m : Mem} (M : MemSim C w B oC oL ω m) {hp : Heap} (hs : ∀ id x, hget hp id = some x → hget m.heap id = some x) {v : AV} {u : Value} (h : Rep w (Or2 B oL) oC ω nx v u) : Rep w (Or2 (Or2 B (butOf oC ω hp)) oL) (partOf ω hp) ω nx v u :=
  h.other fun b h1 h2 => ⟨fun hh => h1 (part_sub M hs b hh), fun hh => hh.elim (fun hh => hh.elim (fun hh => h2 (.inl hh)) (fun hh => h1 hh.1)) (fun hh => h2 (.inr hh))⟩

/-- The part has been changed; the rest comes back to it. -/
theorem MemSim.merge {m m1 : Mem} (M : MemSim C w B oC oL ω m) {hp : Heap} {fp : List Nat} (hs : ∀ id x, hget hp id = some x → hget m.heap id = some x) (hin : ∀ id x, hget hp id = some x → memN fp id = true) {oC1 oL1 : Nat → Prop} {ω1 : Nat → Option Nat}
    (E : ExtR w (partOf ω hp) oL ω m.nx w' oC1 oL1 ω1 m1.nx) (M1 : MemSim C w' (Or2 B (butOf oC ω hp)) oC1 oL1 ω1 m1) :
    MemSim C w' B (Or2 oC1 (butOf oC ω hp)) oL1 ω1 ⟨m1.heap ++ hrest m.heap fp, m1.nx, m1.lp⟩ ∧ ExtR w oC oL ω m.nx w' (Or2 oC1 (butOf oC ω hp)) oL1 ω1 m1.nx ∧
    (∀ v u n, Rep w' (Or2 (Or2 B (butOf oC ω hp)) oL1) oC1 ω1 n v u → Rep w' (Or2 B oL1) (Or2 oC1 (butOf oC ω hp)) ω1 n v u) ∧ (∀ v u, Rep w (Or2 B oL) oC ω m.nx v u → Rep w' (Or2 B oL1) (Or2 oC1 (butOf oC ω hp)) ω1 m1.nx v u) := by
  have hsub := part_sub M hs
  have ho1 : ∀ b, ¬ oC1 b → ¬ Or2 (Or2 B (butOf oC ω hp)) oL1 b → ¬ Or2 oC1 (butOf oC ω hp) b ∧ ¬ Or2 B oL1 b := fun b h1 h2 => ⟨fun h => h.elim h1 (fun h => h2 (.inl (.inr h))), fun h => h.elim (fun h => h2 (.inl (.inl h))) (fun h => h2 (.inr h))⟩
  -- what lay in the rest lies there still
  have hbut : ∀ b, butOf oC ω hp b → w'.heap[b]? = w.heap[b]? := fun b hb => E.old b (M.hp.ob b hb.1) (fun h => h.elim hb.2 (fun h => (M.lp.dis b h).2 hb.1))
  have hnew : ∀ b, b < w.heap.size → ¬ oC b → ¬ oL b → ¬ oC1 b ∧ ¬ oL1 b := fun b hb h1 h2 => by
    have key : ∀ x, Or2 oC1 oL1 x → x < w.heap.size → Or2 (partOf ω hp) oL x := fun x hx hlt => (E.owns x hx).elim (fun h => h) (fun h => by omega)
    exact ⟨fun h => (key b (.inl h) hb).elim (fun h => h1 (hsub b h)) h2, fun h => (key b (.inr h) hb).elim (fun h => h1 (hsub b h)) h2⟩
  have rep : ∀ n n' v u, n ≤ m.nx → n ≤ n' → Rep w (Or2 B oL) oC ω n v u → Rep w' (Or2 B oL1) (Or2 oC1 (butOf oC ω hp)) ω1 n' v u := fun n n' v u hn hn' h =>
    h.mono E.size (fun b hb h1 h2 => by
      have hl : ¬ oL b := fun h => h2 (.inr h)
      obtain ⟨g1, g2⟩ := hnew b hb h1 hl
      exact ⟨E.old b hb (fun h => h.elim (fun h => h1 (hsub b h)) hl), fun h => h.elim g1 (fun h => h1 h.1), fun h => h.elim (fun h => h2 (.inl h)) g2⟩)
      (fun id b hi hb => ⟨by omega, (E.om id (by omega)).trans hb⟩) E.row
  have hrestE : ∀ id x, hget (hrest m.heap fp) id = some x → ∃ b arr, id < m.nx ∧ ω id = some b ∧ butOf oC ω hp b ∧ w.heap[b]? = some (.cells arr x.elem (0, 0)) ∧ x.cells.length ≤ arr.size ∧ (∀ i (hi : i < x.cells.length), Rep w (Or2 B oL) oC ω (cond x.pure 0 m.nx) x.cells[i] (arr.getD i undef)) ∧ hget m.heap id = some x := fun id x hx => by
    rw [hget_rest] at hx
    cases hm : memN fp id with
    | true => rw [hm] at hx; cases hx
    | false =>
      rw [hm] at hx
      simp only [cond_false] at hx
      obtain ⟨h1, b, arr, h2, h3, h4, h5, h6⟩ := M.hp.rel id x hx
      refine ⟨b, arr, h1, h2, ⟨h3, fun hh => ?_⟩, h4, h5, h6, hx⟩
      obtain ⟨id', g1, g2⟩ := hh
      obtain ⟨y, hy⟩ := Option.isSome_iff_exists.1 g1
      have := M.hp.inj id' id b (by rw [hs id' y hy]; rfl) (by rw [hx]; rfl) g2 h2
      subst this
      rw [hin id' y hy] at hm
      cases hm
  have hno : ∀ b, butOf oC ω hp b → ¬ Or2 oC1 oL1 b := fun b hb h => by
    rcases E.owns b h with h | h
    · exact h.elim hb.2 (fun h => (M.lp.dis b h).2 hb.1)
    · have := M.hp.ob b hb.1; omega
  have parts : ∀ id x, hget (m1.heap ++ hrest m.heap fp) id = some x → hget m1.heap id = some x ∨ hget (hrest m.heap fp) id = some x := fun id x hx => by
    rw [hget_append] at hx
    cases h1 : hget m1.heap id with
    | none => rw [h1] at hx; exact .inr hx
    | some y => rw [h1] at hx; exact .inl hx
  refine ⟨⟨⟨fun id x hx => ?_, fun i j b hi hj h1 h2 => ?_, fun b hb => ?_⟩, ⟨fun id e he => ?_, M1.lp.inj, fun l hl => ?_⟩, M1.gl, fun g cells h => ?_, fun b hb => Nat.lt_of_lt_of_le (M.bl b hb) E.size⟩, ?_, fun v u n h => h.other ho1, fun v u h => rep _ _ v u (Nat.le_refl _) E.nxle h⟩
  · rcases parts id x hx with hx | hx
    · obtain ⟨h1, b, arr, h2, h3, h4, h5, h6⟩ := M1.hp.rel id x hx
      exact ⟨h1, b, arr, h2, .inl h3, h4, h5, fun i hi => Rep.cond_other (h6 i hi) ho1⟩
    · obtain ⟨b, arr, h1, h2, h3, h4, h5, h6, _⟩ := hrestE id x hx
      refine ⟨Nat.lt_of_lt_of_le h1 E.nxle, b, arr, (E.om id h1).trans h2, .inr h3, (hbut b h3).trans h4, h5, fun i hi => ?_⟩
      have := h6 i hi
      cases hp' : x.pure with
      | true => rw [hp'] at this; exact rep 0 0 _ _ (Nat.zero_le _) (Nat.le_refl _) this
      | false => rw [hp'] at this; exact rep m.nx m1.nx _ _ (Nat.le_refl _) E.nxle this
  · obtain ⟨x, hx⟩ := Option.isSome_iff_exists.1 hi
    obtain ⟨y, hy⟩ := Option.isSome_iff_exists.1 hj
    rcases parts i x hx with hx | hx <;> rcases parts j y hy with hy | hy
    · exact M1.hp.inj i j b (by rw [hx]; rfl) (by rw [hy]; rfl) h1 h2
    · obtain ⟨_, b1, arr1, g2, g3, _⟩ := M1.hp.rel i x hx
      obtain ⟨b2, arr2, k1, k2, k3, _⟩ := hrestE j y hy
      rw [h1] at g2; cases g2
      rw [E.om j k1, k2] at h2; cases h2
      exact absurd (.inl g3) (hno _ k3)
    · obtain ⟨_, b1, arr1, g2, g3, _⟩ := M1.hp.rel j y hy
      obtain ⟨b2, arr2, k1, k2, k3, _⟩ := hrestE i x hx
      rw [h2] at g2; cases g2
      rw [E.om i k1, k2] at h1; cases h1
      exact absurd (.inl g3) (hno _ k3)
    · obtain ⟨b1, arr1, g1, g2, g3, _, _, _, g7⟩ := hrestE i x hx
      obtain ⟨b2, arr2, k1, k2, k3, _, _, _, k7⟩ := hrestE j y hy
      rw [E.om i g1] at h1
      rw [E.om j k1] at h2
      exact M.hp.inj i j b (by rw [g7]; rfl) (by rw [k7]; rfl) h1 h2
  · rcases hb with hb | hb
    · exact M1.hp.ob b hb
    · exact Nat.lt_of_lt_of_le (M.hp.ob b hb.1) E.size
  · obtain ⟨h1, l, h2, h3, h4⟩ := M1.lp.rel id e he
    exact ⟨h1, l, h2, h3, h4.other ho1⟩
  · exact ⟨(M1.lp.dis l hl).1, fun h => h.elim (M1.lp.dis l hl).2 (fun h => hno l h (.inr hl))⟩
  · obtain ⟨h1, h2, h3⟩ := M1.gb g cells h
    exact ⟨fun hh => hh.elim h1 (fun hh => h3 (.inr hh)), h2, fun hh => h3 (.inl hh)⟩
  · refine ⟨E.os, E.tape, E.output, E.size, fun b hb hn => E.old b hb (fun h => hn (h.elim (fun h => .inl (hsub b h)) .inr)), fun b hb => ?_, E.nxle, E.om, E.row⟩
    rcases hb with (hb | hb) | hb
    · exact (E.owns b (.inl hb)).elim (fun h => .inl (h.elim (fun h => .inl (hsub b h)) .inr)) .inr
    · exact .inl (.inl hb.1)
    · exact (E.owns b (.inr hb)).elim (fun h => .inl (h.elim (fun h => .inl (hsub b h)) .inr)) .inr
end
end Go.Bas
