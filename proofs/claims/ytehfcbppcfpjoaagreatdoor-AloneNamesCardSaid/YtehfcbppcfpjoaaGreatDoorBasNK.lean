/- The engine, part K: summaries as a list, and a function's summary out of its run. -/
import Derived.Test.YtehfcbppcfpjoaaGreatDoorBasNY
namespace Go.Bas
open Go.RowKit

/-- A function, and what it answers to abstract arguments. -/
abbrev Sum := FuncId × (List AV → Option (Bool × AV))
def lookS : List Sum → FuncId → Option (List AV → Option (Bool × AV))
  | [], _ => none
  | s :: r, g => cond (Nat.beq s.1 g) (some s.2) (lookS r g)
/-- The summary is right. -/
def SumOk (P : Program) (G : Nat → Option (List AV)) (s : Sum) : Prop := ∀ args r, s.2 args = some (true, r) → ACalls P G s.1 args (fun v => v = r)

structure Base (P : Program) : Prop where
  mixed : P.follows .mixedOrders = true
  names : (P.funcs.toList.all fun fn => !(fn.name == "runtime.NumGoroutine")) = true

theorem cfg_ok {P : Program} {G : Nat → Option (List AV)} {q : FuncId → Bool} (h : Base P) {l : List Sum} (hl : ∀ s ∈ l, SumOk P G s) : Cfg.Ok ⟨P, G, lookS l, q, fun _ => none⟩ where
  sums f F hf args r hr := by
    have key : ∀ l : List Sum, (∀ s ∈ l, SumOk P G s) → lookS l f = some F → ACalls P G f args (fun v => v = r) := by
      intro l
      induction l with
      | nil => intro _ h; cases h
      | cons s l ih =>
        intro hl hf
        simp only [lookS] at hf
        cases hb : Nat.beq s.1 f with
        | true =>
          rw [hb] at hf
          simp only [cond_true, Option.some.injEq] at hf
          have := hl s (List.mem_cons_self ..) args r (by rw [hf]; exact hr)
          rw [of_beq hb] at this
          exact this
        | false =>
          rw [hb] at hf
          exact ih (fun s hs => hl s (List.mem_cons_of_mem _ hs)) hf
    exact key l hl hf
  inpl f F hF := by cases hF
  mixed := h.mixed
  names f fn hfn := by
    have := List.all_eq_true.1 h.names fn (by
      have : P.funcs.toList[f]? = some fn := by rw [Array.getElem?_toList]; exact hfn
      exact List.mem_of_getElem? this)
    simpa using this

/-- A function, and what it does to a memory where it stands. -/
abbrev Inp := FuncId × (List AV → Mem → TrM)
def lookX : List Inp → FuncId → Option (List AV → Mem → TrM)
  | [], _ => none
  | s :: r, g => cond (Nat.beq s.1 g) (some s.2) (lookX r g)
theorem cfg_okX {P : Program} {G : Nat → Option (List AV)} {q : FuncId → Bool} (h : Base P) {l : List Sum} (hl : ∀ s ∈ l, SumOk P G s) {x : List Inp} (hx : ∀ s ∈ x, InpOk ⟨P, G, lookS l, q, fun _ => none⟩ s.1 s.2) : Cfg.Ok ⟨P, G, lookS l, q, lookX x⟩ where
  sums := (cfg_ok (q := q) h hl).sums
  mixed := h.mixed
  names := (cfg_ok (q := q) h hl).names
  inpl f F hf := by
    have key : ∀ x : List Inp, (∀ s ∈ x, InpOk ⟨P, G, lookS l, q, fun _ => none⟩ s.1 s.2) → lookX x f = some F → InpOk ⟨P, G, lookS l, q, fun _ => none⟩ f F := by
      intro x
      induction x with
      | nil => intro _ h; cases h
      | cons s x ih =>
        intro hx hf
        simp only [lookX] at hf
        cases hb : Nat.beq s.1 f with
        | true =>
          rw [hb] at hf
          simp only [cond_true, Option.some.injEq] at hf
          have := hx s (List.mem_cons_self ..)
          rw [of_beq hb, hf] at this
          exact this
        | false =>
          rw [hb] at hf
          exact ih (fun s hs => hx s (List.mem_cons_of_mem _ hs)) hf
    exact InpOk.cfg (C := ⟨P, G, lookS l, q, fun _ => none⟩) (C' := ⟨P, G, lookS l, q, lookX x⟩) rfl rfl (key x hx hf)
theorem sums_nil {P : Program} {G : Nat → Option (List AV)} : ∀ s ∈ ([] : List Sum), SumOk P G s := fun _ h => by cases h
theorem sums_cons {P : Program} {G : Nat → Option (List AV)} {s : Sum} {l : List Sum} (h : SumOk P G s) (hl : ∀ s ∈ l, SumOk P G s) : ∀ t ∈ s :: l, SumOk P G t := fun t ht => by
  rcases List.mem_cons.1 ht with rfl | h'
  · exact h
  · exact hl t h'

/-- The run comes to one value. -/
theorem acalls_eqQ {P : Program} {G : Nat → Option (List AV)} {q : FuncId → Bool} (h : Base P) {l : List Sum} (hl : ∀ s ∈ l, SumOk P G s) {f : FuncId} {args : List AV} {r : AV} {n : Nat}
    (hrun : ∀ k : AV → Bool, k r = true → runF ⟨P, G, lookS l, q, fun _ => none⟩ n f args k false = true) : ACalls P G f args (fun v => v = r) := by
  classical
  have := runF_sound (cfg_ok h hl) (hrun (fun v => decide (v = r)) (by simp))
  exact this.mono fun v hv => by simpa using hv

theorem acalls_eq {P : Program} {G : Nat → Option (List AV)} (h : Base P) {l : List Sum} (hl : ∀ s ∈ l, SumOk P G s) {f : FuncId} {args : List AV} {r : AV} {n : Nat}
    (hrun : ∀ k : AV → Bool, k r = true → runF ⟨P, G, lookS l, fun _ => false, fun _ => none⟩ n f args k false = true) : ACalls P G f args (fun v => v = r) := acalls_eqQ h hl hrun

end Go.Bas
