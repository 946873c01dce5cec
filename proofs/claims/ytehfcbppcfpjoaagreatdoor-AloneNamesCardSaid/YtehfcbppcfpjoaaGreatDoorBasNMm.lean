/- The engine: answers to known arguments, kept as a summary. -/
import Derived.Test.YtehfcbppcfpjoaaGreatDoorBasNZ
namespace Go.Bas
open Go.RowKit
set_option linter.unusedSimpArgs false
set_option linter.unusedVariables false

def eqLs (e : AV → AV → Bool) : List AV → List AV → Bool
  | [], [] => true
  | x :: xs, y :: ys => cond (e x y) (eqLs e xs ys) false
  | _, _ => false
/-- The same abstract value. -/
def eqA : Nat → AV → AV → Bool
  | 0, _, _ => false
  | n + 1, x, y => match x with
    | .bool a => match y with
      | .bool b => cond a b (!b)
      | _ => false
    | .int k a => cond (y.isI k) (decide (a = y.toI)) false
    | .nilp => match y with
      | .nilp => true
      | _ => false
    | .nils => match y with
      | .nils => true
      | _ => false
    | .ns => match y with
      | .ns => true
      | _ => false
    | .es => match y with
      | .es => true
      | _ => false
    | .agg xs => match y with
      | .agg ys => eqLs (eqA n) xs ys
      | _ => false
    | .tup xs => match y with
      | .tup ys => eqLs (eqA n) xs ys
      | _ => false
    | .lst xs m => match y with
      | .lst ys m' => cond (Nat.beq m m') (eqLs (eqA n) xs ys) false
      | _ => false
    | _ => false
theorem eqLs_sound {e : AV → AV → Bool} (he : ∀ x y, e x y = true → x = y) : ∀ {xs ys : List AV}, eqLs e xs ys = true → xs = ys
  | [], [], _ => rfl
  | x :: xs, y :: ys, h => by
    obtain ⟨h1, h2⟩ := of_cond h
    rw [he x y h1, eqLs_sound he h2]
  | [], _ :: _, h => by cases h
  | _ :: _, [], h => by cases h
theorem eqA_sound : ∀ (n : Nat) (x y : AV), eqA n x y = true → x = y
  | 0, _, _, h => by cases h
  | n + 1, x, y, h => by
    cases x <;> simp only [eqA] at h <;> try cases h
    case bool a =>
      cases y <;> simp only at h <;> try cases h
      case bool b => cases a <;> cases b <;> simp_all
    case int k a =>
      obtain ⟨h1, h2⟩ := of_cond h
      cases y <;> simp only [AV.isI] at h1 <;> try cases h1
      case int k' b =>
        have h2 := of_decide_eq_true h2
        simp only [AV.toI] at h2
        have : k = k' := (kindEq_eq h1).symm
        rw [h2, this]
    case nilp => cases y <;> first | rfl | cases h
    case nils => cases y <;> first | rfl | cases h
    case ns => cases y <;> first | rfl | cases h
    case es => cases y <;> first | rfl | cases h
    case agg xs =>
      cases y <;> simp only at h <;> try cases h
      case agg ys => rw [eqLs_sound (eqA_sound n) h]
    case tup xs =>
      cases y <;> simp only at h <;> try cases h
      case tup ys => rw [eqLs_sound (eqA_sound n) h]
    case lst xs m =>
      cases y <;> simp only at h <;> try cases h
      case lst ys m' =>
        obtain ⟨h1, h2⟩ := of_cond h
        rw [eqLs_sound (eqA_sound n) h2, of_beq h1]
/-- Known answers. -/
def memo : List (List AV × AV) → List AV → Option (Bool × AV)
  | [], _ => none
  | e :: r, args => cond (eqLs (eqA 6) e.1 args) (some (true, e.2)) (memo r args)
theorem memo_sum {P : Program} {G : Nat → Option (List AV)} {f : FuncId} : ∀ {l : List (List AV × AV)}, (∀ e ∈ l, ACalls P G f e.1 (fun v => v = e.2)) → SumOk P G (f, memo l)
  | [], _ => fun args r h => by cases h
  | e :: l, hl => fun args r h => by
    simp only [memo] at h
    cases hb : eqLs (eqA 6) e.1 args with
    | true =>
      rw [hb] at h
      have := eqLs_sound (eqA_sound 6) hb
      simp only [cond_true, Option.some.injEq, Prod.mk.injEq, true_and] at h
      have h2 := hl e (List.mem_cons_self ..)
      rw [this, h] at h2
      exact h2
    | false =>
      rw [hb] at h
      exact memo_sum (fun e he => hl e (List.mem_cons_of_mem _ he)) args r h
/-- A number by which arguments are told apart soon. -/
noncomputable def hashI (acc : Nat) (n : Int) : Nat := (acc * 31 + (Int.rec (motive := fun _ => Nat) (fun m => m + 7) (fun m => m + 1000003) n)) % 1152921504606846883
noncomputable def hashF (h : AV → Nat → Nat) : List AV → Nat → Nat
  | [], acc => acc
  | x :: r, acc => hashF h r (h x acc)
noncomputable def hashA : Nat → AV → Nat → Nat
  | 0, _, acc => acc
  | n + 1, x, acc => match x with
    | .bool b => cond b ((acc * 31 + 3) % 1152921504606846883) ((acc * 31 + 5) % 1152921504606846883)
    | .int _ a => hashI acc a
    | .agg xs => hashF (hashA n) xs acc
    | .tup xs => hashF (hashA n) xs acc
    | .lst xs _ => hashF (hashA n) xs ((acc * 31 + 11) % 1152921504606846883)
    | _ => (acc * 31 + 1) % 1152921504606846883
noncomputable def hashL (args : List AV) : Nat := hashF (hashA 6) args 0
/-- Known answers, told apart by numbers. -/
noncomputable def memoG (h : Nat) : List (Nat × List AV × AV) → List AV → Option (Bool × AV)
  | [], _ => none
  | e :: r, args => cond (Nat.beq e.1 h) (cond (eqLs (eqA 6) e.2.1 args) (some (true, e.2.2)) (memoG h r args)) (memoG h r args)
noncomputable def memoH (l : List (Nat × List AV × AV)) (args : List AV) : Option (Bool × AV) := memoG (hashL args) l args
theorem memoG_sum {P : Program} {G : Nat → Option (List AV)} {f : FuncId} {h : Nat} : ∀ {l : List (Nat × List AV × AV)}, (∀ e ∈ l, ACalls P G f e.2.1 (fun v => v = e.2.2)) → ∀ args r, memoG h l args = some (true, r) → ACalls P G f args (fun v => v = r)
  | [], _, args, r, h => by cases h
  | e :: l, hl, args, r, hh => by
    have rest := memoG_sum (P := P) (G := G) (f := f) (h := h) (l := l) (fun e he => hl e (List.mem_cons_of_mem _ he)) args r
    simp only [memoG] at hh
    cases hb : Nat.beq e.1 h with
    | false => rw [hb] at hh; exact rest hh
    | true =>
      rw [hb] at hh
      cases hq : eqLs (eqA 6) e.2.1 args with
      | false => rw [hq] at hh; exact rest hh
      | true =>
        rw [hq] at hh
        have he := eqLs_sound (eqA_sound 6) hq
        simp only [cond_true, Option.some.injEq, Prod.mk.injEq, true_and] at hh
        have h2 := hl e (List.mem_cons_self ..)
        rw [he, hh] at h2
        exact h2
theorem memoH_sum {P : Program} {G : Nat → Option (List AV)} {f : FuncId} {l : List (Nat × List AV × AV)} (hl : ∀ e ∈ l, ACalls P G f e.2.1 (fun v => v = e.2.2)) : SumOk P G (f, memoH l) := fun args r h => memoG_sum (h := hashL args) hl args r h
theorem memoH_nil {P : Program} {G : Nat → Option (List AV)} {f : FuncId} : ∀ e ∈ ([] : List (Nat × List AV × AV)), ACalls P G f e.2.1 (fun v => v = e.2.2) := fun _ h => by cases h
theorem memoH_cons {P : Program} {G : Nat → Option (List AV)} {f : FuncId} {n : Nat} {args : List AV} {r : AV} {l : List (Nat × List AV × AV)} (h : ACalls P G f args (fun v => v = r)) (hl : ∀ e ∈ l, ACalls P G f e.2.1 (fun v => v = e.2.2)) : ∀ e ∈ (n, args, r) :: l, ACalls P G f e.2.1 (fun v => v = e.2.2) := fun e he => by
  rcases List.mem_cons.1 he with rfl | h'
  · exact h
  · exact hl e h'
theorem memo_nil {P : Program} {G : Nat → Option (List AV)} {f : FuncId} : ∀ e ∈ ([] : List (List AV × AV)), ACalls P G f e.1 (fun v => v = e.2) := fun _ h => by cases h
theorem memo_cons {P : Program} {G : Nat → Option (List AV)} {f : FuncId} {args : List AV} {r : AV} {l : List (List AV × AV)} (h : ACalls P G f args (fun v => v = r)) (hl : ∀ e ∈ l, ACalls P G f e.1 (fun v => v = e.2)) : ∀ e ∈ (args, r) :: l, ACalls P G f e.1 (fun v => v = e.2) := fun e he => by
  rcases List.mem_cons.1 he with rfl | h'
  · exact h
  · exact hl e h'
end Go.Bas
