/- The engine, part Z: package-level tables that are listed with what they hold: their cells, for the run. -/
import Derived.Test.YtehfcbppcfpjoaaGreatDoorBasNL
import Derived.LaidMore
import Derived.OpenShut
import Derived.Stop.Joined
namespace Go.Bas
open Go.RowKit Go.ChangeShapes Go.WideShapes
set_option linter.unusedSimpArgs false
set_option linter.unusedVariables false

def flatL (f : DataW Unit → Option (List Value)) : List (DataW Unit) → Option (List Value)
  | [] => some []
  | d :: r => match f d, flatL f r with
    | some a, some b => some (a ++ b)
    | _, _ => none
/-- The cells of a listed datum: numbers, bools, and arrays of such. -/
def flatG : Nat → DataW Unit → Option (List Value)
  | 0, _ => none
  | n + 1, d => match d with
    | .lit (.bool b) => some [.bool b]
    | .lit (.int k n) => some [.int k n]
    | .agg ds => flatL (flatG n) ds
    | _ => none
/-- A type of such. -/
def tabOk (P : Program) : Nat → TypeId → Bool
  | 0, _ => false
  | n + 1, t => match P.underlying t with
    | some .bool => true
    | some (.int _) => true
    | some (.array m e) => cond (Nat.beq (P.cellsOf t) (m * P.cellsOf e)) (tabOk P n e) false
    | _ => false

theorem chunks {α : Type} : ∀ (n k : Nat) (cs : List α), cs.length = n * k → cs = ((List.range n).map fun i => (cs.drop (i * k)).take k).flatten
  | 0, k, cs, h => by
    have : cs = [] := List.eq_nil_of_length_eq_zero (by simpa using h)
    simp [this]
  | n + 1, k, cs, h => by
    have hk : (cs.drop k).length = n * k := by rw [List.length_drop, h, Nat.succ_mul]; omega
    have ih := chunks n k (cs.drop k) hk
    rw [List.range_succ_eq_map]
    simp only [List.map_cons, Nat.zero_mul, List.drop_zero, List.flatten_cons, List.map_map]
    have e : ((List.range n).map ((fun i => (cs.drop (i * k)).take k) ∘ Nat.succ)) = (List.range n).map fun i => ((cs.drop k).drop (i * k)).take k := List.map_congr_left fun i _ => by
      simp only [Function.comp, List.drop_drop, Nat.succ_mul]
      rw [Nat.add_comm k (i * k)]
    rw [e, ← ih, List.take_append_drop]

theorem flatL_some {f : DataW Unit → Option (List Value)} : ∀ {ds : List (DataW Unit)} {l : List Value}, flatL f ds = some l → ∃ ls : List (List Value), l = ls.flatten ∧ ls.length = ds.length ∧ ∀ (i : Nat) (d : DataW Unit), ds[i]? = some d → ∃ a, ls[i]? = some a ∧ f d = some a
  | [], l, h => ⟨[], by simpa [flatL] using h.symm, rfl, fun i d hd => by simp at hd⟩
  | d :: r, l, h => by
    simp only [flatL] at h
    split at h
    · rename_i a b h1 h2
      obtain ⟨ls, e1, e2, e3⟩ := flatL_some h2
      refine ⟨a :: ls, by simpa [e1] using h.symm, by simp [e2], fun i d' hd => ?_⟩
      cases i with
      | zero => simp at hd; subst hd; exact ⟨a, rfl, h1⟩
      | succ i => simpa using e3 i d' (by simpa using hd)
    · cases h

variable {P : Program} {w : World} {base : Nat} {spare : Nat → Bool} {held : Bool}

theorem trod_flat : ∀ (n : Nat) (t : TypeId) (fuel : Nat) (cs : List Value) (d : DataW Unit) (ps : List MemPlace) (l : List Value), tabOk P n t = true → DataW.trod (fun _ => ()) P w base spare held fuel t cs = some (d, ps) → flatG n d = some l → cs = l
  | 0, _, _, _, _, _, _, h, _, _ => by cases h
  | n + 1, t, fuel, cs, d, ps, l, h, hx, hl => by
    simp only [tabOk] at h
    split at h
    · rename_i hu
      obtain ⟨b, rfl, e⟩ := DataW.trod_bool hu hx
      obtain ⟨rfl, _⟩ := Prod.mk.inj e
      simpa [flatG] using hl
    · rename_i k hu
      obtain ⟨b, rfl, e, _⟩ := DataW.trod_int hu hx
      obtain ⟨rfl, _⟩ := Prod.mk.inj e
      simpa [flatG] using hl
    · rename_i m e hu
      rcases of_cond2 h with ⟨h1, h2⟩ | ⟨_, h⟩
      · replace h1 := of_beq h1
        obtain ⟨xs, f1, rfl, ex, hlen, hn, hel⟩ := DataW.trod_array hu hx
        obtain ⟨rfl, _⟩ := Prod.mk.inj ex
        simp only [flatG] at hl
        obtain ⟨ls, rfl, e2, e3⟩ := flatL_some hl
        rw [chunks m (P.cellsOf e) cs (hlen.trans h1)]
        congr 1
        refine List.ext_getElem? fun i => ?_
        by_cases hi : i < m
        · have h4 := hel i hi
          rw [List.getElem?_eq_getElem (by omega)] at h4
          obtain ⟨a, a1, a2⟩ := e3 i (xs[i]'(by omega)).1 (by simp [show i < xs.length by omega])
          have := trod_flat n e f1 _ _ _ a h2 h4 a2
          rw [a1, List.getElem?_map, List.getElem?_range hi, Option.map_some, this]
        · rw [List.getElem?_eq_none (by simp; omega), List.getElem?_eq_none (by rw [e2]; simp; omega)]
      · cases h
    · cases h

/-- A block of a package-level variable that holds these cells. -/
def GOk1 (g : Nat) (l : List Value) (w : World) : Prop := g < w.heap.size ∧ ∀ i (hi : i < l.length), w.cell? ⟨g, i, none⟩ = some l[i]
theorem laid_var {P : Program} {w : World} {name : String} {g : Nat} {cs : Array Value} {fuel : Nat} {t t' : TypeId} {d : DataW Unit} {ps : List MemPlace} {l : List Value} {g' : Nat} (hg : P.globalNamed name = some g') (hg' : P.globalNamed name = some g) (ht : (P.globals[g']?).map (·.type) = some t') (ht' : (P.globals[g]?).map (·.type) = some t)
    (hv : w.var? P name = some cs) (hd : DataW.trod (fun _ => ()) P w base spare held fuel t cs.toList = some (d, ps)) (hok : tabOk P 8 t' = true) (hl : flatG 8 d = some l) (hpos : (match l with | [] => false | _ => true) = true) : GOk1 g' l w := by
  obtain rfl := Option.some.inj (hg.symm.trans hg')
  obtain rfl := Option.some.inj (ht.symm.trans ht')
  have e := trod_flat 8 t' fuel cs.toList d ps l hok hd hl
  have cell : ∀ i (hi : i < l.length), w.cell? ⟨g', i, none⟩ = some l[i] := fun i hi => by
    rw [World.var?_cell hg hv i, ← Array.getElem?_toList, e, List.getElem?_eq_getElem hi]
  refine ⟨?_, cell⟩
  cases l with
  | nil => cases hpos
  | cons x r =>
    have := cell 0 (by simp)
    rcases Nat.lt_or_ge g' w.heap.size with h | h
    · exact h
    · simp [World.cell?, Array.getElem?_eq_none h] at this

/-- The tables by their numbers. -/
def gmap : List (Nat × List AV) → Nat → Option (List AV)
  | [], _ => none
  | x :: r, g => cond (Nat.beq x.1 g) (some x.2) (gmap r g)
def GsOk (w : World) : List (Nat × List AV) → Prop
  | [] => True
  | x :: r => (∃ l, x.2 = l.map ofS ∧ GOk1 x.1 l w) ∧ GsOk w r
theorem gok_of : ∀ {gs : List (Nat × List AV)} {w : World}, GsOk w gs → GOk (gmap gs) w
  | [], w, _ => fun g cells h => by cases h
  | x :: r, w, h => fun g cells hg => by
    simp only [gmap] at hg
    rcases (show (Nat.beq x.1 g = true ∧ some x.2 = some cells) ∨ (Nat.beq x.1 g = false ∧ gmap r g = some cells) by cases hb : Nat.beq x.1 g <;> rw [hb] at hg <;> simp_all) with ⟨h1, h2⟩ | ⟨h1, h2⟩
    · obtain ⟨⟨l, e, k1, k2⟩, _⟩ := h
      have hx := of_beq h1
      subst hx
      obtain rfl := Option.some.inj h2
      rw [e]
      refine ⟨k1, fun i => l.getD i undef, fun i hi => ?_, fun i hi w' B own ω nx => ?_⟩
      · have hi' : i < l.length := by simpa using hi
        show _ = some (l.getD i undef)
        rw [k2 i hi', List.getD_eq_getElem?_getD, List.getElem?_eq_getElem hi', Option.getD_some]
      · have hi' : i < l.length := by simpa using hi
        show Rep w' B own ω nx _ (l.getD i undef)
        rw [List.getElem_map, List.getD_eq_getElem?_getD, List.getElem?_eq_getElem hi', Option.getD_some]
        exact rep_ofS _ _ _ _ _ _
    · exact gok_of h.2 g cells h2
end Go.Bas
