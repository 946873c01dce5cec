/- Contracts: levels of an index, asv a list of known length; Counts of an index's levels answer always; and its levels are one to five; The engine, part Ex: what a function answers where nothing of it is printed: its run's one outcome,; The engine, part Ex2: small laws for trees whose paths are proved one by one; The engine, part Ex3: one function's run inside another's: two that answer the same; The document's levels of an index: how many items each has, which is the top one; The last item that an item is for: the document's loop; The last item that an item is for: the document's function answers what the program's does; The engine, part Mg: blocks under other numbers; The engine, part Mf: blocks that nobody looks at again are left out of the heap, their numbers asv t; The engine: what a function does at known calls, where they stand: out of a run of its body, or of i; The engine, part Mh: loops by families of states, their bodies' loops known, rounds that may change; The document's rows of a table's cells: its loops; The document's rows of a table's cells: what its loops come to; The document's rows of a table's cells: its contract; Rows asv a list: how they lie in memory; the document's Find and With: their loops, a round; The document's Find and With; The document's With: its contract; Find and With asv summaries. -/
import Derived.Test.YtjibpphcdfbgkaaDoorBasW6
section
namespace Go.Bas.BasZLev
open Go.RowKit Go.Proofs
open Go.Bas.BasZBase Go.Bas.BasZRank
set_option maxRecDepth 100000
set_option maxHeartbeats 4000000
set_option linter.unusedVariables false
set_option linter.unusedSimpArgs false

theorem t_levels (n w : Int) (k : AV → Bool) : runF (cfg [S_width, S_up]) 300 23 [.int .i64 n, .int .i64 w] k false = ((bif (!(f_width_0 n 1 w)) then (k (AV.tup [AV.nils, (AV.int .i64 2)])) else ((ok_up n w 0) && (bif decide ((f_up_0 n w 0) ≤ w) then (k (AV.tup [(AV.lst [(AV.int .i64 (f_up_0 n w 0))] 1), (AV.int .i64 0)])) else ((ok_up n w 1) && (bif decide ((f_up_0 n w 1) ≤ w) then (k (AV.tup [(AV.lst [(AV.int .i64 (f_up_0 n w 0)), (AV.int .i64 (f_up_0 n w 1))] 2), (AV.int .i64 0)])) else ((ok_up n w 2) && (bif decide ((f_up_0 n w 2) ≤ w) then (k (AV.tup [(AV.lst [(AV.int .i64 (f_up_0 n w 0)), (AV.int .i64 (f_up_0 n w 1)), (AV.int .i64 (f_up_0 n w 2))] 3), (AV.int .i64 0)])) else ((ok_up n w 3) && (bif decide ((f_up_0 n w 3) ≤ w) then (k (AV.tup [(AV.lst [(AV.int .i64 (f_up_0 n w 0)), (AV.int .i64 (f_up_0 n w 1)), (AV.int .i64 (f_up_0 n w 2)), (AV.int .i64 (f_up_0 n w 3))] 4), (AV.int .i64 0)])) else ((ok_up n w 4) && (bif decide ((f_up_0 n w 4) ≤ w) then (k (AV.tup [(AV.lst [(AV.int .i64 (f_up_0 n w 0)), (AV.int .i64 (f_up_0 n w 1)), (AV.int .i64 (f_up_0 n w 2)), (AV.int .i64 (f_up_0 n w 3)), (AV.int .i64 (f_up_0 n w 4))] 5), (AV.int .i64 0)])) else (k (AV.tup [(AV.lst [(AV.int .i64 (f_up_0 n w 0)), (AV.int .i64 (f_up_0 n w 1)), (AV.int .i64 (f_up_0 n w 2)), (AV.int .i64 (f_up_0 n w 3)), (AV.int .i64 (f_up_0 n w 4))] 5), (AV.int .i64 0)])))))))))))))) := by kernel_rfl
/-- The levels are so many. -/
noncomputable def levIs (n w : Int) (m : Nat) : Bool := (bif (!(f_width_0 n 1 w)) then false else (ok_up n w 0 && (bif decide (f_up_0 n w 0 ≤ w) then Nat.beq m 1 else (ok_up n w 1 && (bif decide (f_up_0 n w 1 ≤ w) then Nat.beq m 2 else (ok_up n w 2 && (bif decide (f_up_0 n w 2 ≤ w) then Nat.beq m 3 else (ok_up n w 3 && (bif decide (f_up_0 n w 3 ≤ w) then Nat.beq m 4 else (ok_up n w 4 && (bif decide (f_up_0 n w 4 ≤ w) then Nat.beq m 5 else Nat.beq m 5)))))))))))
noncomputable def levTree (n w : Int) (k : AV → Bool) : Bool := (bif (!(f_width_0 n 1 w)) then k (.tup [.nils, .int .i64 2]) else (ok_up n w 0 && (bif decide (f_up_0 n w 0 ≤ w) then k (.tup [.lst [.int .i64 (f_up_0 n w 0)] 1, .int .i64 0]) else (ok_up n w 1 && (bif decide (f_up_0 n w 1 ≤ w) then k (.tup [.lst [.int .i64 (f_up_0 n w 0), .int .i64 (f_up_0 n w 1)] 2, .int .i64 0]) else (ok_up n w 2 && (bif decide (f_up_0 n w 2 ≤ w) then k (.tup [.lst [.int .i64 (f_up_0 n w 0), .int .i64 (f_up_0 n w 1), .int .i64 (f_up_0 n w 2)] 3, .int .i64 0]) else (ok_up n w 3 && (bif decide (f_up_0 n w 3 ≤ w) then k (.tup [.lst [.int .i64 (f_up_0 n w 0), .int .i64 (f_up_0 n w 1), .int .i64 (f_up_0 n w 2), .int .i64 (f_up_0 n w 3)] 4, .int .i64 0]) else (ok_up n w 4 && (bif decide (f_up_0 n w 4 ≤ w) then k (.tup [.lst [.int .i64 (f_up_0 n w 0), .int .i64 (f_up_0 n w 1), .int .i64 (f_up_0 n w 2), .int .i64 (f_up_0 n w 3), .int .i64 (f_up_0 n w 4)] 5, .int .i64 0]) else k (.tup [.lst [.int .i64 (f_up_0 n w 0), .int .i64 (f_up_0 n w 1), .int .i64 (f_up_0 n w 2), .int .i64 (f_up_0 n w 3), .int .i64 (f_up_0 n w 4)] 5, .int .i64 0]))))))))))))
noncomputable def levO (n w : Int) (m : Nat) : AV := .tup [.lst ((List.range m).map fun (i : Nat) => AV.int .i64 (f_up_0 n w (i : Int))) m, .int .i64 0]
theorem lt_leaf {m L : Nat} {k : AV → Bool} {n w : Int} {v : AV} (h : levO n w L = v) (hm : Nat.beq m L = true) (hk : k (levO n w m) = true) : k v = true := by
  have := Nat.eq_of_beq_eq_true hm
  subst this
  rw [← h]; exact hk
theorem lt_br {b x y x' y' : Bool} (h1 : x = true → x' = true) (h2 : y = true → y' = true) (h : (bif b then x else y) = true) : (bif b then x' else y') = true := by
  cases b
  · exact h2 h
  · exact h1 h
theorem lt_and {b y y' : Bool} (h2 : y = true → y' = true) (h : (b && y) = true) : (b && y') = true := by
  cases b
  · exact h
  · exact h2 h
theorem levTree_is {n w : Int} {m : Nat} {k : AV → Bool} (hp : levIs n w m = true) (hk : k (levO n w m) = true) : levTree n w k = true :=
  lt_br (fun h => Bool.noConfusion h) (lt_and (lt_br (fun h => lt_leaf (L := 1) rfl h hk) (lt_and (lt_br (fun h => lt_leaf (L := 2) rfl h hk) (lt_and (lt_br (fun h => lt_leaf (L := 3) rfl h hk) (lt_and (lt_br (fun h => lt_leaf (L := 4) rfl h hk) (lt_and (lt_br (fun h => lt_leaf (L := 5) rfl h hk) (fun h => lt_leaf (L := 5) rfl h hk))))))))))) hp
theorem acalls_lev {n w : Int} {m : Nat} (hp : levIs n w m = true) : ACalls Tryd.prog (gmap gs) 23 [.int .i64 n, .int .i64 w] (fun v => v = levO n w m) :=
  acalls_eq base (sums_cons s_width (sums_cons s_up sums_nil)) (n := 300) fun k hk => (t_levels n w k).trans (levTree_is hp hk)
end Go.Bas.BasZLev
end
section
namespace Go.Bas.BasZRank3
open Go.RowKit Go.Proofs Go.Bas.BasZBase Go.Bas.BasZRank Go.Bas.BasZLev
set_option maxRecDepth 100000
set_option linter.unusedVariables false
set_option linter.unusedSimpArgs false
theorem width_is (n l w : Int) : f_width_0 n l w = (decide (n ≥ l) && (decide (n ≤ 32) && (decide (w ≥ 2) && decide (w ≤ 4)))) := by
  show (bif decide (n ≥ l) then bif decide (n ≤ 32) then bif decide (w ≥ 2) then decide (w ≤ 4) else false else false else false) = _
  cases decide (n ≥ l) <;> cases decide (n ≤ 32) <;> cases decide (w ≥ 2) <;> rfl
theorem of_width {n l w : Int} (h : f_width_0 n l w = true) : l ≤ n ∧ n ≤ 32 ∧ 2 ≤ w ∧ w ≤ 4 := by
  rw [width_is] at h
  simp only [Bool.and_eq_true, decide_eq_true_eq] at h
  omega
theorem ok_up_all {n w h : Int} (hw : 2 ≤ w ∧ w ≤ 4) (hh : 0 ≤ h ∧ h ≤ 4) : ok_up n w h = true := by
  rcases (show w = 2 ∨ w = 3 ∨ w = 4 by omega) with rfl | rfl | rfl <;> rcases (show h = 0 ∨ h = 1 ∨ h = 2 ∨ h = 3 ∨ h = 4 by omega) with rfl | rfl | rfl | rfl | rfl <;> kernel_rfl
theorem ok_up_dec {n w h : Int} (hw : 2 ≤ w ∧ w ≤ 4) (hh : 1 ≤ h ∧ h ≤ 4) : ok_up n w (IntKind.wrap .i64 (h - 1)) = true := by
  rcases (show w = 2 ∨ w = 3 ∨ w = 4 by omega) with rfl | rfl | rfl <;> rcases (show h = 1 ∨ h = 2 ∨ h = 3 ∨ h = 4 by omega) with rfl | rfl | rfl | rfl <;> kernel_rfl
theorem ok_count_all (n w h : Int) : ok_count n w h = true := by
  show (bif !(f_width_0 n 0 w) then true else bif decide (h < 0) then true else bif decide (h > 4) then true else bif ok_up n w h then true else false) = true
  cases hw : f_width_0 n 0 w with
  | false => rfl
  | true =>
    have := of_width hw
    by_cases h0 : h < 0
    · rw [decide_eq_true h0]; rfl
    · by_cases h4 : h > 4
      · rw [decide_eq_false h0, decide_eq_true h4]; rfl
      · rw [decide_eq_false h0, decide_eq_false h4, ok_up_all (by omega) (by omega)]; rfl
theorem ok_last_all (n w h i : Int) : ok_last n w h i = true := by
  show (bif !(f_width_0 n 1 w) then true else bif decide (h < 1) then true else bif decide (h > 4) then true else bif decide (i < 0) then true else
    bif ok_up n w h then bif decide (i ≥ f_up_0 n w h) then true else bif ok_up n w (IntKind.wrap .i64 (h - 1)) then true else false else false) = true
  cases hw : f_width_0 n 1 w with
  | false => rfl
  | true =>
    have := of_width hw
    by_cases h0 : h < 1
    · rw [decide_eq_true h0]; rfl
    · by_cases h4 : h > 4
      · rw [decide_eq_false h0, decide_eq_true h4]; rfl
      · rw [decide_eq_false h0, decide_eq_false h4, ok_up_all (by omega) (by omega), ok_up_dec (by omega) (by omega)]
        cases decide (i < 0) <;> cases decide (i ≥ f_up_0 n w h) <;> rfl
theorem lev_some {n w : Int} (hw : f_width_0 n 1 w = true) : levIs n w 1 = true ∨ levIs n w 2 = true ∨ levIs n w 3 = true ∨ levIs n w 4 = true ∨ levIs n w 5 = true := by
  have h := of_width hw
  have h2 : 2 ≤ w ∧ w ≤ 4 := by omega
  unfold levIs
  rw [hw, ok_up_all h2 (h := 0) (by omega), ok_up_all h2 (h := 1) (by omega), ok_up_all h2 (h := 2) (by omega), ok_up_all h2 (h := 3) (by omega), ok_up_all h2 (h := 4) (by omega)]
  cases decide (f_up_0 n w 0 ≤ w) <;> cases decide (f_up_0 n w 1 ≤ w) <;> cases decide (f_up_0 n w 2 ≤ w) <;> cases decide (f_up_0 n w 3 ≤ w) <;> cases decide (f_up_0 n w 4 ≤ w) <;> simp
end Go.Bas.BasZRank3
end
section
namespace Go.Bas
open Go.RowKit
set_option linter.unusedVariables false

/-- The elements of a tuple or a struct, and one of them. -/
def AV.elems : AV → List AV
  | .tup l => l
  | .agg l => l
  | _ => []
def AV.nth : Nat → List AV → AV
  | 0, l => l.headD .any
  | j + 1, l => AV.nth j l.tail
def AV.ix (v : AV) (j : Nat) : AV := AV.nth j v.elems
/-- A shape: who has it, and how a value that has it is put together of its parts. -/
structure Sp where
  has : AV → Bool
  bd : AV → AV
  ok : ∀ v, has v = true → v = bd v
theorem runF_nat {Ω Ω' : Type} (g : Ω → Ω') (C : Cfg) (n : Nat) (f : FuncId) (args : List AV) (k : AV → Ω) (z : Ω) :
    g (runF C n f args k z) = runF C n f args (fun v => g (k v)) (g z) := by
  unfold runF
  split
  · split
    · exact standK_nat (f := g) (run_nat C n) C z _ _ args k
    · rfl
  · rfl
/-- What a run comes to. -/
noncomputable def outV (C : Cfg) (n : Nat) (f : FuncId) (args : List AV) : AV := runF C n f args (fun v => v) .any
theorem run_out {C : Cfg} {n : Nat} {f : FuncId} {args : List AV} {P : AV → Bool} (h : runF C n f args P false = true) :
    P (outV C n f args) = true ∧ ∀ k : AV → Bool, runF C n f args k false = k (outV C n f args) := by
  have key : ∀ {Ω : Type} (k : AV → Ω) (z : Ω), runF C n f args k z = (match runF C n f args some none with
    | some v => k v
    | none => z) := fun k z => (runF_nat (fun o : Option AV => match o with
    | some v => k v
    | none => z) C n f args some none).symm
  have h1 := key P false
  have h2 := key (fun v => v) AV.any
  cases ho : runF C n f args some none with
  | none => rw [ho] at h1; rw [h] at h1; cases h1
  | some v =>
    rw [ho] at h1 h2
    have e : outV C n f args = v := h2
    refine ⟨by rw [e, ← h]; exact h1.symm, fun k => ?_⟩
    have h3 := key k false
    rw [ho] at h3
    rw [e]
    exact h3
/-- A condition asv a tree prints it. It is 'cond', but its head is not cond's: the kernel then never takes a run's own 'cond' for it, and opens nothing twice. -/
noncomputable def br (b x y : Bool) : Bool := Bool.rec y x b
theorem btb {b x y : Bool} (hb : b = true) (hx : x = true) : br b x y = true := by
  cases hb
  exact hx
theorem bdt {b x y : Bool} (hx : b = true → x = true) (hy : b = false → y = true) : br b x y = true := by
  cases b
  · exact hy rfl
  · exact hx rfl
theorem btf {b x y : Bool} (hb : b = false) (hy : y = true) : br b x y = true := by
  cases hb
  exact hy
noncomputable def ba (b x : Bool) : Bool := Bool.rec false x b
theorem band {b x : Bool} (hb : b = true) (hx : x = true) : ba b x = true := by
  cases hb
  exact hx
end Go.Bas
end
section
namespace Go.Bas
open Go.RowKit
theorem cT {α : Type} {b : Bool} {x y z : α} (h : b = true) (k : x = z) : cond b x y = z := by
  cases h
  exact k
end Go.Bas
end
section
namespace Go.Bas
open Go.RowKit
set_option linter.unusedVariables false
theorem and_left {a b : Bool} (h : (a && b) = true) : a = true := by
  cases a
  · cases h
  · rfl
theorem and_right {a b : Bool} (h : (a && b) = true) : b = true := by
  cases a
  · cases h
  · exact h
/-- A shape, and when two values of it are the same. -/
structure Se where
  eq : AV → AV → Bool
  ok : ∀ a b, eq a b = true → b = a
theorem cond_tf {b : Bool} (h : cond b true false = true) : b = true := by
  cases b
  · cases h
  · rfl
def seI (k : IntKind) : Se := ⟨fun a b => match a, b with
  | .int k1 x, .int k2 y => kindEq k1 k && (kindEq k2 k && cond (decide (x = y)) true false)
  | _, _ => false, fun a b h => by
    split at h
    · rw [Bool.and_eq_true, Bool.and_eq_true] at h
      rw [kindEq_eq h.1, kindEq_eq h.2.1, of_decide_eq_true (cond_tf h.2.2)]
    · cases h⟩
theorem run_is {C : Cfg} {n : Nat} {f : FuncId} {args : List AV} {P : AV → Bool} {r : AV} (h : runF C n f args P false = true) (hr : ∀ w, P w = true → w = r) : ∀ k : AV → Bool, runF C n f args k false = k r := fun k => by
  have := run_out h
  rw [this.2 k, hr _ this.1]
end Go.Bas
end
section
namespace Go.Bas.BasAvI0
open Go.RowKit Go.Proofs Go.Bas.BasZBase Go.Bas.BasZRank Go.Bas.BasZRank3 Go.Bas.BasZLev Go.Bas.BasZItems Go.Bas.BasZItems2
set_option maxRecDepth 100000
set_option linter.unusedVariables false
set_option linter.unusedSimpArgs false
noncomputable def lvN (n w : Int) : Nat := bif levIs n w 1 then 1 else bif levIs n w 2 then 2 else bif levIs n w 3 then 3 else bif levIs n w 4 then 4 else 5
theorem lvN_is {n w : Int} (hw : f_width_0 n 1 w = true) : levIs n w (lvN n w) = true ∧ 1 ≤ lvN n w ∧ lvN n w ≤ 5 := by
  unfold lvN
  rcases lev_some hw with h | h | h | h | h
  · rw [h]; exact ⟨h, Nat.le_of_ble_eq_true rfl, Nat.le_of_ble_eq_true rfl⟩
  · cases h1 : levIs n w 1 with
    | true => exact ⟨h1, Nat.le_of_ble_eq_true rfl, Nat.le_of_ble_eq_true rfl⟩
    | false => rw [h]; exact ⟨h, Nat.le_of_ble_eq_true rfl, Nat.le_of_ble_eq_true rfl⟩
  · cases h1 : levIs n w 1 with
    | true => exact ⟨h1, Nat.le_of_ble_eq_true rfl, Nat.le_of_ble_eq_true rfl⟩
    | false =>
      cases h2 : levIs n w 2 with
      | true => exact ⟨h2, Nat.le_of_ble_eq_true rfl, Nat.le_of_ble_eq_true rfl⟩
      | false => rw [h]; exact ⟨h, Nat.le_of_ble_eq_true rfl, Nat.le_of_ble_eq_true rfl⟩
  · cases h1 : levIs n w 1 with
    | true => exact ⟨h1, Nat.le_of_ble_eq_true rfl, Nat.le_of_ble_eq_true rfl⟩
    | false =>
      cases h2 : levIs n w 2 with
      | true => exact ⟨h2, Nat.le_of_ble_eq_true rfl, Nat.le_of_ble_eq_true rfl⟩
      | false =>
        cases h3 : levIs n w 3 with
        | true => exact ⟨h3, Nat.le_of_ble_eq_true rfl, Nat.le_of_ble_eq_true rfl⟩
        | false => rw [h]; exact ⟨h, Nat.le_of_ble_eq_true rfl, Nat.le_of_ble_eq_true rfl⟩
  · cases h1 : levIs n w 1 with
    | true => exact ⟨h1, Nat.le_of_ble_eq_true rfl, Nat.le_of_ble_eq_true rfl⟩
    | false =>
      cases h2 : levIs n w 2 with
      | true => exact ⟨h2, Nat.le_of_ble_eq_true rfl, Nat.le_of_ble_eq_true rfl⟩
      | false =>
        cases h3 : levIs n w 3 with
        | true => exact ⟨h3, Nat.le_of_ble_eq_true rfl, Nat.le_of_ble_eq_true rfl⟩
        | false =>
          cases h4 : levIs n w 4 with
          | true => exact ⟨h4, Nat.le_of_ble_eq_true rfl, Nat.le_of_ble_eq_true rfl⟩
          | false => exact ⟨h, Nat.le_of_ble_eq_true rfl, Nat.le_of_ble_eq_true rfl⟩
/-- May a row of so many be so wide, and a level so high? -/
def itR (n w h : Int) : Bool := (decide (0 ≤ n) && decide (n ≤ 32)) && ((decide (2 ≤ w) && decide (w ≤ 4)) && (decide (0 ≤ h) && decide (h ≤ 4)))
theorem itR_true {n w h : Int} : itR n w h = true ↔ (0 ≤ n ∧ n ≤ 32) ∧ (2 ≤ w ∧ w ≤ 4) ∧ 0 ≤ h ∧ h ≤ 4 := by
  unfold itR
  simp only [Bool.and_eq_true, decide_eq_true_eq]
theorem up_all : (List.range 33).all (fun n => (List.range 3).all fun w => (List.range 5).all fun h => decide (f_up_0 (n : Int) ((w + 2 : Nat) : Int) (h : Int) = itI (n : Int) ((w + 2 : Nat) : Int) (h : Int)) && decide (f_up_0 (n : Int) ((w + 2 : Nat) : Int) (h : Int) ≤ (n : Int) ∧ 0 ≤ f_up_0 (n : Int) ((w + 2 : Nat) : Int) (h : Int))) = true := by kernel_rfl
theorem up_it {n w h : Int} (hr : itR n w h = true) : f_up_0 n w h = itI n w h ∧ 0 ≤ f_up_0 n w h ∧ f_up_0 n w h ≤ n := by
  obtain ⟨⟨a0, a1⟩, ⟨b0, b1⟩, c0, c1⟩ := itR_true.1 hr
  obtain ⟨N, rfl⟩ := Int.eq_ofNat_of_zero_le a0
  obtain ⟨H, rfl⟩ := Int.eq_ofNat_of_zero_le c0
  obtain ⟨W, rfl⟩ : ∃ W : Nat, w = ((W + 2 : Nat) : Int) := ⟨(w - 2).toNat, by omega⟩
  have q := List.all_eq_true.1 (List.all_eq_true.1 (List.all_eq_true.1 up_all N (List.mem_range.2 (by omega))) W (List.mem_range.2 (by omega))) H (List.mem_range.2 (by omega))
  have q2 := of_decide_eq_true (and_right q)
  exact ⟨of_decide_eq_true (and_left q), q2.2, q2.1⟩
noncomputable def S_itU : Sum := (25, on3 (rI .i64) (rI .i64) (rI .i64) (fun n w h => itR n w h) (fun n w h => .int .i64 (f_up_0 n w h)))
theorem s_itU : SumOk Tryd.prog (gmap gs) S_itU := on3_sum fun n w h hp => by
  have q := itR_true.1 hp
  have e : outOk n w h 0 = true := by
    unfold outOk
    simp only [Bool.and_eq_true, decide_eq_true_eq]
    refine ⟨by omega, by omega, by omega, by omega, by omega, by omega, ?_⟩
    first | rfl | trivial
  refine s_items [.int .i64 n, .int .i64 w, .int .i64 h] _ ?_
  show some (outOk n w h 0, AV.int .i64 (itI n w h)) = some (true, AV.int .i64 (f_up_0 n w h))
  rw [e, (up_it hp).1]
theorem top_all : (List.range 32).all (fun n => (List.range 3).all fun w => runF (cfg [S_itU]) 400 24 [.int .i64 ((n + 1 : Nat) : Int), .int .i64 ((w + 2 : Nat) : Int)] (fun v => (seI .i64).eq (.int .i64 ((lvN ((n + 1 : Nat) : Int) ((w + 2 : Nat) : Int) : Int) - 1)) v) false) = true := by kernel_rfl
noncomputable def S_topR : Sum := (24, on2 (rI .i64) (rI .i64) (fun n w => f_width_0 n 1 w) (fun n w => .int .i64 ((lvN n w : Int) - 1)))
theorem s_topR : SumOk Tryd.prog (gmap gs) S_topR := on2_sum fun n w hp => by
  obtain ⟨a0, a1, b0, b1⟩ := of_width hp
  obtain ⟨N, rfl⟩ : ∃ N : Nat, n = ((N + 1 : Nat) : Int) := ⟨(n - 1).toNat, by omega⟩
  obtain ⟨W, rfl⟩ : ∃ W : Nat, w = ((W + 2 : Nat) : Int) := ⟨(w - 2).toNat, by omega⟩
  have q := List.all_eq_true.1 (List.all_eq_true.1 top_all N (List.mem_range.2 (by omega))) W (List.mem_range.2 (by omega))
  exact acalls_eq base (sums_cons s_itU sums_nil) (n := 400) fun k hk => (run_is q (fun w_ hw => (seI .i64).ok _ _ hw) k).trans hk
end Go.Bas.BasAvI0
end
section
namespace Go.Bas.BasAvIE
open Go.RowKit Go.Proofs
open Go.Bas.BasZBase Go.Bas.BasAvI0 Go.Bas.BasZRank
set_option maxRecDepth 100000
set_option maxHeartbeats 4000000
set_option linter.unusedVariables false
set_option linter.unusedSimpArgs false
def I_ie (m : Int) (w : Int) (h : Int) (i : Int) (b : Int) (l : Int) (k0 : Int) : St := ⟨fill 29 [(0, .int .i64 m), (1, .int .i64 w), (2, .int .i64 h), (3, .int .i64 i), (9, .int .i64 b), (10, .int .i64 l), (11, .int .i64 k0)], [], ⟨[], 0, []⟩⟩
noncomputable def P_ie {Ω : Type} (st : St) (g : (Int) → (Int) → (Int) → (Int) → (Int) → (Int) → (Int) → Ω) (z : Ω) : Ω := match lget st.tmps 0, lget st.tmps 1, lget st.tmps 2, lget st.tmps 3, lget st.tmps 9, lget st.tmps 10, lget st.tmps 11, st.ds, st.m with
  | .int .i64 m, .int .i64 w, .int .i64 h, .int .i64 i, .int .i64 b, .int .i64 l, .int .i64 k0, [], ⟨[], z1, []⟩ => cond (Nat.beq st.tmps.length 29 && (Nat.beq z1 0 && (true))) (g m w h i b l k0) z
  | _, _, _, _, _, _, _, _, _ => z
theorem P_ie_ok {C : Cfg} {c : Code} {G : (Int) → (Int) → (Int) → (Int) → (Int) → (Int) → (Int) → (Ex → St → Bool) → Bool} (hG : ∀ m w h i b l k0 k, G m w h i b l k0 k = true → AWq C c (I_ie m w h i b l k0) (fun e s => k e s = true)) : ∀ st k, P_ie st (fun m w h i b l k0 => G m w h i b l k0 k) false = true → AWq C c st (fun e s => k e s = true) := by
  intro st k h
  unfold P_ie at h
  split at h
  · rename_i q0 q1 q2 q3 q4 q5 q6 hd hm
    rcases of_cond2 h with ⟨hb, h2⟩ | ⟨_, h2⟩
    · simp only [Bool.and_eq_true, and_true, decide_eq_true_eq, beq_iff] at hb
      obtain ⟨hb0, hb1⟩ := hb
      subst hb1
      exact AWq.less (Less.fill hb0 (AllL_cons q0 (AllL_cons q1 (AllL_cons q2 (AllL_cons q3 (AllL_cons q4 (AllL_cons q5 (AllL_cons q6 AllL_nil))))))) hd hm) (hG _ _ _ _ _ _ _ _ h2)
    · cases h2
  · cases h
def lst (w i k : Nat) : Nat := if k ≤ i * w then 0 else (if k ≤ (i + 1) * w then k else (i + 1) * w) - 1
def lstI (w i b : Int) : Int := (lst w.toNat i.toNat b.toNat : Nat)
def eOk (w i b l k0 : Int) : Bool := decide (1 ≤ w) && (decide (w ≤ 1000) && (decide (0 ≤ i) && (decide (i ≤ 1000) && (decide (0 ≤ b) && (decide (b ≤ 1000) && (decide (l = 0) && decide (k0 = 0)))))))
noncomputable def G_ie (m w h i b l k0 : Int) (k : Ex → St → Bool) : Bool := cond (eOk w i b l k0) (k (.exit 0) ⟨fill 29 [(10, .int .i64 (lstI w i b))], [], ⟨[], 0, []⟩⟩) false
noncomputable def F_ie : LF := fun st k => P_ie st (fun m w h i b l k0 => G_ie m w h i b l k0 k) false

theorem t_ieb (m w h i b l k0 : Int) (k : Ex → St → Bool) : run (cfg [S_itU]) 100 none none (loopAt (fcode Tryd.prog 35) [0]) (I_ie m w h i b l k0) (fun e s => k e (keepS [0, 1, 2, 3, 9, 10, 11] s)) false = ((bif decide (k0 < b) then (bif decide (w = 0) then Bool.false else (bif decide ((IntKind.wrap .i64 (Int.tdiv k0 w)) = i) then (k Ex.normal (St.mk [(AV.int .i64 m), (AV.int .i64 w), (AV.int .i64 h), (AV.int .i64 i), AV.any, AV.any, AV.any, AV.any, AV.any, (AV.int .i64 b), (AV.int .i64 k0), (AV.int .i64 (IntKind.wrap .i64 (k0 + 1))), AV.any, AV.any, AV.any, AV.any, AV.any, AV.any, AV.any, AV.any, AV.any, AV.any, AV.any, AV.any, AV.any, AV.any, AV.any, AV.any, AV.any] [] (Mem.mk [] 0 []))) else (k Ex.normal (St.mk [(AV.int .i64 m), (AV.int .i64 w), (AV.int .i64 h), (AV.int .i64 i), AV.any, AV.any, AV.any, AV.any, AV.any, (AV.int .i64 b), (AV.int .i64 l), (AV.int .i64 (IntKind.wrap .i64 (k0 + 1))), AV.any, AV.any, AV.any, AV.any, AV.any, AV.any, AV.any, AV.any, AV.any, AV.any, AV.any, AV.any, AV.any, AV.any, AV.any, AV.any, AV.any] [] (Mem.mk [] 0 []))))) else (k (Ex.exit 0) (St.mk [(AV.int .i64 m), (AV.int .i64 w), (AV.int .i64 h), (AV.int .i64 i), AV.any, AV.any, AV.any, AV.any, AV.any, (AV.int .i64 b), (AV.int .i64 l), (AV.int .i64 k0), AV.any, AV.any, AV.any, AV.any, AV.any, AV.any, AV.any, AV.any, AV.any, AV.any, AV.any, AV.any, AV.any, AV.any, AV.any, AV.any, AV.any] [] (Mem.mk [] 0 []))))) := by kernel_rfl
theorem t_endr (m w h i : Int) (k : AV → Bool) : runFM (cfg [S_itU]) 300 35 [F_ie] [.int .i64 m, .int .i64 w, .int .i64 h, .int .i64 i] k = (((BasAvI0.itR m w (IntKind.wrap .i64 (h - 1))) && ((BasAvIE.eOk w i (f_up_0 m w (IntKind.wrap .i64 (h - 1))) 0 0) && (k (AV.int .i64 (BasAvIE.lstI w i (f_up_0 m w (IntKind.wrap .i64 (h - 1))))))))) := by kernel_rfl
end Go.Bas.BasAvIE
end
section
namespace Go.Bas.BasAvIE2
open Go.RowKit Go.Proofs Go.Bas.BasZBase Go.Bas.BasZRank Go.Bas.BasZRank3 Go.Bas.BasZItems2 Go.Bas.BasAvI0 Go.Bas.BasAvIE
set_option maxRecDepth 100000
set_option linter.unusedVariables false
set_option linter.unusedSimpArgs false
theorem hN : (cfg [S_itU]).Ok := cfg_ok base (sums_cons s_itU sums_nil)
theorem ie_loops : loopsOf (fcode Tryd.prog 35) = [.loop (loopAt (fcode Tryd.prog 35) [0])] := by kernel_rfl
theorem lst_in {w i k : Nat} (h : k / w = i) (hw : 0 < w) : lst w i (k + 1) = k := by
  have h1 : i * w ≤ k := by rw [← h]; exact Nat.div_mul_le_self k w
  have h2 : k < (i + 1) * w := by rw [← h]; exact (Nat.div_lt_iff_lt_mul hw).1 (Nat.lt_succ_self _)
  unfold lst
  rw [if_neg (by omega), if_pos (by omega)]
  rfl
theorem lst_out {w i k : Nat} (h : ¬ k / w = i) (hw : 0 < w) : lst w i (k + 1) = lst w i k := by
  have hs : (i + 1) * w = i * w + w := Nat.succ_mul i w
  by_cases h1 : k < i * w
  · unfold lst
    rw [if_pos (by omega), if_pos (by omega)]
  · by_cases h2 : k < (i + 1) * w
    · exact absurd (Nat.le_antisymm (Nat.lt_succ_iff.1 ((Nat.div_lt_iff_lt_mul hw).2 h2)) ((Nat.le_div_iff_mul_le hw).2 (by omega))) h
    · unfold lst
      rw [if_neg (by omega), if_neg (by omega), if_neg (by omega)]
      by_cases h3 : k ≤ (i + 1) * w
      · rw [if_pos h3]; omega
      · rw [if_neg h3]
theorem lst_lt {w i k : Nat} : lst w i k ≤ k := by
  unfold lst
  split
  · omega
  · split <;> omega
theorem G_ie_ok : ∀ (m w h i b l k0 : Int) (k : Ex → St → Bool), G_ie m w h i b l k0 k = true → AWq (cfg [S_itU]) (.loop (loopAt (fcode Tryd.prog 35) [0])) (I_ie m w h i b l k0) (fun e s => k e s = true) := by
  intro m w h i b l k0 k hG
  unfold G_ie at hG
  rcases of_cond2 hG with ⟨hok, hG2⟩ | ⟨_, hG2⟩
  case inr => cases hG2
  clear hG
  simp only [eOk, Bool.and_eq_true, decide_eq_true_eq] at hok
  obtain ⟨h0, h1, h2, h3, h4, h5, rfl, rfl⟩ := hok
  obtain ⟨W, rfl⟩ := Int.eq_ofNat_of_zero_le (show 0 ≤ w by omega)
  obtain ⟨I, rfl⟩ := Int.eq_ofNat_of_zero_le h2
  obtain ⟨B, rfl⟩ := Int.eq_ofNat_of_zero_le h4
  have hW : 0 < W := by omega
  have hc : lstI (W : Int) (I : Int) (B : Int) = ((lst W I B : Nat) : Int) := by unfold lstI; rw [Int.toNat_natCast, Int.toNat_natCast, Int.toNat_natCast]
  rw [hc] at hG2
  have z0 : lst W I 0 = 0 := by unfold lst; rw [if_pos (by omega)]
  rw [show I_ie m (W : Int) h (I : Int) (B : Int) 0 0 = I_ie m (W : Int) h (I : Int) (B : Int) ((lst W I 0 : Nat) : Int) ((0 : Nat) : Int) by rw [z0]; rfl]
  refine AWq.loop (K := fun e s => k e s = true) (fun j : { j : Nat // j ≤ B } => I_ie m (W : Int) h (I : Int) (B : Int) ((lst W I j.1 : Nat) : Int) ((j.1 : Nat) : Int)) (fun j => B - j.1) ?_ ⟨0, Nat.zero_le _⟩
  rintro ⟨j, hj⟩
  refine AWq.runK hN [0, 1, 2, 3, 9, 10, 11] (n := 100) fun k' hk => ?_
  refine (t_ieb m (W : Int) h (I : Int) (B : Int) ((lst W I j : Nat) : Int) ((j : Nat) : Int) k').trans ?_
  refine condI (fun hh => ?_) (fun hh => ?_)
  · have hlt : j < B := by have := of_decide_eq_true hh; omega
    have e1 : IntKind.wrap .i64 (((j : Nat) : Int) + 1) = ((j + 1 : Nat) : Int) := wS (a := j + 1) (by omega)
    have e2 : IntKind.wrap .i64 (Int.tdiv ((j : Nat) : Int) (W : Int)) = ((j / W : Nat) : Int) := by
      have : Int.tdiv ((j : Nat) : Int) (W : Int) = ((j / W : Nat) : Int) := rfl
      rw [this]
      exact wS (by have := Nat.div_le_self j W; omega)
    rw [decide_eq_false (show ¬ (W : Int) = 0 by omega), e1, e2]
    simp only [cond_false]
    refine condI (fun hd => ?_) (fun hd => ?_)
    · have hd : j / W = I := by have := of_decide_eq_true hd; omega
      have e3 := lst_in hd hW
      have := hk .normal (I_ie m (W : Int) h (I : Int) (B : Int) ((lst W I (j + 1) : Nat) : Int) ((j + 1 : Nat) : Int)) ⟨⟨j + 1, hlt⟩, by show B - (j + 1) < B - j; omega, Less.refl _⟩
      rw [e3] at this
      exact this
    · have hd : ¬ j / W = I := fun e => of_decide_eq_false hd (by omega)
      have e3 := lst_out hd hW
      have := hk .normal (I_ie m (W : Int) h (I : Int) (B : Int) ((lst W I (j + 1) : Nat) : Int) ((j + 1 : Nat) : Int)) ⟨⟨j + 1, hlt⟩, by show B - (j + 1) < B - j; omega, Less.refl _⟩
      rw [e3] at this
      exact this
  · have hje : j = B := by have := of_decide_eq_false hh; omega
    rw [← hje] at hG2
    exact hk (.exit 0) _ ⟨_, LessS.fill rfl (AllL_cons rfl AllL_nil) rfl rfl, hG2⟩
theorem ie_ok : LoopsOk (cfg [S_itU]) (loopsOf (fcode Tryd.prog 35)) [F_ie] := by
  rw [ie_loops]
  exact ⟨fun st k h => P_ie_ok G_ie_ok st k h, trivial⟩
/-- May an item be asked for the last one that it is for? -/
noncomputable def endOk (m w h i : Int) : Bool := itR m w h && (decide (1 ≤ m) && (decide (1 ≤ h) && (decide (0 ≤ i) && decide (i < f_up_0 m w h))))
theorem last_all : (List.range 32).all (fun m => (List.range 3).all fun w => (List.range 4).all fun h => (List.range 33).all fun i => cond (decide ((i : Int) < f_up_0 ((m + 1 : Nat) : Int) ((w + 2 : Nat) : Int) ((h + 1 : Nat) : Int))) (decide (lstI ((w + 2 : Nat) : Int) (i : Int) (f_up_0 ((m + 1 : Nat) : Int) ((w + 2 : Nat) : Int) (IntKind.wrap .i64 (((h + 1 : Nat) : Int) - 1))) = f_last_0 ((m + 1 : Nat) : Int) ((w + 2 : Nat) : Int) ((h + 1 : Nat) : Int) (i : Int)) && decide (f_last_1 ((m + 1 : Nat) : Int) ((w + 2 : Nat) : Int) ((h + 1 : Nat) : Int) (i : Int) = 0)) true) = true := by kernel_rfl
theorem last_is {m w h i : Int} (hp : endOk m w h i = true) : lstI w i (f_up_0 m w (IntKind.wrap .i64 (h - 1))) = f_last_0 m w h i ∧ f_last_1 m w h i = 0 := by
  have hp := hp
  unfold endOk at hp
  have hr := and_left hp
  have hu := up_it hr
  have h2 := and_right hp
  simp only [Bool.and_eq_true, decide_eq_true_eq] at h2
  obtain ⟨⟨a0, a1⟩, ⟨b0, b1⟩, c0, c1⟩ := itR_true.1 hr
  obtain ⟨m1, h1, i0, i1⟩ := h2
  obtain ⟨M, rfl⟩ : ∃ M : Nat, m = ((M + 1 : Nat) : Int) := ⟨(m - 1).toNat, by omega⟩
  obtain ⟨H, rfl⟩ : ∃ H : Nat, h = ((H + 1 : Nat) : Int) := ⟨(h - 1).toNat, by omega⟩
  obtain ⟨W, rfl⟩ : ∃ W : Nat, w = ((W + 2 : Nat) : Int) := ⟨(w - 2).toNat, by omega⟩
  obtain ⟨I, rfl⟩ := Int.eq_ofNat_of_zero_le i0
  have q := List.all_eq_true.1 (List.all_eq_true.1 (List.all_eq_true.1 (List.all_eq_true.1 last_all M (List.mem_range.2 (by omega))) W (List.mem_range.2 (by omega))) H (List.mem_range.2 (by omega))) I (List.mem_range.2 (by omega))
  simp only [decide_eq_true i1, cond_true] at q
  exact ⟨of_decide_eq_true (and_left q), of_decide_eq_true (and_right q)⟩
noncomputable def S_endR : Sum := (35, on4 (rI .i64) (rI .i64) (rI .i64) (rI .i64) (fun m w h i => endOk m w h i) (fun m w h i => .int .i64 (f_last_0 m w h i)))
theorem s_endR : SumOk Tryd.prog (gmap gs) S_endR := on4_sum fun m w h i hp => by
  have e := (last_is hp).1
  have hp' := hp
  unfold endOk at hp'
  have hr := and_left hp'
  have h2 := and_right hp'
  simp only [Bool.and_eq_true, decide_eq_true_eq] at h2
  have q := itR_true.1 hr
  have hu := up_it hr
  have ew : IntKind.wrap .i64 (h - 1) = h - 1 := wrap_eq (by simp [Lit.wf, IntKind.min, IntKind.max, IntKind.signed, IntKind.bits]; omega)
  have hr1 : itR m w (IntKind.wrap .i64 (h - 1)) = true := by rw [ew]; exact itR_true.2 ⟨q.1, q.2.1, by omega⟩
  have hu1 := up_it hr1
  have he : eOk w i (f_up_0 m w (IntKind.wrap .i64 (h - 1))) 0 0 = true := by
    unfold eOk
    simp only [Bool.and_eq_true, decide_eq_true_eq]
    refine ⟨by omega, by omega, by omega, by omega, by omega, by omega, ?_, ?_⟩ <;> first | rfl | trivial
  refine acalls_eqM base (sums_cons s_itU sums_nil) (n := 300) (fs := [F_ie]) (by kernel_rfl) ie_ok fun k hk => ?_
  refine (t_endr m w h i k).trans ?_
  rw [hr1, he, e]
  exact hk
end Go.Bas.BasAvIE2
end
section
namespace Go.Bas
open Go.RowKit
set_option linter.unusedSimpArgs false
set_option linter.unusedVariables false

/-- A block's number behind it was changed, and what it was. -/
noncomputable def renI (m : List (Nat × Nat)) (id : Nat) : Nat := List.rec (motive := fun _ => Nat) id (fun p _ ih => cond (Nat.beq p.1 id) p.2 ih) m
noncomputable def backI (m : List (Nat × Nat)) (id : Nat) : Nat := List.rec (motive := fun _ => Nat) id (fun p _ ih => cond (Nat.beq p.2 id) p.1 ih) m
noncomputable def okI (m : List (Nat × Nat)) (nx' id : Nat) : Bool := Nat.blt (renI m id) nx' && Nat.beq (backI m (renI m id)) id
/-- A value, its blocks under other numbers ('d': how deep it is looked into). -/
noncomputable def renV (m : List (Nat × Nat)) : Nat → AV → AV
  | 0, v => v
  | _ + 1, .ptr id o => .ptr (renI m id) o
  | _ + 1, .sl id a b c e => .sl (renI m id) a b c e
  | _ + 1, .yld id => .yld (renI m id)
  | _ + 1, .mp id => .mp (renI m id)
  | d + 1, .fn f a b => .fn f (a.map (renV m d)) (b.map (renV m d))
  | d + 1, .iface t v => .iface t (renV m d v)
  | d + 1, .agg cs => .agg (cs.map (renV m d))
  | d + 1, .tup cs => .tup (cs.map (renV m d))
  | _ + 1, v => v
noncomputable def okV (m : List (Nat × Nat)) (nx' : Nat) : Nat → AV → Bool
  | 0, _ => false
  | _ + 1, .ptr id _ => okI m nx' id
  | _ + 1, .sl id _ _ _ _ => okI m nx' id
  | _ + 1, .yld id => okI m nx' id
  | _ + 1, .mp id => okI m nx' id
  | d + 1, .fn _ a b => a.all (okV m nx' d) && b.all (okV m nx' d)
  | d + 1, .iface _ v => okV m nx' d v
  | d + 1, .agg cs => cs.all (okV m nx' d)
  | d + 1, .tup cs => cs.all (okV m nx' d)
  | _ + 1, _ => true
theorem okI_is {m : List (Nat × Nat)} {nx' id : Nat} (h : okI m nx' id = true) : renI m id < nx' ∧ backI m (renI m id) = id := by
  unfold okI at h
  rw [Bool.and_eq_true] at h
  exact ⟨blt_lt h.1, of_beq h.2⟩
theorem Rep.ren {w : World} {B own : Nat → Prop} {ω : Nat → Option Nat} {nx nx' : Nat} {m : List (Nat × Nat)} {v : AV} {u : Value} (h : Rep w B own ω nx v u) : ∀ {d : Nat}, okV m nx' d v = true → Rep w B own (fun id => ω (backI m id)) nx' (renV m d v) u := by
  have z : ∀ {v : AV} {u : Value}, Rep w B own ω 0 v u → Rep w B own (fun id => ω (backI m id)) 0 v u := fun h => h.mono (Nat.le_refl _) (fun _ _ hn hB => ⟨rfl, hn, hB⟩) (fun _ _ hi => absurd hi (Nat.not_lt_zero _)) (fun _ _ h => h)
  induction h with
  | any =>
    intro d hd
    cases d with
    | zero => cases hd
    | succ d => exact .any _ _
  | bool =>
    intro d hd
    cases d with
    | zero => cases hd
    | succ d => exact .bool _ _
  | int =>
    intro d hd
    cases d with
    | zero => cases hd
    | succ d => exact .int _ _ _
  | str =>
    intro d hd
    cases d with
    | zero => cases hd
    | succ d => exact .str _ _
  | nilp =>
    intro d hd
    cases d with
    | zero => cases hd
    | succ d => exact .nilp _
  | nils =>
    intro d hd
    cases d with
    | zero => cases hd
    | succ d => exact .nils _
  | lstn =>
    intro d hd
    cases d with
    | zero => cases hd
    | succ d => exact .lstn _ _ _
  | es nx a =>
    intro d hd
    cases d with
    | zero => cases hd
    | succ d => exact .es _ _
  | ns nx p c =>
    intro d hd
    cases d with
    | zero => cases hd
    | succ d => exact .ns _ _ _
  | nilfn =>
    intro d hd
    cases d with
    | zero => cases hd
    | succ d => exact .nilfn _
  | niliface =>
    intro d hd
    cases d with
    | zero => cases hd
    | succ d => exact .niliface _
  | iptr nx cells off b o vs hb hc hr _ =>
    intro d hd
    cases d with
    | zero => cases hd
    | succ d => exact .iptr _ _ _ b o vs hb hc (fun i hi => z (hr i hi))
  | lst nx cells n cap b o vs hb hn hc hr _ =>
    intro d hd
    cases d with
    | zero => cases hd
    | succ d => exact .lst _ _ _ _ b o vs hb hn hc (fun i hi => z (hr i hi))
  | ptr nx id off b hi hw =>
    intro d hd
    cases d with
    | zero => cases hd
    | succ d =>
      obtain ⟨h1, h2⟩ := okI_is (show okI m nx' id = true from hd)
      exact .ptr _ _ _ _ h1 (by show ω (backI m (renI m id)) = _; rw [h2]; exact hw)
  | sl nx id off n sz cap b hi hw hn =>
    intro d hd
    cases d with
    | zero => cases hd
    | succ d =>
      obtain ⟨h1, h2⟩ := okI_is (show okI m nx' id = true from hd)
      exact .sl _ _ _ _ _ _ _ h1 (by show ω (backI m (renI m id)) = _; rw [h2]; exact hw) hn
  | sla nx id n sz cap b hi hw hn hcm hrow =>
    intro d hd
    cases d with
    | zero => cases hd
    | succ d =>
      obtain ⟨h1, h2⟩ := okI_is (show okI m nx' id = true from hd)
      exact .sla _ _ _ _ _ _ h1 (by show ω (backI m (renI m id)) = _; rw [h2]; exact hw) hn hcm hrow
  | yld nx id l hi hw =>
    intro d hd
    cases d with
    | zero => cases hd
    | succ d =>
      obtain ⟨h1, h2⟩ := okI_is (show okI m nx' id = true from hd)
      exact .yld _ _ _ h1 (by show ω (backI m (renI m id)) = _; rw [h2]; exact hw)
  | mp nx id l hi hw =>
    intro d hd
    cases d with
    | zero => cases hd
    | succ d =>
      obtain ⟨h1, h2⟩ := okI_is (show okI m nx' id = true from hd)
      exact .mp _ _ _ h1 (by show ω (backI m (renI m id)) = _; rw [h2]; exact hw)
  | fn nx f first cap fs cs h1 h2 _ _ ih1 ih2 =>
    intro d hd
    cases d with
    | zero => cases hd
    | succ d =>
      have hd : (first.all (okV m nx' d) && cap.all (okV m nx' d)) = true := hd
      simp only [Bool.and_eq_true, List.all_eq_true] at hd
      refine .fn _ _ _ _ _ _ (by rw [List.length_map]; exact h1) (by rw [List.length_map]; exact h2) (fun i hi => ?_) (fun i hi => ?_)
      · rw [List.getElem_map]
        have hi' : i < first.length := by rwa [List.length_map] at hi
        exact ih1 i hi' (hd.1 _ (List.getElem_mem hi'))
      · rw [List.getElem_map]
        have hi' : i < cap.length := by rwa [List.length_map] at hi
        exact ih2 i hi' (hd.2 _ (List.getElem_mem hi'))
  | iface nx t v u _ ih =>
    intro d hd
    cases d with
    | zero => cases hd
    | succ d => exact .iface _ _ _ _ (ih hd)
  | agg nx cs vs h1 _ ih =>
    intro d hd
    cases d with
    | zero => cases hd
    | succ d =>
      have hd : cs.all (okV m nx' d) = true := hd
      rw [List.all_eq_true] at hd
      refine .agg _ _ _ (by rw [List.length_map]; exact h1) (fun i hi => ?_)
      rw [List.getElem_map]
      have hi' : i < cs.length := by rwa [List.length_map] at hi
      exact ih i hi' (hd _ (List.getElem_mem hi'))
  | tup nx cs vs h1 _ ih =>
    intro d hd
    cases d with
    | zero => cases hd
    | succ d =>
      have hd : cs.all (okV m nx' d) = true := hd
      rw [List.all_eq_true] at hd
      refine .tup _ _ _ (by rw [List.length_map]; exact h1) (fun i hi => ?_)
      rw [List.getElem_map]
      have hi' : i < cs.length := by rwa [List.length_map] at hi
      exact ih i hi' (hd _ (List.getElem_mem hi'))
/-- A block, its numbers changed; where it has none, it is left alone. -/
noncomputable def renB (m : List (Nat × Nat)) (b : HB) : HB := cond b.pure b ⟨b.cells.map (renV m 8), b.elem, false⟩
noncomputable def renH (m : List (Nat × Nat)) (h : Heap) : Heap := List.rec (motive := fun _ => Heap) [] (fun p _ ih => (renI m p.1, renB m p.2) :: ih) h
noncomputable def okHp (m : List (Nat × Nat)) (nx' : Nat) (h : Heap) : Bool := List.rec (motive := fun _ => Bool) true (fun p _ ih => okI m nx' p.1 && ((p.2.pure || p.2.cells.all (okV m nx' 8)) && ih)) h
theorem hget_ren {m : List (Nat × Nat)} {nx' : Nat} : ∀ {h : Heap} {id : Nat} {hb : HB}, okHp m nx' h = true → hget (renH m h) id = some hb → ∃ hb0, hget h (backI m id) = some hb0 ∧ hb = renB m hb0 ∧ renI m (backI m id) = id ∧ id < nx' ∧ (hb0.pure || hb0.cells.all (okV m nx' 8)) = true
  | [], id, hb, _, h => by cases h
  | p :: r, id, hb, ho, h => by
    have ho : (okI m nx' p.1 && ((p.2.pure || p.2.cells.all (okV m nx' 8)) && okHp m nx' r)) = true := ho
    rw [Bool.and_eq_true, Bool.and_eq_true] at ho
    obtain ⟨o1, o2, o3⟩ := ho
    obtain ⟨i1, i2⟩ := okI_is o1
    have h : cond (Nat.beq (renI m p.1) id) (some (renB m p.2)) (hget (renH m r) id) = some hb := h
    rw [hget_cons p.1 p.2 r]
    cases hc : Nat.beq (renI m p.1) id with
    | true =>
      rw [hc] at h
      have e := of_beq hc
      subst e
      rw [i2, Nat.beq_refl]
      exact ⟨p.2, rfl, (Option.some.inj h).symm, rfl, i1, o2⟩
    | false =>
      rw [hc] at h
      obtain ⟨hb0, g1, g2, g3, g4, g5⟩ := hget_ren o3 h
      cases hd : Nat.beq p.1 (backI m id) with
      | true =>
        exfalso
        have e := of_beq hd
        rw [e, g3, Nat.beq_refl] at hc
        cases hc
      | false => exact ⟨hb0, g1, g2, g3, g4, g5⟩
/-- A state, its blocks under other numbers. -/
noncomputable def renS (m : List (Nat × Nat)) (nx' : Nat) (st : St) : St := ⟨st.tmps.map (renV m 8), [], ⟨renH m st.m.heap, nx', []⟩⟩
noncomputable def okS (m : List (Nat × Nat)) (nx' : Nat) (st : St) : Bool := st.tmps.all (okV m nx' 8) && okHp m nx' st.m.heap
theorem Less.ren {C : Cfg} {st : St} (m : List (Nat × Nat)) (nx' : Nat) (hds : st.ds = []) (hlp : st.m.lp = []) (hok : okS m nx' st = true) : Less C st (renS m nx' st) := fun w B oC oL ω a S => by
  unfold okS at hok
  rw [Bool.and_eq_true] at hok
  obtain ⟨ht, hh⟩ := hok
  rw [List.all_eq_true] at ht
  refine ⟨fun id => ω (backI m id), ⟨by show (st.tmps.map _).length = _; rw [List.length_map]; exact S.tm.1, fun i hi => ?_⟩, ?_, ⟨⟨fun id hb h => ?_, fun i j b h1 h2 e1 e2 => ?_, S.ms.hp.ob⟩, ⟨fun id e h => (by cases h), fun i j l h => (by cases h), S.ms.lp.dis⟩, S.ms.gl, S.ms.gb, S.ms.bl⟩⟩
  · have hi0 : i < (st.tmps.map (renV m 8)).length := hi
    have hi' : i < st.tmps.length := by rwa [List.length_map] at hi0
    have := (S.tm.2 i hi').ren (m := m) (nx' := nx') (d := 8) (ht _ (List.getElem_mem hi'))
    show Rep w (Or2 B oL) oC _ nx' (st.tmps.map (renV m 8))[i] _
    rw [List.getElem_map]
    exact this
  · have := S.dn
    rw [hds] at this
    show Marks _ nx' [] a.defers
    cases hq : a.defers with
    | nil => exact trivial
    | cons x xs => rw [hq] at this; exact this.elim
  · obtain ⟨hb0, g1, g2, g3, g4, g5⟩ := hget_ren hh h
    obtain ⟨q1, b, arr, q2, q3, q4, q5, q6⟩ := S.ms.hp.rel _ hb0 g1
    subst g2
    cases hp : hb0.pure with
    | true =>
      have e : renB m hb0 = hb0 := by unfold renB; rw [hp]; rfl
      rw [e]
      refine ⟨g4, b, arr, q2, q3, q4, q5, fun i hi => ?_⟩
      have := q6 i hi
      rw [hp] at this ⊢
      exact this.mono (Nat.le_refl _) (fun _ _ hn hB => ⟨rfl, hn, hB⟩) (fun _ _ hi => absurd hi (Nat.not_lt_zero _)) (fun _ _ h => h)
    | false =>
      have e : renB m hb0 = ⟨hb0.cells.map (renV m 8), hb0.elem, false⟩ := by unfold renB; rw [hp]; rfl
      rw [e]
      rw [hp, Bool.false_or, List.all_eq_true] at g5
      refine ⟨g4, b, arr, q2, q3, q4, (by show (hb0.cells.map _).length ≤ _; rw [List.length_map]; exact q5), fun i hi => ?_⟩
      have hi0 : i < (hb0.cells.map (renV m 8)).length := hi
      have hi' : i < hb0.cells.length := by rwa [List.length_map] at hi0
      have := q6 i hi'
      rw [hp] at this
      show Rep w (Or2 B oL) oC _ nx' (hb0.cells.map (renV m 8))[i] _
      rw [List.getElem_map]
      exact this.ren (g5 _ (List.getElem_mem hi'))
  · obtain ⟨x1, f1⟩ := Option.isSome_iff_exists.1 h1
    obtain ⟨x2, f2⟩ := Option.isSome_iff_exists.1 h2
    obtain ⟨y1, a1, _, a2, _⟩ := hget_ren hh f1
    obtain ⟨y2, b1, _, b2, _⟩ := hget_ren hh f2
    have := S.ms.hp.inj _ _ b (by rw [a1]; rfl) (by rw [b1]; rfl) e1 e2
    rw [← a2, ← b2, this]
end Go.Bas
end
section
namespace Go.Bas
open Go.RowKit
set_option linter.unusedSimpArgs false
set_option linter.unusedVariables false
noncomputable def memL (i : Nat) (l : List Nat) : Bool := List.rec (motive := fun _ => Bool) false (fun j _ ih => cond (Nat.beq i j) true ih) l
noncomputable def hkeep (ids : List Nat) (h : Heap) : Heap := List.rec (motive := fun _ => Heap) [] (fun p _ ih => cond (memL p.1 ids) (p :: ih) ih) h
theorem hget_hkeep (ids : List Nat) (id : Nat) (hb : HB) : ∀ h : Heap, hget (hkeep ids h) id = some hb → memL id ids = true ∧ hget h id = some hb
  | [], h => by cases h
  | p :: r, h => by
    have e : hkeep ids (p :: r) = cond (memL p.1 ids) (p :: hkeep ids r) (hkeep ids r) := rfl
    rw [e] at h
    rw [hget_cons p.1 p.2 r]
    cases h1 : memL p.1 ids with
    | true =>
      rw [h1] at h
      have h : cond (Nat.beq p.1 id) (some p.2) (hget (hkeep ids r) id) = some hb := h
      cases h2 : Nat.beq p.1 id with
      | true =>
        rw [h2] at h
        exact ⟨of_beq h2 ▸ h1, h⟩
      | false =>
        rw [h2] at h
        exact hget_hkeep ids id hb r h
    | false =>
      rw [h1] at h
      obtain ⟨a, b⟩ := hget_hkeep ids id hb r h
      cases h2 : Nat.beq p.1 id with
      | true =>
        have := of_beq h2
        subst this
        rw [h1] at a; cases a
      | false => exact ⟨a, b⟩
/-- The named blocks alone. -/
noncomputable def keepH (ids : List Nat) (st : St) : St := ⟨st.tmps, st.ds, ⟨hkeep ids st.m.heap, st.m.nx, st.m.lp⟩⟩
section
variable {C : Cfg} {K : Ex → St → Prop} {st : St} {inr : Option Nat} {body : Code}
theorem LessS.keepH (ids : List Nat) (st : St) : LessS C st (Bas.keepH ids st) := ⟨rfl, fun w B oC oL ω a S => by
  refine ⟨S.tm, S.dn, ⟨⟨fun id hb h => ?_, fun i j b h1 h2 => ?_, S.ms.hp.ob⟩, S.ms.lp, S.ms.gl, S.ms.gb, S.ms.bl⟩⟩
  · exact S.ms.hp.rel id hb (hget_hkeep ids id hb _ h).2
  · obtain ⟨x1, e1⟩ := Option.isSome_iff_exists.1 h1
    obtain ⟨x2, e2⟩ := Option.isSome_iff_exists.1 h2
    have e1 := (hget_hkeep ids i x1 _ e1).2
    have e2 := (hget_hkeep ids j x2 _ e2).2
    exact S.ms.hp.inj i j b (by rw [e1]; rfl) (by rw [e2]; rfl)⟩
theorem LessS.trans' {st st1 st2 : St} (h : LessS C st st1) (h' : LessS C st1 st2) : LessS C st st2 := ⟨h'.1.trans h.1, fun w B oC oL ω a S => h'.2 _ _ _ _ _ _ (h.2 _ _ _ _ _ _ S)⟩
/-- What is kept at a round's end: the named temporaries and the named blocks. -/
noncomputable def keepSH (ls ids : List Nat) (st : St) : St := Bas.keepH ids (keepS ls st)
theorem LessS.keepSH (ls ids : List Nat) (st : St) : LessS C st (Bas.keepSH ls ids st) := (LessS.keep ls st).trans' (LessS.keepH ids _)
end
end Go.Bas
end
section
namespace Go.Bas
open Go.RowKit
set_option linter.unusedSimpArgs false
set_option linter.unusedVariables false
noncomputable def onP (P : Prop) : Bool := @decide P (Classical.propDecidable _)
theorem of_onP {P : Prop} (h : onP P = true) : P := @of_decide_eq_true _ (Classical.propDecidable _) h
theorem onP_true {P : Prop} (h : P) : onP P = true := @decide_eq_true _ (Classical.propDecidable _) h
section
variable {C : Cfg} {K : Ex → St → Prop} {st : St} {c body : Code} {n : Nat} {ls ids : List Nat} {e0 x : Ex} {E S0 : St}
theorem awp_run (hC : C.Ok) (h : ∀ k : Ex → St → Bool, run C n none none c st (fun e s => k e (keepSH ls ids s)) false = k e0 E) : AWp C none c st (fun e s => e = e0 ∧ LessS C s E) := by
  classical
  have h1 := (h (fun e s => decide (e = e0 ∧ s = E))).trans (decide_eq_true ⟨rfl, rfl⟩)
  refine AWp.mono (fun e s he => ?_) (fun w B oC oL ω a Q ro S hI hQ => (run_sound hC n).1 none c st _ w B oC oL ω a Q ro h1 S hI hQ)
  obtain ⟨h2, h3⟩ := of_decide_eq_true he
  exact ⟨h2, h3 ▸ LessS.keepSH ls ids s⟩
theorem AWr.last (hC : C.Ok) (h : ∀ k : Ex → St → Bool, run C n none none body S0 (fun e s => k e (Bas.keepSH ls ids s)) false = k x E) (hx : x ≠ .normal) (hK : K x E) : AWr C none body S0 K := by
  refine AWr.step ((awp_run hC h).post fun e s ⟨h1, h2⟩ => ⟨E, h2, ?_⟩)
  subst h1
  cases e with
  | normal => exact absurd rfl hx
  | exit id => exact hK
  | goto l => exact hK
  | ret => exact hK
  | panic v => exact hK
end
end Go.Bas
end
section
namespace Go.Bas
open Go.RowKit
set_option linter.unusedSimpArgs false
set_option linter.unusedVariables false
section
variable {C : Cfg} {st : St} {c body : Code} {n : Nat} {K : Ex → St → Bool} {g : St → St}
theorem awq_gM (hC : C.Ok) {l : List LF} (hl : LoopsOk C (loopsOf c) l) (ht : runM C n c l st (fun e s => K e (g s)) = true) : AWq C c st (fun e s => K e (g s) = true) := by
  have := runA_sound hC (mkA c l) st _ (mkA_ok c l hl) ht
  rw [mkA_code] at this
  exact this
/-- What a round must come to. -/
def RndG (C : Cfg) {ι : Type} (I : ι → St) (μ : ι → Nat) (KK : Ex → St → Prop) (i : ι) (e : Ex) (s : St) : Prop := (e = .normal ∧ ∃ j, μ j < μ i ∧ Less C s (I j)) ∨ (e ≠ .normal ∧ KK e s)
theorem awq_loopF (hC : C.Ok) {ι : Type} (I : ι → St) (μ : ι → Nat) {l : ι → List LF} {KK : Ex → St → Prop} (hl : ∀ i, LoopsOk C (loopsOf body) (l i)) (hg : ∀ s, LessS C s (g s))
    (h : ∀ i, runM C n body (l i) (I i) (fun e s => onP (RndG C I μ KK i e (g s))) = true) (i : ι) : AWq C (.loop body) (I i) KK := by
  refine AWq.loop I μ (fun i => ?_) i
  refine (awq_gM hC (K := fun e s => onP (RndG C I μ KK i e s)) (hl i) (h i)).mono fun e s he => ?_
  rcases of_onP he with ⟨rfl, j, h1, h2⟩ | ⟨h1, h2⟩
  · refine ⟨j, h1, Less.trans (fun w B oC oL ω a S => ⟨ω, (hg s).2 w B oC oL ω a S⟩) h2⟩
  · cases e with
    | normal => exact absurd rfl h1
    | exit id => exact ⟨g s, hg s, h2⟩
    | goto l => exact ⟨g s, hg s, h2⟩
    | ret => exact ⟨g s, hg s, h2⟩
    | panic v => exact ⟨g s, hg s, h2⟩
theorem awq_loopK (hC : C.Ok) {ι : Type} (I : ι → St) (μ : ι → Nat) {l : ι → List LF} {KK : Ex → St → Prop} (hl : ∀ i, LoopsOk C (loopsOf body) (l i)) (hg : ∀ s, LessS C s (g s))
    (h : ∀ (i : ι) (K : Ex → St → Bool), (∀ e s, RndG C I μ KK i e s → K e s = true) → runM C n body (l i) (I i) (fun e s => K e (g s)) = true) (i : ι) : AWq C (.loop body) (I i) KK :=
  awq_loopF hC I μ hl hg (fun i => h i (fun e s => onP (RndG C I μ KK i e s)) (fun e s hh => onP_true hh)) i
/-- A loop that is known where the state is one. -/
theorem lf_ok {st0 E : St} {e0 : Ex} {g : St → St} (hg : ∀ s, LessS C s (g s)) (h : ∀ KK : Ex → St → Prop, KK e0 E → AWq C c st0 KK) : ∀ (st : St) (k : Ex → St → Bool), (cond (onP (g st = st0)) (k e0 E) false) = true → AWq C c st (fun e s => k e s = true) := fun st k hk => by
  obtain ⟨h1, h2⟩ := of_cond hk
  have e := of_onP h1
  refine AWq.less (fun w B oC oL ω a S => ⟨ω, (hg st).2 w B oC oL ω a S⟩) ?_
  rw [e]
  exact h _ h2
end
end Go.Bas
end
section
namespace Go.Bas.BasAvR1
open Go.RowKit Go.Proofs
open Go.Bas.BasZBase
set_option maxRecDepth 100000
set_option maxHeartbeats 4000000
set_option linter.unusedVariables false
set_option linter.unusedSimpArgs false
/-! What the cells are. -/
/-- A list of cells, their numbers known asv such. -/
def CL (us : List AV) (m : Nat) : Prop := us.length = m * 4 ∧ m ≤ 1000 ∧ ∀ j, j < us.length → AV.isI .u64 (lget us j) = true ∧ 0 ≤ (lget us j).toI
noncomputable def cA (us : List AV) (i : Nat) : Int := (lget us (i * 4 + 1)).toI
noncomputable def cB (us : List AV) (i : Nat) : Int := (lget us (i * 4 + 2)).toI
noncomputable def cC (us : List AV) (i : Nat) : Int := (lget us (i * 4 + 3)).toI
/-- The first node up from one that is not below another. -/
def anc (n u : Nat) : Nat := if h : n < u then anc n (u / 2) else u
termination_by u
decreasing_by omega
/-- How many nodes from one on, so many, are below it and have something. -/
noncomputable def cnt (us : List AV) (n : Nat) : Nat → Nat
  | 0 => 0
  | j + 1 => cnt us n j + (cond (decide (anc n (n + j) = n) && !decide (cA us (n + j) = 0)) 1 0)
theorem cnt_le (us : List AV) (n : Nat) : ∀ j, cnt us n j ≤ j
  | 0 => Nat.le_refl _
  | j + 1 => by
    have := cnt_le us n j
    unfold cnt
    cases (decide (anc n (n + j) = n) && !decide (cA us (n + j) = 0)) <;> simp only [cond_true, cond_false] <;> omega
noncomputable abbrev rowA (us : List AV) (n : Nat) : List AV := [.int .u64 (IntKind.wrap .u64 (n : Int)), .int .u64 (IntKind.wrap .u64 (cA us n - 1))]
/-- A row behind rows. -/
noncomputable def apR : Option (List AV × Nat) → List AV → Option (List AV × Nat)
  | none, x => some (x, 1)
  | some p, x => some (p.1.take (p.2 * 2) ++ x, p.2 + 1)
/-- The rows of the nodes below one. -/
noncomputable def rws (us : List AV) : Nat → Option (List AV × Nat)
  | 0 => none
  | n + 1 => cond (decide (1 ≤ n) && !decide (cA us n = 0)) (apR (rws us n) (rowA us n)) (rws us n)
/-- A node that may not be. -/
def Bad (us : List AV) (m n : Nat) : Prop := cA us n > 2147483648 ∨ cB us n ≠ (cnt us n (m - n) : Int) ∨ cC us n ≠ 0
/-! The code. -/
noncomputable abbrev cR : Cfg := cfg []
theorem hC : cR.Ok := cfg_ok base sums_nil
noncomputable abbrev code : Code := fcode Tryd.prog 18
noncomputable abbrev body0 : Code := loopAt code [0]
noncomputable abbrev body2 : Code := loopAt code [0, 0]
noncomputable abbrev body4 : Code := loopAt code [0, 0, 0]
noncomputable def rwV : Option (List AV × Nat) → AV
  | none => .nils
  | some p => .sl 1 0 p.2 2 true
noncomputable def rwH : Option (List AV × Nat) → Heap
  | none => []
  | some p => [(1, ⟨p.1, 47, true⟩)]
noncomputable def hd4 (us : List AV) (m : Nat) (r : Option (List AV × Nat)) (n many k u : Int) : St := ⟨[.any, .lst us m, .any, .any, .any, .any, rwV r, .int .i64 n, .int .u64 many, .int .i64 k, .int .i64 u, .any, .any, .any, .any, .any, .any, .any, .any, .any, .any, .any, .any, .any, .any, .any, .any, .any, .any, .any, .any, .any, .any, .any, .any, .any, .any, .any, .any, .any, .any, .any, .any, .any, .any, .any, .any, .any, .any, .any, .any, .any, .any, .any, .any, .any, .any, .any, .any, .any, .any, .any, .any, .any, .any, .any, .any, .any, .any, .any, .any, .any, .any, .any, .any, .any, .any, .any, .any, .any, .any, .any, .any, .any, .any, .any, .any, .any, .any, .any, .any, .any, .any, .any, .any, .any, .any, .any, .any, .any], [], ⟨rwH r, 2, []⟩⟩
noncomputable def hd2 (us : List AV) (m : Nat) (r : Option (List AV × Nat)) (n many k : Int) : St := ⟨[.any, .lst us m, .any, .any, .any, .any, rwV r, .int .i64 n, .int .u64 many, .int .i64 k, .any, .any, .any, .any, .any, .any, .any, .any, .any, .any, .any, .any, .any, .any, .any, .any, .any, .any, .any, .any, .any, .any, .any, .any, .any, .any, .any, .any, .any, .any, .any, .any, .any, .any, .any, .any, .any, .any, .any, .any, .any, .any, .any, .any, .any, .any, .any, .any, .any, .any, .any, .any, .any, .any, .any, .any, .any, .any, .any, .any, .any, .any, .any, .any, .any, .any, .any, .any, .any, .any, .any, .any, .any, .any, .any, .any, .any, .any, .any, .any, .any, .any, .any, .any, .any, .any, .any, .any, .any, .any], [], ⟨rwH r, 2, []⟩⟩
noncomputable def hd0 (us : List AV) (m : Nat) (r : Option (List AV × Nat)) (n : Int) : St := ⟨[.any, .lst us m, .any, .any, .any, .any, rwV r, .int .i64 n, .any, .any, .any, .any, .any, .any, .any, .any, .any, .any, .any, .any, .any, .any, .any, .any, .any, .any, .any, .any, .any, .any, .any, .any, .any, .any, .any, .any, .any, .any, .any, .any, .any, .any, .any, .any, .any, .any, .any, .any, .any, .any, .any, .any, .any, .any, .any, .any, .any, .any, .any, .any, .any, .any, .any, .any, .any, .any, .any, .any, .any, .any, .any, .any, .any, .any, .any, .any, .any, .any, .any, .any, .any, .any, .any, .any, .any, .any, .any, .any, .any, .any, .any, .any, .any, .any, .any, .any, .any, .any, .any, .any], [], ⟨rwH r, 2, []⟩⟩
noncomputable def hdB (us : List AV) (m : Nat) (r : Option (List AV × Nat)) (n : Int) : St := ⟨[.any, .lst us m, .any, .any, .nils, .bool false, rwV r, .int .i64 n, .any, .any, .any, .any, .any, .any, .any, .any, .any, .any, .any, .any, .any, .any, .any, .any, .any, .any, .any, .any, .any, .any, .any, .any, .any, .any, .any, .any, .any, .any, .any, .any, .any, .any, .any, .any, .any, .any, .any, .any, .any, .any, .any, .any, .any, .any, .any, .any, .any, .any, .any, .any, .any, .any, .any, .any, .any, .any, .any, .any, .any, .any, .any, .any, .any, .any, .any, .any, .any, .any, .any, .any, .any, .any, .any, .any, .any, .any, .any, .any, .any, .any, .any, .any, .any, .any, .any, .any, .any, .any, .any, .any], [], ⟨rwH r, 2, []⟩⟩
noncomputable def hdX (us : List AV) (m : Nat) (cs : List AV) (q : Nat) (n : Int) : St := ⟨[.any, .lst us m, .any, .any, .any, .any, .sl 3 0 q 2 true, .int .i64 n, .any, .any, .any, .any, .any, .any, .any, .any, .any, .any, .any, .any, .any, .any, .any, .any, .any, .any, .any, .any, .any, .any, .any, .any, .any, .any, .any, .any, .any, .any, .any, .any, .any, .any, .any, .any, .any, .any, .any, .any, .any, .any, .any, .any, .any, .any, .any, .any, .any, .any, .any, .any, .any, .any, .any, .any, .any, .any, .any, .any, .any, .any, .any, .any, .any, .any, .any, .any, .any, .any, .any, .any, .any, .any, .any, .any, .any, .any, .any, .any, .any, .any, .any, .any, .any, .any, .any, .any, .any, .any, .any, .any], [], ⟨[(3, ⟨cs, 47, true⟩)], 4, []⟩⟩
noncomputable def F4 (us : List AV) (m : Nat) (r : Option (List AV × Nat)) (n many k v : Int) : LF := fun st K => cond (onP (keepSH [1, 6, 7, 8, 9, 10] [1] st = hd4 us m r n many k k)) (K (.exit 4) (hd4 us m r n many k v)) false
noncomputable def F2 (us : List AV) (m : Nat) (r : Option (List AV × Nat)) (n v : Int) : LF := fun st K => cond (onP (keepSH [1, 6, 7, 8, 9] [1] st = hd2 us m r n 0 n)) (K (.exit 2) (hd2 us m r n v (Int.ofNat m))) false
theorem t_b4 (us : List AV) (m : Nat) (r : Option (List AV × Nat)) (n many k u : Int) (K : Ex → St → Bool) : runM cR 300 body4 [] (hd4 us m r n many k u) (fun e s => K e (keepSH [1, 6, 7, 8, 9, 10] [1] s)) =
    br (decide (u > n)) (K .normal (hd4 us m r n many k (IntKind.wrap .i64 (Int.tdiv u 2)))) (K (.exit 4) (hd4 us m r n many k u)) := by
  cases r with
  | none => kernel_rfl
  | some p => obtain ⟨a, b⟩ := p; kernel_rfl
/-- The word of a cell, and what is asked of it. -/
noncomputable def ldC (us : List AV) (m : Nat) (i : Int) (w : Nat) (x : Bool) : Bool := ba (inside i m && Nat.beq (List.length us) (m * 4)) (ba (Nat.ble (i.toNat * 4 + w + 1) (List.length us)) (ba (AV.isI .u64 (lget us (i.toNat * 4 + w))) x))
theorem ldC_ok {us : List AV} {m : Nat} (hc : CL us m) {i : Nat} (hi : i < m) {w : Nat} (hw : w < 4) {x : Bool} (hx : x = true) : ldC us m (i : Int) w x = true := by
  have e : ((i : Nat) : Int).toNat = i := rfl
  refine band ?_ (band (Nat.ble_eq_true_of_le (by rw [hc.1, e]; omega)) (band (hc.2.2 _ (by rw [hc.1, e]; omega)).1 hx))
  rw [hc.1]
  simp only [inside, Bool.and_eq_true, decide_eq_true_eq]
  exact ⟨⟨Int.natCast_nonneg _, by omega⟩, Nat.beq_refl _⟩
theorem t_b2 (us : List AV) (m : Nat) (r : Option (List AV × Nat)) (n many k v : Int) (K : Ex → St → Bool) : runM cR 300 body2 [F4 us m r n many k v] (hd2 us m r n many k) (fun e s => K e (keepSH [1, 6, 7, 8, 9] [1] s)) =
    br (decide (k < Int.ofNat m)) (ba (onP (hd4 us m r n many k k = hd4 us m r n many k k)) (br (decide (v = n)) (ldC us m k 1 (br (!decide ((lget us (k.toNat * 4 + 1)).toI = 0)) (K .normal (hd2 us m r n (IntKind.wrap .u64 (many + 1)) (IntKind.wrap .i64 (k + 1)))) (K .normal (hd2 us m r n many (IntKind.wrap .i64 (k + 1))))))
      (K .normal (hd2 us m r n many (IntKind.wrap .i64 (k + 1)))))) (K (.exit 2) (hd2 us m r n many k)) := by
  cases r with
  | none => kernel_rfl
  | some p => obtain ⟨a, b⟩ := p; kernel_rfl
noncomputable def apC : Option (List AV × Nat) → Bool → Bool
  | none, x => x
  | some p, x => ba (Nat.ble (p.2 * 2) p.1.length && (Nat.ble (p.2 + 1) 9223372036854775807 && Nat.ble ((p.2 + 1) * 16) 140737488355328)) x
noncomputable def apCs : Option (List AV × Nat) → List AV → List AV
  | none, x => x
  | some p, x => p.1.take (p.2 * 2) ++ x
noncomputable def apQ : Option (List AV × Nat) → Nat
  | none => 1
  | some p => p.2 + 1
theorem apR_is (r : Option (List AV × Nat)) (x : List AV) : apR r x = some (apCs r x, apQ r) := by cases r <;> rfl
theorem t_b0 (us : List AV) (m : Nat) (r : Option (List AV × Nat)) (n v : Int) (K : Ex → St → Bool) : runM cR 300 body0 [F2 us m r n v] (hd0 us m r n) (fun e s => K e (keepSH [1, 4, 5, 6, 7] [1, 3] s)) =
    br (decide (n < Int.ofNat m)) (ba (onP (hd2 us m r n 0 n = hd2 us m r n 0 n)) (ldC us m n 1 (br (decide ((lget us (n.toNat * 4 + 1)).toI > 2147483648)) (K .ret (hdB us m r n))
      (ldC us m n 2 (br (!decide ((lget us (n.toNat * 4 + 2)).toI = v)) (K .ret (hdB us m r n))
      (ldC us m n 3 (br (!decide ((lget us (n.toNat * 4 + 3)).toI = 0)) (K .ret (hdB us m r n))
      (ldC us m n 1 (br (!decide ((lget us (n.toNat * 4 + 1)).toI = 0)) (ldC us m n 1 (apC r (K .normal (hdX us m (apCs r [.int .u64 (IntKind.wrap .u64 n), .int .u64 (IntKind.wrap .u64 ((lget us (n.toNat * 4 + 1)).toI - 1))]) (apQ r) (IntKind.wrap .i64 (n + 1)))))) (K .normal (hd0 us m r (IntKind.wrap .i64 (n + 1)))))))))))))
    (K (.exit 0) (hd0 us m r n)) := by
  cases r with
  | none => kernel_rfl
  | some p => obtain ⟨a, b⟩ := p; kernel_rfl
end Go.Bas.BasAvR1
end
section
namespace Go.Bas.BasAvR2
open Go.RowKit Go.Proofs
open Go.Bas.BasZBase Go.Bas.BasAvR1
set_option maxRecDepth 100000
set_option maxHeartbeats 4000000
set_option linter.unusedVariables false
set_option linter.unusedSimpArgs false
theorem wI {i : Int} (h0 : 0 ≤ i) (h : i ≤ 1000000) : IntKind.wrap .i64 i = i := by
  simp only [IntKind.wrap, IntKind.signed, IntKind.bits]
  (try simp) <;> omega
theorem wU {i : Int} (h0 : 0 ≤ i) (h : i ≤ 1000000) : IntKind.wrap .u64 i = i := by
  simp only [IntKind.wrap, IntKind.signed, IntKind.bits]
  (try simp) <;> omega
theorem l4 : loopsOf body4 = [] := by kernel_rfl
theorem l2 : loopsOf body2 = [.loop body4] := by kernel_rfl
theorem l0 : loopsOf body0 = [.loop body2] := by kernel_rfl
section
variable {us : List AV} {m : Nat} {r : Option (List AV × Nat)}
theorem anc_up {n v : Nat} (h : n < v) : anc n v = anc n (v / 2) := by rw [anc, dif_pos h]
theorem anc_is {n v : Nat} (h : ¬ n < v) : anc n v = v := by rw [anc, dif_neg h]
/-- The way up. -/
theorem z4 {n u : Nat} {many k : Int} (hu : u ≤ 1000) {KK : Ex → St → Prop} (hK : KK (.exit 4) (hd4 us m r (n : Int) many k ((anc n u : Nat) : Int))) : AWq cR (.loop body4) (hd4 us m r (n : Int) many k (u : Int)) KK := by
  refine awq_loopK hC (ι := { v : Nat // v ≤ 1000 ∧ anc n v = anc n u }) (fun v => hd4 us m r (n : Int) many k (v.1 : Int)) (fun v => v.1) (n := 300) (l := fun _ => []) (g := keepSH [1, 6, 7, 8, 9, 10] [1]) (fun _ => by rw [l4]; exact trivial) (fun s => LessS.keepSH _ _ s) ?_ ⟨u, hu, rfl⟩
  rintro ⟨v, hv, ha⟩ K hk
  refine (t_b4 us m r n many k v K).trans (bdt (fun h => hk _ _ ?_) (fun h => hk _ _ ?_))
  · have h := of_decide_eq_true h
    have h' : n < v := by omega
    have e : IntKind.wrap .i64 (Int.tdiv (v : Int) 2) = ((v / 2 : Nat) : Int) := by
      rw [show Int.tdiv (v : Int) 2 = ((v / 2 : Nat) : Int) from rfl, wI (by omega) (by omega)]
    refine .inl ⟨rfl, ⟨v / 2, by omega, (anc_up h').symm.trans ha⟩, by show v / 2 < v; omega, ?_⟩
    rw [e]
    exact Less.refl _
  · have h := of_decide_eq_false h
    have h' : ¬ n < v := by omega
    refine .inr ⟨fun hh => (by cases hh), ?_⟩
    rw [← ha, anc_is h'] at hK
    exact hK
theorem cnt_1 {n j : Nat} (h1 : anc n (n + j) = n) (h2 : cA us (n + j) ≠ 0) : cnt us n (j + 1) = cnt us n j + 1 := by
  show cnt us n j + cond (decide (anc n (n + j) = n) && !decide (cA us (n + j) = 0)) 1 0 = _
  rw [decide_eq_true h1, decide_eq_false h2]
  rfl
theorem cnt_0 {n j : Nat} (h : ¬ (anc n (n + j) = n ∧ cA us (n + j) ≠ 0)) : cnt us n (j + 1) = cnt us n j := by
  show cnt us n j + cond (decide (anc n (n + j) = n) && !decide (cA us (n + j) = 0)) 1 0 = _
  by_cases h1 : anc n (n + j) = n
  · have h2 : cA us (n + j) = 0 := by
      by_cases h2 : cA us (n + j) = 0
      · exact h2
      · exact absurd ⟨h1, h2⟩ h
    rw [decide_eq_true h1, decide_eq_true h2]
    rfl
  · rw [decide_eq_false h1]
    rfl
/-- How many there are below. -/
theorem z2 {n : Nat} (hc : CL us m) (hn : n ≤ m) {KK : Ex → St → Prop} (hK : KK (.exit 2) (hd2 us m r (n : Int) ((cnt us n (m - n) : Nat) : Int) (Int.ofNat m))) : AWq cR (.loop body2) (hd2 us m r (n : Int) 0 (n : Int)) KK := by
  have hm := hc.2.1
  refine awq_loopK hC (ι := { j : Nat // n + j ≤ m }) (fun j => hd2 us m r (n : Int) ((cnt us n j.1 : Nat) : Int) ((n + j.1 : Nat) : Int)) (fun j => m - j.1) (n := 300) (l := fun j => [F4 us m r (n : Int) ((cnt us n j.1 : Nat) : Int) ((n + j.1 : Nat) : Int) ((anc n (n + j.1) : Nat) : Int)]) (g := keepSH [1, 6, 7, 8, 9] [1]) (fun j => ?_) (fun s => LessS.keepSH _ _ s) ?_ ⟨0, by omega⟩
  · rw [l2]
    exact ⟨lf_ok (g := keepSH [1, 6, 7, 8, 9, 10] [1]) (fun s => LessS.keepSH _ _ s) (fun KK h => z4 (by have := j.2; omega) h), trivial⟩
  · rintro ⟨j, hj⟩ K hk
    have hle := cnt_le us n j
    have hw : ((n + j : Nat) : Int).toNat = n + j := rfl
    have e1 : IntKind.wrap .i64 (((n + j : Nat) : Int) + 1) = ((n + (j + 1) : Nat) : Int) := by
      rw [wI (by omega) (by omega)]
      omega
    have nx : ∀ (a : Int), n + j < m → a = ((cnt us n (j + 1) : Nat) : Int) → RndG cR (fun j : { j : Nat // n + j ≤ m } => hd2 us m r (n : Int) ((cnt us n j.1 : Nat) : Int) ((n + j.1 : Nat) : Int)) (fun j => m - j.1) KK ⟨j, hj⟩ .normal (hd2 us m r (n : Int) a (IntKind.wrap .i64 (((n + j : Nat) : Int) + 1))) := fun a h ha => by
      rw [e1, ha]
      exact .inl ⟨rfl, ⟨j + 1, by omega⟩, by show m - (j + 1) < m - j; omega, Less.refl _⟩
    refine (t_b2 us m r n _ _ _ K).trans (bdt (fun h => ?_) (fun h => hk _ _ ?_))
    · have h : ((n + j : Nat) : Int) < Int.ofNat m := of_decide_eq_true h
      have e : (Int.ofNat m : Int) = (m : Int) := rfl
      have h' : n + j < m := by omega
      refine band (onP_true rfl) (bdt (fun ha => ?_) (fun ha => hk _ _ (nx _ h' ?_)))
      · have ha : ((anc n (n + j) : Nat) : Int) = (n : Int) := of_decide_eq_true ha
        have ha : anc n (n + j) = n := by omega
        refine ldC_ok hc h' (by decide) ?_
        rw [hw]
        refine bdt (fun hz => hk _ _ (nx _ h' ?_)) (fun hz => hk _ _ (nx _ h' ?_))
        · have hz : cA us (n + j) ≠ 0 := by
            intro hh
            rw [show (lget us ((n + j) * 4 + 1)).toI = 0 from hh] at hz
            cases hz
          show IntKind.wrap .u64 (((cnt us n j : Nat) : Int) + 1) = _
          rw [cnt_1 ha hz, wU (by omega) (by omega)]
          omega
        · have hz1 : (lget us ((n + j) * 4 + 1)).toI = 0 := by simpa using hz
          have hz : cA us (n + j) = 0 := hz1
          rw [cnt_0 (fun hh => hh.2 hz)]
      · have ha : ¬ ((anc n (n + j) : Nat) : Int) = (n : Int) := of_decide_eq_false ha
        rw [cnt_0 (fun hh => ha (by rw [hh.1]))]
    · have h : ¬ ((n + j : Nat) : Int) < Int.ofNat m := of_decide_eq_false h
      have e : (Int.ofNat m : Int) = (m : Int) := rfl
      have h' : j = m - n := by omega
      subst h'
      refine .inr ⟨fun hh => (by cases hh), ?_⟩
      have e2 : ((n + (m - n) : Nat) : Int) = Int.ofNat m := by rw [e]; omega
      show KK (.exit 2) (hd2 us m r (n : Int) _ ((n + (m - n) : Nat) : Int))
      rw [e2]
      exact hK
/-- Rows' lengths. -/
def RW (i : Nat) : Option (List AV × Nat) → Prop
  | none => True
  | some p => p.1.length = p.2 * 2 ∧ p.2 ≤ i
theorem rws_len (us : List AV) : ∀ i, RW i (rws us i)
  | 0 => trivial
  | i + 1 => by
    have h := rws_len us i
    show RW (i + 1) (cond (decide (1 ≤ i) && !decide (cA us i = 0)) (apR (rws us i) (rowA us i)) (rws us i))
    cases (decide (1 ≤ i) && !decide (cA us i = 0)) with
    | true =>
      show RW (i + 1) (apR (rws us i) (rowA us i))
      cases hr : rws us i with
      | none => exact ⟨rfl, by omega⟩
      | some p =>
        rw [hr] at h
        have h : p.1.length = p.2 * 2 ∧ p.2 ≤ i := h
        refine ⟨?_, by show p.2 + 1 ≤ i + 1; omega⟩
        show (p.1.take (p.2 * 2) ++ rowA us i).length = (p.2 + 1) * 2
        rw [List.length_append, List.length_take, h.1]
        show min (p.2 * 2) (p.2 * 2) + 2 = _
        omega
    | false =>
      show RW (i + 1) (rws us i)
      cases hr : rws us i with
      | none => trivial
      | some p =>
        rw [hr] at h
        have h : p.1.length = p.2 * 2 ∧ p.2 ≤ i := h
        exact ⟨h.1, by omega⟩
theorem apC_ok {us : List AV} {i : Nat} (hi : i ≤ 1000) {x : Bool} (hx : x = true) : apC (rws us i) x = true := by
  have h := rws_len us i
  cases hr : rws us i with
  | none => exact hx
  | some p =>
    rw [hr] at h
    have h : p.1.length = p.2 * 2 ∧ p.2 ≤ i := h
    refine band ?_ hx
    rw [h.1]
    simp only [Bool.and_eq_true, Nat.ble_eq]
    omega
theorem ren_X (us : List AV) (m : Nat) (cs : List AV) (q : Nat) (n : Int) : Less cR (hdX us m cs q n) (hd0 us m (some (cs, q)) n) := by
  have h := Less.ren (C := cR) [(3, 1)] 2 (st := hdX us m cs q n) rfl rfl (by kernel_rfl)
  have e : renS [(3, 1)] 2 (hdX us m cs q n) = hd0 us m (some (cs, q)) n := by kernel_rfl
  rw [e] at h
  exact h
/-- All nodes. -/
theorem z0 (hc : CL us m) (hm1 : 1 ≤ m) {KK : Ex → St → Prop} (hOk : (∀ i, 1 ≤ i → i < m → ¬ Bad us m i) → KK (.exit 0) (hd0 us m (rws us m) (m : Int))) (hBad : (∃ i, 1 ≤ i ∧ i < m ∧ Bad us m i) → ∀ r n, KK .ret (hdB us m r n)) : AWq cR (.loop body0) (hd0 us m none ((1 : Nat) : Int)) KK := by
  have hm := hc.2.1
  refine awq_loopK hC (ι := { i : Nat // 1 ≤ i ∧ i ≤ m ∧ ∀ j, 1 ≤ j → j < i → ¬ Bad us m j }) (fun i => hd0 us m (rws us i.1) (i.1 : Int)) (fun i => m - i.1) (n := 300) (l := fun i => [F2 us m (rws us i.1) (i.1 : Int) ((cnt us i.1 (m - i.1) : Nat) : Int)]) (g := keepSH [1, 4, 5, 6, 7] [1, 3]) (fun i => ?_) (fun s => LessS.keepSH _ _ s) ?_ ⟨1, Nat.le_refl _, hm1, fun j h1 h2 => by omega⟩
  · rw [l0]
    exact ⟨lf_ok (g := keepSH [1, 6, 7, 8, 9] [1]) (fun s => LessS.keepSH _ _ s) (fun KK h => z2 hc i.2.2.1 h), trivial⟩
  · rintro ⟨i, hi1, him, hj⟩ K hk
    have hw : ((i : Nat) : Int).toNat = i := rfl
    have eo : (Int.ofNat m : Int) = (m : Int) := rfl
    have e1 : IntKind.wrap .i64 ((i : Int) + 1) = ((i + 1 : Nat) : Int) := by
      rw [wI (by omega) (by omega)]
      omega
    refine (t_b0 us m (rws us i) (i : Int) _ K).trans (bdt (fun h => ?_) (fun h => hk _ _ ?_))
    · have h : ((i : Nat) : Int) < Int.ofNat m := of_decide_eq_true h
      have h' : i < m := by omega
      have bad : Bad us m i → ∀ r n, RndG cR (fun i : { i : Nat // 1 ≤ i ∧ i ≤ m ∧ ∀ j, 1 ≤ j → j < i → ¬ Bad us m j } => hd0 us m (rws us i.1) (i.1 : Int)) (fun i => m - i.1) KK ⟨i, hi1, him, hj⟩ .ret (hdB us m r n) := fun hb r n => .inr ⟨fun hh => (by cases hh), hBad ⟨i, hi1, h', hb⟩ r n⟩
      refine band (onP_true rfl) (ldC_ok hc h' (by decide) ?_)
      rw [hw]
      refine bdt (fun a1 => hk _ _ (bad (.inl (of_decide_eq_true a1)) _ _)) (fun a1 => ldC_ok hc h' (by decide) (bdt (fun a2 => hk _ _ (bad (.inr (.inl ?_)) _ _)) (fun a2 => ldC_ok hc h' (by decide) (bdt (fun a3 => hk _ _ (bad (.inr (.inr ?_)) _ _)) (fun a3 => ldC_ok hc h' (by decide) ?_)))))
      · intro hh
        rw [show (lget us (i * 4 + 2)).toI = ((cnt us i (m - i) : Nat) : Int) from hh] at a2
        simp at a2
      · intro hh
        rw [show (lget us (i * 4 + 3)).toI = 0 from hh] at a3
        cases a3
      · have hnb : ¬ Bad us m i := by
          have b1 : ¬ cA us i > 2147483648 := of_decide_eq_false a1
          have b2 : (lget us (i * 4 + 2)).toI = ((cnt us i (m - i) : Nat) : Int) := by simpa using a2
          have b3 : (lget us (i * 4 + 3)).toI = 0 := by simpa using a3
          rintro (hb | hb | hb)
          · exact b1 hb
          · exact hb b2
          · exact hb b3
        have hj' : ∀ j, 1 ≤ j → j < i + 1 → ¬ Bad us m j := fun j h1 h2 => by
          by_cases hji : j = i
          · rw [hji]; exact hnb
          · exact hj j h1 (by omega)
        refine bdt (fun a4 => ldC_ok hc h' (by decide) (apC_ok (by omega) (hk _ _ ?_))) (fun a4 => hk _ _ ?_)
        · have hz : cA us i ≠ 0 := by
            intro hh
            rw [show (lget us (i * 4 + 1)).toI = 0 from hh] at a4
            cases a4
          refine .inl ⟨rfl, ⟨i + 1, by omega, h', hj'⟩, by show m - (i + 1) < m - i; omega, ?_⟩
          have er : rws us (i + 1) = some (apCs (rws us i) (rowA us i), apQ (rws us i)) := by
            show cond (decide (1 ≤ i) && !decide (cA us i = 0)) (apR (rws us i) (rowA us i)) (rws us i) = _
            rw [decide_eq_true hi1, decide_eq_false hz]
            exact apR_is _ _
          show Less cR _ (hd0 us m (rws us (i + 1)) ((i + 1 : Nat) : Int))
          rw [er, e1]
          exact ren_X us m _ _ _
        · have hz : (lget us (i * 4 + 1)).toI = 0 := by simpa using a4
          refine .inl ⟨rfl, ⟨i + 1, by omega, h', hj'⟩, by show m - (i + 1) < m - i; omega, ?_⟩
          have er : rws us (i + 1) = rws us i := by
            show cond (decide (1 ≤ i) && !decide (cA us i = 0)) (apR (rws us i) (rowA us i)) (rws us i) = _
            rw [decide_eq_true hi1, decide_eq_true (show cA us i = 0 from hz)]
            rfl
          show Less cR _ (hd0 us m (rws us (i + 1)) ((i + 1 : Nat) : Int))
          rw [er, e1]
          exact Less.refl _
    · have h : ¬ ((i : Nat) : Int) < Int.ofNat m := of_decide_eq_false h
      have h' : i = m := by omega
      subst h'
      exact .inr ⟨fun hh => (by cases hh), hOk hj⟩
end
end Go.Bas.BasAvR2
end
section
namespace Go.Bas.BasAvR3
open Go.RowKit Go.Proofs
open Go.Bas.BasZBase Go.Bas.BasAvR1 Go.Bas.BasAvR2
set_option maxRecDepth 100000
set_option maxHeartbeats 4000000
set_option linter.unusedVariables false
set_option linter.unusedSimpArgs false
/-- A list. -/
def lsOf : AV → Option (List AV × Nat)
  | .lst us m => some (us, m)
  | _ => none
theorem lsOf_some {a : AV} {p : List AV × Nat} (h : lsOf a = some p) : a = .lst p.1 p.2 := by
  unfold lsOf at h
  split at h
  · simp only [Option.some.injEq] at h
    subst h
    rfl
  · cases h
def rLs : Rd (List AV × Nat) := ⟨lsOf, fun p => .lst p.1 p.2, fun _ _ => lsOf_some⟩
noncomputable def rowsV : Option (List AV × Nat) → AV
  | none => .nils
  | some p => .lst p.1 p.2
/-- A table's cells may be. -/
def RouteOk (c : Conf) (us : List AV) (m : Nat) : Prop := (cA us 0 = 0 ∧ cB us 0 = 0 ∧ cC us 0 = 0) ∧ cB us 1 ≤ c.cap ∧ ∀ i, 1 ≤ i → i < m → ¬ Bad us m i
noncomputable def EB : St := ⟨[.any, .any, .any, .any, .nils, .bool false, .any, .any, .any, .any, .any, .any, .any, .any, .any, .any, .any, .any, .any, .any, .any, .any, .any, .any, .any, .any, .any, .any, .any, .any, .any, .any, .any, .any, .any, .any, .any, .any, .any, .any, .any, .any, .any, .any, .any, .any, .any, .any, .any, .any, .any, .any, .any, .any, .any, .any, .any, .any, .any, .any, .any, .any, .any, .any, .any, .any, .any, .any, .any, .any, .any, .any, .any, .any, .any, .any, .any, .any, .any, .any, .any, .any, .any, .any, .any, .any, .any, .any, .any, .any, .any, .any, .any, .any, .any, .any, .any, .any, .any, .any], [], ⟨[], 2, []⟩⟩
noncomputable def st00 (us : List AV) (m : Nat) : St := ⟨[.any, .lst us m, .any, .any, .any, .any, .nils, .int .i64 1, .any, .any, .any, .any, .any, .any, .any, .any, .any, .any, .any, .any, .any, .any, .any, .any, .any, .any, .any, .any, .any, .any, .any, .any, .any, .any, .any, .any, .any, .any, .any, .any, .any, .any, .any, .any, .any, .any, .any, .any, .any, .any, .any, .any, .any, .any, .any, .any, .any, .any, .any, .any, .any, .any, .any, .any, .any, .any, .any, .any, .any, .any, .any, .any, .any, .any, .any, .any, .any, .any, .any, .any, .any, .any, .any, .any, .any, .any, .any, .any, .any, .any, .any, .any, .any, .any, .any, .any, .any, .any, .any, .any], [], ⟨[], 2, []⟩⟩
noncomputable def F0 (us : List AV) (m : Nat) (r : Option (List AV × Nat)) (ok : Bool) : LF := fun st k => cond (onP (keepSH [1, 6, 7] [] st = st00 us m)) (cond ok (k (.exit 0) (hd0 us m r (m : Int))) (k .ret EB)) false
theorem lc : loopsOf code = [.loop body0] := by kernel_rfl
theorem st00_less (us : List AV) (m : Nat) : Less cR (st00 us m) (hd0 us m none ((1 : Nat) : Int)) := by
  have h := Less.ren (C := cR) [] 2 (st := st00 us m) rfl rfl (by kernel_rfl)
  have e : renS [] 2 (st00 us m) = hd0 us m none ((1 : Nat) : Int) := by kernel_rfl
  rw [e] at h
  exact h
theorem EB_is (us : List AV) (m : Nat) (r : Option (List AV × Nat)) (n : Int) : keepSH [4, 5] [] (hdB us m r n) = EB := by
  cases r with
  | none => kernel_rfl
  | some p => obtain ⟨a, b⟩ := p; kernel_rfl
theorem F0_ok {us : List AV} {m : Nat} (hc : CL us m) (hm : 1 ≤ m) {ok : Bool} (h1 : ok = true → ∀ i, 1 ≤ i → i < m → ¬ Bad us m i) (h0 : ok = false → ∃ i, 1 ≤ i ∧ i < m ∧ Bad us m i) : ∀ (st : St) (k : Ex → St → Bool), F0 us m (rws us m) ok st k = true → AWq cR (.loop body0) st (fun e s => k e s = true) := fun st k hk => by
  obtain ⟨e1, e2⟩ := of_cond hk
  have e1 := of_onP e1
  refine AWq.less (fun w B oC oL ω a S => ⟨ω, (LessS.keepSH (C := cR) [1, 6, 7] [] st).2 w B oC oL ω a S⟩) ?_
  rw [e1]
  refine AWq.less (st00_less us m) ?_
  refine AWq.postL (K := fun e s => (e = .exit 0 ∧ ok = true ∧ s = hd0 us m (rws us m) (m : Int)) ∨ (e = .ret ∧ ok = false ∧ ∃ r n, s = hdB us m r n)) (z0 hc hm (fun ha => .inl ⟨rfl, ?_, rfl⟩) (fun hb r n => .inr ⟨rfl, ?_, r, n, rfl⟩)) ?_
  · cases ok with
    | true => rfl
    | false => obtain ⟨i, i1, i2, i3⟩ := h0 rfl; exact absurd i3 (ha i i1 i2)
  · cases ok with
    | false => rfl
    | true => obtain ⟨i, i1, i2, i3⟩ := hb; exact absurd i3 (h1 rfl i i1 i2)
  · rintro e s (⟨rfl, ho, hs⟩ | ⟨rfl, ho, r, n, hs⟩)
    · rw [ho] at e2
      exact ⟨rfl, _, Less.refl _, by rw [hs]; exact e2⟩
    · rw [ho] at e2
      refine ⟨rfl, EB, ?_, e2⟩
      rw [hs, ← EB_is us m r n]
      exact fun w B oC oL ω a S => ⟨ω, (LessS.keepSH (C := cR) [4, 5] [] (hdB us m r n)).2 w B oC oL ω a S⟩
noncomputable def frz : Option (List AV × Nat) → (AV → Bool) → Bool
  | none, K => K (.tup [.nils, .bool true])
  | some p, K => br (Nat.beq p.2 0) (K (.tup [.ns, .bool true])) (ba (Nat.ble (0 + p.2 * 2) p.1.length) (K (.tup [.lst (p.1.take (p.2 * 2)) p.2, .bool true])))
theorem t_f (c : Conf) (us : List AV) (m : Nat) (r : Option (List AV × Nat)) (ok : Bool) (K : AV → Bool) : runFM cR 300 18 [F0 us m r ok] [c.av, .lst us m] K =
    ba (decide ((0 : Int) < Int.ofNat m) && Nat.beq us.length (m * 4)) (ba (Nat.ble 4 us.length) (ba (AV.isI .u64 (lget us 0)) (ba (AV.isI .u64 (lget us 1)) (ba (AV.isI .u64 (lget us 2)) (ba (AV.isI .u64 (lget us 3))
      (br (decide ((lget us 1).toI = 0)) (br (decide ((lget us 2).toI = 0)) (br (!decide ((lget us 3).toI = 0)) (K (.tup [.nils, .bool false]))
        (ba (decide ((1 : Int) < Int.ofNat m) && Nat.beq us.length (m * 4)) (ba (Nat.ble 7 us.length) (ba (AV.isI .u64 (lget us 6)) (br (decide ((lget us 6).toI > IntKind.wrap .u64 c.cap)) (K (.tup [.nils, .bool false]))
          (ba (onP (st00 us m = st00 us m)) (br ok (frz r K) (K (.tup [.nils, .bool false])))))))))
        (K (.tup [.nils, .bool false]))) (K (.tup [.nils, .bool false])))))))) := by
  cases r with
  | none => kernel_rfl
  | some p => obtain ⟨a, b⟩ := p; kernel_rfl
noncomputable def rtV (c : Conf) (us : List AV) (m : Nat) : AV := cond (onP (RouteOk c us m)) (.tup [rowsV (rws us m), .bool true]) (.tup [.nils, .bool false])
theorem rws_pos (us : List AV) : ∀ i p, rws us i = some p → 1 ≤ p.2
  | 0, p, h => by cases h
  | i + 1, p, h => by
    have h : cond (decide (1 ≤ i) && !decide (cA us i = 0)) (apR (rws us i) (rowA us i)) (rws us i) = some p := h
    cases hc : (decide (1 ≤ i) && !decide (cA us i = 0)) with
    | true =>
      rw [hc] at h
      have h : apR (rws us i) (rowA us i) = some p := h
      cases hr : rws us i with
      | none => rw [hr] at h; cases h; exact Nat.le_refl _
      | some q => rw [hr] at h; cases h; show 1 ≤ q.2 + 1; omega
    | false =>
      rw [hc] at h
      exact rws_pos us i p h
theorem q_rt (c : Conf) (us : List AV) (m : Nat) (hc : CL us m) (hm : 2 ≤ m) (hk : c.OkP) : ACalls Tryd.prog (gmap gs) 18 [c.av, .lst us m] (fun v => v = rtV c us m) := by
  classical
  have hcap : 1 ≤ c.cap ∧ c.cap ≤ 32 := by unfold Conf.OkP at hk; omega
  have hw : IntKind.wrap .u64 c.cap = c.cap := wU (by omega) (by omega)
  by_cases hA : ∀ i, 1 ≤ i → i < m → ¬ Bad us m i
  all_goals
    refine acalls_eqM (q := fun _ => false) base sums_nil (n := 300) (fs := [F0 us m (rws us m) (decide (∀ i, 1 ≤ i → i < m → ¬ Bad us m i))]) (by kernel_rfl) ?_ fun K hK => ?_
    · show LoopsOk cR (loopsOf code) _
      rw [lc]
      refine ⟨F0_ok hc (by omega) (fun h => of_decide_eq_true h) (fun h => ?_), trivial⟩
      have h := of_decide_eq_false h
      exact Classical.byContradiction fun hn => h fun i i1 i2 i3 => hn ⟨i, i1, i2, i3⟩
    refine (t_f c us m _ _ K).trans ?_
    have g := fun j (hj : j < us.length) => (hc.2.2 j hj).1
    have hl := hc.1
    have e0 : (Int.ofNat m : Int) = (m : Int) := rfl
    have b1 : (decide ((0 : Int) < Int.ofNat m) && Nat.beq us.length (m * 4)) = true := by
      rw [hl, decide_eq_true (by omega), Nat.beq_refl]
      rfl
    have b2 : (decide ((1 : Int) < Int.ofNat m) && Nat.beq us.length (m * 4)) = true := by
      rw [hl, decide_eq_true (by omega), Nat.beq_refl]
      rfl
    have no : ¬ RouteOk c us m → K (.tup [.nils, .bool false]) = true := fun hn => by
      unfold rtV at hK
      rw [show onP (RouteOk c us m) = false from decide_eq_false hn] at hK
      exact hK
    refine band b1 (band (Nat.ble_eq_true_of_le (by omega)) (band (g _ (by omega)) (band (g _ (by omega)) (band (g _ (by omega)) (band (g _ (by omega)) (bdt (fun h1 => bdt (fun h2 => bdt (fun h3 => no fun hh => ?_) (fun h3 => band b2 (band (Nat.ble_eq_true_of_le (by omega)) (band (g _ (by omega)) (bdt (fun h4 => no fun hh => ?_) (fun h4 => band (onP_true rfl) ?_)))))) (fun h2 => no fun hh => of_decide_eq_false h2 hh.1.2.1)) (fun h1 => no fun hh => of_decide_eq_false h1 hh.1.1)))))))
    · rw [show (lget us 3).toI = 0 from hh.1.2.2] at h3
      cases h3
    · have h4 := of_decide_eq_true h4
      rw [hw] at h4
      have := hh.2.1
      have : (lget us 6).toI ≤ c.cap := this
      omega
  · rw [decide_eq_true hA]
    refine btb rfl ?_
    have hok : RouteOk c us m := by
      have h4 := of_decide_eq_false h4
      rw [hw] at h4
      exact ⟨⟨of_decide_eq_true h1, of_decide_eq_true h2, show (lget us 3).toI = 0 by simpa using h3⟩, by show (lget us 6).toI ≤ c.cap; omega, hA⟩
    unfold rtV at hK
    rw [onP_true hok] at hK
    have hK : K (.tup [rowsV (rws us m), .bool true]) = true := hK
    have hr := rws_len us m
    cases hq : rws us m with
    | none => rw [hq] at hK; exact hK
    | some p =>
      have hp := rws_pos us m p hq
      rw [hq] at hK hr
      have hr : p.1.length = p.2 * 2 ∧ p.2 ≤ m := hr
      refine btf (by cases hz : p.2 with | zero => omega | succ z => rfl) (band (Nat.ble_eq_true_of_le (by omega)) ?_)
      rw [List.take_of_length_le (by omega)]
      exact hK
  · rw [decide_eq_false hA]
    exact btf rfl (no fun hh => hA hh.2.2)
end Go.Bas.BasAvR3
end
section
namespace Go.Bas.BasAvL
open Go.RowKit Go.Proofs
open Go.Bas.BasZBase Go.Bas.BasAvR1 Go.Bas.BasAvR2 Go.Bas.BasAvR3
set_option maxRecDepth 100000
set_option maxHeartbeats 4000000
set_option linter.unusedVariables false
set_option linter.unusedSimpArgs false
abbrev RL := List (Int × Int)
def enc : RL → List AV
  | [] => []
  | p :: l => .int .u64 p.1 :: .int .u64 p.2 :: enc l
def rwo : RL → Option (List AV × Nat)
  | [] => none
  | p :: l => some (enc (p :: l), (p :: l).length)
/-- The key, and the word, of a row. -/
def rk (L : RL) (i : Nat) : Int := (L.getD i (0, 0)).1
def rv (L : RL) (i : Nat) : Int := (L.getD i (0, 0)).2
theorem enc_len : ∀ L : RL, (enc L).length = L.length * 2
  | [] => rfl
  | p :: l => by
    show (enc l).length + 1 + 1 = (l.length + 1) * 2
    rw [enc_len l]
    omega
theorem enc_app : ∀ L M : RL, enc (L ++ M) = enc L ++ enc M
  | [], M => rfl
  | p :: l, M => by
    show AV.int .u64 p.1 :: AV.int .u64 p.2 :: enc (l ++ M) = _
    rw [enc_app l M]
    rfl
theorem enc_k : ∀ (L : RL) (i : Nat), i < L.length → lget (enc L) (i * 2) = .int .u64 (rk L i)
  | [], i, h => absurd h (Nat.not_lt_zero _)
  | p :: l, 0, h => rfl
  | p :: l, i + 1, h => by
    have := enc_k l i (by simpa using h)
    rw [lget_eq] at this ⊢
    rw [show (i + 1) * 2 = i * 2 + 1 + 1 by omega]
    exact this
theorem enc_v : ∀ (L : RL) (i : Nat), i < L.length → lget (enc L) (i * 2 + 1) = .int .u64 (rv L i)
  | [], i, h => absurd h (Nat.not_lt_zero _)
  | p :: l, 0, h => rfl
  | p :: l, i + 1, h => by
    have := enc_v l i (by simpa using h)
    rw [lget_eq] at this ⊢
    rw [show (i + 1) * 2 + 1 = i * 2 + 1 + 1 + 1 by omega]
    exact this
theorem apx (L : RL) (a b : Int) : some (apCs (rwo L) [.int .u64 a, .int .u64 b], apQ (rwo L)) = rwo (L ++ [(a, b)]) := by
  cases L with
  | nil => rfl
  | cons p l =>
    show some ((enc (p :: l)).take ((p :: l).length * 2) ++ _, (p :: l).length + 1) = some (enc (p :: l ++ [(a, b)]), (p :: l ++ [(a, b)]).length)
    rw [List.take_of_length_le (by rw [enc_len]; exact Nat.le_refl _), enc_app, List.length_append]
    rfl
theorem apx_ok {L : RL} (hl : L.length ≤ 5000) {x : Bool} (hx : x = true) : apC (rwo L) x = true := by
  cases L with
  | nil => exact hx
  | cons p l =>
    refine band ?_ hx
    show (Nat.ble ((p :: l).length * 2) (enc (p :: l)).length && (Nat.ble ((p :: l).length + 1) 9223372036854775807 && Nat.ble (((p :: l).length + 1) * 16) 140737488355328)) = true
    rw [enc_len]
    simp only [Bool.and_eq_true, Nat.ble_eq]
    omega
/-- How many rows there are. -/
def rn : Option (List AV × Nat) → Int
  | none => 0
  | some p => Int.ofNat p.2
theorem rn_is (L : RL) : rn (rwo L) = (L.length : Int) := by cases L <;> rfl
/-- A word of a row of a list is read. -/
noncomputable def ldR : Option (List AV × Nat) → Int → (List AV → Bool) → Bool
  | none, _, _ => false
  | some p, i, x => ba (inside i p.2 && Nat.beq p.1.length (p.2 * 2)) (x p.1)
noncomputable def ldK (r : Option (List AV × Nat)) (i : Int) (x : Int → Bool) : Bool := ldR r i fun cs => ba (Nat.ble (i.toNat * 2 + 1) cs.length) (ba (AV.isI .u64 (lget cs (i.toNat * 2))) (x (lget cs (i.toNat * 2)).toI))
noncomputable def ldKV (r : Option (List AV × Nat)) (i : Int) (x : Int → Int → Bool) : Bool := ldR r i fun cs => ba (Nat.ble (i.toNat * 2 + 2) cs.length) (ba (AV.isI .u64 (lget cs (i.toNat * 2))) (ba (AV.isI .u64 (lget cs (i.toNat * 2 + 1))) (x (lget cs (i.toNat * 2)).toI (lget cs (i.toNat * 2 + 1)).toI)))
theorem ldR_ok {L : RL} {i : Nat} (h : i < L.length) {x : List AV → Bool} (hx : x (enc L) = true) : ldR (rwo L) (i : Int) x = true := by
  cases L with
  | nil => exact absurd h (Nat.not_lt_zero _)
  | cons p l =>
    refine band ?_ hx
    show (inside (i : Int) (p :: l).length && Nat.beq (enc (p :: l)).length ((p :: l).length * 2)) = true
    rw [enc_len, Nat.beq_refl, Bool.and_true]
    simp only [inside, Bool.and_eq_true, decide_eq_true_eq]
    omega
theorem ldK_ok {L : RL} {i : Nat} (h : i < L.length) {x : Int → Bool} (hx : x (rk L i) = true) : ldK (rwo L) (i : Int) x = true := by
  refine ldR_ok h ?_
  have e : ((i : Nat) : Int).toNat = i := rfl
  rw [e, enc_k L i h]
  exact band (Nat.ble_eq_true_of_le (by rw [enc_len]; omega)) (band rfl hx)
theorem ldKV_ok {L : RL} {i : Nat} (h : i < L.length) {x : Int → Int → Bool} (hx : x (rk L i) (rv L i) = true) : ldKV (rwo L) (i : Int) x = true := by
  refine ldR_ok h ?_
  have e : ((i : Nat) : Int).toNat = i := rfl
  rw [e, enc_k L i h, enc_v L i h]
  exact band (Nat.ble_eq_true_of_le (by rw [enc_len]; omega)) (band rfl (band rfl hx))
def optOf : AV → Option (Option (List AV × Nat))
  | .nils => some none
  | .lst us m => some (some (us, m))
  | _ => none
theorem optOf_some {a : AV} {p : Option (List AV × Nat)} (h : optOf a = some p) : a = rowsV p := by
  unfold optOf at h
  split at h
  · simp only [Option.some.injEq] at h
    subst h
    rfl
  · simp only [Option.some.injEq] at h
    subst h
    rfl
  · cases h
/-- Rows asv an argument. -/
noncomputable def rRw : Rd (Option (List AV × Nat)) := ⟨optOf, rowsV, fun _ _ => optOf_some⟩
end Go.Bas.BasAvL
end
section
namespace Go.Bas.BasAvF
open Go.RowKit Go.Proofs
open Go.Bas.BasZBase Go.Bas.BasAvR1 Go.Bas.BasAvR2 Go.Bas.BasAvR3 Go.Bas.BasAvL
set_option maxRecDepth 100000
set_option maxHeartbeats 4000000
set_option linter.unusedVariables false
set_option linter.unusedSimpArgs false
/-! Find. -/
noncomputable abbrev codeF : Code := fcode Tryd.prog 29
noncomputable abbrev bF : Code := loopAt codeF [0]
noncomputable def hF (r : Option (List AV × Nat)) (k : Int) (i : Int) : St := ⟨[rowsV r, .int .u64 k, .any, .any, .any, .int .i64 i, .any, .any, .any, .any, .any, .any, .any, .any, .any, .any, .any, .any, .any, .any], [], ⟨[], 0, []⟩⟩
noncomputable def hFr (r : Option (List AV × Nat)) (k : Int) (i : Int) : St := ⟨[rowsV r, .int .u64 k, .any, .any, .int .i64 i, .int .i64 i, .any, .any, .any, .any, .any, .any, .any, .any, .any, .any, .any, .any, .any, .any], [], ⟨[], 0, []⟩⟩
theorem t_f0 (r : Option (List AV × Nat)) (k i : Int) (K : Ex → St → Bool) : runM cR 300 bF [] (hF r k i) (fun e s => K e (keepSH [0, 1, 4, 5] [] s)) =
    br (decide (i < rn r)) (ldK r i fun a => br (decide (a = k)) (K .ret (hFr r k i)) (K .normal (hF r k (IntKind.wrap .i64 (i + 1))))) (K (.exit 0) (hF r k i)) := by
  cases r with
  | none => kernel_rfl
  | some p => obtain ⟨a, b⟩ := p; kernel_rfl
theorem lF : loopsOf bF = [] := by kernel_rfl
/-- The first place of a key, so many to go. -/
def fI (L : RL) (k : Int) : Nat → Nat → Int
  | 0, _ => -1
  | n + 1, i => if rk L i = k then (i : Int) else fI L k n (i + 1)
theorem zf0 {L : RL} {k : Int} (hl : L.length ≤ 5000) {KK : Ex → St → Prop} (h1 : ∀ i : Nat, fI L k L.length 0 = (i : Int) → KK .ret (hFr (rwo L) k i)) (h0 : fI L k L.length 0 = -1 → KK (.exit 0) (hF (rwo L) k (L.length : Int))) : AWq cR (.loop bF) (hF (rwo L) k 0) KK := by
  refine awq_loopK hC (ι := { i : Nat // i ≤ L.length ∧ fI L k (L.length - i) i = fI L k L.length 0 }) (fun i => hF (rwo L) k (i.1 : Int)) (fun i => L.length - i.1) (n := 300) (l := fun _ => []) (g := keepSH [0, 1, 4, 5] []) (fun _ => by rw [lF]; exact trivial) (fun s => LessS.keepSH _ _ s) ?_ ⟨0, Nat.zero_le _, rfl⟩
  rintro ⟨i, him, hi⟩ K hk
  have e1 : IntKind.wrap .i64 ((i : Int) + 1) = ((i + 1 : Nat) : Int) := by
    rw [wI (by omega) (by omega)]
    omega
  refine (t_f0 (rwo L) k (i : Int) K).trans (bdt (fun h => ?_) (fun h => hk _ _ ?_))
  · have h := of_decide_eq_true h
    rw [rn_is] at h
    have h' : i < L.length := by omega
    have hs : fI L k (L.length - i) i = if rk L i = k then (i : Int) else fI L k (L.length - (i + 1)) (i + 1) := by
      rw [show L.length - i = (L.length - (i + 1)) + 1 by omega]
      rfl
    refine ldK_ok h' (bdt (fun a => hk _ _ ?_) (fun a => hk _ _ ?_))
    · have a := of_decide_eq_true a
      rw [if_pos a] at hs
      exact .inr ⟨fun hh => (by cases hh), h1 i (by rw [← hi, hs])⟩
    · have a := of_decide_eq_false a
      rw [if_neg a] at hs
      rw [e1]
      exact .inl ⟨rfl, ⟨i + 1, h', by rw [← hi, hs]⟩, by show L.length - (i + 1) < L.length - i; omega, Less.refl _⟩
  · have h := of_decide_eq_false h
    rw [rn_is] at h
    have h' : i = L.length := by omega
    subst h'
    refine .inr ⟨fun hh => (by cases hh), h0 ?_⟩
    rw [← hi, Nat.sub_self]
    rfl
noncomputable def XF0 : St := ⟨[.any, .any, .any, .any, .any, .any, .any, .any, .any, .any, .any, .any, .any, .any, .any, .any, .any, .any, .any, .any], [], ⟨[], 0, []⟩⟩
noncomputable def XF1 (v : Int) : St := ⟨[.any, .any, .any, .any, .int .i64 v, .any, .any, .any, .any, .any, .any, .any, .any, .any, .any, .any, .any, .any, .any, .any], [], ⟨[], 0, []⟩⟩
noncomputable def LFf (r : Option (List AV × Nat)) (k V : Int) : LF := fun st K => cond (onP (keepSH [0, 1, 5] [] st = hF r k 0)) (br (decide (V = -1)) (K (.exit 0) XF0) (K .ret (XF1 V))) false
theorem LFf_ok {L : RL} {k : Int} (hl : L.length ≤ 5000) : ∀ (st : St) (K : Ex → St → Bool), LFf (rwo L) k (fI L k L.length 0) st K = true → AWq cR (.loop bF) st (fun e s => K e s = true) := fun st K hk => by
  obtain ⟨e1, e2⟩ := of_cond hk
  have e1 := of_onP e1
  refine AWq.less (fun w B oC oL ω a S => ⟨ω, (LessS.keepSH (C := cR) [0, 1, 5] [] st).2 w B oC oL ω a S⟩) ?_
  rw [e1]
  refine AWq.postL (K := fun e s => (e = .ret ∧ ∃ i : Nat, fI L k L.length 0 = (i : Int) ∧ s = hFr (rwo L) k i) ∨ (e = .exit 0 ∧ fI L k L.length 0 = -1 ∧ s = hF (rwo L) k (L.length : Int))) (zf0 hl (fun i h => .inl ⟨rfl, i, h, rfl⟩) (fun h => .inr ⟨rfl, h, rfl⟩)) ?_
  rintro e s (⟨rfl, i, hi, rfl⟩ | ⟨rfl, hi, rfl⟩)
  · rw [hi, show decide (((i : Nat) : Int) = -1) = false from decide_eq_false (by omega)] at e2
    refine ⟨rfl, XF1 i, ?_, e2⟩
    have e : keepSH [4] [] (hFr (rwo L) k (i : Int)) = XF1 i := by kernel_rfl
    rw [← e]
    exact fun w B oC oL ω a S => ⟨ω, (LessS.keepSH (C := cR) [4] [] (hFr (rwo L) k (i : Int))).2 w B oC oL ω a S⟩
  · rw [hi] at e2
    refine ⟨rfl, XF0, ?_, e2⟩
    have e : keepSH [] [] (hF (rwo L) k (L.length : Int)) = XF0 := by kernel_rfl
    rw [← e]
    exact fun w B oC oL ω a S => ⟨ω, (LessS.keepSH (C := cR) [] [] (hF (rwo L) k (L.length : Int))).2 w B oC oL ω a S⟩
theorem lcF : loopsOf codeF = [.loop bF] := by kernel_rfl
theorem t_ff (r : Option (List AV × Nat)) (k V : Int) (K : AV → Bool) : runFM cR 300 29 [LFf r k V] [rowsV r, .int .u64 k] K = ba (onP (hF r k 0 = hF r k 0)) (br (decide (V = -1)) (K (.int .i64 (-1))) (K (.int .i64 V))) := by
  cases r with
  | none => kernel_rfl
  | some p => obtain ⟨a, b⟩ := p; kernel_rfl
theorem q_fnd {L : RL} {k : Int} (hl : L.length ≤ 5000) : ACalls Tryd.prog (gmap gs) 29 [rowsV (rwo L), .int .u64 k] (fun v => v = .int .i64 (fI L k L.length 0)) := by
  refine acalls_eqM (q := fun _ => false) base sums_nil (n := 300) (fs := [LFf (rwo L) k (fI L k L.length 0)]) (by kernel_rfl) ?_ fun K hK => ?_
  · show LoopsOk cR (loopsOf codeF) _
    rw [lcF]
    exact ⟨LFf_ok hl, trivial⟩
  refine (t_ff _ _ _ K).trans (band (onP_true rfl) (bdt (fun h => ?_) (fun _ => hK)))
  rw [← of_decide_eq_true h]
  exact hK
/-! With. -/
noncomputable abbrev codeW : Code := fcode Tryd.prog 30
noncomputable abbrev bW : Code := loopAt codeW [0]
noncomputable def hW (r w : Option (List AV × Nat)) (k v : Int) (put : Bool) (i : Int) : St := ⟨[rowsV r, .int .u64 k, .int .u64 v, .any, .any, .any, .any, rwV w, .bool put, .int .i64 i, .any, .any, .any, .any, .any, .any, .any, .any, .any, .any, .any, .any, .any, .any, .any, .any, .any, .any, .any, .any, .any, .any, .any, .any, .any, .any, .any, .any, .any, .any, .any, .any, .any, .any, .any, .any, .any, .any, .any, .any, .any, .any, .any, .any, .any, .any], [], ⟨rwH w, 2, []⟩⟩
noncomputable def hW3 (r : Option (List AV × Nat)) (w : List AV × Nat) (k v : Int) (put : Bool) (i : Int) : St := ⟨[rowsV r, .int .u64 k, .int .u64 v, .any, .any, .any, .any, .sl 3 0 w.2 2 true, .bool put, .int .i64 i, .any, .any, .any, .any, .any, .any, .any, .any, .any, .any, .any, .any, .any, .any, .any, .any, .any, .any, .any, .any, .any, .any, .any, .any, .any, .any, .any, .any, .any, .any, .any, .any, .any, .any, .any, .any, .any, .any, .any, .any, .any, .any, .any, .any, .any, .any], [], ⟨[(3, ⟨w.1, 47, true⟩)], 4, []⟩⟩
noncomputable def hW5 (r : Option (List AV × Nat)) (w : List AV × Nat) (k v : Int) (put : Bool) (i : Int) : St := ⟨[rowsV r, .int .u64 k, .int .u64 v, .any, .any, .any, .any, .sl 5 0 w.2 2 true, .bool put, .int .i64 i, .any, .any, .any, .any, .any, .any, .any, .any, .any, .any, .any, .any, .any, .any, .any, .any, .any, .any, .any, .any, .any, .any, .any, .any, .any, .any, .any, .any, .any, .any, .any, .any, .any, .any, .any, .any, .any, .any, .any, .any, .any, .any, .any, .any, .any, .any], [], ⟨[(5, ⟨w.1, 47, true⟩)], 6, []⟩⟩
noncomputable def rw2 (a b : Int) : List AV := [.int .u64 a, .int .u64 b]
noncomputable def apP (w : Option (List AV × Nat)) (a b : Int) : List AV × Nat := (apCs w (rw2 a b), apQ w)
noncomputable def tW2 (r w : Option (List AV × Nat)) (k v : Int) (put : Bool) (i : Int) (K : Ex → St → Bool) : Bool :=
  ldK r i fun a => br (!decide (a = k)) (ldKV r i fun a b => apC w (K .normal (hW3 r (apP w a b) k v put (IntKind.wrap .i64 (i + 1))))) (K .normal (hW r w k v put (IntKind.wrap .i64 (i + 1))))
theorem t_w0 (r w : Option (List AV × Nat)) (k v i : Int) (put : Bool) (K : Ex → St → Bool) : runM cR 300 bW [] (hW r w k v put i) (fun e s => K e (keepSH [0, 1, 2, 7, 8, 9] [1, 3, 5] s)) =
    br (decide (i < rn r)) (br (!put) (ldK r i fun a => br (decide (a ≥ k)) (apC w (ldK r i fun a => br (!decide (a = k)) (ldKV r i fun a b => apC (some (apP w k v)) (K .normal (hW5 r (apP (some (apP w k v)) a b) k v true (IntKind.wrap .i64 (i + 1))))) (K .normal (hW3 r (apP w k v) k v true (IntKind.wrap .i64 (i + 1)))))) (tW2 r w k v put i K)) (tW2 r w k v put i K)) (K (.exit 0) (hW r w k v put i)) := by
  cases r with
  | none => cases w with
    | none => kernel_rfl
    | some q => obtain ⟨a, b⟩ := q; kernel_rfl
  | some p =>
    obtain ⟨a, b⟩ := p
    cases w with
    | none => kernel_rfl
    | some q => obtain ⟨a, b⟩ := q; kernel_rfl
theorem lW : loopsOf bW = [] := by kernel_rfl
end Go.Bas.BasAvF
end
section
namespace Go.Bas.BasAvW
open Go.RowKit Go.Proofs
open Go.Bas.BasZBase Go.Bas.BasAvR1 Go.Bas.BasAvR2 Go.Bas.BasAvR3 Go.Bas.BasAvL Go.Bas.BasAvF
set_option maxRecDepth 100000
set_option maxHeartbeats 4000000
set_option linter.unusedVariables false
set_option linter.unusedSimpArgs false
/-- What With has made of the first rows, and whether the key is put. -/
def wst (k v : Int) : RL → RL × Bool → RL × Bool
  | [], s => s
  | p :: l, (w, put) => wst k v l
    (cond (!decide (p.1 = k)) ((cond (!put && decide (p.1 ≥ k)) (w ++ [(k, v)]) w) ++ [p]) (cond (!put && decide (p.1 ≥ k)) (w ++ [(k, v)]) w), put || decide (p.1 ≥ k))
def withL (L : RL) (k v : Int) : RL := cond (wst k v L ([], false)).2 (wst k v L ([], false)).1 ((wst k v L ([], false)).1 ++ [(k, v)])
theorem wst_len (k v : Int) : ∀ (L : RL) (s : RL × Bool), (wst k v L s).1.length ≤ s.1.length + L.length * 2
  | [], s => Nat.le_refl _
  | p :: l, (w, put) => by
    refine Nat.le_trans (wst_len k v l _) ?_
    show (cond (!decide (p.1 = k)) ((cond (!put && decide (p.1 ≥ k)) (w ++ [(k, v)]) w) ++ [p]) (cond (!put && decide (p.1 ≥ k)) (w ++ [(k, v)]) w)).length + l.length * 2 ≤ w.length + (l.length + 1) * 2
    cases (!decide (p.1 = k)) <;> cases (!put && decide (p.1 ≥ k)) <;> simp only [cond_true, cond_false, List.length_append, List.length_cons, List.length_nil] <;> omega
theorem drop_at (L : RL) (i : Nat) (h : i < L.length) : L.drop i = (rk L i, rv L i) :: L.drop (i + 1) := by
  rw [List.drop_eq_getElem_cons h]
  have : L[i] = (rk L i, rv L i) := by simp [rk, rv, h]
  rw [this]
theorem ren_W (r : Option (List AV × Nat)) (w : List AV × Nat) (k v : Int) (put : Bool) (i : Int) : Less cR (hW3 r w k v put i) (hW r (some w) k v put i) := by
  have h := Less.ren (C := cR) [(3, 1)] 2 (st := hW3 r w k v put i) rfl rfl (by cases r <;> kernel_rfl)
  have e : renS [(3, 1)] 2 (hW3 r w k v put i) = hW r (some w) k v put i := by
    obtain ⟨a, b⟩ := w
    cases r with
    | none => kernel_rfl
    | some p => obtain ⟨c, d⟩ := p; kernel_rfl
  rw [e] at h
  exact h
theorem ren_W5 (r : Option (List AV × Nat)) (w : List AV × Nat) (k v : Int) (put : Bool) (i : Int) : Less cR (hW5 r w k v put i) (hW r (some w) k v put i) := by
  have h := Less.ren (C := cR) [(5, 1)] 2 (st := hW5 r w k v put i) rfl rfl (by cases r <;> kernel_rfl)
  have e : renS [(5, 1)] 2 (hW5 r w k v put i) = hW r (some w) k v put i := by
    obtain ⟨a, b⟩ := w
    cases r with
    | none => kernel_rfl
    | some p => obtain ⟨c, d⟩ := p; kernel_rfl
  rw [e] at h
  exact h
theorem apP_is (L : RL) (a b : Int) : some (apP (rwo L) a b) = rwo (L ++ [(a, b)]) := apx L a b
theorem zw0 {L : RL} {k v : Int} (hl : L.length ≤ 1000) {KK : Ex → St → Prop} (h1 : KK (.exit 0) (hW (rwo L) (rwo (wst k v L ([], false)).1) k v (wst k v L ([], false)).2 (L.length : Int))) : AWq cR (.loop bW) (hW (rwo L) none k v false 0) KK := by
  refine awq_loopK hC (ι := { i : Nat × RL × Bool // i.1 ≤ L.length ∧ i.2.1.length ≤ i.1 * 2 ∧ wst k v (L.drop i.1) i.2 = wst k v L ([], false) }) (fun i => hW (rwo L) (rwo i.1.2.1) k v i.1.2.2 (i.1.1 : Int)) (fun i => L.length - i.1.1) (n := 300) (l := fun _ => []) (g := keepSH [0, 1, 2, 7, 8, 9] [1, 3, 5]) (fun _ => by rw [lW]; exact trivial) (fun s => LessS.keepSH _ _ s) ?_ ⟨(0, [], false), Nat.zero_le _, Nat.zero_le _, rfl⟩
  rintro ⟨⟨i, w, put⟩, him, hwl, hi⟩ K hk
  have hwl : w.length ≤ i * 2 := hwl
  have him : i ≤ L.length := him
  have hi : wst k v (L.drop i) (w, put) = wst k v L ([], false) := hi
  have e1 : IntKind.wrap .i64 ((i : Int) + 1) = ((i + 1 : Nat) : Int) := by
    rw [wI (by omega) (by omega)]
    omega
  refine (t_w0 (rwo L) (rwo w) k v (i : Int) put K).trans (bdt (fun h => ?_) (fun h => hk _ _ ?_))
  · have h := of_decide_eq_true h
    rw [rn_is] at h
    have h' : i < L.length := by omega
    rw [drop_at L i h'] at hi
    have hs : ∀ w' put', (cond (!decide (rk L i = k)) ((cond (!put && decide (rk L i ≥ k)) (w ++ [(k, v)]) w) ++ [(rk L i, rv L i)]) (cond (!put && decide (rk L i ≥ k)) (w ++ [(k, v)]) w), put || decide (rk L i ≥ k)) = (w', put') → wst k v (L.drop (i + 1)) (w', put') = wst k v L ([], false) ∧ w'.length ≤ (i + 1) * 2 := fun w' put' he => by
      refine ⟨by rw [← hi, ← he]; rfl, ?_⟩
      have he : _ = w' := congrArg Prod.fst he
      rw [← he]
      cases (!decide (rk L i = k)) <;> cases (!put && decide (rk L i ≥ k)) <;> simp only [cond_true, cond_false, List.length_append, List.length_cons, List.length_nil] <;> omega
    have fin : ∀ (w' : RL) (put' : Bool) (s : St), (cond (!decide (rk L i = k)) ((cond (!put && decide (rk L i ≥ k)) (w ++ [(k, v)]) w) ++ [(rk L i, rv L i)]) (cond (!put && decide (rk L i ≥ k)) (w ++ [(k, v)]) w), put || decide (rk L i ≥ k)) = (w', put') → Less cR s (hW (rwo L) (rwo w') k v put' ((i + 1 : Nat) : Int)) → K .normal s = true := fun w' put' s he hless =>
      hk _ _ (.inl ⟨rfl, ⟨(i + 1, w', put'), h', (hs w' put' he).2, (hs w' put' he).1⟩, by show L.length - (i + 1) < L.length - i; omega, hless⟩)
    have tail : (!put && decide (rk L i ≥ k)) = false → (put || decide (rk L i ≥ k)) = put → tW2 (rwo L) (rwo w) k v put (i : Int) K = true := fun hp hp2 => by
      refine ldK_ok h' (bdt (fun a => ldKV_ok h' (apx_ok (by omega) ?_)) (fun a => ?_))
      · refine fin (w ++ [(rk L i, rv L i)]) put _ ?_ ?_
        · rw [hp, hp2, a]; rfl
        · rw [e1, ← apP_is]
          exact ren_W _ _ _ _ _ _
      · refine fin w put _ ?_ ?_
        · rw [hp, hp2, a]; rfl
        · rw [e1]
          exact Less.refl _
    refine bdt (fun hp => ldK_ok h' (bdt (fun hg => apx_ok (by omega) (ldK_ok h' (bdt (fun a => ldKV_ok h' ?_) (fun a => ?_)))) (fun hg => ?_))) (fun hp => ?_)
    · rw [apP_is]
      refine apx_ok (by rw [List.length_append]; show w.length + 1 ≤ 5000; omega) ?_
      refine fin (w ++ [(k, v)] ++ [(rk L i, rv L i)]) true _ ?_ ?_
      · rw [hp, hg, a]
        cases put <;> rfl
      · rw [e1, ← apP_is (w ++ [(k, v)])]
        exact ren_W5 _ _ _ _ _ _
    · refine fin (w ++ [(k, v)]) true _ ?_ ?_
      · rw [hp, hg, a]
        cases put <;> rfl
      · rw [e1, ← apP_is]
        exact ren_W _ _ _ _ _ _
    · refine tail (by rw [hg]; cases put <;> rfl) (by rw [hg]; cases put <;> rfl)
    · refine tail (by rw [hp]; rfl) ?_
      cases put with
      | true => rfl
      | false => cases hp
  · have h := of_decide_eq_false h
    rw [rn_is] at h
    have h' : i = L.length := by omega
    subst h'
    rw [List.drop_length] at hi
    have hi : (w, put) = wst k v L ([], false) := hi
    refine .inr ⟨fun hh => (by cases hh), ?_⟩
    rw [← hi] at h1
    exact h1
noncomputable def hWe (r : Option (List AV × Nat)) (k v : Int) : St := ⟨[rowsV r, .int .u64 k, .int .u64 v, .any, .any, .any, .any, .nils, .bool false, .int .i64 0, .any, .any, .any, .any, .any, .any, .any, .any, .any, .any, .any, .any, .any, .any, .any, .any, .any, .any, .any, .any, .any, .any, .any, .any, .any, .any, .any, .any, .any, .any, .any, .any, .any, .any, .any, .any, .any, .any, .any, .any, .any, .any, .any, .any, .any, .any], [], ⟨[], 0, []⟩⟩
theorem ren_e (r : Option (List AV × Nat)) (k v : Int) : Less cR (hWe r k v) (hW r none k v false 0) := by
  have h := Less.ren (C := cR) [] 2 (st := hWe r k v) rfl rfl (by cases r <;> kernel_rfl)
  have e : renS [] 2 (hWe r k v) = hW r none k v false 0 := by
    cases r with
    | none => kernel_rfl
    | some p => obtain ⟨c, d⟩ := p; kernel_rfl
  rw [e] at h
  exact h
noncomputable def LFw (r w : Option (List AV × Nat)) (k v : Int) (put : Bool) (n : Int) : LF := fun st K => cond (onP (keepSH [0, 1, 2, 7, 8, 9] [] st = hWe r k v)) (K (.exit 0) (hW r w k v put n)) false
theorem lcW : loopsOf codeW = [.loop bW] := by kernel_rfl
/-- Own rows at a function's end. -/
noncomputable def frz : Option (List AV × Nat) → (AV → Bool) → Bool
  | none, K => K .nils
  | some p, K => br (Nat.beq p.2 0) (K .ns) (ba (Nat.ble (0 + p.2 * 2) p.1.length) (K (.lst (p.1.take (p.2 * 2)) p.2)))
theorem frz_ok {L : RL} {K : AV → Bool} (h : K (rowsV (rwo L)) = true) : frz (rwo L) K = true := by
  cases L with
  | nil => exact h
  | cons p l =>
    show br (Nat.beq (p :: l).length 0) (K .ns) _ = true
    refine btf rfl (band (Nat.ble_eq_true_of_le ?_) ?_)
    · show 0 + (p :: l).length * 2 ≤ (enc (p :: l)).length
      rw [enc_len]; omega
    · show K (.lst ((enc (p :: l)).take ((p :: l).length * 2)) (p :: l).length) = true
      rw [List.take_of_length_le (by rw [enc_len]; exact Nat.le_refl _)]
      exact h
theorem t_fw (r w : Option (List AV × Nat)) (k v n : Int) (put : Bool) (K : AV → Bool) : runFM cR 300 30 [LFw r w k v put n] [rowsV r, .int .u64 k, .int .u64 v] K =
    ba (onP (hWe r k v = hWe r k v)) (br (!put) (apC w (frz (some (apP w k v)) K)) (frz w K)) := by
  cases r with
  | none => cases w with
    | none => kernel_rfl
    | some q => obtain ⟨a, b⟩ := q; kernel_rfl
  | some p =>
    obtain ⟨a, b⟩ := p
    cases w with
    | none => kernel_rfl
    | some q => obtain ⟨a, b⟩ := q; kernel_rfl
theorem q_wth {L : RL} {k v : Int} (hl : L.length ≤ 1000) : ACalls Tryd.prog (gmap gs) 30 [rowsV (rwo L), .int .u64 k, .int .u64 v] (fun x => x = rowsV (rwo (withL L k v))) := by
  refine acalls_eqM (q := fun _ => false) base sums_nil (n := 300) (fs := [LFw (rwo L) (rwo (wst k v L ([], false)).1) k v (wst k v L ([], false)).2 (L.length : Int)]) (by kernel_rfl) ?_ fun K hK => ?_
  · show LoopsOk cR (loopsOf codeW) _
    rw [lcW]
    exact ⟨lf_ok (g := keepSH [0, 1, 2, 7, 8, 9] []) (fun s => LessS.keepSH _ _ s) (fun KK h => AWq.less (ren_e _ _ _) (zw0 hl h)), trivial⟩
  have hwl := wst_len k v L ([], false)
  have hwl : (wst k v L ([], false)).1.length ≤ 0 + L.length * 2 := hwl
  unfold withL at hK
  refine (t_fw _ _ _ _ _ _ K).trans (band (onP_true rfl) (bdt (fun h => apx_ok (by omega) ?_) (fun h => frz_ok ?_)))
  · rw [apP_is]
    refine frz_ok ?_
    cases hp : (wst k v L ([], false)).2 with
    | true => rw [hp] at h; cases h
    | false => rw [hp] at hK; exact hK
  · cases hp : (wst k v L ([], false)).2 with
    | true => rw [hp] at hK; exact hK
    | false => rw [hp] at h; cases h
/-! As summaries. -/
def decL : List AV → RL
  | .int _ a :: .int _ b :: l => (a, b) :: decL l
  | _ => []
theorem dec_enc : ∀ L : RL, decL (enc L) = L
  | [] => rfl
  | p :: l => by
    show (p.1, p.2) :: decL (enc l) = _
    rw [dec_enc l]
def decR : Option (List AV × Nat) → RL
  | none => []
  | some p => decL p.1
theorem dec_rwo (L : RL) : decR (rwo L) = L := by
  cases L with
  | nil => rfl
  | cons p l => exact dec_enc _
noncomputable def rwOk (r : Option (List AV × Nat)) : Bool := onP (r = rwo (decR r) ∧ (decR r).length ≤ 1000)
theorem rwOk_rwo {L : RL} (h : L.length ≤ 1000) : rwOk (rwo L) = true := onP_true (by rw [dec_rwo]; exact ⟨rfl, h⟩)
noncomputable def S_fnd : Sum := (29, on2 rRw (rI .u64) (fun r _ => rwOk r) (fun r k => .int .i64 (fI (decR r) k (decR r).length 0)))
theorem s_fnd : SumOk Tryd.prog (gmap gs) S_fnd := on2_sum fun r k hp => by
  obtain ⟨h1, h2⟩ := of_onP hp
  have := q_fnd (L := decR r) (k := k) (by omega)
  rw [← h1] at this
  exact this
noncomputable def S_wth : Sum := (30, on3 rRw (rI .u64) (rI .u64) (fun r _ _ => rwOk r) (fun r k v => rowsV (rwo (withL (decR r) k v))))
theorem s_wth : SumOk Tryd.prog (gmap gs) S_wth := on3_sum fun r k v hp => by
  obtain ⟨h1, h2⟩ := of_onP hp
  have := q_wth (L := decR r) (k := k) (v := v) h2
  rw [← h1] at this
  exact this
end Go.Bas.BasAvW
end
