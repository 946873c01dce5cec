/- The program's rows of a table's cells: its first loop, a round; Plain law: the nodes below a node: what the program sums up is what the document counts; The program's rows of a table's cells: what its first loop comes to; The engine: a region that stands behind a deferred call: what is deferred stays asv it is; The engine, part Mk: calls that give up: known asv such, and used where they stand; The engine, part Ms: what a call does at known arguments and memory, giving up or not; regions with; The document's rows of rules' cells (access); slices.SortFunc over rows, by their keys: what its call makes of the rows' block; slices.SortFunc over own rows, asv the engine sees it; The program's sorted: rows by their keys; it gives up where two are the same; The program's sorted, at no rows too; The program's rows of a table's cells: its second loop; The program's rows of a table's cells: its contract, where they may be, and where it gives up. -/
import Derived.Test.YtjibpphcdfbgkaaDoorBasW7
import Derived.DefersIn
import Derived.RecoverIn
import Derived.Shelf.SlSortCmp.NoneTotal
import Derived.Shelf.Lay
import Derived.Ground.SlsfProg
section
namespace Go.Bas.BasAvP1
open Go.RowKit Go.Proofs
open Go.Bas.BasZBase Go.Bas.BasAvR1 Go.Bas.BasAvR2
set_option maxRecDepth 100000
set_option maxHeartbeats 4000000
set_option linter.unusedVariables false
set_option linter.unusedSimpArgs false
noncomputable abbrev codeP : Code := fcode Tryd.prog 54
noncomputable abbrev bodyP : Code := loopAt codeP [0]
noncomputable abbrev bodyQ : Code := loopAt codeP [1]
/-- What gives up. -/
noncomputable abbrev pan : Ex := .panic (.iface 27 (.int .i64 2))
noncomputable def hP (c : Conf) (us : List AV) (m q : Nat) (mc : List AV) (n : Int) (nx : Nat) : St := ⟨[.any, .ptr 0 0, .nils, .sl 2 0 q 1 true, .int .i64 n, .any, .any, .any, .any, .any, .any, .any, .any, .any, .any, .any, .any, .any, .any, .any, .any, .any, .any, .any, .any, .any, .any, .any, .any, .any, .any, .any, .any, .any, .any, .any, .any, .any, .any, .any, .any, .any, .any, .any, .any, .any, .any, .any, .any, .any, .any, .any, .any, .any, .any, .any, .any, .any, .any, .any, .any, .any, .any, .any, .any, .any, .any, .any, .any, .any, .any, .any, .any, .any, .any, .any, .any, .any, .any, .any, .any, .any, .any, .any, .any, .any, .any, .any, .any, .any, .any, .any, .any, .any, .any, .any, .any, .any, .any, .any, .any, .any, .any, .any, .any, .any, .any, .any, .any, .any, .any, .any, .any, .any, .any, .any, .any, .any, .any, .any, .any, .any, .any, .any, .any], [], ⟨[(2, ⟨mc, 22, true⟩), (0, ⟨c.cells ++ [.lst us m], 54, true⟩)], nx, []⟩⟩
/-- A word of an own block is read, and is written. -/
noncomputable def rdM (mc : List AV) (q : Nat) (i : Int) (x : Int → Bool) : Bool := ba (inside i q) (ba (Nat.ble ((0 + i.toNat * 1) + 1) mc.length) (ba (AV.isI .u64 (lget mc (0 + i.toNat * 1))) (x (lget mc (0 + i.toNat * 1)).toI)))
noncomputable def wrM (mc : List AV) (q : Nat) (i v : Int) (x : List AV → Bool) : Bool := ba (inside i q) (ba (Nat.ble ((0 + i.toNat * 1) + 1) mc.length) (x (setAt mc (0 + i.toNat * 1) [.int .u64 v])))
noncomputable def ld4 (us : List AV) (m : Nat) (i : Int) (x : Bool) : Bool := ba (inside i m && Nat.beq (List.length us) (m * 4)) (ba (Nat.ble (i.toNat * 4 + 4) (List.length us)) (ba (AV.isI .u64 (lget us (i.toNat * 4))) (ba (AV.isI .u64 (lget us (i.toNat * 4 + 1))) (ba (AV.isI .u64 (lget us (i.toNat * 4 + 1 + 1))) (ba (AV.isI .u64 (lget us (i.toNat * 4 + 1 + 1 + 1))) x)))))
noncomputable def tChk (c : Conf) (us : List AV) (m q : Nat) (mc : List AV) (n : Int) (K : Ex → St → Bool) : Bool :=
  br (decide ((lget us (n.toNat * 4 + 1)).toI ≤ 2147483648)) (br (decide ((lget us (n.toNat * 4 + 1 + 1 + 1)).toI = 0)) (rdM mc q n fun v => br (!decide ((lget us (n.toNat * 4 + 1 + 1)).toI = v)) (K pan (hP c us m q mc n 4)) (K .normal (hP c us m q mc (IntKind.wrap .i64 (n - 1)) 4))) (K pan (hP c us m q mc n 4))) (K pan (hP c us m q mc n 4))
noncomputable def tRest (c : Conf) (us : List AV) (m q : Nat) (mc : List AV) (n : Int) (K : Ex → St → Bool) : Bool :=
  br (!decide ((lget us (n.toNat * 4 + 1)).toI = 0)) (rdM mc q n fun v => wrM mc q n (IntKind.wrap .u64 (v + 1)) fun mc1 => tChk c us m q mc1 n K) (tChk c us m q mc n K)
theorem t_p0 (c : Conf) (us : List AV) (m q : Nat) (mc : List AV) (n : Int) (K : Ex → St → Bool) : runM cR 300 bodyP [] (hP c us m q mc n 3) (fun e s => K e (keepSH [1, 2, 3, 4] [0, 2] s)) =
    br (decide (n ≥ 1)) (ld4 us m n (rdM mc q (IntKind.wrap .i64 (2 * n)) fun v => wrM mc q n v fun mc1 => br (decide (IntKind.wrap .i64 (IntKind.wrap .i64 (2 * n) + 1) < Int.ofNat q))
      (rdM mc1 q n fun v1 => rdM mc1 q (IntKind.wrap .i64 (IntKind.wrap .i64 (2 * n) + 1)) fun v2 => wrM mc1 q n (IntKind.wrap .u64 (v1 + v2)) fun mc2 => tRest c us m q mc2 n K) (tRest c us m q mc1 n K))) (K (.exit 0) (hP c us m q mc n 3)) := by kernel_rfl
end Go.Bas.BasAvP1
end
section
namespace Go.Bas.BasAvM
open Go.RowKit Go.Proofs
open Go.Bas.BasZBase Go.Bas.BasAvR1 Go.Bas.BasAvR2
set_option maxRecDepth 100000
set_option linter.unusedVariables false
set_option linter.unusedSimpArgs false
/-- A node is below another. -/
def Dn (n k : Nat) : Prop := anc n k = n
theorem dn_lt {n k : Nat} (h : k < n) : ¬ Dn n k := fun hd => by
  unfold Dn at hd
  rw [anc_is (by omega)] at hd
  omega
theorem dn_eq (n : Nat) : Dn n n := anc_is (by omega)
theorem dn_gt {n k : Nat} (h : n < k) : Dn n k ↔ Dn n (k / 2) := by
  unfold Dn
  rw [anc_up h]
theorem dn_split {n : Nat} (hn : 1 ≤ n) : ∀ k, Dn n k ↔ k = n ∨ Dn (2 * n) k ∨ Dn (2 * n + 1) k := fun k => by
  induction k using Nat.strongRecOn with
  | _ k ih =>
    rcases (show k < n ∨ k = n ∨ n < k ∧ k < 2 * n ∨ k = 2 * n ∨ k = 2 * n + 1 ∨ 2 * n + 1 < k by omega) with h | h | h | h | h | h
    · constructor
      · exact fun hd => absurd hd (dn_lt h)
      · rintro (hd | hd | hd)
        · omega
        · exact absurd hd (dn_lt (by omega))
        · exact absurd hd (dn_lt (by omega))
    · subst h
      exact ⟨fun _ => .inl rfl, fun _ => dn_eq _⟩
    · constructor
      · intro hd
        exact absurd ((dn_gt h.1).1 hd) (dn_lt (by omega))
      · rintro (hd | hd | hd)
        · omega
        · exact absurd hd (dn_lt (by omega))
        · exact absurd hd (dn_lt (by omega))
    · subst h
      refine ⟨fun _ => .inr (.inl (dn_eq _)), fun _ => (dn_gt (by omega)).2 ?_⟩
      rw [show 2 * n / 2 = n by omega]
      exact dn_eq n
    · subst h
      refine ⟨fun _ => .inr (.inr (dn_eq _)), fun _ => (dn_gt (by omega)).2 ?_⟩
      rw [show (2 * n + 1) / 2 = n by omega]
      exact dn_eq n
    · rw [dn_gt (n := n) (by omega), dn_gt (n := 2 * n) (by omega), dn_gt (n := 2 * n + 1) (by omega), ih (k / 2) (by omega)]
      constructor
      · rintro (hd | hd)
        · omega
        · exact .inr hd
      · rintro (hd | hd)
        · omega
        · exact .inr hd
theorem dn_not {n : Nat} (hn : 1 ≤ n) : ∀ k, ¬ (Dn (2 * n) k ∧ Dn (2 * n + 1) k) := fun k => by
  induction k using Nat.strongRecOn with
  | _ k ih =>
    rintro ⟨h1, h2⟩
    rcases (show k < 2 * n + 1 ∨ k = 2 * n + 1 ∨ 2 * n + 1 < k by omega) with h | h | h
    · exact dn_lt h h2
    · subst h
      have := (dn_gt (by omega)).1 h1
      rw [show (2 * n + 1) / 2 = n by omega] at this
      exact dn_lt (by omega) this
    · exact ih (k / 2) (by omega) ⟨(dn_gt (by omega)).1 h1, (dn_gt (by omega)).1 h2⟩
/-- One, where a node is below and has something. -/
noncomputable def ind (us : List AV) (n k : Nat) : Nat := cond (decide (anc n k = n) && !decide (cA us k = 0)) 1 0
noncomputable def tot (us : List AV) (n : Nat) : Nat → Nat
  | 0 => 0
  | m + 1 => tot us n m + ind us n m
theorem ind_no {us : List AV} {n k : Nat} (h : ¬ Dn n k) : ind us n k = 0 := by
  unfold ind
  rw [decide_eq_false (show ¬ anc n k = n from h)]
  rfl
theorem ind_yes {us : List AV} {n k : Nat} (h : Dn n k) : ind us n k = cond (!decide (cA us k = 0)) 1 0 := by
  unfold ind
  rw [decide_eq_true (show anc n k = n from h), Bool.true_and]
theorem tot_low (us : List AV) (n : Nat) : ∀ m, m ≤ n → tot us n m = 0
  | 0, _ => rfl
  | m + 1, h => by
    show tot us n m + ind us n m = 0
    rw [tot_low us n m (by omega), ind_no (dn_lt (by omega))]
theorem cnt_tot (us : List AV) (n : Nat) : ∀ j, cnt us n j = tot us n (n + j)
  | 0 => (tot_low us n n (Nat.le_refl _)).symm
  | j + 1 => by
    show cnt us n j + ind us n (n + j) = tot us n (n + j) + ind us n (n + j)
    rw [cnt_tot us n j]
theorem tot_split (us : List AV) {n : Nat} (hn : 1 ≤ n) : ∀ m, tot us n m = cond (decide (n < m) && !decide (cA us n = 0)) 1 0 + tot us (2 * n) m + tot us (2 * n + 1) m
  | 0 => rfl
  | m + 1 => by
    show tot us n m + ind us n m = _ + (tot us (2 * n) m + ind us (2 * n) m) + (tot us (2 * n + 1) m + ind us (2 * n + 1) m)
    rw [tot_split us hn m]
    have hs := dn_split hn m
    by_cases h0 : m = n
    · subst h0
      rw [ind_yes (dn_eq m), ind_no (dn_lt (n := 2 * m) (by omega)), ind_no (dn_lt (n := 2 * m + 1) (by omega)), decide_eq_false (Nat.lt_irrefl m), decide_eq_true (Nat.lt_succ_self m)]
      simp only [Bool.false_and, Bool.true_and, cond_false]
      omega
    · have e : decide (n < m) = decide (n < m + 1) := by
        by_cases h : n < m
        · rw [decide_eq_true h, decide_eq_true (by omega)]
        · rw [decide_eq_false h, decide_eq_false (by omega)]
      rw [e]
      by_cases h1 : Dn (2 * n) m
      · rw [ind_yes (hs.2 (.inr (.inl h1))), ind_yes h1, ind_no (fun h2 => dn_not hn m ⟨h1, h2⟩)]
        omega
      · by_cases h2 : Dn (2 * n + 1) m
        · rw [ind_yes (hs.2 (.inr (.inr h2))), ind_no h1, ind_yes h2]
          omega
        · rw [ind_no (fun h => by rcases hs.1 h with h | h | h; exact h0 h; exact h1 h; exact h2 h), ind_no h1, ind_no h2]
          omega
theorem tot_le (us : List AV) (n : Nat) : ∀ m, tot us n m ≤ m
  | 0 => Nat.le_refl _
  | m + 1 => by
    have h1 := tot_le us n m
    have h2 : ind us n m ≤ 1 := by
      unfold ind
      cases (decide (anc n m = n) && !decide (cA us m = 0)) <;> simp
    show tot us n m + ind us n m ≤ m + 1
    omega
/-- What the program sums up. -/
theorem tot_high (us : List AV) {n m : Nat} (h : m ≤ n) : tot us n m = 0 := tot_low us n m h
end Go.Bas.BasAvM
end
section
namespace Go.Bas.BasAvP2
open Go.RowKit Go.Proofs
open Go.Bas.BasZBase Go.Bas.BasAvR1 Go.Bas.BasAvR2 Go.Bas.BasAvP1 Go.Bas.BasAvM
set_option maxRecDepth 100000
set_option maxHeartbeats 4000000
set_option linter.unusedVariables false
set_option linter.unusedSimpArgs false
theorem set_self {l : List AV} {i : Nat} {v : AV} (h : i < l.length) : lget (l.set i v) i = v := by rw [lget_eq]; simp [h]
theorem set_ne {l : List AV} {i j : Nat} {v : AV} (h : i ≠ j) : lget (l.set i v) j = lget l j := by rw [lget_eq, lget_eq]; simp [List.getElem?_set_ne h]
theorem rdM_ok {mc : List AV} {q i : Nat} {v : Int} {x : Int → Bool} (hl : mc.length = q) (hi : i < q) (hv : lget mc i = .int .u64 v) (hx : x v = true) : rdM mc q (i : Int) x = true := by
  have e : 0 + ((i : Nat) : Int).toNat * 1 = i := by rw [Int.toNat_natCast]; omega
  unfold rdM
  rw [e, hv]
  refine band ?_ (band (Nat.ble_eq_true_of_le (by omega)) (band rfl hx))
  simp only [inside, Bool.and_eq_true, decide_eq_true_eq]
  omega
theorem wrM_ok {mc : List AV} {q i : Nat} {v : Int} {x : List AV → Bool} (hl : mc.length = q) (hi : i < q) (hx : x (mc.set i (.int .u64 v)) = true) : wrM mc q (i : Int) v x = true := by
  have e : 0 + ((i : Nat) : Int).toNat * 1 = i := by rw [Int.toNat_natCast]; omega
  unfold wrM
  rw [e]
  refine band ?_ (band (Nat.ble_eq_true_of_le (by omega)) hx)
  simp only [inside, Bool.and_eq_true, decide_eq_true_eq]
  omega
theorem ld4_ok {us : List AV} {m : Nat} (hc : CL us m) {i : Nat} (hi : i < m) {x : Bool} (hx : x = true) : ld4 us m (i : Int) x = true := by
  have e : ((i : Nat) : Int).toNat = i := rfl
  have g := fun j (hj : j < us.length) => (hc.2.2 j hj).1
  have hl := hc.1
  unfold ld4
  rw [e]
  refine band ?_ (band (Nat.ble_eq_true_of_le (by omega)) (band (g _ (by omega)) (band (g _ (by omega)) (band (g _ (by omega)) (band (g _ (by omega)) hx)))))
  rw [hl]
  simp only [inside, Bool.and_eq_true, decide_eq_true_eq]
  exact ⟨⟨Int.natCast_nonneg _, by omega⟩, Nat.beq_refl _⟩
/-- The sums of the nodes behind one. -/
def SM (us : List AV) (m : Nat) (n : Nat) (mc : List AV) : Prop := n < m ∧ mc.length = 2 * m ∧ (∀ j, n < j → j < 2 * m → lget mc j = .int .u64 ((tot us j m : Nat) : Int)) ∧ (∀ j, j ≤ n → lget mc j = .int .u64 0) ∧ (∀ i, n < i → i < m → ¬ Bad us m i)
theorem lp : loopsOf bodyP = [] := by kernel_rfl
theorem ren_P (c : Conf) (us : List AV) (m q : Nat) (mc : List AV) (n : Int) : Less cR (hP c us m q mc n 4) (hP c us m q mc n 3) := by
  have h := Less.ren (C := cR) [] 3 (st := hP c us m q mc n 4) rfl rfl (by kernel_rfl)
  have e : renS [] 3 (hP c us m q mc n 4) = hP c us m q mc n 3 := by kernel_rfl
  rw [e] at h
  exact h
/-- The first loop. -/
theorem zp0 {c : Conf} {us : List AV} {m n : Nat} {mc : List AV} (hc : CL us m) (hs : SM us m n mc) {KK : Ex → St → Prop} (hOk : (∀ i, 1 ≤ i → i < m → ¬ Bad us m i) → ∀ mc, KK (.exit 0) (hP c us m (2 * m) mc 0 3)) (hBad : (∃ i, 1 ≤ i ∧ i < m ∧ Bad us m i) → ∀ mc n, KK pan (hP c us m (2 * m) mc n 4)) :
    AWq cR (.loop bodyP) (hP c us m (2 * m) mc (n : Int) 3) KK := by
  have hm := hc.2.1
  refine awq_loopK hC (ι := { p : Nat × List AV // SM us m p.1 p.2 }) (fun p => hP c us m (2 * m) p.1.2 (p.1.1 : Int) 3) (fun p => p.1.1) (n := 300) (l := fun _ => []) (g := keepSH [1, 2, 3, 4] [0, 2]) (fun _ => by rw [lp]; exact trivial) (fun s => LessS.keepSH _ _ s) ?_ ⟨(n, mc), hs⟩
  rintro ⟨⟨n, mc⟩, hs⟩ K hk
  obtain ⟨s1, s2, s3, s4, s5⟩ := hs
  simp only at s1 s2 s3 s4 s5
  refine (t_p0 c us m (2 * m) mc (n : Int) K).trans (bdt (fun h => ?_) (fun h => hk _ _ ?_))
  · have h : (n : Int) ≥ 1 := of_decide_eq_true h
    have hn : 1 ≤ n := by omega
    have hw : ((n : Nat) : Int).toNat = n := rfl
    have e2 : IntKind.wrap .i64 (2 * (n : Int)) = ((2 * n : Nat) : Int) := by rw [wI (by omega) (by omega)]; omega
    have e3 : IntKind.wrap .i64 (((2 * n : Nat) : Int) + 1) = ((2 * n + 1 : Nat) : Int) := by rw [wI (by omega) (by omega)]; omega
    have e4 : IntKind.wrap .i64 ((n : Int) - 1) = ((n - 1 : Nat) : Int) := by rw [wI (by omega) (by omega)]; omega
    have l1 := tot_le us (2 * n) m
    have l2 := tot_le us (2 * n + 1) m
    have l3 := tot_le us n m
    have hsp := tot_split us hn m
    rw [decide_eq_true s1, Bool.true_and] at hsp
    have hcn : cnt us n (m - n) = tot us n m := by rw [cnt_tot, show n + (m - n) = m by omega]
    rw [e2, e3]
    refine ld4_ok hc s1 (rdM_ok s2 (by omega) (s3 _ (by omega) (by omega)) (wrM_ok s2 (by omega) (btb (decide_eq_true (by show ((2 * n + 1 : Nat) : Int) < ((2 * m : Nat) : Int); omega)) ?_)))
    have k2 : (mc.set n (.int .u64 ((tot us (2 * n) m : Nat) : Int))).length = 2 * m := by rw [List.length_set]; exact s2
    refine rdM_ok k2 (by omega) (set_self (by omega)) (rdM_ok k2 (by omega) ((set_ne (by omega)).trans (s3 _ (by omega) (by omega))) (wrM_ok k2 (by omega) ?_))
    have e5 : IntKind.wrap .u64 (((tot us (2 * n) m : Nat) : Int) + ((tot us (2 * n + 1) m : Nat) : Int)) = ((tot us (2 * n) m + tot us (2 * n + 1) m : Nat) : Int) := by rw [wU (by omega) (by omega)]; omega
    rw [e5, List.set_set]
    generalize hT : tot us (2 * n) m + tot us (2 * n + 1) m = T at hsp
    have k3 : ∀ v : Int, (mc.set n (.int .u64 v)).length = 2 * m := fun v => by rw [List.length_set]; exact s2
    have chk : ∀ mc', mc' = mc.set n (.int .u64 ((tot us n m : Nat) : Int)) → tChk c us m (2 * m) mc' (n : Int) K = true := fun mc' hmc => by
      subst hmc
      unfold tChk
      rw [hw, e4]
      have bad : Bad us m n → RndG cR (fun p : { p : Nat × List AV // SM us m p.1 p.2 } => hP c us m (2 * m) p.1.2 (p.1.1 : Int) 3) (fun p => p.1.1) KK ⟨(n, mc), ⟨s1, s2, s3, s4, s5⟩⟩ pan (hP c us m (2 * m) (mc.set n (.int .u64 ((tot us n m : Nat) : Int))) (n : Int) 4) := fun hb => .inr ⟨fun hh => (by cases hh), hBad ⟨n, hn, s1, hb⟩ _ _⟩
      refine bdt (fun a1 => bdt (fun a2 => rdM_ok (k3 _) (by omega) (set_self (by omega)) (bdt (fun a3 => hk _ _ (bad (.inr (.inl ?_)))) (fun a3 => hk _ _ ?_))) (fun a2 => hk _ _ (bad (.inr (.inr (of_decide_eq_false a2)))))) (fun a1 => hk _ _ (bad (.inl ?_)))
      · intro hh
        rw [hcn] at hh
        rw [show (lget us (n * 4 + 1 + 1)).toI = ((tot us n m : Nat) : Int) from hh] at a3
        simp at a3
      · have b1 : cA us n ≤ 2147483648 := of_decide_eq_true a1
        have b2 : cC us n = 0 := of_decide_eq_true a2
        have b3 : (lget us (n * 4 + 1 + 1)).toI = ((tot us n m : Nat) : Int) := by simpa using a3
        have hnb : ¬ Bad us m n := by
          rintro (hb | hb | hb)
          · omega
          · exact hb (by rw [hcn]; exact b3)
          · exact hb b2
        refine .inl ⟨rfl, ⟨(n - 1, mc.set n (.int .u64 ((tot us n m : Nat) : Int))), by show n - 1 < m; omega, k3 _, fun j h1 h2 => ?_, fun j h1 => ?_, fun i h1 h2 => ?_⟩, by show n - 1 < n; omega, ren_P _ _ _ _ _ _⟩
        · have h1 : n - 1 < j := h1
          by_cases hj : j = n
          · subst hj; exact set_self (by omega)
          · exact (set_ne (by omega)).trans (s3 j (by omega) h2)
        · have h1 : j ≤ n - 1 := h1
          exact (set_ne (by omega)).trans (s4 j (by omega))
        · have h1 : n - 1 < i := h1
          by_cases hi : i = n
          · subst hi; exact hnb
          · exact s5 i (by omega) h2
      · have b1 : ¬ cA us n ≤ 2147483648 := of_decide_eq_false a1
        omega
    unfold tRest
    rw [hw]
    refine bdt (fun a0 => rdM_ok (k3 _) (by omega) (set_self (by omega)) (wrM_ok (k3 _) (by omega) ?_)) (fun a0 => chk _ ?_)
    · rw [List.set_set]
      have hz : cA us n ≠ 0 := by
        intro hh
        rw [show (lget us (n * 4 + 1)).toI = 0 from hh] at a0
        cases a0
      rw [decide_eq_false hz] at hsp
      have hsp : tot us n m = 1 + tot us (2 * n) m + tot us (2 * n + 1) m := hsp
      refine chk _ ?_
      rw [show IntKind.wrap .u64 ((T : Int) + 1) = ((tot us n m : Nat) : Int) by rw [wU (by omega) (by omega)]; omega]
    · have hz : (lget us (n * 4 + 1)).toI = 0 := by simpa using a0
      rw [decide_eq_true (show cA us n = 0 from hz)] at hsp
      have hsp : tot us n m = 0 + tot us (2 * n) m + tot us (2 * n + 1) m := hsp
      rw [show (T : Int) = ((tot us n m : Nat) : Int) by omega]
  · have h : ¬ (n : Int) ≥ 1 := of_decide_eq_false h
    have h0 : n = 0 := by omega
    subst h0
    exact .inr ⟨fun hh => (by cases hh), hOk (fun i h1 h2 => s5 i (by omega) h2) _⟩
end Go.Bas.BasAvP2
end
section
namespace Go.Bas
open Go.RowKit
set_option linter.unusedSimpArgs false
set_option linter.unusedVariables false
def withD (a : Act) (ds : List Deferred) : Act := { a with defers := ds }
theorem put_withD (a : Act) (ds : List Deferred) (dst : Option Nat) (u : Value) : (withD a ds).put dst u = withD (a.put dst u) ds := by cases dst <;> rfl
section
variable {C : Cfg} {B : Nat → Prop}
theorem ops_soundD {call : CallF Bool} (hcall : CallOk C call) (hmap : MapOk C) {ro : Option Nat} {ops : Array Oper} {Q : Exit → Act → World → Prop} {k : St → Bool} {kp : AV → St → Bool} {ds : List Deferred} :
    ∀ (rest : List Oper) (i : Nat), ops.toList.drop i = rest → ∀ (st : St) (a : Act) (w : World) (oC oL : Nat → Prop) (ω : Nat → Option Nat), opsK C call ops rest st k kp false = true → Sim C w B oC oL ω st a →
      (∀ st' a' w' oC' oL' ω', Sim C w' B oC' oL' ω' st' a' → ExtR w oC oL ω st.m.nx w' oC' oL' ω' st'.m.nx → k st' = true → Q .normal (withD a' ds) w') →
      (∀ v u st' a' w' oC' oL' ω', Sim C w' B oC' oL' ω' st' a' → ExtR w oC oL ω st.m.nx w' oC' oL' ω' st'.m.nx → kp v st' = true → Rep w' (Or2 B oL') oC' ω' st'.m.nx v u → Q (.panic [{ v := u, recovered := false }]) (withD a' ds) w') →
      wpOpsIn (Fr ro) 0 C.P ops Q (List.range' i rest.length) (withD a ds) w
  | [], i, _, st, a, w, oC, oL, ω, hk, S, hQ, hP => hQ st a w oC oL ω S ExtR.refl hk
  | o :: r, i, hd, st, a, w, oC, oL, ω, hk, S, hQ, hP => by
    have hlt : i < ops.toList.length := by
      rcases Nat.lt_or_ge i ops.toList.length with h | h
      · exact h
      · rw [List.drop_eq_nil_of_le h] at hd; cases hd
    have ho : ops[i]? = some o := by
      have h0 : (ops.toList.drop i)[0]? = some o := by rw [hd]; rfl
      rw [List.getElem?_drop] at h0
      simpa using h0
    have hr : ops.toList.drop (i + 1) = r := by rw [← List.drop_drop, hd]; rfl
    have go : ∀ (v : AV) (u : Value) (m' : Mem) (w' : World) (oC' oL' : Nat → Prop) (ω' : Nat → Option Nat), opsK C call ops r ⟨setT st.tmps o.dst v, st.ds, m'⟩ k kp false = true → ExtR w oC oL ω st.m.nx w' oC' oL' ω' m'.nx → MemSim C w' B oC' oL' ω' m' → Rep w' (Or2 B oL') oC' ω' m'.nx v u →
        wpOpsIn (Fr ro) 0 C.P ops Q (List.range' (i + 1) r.length) ((withD a ds).put o.dst u) w' := fun v u m' w' oC' oL' ω' hk E M hr' => by
      rw [put_withD]
      exact ops_soundD hcall hmap r (i + 1) hr _ _ w' oC' oL' ω' hk (S.put E M hr') (fun st' a' w'' oC'' oL'' ω'' S' E' hk' => hQ st' a' w'' oC'' oL'' ω'' S' (E.trans E') hk')
        (fun v u st' a' w'' oC'' oL'' ω'' S' E' hk' hr'' => hP v u st' a' w'' oC'' oL'' ω'' S' (E.trans E') hk' hr'')
    simp only [List.length_cons, List.range'_succ, wpOpsIn, ho]
    rw [opsK_cons] at hk
    have htm : (withD a ds).tmps = a.tmps := rfl
    rw [htm]
    rcases guardK_sound S.tm hk with ⟨hw, h⟩ | ⟨hw, h⟩
    · rw [if_pos hw]
      rcases of_cond2 h with ⟨hb, h⟩ | ⟨hb, h⟩
      · obtain ⟨v, u, m', w', oC', oL', ω', hrun, h1, h2, h3, h4⟩ := hmap w B oC oL ω st.m _ (withD a ds).eval o _ h S.ms S.ev
        refine ⟨about_fr _ _ _ _ _, ?_⟩
        rw [Oper.semAt_eq _ _ _ (fun c e => by rw [e] at hb; cases hb)]
        have := go v u m' w' oC' oL' ω' h1 h2 h3 h4
        rcases hrun with hrun | ⟨hrun, rfl⟩
        · rw [hrun, Oper.uponIn_value]; exact this
        · rw [hrun, Oper.uponIn_skip]; exact this
      exact oper_wp hcall (st := st) (a := withD a ds) (h := st.m.heap) S.ms S.ev h (fun v u h' nx' w' oC' ω' hk' E M hr' => go v u _ w' oC' oL ω' hk' E.toR M hr')
        (fun v m' => opsK C call ops r ⟨setT st.tmps o.dst v, st.ds, m'⟩ k kp false) (fun v m' => kp v ⟨st.tmps, st.ds, m'⟩) (fun t args h => h)
        (fun v u m' w' oC' oL' ω' hk' E M hr' => go v u m' w' oC' oL' ω' hk' E M hr')
        (fun v u m' w' oC' oL' ω' hk' E M hr' => hP v u ⟨st.tmps, st.ds, m'⟩ a w' oC' oL' ω' ⟨S.tm.extR E, S.dn.extR E, M⟩ E hk' hr')
        (fun v u hk' hr' => hP v u _ a w oC oL ω S ExtR.refl hk' hr')
    · rw [if_neg (by simp [hw])]
      exact ⟨about_fr _ _ _ _ _, go (.tup []) undef st.m w oC oL ω h ExtR.refl S.ms (.tup _ _ _ rfl (fun i hi => absurd hi (Nat.not_lt_zero _)))⟩
/-- Of the loops' blocks nothing is looked at again. -/
noncomputable def dropLp (st : St) : St := ⟨st.tmps, st.ds, ⟨st.m.heap, st.m.nx, []⟩⟩
theorem LessS.dropLp (st : St) : LessS C st (Bas.dropLp st) := ⟨rfl, fun w B oC oL ω a S => ⟨S.tm, S.dn, ⟨S.ms.hp, ⟨fun id e h => (by cases h), fun i j l h => (by cases h), S.ms.lp.dis⟩, S.ms.gl, S.ms.gb, S.ms.bl⟩⟩⟩
noncomputable def keepSN (ls ids : List Nat) (st : St) : St := Bas.dropLp (keepSH ls ids st)
theorem LessS.keepSN (ls ids : List Nat) (st : St) : LessS C st (Bas.keepSN ls ids st) := (LessS.keepSH ls ids st).trans' (LessS.dropLp _)
variable {n : Nat} {Q : Exit → Act → World → Prop}
/-- Pieces of code one behind the other, none of which leaves. -/
noncomputable def runs {Ω : Type} (C : Cfg) (n : Nat) : List Code → St → (St → Ω) → Ω → Ω
  | [], st, k, _ => k st
  | p :: ps, st, k, z => run C n none none p st (fun e s => match e with
    | .normal => runs C n ps s k z
    | _ => z) z
def seqs : List Code → Code → Code
  | [], t => t
  | p :: ps, t => .seq p (seqs ps t)
theorem runs_wp (hC : C.Ok) {t : Code} {k : St → Bool} : ∀ (ps : List Code) (st : St) (a : Act) (w : World) (oC oL : Nat → Prop) (ω : Nat → Option Nat), runs C n ps st k false = true → Sim C w B oC oL ω st a →
    (∀ s a' w' oC' oL' ω', k s = true → Sim C w' B oC' oL' ω' s a' → ExtR w oC oL ω st.m.nx w' oC' oL' ω' s.m.nx → t.wpIn (Fr none) 0 C.P Q a' w') → (seqs ps t).wpIn (Fr none) 0 C.P Q a w
  | [], st, a, w, oC, oL, ω, hk, S, h => h st a w oC oL ω hk S ExtR.refl
  | p :: ps, st, a, w, oC, oL, ω, hk, S, h => by
    refine wpIn_seq ?_
    refine (run_sound hC n).1 none p st _ w B oC oL ω a _ none hk S trivial (fun e s a' w' oC' oL' ω' out S' E hk' ho => ?_)
    cases e with
    | normal =>
      have ho : out = .normal := ho
      subst ho
      exact runs_wp hC ps s a' w' oC' oL' ω' hk' S' (fun s2 a2 w2 oC2 oL2 ω2 hk2 S2 E2 => h s2 a2 w2 oC2 oL2 ω2 hk2 S2 (E.trans E2))
    | exit id => cases hk'
    | goto l => cases hk'
    | ret => cases hk'
    | panic v => cases hk'
end
end Go.Bas
end
section
namespace Go.Bas
open Go.RowKit
set_option linter.unusedSimpArgs false
set_option linter.unusedVariables false
/-- A call that gives up with a number in an interface, and leaves all asv it was. -/
def PCalls (P : Program) (G : Nat → Option (List AV)) (f : FuncId) (args : List AV) (t : TypeId) (k : IntKind) (i : Int) : Prop :=
  ∀ (w : World) (us : Array Value) (bad : Nat → Prop), GOk G w → (∀ g cells, G g = some cells → ¬ bad g) → (∀ b, bad b → b < w.heap.size) → RepL w bad (fun _ => False) (fun _ => none) 0 args us → Calls P f us w fun e w' =>
    e = .panicked [{ v := .iface t (.int k i), recovered := false }] ∧ Still w w'
section
variable {C : Cfg}
theorem rep_ifi {w : World} {B own : Nat → Prop} {ω : Nat → Option Nat} {nx : Nat} {t : TypeId} {k : IntKind} {i : Int} {u : Value} (h : Rep w B own ω nx (.iface t (.int k i)) u) : u = .iface t (.int k i) := by
  cases h with
  | iface _ _ _ u0 h0 =>
    cases h0 with
    | int _ _ => rfl
/-- A call that gives up, out of what its body comes to. -/
theorem pcalls_of_awq {f : FuncId} {args : List AV} {t : TypeId} {x : IntKind} {i : Int} (hf : ((C.P.funcs[f]?).bind (·.body)).isSome = true)
    (h : AWq C (fcode C.P f) (st0 C.P f args) (fun e s => e = .panic (.iface t (.int x i)) ∧ s.ds = [] ∧ s.m.lp = [])) : PCalls C.P C.G f args t x i := by
  obtain ⟨fn, hfn⟩ : ∃ fn, C.P.funcs[f]? = some fn := by
    cases hq : C.P.funcs[f]? with
    | none => rw [hq] at hf; cases hf
    | some fn => exact ⟨fn, rfl⟩
  obtain ⟨c, hb⟩ : ∃ c, fn.body = some c := by
    rw [hfn] at hf
    exact Option.isSome_iff_exists.1 hf
  have ec : fcode C.P f = c := by simp [fcode, hfn, hb]
  rw [ec] at h
  simp only [st0, hfn, Option.map_some, Option.getD_some] at h
  intro w us bad hg gb bl hr
  refine (callsIn_calls (ro := none) (n := 0)).1 (callsIn_of_wp_marks hfn hb trivial ?_ rfl)
  have H0 : Hp w (Or2 bad (fun _ => False)) (fun _ => False) (fun _ => none) 0 [] := ⟨fun id hb h => (by cases h), fun i j b h => (by cases h), fun b (h : False) => h.elim⟩
  have M0 : MemSim C w bad (fun _ => False) (fun _ => False) (fun _ => none) ⟨[], 0, []⟩ := ⟨H0, ⟨fun id e h => (by cases h), fun i j l h => (by cases h), fun l (h : False) => h.elim⟩, hg, fun g cells h => ⟨fun h => h, fun h => h, gb g cells h⟩, bl⟩
  have hl : RepL w (Or2 bad (fun _ => False)) (fun _ => False) (fun _ => none) 0 (padL args fn.ntmps) (us ++ Array.replicate (fn.ntmps - us.size) undef) :=
    (pad_rep hr fn.ntmps).other fun b h1 h2 => ⟨h1, fun h => h.elim h2 (fun h => h)⟩
  refine h w bad (fun _ => False) (fun _ => False) (fun _ => none) _ _ ⟨hl, trivial, M0⟩ (fun e st' a' w' oC' oL' ω' out S' E hk' ho => ?_)
  obtain ⟨rfl, hd, hlp⟩ := hk'
  obtain ⟨u, rfl, hu⟩ := ho
  have hdn := S'.dn
  rw [hd] at hdn
  have had : a'.defers = [] := by
    cases hx : a'.defers with
    | nil => rfl
    | cons y ys => rw [hx] at hdn; exact hdn.elim
  show LeavesInM (Fr none) 0 C.P fn a'.tmps _ a'.defers (.panicking _) w'
  refine leaves_marks (u := .panicking _) (by simp) (heap := st'.m.heap) (tm := st'.tmps) st'.ds a'.defers st'.m.lp (fun _ => true) w' (by rw [hd]; rfl) S'.dn S'.ms S'.tm (fun w2 lp' M2 E2 ht hk2 => ?_)
  have hE := E.then E2.low
  exact ⟨by rw [rep_ifi hu], ⟨hE.os, hE.tape, hE.output, hE.size, fun b hb _ => hE.old b hb (fun h => h.elim (fun h => h) (fun h => h)), fun _ h => .inl h, Nat.le_refl _, fun _ _ => rfl, hE.row⟩⟩
/-- What it leaves, made less. -/
theorem AWq.post {code : Code} {st : St} {K K' : Ex → St → Prop} (h : AWq C code st K) (hk : ∀ e s, K e s → ∃ s', LessS C s s' ∧ K' e s') : AWq C code st K' := fun w B oC oL ω a Q S hQ =>
  h w B oC oL ω a Q S (fun e st' a' w' oC' oL' ω' out S' E hK ho => by
    obtain ⟨s2, hl, hk'⟩ := hk e st' hK
    refine hQ e s2 a' w' oC' oL' ω' out (hl.2 _ _ _ _ _ _ S') (hl.1 ▸ E) hk' ?_
    cases e with
    | panic v => obtain ⟨u, h1, h2⟩ := ho; exact ⟨u, h1, hl.1 ▸ h2⟩
    | _ => exact ho)
/-- A function's body that gives up. -/
theorem pcalls_run (hC : C.Ok) {f : FuncId} {args : List AV} {t : TypeId} {x : IntKind} {i : Int} {n : Nat} {l : List LF} {ids : List Nat} (hf : ((C.P.funcs[f]?).bind (·.body)).isSome = true) (hl : LoopsOk C (loopsOf (fcode C.P f)) l)
    (h : ∀ K : Ex → St → Bool, (∀ s, s.ds = [] → s.m.lp = [] → K (.panic (.iface t (.int x i))) s = true) → runM C n (fcode C.P f) l (st0 C.P f args) (fun e s => K e (keepSH [] ids s)) = true) : PCalls C.P C.G f args t x i := by
  classical
  refine pcalls_of_awq hf ?_
  have h2 := h (fun e s => decide (e = .panic (.iface t (.int x i)) ∧ s.ds = [] ∧ s.m.lp = [])) (fun s h1 h2 => decide_eq_true ⟨rfl, h1, h2⟩)
  refine (awq_gM hC hl (g := keepSH [] ids) (K := fun e s => decide (e = .panic (.iface t (.int x i)) ∧ s.ds = [] ∧ s.m.lp = [])) h2).post fun e s he => ⟨keepSH [] ids s, LessS.keepSH _ _ s, of_decide_eq_true he⟩
end
end Go.Bas
end
section
namespace Go.Bas
open Go.RowKit
set_option linter.unusedSimpArgs false
set_option linter.unusedVariables false
section
variable {C : Cfg}
/-- What a call does at these arguments and this memory. -/
def XCalls (C : Cfg) (f : FuncId) (args0 : List AV) (m0 : Mem) (pan : Bool) (v1 : AV) (m1 : Mem) : Prop :=
  ∀ (w : World) (B oC oL : Nat → Prop) (ω : Nat → Option Nat) (us : Array Value), MemSim C w B oC oL ω m0 → RepL w (Or2 B oL) oC ω m0.nx args0 us →
    CallsIn (Fr none) 0 C.P f us w (CallEnd C w B oC oL ω m0.nx (fun v m => !pan && onP (v = v1 ∧ m = m1)) (fun v m => pan && onP (v = v1 ∧ m = m1)))
/-- The way of calls, one of which is known so. -/
noncomputable def callX (C : Cfg) (go : RunF Bool) (f0 : FuncId) (args0 : List AV) (m0 : Mem) (pan : Bool) (v1 : AV) (m1 : Mem) : CallF Bool := fun t args m kk kp => match t with
  | .fn f => cond (Nat.beq f f0) (cond (onP (args = args0 ∧ m = m0)) (cond pan (kp v1 m1) (kk v1 m1)) false) (callR C go false (.fn f) args m kk kp)
  | .yld id => callR C go false (.yld id) args m kk kp
theorem callX_ok (hC : C.Ok) {go : RunF Bool} (hgo : RunOk C go) {f0 : FuncId} {args0 : List AV} {m0 m1 : Mem} {pan : Bool} {v1 : AV} (hf : ((C.P.funcs[f0]?).bind (·.body)).isSome = true) (h : XCalls C f0 args0 m0 pan v1 m1) : CallOk C (callX C go f0 args0 m0 pan v1 m1) := by
  intro t args m kk kp w B oC oL ω us hk M hr
  cases t with
  | yld id => exact call_sound hC hgo (.yld id) args m kk kp w B oC oL ω us hk M hr
  | fn f =>
    simp only [callX] at hk
    rcases of_cond2 hk with ⟨h1, h'⟩ | ⟨h1, h'⟩
    · have e : f = f0 := Nat.eq_of_beq_eq_true h1
      subst e
      obtain ⟨h2, h3⟩ := of_cond h'
      obtain ⟨rfl, rfl⟩ := of_onP h2
      obtain ⟨fn, hfn⟩ : ∃ fn, C.P.funcs[f]? = some fn := by
        cases hq : C.P.funcs[f]? with
        | none => rw [hq] at hf; cases hf
        | some fn => exact ⟨fn, rfl⟩
      obtain ⟨c, hb⟩ : ∃ c, fn.body = some c := by
        rw [hfn] at hf
        exact Option.isSome_iff_exists.1 hf
      refine ⟨call_in hC hfn hb us w, (h w B oC oL ω us M hr).mono fun e w' hh => ?_⟩
      rcases hh with ⟨v, u, m', oC', oL', ω', h4, h5, h6⟩ | ⟨v, u, m', oC', oL', ω', h4, h5, h6⟩
      · cases pan with
        | true => cases h5
        | false =>
          obtain ⟨rfl, rfl⟩ := of_onP h5
          exact .inl ⟨v, u, m', oC', oL', ω', h4, h3, h6⟩
      · cases pan with
        | false => cases h5
        | true =>
          obtain ⟨rfl, rfl⟩ := of_onP h5
          exact .inr ⟨v, u, m', oC', oL', ω', h4, h3, h6⟩
    · exact call_sound hC hgo (.fn f) args m kk kp w B oC oL ω us h' M hr
/-- A region by any way of calls. -/
theorem AWp.regionC {call : CallF Bool} (hcall : CallOk C call) {inr : Option Nat} {id : Nat} {ops : Array Oper} {st : St} {k : Ex → St → Bool}
    (h : opsK C call ops ops.toList st (fun st' => k .normal st') (fun v st' => k (.panic v) st') false = true) :
    AWp C inr (.region id ops false) st (fun e s => k e s = true) := fun w B oC oL ω a Q ro S hI hQ => by
  refine wpIn_region ?_
  have := ops_sound (ro := ro) (Q := Q) (ops := ops) hcall (mapOk C) ops.toList 0 rfl st a w oC oL ω h S (fun st' a' w' oC' oL' ω' S' E hk' => hQ .normal _ _ _ _ _ _ _ S' E hk' rfl)
    (fun v u st' a' w' oC' oL' ω' S' E hk' hr => hQ (.panic v) _ _ _ _ _ _ _ S' E hk' ⟨u, rfl, hr⟩)
  rw [List.range_eq_range']
  simpa using this
/-- What a call does, out of its body. -/
theorem xcalls_of_awp {f : FuncId} {fn : Func} {c : Code} (hfn : C.P.funcs[f]? = some fn) (hb : fn.body = some c) {args0 : List AV} {m0 m1 : Mem} {pan : Bool} {v1 : AV}
    (h : AWp C none c ⟨padL args0 fn.ntmps, [], m0⟩ (fun e s => (pan = false ∧ (e = .ret ∨ e = .normal) ∧ closeK s.ds s.m.lp (fun lp => resK C fn s (fun v => onP (v = v1 ∧ (⟨s.m.heap, s.m.nx, lp⟩ : Mem) = m1)) false) false = true) ∨
      (pan = true ∧ e = .panic v1 ∧ s.ds = [] ∧ s.m = m1))) : XCalls C f args0 m0 pan v1 m1 := by
  intro w B oC oL ω us M hr
  refine callsIn_of_wp_marks hfn hb trivial ?_ rfl
  refine h w B oC oL ω _ _ none ⟨pad_rep hr fn.ntmps, trivial, M⟩ trivial (fun e st' a' w' oC' oL' ω' out S' E hk' ho => ?_)
  rcases hk' with ⟨hp, he, hk'⟩ | ⟨hp, rfl, hd, hm⟩
  · subst hp
    have fin : LeavesInM (Fr none) 0 C.P fn a'.tmps (CallEnd C w B oC oL ω m0.nx (fun v m => !false && onP (v = v1 ∧ m = m1)) (fun v m => false && onP (v = v1 ∧ m = m1))) a'.defers .returning w' :=
      leave_ret (k := fun v lp => onP (v = v1 ∧ (⟨st'.m.heap, st'.m.nx, lp⟩ : Mem) = m1)) S' hk' (fun v u lp' w2 h1 M2 E2 hr2 => .inl ⟨v, u, _, oC', oL', ω', rfl, h1, E.trans E2, M2, hr2⟩)
    rcases he with rfl | rfl
    · subst ho; exact fin
    · subst ho; exact fin
  · subst hp
    obtain ⟨u, rfl, hu⟩ := ho
    refine leaves_marks (u := .panicking _) (by simp) (heap := st'.m.heap) (tm := v1 :: st'.tmps) (arr := #[u] ++ a'.tmps) st'.ds a'.defers st'.m.lp (fun lp => onP ((⟨st'.m.heap, st'.m.nx, lp⟩ : Mem) = m1)) w' (by rw [hd]; exact onP_true hm) S'.dn S'.ms (RepL.append (cs := [v1]) (a := #[u]) ⟨rfl, fun i hi => match i, hi with | 0, _ => hu⟩ S'.tm) (fun w2 lp' M2 E2 ht hk2 => ?_)
    exact .inr ⟨v1, u, ⟨st'.m.heap, st'.m.nx, lp'⟩, oC', oL', ω', rfl, onP_true ⟨rfl, of_onP hk2⟩, E.trans E2, M2, ht.at (j := 0) rfl (by rw [Array.getElem?_append_left (by simp)]; rfl)⟩
/-- A function's results, its memory asv it lies. -/
noncomputable def resM (C : Cfg) (f : FuncId) (s : St) (k : AV → Loops → Bool) : Bool := match C.P.funcs[f]? with
  | some fn => closeK s.ds s.m.lp (fun lp => resK C fn s (fun v => k v lp) false) false
  | none => false
theorem xcalls_st {f : FuncId} {args0 : List AV} {m0 m1 : Mem} {pan : Bool} {v1 : AV} (hf : ((C.P.funcs[f]?).bind (·.body)).isSome = true)
    (h : AWp C none (fcode C.P f) ⟨(st0 C.P f args0).tmps, [], m0⟩ (fun e s => (pan = false ∧ (e = .ret ∨ e = .normal) ∧ resM C f s (fun v lp => onP (v = v1 ∧ (⟨s.m.heap, s.m.nx, lp⟩ : Mem) = m1)) = true) ∨ (pan = true ∧ e = .panic v1 ∧ s.ds = [] ∧ s.m = m1))) : XCalls C f args0 m0 pan v1 m1 := by
  obtain ⟨fn, hfn⟩ : ∃ fn, C.P.funcs[f]? = some fn := by
    cases hq : C.P.funcs[f]? with
    | none => rw [hq] at hf; cases hf
    | some fn => exact ⟨fn, rfl⟩
  obtain ⟨c, hb⟩ : ∃ c, fn.body = some c := by
    rw [hfn] at hf
    exact Option.isSome_iff_exists.1 hf
  have ec : fcode C.P f = c := by simp [fcode, hfn, hb]
  rw [ec] at h
  simp only [st0, hfn, Option.map_some, Option.getD_some, resM] at h
  exact xcalls_of_awp hfn hb h
/-- What a round must come to, where numbers stay. -/
def RndS (C : Cfg) {ι : Type} (I : ι → St) (μ : ι → Nat) (KK : Ex → St → Prop) (i : ι) (e : Ex) (s : St) : Prop := (e = .normal ∧ ∃ j, μ j < μ i ∧ LessS C s (I j)) ∨ (e ≠ .normal ∧ KK e s)
theorem awp_loopS (hC : C.Ok) {body : Code} {n : Nat} {g : St → St} {ι : Type} (I : ι → St) (μ : ι → Nat) {KK : Ex → St → Prop} (hg : ∀ s, LessS C s (g s))
    (h : ∀ (i : ι) (K : Ex → St → Bool), (∀ e s, RndS C I μ KK i e s → K e s = true) → runM C n body [] (I i) (fun e s => K e (g s)) = true) (i : ι) : AWp C none (.loop body) (I i) KK := by
  refine AWp.loopL I μ (fun i => ?_) i
  have h1 := h i (fun e s => onP (RndS C I μ KK i e s)) (fun e s hh => onP_true hh)
  have := runA_soundP hC (mkA body []) (I i) _ (mkA_okP body [] (by cases loopsOf body <;> trivial)) h1
  rw [mkA_code] at this
  refine this.mono fun e s he => ?_
  rcases of_onP he with ⟨rfl, j, h1, h2⟩ | ⟨h1, h2⟩
  · exact ⟨j, h1, (hg s).trans h2⟩
  · cases e with
    | normal => exact absurd rfl h1
    | exit id => exact ⟨g s, hg s, h2⟩
    | goto l => exact ⟨g s, hg s, h2⟩
    | ret => exact ⟨g s, hg s, h2⟩
    | panic v => exact ⟨g s, hg s, h2⟩
theorem awp_gM (hC : C.Ok) {n : Nat} {c : Code} {st : St} {K : Ex → St → Bool} {g : St → St} {l : List LF} (hl : LoopsOkP C (loopsOf c) l) (ht : runM C n c l st (fun e s => K e (g s)) = true) : AWp C none c st (fun e s => K e (g s) = true) := by
  have := runA_soundP hC (mkA c l) st _ (mkA_okP c l hl) ht
  rw [mkA_code] at this
  exact this
end
end Go.Bas
end
section
namespace Go.Bas.BasAvA
open Go.RowKit Go.Proofs
open Go.Bas.BasZBase Go.Bas.BasAvR1 Go.Bas.BasAvR2 Go.Bas.BasAvR3 Go.Bas.BasAvL Go.Bas.BasAvF Go.Bas.BasAvW Go.Bas.BasAvP1 Go.Bas.BasAvP2
set_option maxRecDepth 100000
set_option maxHeartbeats 4000000
set_option linter.unusedVariables false
set_option linter.unusedSimpArgs false
theorem sumsA : ∀ s ∈ [S_fnd, S_wth], SumOk Tryd.prog (gmap gs) s := sums_cons s_fnd (sums_cons s_wth sums_nil)
noncomputable abbrev cW : Cfg := cfg [S_fnd, S_wth]
theorem hCW : cW.Ok := cfg_ok base sumsA
noncomputable abbrev codeA : Code := fcode Tryd.prog 20
noncomputable abbrev bA : Code := loopAt codeA [0]
noncomputable def hA (us : List AV) (m : Nat) (r : Option (List AV × Nat)) (i : Int) (nx : Nat) : St := ⟨[.lst us m, .any, .any, .any, rowsV r, .int .i64 i, .any, .any, .any, .any, .any, .any, .any, .any, .any, .any, .any, .any, .any, .any, .any, .any, .any, .any, .any, .any, .any, .any, .any, .any, .any, .any, .any, .any, .any, .any, .any, .any, .any, .any, .any, .any, .any, .any, .any, .any, .any, .any, .any, .any, .any, .any, .any, .any], [], ⟨[], nx, []⟩⟩
noncomputable def hAr (us : List AV) (m : Nat) (r : Option (List AV × Nat)) (i : Int) : St := ⟨[.lst us m, .any, .nils, .bool false, rowsV r, .int .i64 i, .any, .any, .any, .any, .any, .any, .any, .any, .any, .any, .any, .any, .any, .any, .any, .any, .any, .any, .any, .any, .any, .any, .any, .any, .any, .any, .any, .any, .any, .any, .any, .any, .any, .any, .any, .any, .any, .any, .any, .any, .any, .any, .any, .any, .any, .any, .any, .any], [], ⟨[], 2, []⟩⟩
/-- A cell's words, by a place that is a number. -/
noncomputable def gA (us : List AV) (i : Int) : Int := (lget us (i.toNat * 4 + 1)).toI
noncomputable def gB (us : List AV) (i : Int) : Int := (lget us (i.toNat * 4 + 1 + 1)).toI
noncomputable def gC (us : List AV) (i : Int) : Int := (lget us (i.toNat * 4 + 1 + 1 + 1)).toI
noncomputable def brBare (us : List AV) (i : Int) (x y : Bool) : Bool := br (decide (gA us i = 0)) (br (decide (gB us i = 0)) (br (decide (gC us i = 0)) x y) y) y
noncomputable def gK (us : List AV) (i : Int) : Int := IntKind.wrap .u64 (IntKind.wrap .u64 (65536 * gB us i) + gC us i)
noncomputable def tA2 (us : List AV) (m : Nat) (r : Option (List AV × Nat)) (i : Int) (K : Ex → St → Bool) : Bool :=
  br (decide (gB us i > 65535)) (K .ret (hAr us m r i)) (br (decide (gC us i > 65535)) (K .ret (hAr us m r i)) (ba (rwOk r) (br (decide (fI (decR r) (gK us i) (decR r).length 0 ≥ 0)) (K .ret (hAr us m r i))
    (ba (rwOk r) (K .normal (hA us m (rwo (withL (decR r) (gK us i) (gA us i))) (IntKind.wrap .i64 (i + 1)) 2))))))
theorem t_a0 (us : List AV) (m : Nat) (r : Option (List AV × Nat)) (i : Int) (K : Ex → St → Bool) : runM cW 300 bA [] (hA us m r i 0) (fun e s => K e (keepSH [0, 2, 3, 4, 5] [] s)) =
    br (decide (i < Int.ofNat m)) (ld4 us m i (brBare us i (K .normal (hA us m r (IntKind.wrap .i64 (i + 1)) 2))
      (br (!decide (gA us i = 1)) (br (!decide (gA us i = 2)) (K .ret (hAr us m r i)) (tA2 us m r i K)) (tA2 us m r i K)))) (K (.exit 0) (hA us m r i 0)) := by
  cases r with
  | none => kernel_rfl
  | some p => obtain ⟨a, b⟩ := p; kernel_rfl
theorem lA : loopsOf bA = [] := by kernel_rfl
theorem ren_A (us : List AV) (m : Nat) (r : Option (List AV × Nat)) (i : Int) : Less cW (hA us m r i 2) (hA us m r i 0) := by
  have h := Less.ren (C := cW) [] 0 (st := hA us m r i 2) rfl rfl (by cases r <;> kernel_rfl)
  have e : renS [] 0 (hA us m r i 2) = hA us m r i 0 := by
    cases r with
    | none => kernel_rfl
    | some p => obtain ⟨c, d⟩ := p; kernel_rfl
  rw [e] at h
  exact h
theorem wU6 {i : Int} (h0 : 0 ≤ i) (h : i < 18446744073709551616) : IntKind.wrap .u64 i = i := by
  simp [IntKind.wrap, IntKind.bits, IntKind.signed]
  omega
/-- A cell that is noughts. -/
def Bare (us : List AV) (i : Nat) : Prop := cA us i = 0 ∧ cB us i = 0 ∧ cC us i = 0
noncomputable def acK (us : List AV) (i : Nat) : Int := 65536 * cB us i + cC us i
def AcBad (us : List AV) (i : Nat) : Prop := (cA us i ≠ 1 ∧ cA us i ≠ 2) ∨ cB us i > 65535 ∨ cC us i > 65535
open Classical in
/-- One cell more. -/
noncomputable def accS (us : List AV) (i : Nat) (L : RL) : Option RL :=
  if Bare us i then some L else if AcBad us i then none else if fI L (acK us i) L.length 0 ≥ 0 then none else some (withL L (acK us i) (cA us i))
noncomputable def accR (us : List AV) : Nat → Option RL
  | 0 => some []
  | i + 1 => (accR us i).bind (accS us i)
theorem accR_none {us : List AV} {i : Nat} (h : accR us i = none) : ∀ {j : Nat}, i ≤ j → accR us j = none
  | 0, hj => by rw [show i = 0 by omega] at h; exact h
  | j + 1, hj => by
    by_cases e : i = j + 1
    · rw [← e]; exact h
    · show (accR us j).bind _ = none
      rw [accR_none h (by omega)]
      rfl
theorem wst_len2 (k v : Int) : ∀ (L : RL) (s : RL × Bool), (wst k v L s).1.length + (cond (wst k v L s).2 0 1) ≤ s.1.length + L.length + cond s.2 0 1
  | [], s => Nat.le_refl _
  | p :: l, (w, put) => by
    refine Nat.le_trans (wst_len2 k v l _) ?_
    show (cond (!decide (p.1 = k)) ((cond (!put && decide (p.1 ≥ k)) (w ++ [(k, v)]) w) ++ [p]) (cond (!put && decide (p.1 ≥ k)) (w ++ [(k, v)]) w)).length + l.length + (cond (put || decide (p.1 ≥ k)) 0 1) ≤ w.length + (l.length + 1) + cond put 0 1
    cases (!decide (p.1 = k)) <;> cases put <;> cases decide (p.1 ≥ k) <;> simp only [cond_true, cond_false, List.length_append, List.length_cons, List.length_nil, Bool.not_true, Bool.not_false, Bool.and_true, Bool.true_and, Bool.false_and, Bool.and_false, Bool.or_true, Bool.or_false, Bool.true_or, Bool.false_or] <;> omega
theorem withL_len (L : RL) (k v : Int) : (withL L k v).length ≤ L.length + 1 := by
  have h := wst_len2 k v L ([], false)
  unfold withL
  generalize wst k v L ([], false) = s at h ⊢
  obtain ⟨w, p⟩ := s
  have h : w.length + (cond p 0 1) ≤ 0 + L.length + 1 := h
  cases p with
  | true => simpa using h
  | false =>
    show (w ++ [(k, v)]).length ≤ _
    rw [List.length_append]
    simp only [cond_false] at h
    show w.length + 1 ≤ _
    omega
theorem accR_len (us : List AV) : ∀ (i : Nat) (L : RL), accR us i = some L → L.length ≤ i
  | 0, L, h => by
    have h : some [] = some L := h
    cases h
    exact Nat.le_refl _
  | i + 1, L, h => by
    have h : (accR us i).bind (accS us i) = some L := h
    cases hq : accR us i with
    | none => rw [hq] at h; cases h
    | some M =>
      rw [hq] at h
      have hm := accR_len us i M hq
      have h : accS us i M = some L := h
      unfold accS at h
      split at h
      · cases h; omega
      · split at h
        · cases h
        · split at h
          · cases h
          · cases h
            have := withL_len M (acK us i) (cA us i)
            omega
theorem za0 {us : List AV} {m : Nat} (hc : CL us m) {KK : Ex → St → Prop} (h1 : ∀ L, accR us m = some L → KK (.exit 0) (hA us m (rwo L) (m : Int) 0)) (h0 : accR us m = none → ∀ r i, KK .ret (hAr us m r i)) : AWq cW (.loop bA) (hA us m none 0 0) KK := by
  have hm := hc.2.1
  refine awq_loopK hCW (ι := { x : Nat × RL // x.1 ≤ m ∧ accR us x.1 = some x.2 }) (fun x => hA us m (rwo x.1.2) (x.1.1 : Int) 0) (fun x => m - x.1.1) (n := 300) (l := fun _ => []) (g := keepSH [0, 2, 3, 4, 5] []) (fun _ => by rw [lA]; exact trivial) (fun s => LessS.keepSH _ _ s) ?_ ⟨(0, []), Nat.zero_le _, rfl⟩
  rintro ⟨⟨i, L⟩, him, hi⟩ K hk
  have him : i ≤ m := him
  have hi : accR us i = some L := hi
  have hll := accR_len us i L hi
  have e1 : IntKind.wrap .i64 ((i : Int) + 1) = ((i + 1 : Nat) : Int) := by
    rw [wI (by omega) (by omega)]
    omega
  refine (t_a0 us m (rwo L) (i : Int) K).trans (bdt (fun h => ?_) (fun h => hk _ _ ?_))
  · have h : ((i : Nat) : Int) < Int.ofNat m := of_decide_eq_true h
    have eo : (Int.ofNat m : Int) = (m : Int) := rfl
    have h' : i < m := by omega
    have hS : accR us (i + 1) = accS us i L := by
      show (accR us i).bind (accS us i) = _
      rw [hi]
      rfl
    have ea : gA us (i : Int) = cA us i := rfl
    have eb : gB us (i : Int) = cB us i := rfl
    have ec : gC us (i : Int) = cC us i := rfl
    have nb : 0 ≤ cB us i := (hc.2.2 _ (by rw [hc.1]; omega)).2
    have nc : 0 ≤ cC us i := (hc.2.2 _ (by rw [hc.1]; omega)).2
    have bad : accS us i L = none → ∀ r j, RndG cW (fun x : { x : Nat × RL // x.1 ≤ m ∧ accR us x.1 = some x.2 } => hA us m (rwo x.1.2) (x.1.1 : Int) 0) (fun x => m - x.1.1) KK ⟨(i, L), him, hi⟩ .ret (hAr us m r j) := fun hn r j => .inr ⟨fun hh => (by cases hh), h0 (accR_none (i := i + 1) (by rw [hS]; exact hn) h') r j⟩
    have good : ∀ M, accS us i L = some M → RndG cW (fun x : { x : Nat × RL // x.1 ≤ m ∧ accR us x.1 = some x.2 } => hA us m (rwo x.1.2) (x.1.1 : Int) 0) (fun x => m - x.1.1) KK ⟨(i, L), him, hi⟩ .normal (hA us m (rwo M) (IntKind.wrap .i64 ((i : Int) + 1)) 2) := fun M hM => by
      refine .inl ⟨rfl, ⟨(i + 1, M), h', by show accR us (i + 1) = some M; rw [hS]; exact hM⟩, by show m - (i + 1) < m - i; omega, ?_⟩
      rw [e1]
      exact ren_A _ _ _ _
    have rest : ¬ Bare us i → (br (!decide (cA us i = 1)) (br (!decide (cA us i = 2)) (K .ret (hAr us m (rwo L) (i : Int))) (tA2 us m (rwo L) (i : Int) K)) (tA2 us m (rwo L) (i : Int) K)) = true := fun hnb => by
      have two : (cA us i = 1 ∨ cA us i = 2) → tA2 us m (rwo L) (i : Int) K = true := fun ha => by
        unfold tA2
        rw [eb, ec, dec_rwo]
        refine bdt (fun a1 => hk _ _ (bad ?_ _ _)) (fun a1 => bdt (fun a2 => hk _ _ (bad ?_ _ _)) (fun a2 => band (rwOk_rwo (by omega)) ?_))
        · unfold accS
          rw [if_neg hnb, if_pos (.inr (.inl (of_decide_eq_true a1)))]
        · unfold accS
          rw [if_neg hnb, if_pos (.inr (.inr (of_decide_eq_true a2)))]
        · have a1 := of_decide_eq_false a1
          have a2 := of_decide_eq_false a2
          have hnB : ¬ AcBad us i := by
            unfold AcBad
            omega
          have ek : gK us (i : Int) = acK us i := by
            unfold gK acK
            rw [eb, ec, wU6 (i := 65536 * cB us i) (by omega) (by omega), wU6 (by omega) (by omega)]
          rw [ek, ea]
          refine bdt (fun a3 => hk _ _ (bad ?_ _ _)) (fun a3 => band (rwOk_rwo (by omega)) (hk _ _ (good _ ?_)))
          · unfold accS
            rw [if_neg hnb, if_neg hnB, if_pos (of_decide_eq_true a3)]
          · unfold accS
            rw [if_neg hnb, if_neg hnB, if_neg (of_decide_eq_false a3)]
      refine bdt (fun a1 => bdt (fun a2 => hk _ _ (bad ?_ _ _)) (fun a2 => two ?_)) (fun a1 => two ?_)
      · have a1 : ¬ cA us i = 1 := by simpa using a1
        have a2 : ¬ cA us i = 2 := by simpa using a2
        unfold accS
        rw [if_neg hnb, if_pos (.inl ⟨a1, a2⟩)]
      · exact .inr (by simpa using a2)
      · exact .inl (by simpa using a1)
    refine ld4_ok hc h' ?_
    unfold brBare
    rw [ea, eb, ec]
    refine bdt (fun a1 => bdt (fun a2 => bdt (fun a3 => hk _ _ (good _ ?_)) (fun a3 => rest ?_)) (fun a2 => rest ?_)) (fun a1 => rest ?_)
    · unfold accS
      rw [if_pos ⟨of_decide_eq_true a1, of_decide_eq_true a2, of_decide_eq_true a3⟩]
    · exact fun hh => of_decide_eq_false a3 hh.2.2
    · exact fun hh => of_decide_eq_false a2 hh.2.1
    · exact fun hh => of_decide_eq_false a1 hh.1
  · have h : ¬ ((i : Nat) : Int) < Int.ofNat m := of_decide_eq_false h
    have eo : (Int.ofNat m : Int) = (m : Int) := rfl
    have h' : i = m := by omega
    subst h'
    exact .inr ⟨fun hh => (by cases hh), h1 L hi⟩
/-! Its contract. -/
noncomputable def YA (r : Option (List AV × Nat)) : St := ⟨[.any, .any, .any, .any, rowsV r, .any, .any, .any, .any, .any, .any, .any, .any, .any, .any, .any, .any, .any, .any, .any, .any, .any, .any, .any, .any, .any, .any, .any, .any, .any, .any, .any, .any, .any, .any, .any, .any, .any, .any, .any, .any, .any, .any, .any, .any, .any, .any, .any, .any, .any, .any, .any, .any, .any], [], ⟨[], 0, []⟩⟩
noncomputable def YAr : St := ⟨[.any, .any, .nils, .bool false, .any, .any, .any, .any, .any, .any, .any, .any, .any, .any, .any, .any, .any, .any, .any, .any, .any, .any, .any, .any, .any, .any, .any, .any, .any, .any, .any, .any, .any, .any, .any, .any, .any, .any, .any, .any, .any, .any, .any, .any, .any, .any, .any, .any, .any, .any, .any, .any, .any, .any], [], ⟨[], 2, []⟩⟩
noncomputable def LFa (us : List AV) (m : Nat) (o : Option RL) (r : Option (List AV × Nat)) (bad : Bool) : LF := fun st K => cond (onP (keepSH [0, 4, 5] [] st = hA us m none 0 0)) (br bad (K .ret YAr) (K (.exit 0) (YA r))) false
theorem lcA : loopsOf codeA = [.loop bA] := by kernel_rfl
noncomputable def orR (o : Option RL) : Option (List AV × Nat) := match o with
  | none => none
  | some L => rwo L
theorem LFa_ok {us : List AV} {m : Nat} (hc : CL us m) : ∀ (st : St) (K : Ex → St → Bool), LFa us m (accR us m) (orR (accR us m)) (accR us m).isNone st K = true → AWq cW (.loop bA) st (fun e s => K e s = true) := fun st K hk => by
  obtain ⟨e1, e2⟩ := of_cond hk
  have e1 := of_onP e1
  refine AWq.less (fun w B oC oL ω a S => ⟨ω, (LessS.keepSH (C := cW) [0, 4, 5] [] st).2 w B oC oL ω a S⟩) ?_
  rw [e1]
  refine AWq.post (K := fun e s => (e = .ret ∧ accR us m = none ∧ ∃ r i, s = hAr us m r i) ∨ (e = .exit 0 ∧ ∃ L, accR us m = some L ∧ s = hA us m (rwo L) (m : Int) 0)) (za0 hc (fun L h => .inr ⟨rfl, L, h, rfl⟩) (fun h r i => .inl ⟨rfl, h, r, i, rfl⟩)) ?_
  rintro e s (⟨rfl, hn, r, i, rfl⟩ | ⟨rfl, L, hL, rfl⟩)
  · rw [hn] at e2
    refine ⟨YAr, ?_, e2⟩
    have e : keepSH [2, 3] [] (hAr us m r i) = YAr := by cases r <;> kernel_rfl
    rw [← e]
    exact LessS.keepSH _ _ _
  · rw [hL] at e2
    refine ⟨YA (rwo L), ?_, e2⟩
    have e : ∀ r, keepSH [4] [] (hA us m r (m : Int) 0) = YA r := fun r => by cases r <;> kernel_rfl
    rw [← e]
    exact LessS.keepSH _ _ _
noncomputable def accV (o : Option RL) : AV := match o with
  | none => .tup [.nils, .bool false]
  | some L => .tup [rowsV (rwo L), .bool true]
theorem t_fa (us : List AV) (m : Nat) (o : Option RL) (r : Option (List AV × Nat)) (bad : Bool) (K : AV → Bool) : runFM cW 300 20 [LFa us m o r bad] [.lst us m] K = ba (onP (hA us m none 0 0 = hA us m none 0 0)) (br bad (K (.tup [.nils, .bool false])) (K (.tup [rowsV r, .bool true]))) := by
  cases r with
  | none => kernel_rfl
  | some p => obtain ⟨a, b⟩ := p; kernel_rfl
theorem q_acc {us : List AV} {m : Nat} (hc : CL us m) : ACalls Tryd.prog (gmap gs) 20 [.lst us m] (fun v => v = accV (accR us m)) := by
  refine acalls_eqM (q := fun _ => false) base sumsA (n := 300) (fs := [LFa us m (accR us m) (orR (accR us m)) (accR us m).isNone]) (by kernel_rfl) ?_ fun K hK => ?_
  · show LoopsOk cW (loopsOf codeA) _
    rw [lcA]
    exact ⟨LFa_ok hc, trivial⟩
  refine (t_fa _ _ _ _ _ K).trans (band (onP_true rfl) ?_)
  cases ho : accR us m with
  | none => rw [ho] at hK; exact hK
  | some L => rw [ho] at hK; exact hK
end Go.Bas.BasAvA
end
section
namespace Go.Proofs
open Go.Shelf
shelf_lay_g SlLaysF0.n6 Slsf 6 at Tryd 62 as Tryd.sortRow
end Go.Proofs
namespace Go.Bas.BasAvS
open Go.RowKit Go.Proofs Go.Shelf Go.Lib Go.Sort
open Go.Bas.BasZBase Go.Bas.BasAvR1 Go.Bas.BasAvR2 Go.Bas.BasAvR3 Go.Bas.BasAvL Go.Bas.BasAvF Go.Bas.BasAvW Go.Bas.BasAvA
set_option maxRecDepth 100000
set_option maxHeartbeats 4000000
set_option linter.unusedVariables false
set_option linter.unusedSimpArgs false
/-- A row's two words. -/
def rwE (x : Int × Int) : List Value := [.int .u64 x.1, .int .u64 x.2]
def cfU (x y : Int × Int) : Int := Lib.compareInt x.1 y.1
theorem ltU (x y : Int × Int) : ltOf cfU x y = decide (x.1 < y.1) := by
  unfold ltOf cfU Lib.compareInt
  by_cases h1 : x.1 < y.1
  · simp [h1]
  · by_cases h2 : y.1 < x.1 <;> simp [h1, h2]
theorem swoU : SWO (ltOf cfU) where
  irrefl x := by rw [ltU]; simp
  trans x y z h1 h2 := by rw [ltU] at *; simp at *; omega
  ntrans x y z h1 h2 := by rw [ltU] at *; simp at *; omega
theorem nanU (x : Int) (w : World) : Calls Tryd.prog 67 #[.int .u64 x] w fun e w' => e = .returned (.bool false) ∧ w' = w := by
  go_enter Tryd.func67, Tryd.ntmps67
  go_wp2
  go_ret
  exact ⟨by simp, rfl⟩
theorem cmpU (x y : Int) (w : World) : Calls Tryd.prog 64 #[.int .u64 x, .int .u64 y] w fun e w' => e = .returned (.int .i64 (Lib.compareInt x y)) ∧ w' = w := by
  go_enter Tryd.func64, Tryd.ntmps64
  go_wp2_with (go_at_call 67; refine (nanU _ _).mono ?_; rintro e w' ⟨rfl, hw⟩; rw [hw])
  all_goals (go_ret; refine ⟨?_, rfl⟩; unfold Lib.compareInt; (repeat' split) <;> first | rfl | (exfalso; omega))
theorem cloU (x y : Int × Int) (W : World) : Calls Tryd.prog 63 #[.agg #[.int .u64 x.1, .int .u64 x.2], .agg #[.int .u64 y.1, .int .u64 y.2]] W fun e w' => e = .returned (.int .i64 (cfU x y)) ∧ ∃ q os', w' = grow (W.drewN q) os' := by
  have hcon := fun W' => cmpU x.1 y.1 W'
  unfold cfU
  generalize Lib.compareInt x.1 y.1 = r at hcon ⊢
  go_enter Tryd.func63, Tryd.ntmps63
  go_wp2_with (go_at_call 64; refine (hcon _).mono ?_; rintro e w' ⟨rfl, rfl⟩)
  go_ret
  exact ⟨rfl, 0, _, by rw [alloc_eq_grow, alloc_eq_grow, grow_grow]; rfl⟩
theorem layU (blk off size : Nat) (w : World) : CmpLays Tryd.prog 63 #[] rwE 2 cfU blk off size w := fun _ _ _ _ x y => cloU x y _
/-- The sorted rows. -/
noncomputable def srt (L : RL) : RL := (pdq (ltOf cfU) L.toArray 0 L.length (Lib.bitLen L.length) true true).toList
theorem srt_all (L : RL) : PermIn 0 L.length L.toArray (srt L).toArray ∧ SortedIn (ltOf cfU) 0 L.length (srt L).toArray := by
  have h := pdq_sorts (ltOf cfU) swoU L.toArray 0 L.length (Lib.bitLen L.length) true true (Nat.zero_le _) (by simp) (Or.inl rfl)
  simpa [srt] using h
theorem srt_perm (L : RL) : (srt L).Perm L := by
  obtain ⟨h1, h2, h3⟩ := (srt_all L).1
  have e : (srt L).length = L.length := by simpa using h1
  have a : ((srt L).toArray.extract 0 L.length).toList = srt L := by simp [← e]
  have b : (L.toArray.extract 0 L.length).toList = L := by simp
  rw [a, b] at h3
  exact h3
theorem srt_len (L : RL) : (srt L).length = L.length := (srt_perm L).length_eq
theorem srt_sorted (L : RL) : ∀ i j, i < j → j < L.length → rk (srt L) i ≤ rk (srt L) j := fun i j h1 h2 => by
  have h := (srt_all L).2 i j (Nat.zero_le _) h1 h2
  rw [ltU] at h
  have hl := srt_len L
  have gi : ∀ q (hq : q < L.length), ((srt L).toArray[q]!) = (srt L).getD q (0, 0) := fun q hq => by
    rw [getElem!_pos _ q (by simpa [hl] using hq)]
    simp [List.getD_eq_getElem?_getD, hl, hq]
  rw [gi i (by omega), gi j h2] at h
  have := of_decide_eq_false h
  unfold rk
  omega
end Go.Bas.BasAvS
end
section
namespace Go.Bas.BasAvS2
open Go.RowKit Go.Proofs Go.Shelf Go.Lib Go.Sort
open Go.Bas.BasZBase Go.Bas.BasAvR1 Go.Bas.BasAvR2 Go.Bas.BasAvR3 Go.Bas.BasAvL Go.Bas.BasAvF Go.Bas.BasAvW Go.Bas.BasAvA Go.Bas.BasAvS
set_option maxRecDepth 100000
set_option maxHeartbeats 4000000
set_option linter.unusedVariables false
set_option linter.unusedSimpArgs false
theorem flat_get (L : RL) (j : Nat) (h : j < L.length * 2) : ∃ y, (flatK rwE 2 L.toArray)[j]! = .int .u64 y ∧ lget (enc L) j = .int .u64 y := by
  rw [get_flatK rwE 2 L.toArray j (by simpa using h)]
  have hi : j / 2 < L.length := by omega
  have eg : L.toArray[j / 2]! = (rk L (j / 2), rv L (j / 2)) := by
    rw [getElem!_pos _ _ (by simpa using hi)]
    simp [rk, rv, hi]
  rw [eg]
  rcases Nat.mod_two_eq_zero_or_one j with hm | hm
  · refine ⟨rk L (j / 2), by rw [hm]; rfl, ?_⟩
    have := enc_k L (j / 2) hi
    rwa [show j / 2 * 2 = j by omega] at this
  · refine ⟨rv L (j / 2), by rw [hm]; rfl, ?_⟩
    have := enc_v L (j / 2) hi
    rwa [show j / 2 * 2 + 1 = j by omega] at this
theorem hget_one {i id : Nat} {x hb : HB} (h : hget [(i, x)] id = some hb) : id = i ∧ hb = x := by
  rw [hget_cons] at h
  cases hc : Nat.beq i id with
  | true =>
    rw [hc] at h
    exact ⟨(Nat.eq_of_beq_eq_true hc).symm, (Option.some.inj h).symm⟩
  | false => rw [hc] at h; cases h
theorem getL {cs : List AV} {j : Nat} (h : j < cs.length) : cs[j] = lget cs j := by
  rw [lget_eq]
  simp [h]
noncomputable def memL (L : RL) (nx : Nat) : Mem := ⟨[(1, ⟨enc L, 47, true⟩)], nx, []⟩
/-- What a block's cells become. -/
theorem heap_sorted (w : World) (b n : Nat) (D : Array (Int × Int)) (os : Array Obj) {arr : Array Value} {T : TypeId} (hb : w.heap[b]? = some (.cells arr T (0, 0))) :
    (∀ x, x < w.heap.size → x ≠ b → (sortWorldK rwE 2 w b 0 n D os).heap[x]? = w.heap[x]?) ∧ (sortWorldK rwE 2 w b 0 n D os).heap[b]? = some (.cells (putCells id 0 (flatK rwE 2 D) arr) T (0, 0)) := by
  have hlt : b < w.heap.size := by
    rcases Nat.lt_or_ge b w.heap.size with h | h
    · exact h
    · rw [Array.getElem?_eq_none h] at hb; cases hb
  have hs : (putRowK rwE 2 (Sort.ahead w n) b 0 D).heap.size = w.heap.size := by simp [putRowK]
  have hm : ∀ x : Nat, (putRowK rwE 2 (Sort.ahead w n) b 0 D).heap[x]? = (w.heap.modify b (onCells (putCells id 0 (flatK rwE 2 D))))[x]? := fun x => rfl
  refine ⟨fun x hx hne => ?_, ?_⟩
  · unfold sortWorldK
    rw [heap_grow_old _ _ (by rw [hs]; exact hx), hm, Array.getElem?_modify, if_neg (Ne.symm hne)]
  · unfold sortWorldK
    rw [heap_grow_old _ _ (by rw [hs]; exact hlt), hm, Array.getElem?_modify, if_pos rfl, hb]
    rfl
theorem sort_x {L : RL} (hl : L.length ≤ 5000) (nx : Nat) : XCalls cR 62 [.sl 1 0 L.length 2 true, .fn (.func 63) [] []] (memL L nx) false (.tup []) (memL (srt L) nx) := by
  intro w B oC oL ω us M hr
  obtain ⟨hn, hr⟩ := hr
  have hn : 2 = us.size := hn
  obtain ⟨v0, v1, rfl⟩ : ∃ v0 v1, us = #[v0, v1] := ⟨us[0], us[1], by
    apply Array.ext
    · simp [← hn]
    · intro i h1 h2
      have h2 : i < 2 := h2
      rcases i with _ | _ | i
      · rfl
      · rfl
      · omega⟩
  have r0 : Rep w (Or2 B oL) oC ω nx (.sl 1 0 L.length 2 true) v0 := hr 0 (Nat.zero_lt_succ _)
  have r1 : Rep w (Or2 B oL) oC ω nx (.fn (.func 63) [] []) v1 := hr 1 (Nat.lt_succ_self _)
  cases r0 with
  | sla _ _ _ _ cap b q1 q2 q3 q4 q5 =>
  cases r1 with
  | fn _ _ _ _ fs cs f1 f2 f3 f4 =>
  have e1 : fs = #[] := Array.eq_empty_of_size_eq_zero f1.symm
  have e2 : cs = #[] := Array.eq_empty_of_size_eq_zero f2.symm
  subst e1 e2
  obtain ⟨_, b', arr, p2, p3, p4, p5, p6⟩ := M.hp.rel 1 ⟨enc L, 47, true⟩ rfl
  have eb : b' = b := Option.some.inj (p2.symm.trans q2)
  subst eb
  have p5 : (enc L).length ≤ arr.size := p5
  rw [enc_len] at p5
  have hlt : b' < w.heap.size := M.hp.ob b' p3
  have hcell : ∀ j, j < L.length * 2 → arr[j]? = some ((flatK rwE 2 L.toArray)[j]!) := fun j hj => by
    obtain ⟨y, g1, g2⟩ := flat_get L j hj
    have hj' : j < (enc L).length := by rw [enc_len]; exact hj
    have h := p6 j hj'
    have h : Rep w (Or2 B oL) oC ω 0 (enc L)[j] (arr.getD j undef) := h
    rw [getL hj', g2] at h
    have hja : j < arr.size := by omega
    have e : arr.getD j undef = arr[j] := by simp [hja]
    rw [e] at h
    rw [g1, Array.getElem?_eq_getElem hja]
    generalize arr[j] = z at h
    cases h
    rfl
  have hH : HoldsK rwE 2 w b' 0 L.toArray := fun j hj => by
    have hj : j < L.length * 2 := by simpa using hj
    refine ⟨?_, ?_⟩
    · simp only [World.cell?, p4, Nat.zero_add]
      exact hcell j hj
    · simp only [World.frozen?, p4, Nat.zero_add]
      simp
  have eg : ∀ args w, (callFunc 63 args).run Tryd.prog w = .ok (.enter 63 args) w := enters_of Tryd.func63 (by kernel_rfl) rfl
  have hcon := AnyQ.slices_SortFunc_eq Tryd.sortRow 2 Tryd.isAgg47 Tryd.sizeOf47 rwE (fun _ => rfl) (fun x v hv => by simp [rwE] at hv; rcases hv with rfl | rfl <;> rfl) cfU swoU 63 #[] b' 0 cap L.toArray w eg (layU b' 0 L.toArray.size w) hH hlt (by show L.length < _; omega)
  change Calls Tryd.prog 62 #[.slice (some ⟨b', 0, none⟩) L.length cap, .func (.func 63) #[] #[]] w _ at hcon
  refine callsIn_calls.2 (hcon.mono fun e w' hh => ?_)
  obtain ⟨rfl, n, os, rfl⟩ := hh
  have eD : pdq (ltOf cfU) L.toArray 0 L.toArray.size (Lib.bitLen L.toArray.size) true true = (srt L).toArray := by
    unfold srt
    simp
  rw [eD]
  obtain ⟨k1, k2⟩ := heap_sorted w b' n (srt L).toArray os p4
  have hsz : w.heap.size ≤ (sortWorldK rwE 2 w b' 0 n (srt L).toArray os).heap.size := by
    unfold sortWorldK
    rw [size_grow]
    have hs : (putRowK rwE 2 (Sort.ahead w n) b' 0 (srt L).toArray).heap.size = w.heap.size := by simp [putRowK]
    omega
  have hrow : ∀ b n', rowSize w b = some n' → rowSize (sortWorldK rwE 2 w b' 0 n (srt L).toArray os) b = some n' := fun b n' hrs => by
    by_cases hb : b = b'
    · subst hb
      unfold rowSize at hrs ⊢
      rw [p4] at hrs
      rw [k2]
      simpa [putCells] using hrs
    · have hx : b < w.heap.size := by
        rcases Nat.lt_or_ge b w.heap.size with h | h
        · exact h
        · unfold rowSize at hrs
          rw [Array.getElem?_eq_none h] at hrs
          cases hrs
      unfold rowSize at hrs ⊢
      rw [k1 b hx hb]
      exact hrs
  have E0 : ∀ own : Nat → Prop, own b' → Ext w own ω nx (sortWorldK rwE 2 w b' 0 n (srt L).toArray os) own ω nx := fun own ho =>
    ⟨rfl, rfl, rfl, hsz, fun b hb hno => k1 b hb (fun hh => hno (hh ▸ ho)), fun _ h => .inl h, Nat.le_refl _, fun _ _ => rfl, hrow⟩
  refine .inl ⟨.tup [], .tuple #[], memL (srt L) nx, oC, oL, ω, rfl, onP_true ⟨rfl, rfl⟩, E0 (Or2 oC oL) (.inl p3), ?_, .tup _ _ _ rfl (fun i hi => absurd hi (Nat.not_lt_zero _))⟩
  refine M.op (nx' := nx) (E0 oC p3) ⟨fun id hb h => ?_, fun i j b h1 h2 _ _ => ?_, fun b ho => Nat.lt_of_lt_of_le (M.hp.ob b ho) hsz⟩
  · obtain ⟨rfl, rfl⟩ := hget_one h
    have hlen : (enc (srt L)).length = L.length * 2 := by rw [enc_len, srt_len]
    refine ⟨q1, b', _, p2, p3, k2, ?_, fun i hi => ?_⟩
    · show (enc (srt L)).length ≤ (putCells id 0 (flatK rwE 2 (srt L).toArray) arr).size
      rw [hlen]
      simpa [putCells] using p5
    · have hi : i < (enc (srt L)).length := hi
      have hi2 : i < L.length * 2 := by omega
      obtain ⟨y, g1, g2⟩ := flat_get (srt L) i (by rw [srt_len]; exact hi2)
      show Rep _ _ _ _ 0 (enc (srt L))[i] _
      rw [getL hi, g2]
      have hia : i < arr.size := by omega
      have e : (putCells id 0 (flatK rwE 2 (srt L).toArray) arr).getD i undef = .int .u64 y := by
        have hs2 : (srt L).length = L.length := srt_len L
        simp [putCells, hia, hs2, hi2]
        rw [← g1, getElem!_pos _ i (by simp [hs2]; exact hi2)]
      rw [e]
      exact .int _ _ _
  · cases hi : hget [(1, (⟨enc (srt L), 47, true⟩ : HB))] i with
    | none =>
      have h1 : (hget [(1, (⟨enc (srt L), 47, true⟩ : HB))] i).isSome = true := h1
      rw [hi] at h1; cases h1
    | some x =>
      cases hj : hget [(1, (⟨enc (srt L), 47, true⟩ : HB))] j with
      | none =>
        have h2 : (hget [(1, (⟨enc (srt L), 47, true⟩ : HB))] j).isSome = true := h2
        rw [hj] at h2; cases h2
      | some y => rw [(hget_one hi).1, (hget_one hj).1]
end Go.Bas.BasAvS2
end
section
namespace Go.Bas.BasAvS3
open Go.RowKit Go.Proofs
open Go.Bas.BasZBase Go.Bas.BasAvR1 Go.Bas.BasAvR2 Go.Bas.BasAvR3 Go.Bas.BasAvL Go.Bas.BasAvF Go.Bas.BasAvW Go.Bas.BasAvP1 Go.Bas.BasAvA Go.Bas.BasAvS Go.Bas.BasAvS2
set_option maxRecDepth 100000
set_option maxHeartbeats 4000000
set_option linter.unusedVariables false
set_option linter.unusedSimpArgs false
noncomputable abbrev codeS : Code := fcode Tryd.prog 61
noncomputable abbrev bS : Code := loopAt codeS [0]
noncomputable abbrev sR0 : Code := sel [false] codeS
noncomputable abbrev sR1 : Code := sel [true, false] codeS
noncomputable abbrev sR2 : Code := sel [true, true] codeS
def opsOf : Code → Array Oper
  | .region _ ops _ => ops
  | _ => #[]
theorem s_code : codeS = .seq sR0 (.seq sR1 sR2) := by kernel_rfl
theorem s_r1 : sR1 = .region 1 (opsOf sR1) false := by kernel_rfl
noncomputable def memC (cs : List AV) (nx : Nat) : Mem := ⟨[(1, ⟨cs, 47, true⟩)], nx, []⟩
noncomputable def hS (cs : List AV) (n : Nat) (i : Int) (nx : Nat) : St := ⟨[.sl 1 0 n 2 true, .any, .nils, .int .i64 i, .any, .any, .any, .any, .any, .any, .any, .any, .any, .any, .any, .any, .any, .any, .any, .any, .any, .any, .any, .any, .any, .any], [], memC cs nx⟩
noncomputable def S1 (cs : List AV) (n : Nat) (nx : Nat) : St := ⟨[.sl 1 0 n 2 true, .any, .nils, .any, .any, .any, .any, .any, .any, .any, .any, .any, .any, .any, .any, .any, .any, .any, .any, .any, .any, .any, .any, .any, .any, .any], [], memC cs nx⟩
noncomputable def ldE (cs : List AV) (n : Nat) (i : Int) (x : Int → Bool) : Bool := ba (inside i n) (ba (Nat.ble (((0 + i.toNat * 2) + 0) + 1) cs.length) (ba (AV.isI .u64 (lget cs ((0 + i.toNat * 2) + 0))) (x (lget cs ((0 + i.toNat * 2) + 0)).toI)))
theorem t_s0 (cs : List AV) (n : Nat) (i : Int) (nx : Nat) (K : Ex → St → Bool) : runM cR 300 bS [] (hS cs n i nx) (fun e s => K e (keepSH [0, 2, 3] [1] s)) =
    br (decide (i < Int.ofNat n)) (ldE cs n i fun a => ldE cs n (IntKind.wrap .i64 (i - 1)) fun b => br (!!decide (a = b)) (K pan (hS cs n i nx)) (K .normal (hS cs n (IntKind.wrap .i64 (i + 1)) nx))) (K (.exit 0) (hS cs n i nx)) := by kernel_rfl
theorem t_sr0 (cs : List AV) (n nx : Nat) (k : Ex → St → Bool) : run cR 300 none none sR0 ⟨(st0 Tryd.prog 61 [.sl 1 0 n 2 true]).tmps, [], memC cs nx⟩ (fun e s => k e (keepSH [0, 2] [1] s)) false = k .normal (S1 cs n nx) := by kernel_rfl
noncomputable def aS (n : Nat) : List AV := [.sl 1 0 n 2 true, .fn (.func 63) [] []]
theorem t_sr1 (cs cs' : List AV) (n nx : Nat) (k : Ex → St → Bool) : opsK cR (callX cR (run cR 300) 62 (aS n) (memC cs nx) false (.tup []) (memC cs' nx)) (opsOf sR1) (opsOf sR1).toList (S1 cs n nx) (fun s => k .normal (keepSH [0, 2] [1] s)) (fun v s => k (.panic v) (keepSH [0, 2] [1] s)) false = ba (onP (aS n = aS n ∧ memC cs nx = memC cs nx)) (k .normal (S1 cs' n nx)) := by kernel_rfl
noncomputable def LFs (cs : List AV) (n nx : Nat) (ok : Bool) : LF := fun st K => cond (onP (keepSH [0, 2, 3] [1] st = hS cs n 1 nx)) (br ok (K (.exit 0) (S1 cs n nx)) (K pan (S1 cs n nx))) false
noncomputable def Z1 (cs : List AV) (n : Nat) (nx : Nat) : St := ⟨[.any, .any, .sl 1 0 n 2 true, .any, .any, .any, .any, .any, .any, .any, .any, .any, .any, .any, .any, .any, .any, .any, .any, .any, .any, .any, .any, .any, .any, .any], [], memC cs nx⟩
theorem t_sr2 (cs : List AV) (n nx : Nat) (ok : Bool) (K : Ex → St → Bool) : runM cR 300 sR2 [LFs cs n nx ok] (S1 cs n nx) (fun e s => K e (keepSH [2] [1] s)) = ba (onP (hS cs n 1 nx = hS cs n 1 nx)) (br ok (K .ret (Z1 cs n nx)) (K pan ⟨[.any, .any, .nils, .any, .any, .any, .any, .any, .any, .any, .any, .any, .any, .any, .any, .any, .any, .any, .any, .any, .any, .any, .any, .any, .any, .any], [], memC cs nx⟩)) := by kernel_rfl
theorem t_res (cs : List AV) (n nx : Nat) (k : AV → Loops → Bool) : resM cR 61 (Z1 cs n nx) k = k (.sl 1 0 n 2 true) [] := by kernel_rfl
/-- No two neighbours have the same key. -/
def Adj (M : RL) : Prop := ∀ i, i + 1 < M.length → rk M (i + 1) ≠ rk M i
theorem ldE_ok {M : RL} {i : Nat} (h : i < M.length) {x : Int → Bool} (hx : x (rk M i) = true) : ldE (enc M) M.length (i : Int) x = true := by
  have e : ((i : Nat) : Int).toNat = i := rfl
  unfold ldE
  rw [e, show (0 + i * 2) + 0 = i * 2 by omega, enc_k M i h]
  refine band ?_ (band (Nat.ble_eq_true_of_le (by rw [enc_len]; omega)) (band rfl hx))
  simp only [inside, Bool.and_eq_true, decide_eq_true_eq]
  omega
theorem zs0 {M : RL} (hl : M.length ≤ 5000) (h1 : 1 ≤ M.length) {nx : Nat} {KK : Ex → St → Prop} (hOk : Adj M → KK (.exit 0) (hS (enc M) M.length (M.length : Int) nx)) (hBad : ¬ Adj M → ∀ i, KK pan (hS (enc M) M.length i nx)) : AWp cR none (.loop bS) (hS (enc M) M.length ((1 : Nat) : Int) nx) KK := by
  refine awp_loopS hC (n := 300) (g := keepSH [0, 2, 3] [1]) (ι := { i : Nat // 1 ≤ i ∧ i ≤ M.length ∧ ∀ j, j + 1 < i → rk M (j + 1) ≠ rk M j }) (fun i => hS (enc M) M.length (i.1 : Int) nx) (fun i => M.length - i.1) (fun s => LessS.keepSH _ _ s) ?_ ⟨1, Nat.le_refl _, h1, fun j h => by omega⟩
  rintro ⟨i, i1, him, hj⟩ K hk
  have e1 : IntKind.wrap .i64 ((i : Int) + 1) = ((i + 1 : Nat) : Int) := by
    rw [wI (by omega) (by omega)]
    omega
  have e2 : IntKind.wrap .i64 ((i : Int) - 1) = ((i - 1 : Nat) : Int) := by
    rw [wI (by omega) (by omega)]
    omega
  refine (t_s0 (enc M) M.length (i : Int) nx K).trans (bdt (fun h => ?_) (fun h => hk _ _ ?_))
  · have h : ((i : Nat) : Int) < Int.ofNat M.length := of_decide_eq_true h
    have eo : (Int.ofNat M.length : Int) = (M.length : Int) := rfl
    have h' : i < M.length := by omega
    rw [e2]
    refine ldE_ok h' (ldE_ok (by omega) (bdt (fun a => hk _ _ (.inr ⟨fun hh => (by cases hh), hBad (fun hA => ?_) _⟩)) (fun a => hk _ _ ?_)))
    · rw [Bool.not_not] at a
      have := hA (i - 1) (by omega)
      rw [show i - 1 + 1 = i by omega] at this
      exact this (of_decide_eq_true a)
    · rw [Bool.not_not] at a
      refine .inl ⟨rfl, ⟨i + 1, by omega, h', fun j hji => ?_⟩, by show M.length - (i + 1) < M.length - i; omega, ?_⟩
      · by_cases e : j + 1 = i
        · subst e; exact of_decide_eq_false a
        · exact hj j (by omega)
      · rw [e1]
        exact LessS.refl _
  · have h : ¬ ((i : Nat) : Int) < Int.ofNat M.length := of_decide_eq_false h
    have eo : (Int.ofNat M.length : Int) = (M.length : Int) := rfl
    have h' : i = M.length := by omega
    subst h'
    exact .inr ⟨fun hh => (by cases hh), hOk hj⟩
theorem LFs_ok {M : RL} (hl : M.length ≤ 5000) (h1 : 1 ≤ M.length) {nx : Nat} {ok : Bool} (hok : ok = true ↔ Adj M) : ∀ (st : St) (K : Ex → St → Bool), LFs (enc M) M.length nx ok st K = true → AWp cR none (.loop bS) st (fun e s => K e s = true) := fun st K hk => by
  obtain ⟨e1, e2⟩ := of_cond hk
  have e1 := of_onP e1
  refine AWp.less (LessS.keepSH [0, 2, 3] [1] st) ?_
  rw [e1]
  have hx : ∀ i, LessS cR (hS (enc M) M.length i nx) (S1 (enc M) M.length nx) := fun i => by
    have e : keepSH [0, 2] [1] (hS (enc M) M.length i nx) = S1 (enc M) M.length nx := by
      have : ∀ cs n, keepSH [0, 2] [1] (hS cs n i nx) = S1 cs n nx := fun cs n => by kernel_rfl
      exact this _ _
    rw [← e]
    exact LessS.keepSH _ _ _
  refine AWp.post (K := fun e s => (e = .exit 0 ∧ ok = true ∧ s = hS (enc M) M.length (M.length : Int) nx) ∨ (e = pan ∧ ok = false ∧ ∃ i, s = hS (enc M) M.length i nx)) (zs0 hl h1 (fun hA => .inl ⟨rfl, hok.2 hA, rfl⟩) (fun hA i => .inr ⟨rfl, ?_, i, rfl⟩)) ?_
  · cases ok with
    | false => rfl
    | true => exact absurd (hok.1 rfl) hA
  · rintro e s (⟨rfl, ho, rfl⟩ | ⟨rfl, ho, i, rfl⟩)
    · rw [ho] at e2
      exact ⟨_, hx _, e2⟩
    · rw [ho] at e2
      exact ⟨_, hx _, e2⟩
theorem lR2 : loopsOf sR2 = [.loop bS] := by kernel_rfl
theorem sorted_3 {L : RL} (h1 : 1 ≤ L.length) (hl : L.length ≤ 5000) (nx : Nat) {ok : Bool} (hok : ok = true ↔ Adj (srt L)) : AWp cR none sR2 (S1 (enc (srt L)) L.length nx) (fun e s => ((!ok) = false ∧ (e = .ret ∨ e = .normal) ∧ resM cR 61 s (fun v lp => onP (v = cond ok (.sl 1 0 L.length 2 true) (.iface 27 (.int .i64 2)) ∧ (⟨s.m.heap, s.m.nx, lp⟩ : Mem) = memC (enc (srt L)) nx)) = true) ∨ ((!ok) = true ∧ e = .panic (cond ok (.sl 1 0 L.length 2 true) (.iface 27 (.int .i64 2))) ∧ s.ds = [] ∧ s.m = memC (enc (srt L)) nx)) := by
  have hm := srt_len L
  have hlf := LFs_ok (M := srt L) (by omega) (by omega) (nx := nx) hok
  rw [hm] at hlf
  have h4 : AWp cR none sR2 (S1 (enc (srt L)) L.length nx) (fun e s => onP ((ok = true ∧ e = .ret ∧ keepSH [2] [1] s = Z1 (enc (srt L)) L.length nx) ∨ (ok = false ∧ e = pan ∧ keepSH [2] [1] s = ⟨[.any, .any, .nils, .any, .any, .any, .any, .any, .any, .any, .any, .any, .any, .any, .any, .any, .any, .any, .any, .any, .any, .any, .any, .any, .any, .any], [], memC (enc (srt L)) nx⟩)) = true) :=
    awp_gM hC (n := 300) (g := keepSH [2] [1]) (l := [LFs (enc (srt L)) L.length nx ok]) (K := fun e s => onP ((ok = true ∧ e = .ret ∧ s = Z1 (enc (srt L)) L.length nx) ∨ (ok = false ∧ e = pan ∧ s = ⟨[.any, .any, .nils, .any, .any, .any, .any, .any, .any, .any, .any, .any, .any, .any, .any, .any, .any, .any, .any, .any, .any, .any, .any, .any, .any, .any], [], memC (enc (srt L)) nx⟩)))
      (by rw [lR2]; exact ⟨hlf, trivial⟩) ((t_sr2 (enc (srt L)) L.length nx ok (fun e s => onP ((ok = true ∧ e = .ret ∧ s = Z1 (enc (srt L)) L.length nx) ∨ (ok = false ∧ e = pan ∧ s = ⟨[.any, .any, .nils, .any, .any, .any, .any, .any, .any, .any, .any, .any, .any, .any, .any, .any, .any, .any, .any, .any, .any, .any, .any, .any, .any, .any], [], memC (enc (srt L)) nx⟩)))).trans (band (onP_true rfl) (bdt (fun ho => onP_true (.inl ⟨ho, rfl, rfl⟩)) (fun ho => onP_true (.inr ⟨ho, rfl, rfl⟩)))))
  refine h4.post fun e s he => ⟨keepSH [2] [1] s, LessS.keepSH _ _ s, ?_⟩
  rcases of_onP he with ⟨ho, rfl, hs⟩ | ⟨ho, rfl, hs⟩
  · refine .inl ⟨by rw [ho]; rfl, .inl rfl, ?_⟩
    rw [hs, t_res, ho]
    exact onP_true ⟨rfl, rfl⟩
  · refine .inr ⟨by rw [ho]; rfl, by rw [ho]; rfl, ?_, ?_⟩
    · rw [hs]
    · rw [hs]
theorem sorted_all {L : RL} (h1 : 1 ≤ L.length) (hl : L.length ≤ 5000) (nx : Nat) {ok : Bool} (hok : ok = true ↔ Adj (srt L)) : XCalls cR 61 [.sl 1 0 L.length 2 true] (memC (enc L) nx) (!ok) (cond ok (.sl 1 0 L.length 2 true) (.iface 27 (.int .i64 2))) (memC (enc (srt L)) nx) := by
  refine xcalls_st (C := cR) (by kernel_rfl) ?_
  show AWp cR none codeS _ _
  rw [s_code]
  refine AWp.seq (AWp.mono (fun e s hh => ?_) (awp_run hC (t_sr0 (enc L) L.length nx)))
  obtain ⟨rfl, hh⟩ := hh
  refine AWp.less hh (AWp.seq ?_)
  have hsx : XCalls cR 62 (aS L.length) (memC (enc L) nx) false (.tup []) (memC (enc (srt L)) nx) := sort_x hl nx
  have h3 : AWp cR none (.region 1 (opsOf sR1) false) (S1 (enc L) L.length nx) (fun e s => onP (e = .normal ∧ keepSH [0, 2] [1] s = S1 (enc (srt L)) L.length nx) = true) :=
    AWp.regionC (callX_ok hC (run_sound hC 300).1 (by kernel_rfl) hsx) (k := fun e s => (fun e s => onP (e = .normal ∧ s = S1 (enc (srt L)) L.length nx)) e (keepSH [0, 2] [1] s))
      ((t_sr1 (enc L) (enc (srt L)) L.length nx (fun e s => onP (e = .normal ∧ s = S1 (enc (srt L)) L.length nx))).trans (band (onP_true ⟨rfl, rfl⟩) (onP_true ⟨rfl, rfl⟩)))
  rw [← s_r1] at h3
  refine h3.mono fun e s he => ?_
  obtain ⟨rfl, he2⟩ := of_onP he
  refine AWp.less (LessS.keepSH [0, 2] [1] s) ?_
  rw [he2]
  exact sorted_3 h1 hl nx hok
end Go.Bas.BasAvS3
end
section
namespace Go.Bas.BasAvS4
open Go.RowKit Go.Proofs Go.Shelf
open Go.Bas.BasZBase Go.Bas.BasAvR1 Go.Bas.BasAvR2 Go.Bas.BasAvR3 Go.Bas.BasAvL Go.Bas.BasAvF Go.Bas.BasAvW Go.Bas.BasAvP1 Go.Bas.BasAvA Go.Bas.BasAvS Go.Bas.BasAvS2 Go.Bas.BasAvS3
set_option maxRecDepth 100000
set_option maxHeartbeats 4000000
set_option linter.unusedVariables false
set_option linter.unusedSimpArgs false
noncomputable def mem0 (nx : Nat) : Mem := ⟨[], nx, []⟩
noncomputable def aN : List AV := [.nils, .fn (.func 63) [] []]
theorem sort_n (nx : Nat) : XCalls cR 62 aN (mem0 nx) false (.tup []) (mem0 nx) := by
  intro w B oC oL ω us M hr
  obtain ⟨hn, hr⟩ := hr
  have hn : 2 = us.size := hn
  obtain ⟨v0, v1, rfl⟩ : ∃ v0 v1, us = #[v0, v1] := ⟨us[0], us[1], by
    apply Array.ext
    · simp [← hn]
    · intro i h1 h2
      have h2 : i < 2 := h2
      rcases i with _ | _ | i
      · rfl
      · rfl
      · omega⟩
  have r0 : Rep w (Or2 B oL) oC ω nx .nils v0 := hr 0 (Nat.zero_lt_succ _)
  cases r0
  have hcon := AnyF.slices_SortFunc_none (P := Tryd.prog) Tryd.sortRow none 0 v1 w
  change Calls Tryd.prog 62 #[.slice none 0 0, v1] w _ at hcon
  refine callsIn_calls.2 (hcon.mono fun e w' hh => ?_)
  obtain ⟨rfl, rfl⟩ := hh
  exact .inl ⟨.tup [], .tuple #[], mem0 nx, oC, oL, ω, rfl, onP_true ⟨rfl, rfl⟩, ExtR.refl, M, .tup _ _ _ rfl (fun i hi => absurd hi (Nat.not_lt_zero _))⟩
noncomputable def N1 (nx : Nat) : St := ⟨[.nils, .any, .nils, .any, .any, .any, .any, .any, .any, .any, .any, .any, .any, .any, .any, .any, .any, .any, .any, .any, .any, .any, .any, .any, .any, .any], [], mem0 nx⟩
theorem t_n0 (nx : Nat) (k : Ex → St → Bool) : run cR 300 none none sR0 ⟨(st0 Tryd.prog 61 [.nils]).tmps, [], mem0 nx⟩ (fun e s => k e (keepSH [0, 2] [] s)) false = k .normal (N1 nx) := by kernel_rfl
theorem t_n1 (nx : Nat) (k : Ex → St → Bool) : opsK cR (callX cR (run cR 300) 62 aN (mem0 nx) false (.tup []) (mem0 nx)) (opsOf sR1) (opsOf sR1).toList (N1 nx) (fun s => k .normal (keepSH [0, 2] [] s)) (fun v s => k (.panic v) (keepSH [0, 2] [] s)) false = ba (onP (aN = aN ∧ mem0 nx = mem0 nx)) (k .normal (N1 nx)) := by kernel_rfl
theorem t_n2 (nx : Nat) (k : Ex → St → Bool) : run cR 300 none none sR2 (N1 nx) (fun e s => k e (keepSH [2] [] s)) false = k .ret ⟨[.any, .any, .nils, .any, .any, .any, .any, .any, .any, .any, .any, .any, .any, .any, .any, .any, .any, .any, .any, .any, .any, .any, .any, .any, .any, .any], [], mem0 nx⟩ := by kernel_rfl
theorem t_nr (nx : Nat) (k : AV → Loops → Bool) : resM cR 61 ⟨[.any, .any, .nils, .any, .any, .any, .any, .any, .any, .any, .any, .any, .any, .any, .any, .any, .any, .any, .any, .any, .any, .any, .any, .any, .any, .any], [], mem0 nx⟩ k = k .nils [] := by kernel_rfl
theorem sorted_n (nx : Nat) : XCalls cR 61 [.nils] (mem0 nx) false .nils (mem0 nx) := by
  refine xcalls_st (C := cR) (by kernel_rfl) ?_
  show AWp cR none codeS _ _
  rw [s_code]
  refine AWp.seq (AWp.mono (fun e s hh => ?_) (awp_run hC (t_n0 nx)))
  obtain ⟨rfl, hh⟩ := hh
  refine AWp.less hh (AWp.seq ?_)
  have h3 : AWp cR none (.region 1 (opsOf sR1) false) (N1 nx) (fun e s => onP (e = .normal ∧ keepSH [0, 2] [] s = N1 nx) = true) :=
    AWp.regionC (callX_ok hC (run_sound hC 300).1 (by kernel_rfl) (sort_n nx)) (k := fun e s => (fun e s => onP (e = .normal ∧ s = N1 nx)) e (keepSH [0, 2] [] s))
      ((t_n1 nx (fun e s => onP (e = .normal ∧ s = N1 nx))).trans (band (onP_true ⟨rfl, rfl⟩) (onP_true ⟨rfl, rfl⟩)))
  rw [← s_r1] at h3
  refine h3.mono fun e s he => ?_
  obtain ⟨rfl, he2⟩ := of_onP he
  refine AWp.less (LessS.keepSH [0, 2] [] s) ?_
  rw [he2]
  refine AWp.post (awp_run hC (t_n2 nx)) fun e s hh => ?_
  obtain ⟨rfl, hh⟩ := hh
  refine ⟨_, hh, .inl ⟨rfl, .inl rfl, ?_⟩⟩
  rw [t_nr]
  exact onP_true ⟨rfl, rfl⟩
noncomputable def memR (r : Option (List AV × Nat)) (nx : Nat) : Mem := ⟨rwH r, nx, []⟩
noncomputable abbrev errI : AV := .iface 27 (.int .i64 2)
theorem srt_nil : srt [] = [] := List.eq_nil_of_length_eq_zero (srt_len [])
theorem rwo_cons {L : RL} (h : L ≠ []) : rwo L = some (enc L, L.length) := by
  cases L with
  | nil => exact absurd rfl h
  | cons p l => rfl
theorem sorted_ok {L : RL} (hl : L.length ≤ 5000) (nx : Nat) (hA : Adj (srt L)) : XCalls cR 61 [rwV (rwo L)] (memR (rwo L) nx) false (rwV (rwo (srt L))) (memR (rwo (srt L)) nx) := by
  by_cases h : L = []
  · subst h
    rw [srt_nil]
    exact sorted_n nx
  · have h1 : 1 ≤ L.length := by cases L with | nil => exact absurd rfl h | cons p l => exact Nat.succ_pos _
    have h2 : srt L ≠ [] := fun hh => by
      have := srt_len L
      rw [hh] at this
      have : 0 = L.length := this
      omega
    have := sorted_all h1 hl nx (ok := true) ⟨fun _ => hA, fun _ => rfl⟩
    rw [rwo_cons h, rwo_cons h2, srt_len]
    exact this
theorem sorted_pan {L : RL} (hl : L.length ≤ 5000) (nx : Nat) (hA : ¬ Adj (srt L)) : XCalls cR 61 [rwV (rwo L)] (memR (rwo L) nx) true errI (memR (rwo (srt L)) nx) := by
  by_cases h : L = []
  · subst h
    rw [srt_nil] at hA
    exact absurd (fun i hi => absurd hi (Nat.not_lt_zero _)) hA
  · have h1 : 1 ≤ L.length := by cases L with | nil => exact absurd rfl h | cons p l => exact Nat.succ_pos _
    have h2 : srt L ≠ [] := fun hh => by
      have := srt_len L
      rw [hh] at this
      have : 0 = L.length := this
      omega
    have := sorted_all h1 hl nx (ok := false) ⟨fun hh => (by cases hh), fun hh => absurd hh hA⟩
    rw [rwo_cons h, rwo_cons h2, srt_len]
    exact this
end Go.Bas.BasAvS4
end
section
namespace Go.Bas.BasAvP3
open Go.RowKit Go.Proofs
open Go.Bas.BasZBase Go.Bas.BasAvR1 Go.Bas.BasAvR2 Go.Bas.BasAvP1 Go.Bas.BasAvP2
set_option maxRecDepth 100000
set_option maxHeartbeats 4000000
set_option linter.unusedVariables false
set_option linter.unusedSimpArgs false
noncomputable def hQ (us : List AV) (m : Nat) (r : Option (List AV × Nat)) (n : Int) : St := ⟨[.any, .any, rwV r, .any, .any, .any, .any, .any, .any, .any, .any, .any, .any, .any, .any, .any, .any, .any, .any, .any, .any, .any, .any, .any, .any, .any, .any, .any, .any, .any, .any, .any, .any, .any, .any, .any, .any, .any, .any, .any, .any, .any, .any, .any, .any, .any, .any, .any, .any, .any, .any, .any, .any, .any, .any, .any, .any, .any, .any, .any, .any, .any, .any, .any, .any, .any, .any, .any, .any, .any, .any, .any, .any, .any, .any, .any, .any, .any, .any, .any, .any, .any, .any, .any, .any, .any, .any, .any, .any, .any, .any, .any, .any, .any, .any, .any, .any, .any, .any, .any, .any, .any, .any, .any, .lst us m, .int .i64 (Int.ofNat m), .int .i64 n, .any, .any, .any, .any, .any, .any, .any, .any, .any, .any, .any, .any, .any, .any, .any, .any, .any, .any], [], ⟨rwH r, 2, []⟩⟩
noncomputable def hQ3 (us : List AV) (m : Nat) (r : Option (List AV × Nat)) (n : Int) : St := ⟨[.any, .any, rwV r, .any, .any, .any, .any, .any, .any, .any, .any, .any, .any, .any, .any, .any, .any, .any, .any, .any, .any, .any, .any, .any, .any, .any, .any, .any, .any, .any, .any, .any, .any, .any, .any, .any, .any, .any, .any, .any, .any, .any, .any, .any, .any, .any, .any, .any, .any, .any, .any, .any, .any, .any, .any, .any, .any, .any, .any, .any, .any, .any, .any, .any, .any, .any, .any, .any, .any, .any, .any, .any, .any, .any, .any, .any, .any, .any, .any, .any, .any, .any, .any, .any, .any, .any, .any, .any, .any, .any, .any, .any, .any, .any, .any, .any, .any, .any, .any, .any, .any, .any, .any, .any, .lst us m, .int .i64 (Int.ofNat m), .int .i64 n, .any, .any, .any, .any, .any, .any, .any, .any, .any, .any, .any, .any, .any, .any, .any, .any, .any, .any], [], ⟨rwH r, 3, []⟩⟩
noncomputable def hQX (us : List AV) (m : Nat) (cs : List AV) (q : Nat) (n : Int) : St := ⟨[.any, .any, .sl 4 0 q 2 true, .any, .any, .any, .any, .any, .any, .any, .any, .any, .any, .any, .any, .any, .any, .any, .any, .any, .any, .any, .any, .any, .any, .any, .any, .any, .any, .any, .any, .any, .any, .any, .any, .any, .any, .any, .any, .any, .any, .any, .any, .any, .any, .any, .any, .any, .any, .any, .any, .any, .any, .any, .any, .any, .any, .any, .any, .any, .any, .any, .any, .any, .any, .any, .any, .any, .any, .any, .any, .any, .any, .any, .any, .any, .any, .any, .any, .any, .any, .any, .any, .any, .any, .any, .any, .any, .any, .any, .any, .any, .any, .any, .any, .any, .any, .any, .any, .any, .any, .any, .any, .any, .lst us m, .int .i64 (Int.ofNat m), .int .i64 n, .any, .any, .any, .any, .any, .any, .any, .any, .any, .any, .any, .any, .any, .any, .any, .any, .any, .any], [], ⟨[(4, ⟨cs, 47, true⟩)], 5, []⟩⟩
noncomputable def rowP (us : List AV) (n : Int) : List AV := [.int .u64 (IntKind.wrap .u64 n), .int .u64 (IntKind.wrap .u64 ((lget us (n.toNat * 4 + 1)).toI - 1))]
theorem t_q0 (us : List AV) (m : Nat) (r : Option (List AV × Nat)) (n : Int) (K : Ex → St → Bool) : runM cR 300 bodyQ [] (hQ us m r n) (fun e s => K e (keepSH [2, 104, 105, 106] [1, 4] s)) =
    br (decide (n < Int.ofNat m)) (ld4 us m n (br (!decide ((lget us (n.toNat * 4 + 1)).toI = 0)) (apC r (K .normal (hQX us m (apCs r (rowP us n)) (apQ r) (IntKind.wrap .i64 (n + 1)))))
      (K .normal (hQ3 us m r (IntKind.wrap .i64 (n + 1)))))) (K (.exit 2) (hQ us m r n)) := by
  cases r with
  | none => kernel_rfl
  | some p => obtain ⟨a, b⟩ := p; kernel_rfl
theorem lq : loopsOf bodyQ = [] := by kernel_rfl
theorem ren_X (us : List AV) (m : Nat) (cs : List AV) (q : Nat) (n : Int) : Less cR (hQX us m cs q n) (hQ us m (some (cs, q)) n) := by
  have h := Less.ren (C := cR) [(4, 1)] 2 (st := hQX us m cs q n) rfl rfl (by kernel_rfl)
  have e : renS [(4, 1)] 2 (hQX us m cs q n) = hQ us m (some (cs, q)) n := by kernel_rfl
  rw [e] at h
  exact h
theorem ren_3 (us : List AV) (m : Nat) (r : Option (List AV × Nat)) (n : Int) : Less cR (hQ3 us m r n) (hQ us m r n) := by
  cases r with
  | none =>
    have h := Less.ren (C := cR) [] 2 (st := hQ3 us m none n) rfl rfl (by kernel_rfl)
    have e : renS [] 2 (hQ3 us m none n) = hQ us m none n := by kernel_rfl
    rw [e] at h
    exact h
  | some p =>
    obtain ⟨a, b⟩ := p
    have h := Less.ren (C := cR) [(1, 1)] 2 (st := hQ3 us m (some (a, b)) n) rfl rfl (by kernel_rfl)
    have e : renS [(1, 1)] 2 (hQ3 us m (some (a, b)) n) = hQ us m (some (a, b)) n := by kernel_rfl
    rw [e] at h
    exact h
/-- The second loop. -/
theorem zq0 {us : List AV} {m : Nat} (hc : CL us m) (hm1 : 1 ≤ m) (h0 : cA us 0 = 0) {KK : Ex → St → Prop} (hOk : KK (.exit 2) (hQ us m (rws us m) (Int.ofNat m))) : AWq cR (.loop bodyQ) (hQ us m none 0) KK := by
  have hm := hc.2.1
  refine awq_loopK hC (ι := { i : Nat // i ≤ m }) (fun i => hQ us m (rws us i.1) (i.1 : Int)) (fun i => m - i.1) (n := 300) (l := fun _ => []) (g := keepSH [2, 104, 105, 106] [1, 4]) (fun _ => by rw [lq]; exact trivial) (fun s => LessS.keepSH _ _ s) ?_ ⟨0, Nat.zero_le _⟩
  rintro ⟨i, him⟩ K hk
  have hw : ((i : Nat) : Int).toNat = i := rfl
  have eo : (Int.ofNat m : Int) = (m : Int) := rfl
  have e1 : IntKind.wrap .i64 ((i : Int) + 1) = ((i + 1 : Nat) : Int) := by
    rw [wI (by omega) (by omega)]
    omega
  refine (t_q0 us m (rws us i) (i : Int) K).trans (bdt (fun h => ?_) (fun h => hk _ _ ?_))
  · have h : ((i : Nat) : Int) < Int.ofNat m := of_decide_eq_true h
    have h' : i < m := by omega
    refine ld4_ok hc h' ?_
    rw [hw]
    refine bdt (fun a4 => apC_ok (by omega) (hk _ _ ?_)) (fun a4 => hk _ _ ?_)
    · have hz : cA us i ≠ 0 := by
        intro hh
        rw [show (lget us (i * 4 + 1)).toI = 0 from hh] at a4
        cases a4
      have hi1 : 1 ≤ i := by
        rcases Nat.eq_zero_or_pos i with h | h
        · subst h; exact absurd h0 hz
        · exact h
      refine .inl ⟨rfl, ⟨i + 1, h'⟩, by show m - (i + 1) < m - i; omega, ?_⟩
      have er : rws us (i + 1) = some (apCs (rws us i) (rowA us i), apQ (rws us i)) := by
        show cond (decide (1 ≤ i) && !decide (cA us i = 0)) (apR (rws us i) (rowA us i)) (rws us i) = _
        rw [decide_eq_true hi1, decide_eq_false hz]
        exact apR_is _ _
      show Less cR _ (hQ us m (rws us (i + 1)) ((i + 1 : Nat) : Int))
      rw [er, e1]
      exact ren_X us m _ _ _
    · have hz : (lget us (i * 4 + 1)).toI = 0 := by simpa using a4
      refine .inl ⟨rfl, ⟨i + 1, h'⟩, by show m - (i + 1) < m - i; omega, ?_⟩
      have er : rws us (i + 1) = rws us i := by
        show cond (decide (1 ≤ i) && !decide (cA us i = 0)) (apR (rws us i) (rowA us i)) (rws us i) = _
        rw [decide_eq_true (show cA us i = 0 from hz)]
        cases decide (1 ≤ i) <;> rfl
      show Less cR _ (hQ us m (rws us (i + 1)) ((i + 1 : Nat) : Int))
      rw [er, e1]
      exact ren_3 us m _ _
  · have h : ¬ ((i : Nat) : Int) < Int.ofNat m := of_decide_eq_false h
    have h' : i = m := by omega
    subst h'
    exact .inr ⟨fun hh => (by cases hh), hOk⟩
end Go.Bas.BasAvP3
end
section
namespace Go.Bas.BasAvP4
open Go.RowKit Go.Proofs
open Go.Bas.BasZBase Go.Bas.BasAvR1 Go.Bas.BasAvR2 Go.Bas.BasAvR3 Go.Bas.BasAvP1 Go.Bas.BasAvP2 Go.Bas.BasAvP3
set_option maxRecDepth 100000
set_option maxHeartbeats 4000000
set_option linter.unusedVariables false
set_option linter.unusedSimpArgs false
noncomputable def agC (c : Conf) (us : List AV) (m : Nat) : AV := .agg (c.cells ++ [.lst us m])
noncomputable def qm (m : Nat) : Nat := Int.toNat (IntKind.wrap .i64 (2 * Int.ofNat m))
noncomputable def hP0 (c : Conf) (us : List AV) (m : Nat) : St := hP c us m (qm m) (List.flatten (List.replicate (qm m) [.int .u64 0])) (IntKind.wrap .i64 (Int.ofNat m - 1)) 3
noncomputable def E0 (c : Conf) (us : List AV) (m : Nat) : St := ⟨[.any, .ptr 0 0, .nils, .any, .any, .any, .any, .any, .any, .any, .any, .any, .any, .any, .any, .any, .any, .any, .any, .any, .any, .any, .any, .any, .any, .any, .any, .any, .any, .any, .any, .any, .any, .any, .any, .any, .any, .any, .any, .any, .any, .any, .any, .any, .any, .any, .any, .any, .any, .any, .any, .any, .any, .any, .any, .any, .any, .any, .any, .any, .any, .any, .any, .any, .any, .any, .any, .any, .any, .any, .any, .any, .any, .any, .any, .any, .any, .any, .any, .any, .any, .any, .any, .any, .any, .any, .any, .any, .any, .any, .any, .any, .any, .any, .any, .any, .any, .any, .any, .any, .any, .any, .any, .any, .any, .any, .any, .any, .any, .any, .any, .any, .any, .any, .any, .any, .any, .any, .any, .any, .any, .any, .any, .any, .any], [], ⟨[(0, ⟨c.cells ++ [.lst us m], 54, true⟩)], 3, []⟩⟩
noncomputable def PB (nx : Nat) : St := ⟨[.any, .any, .any, .any, .any, .any, .any, .any, .any, .any, .any, .any, .any, .any, .any, .any, .any, .any, .any, .any, .any, .any, .any, .any, .any, .any, .any, .any, .any, .any, .any, .any, .any, .any, .any, .any, .any, .any, .any, .any, .any, .any, .any, .any, .any, .any, .any, .any, .any, .any, .any, .any, .any, .any, .any, .any, .any, .any, .any, .any, .any, .any, .any, .any, .any, .any, .any, .any, .any, .any, .any, .any, .any, .any, .any, .any, .any, .any, .any, .any, .any, .any, .any, .any, .any, .any, .any, .any, .any, .any, .any, .any, .any, .any, .any, .any, .any, .any, .any, .any, .any, .any, .any, .any, .any, .any, .any, .any, .any, .any, .any, .any, .any, .any, .any, .any, .any, .any, .any, .any, .any, .any, .any, .any, .any], [], ⟨[], nx, []⟩⟩
noncomputable def G0 (c : Conf) (us : List AV) (m : Nat) (ok : Bool) : LF := fun st k => cond (onP (keepSH [1, 2, 3, 4] [0, 2] st = hP0 c us m)) (cond ok (k (.exit 0) (E0 c us m)) (k pan (PB 4))) false
noncomputable def G1 (us : List AV) (m : Nat) (r : Option (List AV × Nat)) : LF := fun st k => cond (onP (keepSH [2, 104, 105, 106] [] st = hQ3 us m none 0 ∧ cA us 0 = 0)) (k (.exit 2) (hQ us m r (Int.ofNat m))) false
noncomputable def frzP : Option (List AV × Nat) → (AV → Bool) → Bool
  | none, K => K .nils
  | some p, K => br (Nat.beq p.2 0) (K .ns) (ba (Nat.ble (0 + p.2 * 2) p.1.length) (K (.lst (p.1.take (p.2 * 2)) p.2)))
noncomputable def ld00 (us : List AV) (m : Nat) (x : Bool) : Bool := ba (decide ((0 : Int) < Int.ofNat m) && Nat.beq us.length (m * 4)) (ba (Nat.ble 4 us.length) (ba (AV.isI .u64 (lget us 0)) (ba (AV.isI .u64 (lget us 1)) (ba (AV.isI .u64 (lget us 2)) (ba (AV.isI .u64 (lget us 3)) x)))))
noncomputable def ld10 (us : List AV) (m : Nat) (x : Bool) : Bool := ba (decide ((1 : Int) < Int.ofNat m) && Nat.beq us.length (m * 4)) (ba (Nat.ble 7 us.length) (ba (AV.isI .u64 (lget us 6)) x))
noncomputable def mkq (m : Nat) (x : Bool) : Bool := ba (decide (0 ≤ IntKind.wrap .i64 (2 * Int.ofNat m)) && (decide (IntKind.wrap .i64 (2 * Int.ofNat m) ≤ IntKind.wrap .i64 (2 * Int.ofNat m)) && (Nat.ble (Int.toNat (IntKind.wrap .i64 (2 * Int.ofNat m))) 9223372036854775807 && Nat.ble (Int.toNat (IntKind.wrap .i64 (2 * Int.ofNat m)) * 8) 140737488355328))) x
noncomputable def tP (c : Conf) (us : List AV) (m : Nat) (ok : Bool) (p1 p3 p4 last : Bool) : Bool :=
  ld00 us m (br (decide ((lget us 1).toI = 0)) (br (decide ((lget us 2).toI = 0)) (br (!decide ((lget us 3).toI = 0)) p1
    (mkq m (ba (onP (hP0 c us m = hP0 c us m)) (br ok (ld10 us m (br (!decide ((lget us 6).toI ≤ IntKind.wrap .u64 c.cap)) p3 (ba (onP (hQ3 us m none 0 = hQ3 us m none 0 ∧ cA us 0 = 0)) last))) p4)))) p1) p1)
theorem t_fP (c : Conf) (us : List AV) (m : Nat) (r : Option (List AV × Nat)) (ok : Bool) (K : AV → Bool) : runFM cR 300 54 [G0 c us m ok, G1 us m r] [agC c us m] K = tP c us m ok false false false (frzP r K) := by
  cases r with
  | none => kernel_rfl
  | some p => obtain ⟨a, b⟩ := p; kernel_rfl
theorem t_gP (c : Conf) (us : List AV) (m : Nat) (r : Option (List AV × Nat)) (ok : Bool) (K : Ex → St → Bool) : runM cR 300 codeP [G0 c us m ok, G1 us m r] (st0 Tryd.prog 54 [agC c us m]) (fun e s => K e (keepSH [] [] s)) = tP c us m ok (K pan (PB 2)) (K pan (PB 3)) (K pan (PB 4)) (K .ret (PB 2)) := by
  cases r with
  | none => kernel_rfl
  | some p => obtain ⟨a, b⟩ := p; kernel_rfl
theorem lc : loopsOf codeP = [.loop bodyP, .loop bodyQ] := by kernel_rfl
theorem E0_is (c : Conf) (us : List AV) (m q : Nat) (mc : List AV) (n : Int) : keepSH [1, 2] [0] (hP c us m q mc n 3) = E0 c us m := by kernel_rfl
theorem PB_is (c : Conf) (us : List AV) (m q : Nat) (mc : List AV) (n : Int) : keepSH [] [] (hP c us m q mc n 4) = PB 4 := by kernel_rfl
theorem qm_is {m : Nat} (hm : m ≤ 1000) : qm m = 2 * m := by
  unfold qm
  rw [show (Int.ofNat m : Int) = (m : Int) from rfl, wI (by omega) (by omega)]
  omega
theorem zer_eq (q : Nat) : List.flatten (List.replicate q [AV.int .u64 0]) = List.replicate q (AV.int .u64 0) := by
  induction q with
  | zero => rfl
  | succ n ih => rw [List.replicate_succ, List.flatten_cons, ih]; rfl
theorem zer_get {q i : Nat} (h : i < q) : lget (List.replicate q (AV.int .u64 0)) i = .int .u64 0 := by rw [lget_eq]; simp [h]
theorem SM_0 {us : List AV} {m : Nat} (hm : 1 ≤ m) : SM us m (m - 1) (List.replicate (2 * m) (AV.int .u64 0)) :=
  ⟨by omega, by simp, fun j h1 h2 => by rw [zer_get h2, BasAvM.tot_high us (by omega)]; rfl, fun j h1 => zer_get (by omega), fun i h1 h2 => by omega⟩
theorem G0_ok {c : Conf} {us : List AV} {m : Nat} (hc : CL us m) (hm : 1 ≤ m) {ok : Bool} (h1 : ok = true → ∀ i, 1 ≤ i → i < m → ¬ Bad us m i) (h0 : ok = false → ∃ i, 1 ≤ i ∧ i < m ∧ Bad us m i) : ∀ (st : St) (k : Ex → St → Bool), G0 c us m ok st k = true → AWq cR (.loop bodyP) st (fun e s => k e s = true) := fun st k hk => by
  obtain ⟨e1, e2⟩ := of_cond hk
  have e1 := of_onP e1
  refine AWq.less (fun w B oC oL ω a S => ⟨ω, (LessS.keepSH (C := cR) [1, 2, 3, 4] [0, 2] st).2 w B oC oL ω a S⟩) ?_
  rw [e1]
  have hm2 := hc.2.1
  have e3 : hP0 c us m = hP c us m (2 * m) (List.replicate (2 * m) (AV.int .u64 0)) ((m - 1 : Nat) : Int) 3 := by
    unfold hP0
    rw [qm_is hm2, zer_eq, show (Int.ofNat m : Int) = (m : Int) from rfl, wI (by omega) (by omega)]
    rw [show (m : Int) - 1 = ((m - 1 : Nat) : Int) by omega]
  rw [e3]
  refine AWq.post (K := fun e s => (e = .exit 0 ∧ ok = true ∧ ∃ mc, s = hP c us m (2 * m) mc 0 3) ∨ (e = pan ∧ ok = false ∧ ∃ mc n, s = hP c us m (2 * m) mc n 4)) (zp0 hc (SM_0 hm) (fun ha mc => .inl ⟨rfl, ?_, mc, rfl⟩) (fun hb mc n => .inr ⟨rfl, ?_, mc, n, rfl⟩)) ?_
  · cases ok with
    | true => rfl
    | false => obtain ⟨i, i1, i2, i3⟩ := h0 rfl; exact absurd i3 (ha i i1 i2)
  · cases ok with
    | false => rfl
    | true => obtain ⟨i, i1, i2, i3⟩ := hb; exact absurd i3 (h1 rfl i i1 i2)
  · rintro e s (⟨rfl, ho, mc, hs⟩ | ⟨rfl, ho, mc, n, hs⟩)
    · rw [ho] at e2
      refine ⟨E0 c us m, ?_, e2⟩
      rw [hs, ← E0_is c us m (2 * m) mc 0]
      exact LessS.keepSH _ _ _
    · rw [ho] at e2
      refine ⟨PB 4, ?_, e2⟩
      rw [hs, ← PB_is c us m (2 * m) mc n]
      exact LessS.keepSH _ _ _
theorem G1_ok {us : List AV} {m : Nat} (hc : CL us m) (hm : 1 ≤ m) : ∀ (st : St) (k : Ex → St → Bool), G1 us m (rws us m) st k = true → AWq cR (.loop bodyQ) st (fun e s => k e s = true) := fun st k hk => by
  obtain ⟨e1, e2⟩ := of_cond hk
  obtain ⟨e1, h0⟩ := of_onP e1
  refine AWq.less (fun w B oC oL ω a S => ⟨ω, (LessS.keepSH (C := cR) [2, 104, 105, 106] [] st).2 w B oC oL ω a S⟩) ?_
  rw [e1]
  exact AWq.less (ren_3 us m none 0) (zq0 hc hm h0 e2)
/-- Where the cells may be, its answer. -/
theorem tP_ok {c : Conf} {us : List AV} {m : Nat} (hc : CL us m) (hm : 2 ≤ m) (hk : c.OkP) {ok : Bool} (hok : ok = true ↔ ∀ i, 1 ≤ i → i < m → ¬ Bad us m i) {p1 p3 p4 last : Bool} (h1 : ¬ RouteOk c us m → p1 = true) (h3 : ¬ RouteOk c us m → p3 = true) (h4 : ¬ RouteOk c us m → p4 = true) (h5 : RouteOk c us m → last = true) : tP c us m ok p1 p3 p4 last = true := by
  have hcap : 1 ≤ c.cap ∧ c.cap ≤ 32 := by unfold Conf.OkP at hk; omega
  have hw : IntKind.wrap .u64 c.cap = c.cap := wU (by omega) (by omega)
  have g := fun j (hj : j < us.length) => (hc.2.2 j hj).1
  have hl := hc.1
  have hm2 := hc.2.1
  have e0 : (Int.ofNat m : Int) = (m : Int) := rfl
  have b1 : (decide ((0 : Int) < Int.ofNat m) && Nat.beq us.length (m * 4)) = true := by
    rw [hl, decide_eq_true (by omega), Nat.beq_refl]
    rfl
  have b2 : (decide ((1 : Int) < Int.ofNat m) && Nat.beq us.length (m * 4)) = true := by
    rw [hl, decide_eq_true (by omega), Nat.beq_refl]
    rfl
  have b3 : (decide (0 ≤ IntKind.wrap .i64 (2 * Int.ofNat m)) && (decide (IntKind.wrap .i64 (2 * Int.ofNat m) ≤ IntKind.wrap .i64 (2 * Int.ofNat m)) && (Nat.ble (Int.toNat (IntKind.wrap .i64 (2 * Int.ofNat m))) 9223372036854775807 && Nat.ble (Int.toNat (IntKind.wrap .i64 (2 * Int.ofNat m)) * 8) 140737488355328))) = true := by
    rw [e0, wI (by omega) (by omega)]
    simp only [Bool.and_eq_true, decide_eq_true_eq, Nat.ble_eq]
    omega
  have no : ∀ {p : Bool}, (¬ RouteOk c us m → p = true) → ∀ hn : ¬ RouteOk c us m, p = true := fun h hn => h hn
  unfold tP ld00 ld10 mkq
  refine band b1 (band (Nat.ble_eq_true_of_le (by omega)) (band (g _ (by omega)) (band (g _ (by omega)) (band (g _ (by omega)) (band (g _ (by omega)) (bdt (fun a1 => bdt (fun a2 => bdt (fun a3 => h1 fun hh => ?_) (fun a3 => band b3 (band (onP_true rfl) (bdt (fun a5 => band b2 (band (Nat.ble_eq_true_of_le (by omega)) (band (g _ (by omega)) (bdt (fun a4 => h3 fun hh => ?_) (fun a4 => band (onP_true ⟨rfl, of_decide_eq_true a1⟩) (h5 ?_)))))) (fun a5 => h4 fun hh => ?_))))) (fun a2 => h1 fun hh => of_decide_eq_false a2 hh.1.2.1)) (fun a1 => h1 fun hh => of_decide_eq_false a1 hh.1.1)))))))
  · rw [show (lget us 3).toI = 0 from hh.1.2.2] at a3
    cases a3
  · rw [hw] at a4
    rw [decide_eq_true (show (lget us 6).toI ≤ c.cap from hh.2.1)] at a4
    cases a4
  · rw [hw] at a4
    exact ⟨⟨of_decide_eq_true a1, of_decide_eq_true a2, show (lget us 3).toI = 0 by simpa using a3⟩, show (lget us 6).toI ≤ c.cap by simpa using a4, hok.1 a5⟩
  · rw [hok.2 hh.2.2] at a5
    cases a5
theorem q_rtP {c : Conf} {us : List AV} {m : Nat} (hc : CL us m) (hm : 2 ≤ m) (hk : c.OkP) (hr : RouteOk c us m) : ACalls Tryd.prog (gmap gs) 54 [agC c us m] (fun v => v = rowsV (rws us m)) := by
  refine acalls_eqM (q := fun _ => false) base sums_nil (n := 300) (fs := [G0 c us m true, G1 us m (rws us m)]) (by kernel_rfl) ?_ fun K hK => ?_
  · show LoopsOk cR (loopsOf codeP) _
    rw [lc]
    exact ⟨G0_ok hc (by omega) (fun _ => hr.2.2) (fun h => by cases h), G1_ok hc (by omega), trivial⟩
  refine (t_fP c us m _ _ K).trans (tP_ok hc hm hk ⟨fun _ => hr.2.2, fun _ => rfl⟩ (fun h => absurd hr h) (fun h => absurd hr h) (fun h => absurd hr h) (fun _ => ?_))
  have hl := rws_len us m
  cases hq : rws us m with
  | none => rw [hq] at hK; exact hK
  | some p =>
    have hp := rws_pos us m p hq
    rw [hq] at hK hl
    have hl : p.1.length = p.2 * 2 ∧ p.2 ≤ m := hl
    refine btf (by cases hz : p.2 with | zero => omega | succ z => rfl) (band (Nat.ble_eq_true_of_le (by omega)) ?_)
    rw [List.take_of_length_le (by omega)]
    exact hK
theorem p_rtP {c : Conf} {us : List AV} {m : Nat} (hc : CL us m) (hm : 2 ≤ m) (hk : c.OkP) (hr : ¬ RouteOk c us m) : PCalls Tryd.prog (gmap gs) 54 [agC c us m] 27 .i64 2 := by
  classical
  by_cases hA : ∀ i, 1 ≤ i → i < m → ¬ Bad us m i
  all_goals
    refine pcalls_run (C := cR) hC (n := 300) (l := [G0 c us m (decide (∀ i, 1 ≤ i → i < m → ¬ Bad us m i)), G1 us m (rws us m)]) (by kernel_rfl) ?_ (ids := []) fun K hK => ?_
    · show LoopsOk cR (loopsOf codeP) _
      rw [lc]
      refine ⟨G0_ok hc (by omega) (fun h => of_decide_eq_true h) (fun h => ?_), G1_ok hc (by omega), trivial⟩
      have h := of_decide_eq_false h
      exact Classical.byContradiction fun hn => h fun i i1 i2 i3 => hn ⟨i, i1, i2, i3⟩
    · exact (t_gP c us m _ _ K).trans (tP_ok hc hm hk ⟨fun h => of_decide_eq_true h, fun h => decide_eq_true h⟩ (fun _ => hK _ rfl rfl) (fun _ => hK _ rfl rfl) (fun _ => hK _ rfl rfl) (fun h => absurd h hr))
end Go.Bas.BasAvP4
end
