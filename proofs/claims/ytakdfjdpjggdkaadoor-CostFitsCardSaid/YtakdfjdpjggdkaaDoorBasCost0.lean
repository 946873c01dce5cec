/- Contracts: kinds, and what an operation of an index costs. -/
import Derived.Test.YtakdfjdpjggdkaaDoorBasCIdx2
import Derived.Test.YtakdfjdpjggdkaaDoorBasCIdx3
import Derived.Test.YtakdfjdpjggdkaaDoorBasCIdx4
namespace Go.Bas.BasCost0
open Go.RowKit Go.Proofs Go.Bas.BasCBase Go.Bas.BasCItems Go.Bas.BasCItems2
set_option maxRecDepth 100000
set_option linter.unusedVariables false
set_option linter.unusedSimpArgs false
/-! ### Kinds -/
theorem objT : ((List.range 15).all fun n => runF (cfg []) 300 39 [.int .u8 (Int.ofNat n)] (fun v => match v with | .int .u8 m => decide (m = objF (Int.ofNat n)) | _ => false) false) = true := by kernel_rfl
theorem wrT : ((List.range 15).all fun n => runF (cfg []) 300 47 [.int .u8 (Int.ofNat n)] (fun v => match v with | .bool b => cond b (wrF (Int.ofNat n)) (!wrF (Int.ofNat n)) | _ => false) false) = true := by kernel_rfl
theorem wI {n : Int} (h0 : 0 ≤ n) (h1 : n ≤ 255) : IntKind.wrap .i64 n = n := by
  unfold IntKind.wrap
  simp [IntKind.bits, IntKind.signed]
  omega
def pK (n : Int) : Bool := decide (0 ≤ n) && decide (n ≤ 255)
theorem pK_true {n : Int} : pK n = true ↔ 0 ≤ n ∧ n ≤ 255 := by simp [pK]
def Gobj : List AV → Option (Bool × AV)
  | [.int .u8 n] => some (pK n, .int .u8 (objF n))
  | _ => none
def Gwr : List AV → Option (Bool × AV)
  | [.int .u8 n] => some (pK n, .bool (wrF n))
  | _ => none
theorem objF_hi {n : Int} (h : 15 ≤ n) : objF n = 0 := by
  have h1 : ¬ n < 1 := by omega
  have h2 : ¬ n ≤ 3 := by omega
  have h3 : ¬ n ≤ 8 := by omega
  have h4 : ¬ n ≤ 11 := by omega
  have h5 : ¬ n ≤ 14 := by omega
  simp [objF, h1, h2, h3, h4, h5]
theorem wrF_hi {n : Int} (h : 15 ≤ n) : wrF n = false := by
  have h1 : ¬ n = 1 := by omega
  have h2 : ¬ n = 2 := by omega
  have h3 : ¬ n = 4 := by omega
  have h4 : ¬ n = 5 := by omega
  have h5 : ¬ n = 9 := by omega
  have h6 : ¬ n = 10 := by omega
  have h7 : ¬ n = 12 := by omega
  have h8 : ¬ n = 13 := by omega
  simp [wrF, h1, h2, h3, h4, h5, h6, h7, h8]
def S_obj : Sum := (39, Gobj)
def S_objR : Sum := (42, Gobj)
def S_wr : Sum := (47, Gwr)
def S_wrR : Sum := (49, Gwr)
def S_pk : Sum := (48, Fpk)
def S_st : Sum := (45, Fst)
theorem gobj_sum {f : FuncId} (h : ∀ n : Int, 0 ≤ n → n ≤ 255 → ACalls Tryd.prog (gmap gs) f [.int .u8 n] (fun v => v = .int .u8 (objF n))) : SumOk Tryd.prog (gmap gs) (f, Gobj) := fun args r hr => by
  simp only at hr
  unfold Gobj at hr
  split at hr
  · rename_i n
    simp only [Option.some.injEq, Prod.mk.injEq] at hr
    obtain ⟨hp, rfl⟩ := hr
    exact h n (pK_true.1 hp).1 (pK_true.1 hp).2
  · cases hr
theorem gwr_sum {f : FuncId} (h : ∀ n : Int, 0 ≤ n → n ≤ 255 → ACalls Tryd.prog (gmap gs) f [.int .u8 n] (fun v => v = .bool (wrF n))) : SumOk Tryd.prog (gmap gs) (f, Gwr) := fun args r hr => by
  simp only at hr
  unfold Gwr at hr
  split at hr
  · rename_i n
    simp only [Option.some.injEq, Prod.mk.injEq] at hr
    obtain ⟨hp, rfl⟩ := hr
    exact h n (pK_true.1 hp).1 (pK_true.1 hp).2
  · cases hr
theorem s_obj : SumOk Tryd.prog (gmap gs) S_obj := gobj_sum fun n h0 h1 => by
  by_cases hn : n < 15
  · obtain ⟨m, rfl⟩ := Int.eq_ofNat_of_zero_le h0
    have := List.all_eq_true.1 objT m (List.mem_range.2 (by omega))
    refine (runF_sound (cfg_ok base sums_nil) this).mono fun v hv => ?_
    split at hv
    · rw [of_decide_eq_true hv]; rfl
    · cases hv
  · refine acalls_eq base sums_nil (n := 300) fun k hk => ?_
    refine (t_obj n k).trans ?_
    rw [objF_hi (by omega)] at hk
    refine condI (fun _ => hk) (fun h => ?_)
    have := of_decide_eq_false h
    rw [wI h0 h1] at this
    omega
theorem s_wr : SumOk Tryd.prog (gmap gs) S_wr := gwr_sum fun n h0 h1 => by
  by_cases hn : n < 15
  · obtain ⟨m, rfl⟩ := Int.eq_ofNat_of_zero_le h0
    have := List.all_eq_true.1 wrT m (List.mem_range.2 (by omega))
    refine (runF_sound (cfg_ok base sums_nil) this).mono fun v hv => ?_
    split at hv
    · rename_i b
      cases b
      · have : wrF (Int.ofNat m) = false := by simpa using hv
        rw [← this]; rfl
      · have : wrF (Int.ofNat m) = true := hv
        rw [← this]; rfl
    · cases hv
  · refine acalls_eq base sums_nil (n := 300) fun k hk => ?_
    refine (t_wr n k).trans ?_
    rw [wrF_hi (by omega)] at hk
    refine condI (fun h => ?_) (fun _ => hk)
    have := of_decide_eq_true h
    rw [wI h0 h1] at this
    omega
theorem s_objR : SumOk Tryd.prog (gmap gs) S_objR := gobj_sum fun n h0 h1 => by
  refine acalls_eq base sums_nil (n := 300) fun k hk => ?_
  refine (t_objR n k).trans ?_
  have L : ∀ z : Int, objF n = z → k (.int .u8 z) = true := by rintro _ rfl; exact hk
  repeat' (first | refine condI (fun h => ?_) (fun h => ?_))
  all_goals (simp only [decide_eq_true_eq, decide_eq_false_iff_not] at *; refine L _ ?_; unfold objF)
  all_goals first | (exfalso; omega) | (repeat' (first | rw [decide_eq_true (by omega : _ < _), cond_true] | rw [decide_eq_true (by omega : _ ≤ _), cond_true] | rw [decide_eq_false (by omega : ¬ _ < _), cond_false] | rw [decide_eq_false (by omega : ¬ _ ≤ _), cond_false]))
theorem s_wrR : SumOk Tryd.prog (gmap gs) S_wrR := gwr_sum fun n h0 h1 => by
  refine acalls_eq base sums_nil (n := 300) fun k hk => ?_
  refine (t_wrR n k).trans ?_
  have L : ∀ z : Bool, wrF n = z → k (.bool z) = true := by rintro _ rfl; exact hk
  refine condI (fun h => L _ (by simp [wrF, of_decide_eq_true h])) (fun a1 => condI (fun h => L _ (by simp [wrF, of_decide_eq_true h])) (fun a2 => condI (fun h => L _ (by simp [wrF, of_decide_eq_true h])) (fun a3 => condI (fun h => L _ (by simp [wrF, of_decide_eq_true h])) (fun a4 =>
    condI (fun h => L _ (by simp [wrF, of_decide_eq_true h])) (fun a5 => condI (fun h => L _ (by simp [wrF, of_decide_eq_true h])) (fun a6 => condI (fun h => L _ (by simp [wrF, of_decide_eq_true h])) (fun a7 => L _ ?_)))))))
  unfold wrF
  rw [a1, a2, a3, a4, a5, a6, a7]
  rfl
theorem s_pk : SumOk Tryd.prog (gmap gs) S_pk := fun args r hr => by
  simp only [S_pk] at hr
  unfold Fpk at hr
  split at hr
  · simp only [Option.some.injEq, Prod.mk.injEq, true_and] at hr
    subst hr
    exact acalls_eq base sums_nil (n := 300) fun k hk => (t_pk _ _ _ k).trans hk
  · cases hr
theorem s_st : SumOk Tryd.prog (gmap gs) S_st := fun args r hr => by
  simp only [S_st] at hr
  unfold Fst at hr
  split at hr
  · simp only [Option.some.injEq, Prod.mk.injEq, true_and] at hr
    subst hr
    exact acalls_eq base sums_nil (n := 300) fun k hk => (t_st _ _ _ k).trans hk
  · cases hr
/-! ### An index's -/
def iR (c : Conf) (kd : Int) : Int := cond (decide (kd = 6)) (dI c) (cond (decide (kd = 7)) (dI c + 1) (cond (decide (kd = 8)) (dI c + c.cap) (dI c + c.cap + uI c)))
def iW (c : Conf) (kd : Int) : Int := cond (decide (kd = 6)) 0 (cond (decide (kd = 7)) 0 (cond (decide (kd = 8)) 0 (c.cap + 1 + uI c)))
def iG (c : Conf) (kd : Int) : Int := cond (decide (kd = 6)) 0 (cond (decide (kd = 7)) 0 (cond (decide (kd = 8)) (IntKind.wrap .i64 (Int.tdiv c.cap c.chunk)) 0))
def idxOk (c : Conf) : Bool := decide (1 ≤ c.cap ∧ c.cap ≤ 32 ∧ 2 ≤ c.node ∧ c.node ≤ 4 ∧ ¬ c.chunk = 0)
theorem idxOk_true {c : Conf} : idxOk c = true ↔ 1 ≤ c.cap ∧ c.cap ≤ 32 ∧ 2 ≤ c.node ∧ c.node ≤ 4 ∧ ¬ c.chunk = 0 := decide_eq_true_iff
def Fidx : List AV → Option (Bool × AV)
  | [a, .int .u8 kd] => match confOf a with
    | some c => some (idxOk c, tal (iR c kd) (iW c kd) (iG c kd))
    | none => none
  | _ => none
theorem idxT_eq {c : Conf} {kd : Int} {k : AV → Bool} (h : ¬ c.chunk = 0) : idxT c kd k = k (tal (iR c kd) (iW c kd) (iG c kd)) := by
  unfold idxT iR iW iG
  cases decide (kd = 6) <;> cases decide (kd = 7) <;> cases decide (kd = 8) <;> simp [h]
theorem idx_sum {f : FuncId} {l : List Sum} (hl : ∀ s ∈ l, SumOk Tryd.prog (gmap gs) s)
    (h2 : ∀ (c : Conf) (kd : Int) (k : AV → Bool) (n : Nat), 1 ≤ n → n ≤ 32 → runF (cfg l) 300 f [(cn (n : Int) 2 c).av, .int .u8 kd] k false = idxT (cn (n : Int) 2 c) kd k)
    (h3 : ∀ (c : Conf) (kd : Int) (k : AV → Bool) (n : Nat), 1 ≤ n → n ≤ 32 → runF (cfg l) 300 f [(cn (n : Int) 3 c).av, .int .u8 kd] k false = idxT (cn (n : Int) 3 c) kd k)
    (h4 : ∀ (c : Conf) (kd : Int) (k : AV → Bool) (n : Nat), 1 ≤ n → n ≤ 32 → runF (cfg l) 300 f [(cn (n : Int) 4 c).av, .int .u8 kd] k false = idxT (cn (n : Int) 4 c) kd k) : SumOk Tryd.prog (gmap gs) (f, Fidx) := fun args r hr => by
  simp only at hr
  unfold Fidx at hr
  split at hr
  case h_2 => cases hr
  rename_i a kd
  split at hr
  case h_2 => cases hr
  rename_i c hc
  cases confOf_some hc
  simp only [Option.some.injEq, Prod.mk.injEq] at hr
  obtain ⟨hp, rfl⟩ := hr
  obtain ⟨q1, q2, q3, q4, q5⟩ := idxOk_true.1 hp
  refine acalls_eq base hl (n := 300) fun k hk => ?_
  replace hk : idxT c kd k = true := (idxT_eq q5).trans hk
  obtain ⟨n, hn⟩ := Int.eq_ofNat_of_zero_le (show 0 ≤ c.cap by omega)
  have hnode : c.node = 2 ∨ c.node = 3 ∨ c.node = 4 := by omega
  rcases hnode with e | e | e
  · have hcn : c = cn (n : Int) 2 c := by unfold cn; rw [← hn, ← e]
    rw [hcn] at hk ⊢
    rw [h2 c kd k n (by omega) (by omega)]
    exact hk
  · have hcn : c = cn (n : Int) 3 c := by unfold cn; rw [← hn, ← e]
    rw [hcn] at hk ⊢
    rw [h3 c kd k n (by omega) (by omega)]
    exact hk
  · have hcn : c = cn (n : Int) 4 c := by unfold cn; rw [← hn, ← e]
    rw [hcn] at hk ⊢
    rw [h4 c kd k n (by omega) (by omega)]
    exact hk
def S_idx : Sum := (52, Fidx)
def S_idxR : Sum := (54, Fidx)
theorem s_idx : SumOk Tryd.prog (gmap gs) S_idx := idx_sum sums_nil BasCIdx2.p_all BasCIdx3.p_all BasCIdx4.p_all
theorem s_idxR : SumOk Tryd.prog (gmap gs) S_idxR := idx_sum (sums_cons s_items sums_nil) BasCIdx2.r_all BasCIdx3.r_all BasCIdx4.r_all
end Go.Bas.BasCost0
