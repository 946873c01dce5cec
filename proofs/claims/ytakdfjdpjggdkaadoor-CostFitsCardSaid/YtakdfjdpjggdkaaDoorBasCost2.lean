/- Contracts: what operations cost at most, object for object. -/
import Derived.Test.YtakdfjdpjggdkaaDoorBasCost
namespace Go.Bas.BasCost2
open Go.RowKit Go.Proofs Go.Bas.BasCBase Go.Bas.BasCItems Go.Bas.BasCItems2 Go.Bas.BasCost0 Go.Bas.BasCost
set_option maxRecDepth 100000
set_option linter.unusedVariables false
set_option linter.unusedSimpArgs false
theorem wb {n : Int} (h0 : -1000000 ≤ n) (h1 : n ≤ 1000000) : IntKind.wrap .i64 n = n := by
  unfold IntKind.wrap
  simp [IntKind.bits, IntKind.signed]
  omega
theorem pCost_true {c : Conf} {kd : Int} : pCost c kd = true ↔ c.OkP ∧ (0 ≤ kd ∧ kd ≤ 255) ∧ objF kd = c.ob := by
  simp only [pCost, Bool.and_eq_true, decide_eq_true_eq, ok_true, pK_true]
theorem objF_cases {n : Int} (h : 1 ≤ objF n) : (objF n = 1 ∧ 1 ≤ n ∧ n ≤ 3) ∨ (objF n = 2 ∧ 4 ≤ n ∧ n ≤ 8) ∨ (objF n = 3 ∧ 9 ≤ n ∧ n ≤ 11) ∨ (objF n = 4 ∧ 12 ≤ n ∧ n ≤ 14) := by
  unfold objF at *
  by_cases h1 : n < 1
  · simp [h1] at h
  by_cases h2 : n ≤ 3
  · simp [h1, h2]; omega
  by_cases h3 : n ≤ 8
  · simp [h1, h2, h3]; omega
  by_cases h4 : n ≤ 11
  · simp [h1, h2, h3, h4]; omega
  by_cases h5 : n ≤ 14
  · simp [h1, h2, h3, h4, h5]; omega
  · simp [h1, h2, h3, h4, h5] at h
theorem idxOk_of {c : Conf} (h : c.OkP) (h2 : c.ob = 2) : idxOk c = true := by
  simp only [Conf.OkP] at h
  rw [idxOk_true]
  omega
theorem cost_sum {f : FuncId} (h : ∀ (c : Conf) (kd : Int), pCost c kd = true → ACalls Tryd.prog (gmap gs) f [c.av, .int .u8 kd] (fun v => v = tal (cR c kd) (cW c kd) (cG c kd))) : SumOk Tryd.prog (gmap gs) (f, Fcost) := fun args r hr => by
  simp only at hr
  unfold Fcost at hr
  split at hr
  case h_2 => cases hr
  split at hr
  case h_2 => cases hr
  rename_i c hc
  cases confOf_some hc
  simp only [Option.some.injEq, Prod.mk.injEq] at hr
  obtain ⟨hp, rfl⟩ := hr
  exact h c _ hp
/-- The kinds of an object, one by one. -/
theorem kinds {c : Conf} {kd : Int} (hp : pCost c kd = true) (k : AV → Bool) (hk : k (tal (cR c kd) (cW c kd) (cG c kd)) = true) :
    (c.ob = 2 ∧ 4 ≤ kd ∧ kd ≤ 8 ∧ k (tal (iR c kd) (iW c kd) (iG c kd)) = true) ∨ (¬ c.ob = 2 ∧ ((kd = 1 ∧ k (tal (c.bits + 3) (c.bits + 1) 0) = true) ∨ (kd = 2 ∧ k (tal (c.bits + 2) (c.bits + 1) 0) = true) ∨ (kd = 3 ∧ k (tal (c.bits + 1) 0 0) = true) ∨
      (kd = 9 ∧ k (tal c.cap 1 0) = true) ∨ (kd = 10 ∧ k (tal c.cap 1 0) = true) ∨ (kd = 11 ∧ k (tal c.cap 0 0) = true) ∨ (kd = 12 ∧ k (tal (3 * c.cap) 3 0) = true) ∨ (kd = 13 ∧ k (tal (4 * c.cap) 1 0) = true) ∨ (kd = 14 ∧ k (tal (3 * c.cap) 0 0) = true))) := by
  obtain ⟨ho, hk0, hob⟩ := pCost_true.1 hp
  have ho1 : 1 ≤ c.ob := ho.1
  have hcs := objF_cases (n := kd) (by omega)
  by_cases h2 : c.ob = 2
  · refine .inl ⟨h2, by omega, by omega, ?_⟩
    simpa [cR, cW, cG, h2] using hk
  · refine .inr ⟨h2, ?_⟩
    have hkd : kd = 1 ∨ kd = 2 ∨ kd = 3 ∨ kd = 9 ∨ kd = 10 ∨ kd = 11 ∨ kd = 12 ∨ kd = 13 ∨ kd = 14 := by omega
    rcases hkd with e | e | e | e | e | e | e | e | e <;> subst e <;> simp [cR, cW, cG, h2] at hk <;> simp [hk]
theorem s_of : SumOk Tryd.prog (gmap gs) S_of := cost_sum fun c kd hp => by
  have ho := (pCost_true.1 hp).1
  have hO := ho
  simp only [Conf.OkP] at hO
  refine acalls_eq base (sums_cons s_idx sums_nil) (n := 300) fun k hk => ?_
  refine (t_of c kd k).trans ?_
  have w1 : IntKind.wrap .i64 (c.6 + 3) = c.bits + 3 := wb (by show _ ≤ c.bits + 3; omega) (by show c.bits + 3 ≤ _; omega)
  have w2 : IntKind.wrap .i64 (c.6 + 2) = c.bits + 2 := wb (by show _ ≤ c.bits + 2; omega) (by show c.bits + 2 ≤ _; omega)
  have w3 : IntKind.wrap .i64 (c.6 + 1) = c.bits + 1 := wb (by show _ ≤ c.bits + 1; omega) (by show c.bits + 1 ≤ _; omega)
  have w4 : IntKind.wrap .i64 (3 * c.7) = 3 * c.cap := wb (by show _ ≤ 3 * c.cap; omega) (by show 3 * c.cap ≤ _; omega)
  have w5 : IntKind.wrap .i64 (4 * c.7) = 4 * c.cap := wb (by show _ ≤ 4 * c.cap; omega) (by show 4 * c.cap ≤ _; omega)
  rw [w1, w2, w3, w4, w5]
  rcases kinds hp k hk with ⟨h2, h4, h8, hk⟩ | ⟨h2, h⟩
  · have e1 : decide (kd = 1) = false := decide_eq_false (by omega)
    have e2 : decide (kd = 2) = false := decide_eq_false (by omega)
    have e3 : decide (kd = 3) = false := decide_eq_false (by omega)
    have e4 : decide (kd = 9) = false := decide_eq_false (by omega)
    have e5 : decide (kd = 10) = false := decide_eq_false (by omega)
    have e6 : decide (kd = 11) = false := decide_eq_false (by omega)
    have e7 : decide (kd = 12) = false := decide_eq_false (by omega)
    have e8 : decide (kd = 13) = false := decide_eq_false (by omega)
    have e9 : decide (kd = 14) = false := decide_eq_false (by omega)
    rw [e1, e2, e3, e4, e5, e6, e7, e8, e9, idxOk_of ho h2]
    exact hk
  · rcases h with ⟨rfl, h⟩ | ⟨rfl, h⟩ | ⟨rfl, h⟩ | ⟨rfl, h⟩ | ⟨rfl, h⟩ | ⟨rfl, h⟩ | ⟨rfl, h⟩ | ⟨rfl, h⟩ | ⟨rfl, h⟩ <;> exact h
theorem s_cost : SumOk Tryd.prog (gmap gs) S_cost := cost_sum fun c kd hp => by
  have ho := (pCost_true.1 hp).1
  have hO := ho
  simp only [Conf.OkP] at hO
  refine acalls_eq base (sums_cons s_idxR sums_nil) (n := 300) fun k hk => ?_
  refine (t_cost c kd k).trans ?_
  have w1 : IntKind.wrap .i64 (c.6 + 3) = c.bits + 3 := wb (by show _ ≤ c.bits + 3; omega) (by show c.bits + 3 ≤ _; omega)
  have w2 : IntKind.wrap .i64 (c.6 + 2) = c.bits + 2 := wb (by show _ ≤ c.bits + 2; omega) (by show c.bits + 2 ≤ _; omega)
  have w3 : IntKind.wrap .i64 (c.6 + 1) = c.bits + 1 := wb (by show _ ≤ c.bits + 1; omega) (by show c.bits + 1 ≤ _; omega)
  have w4 : IntKind.wrap .i64 (3 * c.7) = 3 * c.cap := wb (by show _ ≤ 3 * c.cap; omega) (by show 3 * c.cap ≤ _; omega)
  have w5 : IntKind.wrap .i64 (4 * c.7) = 4 * c.cap := wb (by show _ ≤ 4 * c.cap; omega) (by show 4 * c.cap ≤ _; omega)
  rw [w1, w2, w3, w4, w5]
  rcases kinds hp k hk with ⟨h2, h4, h8, hk⟩ | ⟨h2, h⟩
  · have e1 : decide (c.1 = 2) = true := decide_eq_true h2
    rw [e1, idxOk_of ho h2]
    exact hk
  · have e1 : decide (c.1 = 2) = false := decide_eq_false h2
    rw [e1]
    rcases h with ⟨rfl, h⟩ | ⟨rfl, h⟩ | ⟨rfl, h⟩ | ⟨rfl, h⟩ | ⟨rfl, h⟩ | ⟨rfl, h⟩ | ⟨rfl, h⟩ | ⟨rfl, h⟩ | ⟨rfl, h⟩ <;> exact h
/-! ### The greatest ones -/
def sk (c : Conf) (a : Int) : Int := IntKind.wrap .i64 (IntKind.wrap .i64 (cR c a + cW c a) + 2)
def pkk (c : Conf) (a : Int) : Int := IntKind.wrap .i64 (IntKind.wrap .i64 (4 + cR c a) + cG c a)
def gS (c : Conf) : Int := cond (decide (c.ob = 1)) (imax (imax 0 (sk c 1)) (sk c 2)) (cond (decide (c.ob = 2)) (imax (imax 0 (sk c 4)) (sk c 5)) (cond (decide (c.ob = 3)) (imax (imax 0 (sk c 9)) (sk c 10)) (imax (imax 0 (sk c 12)) (sk c 13))))
def gP (c : Conf) : Int := cond (decide (c.ob = 1)) (imax 0 (pkk c 3)) (cond (decide (c.ob = 2)) (imax (imax (imax 0 (pkk c 6)) (pkk c 7)) (pkk c 8)) (cond (decide (c.ob = 3)) (imax 0 (pkk c 11)) (imax 0 (pkk c 14))))
def Fgr : List AV → Option (Bool × AV)
  | [a, .bool w, .fn (.func g) [] []] => match confOf a with
    | some c => cond w (cond (Nat.beq g 45) (some (c.ok, .int .i64 (gS c))) none) (cond (Nat.beq g 48) (some (c.ok, .int .i64 (gP c))) none)
    | none => none
  | _ => none
def S_gr : Sum := (44, Fgr)
def S_most : Sum := (46, fun args => match args with | [a] => (match confOf a with | some c => some (c.ok, .tup [.int .i64 (gS c), .int .i64 (gP c)]) | none => none) | _ => none)
theorem co_eq {c : Conf} {o : Int} (h : c.ob = o) : c = co o c := by unfold co; rw [← h]
theorem pCost_of {c : Conf} {kd o : Int} (h : c.OkP) (ho : c.ob = o) (hk : 0 ≤ kd ∧ kd ≤ 255) (hf : objF kd = o) : pCost (co o c) kd = true := by
  rw [← co_eq ho]
  exact pCost_true.2 ⟨h, hk, hf.trans ho.symm⟩
theorem gr_s (c : Conf) (ho : c.OkP) : ACalls Tryd.prog (gmap gs) 44 [c.av, .bool true, .fn (.func 45) [] []] (fun v => v = .int .i64 (gS c)) := by
  have hob : c.ob = 1 ∨ c.ob = 2 ∨ c.ob = 3 ∨ c.ob = 4 := by have h1 := ho.1; have h2 := ho.2.1; omega
  refine acalls_eq base (sums_cons s_of (sums_cons s_st sums_nil)) (n := 300) fun k hk => ?_
  rcases hob with h | h | h | h
  · have p1 := pCost_of (kd := 1) ho h (by decide) (by decide)
    have p2 := pCost_of (kd := 2) ho h (by decide) (by decide)
    have e : gS c = imax (imax 0 (sk c 1)) (sk c 2) := by simp [gS, h]
    rw [e, co_eq h] at hk
    rw [co_eq h]
    refine (t_gs1 c k).trans ?_
    exact andI p1 (andI p2 hk)
  · have p1 := pCost_of (kd := 4) ho h (by decide) (by decide)
    have p2 := pCost_of (kd := 5) ho h (by decide) (by decide)
    have e : gS c = imax (imax 0 (sk c 4)) (sk c 5) := by simp [gS, h]
    rw [e, co_eq h] at hk
    rw [co_eq h]
    refine (t_gs2 c k).trans ?_
    exact andI p1 (andI p2 hk)
  · have p1 := pCost_of (kd := 9) ho h (by decide) (by decide)
    have p2 := pCost_of (kd := 10) ho h (by decide) (by decide)
    have e : gS c = imax (imax 0 (sk c 9)) (sk c 10) := by simp [gS, h]
    rw [e, co_eq h] at hk
    rw [co_eq h]
    refine (t_gs3 c k).trans ?_
    exact andI p1 (andI p2 hk)
  · have p1 := pCost_of (kd := 12) ho h (by decide) (by decide)
    have p2 := pCost_of (kd := 13) ho h (by decide) (by decide)
    have e : gS c = imax (imax 0 (sk c 12)) (sk c 13) := by simp [gS, h]
    rw [e, co_eq h] at hk
    rw [co_eq h]
    refine (t_gs4 c k).trans ?_
    exact andI p1 (andI p2 hk)
theorem gr_p (c : Conf) (ho : c.OkP) : ACalls Tryd.prog (gmap gs) 44 [c.av, .bool false, .fn (.func 48) [] []] (fun v => v = .int .i64 (gP c)) := by
  have hob : c.ob = 1 ∨ c.ob = 2 ∨ c.ob = 3 ∨ c.ob = 4 := by have h1 := ho.1; have h2 := ho.2.1; omega
  refine acalls_eq base (sums_cons s_of (sums_cons s_pk sums_nil)) (n := 300) fun k hk => ?_
  rcases hob with h | h | h | h
  · have p1 := pCost_of (kd := 3) ho h (by decide) (by decide)
    have e : gP c = imax 0 (pkk c 3) := by simp [gP, h]
    rw [e, co_eq h] at hk
    rw [co_eq h]
    refine (t_gp1 c k).trans ?_
    exact andI p1 (hk)
  · have p1 := pCost_of (kd := 6) ho h (by decide) (by decide)
    have p2 := pCost_of (kd := 7) ho h (by decide) (by decide)
    have p3 := pCost_of (kd := 8) ho h (by decide) (by decide)
    have e : gP c = imax (imax (imax 0 (pkk c 6)) (pkk c 7)) (pkk c 8) := by simp [gP, h]
    rw [e, co_eq h] at hk
    rw [co_eq h]
    refine (t_gp2 c k).trans ?_
    exact andI p1 (andI p2 (andI p3 (hk)))
  · have p1 := pCost_of (kd := 11) ho h (by decide) (by decide)
    have e : gP c = imax 0 (pkk c 11) := by simp [gP, h]
    rw [e, co_eq h] at hk
    rw [co_eq h]
    refine (t_gp3 c k).trans ?_
    exact andI p1 (hk)
  · have p1 := pCost_of (kd := 14) ho h (by decide) (by decide)
    have e : gP c = imax 0 (pkk c 14) := by simp [gP, h]
    rw [e, co_eq h] at hk
    rw [co_eq h]
    refine (t_gp4 c k).trans ?_
    exact andI p1 (hk)
theorem most (c : Conf) (ho : c.OkP) : ACalls Tryd.prog (gmap gs) 46 [c.av] (fun v => v = .tup [.int .i64 (gS c), .int .i64 (gP c)]) := by
  have hob : c.ob = 1 ∨ c.ob = 2 ∨ c.ob = 3 ∨ c.ob = 4 := by have h1 := ho.1; have h2 := ho.2.1; omega
  refine acalls_eq base (sums_cons s_objR (sums_cons s_wrR (sums_cons s_cost sums_nil))) (n := 300) fun k hk => ?_
  rcases hob with h | h | h | h
  · have p1 := pCost_of (kd := 1) ho h (by decide) (by decide)
    have p2 := pCost_of (kd := 2) ho h (by decide) (by decide)
    have p3 := pCost_of (kd := 3) ho h (by decide) (by decide)
    have e1 : gS c = imax (imax 0 (sk c 1)) (sk c 2) := by simp [gS, h]
    have e2 : gP c = imax 0 (pkk c 3) := by simp [gP, h]
    rw [e1, e2, co_eq h] at hk
    rw [co_eq h]
    refine (t_mo1 c k).trans ?_
    exact andI p1 (andI p2 (andI p3 (hk)))
  · have p1 := pCost_of (kd := 4) ho h (by decide) (by decide)
    have p2 := pCost_of (kd := 5) ho h (by decide) (by decide)
    have p3 := pCost_of (kd := 6) ho h (by decide) (by decide)
    have p4 := pCost_of (kd := 7) ho h (by decide) (by decide)
    have p5 := pCost_of (kd := 8) ho h (by decide) (by decide)
    have e1 : gS c = imax (imax 0 (sk c 4)) (sk c 5) := by simp [gS, h]
    have e2 : gP c = imax (imax (imax 0 (pkk c 6)) (pkk c 7)) (pkk c 8) := by simp [gP, h]
    rw [e1, e2, co_eq h] at hk
    rw [co_eq h]
    refine (t_mo2 c k).trans ?_
    exact andI p1 (andI p2 (andI p3 (andI p4 (andI p5 (hk)))))
  · have p1 := pCost_of (kd := 9) ho h (by decide) (by decide)
    have p2 := pCost_of (kd := 10) ho h (by decide) (by decide)
    have p3 := pCost_of (kd := 11) ho h (by decide) (by decide)
    have e1 : gS c = imax (imax 0 (sk c 9)) (sk c 10) := by simp [gS, h]
    have e2 : gP c = imax 0 (pkk c 11) := by simp [gP, h]
    rw [e1, e2, co_eq h] at hk
    rw [co_eq h]
    refine (t_mo3 c k).trans ?_
    exact andI p1 (andI p2 (andI p3 (hk)))
  · have p1 := pCost_of (kd := 12) ho h (by decide) (by decide)
    have p2 := pCost_of (kd := 13) ho h (by decide) (by decide)
    have p3 := pCost_of (kd := 14) ho h (by decide) (by decide)
    have e1 : gS c = imax (imax 0 (sk c 12)) (sk c 13) := by simp [gS, h]
    have e2 : gP c = imax 0 (pkk c 14) := by simp [gP, h]
    rw [e1, e2, co_eq h] at hk
    rw [co_eq h]
    refine (t_mo4 c k).trans ?_
    exact andI p1 (andI p2 (andI p3 (hk)))
theorem s_gr : SumOk Tryd.prog (gmap gs) S_gr := fun args r hr => by
  simp only [S_gr] at hr
  unfold Fgr at hr
  split at hr
  case h_2 => cases hr
  rename_i a w g
  split at hr
  case h_2 => cases hr
  rename_i c hc
  cases confOf_some hc
  cases w with
  | true =>
    simp only [cond_true] at hr
    cases hg : Nat.beq g 45 with
    | false => rw [hg] at hr; cases hr
    | true =>
      rw [hg] at hr
      simp only [cond_true, Option.some.injEq, Prod.mk.injEq] at hr
      obtain ⟨hp, rfl⟩ := hr
      rw [of_beq hg]
      exact gr_s c (ok_true.1 hp)
  | false =>
    simp only [cond_false] at hr
    cases hg : Nat.beq g 48 with
    | false => rw [hg] at hr; cases hr
    | true =>
      rw [hg] at hr
      simp only [cond_true, Option.some.injEq, Prod.mk.injEq] at hr
      obtain ⟨hp, rfl⟩ := hr
      rw [of_beq hg]
      exact gr_p c (ok_true.1 hp)
theorem s_most : SumOk Tryd.prog (gmap gs) S_most := fun args r hr => by
  simp only [S_most] at hr
  split at hr
  case h_2 => cases hr
  split at hr
  case h_2 => cases hr
  rename_i c hc
  cases confOf_some hc
  simp only [Option.some.injEq, Prod.mk.injEq] at hr
  obtain ⟨hp, rfl⟩ := hr
  exact most c (ok_true.1 hp)
end Go.Bas.BasCost2
