/- Where a place stands: what it comes to; How great an object is, of a config that may be; and the contract of 'At' with it; Contracts by a run's outcome: indicators: arriving, departing, looks; Who comes or goes has no error; A reader that reads: its access; Contracts: a reader that reads: its access; the reader behind it; Plain law: how many picks a reading has; How many picks a reading has. -/
import Derived.Test.YteniehfknbiakaaGreatDoorBasW6
import Derived.Test.YteniehfknbiakaaGreatDoorBasW7
import Derived.Test.YteniehfknbiakaaGreatDoorBasW12
import Derived.Test.YteniehfknbiakaaGreatDoorBasW13
import Derived.Test.YteniehfknbiakaaGreatDoorBasW14
section
namespace Go.Bas.BasZAt4
open Go.RowKit Go.Proofs Go.Bas.BasZBase Go.Bas.BasZAt Go.Bas.BasZAt2 Go.Bas.BasZAt3
set_option maxRecDepth 100000
set_option maxHeartbeats 4000000
set_option linter.unusedVariables false
set_option linter.unusedSimpArgs false
/-- There is such a place, where an object has so many cells. -/
def HasP (z : Int) (c : Conf) (p : Plc) : Prop :=
  (p.part = 1 ∨ p.part = 2 ∨ p.part = 3) ∧ p.a = 0 ∧ p.b = 0 ∨ (p.part = 4 ∨ p.part = 5) ∧ 0 ≤ p.a ∧ p.a < c.thr ∧ p.b = 0 ∨
  p.part = 6 ∧ c.kind = 1 ∧ 0 ≤ p.a ∧ p.a < 2 ∧ 0 ≤ p.b ∧ p.b < c.thr ∨ (p.part = 7 ∨ p.part = 8) ∧ ¬ c.kind = 1 ∧ 0 ≤ p.a ∧ p.a < 2 ∧ 0 ≤ p.b ∧ p.b < c.str ∨
  p.part = 9 ∧ 0 ≤ p.a ∧ p.a < c.ins ∧ p.b = 0 ∨ p.part = 10 ∧ 0 ≤ p.a ∧ p.a < c.ins ∧ 0 ≤ p.b ∧ p.b < z
instance (z : Int) (c : Conf) (p : Plc) : Decidable (HasP z c p) := by unfold HasP; infer_instance
/-- How many cells stand ahead of the instances. -/
def headS (c : Conf) : Int := 3 + 2 * c.thr + (if c.kind = 1 then 2 * c.thr else 4 * c.str)
def whereS (z : Int) (c : Conf) (p : Plc) : Int :=
  if p.part = 1 then 0 else if p.part = 2 then 1 else if p.part = 3 then 2 else if p.part = 4 then 3 + p.a else if p.part = 5 then 3 + c.thr + p.a
  else if p.part = 6 then 3 + 2 * c.thr + p.a * c.thr + p.b else if p.part = 7 then 3 + 2 * c.thr + p.a * c.str + p.b else if p.part = 8 then 3 + 2 * c.thr + 2 * c.str + p.a * c.str + p.b
  else if p.part = 9 then headS c + p.a * (1 + z) else headS c + p.a * (1 + z) + 1 + p.b
def atE (z : Int) (c : Conf) (p : Plc) : Int := cond c.ok (cond (decide (HasP z c p)) 0 2) 40
def atN (z : Int) (c : Conf) (p : Plc) : Int := zif (atE z c p) (whereS z c p)
def atAV (z : Int) (c : Conf) (p : Plc) : AV := .tup [.int .i64 (atN z c p), .int .i64 (atE z c p)]
theorem condS {b x : Bool} (h : x = true) : cond b x x = true := by
  cases b <;> exact h
theorem nf {kd fr as_ bs : Int} {p : Plc} (h : onB (BasZAt.Found kd fr as_ bs p) = false) : ¬ (kd = p.part ∧ fr ≤ p.a ∧ p.a < fr + as_ ∧ 0 ≤ p.b ∧ p.b < bs) := fun hh => by
  have := onB_true.2 (show BasZAt.Found kd fr as_ bs p from hh)
  rw [h] at this; cases this
section
variable {c : Conf} {p : Plc} {sz : Conf → Int} {pr : Conf → Bool} {k : AV → Bool}
theorem ok_leaf (hc : c.ok = true) (hk : k (atAV (sz c) c p) = true) : ∀ w : Int, HasP (sz c) c p → w = whereS (sz c) c p → k (.tup [.int .i64 w, .int .i64 0]) = true := fun w h hw => by
  have e : atE (sz c) c p = 0 := by unfold atE; rw [hc, decide_eq_true h]; rfl
  unfold atAV atN at hk
  rw [e] at hk
  rw [hw]
  exact hk
theorem no_leaf (hc : c.ok = true) (hk : k (atAV (sz c) c p) = true) (h : ¬ HasP (sz c) c p) : k (.tup [.int .i64 0, .int .i64 2]) = true := by
  have e : atE (sz c) c p = 2 := by unfold atE; rw [hc, decide_eq_false h]; rfl
  unfold atAV atN at hk
  rw [e] at hk
  exact hk
theorem hCx (hs : SumOk Tryz.prog (gmap gs) (SA_sz sz pr)) : (cfgX [S_check, SA_sz sz pr] [(50, F_each)]).Ok :=
  cfg_okX base (sums_cons s_check (sums_cons hs sums_nil)) (fun s hs => by
    rcases List.mem_cons.1 hs with rfl | h
    · exact InpOk.cfg (C := cfg [S_check]) (C' := ⟨Tryz.prog, gmap gs, lookS [S_check, SA_sz sz pr], fun _ => false, fun _ => none⟩) rfl rfl each_ok
    · cases h)
theorem run2 (hi : c.ins = 2) (hpr : c.ok = true → pr c = true) (hsz : c.ok = true → 0 ≤ sz c ∧ sz c ≤ 200) (hk : k (atAV (sz c) c p) = true) : runF (cfgX [S_check, SA_sz sz pr] [(50, F_each)]) 300 20 [c.av, p.av] k false = true := by
  obtain ⟨ob, ins, thr, kind, str, bits, cap, node, batch, chunk, limit, most⟩ := c
  obtain rfl : ins = 2 := hi
  refine (t_at2 ⟨ob, 2, thr, kind, str, bits, cap, node, batch, chunk, limit, most⟩ p sz pr k).trans ?_
  dsimp only
  cases ho : Conf.ok ⟨ob, 2, thr, kind, str, bits, cap, node, batch, chunk, limit, most⟩ with
  | false =>
    have e : errC ⟨ob, 2, thr, kind, str, bits, cap, node, batch, chunk, limit, most⟩ = 40 := by simp [errC, ho]
    rw [e]
    unfold atAV atN atE at hk
    rw [ho] at hk
    exact hk
  | true =>
    have e : errC ⟨ob, 2, thr, kind, str, bits, cap, node, batch, chunk, limit, most⟩ = 0 := by simp [errC, ho]
    have L := ok_leaf ho hk
    have L2 := no_leaf ho hk
    have hp := hpr ho
    obtain ⟨z0, z1⟩ := hsz ho
    have hO := ok_true.1 ho
    simp only [Conf.OkP] at hO
    refine condI (fun h => by rw [e] at h; cases h) (fun _ => ?_)
    generalize hz : sz ⟨ob, 2, thr, kind, str, bits, cap, node, batch, chunk, limit, most⟩ = z at *
    -- the way
    refine andI (onB_true.2 ⟨rfl, by omega, by omega, by omega, by omega, by omega, by omega, by omega, by omega, rfl, rfl, rfl, rfl⟩) ?_
    refine condI (fun hf => condS ?_) (fun g1_0 => ?_)
    rotate_left
    refine andI (onB_true.2 ⟨rfl, by omega, by omega, by omega, by omega, by omega, by omega, by omega, by omega, rfl, rfl, rfl, rfl⟩) ?_
    refine condI (fun hf => condS ?_) (fun g2_0 => ?_)
    rotate_left
    refine andI (onB_true.2 ⟨rfl, by omega, by omega, by omega, by omega, by omega, by omega, by omega, by omega, rfl, rfl, rfl, rfl⟩) ?_
    refine condI (fun hf => condS ?_) (fun g3_0 => ?_)
    rotate_left
    refine andI (onB_true.2 ⟨rfl, by omega, by omega, by omega, by omega, by omega, by omega, by omega, by omega, rfl, rfl, rfl, rfl⟩) ?_
    refine condI (fun hf => condS ?_) (fun g4_0 => ?_)
    rotate_left
    refine andI (onB_true.2 ⟨rfl, by omega, by omega, by omega, by omega, by omega, by omega, by omega, by omega, rfl, rfl, rfl, rfl⟩) ?_
    refine condI (fun hf => condS ?_) (fun g5_0 => ?_)
    rotate_left
    refine condI (fun hk0 => ?_) (fun hk0 => ?_)
    · have hk1 : kind = 1 := of_decide_eq_true hk0
      refine andI (onB_true.2 ⟨rfl, by omega, by omega, by omega, by omega, by omega, by omega, by omega, by omega, rfl, rfl, rfl, rfl⟩) ?_
      refine condI (fun hf => ?_) (fun g6_0 => ?_)
      rotate_left
      refine andI (onB_true.2 ⟨rfl, by omega, by omega, by omega, by omega, by omega, by omega, by omega, by omega, rfl, rfl, rfl, rfl⟩) ?_
      refine condI (fun hf => ?_) (fun g9_0 => ?_)
      rotate_left
      refine andI hp ?_
      refine andI (onB_true.2 ⟨rfl, by omega, by omega, by omega, by omega, by omega, by omega, by omega, by omega, rfl, rfl, rfl, rfl⟩) ?_
      refine condI (fun hf => ?_) (fun g10_0 => ?_)
      rotate_left
      refine andI (onB_true.2 ⟨rfl, by omega, by omega, by omega, by omega, by omega, by omega, by omega, by omega, rfl, rfl, rfl, rfl⟩) ?_
      refine condI (fun hf => ?_) (fun g9_1 => ?_)
      rotate_left
      refine andI hp ?_
      refine andI (onB_true.2 ⟨rfl, by omega, by omega, by omega, by omega, by omega, by omega, by omega, by omega, rfl, rfl, rfl, rfl⟩) ?_
      refine condI (fun hf => ?_) (fun g10_1 => ?_)
      rotate_left
      · refine L2 (fun hh => ?_)
        unfold HasP at hh
        dsimp only at hh
        rcases hh with ⟨h1 | h1 | h1, h2, h3⟩ | ⟨h1 | h1, h2, h3, h4⟩ | ⟨h1, h2, h3, h4, h5, h6⟩ | ⟨h1 | h1, h2, h3, h4, h5, h6⟩ | ⟨h1, h2, h3, h4⟩ | ⟨h1, h2, h3, h4, h5⟩
        · exact nf g1_0 ⟨h1.symm, by omega, by omega, by omega, by omega⟩
        · exact nf g2_0 ⟨h1.symm, by omega, by omega, by omega, by omega⟩
        · exact nf g3_0 ⟨h1.symm, by omega, by omega, by omega, by omega⟩
        · exact nf g4_0 ⟨h1.symm, by omega, by omega, by omega, by omega⟩
        · exact nf g5_0 ⟨h1.symm, by omega, by omega, by omega, by omega⟩
        · exact nf g6_0 ⟨h1.symm, by omega, by omega, by omega, by omega⟩
        · exact h2 hk1
        · exact h2 hk1
        · rcases (show p.a = 0 ∨ p.a = 1 by omega) with ha | ha
          · exact nf g9_0 ⟨h1.symm, by omega, by omega, by omega, by omega⟩
          · exact nf g9_1 ⟨h1.symm, by omega, by omega, by omega, by omega⟩
        · rcases (show p.a = 0 ∨ p.a = 1 by omega) with ha | ha
          · exact nf g10_0 ⟨h1.symm, by omega, by omega, by omega, by omega⟩
          · exact nf g10_1 ⟨h1.symm, by omega, by omega, by omega, by omega⟩
      all_goals
        obtain ⟨f1, f2, f3, f4, f5⟩ := onB_true.1 hf
        try dsimp only at f1 f2 f3 f4 f5
        refine L _ (by unfold HasP; try dsimp only; rw [← f1]; simp only [Int.reduceEq, false_and, true_and, and_true, or_false, false_or, true_or, or_true, or_self, hk1, not_true_eq_false, not_false_eq_true]; omega) ?_
        unfold whereS headS
        try dsimp only
        rw [← f1]
        simp only [reduceIte, Int.reduceEq, Int.sub_zero, Int.mul_one, Int.one_mul, hk1]
        first | omega | (rcases (show p.a = 0 ∨ p.a = 1 ∨ p.a = 2 ∨ p.a = 3 by omega) with ha | ha | ha | ha <;> rw [ha] at f2 f3 ⊢ <;> first | omega | (simp only [Int.sub_self, Int.zero_mul, Int.one_mul, Int.mul_one]; omega))
    · have hk1 : ¬ kind = 1 := of_decide_eq_false hk0
      refine andI (onB_true.2 ⟨rfl, by omega, by omega, by omega, by omega, by omega, by omega, by omega, by omega, rfl, rfl, rfl, rfl⟩) ?_
      refine condI (fun hf => ?_) (fun g7_0 => ?_)
      rotate_left
      refine andI (onB_true.2 ⟨rfl, by omega, by omega, by omega, by omega, by omega, by omega, by omega, by omega, rfl, rfl, rfl, rfl⟩) ?_
      refine condI (fun hf => ?_) (fun g8_0 => ?_)
      rotate_left
      refine andI (onB_true.2 ⟨rfl, by omega, by omega, by omega, by omega, by omega, by omega, by omega, by omega, rfl, rfl, rfl, rfl⟩) ?_
      refine condI (fun hf => ?_) (fun g9_0 => ?_)
      rotate_left
      refine andI hp ?_
      refine andI (onB_true.2 ⟨rfl, by omega, by omega, by omega, by omega, by omega, by omega, by omega, by omega, rfl, rfl, rfl, rfl⟩) ?_
      refine condI (fun hf => ?_) (fun g10_0 => ?_)
      rotate_left
      refine andI (onB_true.2 ⟨rfl, by omega, by omega, by omega, by omega, by omega, by omega, by omega, by omega, rfl, rfl, rfl, rfl⟩) ?_
      refine condI (fun hf => ?_) (fun g9_1 => ?_)
      rotate_left
      refine andI hp ?_
      refine andI (onB_true.2 ⟨rfl, by omega, by omega, by omega, by omega, by omega, by omega, by omega, by omega, rfl, rfl, rfl, rfl⟩) ?_
      refine condI (fun hf => ?_) (fun g10_1 => ?_)
      rotate_left
      · refine L2 (fun hh => ?_)
        unfold HasP at hh
        dsimp only at hh
        rcases hh with ⟨h1 | h1 | h1, h2, h3⟩ | ⟨h1 | h1, h2, h3, h4⟩ | ⟨h1, h2, h3, h4, h5, h6⟩ | ⟨h1 | h1, h2, h3, h4, h5, h6⟩ | ⟨h1, h2, h3, h4⟩ | ⟨h1, h2, h3, h4, h5⟩
        · exact nf g1_0 ⟨h1.symm, by omega, by omega, by omega, by omega⟩
        · exact nf g2_0 ⟨h1.symm, by omega, by omega, by omega, by omega⟩
        · exact nf g3_0 ⟨h1.symm, by omega, by omega, by omega, by omega⟩
        · exact nf g4_0 ⟨h1.symm, by omega, by omega, by omega, by omega⟩
        · exact nf g5_0 ⟨h1.symm, by omega, by omega, by omega, by omega⟩
        · exact hk1 h2
        · exact nf g7_0 ⟨h1.symm, by omega, by omega, by omega, by omega⟩
        · exact nf g8_0 ⟨h1.symm, by omega, by omega, by omega, by omega⟩
        · rcases (show p.a = 0 ∨ p.a = 1 by omega) with ha | ha
          · exact nf g9_0 ⟨h1.symm, by omega, by omega, by omega, by omega⟩
          · exact nf g9_1 ⟨h1.symm, by omega, by omega, by omega, by omega⟩
        · rcases (show p.a = 0 ∨ p.a = 1 by omega) with ha | ha
          · exact nf g10_0 ⟨h1.symm, by omega, by omega, by omega, by omega⟩
          · exact nf g10_1 ⟨h1.symm, by omega, by omega, by omega, by omega⟩
      all_goals
        obtain ⟨f1, f2, f3, f4, f5⟩ := onB_true.1 hf
        try dsimp only at f1 f2 f3 f4 f5
        refine L _ (by unfold HasP; try dsimp only; rw [← f1]; simp only [Int.reduceEq, false_and, true_and, and_true, or_false, false_or, true_or, or_true, or_self, hk1, not_true_eq_false, not_false_eq_true]; omega) ?_
        unfold whereS headS
        try dsimp only
        rw [← f1]
        simp only [reduceIte, Int.reduceEq, Int.sub_zero, Int.mul_one, Int.one_mul, hk1]
        first | omega | (rcases (show p.a = 0 ∨ p.a = 1 ∨ p.a = 2 ∨ p.a = 3 by omega) with ha | ha | ha | ha <;> rw [ha] at f2 f3 ⊢ <;> first | omega | (simp only [Int.sub_self, Int.zero_mul, Int.one_mul, Int.mul_one]; omega))
    all_goals
      obtain ⟨f1, f2, f3, f4, f5⟩ := onB_true.1 hf
      try dsimp only at f1 f2 f3 f4 f5
      refine L _ (by unfold HasP; try dsimp only; rw [← f1]; simp only [Int.reduceEq, false_and, true_and, and_true, or_false, false_or, true_or, or_true, or_self]; omega) ?_
      unfold whereS headS
      try dsimp only
      rw [← f1]
      simp only [reduceIte, Int.reduceEq, Int.sub_zero, Int.mul_one, Int.one_mul]
      first | omega | (rcases (show p.a = 0 ∨ p.a = 1 ∨ p.a = 2 ∨ p.a = 3 by omega) with ha | ha | ha | ha <;> rw [ha] at f2 f3 ⊢ <;> first | omega | (simp only [Int.sub_self, Int.zero_mul, Int.one_mul, Int.mul_one]; omega))
theorem run3 (hi : c.ins = 3) (hpr : c.ok = true → pr c = true) (hsz : c.ok = true → 0 ≤ sz c ∧ sz c ≤ 200) (hk : k (atAV (sz c) c p) = true) : runF (cfgX [S_check, SA_sz sz pr] [(50, F_each)]) 300 20 [c.av, p.av] k false = true := by
  obtain ⟨ob, ins, thr, kind, str, bits, cap, node, batch, chunk, limit, most⟩ := c
  obtain rfl : ins = 3 := hi
  refine (t_at3 ⟨ob, 3, thr, kind, str, bits, cap, node, batch, chunk, limit, most⟩ p sz pr k).trans ?_
  dsimp only
  cases ho : Conf.ok ⟨ob, 3, thr, kind, str, bits, cap, node, batch, chunk, limit, most⟩ with
  | false =>
    have e : errC ⟨ob, 3, thr, kind, str, bits, cap, node, batch, chunk, limit, most⟩ = 40 := by simp [errC, ho]
    rw [e]
    unfold atAV atN atE at hk
    rw [ho] at hk
    exact hk
  | true =>
    have e : errC ⟨ob, 3, thr, kind, str, bits, cap, node, batch, chunk, limit, most⟩ = 0 := by simp [errC, ho]
    have L := ok_leaf ho hk
    have L2 := no_leaf ho hk
    have hp := hpr ho
    obtain ⟨z0, z1⟩ := hsz ho
    have hO := ok_true.1 ho
    simp only [Conf.OkP] at hO
    refine condI (fun h => by rw [e] at h; cases h) (fun _ => ?_)
    generalize hz : sz ⟨ob, 3, thr, kind, str, bits, cap, node, batch, chunk, limit, most⟩ = z at *
    -- the way
    refine andI (onB_true.2 ⟨rfl, by omega, by omega, by omega, by omega, by omega, by omega, by omega, by omega, rfl, rfl, rfl, rfl⟩) ?_
    refine condI (fun hf => condS ?_) (fun g1_0 => ?_)
    rotate_left
    refine andI (onB_true.2 ⟨rfl, by omega, by omega, by omega, by omega, by omega, by omega, by omega, by omega, rfl, rfl, rfl, rfl⟩) ?_
    refine condI (fun hf => condS ?_) (fun g2_0 => ?_)
    rotate_left
    refine andI (onB_true.2 ⟨rfl, by omega, by omega, by omega, by omega, by omega, by omega, by omega, by omega, rfl, rfl, rfl, rfl⟩) ?_
    refine condI (fun hf => condS ?_) (fun g3_0 => ?_)
    rotate_left
    refine andI (onB_true.2 ⟨rfl, by omega, by omega, by omega, by omega, by omega, by omega, by omega, by omega, rfl, rfl, rfl, rfl⟩) ?_
    refine condI (fun hf => condS ?_) (fun g4_0 => ?_)
    rotate_left
    refine andI (onB_true.2 ⟨rfl, by omega, by omega, by omega, by omega, by omega, by omega, by omega, by omega, rfl, rfl, rfl, rfl⟩) ?_
    refine condI (fun hf => condS ?_) (fun g5_0 => ?_)
    rotate_left
    refine condI (fun hk0 => ?_) (fun hk0 => ?_)
    · have hk1 : kind = 1 := of_decide_eq_true hk0
      refine andI (onB_true.2 ⟨rfl, by omega, by omega, by omega, by omega, by omega, by omega, by omega, by omega, rfl, rfl, rfl, rfl⟩) ?_
      refine condI (fun hf => ?_) (fun g6_0 => ?_)
      rotate_left
      refine andI (onB_true.2 ⟨rfl, by omega, by omega, by omega, by omega, by omega, by omega, by omega, by omega, rfl, rfl, rfl, rfl⟩) ?_
      refine condI (fun hf => ?_) (fun g9_0 => ?_)
      rotate_left
      refine andI hp ?_
      refine andI (onB_true.2 ⟨rfl, by omega, by omega, by omega, by omega, by omega, by omega, by omega, by omega, rfl, rfl, rfl, rfl⟩) ?_
      refine condI (fun hf => ?_) (fun g10_0 => ?_)
      rotate_left
      refine andI (onB_true.2 ⟨rfl, by omega, by omega, by omega, by omega, by omega, by omega, by omega, by omega, rfl, rfl, rfl, rfl⟩) ?_
      refine condI (fun hf => ?_) (fun g9_1 => ?_)
      rotate_left
      refine andI hp ?_
      refine andI (onB_true.2 ⟨rfl, by omega, by omega, by omega, by omega, by omega, by omega, by omega, by omega, rfl, rfl, rfl, rfl⟩) ?_
      refine condI (fun hf => ?_) (fun g10_1 => ?_)
      rotate_left
      refine andI (onB_true.2 ⟨rfl, by omega, by omega, by omega, by omega, by omega, by omega, by omega, by omega, rfl, rfl, rfl, rfl⟩) ?_
      refine condI (fun hf => ?_) (fun g9_2 => ?_)
      rotate_left
      refine andI hp ?_
      refine andI (onB_true.2 ⟨rfl, by omega, by omega, by omega, by omega, by omega, by omega, by omega, by omega, rfl, rfl, rfl, rfl⟩) ?_
      refine condI (fun hf => ?_) (fun g10_2 => ?_)
      rotate_left
      · refine L2 (fun hh => ?_)
        unfold HasP at hh
        dsimp only at hh
        rcases hh with ⟨h1 | h1 | h1, h2, h3⟩ | ⟨h1 | h1, h2, h3, h4⟩ | ⟨h1, h2, h3, h4, h5, h6⟩ | ⟨h1 | h1, h2, h3, h4, h5, h6⟩ | ⟨h1, h2, h3, h4⟩ | ⟨h1, h2, h3, h4, h5⟩
        · exact nf g1_0 ⟨h1.symm, by omega, by omega, by omega, by omega⟩
        · exact nf g2_0 ⟨h1.symm, by omega, by omega, by omega, by omega⟩
        · exact nf g3_0 ⟨h1.symm, by omega, by omega, by omega, by omega⟩
        · exact nf g4_0 ⟨h1.symm, by omega, by omega, by omega, by omega⟩
        · exact nf g5_0 ⟨h1.symm, by omega, by omega, by omega, by omega⟩
        · exact nf g6_0 ⟨h1.symm, by omega, by omega, by omega, by omega⟩
        · exact h2 hk1
        · exact h2 hk1
        · rcases (show p.a = 0 ∨ p.a = 1 ∨ p.a = 2 by omega) with ha | ha | ha
          · exact nf g9_0 ⟨h1.symm, by omega, by omega, by omega, by omega⟩
          · exact nf g9_1 ⟨h1.symm, by omega, by omega, by omega, by omega⟩
          · exact nf g9_2 ⟨h1.symm, by omega, by omega, by omega, by omega⟩
        · rcases (show p.a = 0 ∨ p.a = 1 ∨ p.a = 2 by omega) with ha | ha | ha
          · exact nf g10_0 ⟨h1.symm, by omega, by omega, by omega, by omega⟩
          · exact nf g10_1 ⟨h1.symm, by omega, by omega, by omega, by omega⟩
          · exact nf g10_2 ⟨h1.symm, by omega, by omega, by omega, by omega⟩
      all_goals
        obtain ⟨f1, f2, f3, f4, f5⟩ := onB_true.1 hf
        try dsimp only at f1 f2 f3 f4 f5
        refine L _ (by unfold HasP; try dsimp only; rw [← f1]; simp only [Int.reduceEq, false_and, true_and, and_true, or_false, false_or, true_or, or_true, or_self, hk1, not_true_eq_false, not_false_eq_true]; omega) ?_
        unfold whereS headS
        try dsimp only
        rw [← f1]
        simp only [reduceIte, Int.reduceEq, Int.sub_zero, Int.mul_one, Int.one_mul, hk1]
        first | omega | (rcases (show p.a = 0 ∨ p.a = 1 ∨ p.a = 2 ∨ p.a = 3 by omega) with ha | ha | ha | ha <;> rw [ha] at f2 f3 ⊢ <;> first | omega | (simp only [Int.sub_self, Int.zero_mul, Int.one_mul, Int.mul_one]; omega))
    · have hk1 : ¬ kind = 1 := of_decide_eq_false hk0
      refine andI (onB_true.2 ⟨rfl, by omega, by omega, by omega, by omega, by omega, by omega, by omega, by omega, rfl, rfl, rfl, rfl⟩) ?_
      refine condI (fun hf => ?_) (fun g7_0 => ?_)
      rotate_left
      refine andI (onB_true.2 ⟨rfl, by omega, by omega, by omega, by omega, by omega, by omega, by omega, by omega, rfl, rfl, rfl, rfl⟩) ?_
      refine condI (fun hf => ?_) (fun g8_0 => ?_)
      rotate_left
      refine andI (onB_true.2 ⟨rfl, by omega, by omega, by omega, by omega, by omega, by omega, by omega, by omega, rfl, rfl, rfl, rfl⟩) ?_
      refine condI (fun hf => ?_) (fun g9_0 => ?_)
      rotate_left
      refine andI hp ?_
      refine andI (onB_true.2 ⟨rfl, by omega, by omega, by omega, by omega, by omega, by omega, by omega, by omega, rfl, rfl, rfl, rfl⟩) ?_
      refine condI (fun hf => ?_) (fun g10_0 => ?_)
      rotate_left
      refine andI (onB_true.2 ⟨rfl, by omega, by omega, by omega, by omega, by omega, by omega, by omega, by omega, rfl, rfl, rfl, rfl⟩) ?_
      refine condI (fun hf => ?_) (fun g9_1 => ?_)
      rotate_left
      refine andI hp ?_
      refine andI (onB_true.2 ⟨rfl, by omega, by omega, by omega, by omega, by omega, by omega, by omega, by omega, rfl, rfl, rfl, rfl⟩) ?_
      refine condI (fun hf => ?_) (fun g10_1 => ?_)
      rotate_left
      refine andI (onB_true.2 ⟨rfl, by omega, by omega, by omega, by omega, by omega, by omega, by omega, by omega, rfl, rfl, rfl, rfl⟩) ?_
      refine condI (fun hf => ?_) (fun g9_2 => ?_)
      rotate_left
      refine andI hp ?_
      refine andI (onB_true.2 ⟨rfl, by omega, by omega, by omega, by omega, by omega, by omega, by omega, by omega, rfl, rfl, rfl, rfl⟩) ?_
      refine condI (fun hf => ?_) (fun g10_2 => ?_)
      rotate_left
      · refine L2 (fun hh => ?_)
        unfold HasP at hh
        dsimp only at hh
        rcases hh with ⟨h1 | h1 | h1, h2, h3⟩ | ⟨h1 | h1, h2, h3, h4⟩ | ⟨h1, h2, h3, h4, h5, h6⟩ | ⟨h1 | h1, h2, h3, h4, h5, h6⟩ | ⟨h1, h2, h3, h4⟩ | ⟨h1, h2, h3, h4, h5⟩
        · exact nf g1_0 ⟨h1.symm, by omega, by omega, by omega, by omega⟩
        · exact nf g2_0 ⟨h1.symm, by omega, by omega, by omega, by omega⟩
        · exact nf g3_0 ⟨h1.symm, by omega, by omega, by omega, by omega⟩
        · exact nf g4_0 ⟨h1.symm, by omega, by omega, by omega, by omega⟩
        · exact nf g5_0 ⟨h1.symm, by omega, by omega, by omega, by omega⟩
        · exact hk1 h2
        · exact nf g7_0 ⟨h1.symm, by omega, by omega, by omega, by omega⟩
        · exact nf g8_0 ⟨h1.symm, by omega, by omega, by omega, by omega⟩
        · rcases (show p.a = 0 ∨ p.a = 1 ∨ p.a = 2 by omega) with ha | ha | ha
          · exact nf g9_0 ⟨h1.symm, by omega, by omega, by omega, by omega⟩
          · exact nf g9_1 ⟨h1.symm, by omega, by omega, by omega, by omega⟩
          · exact nf g9_2 ⟨h1.symm, by omega, by omega, by omega, by omega⟩
        · rcases (show p.a = 0 ∨ p.a = 1 ∨ p.a = 2 by omega) with ha | ha | ha
          · exact nf g10_0 ⟨h1.symm, by omega, by omega, by omega, by omega⟩
          · exact nf g10_1 ⟨h1.symm, by omega, by omega, by omega, by omega⟩
          · exact nf g10_2 ⟨h1.symm, by omega, by omega, by omega, by omega⟩
      all_goals
        obtain ⟨f1, f2, f3, f4, f5⟩ := onB_true.1 hf
        try dsimp only at f1 f2 f3 f4 f5
        refine L _ (by unfold HasP; try dsimp only; rw [← f1]; simp only [Int.reduceEq, false_and, true_and, and_true, or_false, false_or, true_or, or_true, or_self, hk1, not_true_eq_false, not_false_eq_true]; omega) ?_
        unfold whereS headS
        try dsimp only
        rw [← f1]
        simp only [reduceIte, Int.reduceEq, Int.sub_zero, Int.mul_one, Int.one_mul, hk1]
        first | omega | (rcases (show p.a = 0 ∨ p.a = 1 ∨ p.a = 2 ∨ p.a = 3 by omega) with ha | ha | ha | ha <;> rw [ha] at f2 f3 ⊢ <;> first | omega | (simp only [Int.sub_self, Int.zero_mul, Int.one_mul, Int.mul_one]; omega))
    all_goals
      obtain ⟨f1, f2, f3, f4, f5⟩ := onB_true.1 hf
      try dsimp only at f1 f2 f3 f4 f5
      refine L _ (by unfold HasP; try dsimp only; rw [← f1]; simp only [Int.reduceEq, false_and, true_and, and_true, or_false, false_or, true_or, or_true, or_self]; omega) ?_
      unfold whereS headS
      try dsimp only
      rw [← f1]
      simp only [reduceIte, Int.reduceEq, Int.sub_zero, Int.mul_one, Int.one_mul]
      first | omega | (rcases (show p.a = 0 ∨ p.a = 1 ∨ p.a = 2 ∨ p.a = 3 by omega) with ha | ha | ha | ha <;> rw [ha] at f2 f3 ⊢ <;> first | omega | (simp only [Int.sub_self, Int.zero_mul, Int.one_mul, Int.mul_one]; omega))
theorem run4 (hi : c.ins = 4) (hpr : c.ok = true → pr c = true) (hsz : c.ok = true → 0 ≤ sz c ∧ sz c ≤ 200) (hk : k (atAV (sz c) c p) = true) : runF (cfgX [S_check, SA_sz sz pr] [(50, F_each)]) 300 20 [c.av, p.av] k false = true := by
  obtain ⟨ob, ins, thr, kind, str, bits, cap, node, batch, chunk, limit, most⟩ := c
  obtain rfl : ins = 4 := hi
  refine (t_at4 ⟨ob, 4, thr, kind, str, bits, cap, node, batch, chunk, limit, most⟩ p sz pr k).trans ?_
  dsimp only
  cases ho : Conf.ok ⟨ob, 4, thr, kind, str, bits, cap, node, batch, chunk, limit, most⟩ with
  | false =>
    have e : errC ⟨ob, 4, thr, kind, str, bits, cap, node, batch, chunk, limit, most⟩ = 40 := by simp [errC, ho]
    rw [e]
    unfold atAV atN atE at hk
    rw [ho] at hk
    exact hk
  | true =>
    have e : errC ⟨ob, 4, thr, kind, str, bits, cap, node, batch, chunk, limit, most⟩ = 0 := by simp [errC, ho]
    have L := ok_leaf ho hk
    have L2 := no_leaf ho hk
    have hp := hpr ho
    obtain ⟨z0, z1⟩ := hsz ho
    have hO := ok_true.1 ho
    simp only [Conf.OkP] at hO
    refine condI (fun h => by rw [e] at h; cases h) (fun _ => ?_)
    generalize hz : sz ⟨ob, 4, thr, kind, str, bits, cap, node, batch, chunk, limit, most⟩ = z at *
    -- the way
    refine andI (onB_true.2 ⟨rfl, by omega, by omega, by omega, by omega, by omega, by omega, by omega, by omega, rfl, rfl, rfl, rfl⟩) ?_
    refine condI (fun hf => condS ?_) (fun g1_0 => ?_)
    rotate_left
    refine andI (onB_true.2 ⟨rfl, by omega, by omega, by omega, by omega, by omega, by omega, by omega, by omega, rfl, rfl, rfl, rfl⟩) ?_
    refine condI (fun hf => condS ?_) (fun g2_0 => ?_)
    rotate_left
    refine andI (onB_true.2 ⟨rfl, by omega, by omega, by omega, by omega, by omega, by omega, by omega, by omega, rfl, rfl, rfl, rfl⟩) ?_
    refine condI (fun hf => condS ?_) (fun g3_0 => ?_)
    rotate_left
    refine andI (onB_true.2 ⟨rfl, by omega, by omega, by omega, by omega, by omega, by omega, by omega, by omega, rfl, rfl, rfl, rfl⟩) ?_
    refine condI (fun hf => condS ?_) (fun g4_0 => ?_)
    rotate_left
    refine andI (onB_true.2 ⟨rfl, by omega, by omega, by omega, by omega, by omega, by omega, by omega, by omega, rfl, rfl, rfl, rfl⟩) ?_
    refine condI (fun hf => condS ?_) (fun g5_0 => ?_)
    rotate_left
    refine condI (fun hk0 => ?_) (fun hk0 => ?_)
    · have hk1 : kind = 1 := of_decide_eq_true hk0
      refine andI (onB_true.2 ⟨rfl, by omega, by omega, by omega, by omega, by omega, by omega, by omega, by omega, rfl, rfl, rfl, rfl⟩) ?_
      refine condI (fun hf => ?_) (fun g6_0 => ?_)
      rotate_left
      refine andI (onB_true.2 ⟨rfl, by omega, by omega, by omega, by omega, by omega, by omega, by omega, by omega, rfl, rfl, rfl, rfl⟩) ?_
      refine condI (fun hf => ?_) (fun g9_0 => ?_)
      rotate_left
      refine andI hp ?_
      refine andI (onB_true.2 ⟨rfl, by omega, by omega, by omega, by omega, by omega, by omega, by omega, by omega, rfl, rfl, rfl, rfl⟩) ?_
      refine condI (fun hf => ?_) (fun g10_0 => ?_)
      rotate_left
      refine andI (onB_true.2 ⟨rfl, by omega, by omega, by omega, by omega, by omega, by omega, by omega, by omega, rfl, rfl, rfl, rfl⟩) ?_
      refine condI (fun hf => ?_) (fun g9_1 => ?_)
      rotate_left
      refine andI hp ?_
      refine andI (onB_true.2 ⟨rfl, by omega, by omega, by omega, by omega, by omega, by omega, by omega, by omega, rfl, rfl, rfl, rfl⟩) ?_
      refine condI (fun hf => ?_) (fun g10_1 => ?_)
      rotate_left
      refine andI (onB_true.2 ⟨rfl, by omega, by omega, by omega, by omega, by omega, by omega, by omega, by omega, rfl, rfl, rfl, rfl⟩) ?_
      refine condI (fun hf => ?_) (fun g9_2 => ?_)
      rotate_left
      refine andI hp ?_
      refine andI (onB_true.2 ⟨rfl, by omega, by omega, by omega, by omega, by omega, by omega, by omega, by omega, rfl, rfl, rfl, rfl⟩) ?_
      refine condI (fun hf => ?_) (fun g10_2 => ?_)
      rotate_left
      refine andI (onB_true.2 ⟨rfl, by omega, by omega, by omega, by omega, by omega, by omega, by omega, by omega, rfl, rfl, rfl, rfl⟩) ?_
      refine condI (fun hf => ?_) (fun g9_3 => ?_)
      rotate_left
      refine andI hp ?_
      refine andI (onB_true.2 ⟨rfl, by omega, by omega, by omega, by omega, by omega, by omega, by omega, by omega, rfl, rfl, rfl, rfl⟩) ?_
      refine condI (fun hf => ?_) (fun g10_3 => ?_)
      rotate_left
      · refine L2 (fun hh => ?_)
        unfold HasP at hh
        dsimp only at hh
        rcases hh with ⟨h1 | h1 | h1, h2, h3⟩ | ⟨h1 | h1, h2, h3, h4⟩ | ⟨h1, h2, h3, h4, h5, h6⟩ | ⟨h1 | h1, h2, h3, h4, h5, h6⟩ | ⟨h1, h2, h3, h4⟩ | ⟨h1, h2, h3, h4, h5⟩
        · exact nf g1_0 ⟨h1.symm, by omega, by omega, by omega, by omega⟩
        · exact nf g2_0 ⟨h1.symm, by omega, by omega, by omega, by omega⟩
        · exact nf g3_0 ⟨h1.symm, by omega, by omega, by omega, by omega⟩
        · exact nf g4_0 ⟨h1.symm, by omega, by omega, by omega, by omega⟩
        · exact nf g5_0 ⟨h1.symm, by omega, by omega, by omega, by omega⟩
        · exact nf g6_0 ⟨h1.symm, by omega, by omega, by omega, by omega⟩
        · exact h2 hk1
        · exact h2 hk1
        · rcases (show p.a = 0 ∨ p.a = 1 ∨ p.a = 2 ∨ p.a = 3 by omega) with ha | ha | ha | ha
          · exact nf g9_0 ⟨h1.symm, by omega, by omega, by omega, by omega⟩
          · exact nf g9_1 ⟨h1.symm, by omega, by omega, by omega, by omega⟩
          · exact nf g9_2 ⟨h1.symm, by omega, by omega, by omega, by omega⟩
          · exact nf g9_3 ⟨h1.symm, by omega, by omega, by omega, by omega⟩
        · rcases (show p.a = 0 ∨ p.a = 1 ∨ p.a = 2 ∨ p.a = 3 by omega) with ha | ha | ha | ha
          · exact nf g10_0 ⟨h1.symm, by omega, by omega, by omega, by omega⟩
          · exact nf g10_1 ⟨h1.symm, by omega, by omega, by omega, by omega⟩
          · exact nf g10_2 ⟨h1.symm, by omega, by omega, by omega, by omega⟩
          · exact nf g10_3 ⟨h1.symm, by omega, by omega, by omega, by omega⟩
      all_goals
        obtain ⟨f1, f2, f3, f4, f5⟩ := onB_true.1 hf
        try dsimp only at f1 f2 f3 f4 f5
        refine L _ (by unfold HasP; try dsimp only; rw [← f1]; simp only [Int.reduceEq, false_and, true_and, and_true, or_false, false_or, true_or, or_true, or_self, hk1, not_true_eq_false, not_false_eq_true]; omega) ?_
        unfold whereS headS
        try dsimp only
        rw [← f1]
        simp only [reduceIte, Int.reduceEq, Int.sub_zero, Int.mul_one, Int.one_mul, hk1]
        first | omega | (rcases (show p.a = 0 ∨ p.a = 1 ∨ p.a = 2 ∨ p.a = 3 by omega) with ha | ha | ha | ha <;> rw [ha] at f2 f3 ⊢ <;> first | omega | (simp only [Int.sub_self, Int.zero_mul, Int.one_mul, Int.mul_one]; omega))
    · have hk1 : ¬ kind = 1 := of_decide_eq_false hk0
      refine andI (onB_true.2 ⟨rfl, by omega, by omega, by omega, by omega, by omega, by omega, by omega, by omega, rfl, rfl, rfl, rfl⟩) ?_
      refine condI (fun hf => ?_) (fun g7_0 => ?_)
      rotate_left
      refine andI (onB_true.2 ⟨rfl, by omega, by omega, by omega, by omega, by omega, by omega, by omega, by omega, rfl, rfl, rfl, rfl⟩) ?_
      refine condI (fun hf => ?_) (fun g8_0 => ?_)
      rotate_left
      refine andI (onB_true.2 ⟨rfl, by omega, by omega, by omega, by omega, by omega, by omega, by omega, by omega, rfl, rfl, rfl, rfl⟩) ?_
      refine condI (fun hf => ?_) (fun g9_0 => ?_)
      rotate_left
      refine andI hp ?_
      refine andI (onB_true.2 ⟨rfl, by omega, by omega, by omega, by omega, by omega, by omega, by omega, by omega, rfl, rfl, rfl, rfl⟩) ?_
      refine condI (fun hf => ?_) (fun g10_0 => ?_)
      rotate_left
      refine andI (onB_true.2 ⟨rfl, by omega, by omega, by omega, by omega, by omega, by omega, by omega, by omega, rfl, rfl, rfl, rfl⟩) ?_
      refine condI (fun hf => ?_) (fun g9_1 => ?_)
      rotate_left
      refine andI hp ?_
      refine andI (onB_true.2 ⟨rfl, by omega, by omega, by omega, by omega, by omega, by omega, by omega, by omega, rfl, rfl, rfl, rfl⟩) ?_
      refine condI (fun hf => ?_) (fun g10_1 => ?_)
      rotate_left
      refine andI (onB_true.2 ⟨rfl, by omega, by omega, by omega, by omega, by omega, by omega, by omega, by omega, rfl, rfl, rfl, rfl⟩) ?_
      refine condI (fun hf => ?_) (fun g9_2 => ?_)
      rotate_left
      refine andI hp ?_
      refine andI (onB_true.2 ⟨rfl, by omega, by omega, by omega, by omega, by omega, by omega, by omega, by omega, rfl, rfl, rfl, rfl⟩) ?_
      refine condI (fun hf => ?_) (fun g10_2 => ?_)
      rotate_left
      refine andI (onB_true.2 ⟨rfl, by omega, by omega, by omega, by omega, by omega, by omega, by omega, by omega, rfl, rfl, rfl, rfl⟩) ?_
      refine condI (fun hf => ?_) (fun g9_3 => ?_)
      rotate_left
      refine andI hp ?_
      refine andI (onB_true.2 ⟨rfl, by omega, by omega, by omega, by omega, by omega, by omega, by omega, by omega, rfl, rfl, rfl, rfl⟩) ?_
      refine condI (fun hf => ?_) (fun g10_3 => ?_)
      rotate_left
      · refine L2 (fun hh => ?_)
        unfold HasP at hh
        dsimp only at hh
        rcases hh with ⟨h1 | h1 | h1, h2, h3⟩ | ⟨h1 | h1, h2, h3, h4⟩ | ⟨h1, h2, h3, h4, h5, h6⟩ | ⟨h1 | h1, h2, h3, h4, h5, h6⟩ | ⟨h1, h2, h3, h4⟩ | ⟨h1, h2, h3, h4, h5⟩
        · exact nf g1_0 ⟨h1.symm, by omega, by omega, by omega, by omega⟩
        · exact nf g2_0 ⟨h1.symm, by omega, by omega, by omega, by omega⟩
        · exact nf g3_0 ⟨h1.symm, by omega, by omega, by omega, by omega⟩
        · exact nf g4_0 ⟨h1.symm, by omega, by omega, by omega, by omega⟩
        · exact nf g5_0 ⟨h1.symm, by omega, by omega, by omega, by omega⟩
        · exact hk1 h2
        · exact nf g7_0 ⟨h1.symm, by omega, by omega, by omega, by omega⟩
        · exact nf g8_0 ⟨h1.symm, by omega, by omega, by omega, by omega⟩
        · rcases (show p.a = 0 ∨ p.a = 1 ∨ p.a = 2 ∨ p.a = 3 by omega) with ha | ha | ha | ha
          · exact nf g9_0 ⟨h1.symm, by omega, by omega, by omega, by omega⟩
          · exact nf g9_1 ⟨h1.symm, by omega, by omega, by omega, by omega⟩
          · exact nf g9_2 ⟨h1.symm, by omega, by omega, by omega, by omega⟩
          · exact nf g9_3 ⟨h1.symm, by omega, by omega, by omega, by omega⟩
        · rcases (show p.a = 0 ∨ p.a = 1 ∨ p.a = 2 ∨ p.a = 3 by omega) with ha | ha | ha | ha
          · exact nf g10_0 ⟨h1.symm, by omega, by omega, by omega, by omega⟩
          · exact nf g10_1 ⟨h1.symm, by omega, by omega, by omega, by omega⟩
          · exact nf g10_2 ⟨h1.symm, by omega, by omega, by omega, by omega⟩
          · exact nf g10_3 ⟨h1.symm, by omega, by omega, by omega, by omega⟩
      all_goals
        obtain ⟨f1, f2, f3, f4, f5⟩ := onB_true.1 hf
        try dsimp only at f1 f2 f3 f4 f5
        refine L _ (by unfold HasP; try dsimp only; rw [← f1]; simp only [Int.reduceEq, false_and, true_and, and_true, or_false, false_or, true_or, or_true, or_self, hk1, not_true_eq_false, not_false_eq_true]; omega) ?_
        unfold whereS headS
        try dsimp only
        rw [← f1]
        simp only [reduceIte, Int.reduceEq, Int.sub_zero, Int.mul_one, Int.one_mul, hk1]
        first | omega | (rcases (show p.a = 0 ∨ p.a = 1 ∨ p.a = 2 ∨ p.a = 3 by omega) with ha | ha | ha | ha <;> rw [ha] at f2 f3 ⊢ <;> first | omega | (simp only [Int.sub_self, Int.zero_mul, Int.one_mul, Int.mul_one]; omega))
    all_goals
      obtain ⟨f1, f2, f3, f4, f5⟩ := onB_true.1 hf
      try dsimp only at f1 f2 f3 f4 f5
      refine L _ (by unfold HasP; try dsimp only; rw [← f1]; simp only [Int.reduceEq, false_and, true_and, and_true, or_false, false_or, true_or, or_true, or_self]; omega) ?_
      unfold whereS headS
      try dsimp only
      rw [← f1]
      simp only [reduceIte, Int.reduceEq, Int.sub_zero, Int.mul_one, Int.one_mul]
      first | omega | (rcases (show p.a = 0 ∨ p.a = 1 ∨ p.a = 2 ∨ p.a = 3 by omega) with ha | ha | ha | ha <;> rw [ha] at f2 f3 ⊢ <;> first | omega | (simp only [Int.sub_self, Int.zero_mul, Int.one_mul, Int.mul_one]; omega))
theorem dead_ok : LoopsOk (cfg [S_check]) (loopsOf (fcode Tryz.prog 20)) [F_dead] := by
  have hl : loopsOf (fcode Tryz.prog 20) = [loopN (fcode Tryz.prog 20) 0] := by kernel_rfl
  rw [hl]
  exact ⟨fun st k h => absurd h (by unfold F_dead; decide), trivial⟩
theorem at_sum (hs : SumOk Tryz.prog (gmap gs) (SA_sz sz pr)) (hpr : ∀ c : Conf, c.ok = true → pr c = true) (hsz : ∀ c : Conf, c.ok = true → 0 ≤ sz c ∧ sz c ≤ 200) : SumOk Tryz.prog (gmap gs) (20, on2 rConf rPlc (fun _ _ => true) (fun c p => atAV (sz c) c p)) := on2_sum fun c p _ => by
  classical
  have fin : (∀ k : AV → Bool, k (atAV (sz c) c p) = true → runF (cfgX [S_check, SA_sz sz pr] [(50, F_each)]) 300 20 [c.av, p.av] k false = true) → ACalls Tryz.prog (gmap gs) 20 [c.av, p.av] (fun v => v = atAV (sz c) c p) := fun h =>
    (runF_sound (hCx hs) (h (fun v => decide (v = atAV (sz c) c p)) (by simp))).mono fun v hv => by simpa using hv
  cases ho : c.ok with
  | true =>
    have hO := ok_true.1 ho
    simp only [Conf.OkP] at hO
    rcases (show c.ins = 2 ∨ c.ins = 3 ∨ c.ins = 4 by omega) with hi | hi | hi
    · exact fin fun k hk => run2 hi (hpr c) (hsz c) hk
    · exact fin fun k hk => run3 hi (hpr c) (hsz c) hk
    · exact fin fun k hk => run4 hi (hpr c) (hsz c) hk
  | false =>
    refine acalls_eqM (q := fun _ => false) base (sums_cons s_check sums_nil) (n := 300) (fs := [F_dead]) (by kernel_rfl) dead_ok fun k hk => ?_
    refine (t_atbad c p k).trans ?_
    have e : errC c = 40 := by simp [errC, ho]
    rw [e]
    unfold atAV atN atE at hk
    rw [ho] at hk
    exact hk
end
end Go.Bas.BasZAt4
end
section
namespace Go.Bas.BasZRank2
open Go.RowKit Go.Proofs Go.Bas.BasZBase Go.Bas.BasZRank Go.Bas.BasZAt Go.Bas.BasZAt2 Go.Bas.BasZAt3 Go.Bas.BasZAt4
set_option maxRecDepth 100000
set_option linter.unusedVariables false
set_option linter.unusedSimpArgs false
noncomputable def chkSz (c : Conf) : Bool := ok_size c && (decide (0 ≤ f_size_0 c) && decide (f_size_0 c ≤ 200))
theorem tab2 : ((List.range 33).all fun n => (List.range 5).all fun w => !(Nat.ble 1 n && Nat.ble 2 w) || chkSz ⟨2, 0, 0, 0, 0, 0, (n : Int), (w : Int), 0, 0, 0, 0⟩) = true := by kernel_rfl
theorem tab1 : ((List.range 7).all fun n => chkSz ⟨1, 0, 0, 0, 0, (n : Int), 0, 0, 0, 0, 0, 0⟩) = true := by kernel_rfl
theorem size_chk (c : Conf) (h : c.ok = true) : chkSz c = true := by
  have hO := ok_true.1 h
  clear h
  obtain ⟨ob, ins, thr, kind, str, bits, cap, node, batch, chunk, limit, most⟩ := c
  simp only [Conf.OkP] at hO
  rcases (show ob = 1 ∨ ob = 2 ∨ (ob = 3 ∨ ob = 4) by omega) with rfl | rfl | ho
  · have hb : 1 ≤ bits ∧ bits ≤ 6 := by omega
    have := List.all_eq_true.1 tab1 bits.toNat (List.mem_range.2 (by omega))
    rw [show ((bits.toNat : Nat) : Int) = bits by omega] at this
    exact this
  · have hc : 1 ≤ cap ∧ cap ≤ 32 := by omega
    have hn : 2 ≤ node ∧ node ≤ 4 := by omega
    have := List.all_eq_true.1 (List.all_eq_true.1 tab2 cap.toNat (List.mem_range.2 (by omega))) node.toNat (List.mem_range.2 (by omega))
    rw [show ((cap.toNat : Nat) : Int) = cap by omega, show ((node.toNat : Nat) : Int) = node by omega] at this
    have e1 : Nat.ble 1 cap.toNat = true := Nat.ble_eq_true_of_le (by omega)
    have e2 : Nat.ble 2 node.toNat = true := Nat.ble_eq_true_of_le (by omega)
    rw [e1, e2] at this
    simp only [Bool.and_self, Bool.not_true, Bool.false_or] at this
    exact this
  · have hc : 1 ≤ cap ∧ cap ≤ 32 := by omega
    have e : chkSz ⟨ob, ins, thr, kind, str, bits, cap, node, batch, chunk, limit, most⟩ = (decide (0 ≤ cap) && decide (cap ≤ 200)) := by
      rcases ho with rfl | rfl
      · kernel_rfl
      · kernel_rfl
    rw [e]
    simp only [Bool.and_eq_true, decide_eq_true_eq]
    omega
theorem size_ok (c : Conf) (h : c.ok = true) : ok_size c = true ∧ 0 ≤ f_size_0 c ∧ f_size_0 c ≤ 200 := by
  have := size_chk c h
  simp only [chkSz, Bool.and_eq_true, decide_eq_true_eq] at this
  exact this
/-- The contract of 'At'. -/
noncomputable def S_at : Sum := (20, on2 rConf rPlc (fun _ _ => true) (fun c p => .tup [.int .i64 (atN (f_size_0 c) c p), .int .i64 (atE (f_size_0 c) c p)]))
theorem s_at : SumOk Tryz.prog (gmap gs) S_at := at_sum (sz := f_size_0) (pr := ok_size) s_size (fun c h => (size_ok c h).1) (fun c h => (size_ok c h).2)
end Go.Bas.BasZRank2
end
section
namespace Go.Bas.BasZSign
open Go.RowKit Go.Proofs
open Go.Bas.BasZBase Go.Bas.BasZRank Go.Bas.BasZRank2 Go.Bas.BasZOk
set_option maxRecDepth 100000
set_option maxHeartbeats 4000000
set_option linter.unusedVariables false
set_option linter.unusedSimpArgs false
theorem okP {c : Conf} (he : decide (errC c = 0) = true) : c.ok = true := of_errC (of_decide_eq_true he)
theorem str_pos {c : Conf} (he : decide (errC c = 0) = true) (hk : decide (c.kind = 1) = false) : 1 ≤ c.str ∧ c.str ≤ 4 := by
  have h := ok_true.1 (okP he)
  have hk := of_decide_eq_false hk
  simp only [Conf.OkP] at h
  omega
theorem str_ne {c : Conf} (he : decide (errC c = 0) = true) (hk : decide (c.kind = 1) = false) : decide (c.str = 0) = false := decide_eq_false (by have := str_pos he hk; omega)
def sp_sarr : Sp := sT [sG [sI .u8, sI .i64, sI .u64, sI .u64, sI .u64, sI .u64, sI .u64, sI .u64, sI .u64, sI .u64], sI .i64]
noncomputable def out_sarr (c : Conf) (v : Int) (t : Int) : AV := outV (cfg [S_check, S_at]) 400 21 [c.av, .int .i64 v, .int .i64 t]
noncomputable def f_sarr_0 (c : Conf) (v : Int) (t : Int) : Int := AV.toI (AV.ix (AV.ix (out_sarr c v t) 0) 0)
noncomputable def f_sarr_1 (c : Conf) (v : Int) (t : Int) : Int := AV.toI (AV.ix (AV.ix (out_sarr c v t) 0) 1)
noncomputable def f_sarr_2 (c : Conf) (v : Int) (t : Int) : Int := AV.toI (AV.ix (AV.ix (out_sarr c v t) 0) 2)
noncomputable def f_sarr_3 (c : Conf) (v : Int) (t : Int) : Int := AV.toI (AV.ix (AV.ix (out_sarr c v t) 0) 3)
noncomputable def f_sarr_4 (c : Conf) (v : Int) (t : Int) : Int := AV.toI (AV.ix (AV.ix (out_sarr c v t) 0) 4)
noncomputable def f_sarr_5 (c : Conf) (v : Int) (t : Int) : Int := AV.toI (AV.ix (AV.ix (out_sarr c v t) 0) 5)
noncomputable def f_sarr_6 (c : Conf) (v : Int) (t : Int) : Int := AV.toI (AV.ix (AV.ix (out_sarr c v t) 0) 6)
noncomputable def f_sarr_7 (c : Conf) (v : Int) (t : Int) : Int := AV.toI (AV.ix (AV.ix (out_sarr c v t) 0) 7)
noncomputable def f_sarr_8 (c : Conf) (v : Int) (t : Int) : Int := AV.toI (AV.ix (AV.ix (out_sarr c v t) 0) 8)
noncomputable def f_sarr_9 (c : Conf) (v : Int) (t : Int) : Int := AV.toI (AV.ix (AV.ix (out_sarr c v t) 0) 9)
noncomputable def f_sarr_10 (c : Conf) (v : Int) (t : Int) : Int := AV.toI (AV.ix (out_sarr c v t) 1)
noncomputable def o_sarr (c : Conf) (v : Int) (t : Int) : AV := .tup [.agg [.int .u8 (f_sarr_0 c v t), .int .i64 (f_sarr_1 c v t), .int .u64 (f_sarr_2 c v t), .int .u64 (f_sarr_3 c v t), .int .u64 (f_sarr_4 c v t), .int .u64 (f_sarr_5 c v t), .int .u64 (f_sarr_6 c v t), .int .u64 (f_sarr_7 c v t), .int .u64 (f_sarr_8 c v t), .int .u64 (f_sarr_9 c v t)], .int .i64 (f_sarr_10 c v t)]
noncomputable def S_sarr : Sum := (21, on3 rConf (rI .i64) (rI .i64) (fun c v t => true) (fun c v t => o_sarr c v t))
theorem bd_sarr (v : AV) : sp_sarr.bd v = .tup [.agg [.int .u8 (AV.toI (AV.ix (AV.ix v 0) 0)), .int .i64 (AV.toI (AV.ix (AV.ix v 0) 1)), .int .u64 (AV.toI (AV.ix (AV.ix v 0) 2)), .int .u64 (AV.toI (AV.ix (AV.ix v 0) 3)), .int .u64 (AV.toI (AV.ix (AV.ix v 0) 4)), .int .u64 (AV.toI (AV.ix (AV.ix v 0) 5)), .int .u64 (AV.toI (AV.ix (AV.ix v 0) 6)), .int .u64 (AV.toI (AV.ix (AV.ix v 0) 7)), .int .u64 (AV.toI (AV.ix (AV.ix v 0) 8)), .int .u64 (AV.toI (AV.ix (AV.ix v 0) 9))], .int .i64 (AV.toI (AV.ix v 1))] := rfl
theorem oe_sarr (c : Conf) (v : Int) (t : Int) : sp_sarr.bd (out_sarr c v t) = o_sarr c v t := (bd_sarr _).trans (by unfold o_sarr f_sarr_0 f_sarr_1 f_sarr_2 f_sarr_3 f_sarr_4 f_sarr_5 f_sarr_6 f_sarr_7 f_sarr_8 f_sarr_9 f_sarr_10; rfl)
theorem t_sarr (c : Conf) (v : Int) (t : Int) : runF (cfg [S_check, S_at]) 400 21 [c.av, .int .i64 v, .int .i64 t] sp_sarr.has false = true := Eq.trans (b := (br ((!decide ((errC c) = 0))) ((ba ((!decide ((errC c) = 0))) (true))) ((br (decide (c.4 = 1)) ((br ((!decide ((errC c) = 0))) (true) ((br ((!decide (c.4 = 1))) (true) ((br (decide (v < 0)) (true) ((br (decide (v ≥ 2)) (true) ((br (decide (t < 0)) (true) ((br (decide (t ≥ c.3)) (true) (true))))))))))))) ((br (decide ((errC c) = 0)) ((br ((!decide (c.4 = 2))) (true) ((br (decide (t < 0)) (true) ((br (decide (t ≥ c.3)) (true) ((br (decide (c.5 = 0)) (false) ((br ((!decide ((BasZAt4.atE (f_size_0 c) c (Plc.mk 7 v (Int.tmod t c.5))) = 0))) (true) (true))))))))))) (true))))))) (by kernel_rfl) (bdt (fun h_1 => (band h_1 rfl)) (fun h_1 => (bdt (fun h_2 => (btf h_1 (bdt (fun h_3 => rfl) (fun h_3 => (bdt (fun h_4 => rfl) (fun h_4 => (bdt (fun h_5 => rfl) (fun h_5 => (bdt (fun h_6 => rfl) (fun h_6 => (bdt (fun h_7 => rfl) (fun h_7 => rfl)))))))))))) (fun h_2 => (bdt (fun h_3 => (bdt (fun h_4 => rfl) (fun h_4 => (bdt (fun h_5 => rfl) (fun h_5 => (bdt (fun h_6 => rfl) (fun h_6 => (btf (str_ne h_3 h_2) (bdt (fun h_7 => rfl) (fun h_7 => rfl)))))))))) (fun h_3 => rfl))))))
theorem run_sarr (c : Conf) (v : Int) (t : Int) (h : true = true) : runF (cfg [S_check, S_at]) 400 21 [c.av, .int .i64 v, .int .i64 t] sp_sarr.has false = true := t_sarr c v t
theorem s_sarr : SumOk Tryz.prog (gmap gs) S_sarr := on3_sum fun c v t hp => (acalls_out base (sums_cons s_check (sums_cons s_at sums_nil)) (n := 400) sp_sarr (run_sarr c v t hp)).mono fun v_ hv_ => hv_.trans (oe_sarr c v t)
def sp_sdep : Sp := sT [sG [sI .u8, sI .i64, sI .u64, sI .u64, sI .u64, sI .u64, sI .u64, sI .u64, sI .u64, sI .u64], sI .i64]
noncomputable def out_sdep (c : Conf) (v : Int) (t : Int) : AV := outV (cfg [S_check, S_at]) 400 22 [c.av, .int .i64 v, .int .i64 t]
noncomputable def f_sdep_0 (c : Conf) (v : Int) (t : Int) : Int := AV.toI (AV.ix (AV.ix (out_sdep c v t) 0) 0)
noncomputable def f_sdep_1 (c : Conf) (v : Int) (t : Int) : Int := AV.toI (AV.ix (AV.ix (out_sdep c v t) 0) 1)
noncomputable def f_sdep_2 (c : Conf) (v : Int) (t : Int) : Int := AV.toI (AV.ix (AV.ix (out_sdep c v t) 0) 2)
noncomputable def f_sdep_3 (c : Conf) (v : Int) (t : Int) : Int := AV.toI (AV.ix (AV.ix (out_sdep c v t) 0) 3)
noncomputable def f_sdep_4 (c : Conf) (v : Int) (t : Int) : Int := AV.toI (AV.ix (AV.ix (out_sdep c v t) 0) 4)
noncomputable def f_sdep_5 (c : Conf) (v : Int) (t : Int) : Int := AV.toI (AV.ix (AV.ix (out_sdep c v t) 0) 5)
noncomputable def f_sdep_6 (c : Conf) (v : Int) (t : Int) : Int := AV.toI (AV.ix (AV.ix (out_sdep c v t) 0) 6)
noncomputable def f_sdep_7 (c : Conf) (v : Int) (t : Int) : Int := AV.toI (AV.ix (AV.ix (out_sdep c v t) 0) 7)
noncomputable def f_sdep_8 (c : Conf) (v : Int) (t : Int) : Int := AV.toI (AV.ix (AV.ix (out_sdep c v t) 0) 8)
noncomputable def f_sdep_9 (c : Conf) (v : Int) (t : Int) : Int := AV.toI (AV.ix (AV.ix (out_sdep c v t) 0) 9)
noncomputable def f_sdep_10 (c : Conf) (v : Int) (t : Int) : Int := AV.toI (AV.ix (out_sdep c v t) 1)
noncomputable def o_sdep (c : Conf) (v : Int) (t : Int) : AV := .tup [.agg [.int .u8 (f_sdep_0 c v t), .int .i64 (f_sdep_1 c v t), .int .u64 (f_sdep_2 c v t), .int .u64 (f_sdep_3 c v t), .int .u64 (f_sdep_4 c v t), .int .u64 (f_sdep_5 c v t), .int .u64 (f_sdep_6 c v t), .int .u64 (f_sdep_7 c v t), .int .u64 (f_sdep_8 c v t), .int .u64 (f_sdep_9 c v t)], .int .i64 (f_sdep_10 c v t)]
noncomputable def S_sdep : Sum := (22, on3 rConf (rI .i64) (rI .i64) (fun c v t => true) (fun c v t => o_sdep c v t))
theorem bd_sdep (v : AV) : sp_sdep.bd v = .tup [.agg [.int .u8 (AV.toI (AV.ix (AV.ix v 0) 0)), .int .i64 (AV.toI (AV.ix (AV.ix v 0) 1)), .int .u64 (AV.toI (AV.ix (AV.ix v 0) 2)), .int .u64 (AV.toI (AV.ix (AV.ix v 0) 3)), .int .u64 (AV.toI (AV.ix (AV.ix v 0) 4)), .int .u64 (AV.toI (AV.ix (AV.ix v 0) 5)), .int .u64 (AV.toI (AV.ix (AV.ix v 0) 6)), .int .u64 (AV.toI (AV.ix (AV.ix v 0) 7)), .int .u64 (AV.toI (AV.ix (AV.ix v 0) 8)), .int .u64 (AV.toI (AV.ix (AV.ix v 0) 9))], .int .i64 (AV.toI (AV.ix v 1))] := rfl
theorem oe_sdep (c : Conf) (v : Int) (t : Int) : sp_sdep.bd (out_sdep c v t) = o_sdep c v t := (bd_sdep _).trans (by unfold o_sdep f_sdep_0 f_sdep_1 f_sdep_2 f_sdep_3 f_sdep_4 f_sdep_5 f_sdep_6 f_sdep_7 f_sdep_8 f_sdep_9 f_sdep_10; rfl)
theorem t_sdep (c : Conf) (v : Int) (t : Int) : runF (cfg [S_check, S_at]) 400 22 [c.av, .int .i64 v, .int .i64 t] sp_sdep.has false = true := Eq.trans (b := (br ((!decide ((errC c) = 0))) ((ba ((!decide ((errC c) = 0))) (true))) ((br (decide (c.4 = 1)) ((br ((!decide ((errC c) = 0))) (true) ((br ((!decide (c.4 = 1))) (true) ((br (decide (v < 0)) (true) ((br (decide (v ≥ 2)) (true) ((br (decide (t < 0)) (true) ((br (decide (t ≥ c.3)) (true) (true))))))))))))) ((br (decide ((errC c) = 0)) ((br ((!decide (c.4 = 2))) (true) ((br (decide (t < 0)) (true) ((br (decide (t ≥ c.3)) (true) ((br (decide (c.5 = 0)) (false) ((br ((!decide ((BasZAt4.atE (f_size_0 c) c (Plc.mk 8 v (Int.tmod t c.5))) = 0))) (true) (true))))))))))) (true))))))) (by kernel_rfl) (bdt (fun h_1 => (band h_1 rfl)) (fun h_1 => (bdt (fun h_2 => (btf h_1 (bdt (fun h_3 => rfl) (fun h_3 => (bdt (fun h_4 => rfl) (fun h_4 => (bdt (fun h_5 => rfl) (fun h_5 => (bdt (fun h_6 => rfl) (fun h_6 => (bdt (fun h_7 => rfl) (fun h_7 => rfl)))))))))))) (fun h_2 => (bdt (fun h_3 => (bdt (fun h_4 => rfl) (fun h_4 => (bdt (fun h_5 => rfl) (fun h_5 => (bdt (fun h_6 => rfl) (fun h_6 => (btf (str_ne h_3 h_2) (bdt (fun h_7 => rfl) (fun h_7 => rfl)))))))))) (fun h_3 => rfl))))))
theorem run_sdep (c : Conf) (v : Int) (t : Int) (h : true = true) : runF (cfg [S_check, S_at]) 400 22 [c.av, .int .i64 v, .int .i64 t] sp_sdep.has false = true := t_sdep c v t
theorem s_sdep : SumOk Tryz.prog (gmap gs) S_sdep := on3_sum fun c v t hp => (acalls_out base (sums_cons s_check (sums_cons s_at sums_nil)) (n := 400) sp_sdep (run_sdep c v t hp)).mono fun v_ hv_ => hv_.trans (oe_sdep c v t)
end Go.Bas.BasZSign
end
section
namespace Go.Bas.BasZRs
open Go.RowKit Go.Proofs
open Go.Bas.BasZBase Go.Bas.BasZRank Go.Bas.BasZRank2 Go.Bas.BasZOk Go.Bas.BasZSign Go.Bas.BasZAt4
set_option maxRecDepth 100000
set_option maxHeartbeats 4000000
set_option linter.unusedVariables false
set_option linter.unusedSimpArgs false
theorem aE0 {z : Int} {c : Conf} {p : Plc} (hc : c.ok = true) (h : HasP z c p) : (!decide (atE z c p = 0)) = false := by
  unfold atE
  rw [hc, decide_eq_true h]
  rfl
theorem has78 {z : Int} {c : Conf} {v t k : Int} (hk : k = 7 ∨ k = 8) (hkd : decide (c.kind = 1) = false) (hs : 1 ≤ c.str) (h1 : decide (v < 0) = false) (h2 : decide (v ≥ 2) = false) (ht : decide (t < 0) = false) : HasP z c ⟨k, v, Int.tmod t c.str⟩ := by
  have hkd := of_decide_eq_false hkd
  have h1 := of_decide_eq_false h1
  have h2 := of_decide_eq_false h2
  have ht := of_decide_eq_false ht
  have h0 : 0 ≤ Int.tmod t c.str := Int.tmod_nonneg _ (by omega)
  have h1' : Int.tmod t c.str < c.str := Int.tmod_lt_of_pos _ (by omega)
  exact .inr (.inr (.inr (.inl ⟨by rcases hk with rfl | rfl; exact .inl rfl; exact .inr rfl, hkd, (show 0 ≤ v by omega), (show v < 2 by omega), h0, h1'⟩)))
theorem knd {c : Conf} (hc : c.ok = true) (h : decide (c.kind = 1) = false) : decide (c.kind = 2) = true := by
  have h := of_decide_eq_false h
  have hk := ok_true.1 hc
  unfold Conf.OkP at hk
  exact decide_eq_true (by omega)
def isSt (e kd : Int) : Bool := decide (e = 0) && (decide (kd = 2) || decide (kd = 4))
theorem t_ysarr (c : Conf) (v : Int) (t : Int) (he : decide (errC c = 0) = true) (hc : c.ok = true) (v0 : decide (v < 0) = false) (v2 : decide (v ≥ 2) = false) (t0 : decide (t < 0) = false) (t1 : decide (t ≥ c.thr) = false) : runF (cfg [S_check, S_at]) 400 21 [c.av, .int .i64 v, .int .i64 t] (fun v_ => sp_sarr.has v_ && (bif isSt (AV.toI (AV.ix v_ 1)) (AV.toI (AV.ix (AV.ix v_ 0) 0)) then true else false)) false = true := Eq.trans (b := (br ((!decide ((errC c) = 0))) ((ba ((!decide ((errC c) = 0))) ((ba ((decide ((errC c) = 0) && Bool.false)) (true))))) ((br (decide (c.4 = 1)) ((br ((!decide ((errC c) = 0))) (false) ((br ((!decide (c.4 = 1))) (false) ((br (decide (v < 0)) (false) ((br (decide (v ≥ 2)) (false) ((br (decide (t < 0)) (false) ((!decide (t ≥ c.3))))))))))))) ((ba (decide ((errC c) = 0)) ((br ((!decide (c.4 = 2))) (false) ((br (decide (t < 0)) (false) ((br (decide (t ≥ c.3)) (false) ((br (decide (c.5 = 0)) (false) ((br ((!decide ((BasZAt4.atE (f_size_0 c) c (Plc.mk 7 v (Int.tmod t c.5))) = 0))) ((ba ((decide ((BasZAt4.atE (f_size_0 c) c (Plc.mk 7 v (Int.tmod t c.5))) = 0) && Bool.false)) (true))) (true))))))))))))))))) (by kernel_rfl) (btf (not_t he) (bdt (fun h_1 => (btf (not_t he) (btf (not_t h_1) (btf v0 (btf v2 (btf t0 (not_f t1))))))) (fun h_1 => (band he (btf (not_t (knd hc h_1)) (btf t0 (btf t1 (btf (str_ne he h_1) (btf (aE0 hc (has78 (.inl rfl) h_1 (str_pos he h_1).1 v0 v2 t0)) rfl)))))))))
theorem t_ysdep (c : Conf) (v : Int) (t : Int) (he : decide (errC c = 0) = true) (hc : c.ok = true) (v0 : decide (v < 0) = false) (v2 : decide (v ≥ 2) = false) (t0 : decide (t < 0) = false) (t1 : decide (t ≥ c.thr) = false) : runF (cfg [S_check, S_at]) 400 22 [c.av, .int .i64 v, .int .i64 t] (fun v_ => sp_sdep.has v_ && (bif isSt (AV.toI (AV.ix v_ 1)) (AV.toI (AV.ix (AV.ix v_ 0) 0)) then true else false)) false = true := Eq.trans (b := (br ((!decide ((errC c) = 0))) ((ba ((!decide ((errC c) = 0))) ((ba ((decide ((errC c) = 0) && Bool.false)) (true))))) ((br (decide (c.4 = 1)) ((br ((!decide ((errC c) = 0))) (false) ((br ((!decide (c.4 = 1))) (false) ((br (decide (v < 0)) (false) ((br (decide (v ≥ 2)) (false) ((br (decide (t < 0)) (false) ((!decide (t ≥ c.3))))))))))))) ((ba (decide ((errC c) = 0)) ((br ((!decide (c.4 = 2))) (false) ((br (decide (t < 0)) (false) ((br (decide (t ≥ c.3)) (false) ((br (decide (c.5 = 0)) (false) ((br ((!decide ((BasZAt4.atE (f_size_0 c) c (Plc.mk 8 v (Int.tmod t c.5))) = 0))) ((ba ((decide ((BasZAt4.atE (f_size_0 c) c (Plc.mk 8 v (Int.tmod t c.5))) = 0) && Bool.false)) (true))) (true))))))))))))))))) (by kernel_rfl) (btf (not_t he) (bdt (fun h_1 => (btf (not_t he) (btf (not_t h_1) (btf v0 (btf v2 (btf t0 (not_f t1))))))) (fun h_1 => (band he (btf (not_t (knd hc h_1)) (btf t0 (btf t1 (btf (str_ne he h_1) (btf (aE0 hc (has78 (.inr rfl) h_1 (str_pos he h_1).1 v0 v2 t0)) rfl)))))))))
end Go.Bas.BasZRs
end
section
namespace Go.Bas.BasZRdn
open Go.RowKit Go.Proofs
open Go.Bas.BasZBase Go.Bas.BasZOp Go.Bas.BasZRank Go.Bas.BasZLev Go.Bas.BasZRank3 Go.Bas.BasZOk Go.Bas.BasZTreB Go.Bas.BasZTre Go.Bas.BasZBranch Go.Bas.BasZRdA Go.Bas.BasZRdL Go.Bas.BasZRdM Go.Bas.BasZRdN Go.Bas.BasZRdP Go.Bas.BasZRa Go.Bas.BasZRb Go.Bas.BasZRn Go.Bas.BasZRq Go.Bas.BasZFull Go.Bas.BasZRdR Go.Bas.BasZRdS Go.Bas.BasZRank2 Go.Bas.BasZSign Go.Bas.BasZRs
set_option maxRecDepth 100000
set_option maxHeartbeats 4000000
set_option linter.unusedVariables false
set_option linter.unusedSimpArgs false
theorem and2 {a b : Bool} (h : a = true) (h' : b = true) : (a && b) = true := by rw [h, h']; rfl
def isLd (e kd : Int) : Bool := decide (e = 0) && (decide (kd = 1) || decide (kd = 0))
theorem arr_st {c : Conf} {v t : Int} (he : errC c = 0) (hv : 0 ≤ v ∧ v ≤ 1) (ht : 0 ≤ t ∧ t < c.thr) : isSt (f_sarr_10 c v t) (f_sarr_0 c v t) = true := (of_cond (and_right (run_out (t_ysarr c v t (decide_eq_true he) (of_errC he) (decide_eq_false (by omega)) (decide_eq_false (by omega)) (decide_eq_false (by omega)) (decide_eq_false (by omega)))).1)).1
theorem dep_st {c : Conf} {v t : Int} (he : errC c = 0) (hv : 0 ≤ v ∧ v ≤ 1) (ht : 0 ≤ t ∧ t < c.thr) : isSt (f_sdep_10 c v t) (f_sdep_0 c v t) = true := (of_cond (and_right (run_out (t_ysdep c v t (decide_eq_true he) (of_errC he) (decide_eq_false (by omega)) (decide_eq_false (by omega)) (decide_eq_false (by omega)) (decide_eq_false (by omega)))).1)).1
def sp_rdn : Sp := sT [sG [sI .u8, sI .i64, sI .u64, sI .u64, sI .u64, sI .u64, sI .u64, sI .u64, sI .u64, sI .u64], sI .i64]
noncomputable def out_rdn (c : Conf) (t : Int) (r : Rdr) : AV := outV (cfg [S_check, S_rpnr, S_wrn, S_at, S_sarr, S_sdep]) 800 7 [c.av, .int .i64 t, r.av]
noncomputable def f_rdn_0 (c : Conf) (t : Int) (r : Rdr) : Int := AV.toI (AV.ix (AV.ix (out_rdn c t r) 0) 0)
noncomputable def f_rdn_1 (c : Conf) (t : Int) (r : Rdr) : Int := AV.toI (AV.ix (AV.ix (out_rdn c t r) 0) 1)
noncomputable def f_rdn_2 (c : Conf) (t : Int) (r : Rdr) : Int := AV.toI (AV.ix (AV.ix (out_rdn c t r) 0) 2)
noncomputable def f_rdn_3 (c : Conf) (t : Int) (r : Rdr) : Int := AV.toI (AV.ix (AV.ix (out_rdn c t r) 0) 3)
noncomputable def f_rdn_4 (c : Conf) (t : Int) (r : Rdr) : Int := AV.toI (AV.ix (AV.ix (out_rdn c t r) 0) 4)
noncomputable def f_rdn_5 (c : Conf) (t : Int) (r : Rdr) : Int := AV.toI (AV.ix (AV.ix (out_rdn c t r) 0) 5)
noncomputable def f_rdn_6 (c : Conf) (t : Int) (r : Rdr) : Int := AV.toI (AV.ix (AV.ix (out_rdn c t r) 0) 6)
noncomputable def f_rdn_7 (c : Conf) (t : Int) (r : Rdr) : Int := AV.toI (AV.ix (AV.ix (out_rdn c t r) 0) 7)
noncomputable def f_rdn_8 (c : Conf) (t : Int) (r : Rdr) : Int := AV.toI (AV.ix (AV.ix (out_rdn c t r) 0) 8)
noncomputable def f_rdn_9 (c : Conf) (t : Int) (r : Rdr) : Int := AV.toI (AV.ix (AV.ix (out_rdn c t r) 0) 9)
noncomputable def f_rdn_10 (c : Conf) (t : Int) (r : Rdr) : Int := AV.toI (AV.ix (out_rdn c t r) 1)
noncomputable def o_rdn (c : Conf) (t : Int) (r : Rdr) : AV := .tup [.agg [.int .u8 (f_rdn_0 c t r), .int .i64 (f_rdn_1 c t r), .int .u64 (f_rdn_2 c t r), .int .u64 (f_rdn_3 c t r), .int .u64 (f_rdn_4 c t r), .int .u64 (f_rdn_5 c t r), .int .u64 (f_rdn_6 c t r), .int .u64 (f_rdn_7 c t r), .int .u64 (f_rdn_8 c t r), .int .u64 (f_rdn_9 c t r)], .int .i64 (f_rdn_10 c t r)]
theorem bd_rdn (v : AV) : sp_rdn.bd v = .tup [.agg [.int .u8 (AV.toI (AV.ix (AV.ix v 0) 0)), .int .i64 (AV.toI (AV.ix (AV.ix v 0) 1)), .int .u64 (AV.toI (AV.ix (AV.ix v 0) 2)), .int .u64 (AV.toI (AV.ix (AV.ix v 0) 3)), .int .u64 (AV.toI (AV.ix (AV.ix v 0) 4)), .int .u64 (AV.toI (AV.ix (AV.ix v 0) 5)), .int .u64 (AV.toI (AV.ix (AV.ix v 0) 6)), .int .u64 (AV.toI (AV.ix (AV.ix v 0) 7)), .int .u64 (AV.toI (AV.ix (AV.ix v 0) 8)), .int .u64 (AV.toI (AV.ix (AV.ix v 0) 9))], .int .i64 (AV.toI (AV.ix v 1))] := rfl
theorem oe_rdn (c : Conf) (t : Int) (r : Rdr) : sp_rdn.bd (out_rdn c t r) = o_rdn c t r := (bd_rdn _).trans (by unfold o_rdn f_rdn_0 f_rdn_1 f_rdn_2 f_rdn_3 f_rdn_4 f_rdn_5 f_rdn_6 f_rdn_7 f_rdn_8 f_rdn_9 f_rdn_10; rfl)
theorem t_rdn1 (c : Conf) (t ver inst batch : Int) (f : Frm) (code v : Int) (us : List AV) (m : Nat) (given : Int) (hR : RI c t (⟨1, ver, inst, batch, f, code, v, us, m, given⟩ : Rdr)) : runF (cfg [S_check, S_rpnr, S_wrn, S_at, S_sarr, S_sdep]) 800 7 [c.av, .int .i64 t, (⟨1, ver, inst, batch, f, code, v, us, m, given⟩ : Rdr).av] (fun w_ => sp_rdn.has w_ && (bif isLd (AV.toI (AV.ix w_ 1)) (AV.toI (AV.ix (AV.ix w_ 0) 0)) then true else false)) false = true := Eq.trans (b := (br ((!decide ((errC c) = 0))) ((br ((!decide ((errC c) = 0))) ((ba ((decide ((errC c) = 0) && Bool.true)) (true))) (true))) ((ba ((BasZRq.okR c f)) ((br (decide (t < 0)) (false) ((br (decide (t ≥ c.3)) (false) ((ba ((bif decide (f.1 = 3) then Bool.true else (bif decide (f.1 = 6) then Bool.true else (bif decide (f.1 = 7) then Bool.true else (bif decide (f.1 = 8) then Bool.true else (bif decide (f.1 = 11) then Bool.true else decide (f.1 = 14))))))) ((br (decide (ver < 0)) (false) ((br (decide (ver > 1)) (false) ((br (decide (inst < 0)) (false) ((br (decide (inst ≥ c.2)) (false) ((br (decide ((Int.ofNat m) > c.7)) (false) ((br (decide (given < 0)) (false) ((!decide (given > (Int.ofNat m)))))))))))))))))))))))))) (by kernel_rfl) (btf (k_e hR) (band (k_okR hR) (btf (k_all hR).1 (btf (k_all hR).2.1 (band (k_wr hR) (btf (k_all hR).2.2.1 (btf (k_all hR).2.2.2.1 (btf (k_all hR).2.2.2.2.1 (btf (k_all hR).2.2.2.2.2.1 (btf (k_all hR).2.2.2.2.2.2.1 (btf (k_all hR).2.2.2.2.2.2.2.1 (not_f (k_all hR).2.2.2.2.2.2.2.2))))))))))))
theorem t_rdn2 (c : Conf) (t ver inst batch : Int) (f : Frm) (code v : Int) (us : List AV) (m : Nat) (given : Int) (hR : RI c t (⟨2, ver, inst, batch, f, code, v, us, m, given⟩ : Rdr)) : runF (cfg [S_check, S_rpnr, S_wrn, S_at, S_sarr, S_sdep]) 800 7 [c.av, .int .i64 t, (⟨2, ver, inst, batch, f, code, v, us, m, given⟩ : Rdr).av] (fun w_ => sp_rdn.has w_ && (bif isSt (AV.toI (AV.ix w_ 1)) (AV.toI (AV.ix (AV.ix w_ 0) 0)) then true else false)) false = true := Eq.trans (b := (br ((!decide ((errC c) = 0))) ((ba ((!decide ((errC c) = 0))) ((ba ((BasZRs.isSt (errC c) 0)) (true))))) ((ba ((BasZRq.okR c f)) ((br (decide (t < 0)) (false) ((br (decide (t ≥ c.3)) (false) ((ba ((bif decide (f.1 = 3) then Bool.true else (bif decide (f.1 = 6) then Bool.true else (bif decide (f.1 = 7) then Bool.true else (bif decide (f.1 = 8) then Bool.true else (bif decide (f.1 = 11) then Bool.true else decide (f.1 = 14))))))) ((br (decide (ver < 0)) (false) ((br (decide (ver > 1)) (false) ((br (decide (inst < 0)) (false) ((br (decide (inst ≥ c.2)) (false) ((br (decide ((Int.ofNat m) > c.7)) (false) ((br (decide (given < 0)) (false) ((br (decide (given > (Int.ofNat m))) (false) ((ba ((BasZRs.isSt (f_sarr_10 c ver t) (f_sarr_0 c ver t))) (true))))))))))))))))))))))))))) (by kernel_rfl) (btf (k_e hR) (band (k_okR hR) (btf (k_all hR).1 (btf (k_all hR).2.1 (band (k_wr hR) (btf (k_all hR).2.2.1 (btf (k_all hR).2.2.2.1 (btf (k_all hR).2.2.2.2.1 (btf (k_all hR).2.2.2.2.2.1 (btf (k_all hR).2.2.2.2.2.2.1 (btf (k_all hR).2.2.2.2.2.2.2.1 (btf (k_all hR).2.2.2.2.2.2.2.2 (band (arr_st hR.1.1 hR.2.2.1 hR.2.1) rfl)))))))))))))
theorem t_rdn3 (c : Conf) (t ver inst batch : Int) (f : Frm) (code v : Int) (us : List AV) (m : Nat) (given : Int) (hR : RI c t (⟨3, ver, inst, batch, f, code, v, us, m, given⟩ : Rdr)) : runF (cfg [S_check, S_rpnr, S_wrn, S_at, S_sarr, S_sdep]) 800 7 [c.av, .int .i64 t, (⟨3, ver, inst, batch, f, code, v, us, m, given⟩ : Rdr).av] (fun w_ => sp_rdn.has w_ && (bif isLd (AV.toI (AV.ix w_ 1)) (AV.toI (AV.ix (AV.ix w_ 0) 0)) then true else false)) false = true := Eq.trans (b := (br ((!decide ((errC c) = 0))) ((br ((!decide ((errC c) = 0))) ((ba ((decide ((errC c) = 0) && Bool.true)) (true))) (true))) ((ba ((BasZRq.okR c f)) ((br (decide (t < 0)) (false) ((br (decide (t ≥ c.3)) (false) ((ba ((bif decide (f.1 = 3) then Bool.true else (bif decide (f.1 = 6) then Bool.true else (bif decide (f.1 = 7) then Bool.true else (bif decide (f.1 = 8) then Bool.true else (bif decide (f.1 = 11) then Bool.true else decide (f.1 = 14))))))) ((br (decide (ver < 0)) (false) ((br (decide (ver > 1)) (false) ((br (decide (inst < 0)) (false) ((br (decide (inst ≥ c.2)) (false) ((br (decide ((Int.ofNat m) > c.7)) (false) ((br (decide (given < 0)) (false) ((!decide (given > (Int.ofNat m)))))))))))))))))))))))))) (by kernel_rfl) (btf (k_e hR) (band (k_okR hR) (btf (k_all hR).1 (btf (k_all hR).2.1 (band (k_wr hR) (btf (k_all hR).2.2.1 (btf (k_all hR).2.2.2.1 (btf (k_all hR).2.2.2.2.1 (btf (k_all hR).2.2.2.2.2.1 (btf (k_all hR).2.2.2.2.2.2.1 (btf (k_all hR).2.2.2.2.2.2.2.1 (not_f (k_all hR).2.2.2.2.2.2.2.2))))))))))))
theorem t_rdn4 (c : Conf) (t ver inst batch : Int) (f : Frm) (code v : Int) (us : List AV) (m : Nat) (given : Int) (hR : RI c t (⟨4, ver, inst, batch, f, code, v, us, m, given⟩ : Rdr)) : runF (cfg [S_check, S_rpnr, S_wrn, S_at, S_sarr, S_sdep]) 800 7 [c.av, .int .i64 t, (⟨4, ver, inst, batch, f, code, v, us, m, given⟩ : Rdr).av] (fun w_ => sp_rdn.has w_ && (bif isLd (AV.toI (AV.ix w_ 1)) (AV.toI (AV.ix (AV.ix w_ 0) 0)) then true else false)) false = true := Eq.trans (b := (br ((!decide ((errC c) = 0))) ((br ((!decide ((errC c) = 0))) ((ba ((decide ((errC c) = 0) && Bool.true)) (true))) (true))) ((ba ((BasZRq.okR c f)) ((br (decide ((BasZRdN.aK f.4) = 1)) ((br (decide (t < 0)) (false) ((br (decide (t ≥ c.3)) (false) ((ba ((bif decide (f.1 = 3) then Bool.true else (bif decide (f.1 = 6) then Bool.true else (bif decide (f.1 = 7) then Bool.true else (bif decide (f.1 = 8) then Bool.true else (bif decide (f.1 = 11) then Bool.true else decide (f.1 = 14))))))) ((br (decide (ver < 0)) (false) ((br (decide (ver > 1)) (false) ((br (decide (inst < 0)) (false) ((br (decide (inst ≥ c.2)) (false) ((br (decide ((Int.ofNat m) > c.7)) (false) ((br (decide (given < 0)) (false) ((!decide (given > (Int.ofNat m)))))))))))))))))))))) ((br (decide (t < 0)) (false) ((br (decide (t ≥ c.3)) (false) ((ba ((bif decide (f.1 = 3) then Bool.true else (bif decide (f.1 = 6) then Bool.true else (bif decide (f.1 = 7) then Bool.true else (bif decide (f.1 = 8) then Bool.true else (bif decide (f.1 = 11) then Bool.true else decide (f.1 = 14))))))) (false))))))))))))) (by kernel_rfl) (btf (k_e hR) (band (k_okR hR) (btb (decide_eq_true (k_at4 hR)) (btf (k_all hR).1 (btf (k_all hR).2.1 (band (k_wr hR) (btf (k_all hR).2.2.1 (btf (k_all hR).2.2.2.1 (btf (k_all hR).2.2.2.2.1 (btf (k_all hR).2.2.2.2.2.1 (btf (k_all hR).2.2.2.2.2.2.1 (btf (k_all hR).2.2.2.2.2.2.2.1 (not_f (k_all hR).2.2.2.2.2.2.2.2)))))))))))))
theorem t_rdn5 (c : Conf) (t ver inst batch : Int) (f : Frm) (code v : Int) (us : List AV) (m : Nat) (given : Int) (hR : RI c t (⟨5, ver, inst, batch, f, code, v, us, m, given⟩ : Rdr)) : runF (cfg [S_check, S_rpnr, S_wrn, S_at, S_sarr, S_sdep]) 800 7 [c.av, .int .i64 t, (⟨5, ver, inst, batch, f, code, v, us, m, given⟩ : Rdr).av] (fun w_ => sp_rdn.has w_ && (bif isLd (AV.toI (AV.ix w_ 1)) (AV.toI (AV.ix (AV.ix w_ 0) 0)) then true else false)) false = true := Eq.trans (b := (br ((!decide ((errC c) = 0))) ((br ((!decide ((errC c) = 0))) ((ba ((decide ((errC c) = 0) && Bool.true)) (true))) (true))) ((ba ((BasZRq.okR c f)) ((br (decide ((BasZRdN.aK f.4) = 3)) ((br (decide (t < 0)) (false) ((br (decide (t ≥ c.3)) (false) ((ba ((bif decide (f.1 = 3) then Bool.true else (bif decide (f.1 = 6) then Bool.true else (bif decide (f.1 = 7) then Bool.true else (bif decide (f.1 = 8) then Bool.true else (bif decide (f.1 = 11) then Bool.true else decide (f.1 = 14))))))) ((br (decide (ver < 0)) (false) ((br (decide (ver > 1)) (false) ((br (decide (inst < 0)) (false) ((br (decide (inst ≥ c.2)) (false) ((br (decide ((Int.ofNat m) > c.7)) (false) ((br (decide (given < 0)) (false) ((!decide (given > (Int.ofNat m)))))))))))))))))))))) ((br (decide (t < 0)) (false) ((br (decide (t ≥ c.3)) (false) ((ba ((bif decide (f.1 = 3) then Bool.true else (bif decide (f.1 = 6) then Bool.true else (bif decide (f.1 = 7) then Bool.true else (bif decide (f.1 = 8) then Bool.true else (bif decide (f.1 = 11) then Bool.true else decide (f.1 = 14))))))) (false))))))))))))) (by kernel_rfl) (btf (k_e hR) (band (k_okR hR) (btb (decide_eq_true (k_at5 hR)) (btf (k_all hR).1 (btf (k_all hR).2.1 (band (k_wr hR) (btf (k_all hR).2.2.1 (btf (k_all hR).2.2.2.1 (btf (k_all hR).2.2.2.2.1 (btf (k_all hR).2.2.2.2.2.1 (btf (k_all hR).2.2.2.2.2.2.1 (btf (k_all hR).2.2.2.2.2.2.2.1 (not_f (k_all hR).2.2.2.2.2.2.2.2)))))))))))))
theorem t_rdn6 (c : Conf) (t ver inst batch : Int) (f : Frm) (code v : Int) (us : List AV) (m : Nat) (given : Int) (hR : RI c t (⟨6, ver, inst, batch, f, code, v, us, m, given⟩ : Rdr)) : runF (cfg [S_check, S_rpnr, S_wrn, S_at, S_sarr, S_sdep]) 800 7 [c.av, .int .i64 t, (⟨6, ver, inst, batch, f, code, v, us, m, given⟩ : Rdr).av] (fun w_ => sp_rdn.has w_ && (bif isSt (AV.toI (AV.ix w_ 1)) (AV.toI (AV.ix (AV.ix w_ 0) 0)) then true else false)) false = true := Eq.trans (b := (br ((!decide ((errC c) = 0))) ((ba ((!decide ((errC c) = 0))) ((ba ((BasZRs.isSt (errC c) 0)) (true))))) ((ba ((BasZRq.okR c f)) ((br (decide ((BasZRdN.aK f.4) = 4)) ((br (decide (t < 0)) (false) ((br (decide (t ≥ c.3)) (false) ((ba ((bif decide (f.1 = 3) then Bool.true else (bif decide (f.1 = 6) then Bool.true else (bif decide (f.1 = 7) then Bool.true else (bif decide (f.1 = 8) then Bool.true else (bif decide (f.1 = 11) then Bool.true else decide (f.1 = 14))))))) ((br (decide (ver < 0)) (false) ((br (decide (ver > 1)) (false) ((br (decide (inst < 0)) (false) ((br (decide (inst ≥ c.2)) (false) ((br (decide ((Int.ofNat m) > c.7)) (false) ((br (decide (given < 0)) (false) ((br (decide (given > (Int.ofNat m))) (false) ((ba ((BasZRs.isSt (f_sdep_10 c ver t) (f_sdep_0 c ver t))) (true))))))))))))))))))))))) ((br (decide (t < 0)) (false) ((br (decide (t ≥ c.3)) (false) ((ba ((bif decide (f.1 = 3) then Bool.true else (bif decide (f.1 = 6) then Bool.true else (bif decide (f.1 = 7) then Bool.true else (bif decide (f.1 = 8) then Bool.true else (bif decide (f.1 = 11) then Bool.true else decide (f.1 = 14))))))) (false))))))))))))) (by kernel_rfl) (btf (k_e hR) (band (k_okR hR) (btb (decide_eq_true (k_at6 hR)) (btf (k_all hR).1 (btf (k_all hR).2.1 (band (k_wr hR) (btf (k_all hR).2.2.1 (btf (k_all hR).2.2.2.1 (btf (k_all hR).2.2.2.2.1 (btf (k_all hR).2.2.2.2.2.1 (btf (k_all hR).2.2.2.2.2.2.1 (btf (k_all hR).2.2.2.2.2.2.2.1 (btf (k_all hR).2.2.2.2.2.2.2.2 (band (dep_st hR.1.1 hR.2.2.1 hR.2.1) rfl))))))))))))))
theorem t_rdn7 (c : Conf) (t ver inst batch : Int) (f : Frm) (code v : Int) (us : List AV) (m : Nat) (given : Int) (hR : RI c t (⟨7, ver, inst, batch, f, code, v, us, m, given⟩ : Rdr)) : runF (cfg [S_check, S_rpnr, S_wrn, S_at, S_sarr, S_sdep]) 800 7 [c.av, .int .i64 t, (⟨7, ver, inst, batch, f, code, v, us, m, given⟩ : Rdr).av] (fun w_ => sp_rdn.has w_ && (bif isSt (AV.toI (AV.ix w_ 1)) (AV.toI (AV.ix (AV.ix w_ 0) 0)) then true else false)) false = true := Eq.trans (b := (br ((!decide ((errC c) = 0))) ((ba ((!decide ((errC c) = 0))) ((ba ((BasZRs.isSt (errC c) 0)) (true))))) ((ba ((BasZRq.okR c f)) ((br (decide (t < 0)) (false) ((br (decide (t ≥ c.3)) (false) ((ba ((bif decide (f.1 = 3) then Bool.true else (bif decide (f.1 = 6) then Bool.true else (bif decide (f.1 = 7) then Bool.true else (bif decide (f.1 = 8) then Bool.true else (bif decide (f.1 = 11) then Bool.true else decide (f.1 = 14))))))) ((br (decide (ver < 0)) (false) ((br (decide (ver > 1)) (false) ((br (decide (inst < 0)) (false) ((br (decide (inst ≥ c.2)) (false) ((br (decide ((Int.ofNat m) > c.7)) (false) ((br (decide (given < 0)) (false) ((br (decide (given > (Int.ofNat m))) (false) ((ba ((BasZRs.isSt (f_sdep_10 c ver t) (f_sdep_0 c ver t))) (true))))))))))))))))))))))))))) (by kernel_rfl) (btf (k_e hR) (band (k_okR hR) (btf (k_all hR).1 (btf (k_all hR).2.1 (band (k_wr hR) (btf (k_all hR).2.2.1 (btf (k_all hR).2.2.2.1 (btf (k_all hR).2.2.2.2.1 (btf (k_all hR).2.2.2.2.2.1 (btf (k_all hR).2.2.2.2.2.2.1 (btf (k_all hR).2.2.2.2.2.2.2.1 (btf (k_all hR).2.2.2.2.2.2.2.2 (band (dep_st hR.1.1 hR.2.2.1 hR.2.1) rfl)))))))))))))
end Go.Bas.BasZRdn
end
section
namespace Go.Bas.BasZRdU
open Go.RowKit Go.Proofs
open Go.Bas.BasZBase Go.Bas.BasZOp Go.Bas.BasZRank2 Go.Bas.BasZOk Go.Bas.BasZTreB Go.Bas.BasZSign Go.Bas.BasZFull Go.Bas.BasEnds Go.Bas.BasZRdA Go.Bas.BasZRdL Go.Bas.BasZRdM Go.Bas.BasZRdN Go.Bas.BasZRdP Go.Bas.BasZRa Go.Bas.BasZRb Go.Bas.BasZRn Go.Bas.BasZRq Go.Bas.BasZRdR Go.Bas.BasZRdS Go.Bas.BasZRs Go.Bas.BasZRda Go.Bas.BasZRdn
set_option maxRecDepth 100000
set_option maxHeartbeats 4000000
set_option linter.unusedVariables false
set_option linter.unusedSimpArgs false
/-- The reader that an answer tells. -/
noncomputable abbrev rdOf (w_ : AV) : Rdr := Rdr.mk (AV.toI (AV.ix (AV.ix w_ 0) 0)) (AV.toI (AV.ix (AV.ix w_ 0) 1)) (AV.toI (AV.ix (AV.ix w_ 0) 2)) (AV.toI (AV.ix (AV.ix w_ 0) 3)) (Frm.mk (AV.toI (AV.ix (AV.ix w_ 0) 4)) (AV.toI (AV.ix (AV.ix w_ 0) 5)) (AV.toI (AV.ix (AV.ix w_ 0) 6)) (AV.toI (AV.ix (AV.ix w_ 0) 7)) (AV.toI (AV.ix (AV.ix w_ 0) 8)) (AV.toI (AV.ix (AV.ix w_ 0) 9)) (AV.toI (AV.ix (AV.ix w_ 0) 10)) (AV.toI (AV.ix (AV.ix w_ 0) 11)) (AV.toI (AV.ix (AV.ix w_ 0) 12)) (AV.toI (AV.ix (AV.ix w_ 0) 13)) (AV.toI (AV.ix (AV.ix w_ 0) 14))) (AV.toI (AV.ix (AV.ix w_ 0) 15)) (AV.toI (AV.ix (AV.ix w_ 0) 16)) (AV.lcX (AV.ix (AV.ix w_ 0) 17)) (AV.lnX (AV.ix (AV.ix w_ 0) 17)) (AV.toI (AV.ix (AV.ix w_ 0) 18))
noncomputable abbrev postZ (c : Conf) (t : Int) (r : Rdr) : AV → Bool := fun w_ => sp_rda.has w_ && (bif okZ c t r (AV.toI (AV.ix w_ 2)) (AV.toB (AV.ix w_ 1)) (rdOf w_) then true else false)
theorem run_rda0 (c : Conf) (t : Int) (r : Rdr) (l : Cel) (hR : RI c t r) (hl : 0 ≤ l.a) : runF (cfg [S_check, S_rpnr, S_rpb, S_wrn, S_full]) 800 8 [c.av, .int .i64 t, r.av, l.av] (postZ c t r) false = true := by
  have hat := hR.2.2.2.2.2.2.1
  obtain ⟨pc, ver, inst, batch, f, code, v, us, m, given⟩ := r
  have hat : atR pc f.pc := hat
  unfold atR at hat
  rcases hat with h | h | h | ⟨h, _⟩ | ⟨h, _⟩ | ⟨h, _⟩ | h
  · subst h; exact t_rda1 c t ver inst batch f code v us m given l hR hl
  · subst h; exact t_rda2 c t ver inst batch f code v us m given l hR hl
  · subst h; exact t_rda3 c t ver inst batch f code v us m given l hR hl
  · subst h; exact t_rda4 c t ver inst batch f code v us m given l hR hl
  · subst h; exact t_rda5 c t ver inst batch f code v us m given l hR hl
  · subst h; exact t_rda6 c t ver inst batch f code v us m given l hR hl
  · subst h; exact t_rda7 c t ver inst batch f code v us m given l hR hl
/-- An access: of an indicator where it comes or goes; else it loads, or there is none. -/
noncomputable def okQ (p e kd : Int) : Bool := bif (decide (p = 2) || (decide (p = 6) || decide (p = 7))) then isSt e kd else isLd e kd
noncomputable abbrev postQ (r : Rdr) : AV → Bool := fun w_ => sp_rdn.has w_ && (bif okQ r.pc (AV.toI (AV.ix w_ 1)) (AV.toI (AV.ix (AV.ix w_ 0) 0)) then true else false)
theorem run_rdn0 (c : Conf) (t : Int) (r : Rdr) (hR : RI c t r) : runF (cfg [S_check, S_rpnr, S_wrn, S_at, S_sarr, S_sdep]) 800 7 [c.av, .int .i64 t, r.av] (postQ r) false = true := by
  have hat := hR.2.2.2.2.2.2.1
  obtain ⟨pc, ver, inst, batch, f, code, v, us, m, given⟩ := r
  have hat : atR pc f.pc := hat
  unfold atR at hat
  rcases hat with h | h | h | ⟨h, _⟩ | ⟨h, _⟩ | ⟨h, _⟩ | h
  · subst h; exact t_rdn1 c t ver inst batch f code v us m given hR
  · subst h; exact t_rdn2 c t ver inst batch f code v us m given hR
  · subst h; exact t_rdn3 c t ver inst batch f code v us m given hR
  · subst h; exact t_rdn4 c t ver inst batch f code v us m given hR
  · subst h; exact t_rdn5 c t ver inst batch f code v us m given hR
  · subst h; exact t_rdn6 c t ver inst batch f code v us m given hR
  · subst h; exact t_rdn7 c t ver inst batch f code v us m given hR
open Classical in
noncomputable def okRI (c : Conf) (t : Int) (r : Rdr) : Bool := decide (RI c t r)
theorem okRI_of {c : Conf} {t : Int} {r : Rdr} (h : okRI c t r = true) : RI c t r := @of_decide_eq_true _ (Classical.propDecidable _) h
theorem okRI_is {c : Conf} {t : Int} {r : Rdr} (h : RI c t r) : okRI c t r = true := @decide_eq_true _ (Classical.propDecidable _) h
theorem run_rdn1 (c : Conf) (t : Int) (r : Rdr) (h : okRI c t r = true) : runF (cfg [S_check, S_rpnr, S_wrn, S_at, S_sarr, S_sdep]) 800 7 [c.av, .int .i64 t, r.av] sp_rdn.has false = true := ((run_out (run_rdn0 c t r (okRI_of h))).2 sp_rdn.has).trans (and_left (run_out (run_rdn0 c t r (okRI_of h))).1)
noncomputable def S_rdnx : Sum := (7, on3 rConf (rI .i64) rRdr (fun c t r => okRI c t r) (fun c t r => o_rdn c t r))
theorem s_rdnx : SumOk Tryz.prog (gmap gs) S_rdnx := on3_sum fun c t r hp => (acalls_out base (sums_cons s_check (sums_cons s_rpnr (sums_cons s_wrn (sums_cons s_at (sums_cons s_sarr (sums_cons s_sdep sums_nil)))))) (n := 800) sp_rdn (run_rdn1 c t r hp)).mono fun v_ hv_ => hv_.trans (oe_rdn c t r)
theorem rdn_ok {c : Conf} {t : Int} {r : Rdr} (h : okRI c t r = true) : okQ r.pc (f_rdn_10 c t r) (f_rdn_0 c t r) = true := (of_cond (and_right (run_out (run_rdn0 c t r (okRI_of h))).1)).1
/-- A cell out of a list, its numbers not known asv such. -/
structure CelU where
  (p q r s : AV)
def CelU.av (u : CelU) : AV := .agg [u.p, u.q, u.r, u.s]
def celUOf : AV → Option CelU
  | .agg [p, q, r, s] => some ⟨p, q, r, s⟩
  | _ => none
theorem celUOf_some {a : AV} {u : CelU} (h : celUOf a = some u) : a = u.av := by
  unfold celUOf at h
  split at h
  · simp only [Option.some.injEq] at h
    subst h
    rfl
  · cases h
def rCelU : Rd CelU := ⟨celUOf, CelU.av, fun _ _ => celUOf_some⟩
def CelU.cel (u : CelU) : Cel := ⟨u.p.toI, u.q.toI, u.r.toI, u.s.toI⟩
def CelU.ok (u : CelU) : Bool := AV.isI .u64 u.p && (AV.isI .u64 u.q && (AV.isI .u64 u.r && (AV.isI .u64 u.s && decide (0 ≤ u.q.toI))))
theorem CelU.is {u : CelU} (h : u.ok = true) : u.av = u.cel.av ∧ 0 ≤ u.cel.a := by
  unfold CelU.ok at h
  simp only [Bool.and_eq_true, decide_eq_true_eq] at h
  obtain ⟨h1, h2, h3, h4, h5⟩ := h
  refine ⟨?_, h5⟩
  obtain ⟨p, q, r, s⟩ := u
  show AV.agg [p, q, r, s] = AV.agg [.int .u64 p.toI, .int .u64 q.toI, .int .u64 r.toI, .int .u64 s.toI]
  rw [← AV.of_isI h1, ← AV.of_isI h2, ← AV.of_isI h3, ← AV.of_isI h4]
theorem run_rda1 (c : Conf) (t : Int) (r : Rdr) (l : Cel) (h : okRI c t r = true) (hl : 0 ≤ l.a) : runF (cfg [S_check, S_rpnr, S_rpb, S_wrn, S_full]) 800 8 [c.av, .int .i64 t, r.av, l.av] sp_rda.has false = true := ((run_out (run_rda0 c t r l (okRI_of h) hl)).2 sp_rda.has).trans (and_left (run_out (run_rda0 c t r l (okRI_of h) hl)).1)
noncomputable def S_rdax : Sum := (8, on4 rConf (rI .i64) rRdr rCelU (fun c t r u => okRI c t r && u.ok) (fun c t r u => o_rda c t r u.cel))
theorem s_rdax : SumOk Tryz.prog (gmap gs) S_rdax := on4_sum fun c t r u hp => by
  obtain ⟨e, hl⟩ := CelU.is (and_right hp)
  show ACalls Tryz.prog (gmap gs) 8 [c.av, .int .i64 t, r.av, u.av] _
  rw [e]
  exact (acalls_outW base (sums_cons s_check (sums_cons s_rpnr (sums_cons s_rpb (sums_cons s_wrn (sums_cons s_full sums_nil))))) (n := 800) sp_rda (run_rda1 c t r u.cel (and_left hp) hl)).mono fun v_ hv_ => hv_.trans (oe_rda c t r u.cel)
/-- The reader behind an access. -/
noncomputable def nxR (c : Conf) (t : Int) (r : Rdr) (l : Cel) : Rdr := ⟨f_rda_0 c t r l, f_rda_1 c t r l, f_rda_2 c t r l, f_rda_3 c t r l, ⟨f_rda_4 c t r l, f_rda_5 c t r l, f_rda_6 c t r l, f_rda_7 c t r l, f_rda_8 c t r l, f_rda_9 c t r l, f_rda_10 c t r l, f_rda_11 c t r l, f_rda_12 c t r l, f_rda_13 c t r l, f_rda_14 c t r l⟩, f_rda_15 c t r l, f_rda_16 c t r l, f_rda_17 c t r l, f_rda_18 c t r l, f_rda_19 c t r l⟩
theorem rda_ok {c : Conf} {t : Int} {r : Rdr} {l : Cel} (h : okRI c t r = true) (hl : 0 ≤ l.a) : RSTEP c t r (f_rda_21 c t r l) (f_rda_20 c t r l) (nxR c t r l) := @of_decide_eq_true _ (Classical.propDecidable _) (of_cond (and_right (run_out (run_rda0 c t r l (okRI_of h) hl)).1)).1
end Go.Bas.BasZRdU
end
section
namespace Go.Bas.BasZRdV
open Go.RowKit Go.Proofs
open Go.Bas.BasZBase Go.Bas.BasZOp Go.Bas.BasZRank Go.Bas.BasZLev Go.Bas.BasZRank3 Go.Bas.BasZOk Go.Bas.BasZTreB Go.Bas.BasEnds Go.Bas.BasZRdA Go.Bas.BasZRdL Go.Bas.BasZRdM Go.Bas.BasZRdN Go.Bas.BasZRdP Go.Bas.BasZRdR Go.Bas.BasZRdS
set_option maxRecDepth 100000
set_option maxHeartbeats 4000000
set_option linter.unusedVariables false
set_option linter.unusedSimpArgs false
/-- The picks of a reading. -/
noncomputable def pkV (c : Conf) (k : Int) : Int := 4 + cond (decide (k = 3)) (c.bits + 1) (cond (decide (k = 11)) c.cap (cond (decide (k = 14)) (3 * c.cap) (1 + c.node * (lvN c.cap c.node : Int) + xI c k)))
noncomputable def okP (n e v : Int) : Bool := decide (n = v) && decide (e = 0)
theorem okP_is {n e v : Int} (h : n = v) (h2 : e = 0) : okP n e v = true := by
  unfold okP
  rw [decide_eq_true h, decide_eq_true h2]
  rfl
theorem ch_ne {c : Conf} (hk : c.OkP) (ho : c.ob = 2) : decide (c.chunk = 0) = false := by
  have h := ixP hk ho
  exact decide_eq_false (by omega)
theorem p_3 {c : Conf} (hk : c.OkP) (ho : c.ob = 1) : okP (IntKind.wrap .i64 (IntKind.wrap .i64 (4 + IntKind.wrap .i64 (c.bits + 1)) + 0)) 0 (pkV c 3) = true := by
  have hb := bitP hk ho
  refine okP_is ?_ rfl
  rw [wi64 (i := c.bits + 1) (by omega) (by omega), wi64 (i := 4 + (c.bits + 1)) (by omega) (by omega), wi64 (by omega) (by omega)]
  show 4 + (c.bits + 1) + 0 = 4 + (c.bits + 1)
  omega
theorem p_11 {c : Conf} (hk : c.OkP) (ho : c.ob = 3) : okP (IntKind.wrap .i64 (IntKind.wrap .i64 (4 + c.cap) + 0)) 0 (pkV c 11) = true := by
  have hb := capP hk
  refine okP_is ?_ rfl
  rw [wi64 (i := 4 + c.cap) (by omega) (by omega), wi64 (by omega) (by omega)]
  show 4 + c.cap + 0 = 4 + c.cap
  omega
theorem p_14 {c : Conf} (hk : c.OkP) (ho : c.ob = 4) : okP (IntKind.wrap .i64 (IntKind.wrap .i64 (4 + IntKind.wrap .i64 (3 * c.cap)) + 0)) 0 (pkV c 14) = true := by
  have hb := capP hk
  refine okP_is ?_ rfl
  rw [wi64 (i := 3 * c.cap) (by omega) (by omega), wi64 (i := 4 + 3 * c.cap) (by omega) (by omega), wi64 (by omega) (by omega)]
  show 4 + 3 * c.cap + 0 = 4 + 3 * c.cap
  omega
theorem nodeL {c : Conf} {L : Int} (hk : c.OkP) (ho : c.ob = 2) (hL : (lvN c.cap c.node : Int) = L) : 0 ≤ c.node * L ∧ c.node * L ≤ 20 ∧ c.node * (lvN c.cap c.node : Int) = c.node * L := by
  have hx := ixP hk ho
  have hl := lvP hk ho
  rw [hL] at hl ⊢
  rcases (show c.node = 2 ∨ c.node = 3 ∨ c.node = 4 by omega) with h | h | h <;> rw [h] <;> omega
theorem p_6 {c : Conf} {L : Int} (hk : c.OkP) (ho : c.ob = 2) (hL : (lvN c.cap c.node : Int) = L) : okP (IntKind.wrap .i64 (IntKind.wrap .i64 (4 + IntKind.wrap .i64 (1 + IntKind.wrap .i64 (c.node * L))) + 0)) 0 (pkV c 6) = true := by
  have hn := nodeL hk ho hL
  refine okP_is ?_ rfl
  rw [wi64 (i := c.node * L) (by omega) (by omega), wi64 (i := 1 + c.node * L) (by omega) (by omega), wi64 (i := 4 + (1 + c.node * L)) (by omega) (by omega), wi64 (by omega) (by omega)]
  show 4 + (1 + c.node * L) + 0 = 4 + (1 + c.node * (lvN c.cap c.node : Int) + xI c 6)
  rw [x_6]
  omega
theorem p_7 {c : Conf} {L : Int} (hk : c.OkP) (ho : c.ob = 2) (hL : (lvN c.cap c.node : Int) = L) : okP (IntKind.wrap .i64 (IntKind.wrap .i64 (4 + IntKind.wrap .i64 (IntKind.wrap .i64 (1 + IntKind.wrap .i64 (c.node * L)) + 1)) + 0)) 0 (pkV c 7) = true := by
  have hn := nodeL hk ho hL
  refine okP_is ?_ rfl
  rw [wi64 (i := c.node * L) (by omega) (by omega), wi64 (i := 1 + c.node * L) (by omega) (by omega), wi64 (i := 1 + c.node * L + 1) (by omega) (by omega), wi64 (i := 4 + (1 + c.node * L + 1)) (by omega) (by omega), wi64 (by omega) (by omega)]
  show 4 + (1 + c.node * L + 1) + 0 = 4 + (1 + c.node * (lvN c.cap c.node : Int) + xI c 7)
  rw [x_7]
  omega
theorem p_8 {c : Conf} {L : Int} (hk : c.OkP) (ho : c.ob = 2) (hL : (lvN c.cap c.node : Int) = L) : okP (IntKind.wrap .i64 (IntKind.wrap .i64 (4 + IntKind.wrap .i64 (IntKind.wrap .i64 (1 + IntKind.wrap .i64 (c.node * L)) + c.cap)) + IntKind.wrap .i64 (Int.tdiv c.cap c.chunk))) 0 (pkV c 8) = true := by
  have hn := nodeL hk ho hL
  have hc := capP hk
  have hx := ixP hk ho
  have hd : Int.tdiv c.cap c.chunk = ((c.cap.toNat / c.chunk.toNat : Nat) : Int) := by
    have e1 : c.cap = ((c.cap.toNat : Nat) : Int) := by omega
    have e2 : c.chunk = ((c.chunk.toNat : Nat) : Int) := by omega
    rw [e1, e2]
    rfl
  have hdl : c.cap.toNat / c.chunk.toNat ≤ c.cap.toNat := Nat.div_le_self _ _
  have hx8 : xI c 8 = ((c.cap.toNat + c.cap.toNat / c.chunk.toNat : Nat) : Int) := x_8
  have hp : pkV c 8 = 4 + (1 + c.node * (lvN c.cap c.node : Int) + xI c 8) := rfl
  refine okP_is ?_ rfl
  rw [hp, hx8, hd]
  generalize c.cap.toNat / c.chunk.toNat = Z at hdl
  rw [wi64 (i := c.node * L) (by omega) (by omega), wi64 (i := 1 + c.node * L) (by omega) (by omega), wi64 (i := 1 + c.node * L + c.cap) (by omega) (by omega), wi64 (i := 4 + (1 + c.node * L + c.cap)) (by omega) (by omega), wi64 (i := (Z : Int)) (by omega) (by omega), wi64 (by omega) (by omega)]
  omega
end Go.Bas.BasZRdV
end
section
namespace Go.Bas.BasZPk
open Go.RowKit Go.Proofs
open Go.Bas.BasZBase Go.Bas.BasZOp Go.Bas.BasZRank Go.Bas.BasZLev Go.Bas.BasZRank3 Go.Bas.BasZOk Go.Bas.BasZTreB Go.Bas.BasZTre Go.Bas.BasZBranch Go.Bas.BasZRdA Go.Bas.BasZRdL Go.Bas.BasZRdM Go.Bas.BasZRdN Go.Bas.BasZRdP Go.Bas.BasZRa Go.Bas.BasZRb Go.Bas.BasZRn Go.Bas.BasZRq Go.Bas.BasZFull Go.Bas.BasZRdR Go.Bas.BasZRdS Go.Bas.BasZRank3 Go.Bas.BasZRdV
set_option maxRecDepth 100000
set_option maxHeartbeats 4000000
set_option linter.unusedVariables false
set_option linter.unusedSimpArgs false
def sp_pik0 : Sp := sT [sI .i64, sI .i64]
theorem t_pk3_0 (c : Conf) (he : decide (errC (cO 1 c) = 0) = true) (hk : c.OkP) (ho : c.ob = 1) : runF (cfg [S_check]) 500 6 [(cO 1 c).av, .int .u8 3] (fun w_ => sp_pik0.has w_ && (bif okP (AV.toI (AV.ix w_ 0)) (AV.toI (AV.ix w_ 1)) (pkV c 3) then true else false)) false = true := Eq.trans (b := (br ((!decide ((errC (Conf.mk 1 c.2 c.3 c.4 c.5 c.6 c.7 c.8 c.9 c.10 c.11 c.12)) = 0))) ((br ((!decide ((errC (Conf.mk 1 c.2 c.3 c.4 c.5 c.6 c.7 c.8 c.9 c.10 c.11 c.12)) = 0))) ((ba ((BasZRdV.okP 0 (errC (Conf.mk 1 c.2 c.3 c.4 c.5 c.6 c.7 c.8 c.9 c.10 c.11 c.12)) (BasZRdV.pkV c 3))) (true))) ((ba ((BasZRdV.okP 4 0 (BasZRdV.pkV c 3))) (true))))) ((ba ((BasZRdV.okP (IntKind.wrap .i64 ((IntKind.wrap .i64 (4 + (IntKind.wrap .i64 (c.6 + 1)))) + 0)) 0 (BasZRdV.pkV c 3))) (true))))) (by kernel_rfl) (btf (nfd he) (band (p_3 hk ho) rfl))
theorem t_pk11_0 (c : Conf) (he : decide (errC (cO 3 c) = 0) = true) (hk : c.OkP) (ho : c.ob = 3) : runF (cfg [S_check]) 500 6 [(cO 3 c).av, .int .u8 11] (fun w_ => sp_pik0.has w_ && (bif okP (AV.toI (AV.ix w_ 0)) (AV.toI (AV.ix w_ 1)) (pkV c 11) then true else false)) false = true := Eq.trans (b := (br ((!decide ((errC (Conf.mk 3 c.2 c.3 c.4 c.5 c.6 c.7 c.8 c.9 c.10 c.11 c.12)) = 0))) ((br ((!decide ((errC (Conf.mk 3 c.2 c.3 c.4 c.5 c.6 c.7 c.8 c.9 c.10 c.11 c.12)) = 0))) ((ba ((BasZRdV.okP 0 (errC (Conf.mk 3 c.2 c.3 c.4 c.5 c.6 c.7 c.8 c.9 c.10 c.11 c.12)) (BasZRdV.pkV c 11))) (true))) ((ba ((BasZRdV.okP 4 0 (BasZRdV.pkV c 11))) (true))))) ((ba ((BasZRdV.okP (IntKind.wrap .i64 ((IntKind.wrap .i64 (4 + c.7)) + 0)) 0 (BasZRdV.pkV c 11))) (true))))) (by kernel_rfl) (btf (nfd he) (band (p_11 hk ho) rfl))
theorem t_pk14_0 (c : Conf) (he : decide (errC (cO 4 c) = 0) = true) (hk : c.OkP) (ho : c.ob = 4) : runF (cfg [S_check]) 500 6 [(cO 4 c).av, .int .u8 14] (fun w_ => sp_pik0.has w_ && (bif okP (AV.toI (AV.ix w_ 0)) (AV.toI (AV.ix w_ 1)) (pkV c 14) then true else false)) false = true := Eq.trans (b := (br ((!decide ((errC (Conf.mk 4 c.2 c.3 c.4 c.5 c.6 c.7 c.8 c.9 c.10 c.11 c.12)) = 0))) ((br ((!decide ((errC (Conf.mk 4 c.2 c.3 c.4 c.5 c.6 c.7 c.8 c.9 c.10 c.11 c.12)) = 0))) ((ba ((BasZRdV.okP 0 (errC (Conf.mk 4 c.2 c.3 c.4 c.5 c.6 c.7 c.8 c.9 c.10 c.11 c.12)) (BasZRdV.pkV c 14))) (true))) ((ba ((BasZRdV.okP 4 0 (BasZRdV.pkV c 14))) (true))))) ((ba ((BasZRdV.okP (IntKind.wrap .i64 ((IntKind.wrap .i64 (4 + (IntKind.wrap .i64 (3 * c.7)))) + 0)) 0 (BasZRdV.pkV c 14))) (true))))) (by kernel_rfl) (btf (nfd he) (band (p_14 hk ho) rfl))
def sp_pik1 : Sp := sT [sI .i64, sI .i64]
theorem t_pk6_1 (c : Conf) (he : decide (errC (cO 2 c) = 0) = true) (hk : c.OkP) (ho : c.ob = 2) (hw : levIs c.cap c.node 1 = true) (hL : (lvN c.cap c.node : Int) = 1) : runF (cfg [S_check, S_lev1]) 500 6 [(cO 2 c).av, .int .u8 6] (fun w_ => sp_pik1.has w_ && (bif okP (AV.toI (AV.ix w_ 0)) (AV.toI (AV.ix w_ 1)) (pkV c 6) then true else false)) false = true := Eq.trans (b := (br ((!decide ((errC (Conf.mk 2 c.2 c.3 c.4 c.5 c.6 c.7 c.8 c.9 c.10 c.11 c.12)) = 0))) ((br ((!decide ((errC (Conf.mk 2 c.2 c.3 c.4 c.5 c.6 c.7 c.8 c.9 c.10 c.11 c.12)) = 0))) ((ba ((BasZRdV.okP 0 (errC (Conf.mk 2 c.2 c.3 c.4 c.5 c.6 c.7 c.8 c.9 c.10 c.11 c.12)) (BasZRdV.pkV c 6))) (true))) ((ba ((BasZRdV.okP 4 0 (BasZRdV.pkV c 6))) (true))))) ((ba ((BasZLev.levIs c.7 c.8 1)) ((ba ((BasZRdV.okP (IntKind.wrap .i64 ((IntKind.wrap .i64 (4 + (IntKind.wrap .i64 (1 + (IntKind.wrap .i64 (c.8 * 1)))))) + 0)) 0 (BasZRdV.pkV c 6))) (true))))))) (by kernel_rfl) (btf (nfd he) (band hw (band (p_6 hk ho hL) rfl)))
theorem t_pk7_1 (c : Conf) (he : decide (errC (cO 2 c) = 0) = true) (hk : c.OkP) (ho : c.ob = 2) (hw : levIs c.cap c.node 1 = true) (hL : (lvN c.cap c.node : Int) = 1) : runF (cfg [S_check, S_lev1]) 500 6 [(cO 2 c).av, .int .u8 7] (fun w_ => sp_pik1.has w_ && (bif okP (AV.toI (AV.ix w_ 0)) (AV.toI (AV.ix w_ 1)) (pkV c 7) then true else false)) false = true := Eq.trans (b := (br ((!decide ((errC (Conf.mk 2 c.2 c.3 c.4 c.5 c.6 c.7 c.8 c.9 c.10 c.11 c.12)) = 0))) ((br ((!decide ((errC (Conf.mk 2 c.2 c.3 c.4 c.5 c.6 c.7 c.8 c.9 c.10 c.11 c.12)) = 0))) ((ba ((BasZRdV.okP 0 (errC (Conf.mk 2 c.2 c.3 c.4 c.5 c.6 c.7 c.8 c.9 c.10 c.11 c.12)) (BasZRdV.pkV c 7))) (true))) ((ba ((BasZRdV.okP 4 0 (BasZRdV.pkV c 7))) (true))))) ((ba ((BasZLev.levIs c.7 c.8 1)) ((ba ((BasZRdV.okP (IntKind.wrap .i64 ((IntKind.wrap .i64 (4 + (IntKind.wrap .i64 ((IntKind.wrap .i64 (1 + (IntKind.wrap .i64 (c.8 * 1)))) + 1)))) + 0)) 0 (BasZRdV.pkV c 7))) (true))))))) (by kernel_rfl) (btf (nfd he) (band hw (band (p_7 hk ho hL) rfl)))
theorem t_pk8_1 (c : Conf) (he : decide (errC (cO 2 c) = 0) = true) (hk : c.OkP) (ho : c.ob = 2) (hw : levIs c.cap c.node 1 = true) (hL : (lvN c.cap c.node : Int) = 1) : runF (cfg [S_check, S_lev1]) 500 6 [(cO 2 c).av, .int .u8 8] (fun w_ => sp_pik1.has w_ && (bif okP (AV.toI (AV.ix w_ 0)) (AV.toI (AV.ix w_ 1)) (pkV c 8) then true else false)) false = true := Eq.trans (b := (br ((!decide ((errC (Conf.mk 2 c.2 c.3 c.4 c.5 c.6 c.7 c.8 c.9 c.10 c.11 c.12)) = 0))) ((br ((!decide ((errC (Conf.mk 2 c.2 c.3 c.4 c.5 c.6 c.7 c.8 c.9 c.10 c.11 c.12)) = 0))) ((ba ((BasZRdV.okP 0 (errC (Conf.mk 2 c.2 c.3 c.4 c.5 c.6 c.7 c.8 c.9 c.10 c.11 c.12)) (BasZRdV.pkV c 8))) (true))) ((ba ((BasZRdV.okP 4 0 (BasZRdV.pkV c 8))) (true))))) ((ba ((BasZLev.levIs c.7 c.8 1)) ((br (decide (c.10 = 0)) (false) ((ba ((BasZRdV.okP (IntKind.wrap .i64 ((IntKind.wrap .i64 (4 + (IntKind.wrap .i64 ((IntKind.wrap .i64 (1 + (IntKind.wrap .i64 (c.8 * 1)))) + c.7)))) + (IntKind.wrap .i64 (Int.tdiv c.7 c.10)))) 0 (BasZRdV.pkV c 8))) (true))))))))) (by kernel_rfl) (btf (nfd he) (band hw (btf (ch_ne hk ho) (band (p_8 hk ho hL) rfl))))
def sp_pik2 : Sp := sT [sI .i64, sI .i64]
theorem t_pk6_2 (c : Conf) (he : decide (errC (cO 2 c) = 0) = true) (hk : c.OkP) (ho : c.ob = 2) (hw : levIs c.cap c.node 2 = true) (hL : (lvN c.cap c.node : Int) = 2) : runF (cfg [S_check, S_lev2]) 500 6 [(cO 2 c).av, .int .u8 6] (fun w_ => sp_pik2.has w_ && (bif okP (AV.toI (AV.ix w_ 0)) (AV.toI (AV.ix w_ 1)) (pkV c 6) then true else false)) false = true := Eq.trans (b := (br ((!decide ((errC (Conf.mk 2 c.2 c.3 c.4 c.5 c.6 c.7 c.8 c.9 c.10 c.11 c.12)) = 0))) ((br ((!decide ((errC (Conf.mk 2 c.2 c.3 c.4 c.5 c.6 c.7 c.8 c.9 c.10 c.11 c.12)) = 0))) ((ba ((BasZRdV.okP 0 (errC (Conf.mk 2 c.2 c.3 c.4 c.5 c.6 c.7 c.8 c.9 c.10 c.11 c.12)) (BasZRdV.pkV c 6))) (true))) ((ba ((BasZRdV.okP 4 0 (BasZRdV.pkV c 6))) (true))))) ((ba ((BasZLev.levIs c.7 c.8 2)) ((ba ((BasZRdV.okP (IntKind.wrap .i64 ((IntKind.wrap .i64 (4 + (IntKind.wrap .i64 (1 + (IntKind.wrap .i64 (c.8 * 2)))))) + 0)) 0 (BasZRdV.pkV c 6))) (true))))))) (by kernel_rfl) (btf (nfd he) (band hw (band (p_6 hk ho hL) rfl)))
theorem t_pk7_2 (c : Conf) (he : decide (errC (cO 2 c) = 0) = true) (hk : c.OkP) (ho : c.ob = 2) (hw : levIs c.cap c.node 2 = true) (hL : (lvN c.cap c.node : Int) = 2) : runF (cfg [S_check, S_lev2]) 500 6 [(cO 2 c).av, .int .u8 7] (fun w_ => sp_pik2.has w_ && (bif okP (AV.toI (AV.ix w_ 0)) (AV.toI (AV.ix w_ 1)) (pkV c 7) then true else false)) false = true := Eq.trans (b := (br ((!decide ((errC (Conf.mk 2 c.2 c.3 c.4 c.5 c.6 c.7 c.8 c.9 c.10 c.11 c.12)) = 0))) ((br ((!decide ((errC (Conf.mk 2 c.2 c.3 c.4 c.5 c.6 c.7 c.8 c.9 c.10 c.11 c.12)) = 0))) ((ba ((BasZRdV.okP 0 (errC (Conf.mk 2 c.2 c.3 c.4 c.5 c.6 c.7 c.8 c.9 c.10 c.11 c.12)) (BasZRdV.pkV c 7))) (true))) ((ba ((BasZRdV.okP 4 0 (BasZRdV.pkV c 7))) (true))))) ((ba ((BasZLev.levIs c.7 c.8 2)) ((ba ((BasZRdV.okP (IntKind.wrap .i64 ((IntKind.wrap .i64 (4 + (IntKind.wrap .i64 ((IntKind.wrap .i64 (1 + (IntKind.wrap .i64 (c.8 * 2)))) + 1)))) + 0)) 0 (BasZRdV.pkV c 7))) (true))))))) (by kernel_rfl) (btf (nfd he) (band hw (band (p_7 hk ho hL) rfl)))
theorem t_pk8_2 (c : Conf) (he : decide (errC (cO 2 c) = 0) = true) (hk : c.OkP) (ho : c.ob = 2) (hw : levIs c.cap c.node 2 = true) (hL : (lvN c.cap c.node : Int) = 2) : runF (cfg [S_check, S_lev2]) 500 6 [(cO 2 c).av, .int .u8 8] (fun w_ => sp_pik2.has w_ && (bif okP (AV.toI (AV.ix w_ 0)) (AV.toI (AV.ix w_ 1)) (pkV c 8) then true else false)) false = true := Eq.trans (b := (br ((!decide ((errC (Conf.mk 2 c.2 c.3 c.4 c.5 c.6 c.7 c.8 c.9 c.10 c.11 c.12)) = 0))) ((br ((!decide ((errC (Conf.mk 2 c.2 c.3 c.4 c.5 c.6 c.7 c.8 c.9 c.10 c.11 c.12)) = 0))) ((ba ((BasZRdV.okP 0 (errC (Conf.mk 2 c.2 c.3 c.4 c.5 c.6 c.7 c.8 c.9 c.10 c.11 c.12)) (BasZRdV.pkV c 8))) (true))) ((ba ((BasZRdV.okP 4 0 (BasZRdV.pkV c 8))) (true))))) ((ba ((BasZLev.levIs c.7 c.8 2)) ((br (decide (c.10 = 0)) (false) ((ba ((BasZRdV.okP (IntKind.wrap .i64 ((IntKind.wrap .i64 (4 + (IntKind.wrap .i64 ((IntKind.wrap .i64 (1 + (IntKind.wrap .i64 (c.8 * 2)))) + c.7)))) + (IntKind.wrap .i64 (Int.tdiv c.7 c.10)))) 0 (BasZRdV.pkV c 8))) (true))))))))) (by kernel_rfl) (btf (nfd he) (band hw (btf (ch_ne hk ho) (band (p_8 hk ho hL) rfl))))
def sp_pik3 : Sp := sT [sI .i64, sI .i64]
theorem t_pk6_3 (c : Conf) (he : decide (errC (cO 2 c) = 0) = true) (hk : c.OkP) (ho : c.ob = 2) (hw : levIs c.cap c.node 3 = true) (hL : (lvN c.cap c.node : Int) = 3) : runF (cfg [S_check, S_lev3]) 500 6 [(cO 2 c).av, .int .u8 6] (fun w_ => sp_pik3.has w_ && (bif okP (AV.toI (AV.ix w_ 0)) (AV.toI (AV.ix w_ 1)) (pkV c 6) then true else false)) false = true := Eq.trans (b := (br ((!decide ((errC (Conf.mk 2 c.2 c.3 c.4 c.5 c.6 c.7 c.8 c.9 c.10 c.11 c.12)) = 0))) ((br ((!decide ((errC (Conf.mk 2 c.2 c.3 c.4 c.5 c.6 c.7 c.8 c.9 c.10 c.11 c.12)) = 0))) ((ba ((BasZRdV.okP 0 (errC (Conf.mk 2 c.2 c.3 c.4 c.5 c.6 c.7 c.8 c.9 c.10 c.11 c.12)) (BasZRdV.pkV c 6))) (true))) ((ba ((BasZRdV.okP 4 0 (BasZRdV.pkV c 6))) (true))))) ((ba ((BasZLev.levIs c.7 c.8 3)) ((ba ((BasZRdV.okP (IntKind.wrap .i64 ((IntKind.wrap .i64 (4 + (IntKind.wrap .i64 (1 + (IntKind.wrap .i64 (c.8 * 3)))))) + 0)) 0 (BasZRdV.pkV c 6))) (true))))))) (by kernel_rfl) (btf (nfd he) (band hw (band (p_6 hk ho hL) rfl)))
theorem t_pk7_3 (c : Conf) (he : decide (errC (cO 2 c) = 0) = true) (hk : c.OkP) (ho : c.ob = 2) (hw : levIs c.cap c.node 3 = true) (hL : (lvN c.cap c.node : Int) = 3) : runF (cfg [S_check, S_lev3]) 500 6 [(cO 2 c).av, .int .u8 7] (fun w_ => sp_pik3.has w_ && (bif okP (AV.toI (AV.ix w_ 0)) (AV.toI (AV.ix w_ 1)) (pkV c 7) then true else false)) false = true := Eq.trans (b := (br ((!decide ((errC (Conf.mk 2 c.2 c.3 c.4 c.5 c.6 c.7 c.8 c.9 c.10 c.11 c.12)) = 0))) ((br ((!decide ((errC (Conf.mk 2 c.2 c.3 c.4 c.5 c.6 c.7 c.8 c.9 c.10 c.11 c.12)) = 0))) ((ba ((BasZRdV.okP 0 (errC (Conf.mk 2 c.2 c.3 c.4 c.5 c.6 c.7 c.8 c.9 c.10 c.11 c.12)) (BasZRdV.pkV c 7))) (true))) ((ba ((BasZRdV.okP 4 0 (BasZRdV.pkV c 7))) (true))))) ((ba ((BasZLev.levIs c.7 c.8 3)) ((ba ((BasZRdV.okP (IntKind.wrap .i64 ((IntKind.wrap .i64 (4 + (IntKind.wrap .i64 ((IntKind.wrap .i64 (1 + (IntKind.wrap .i64 (c.8 * 3)))) + 1)))) + 0)) 0 (BasZRdV.pkV c 7))) (true))))))) (by kernel_rfl) (btf (nfd he) (band hw (band (p_7 hk ho hL) rfl)))
theorem t_pk8_3 (c : Conf) (he : decide (errC (cO 2 c) = 0) = true) (hk : c.OkP) (ho : c.ob = 2) (hw : levIs c.cap c.node 3 = true) (hL : (lvN c.cap c.node : Int) = 3) : runF (cfg [S_check, S_lev3]) 500 6 [(cO 2 c).av, .int .u8 8] (fun w_ => sp_pik3.has w_ && (bif okP (AV.toI (AV.ix w_ 0)) (AV.toI (AV.ix w_ 1)) (pkV c 8) then true else false)) false = true := Eq.trans (b := (br ((!decide ((errC (Conf.mk 2 c.2 c.3 c.4 c.5 c.6 c.7 c.8 c.9 c.10 c.11 c.12)) = 0))) ((br ((!decide ((errC (Conf.mk 2 c.2 c.3 c.4 c.5 c.6 c.7 c.8 c.9 c.10 c.11 c.12)) = 0))) ((ba ((BasZRdV.okP 0 (errC (Conf.mk 2 c.2 c.3 c.4 c.5 c.6 c.7 c.8 c.9 c.10 c.11 c.12)) (BasZRdV.pkV c 8))) (true))) ((ba ((BasZRdV.okP 4 0 (BasZRdV.pkV c 8))) (true))))) ((ba ((BasZLev.levIs c.7 c.8 3)) ((br (decide (c.10 = 0)) (false) ((ba ((BasZRdV.okP (IntKind.wrap .i64 ((IntKind.wrap .i64 (4 + (IntKind.wrap .i64 ((IntKind.wrap .i64 (1 + (IntKind.wrap .i64 (c.8 * 3)))) + c.7)))) + (IntKind.wrap .i64 (Int.tdiv c.7 c.10)))) 0 (BasZRdV.pkV c 8))) (true))))))))) (by kernel_rfl) (btf (nfd he) (band hw (btf (ch_ne hk ho) (band (p_8 hk ho hL) rfl))))
def sp_pik4 : Sp := sT [sI .i64, sI .i64]
theorem t_pk6_4 (c : Conf) (he : decide (errC (cO 2 c) = 0) = true) (hk : c.OkP) (ho : c.ob = 2) (hw : levIs c.cap c.node 4 = true) (hL : (lvN c.cap c.node : Int) = 4) : runF (cfg [S_check, S_lev4]) 500 6 [(cO 2 c).av, .int .u8 6] (fun w_ => sp_pik4.has w_ && (bif okP (AV.toI (AV.ix w_ 0)) (AV.toI (AV.ix w_ 1)) (pkV c 6) then true else false)) false = true := Eq.trans (b := (br ((!decide ((errC (Conf.mk 2 c.2 c.3 c.4 c.5 c.6 c.7 c.8 c.9 c.10 c.11 c.12)) = 0))) ((br ((!decide ((errC (Conf.mk 2 c.2 c.3 c.4 c.5 c.6 c.7 c.8 c.9 c.10 c.11 c.12)) = 0))) ((ba ((BasZRdV.okP 0 (errC (Conf.mk 2 c.2 c.3 c.4 c.5 c.6 c.7 c.8 c.9 c.10 c.11 c.12)) (BasZRdV.pkV c 6))) (true))) ((ba ((BasZRdV.okP 4 0 (BasZRdV.pkV c 6))) (true))))) ((ba ((BasZLev.levIs c.7 c.8 4)) ((ba ((BasZRdV.okP (IntKind.wrap .i64 ((IntKind.wrap .i64 (4 + (IntKind.wrap .i64 (1 + (IntKind.wrap .i64 (c.8 * 4)))))) + 0)) 0 (BasZRdV.pkV c 6))) (true))))))) (by kernel_rfl) (btf (nfd he) (band hw (band (p_6 hk ho hL) rfl)))
theorem t_pk7_4 (c : Conf) (he : decide (errC (cO 2 c) = 0) = true) (hk : c.OkP) (ho : c.ob = 2) (hw : levIs c.cap c.node 4 = true) (hL : (lvN c.cap c.node : Int) = 4) : runF (cfg [S_check, S_lev4]) 500 6 [(cO 2 c).av, .int .u8 7] (fun w_ => sp_pik4.has w_ && (bif okP (AV.toI (AV.ix w_ 0)) (AV.toI (AV.ix w_ 1)) (pkV c 7) then true else false)) false = true := Eq.trans (b := (br ((!decide ((errC (Conf.mk 2 c.2 c.3 c.4 c.5 c.6 c.7 c.8 c.9 c.10 c.11 c.12)) = 0))) ((br ((!decide ((errC (Conf.mk 2 c.2 c.3 c.4 c.5 c.6 c.7 c.8 c.9 c.10 c.11 c.12)) = 0))) ((ba ((BasZRdV.okP 0 (errC (Conf.mk 2 c.2 c.3 c.4 c.5 c.6 c.7 c.8 c.9 c.10 c.11 c.12)) (BasZRdV.pkV c 7))) (true))) ((ba ((BasZRdV.okP 4 0 (BasZRdV.pkV c 7))) (true))))) ((ba ((BasZLev.levIs c.7 c.8 4)) ((ba ((BasZRdV.okP (IntKind.wrap .i64 ((IntKind.wrap .i64 (4 + (IntKind.wrap .i64 ((IntKind.wrap .i64 (1 + (IntKind.wrap .i64 (c.8 * 4)))) + 1)))) + 0)) 0 (BasZRdV.pkV c 7))) (true))))))) (by kernel_rfl) (btf (nfd he) (band hw (band (p_7 hk ho hL) rfl)))
theorem t_pk8_4 (c : Conf) (he : decide (errC (cO 2 c) = 0) = true) (hk : c.OkP) (ho : c.ob = 2) (hw : levIs c.cap c.node 4 = true) (hL : (lvN c.cap c.node : Int) = 4) : runF (cfg [S_check, S_lev4]) 500 6 [(cO 2 c).av, .int .u8 8] (fun w_ => sp_pik4.has w_ && (bif okP (AV.toI (AV.ix w_ 0)) (AV.toI (AV.ix w_ 1)) (pkV c 8) then true else false)) false = true := Eq.trans (b := (br ((!decide ((errC (Conf.mk 2 c.2 c.3 c.4 c.5 c.6 c.7 c.8 c.9 c.10 c.11 c.12)) = 0))) ((br ((!decide ((errC (Conf.mk 2 c.2 c.3 c.4 c.5 c.6 c.7 c.8 c.9 c.10 c.11 c.12)) = 0))) ((ba ((BasZRdV.okP 0 (errC (Conf.mk 2 c.2 c.3 c.4 c.5 c.6 c.7 c.8 c.9 c.10 c.11 c.12)) (BasZRdV.pkV c 8))) (true))) ((ba ((BasZRdV.okP 4 0 (BasZRdV.pkV c 8))) (true))))) ((ba ((BasZLev.levIs c.7 c.8 4)) ((br (decide (c.10 = 0)) (false) ((ba ((BasZRdV.okP (IntKind.wrap .i64 ((IntKind.wrap .i64 (4 + (IntKind.wrap .i64 ((IntKind.wrap .i64 (1 + (IntKind.wrap .i64 (c.8 * 4)))) + c.7)))) + (IntKind.wrap .i64 (Int.tdiv c.7 c.10)))) 0 (BasZRdV.pkV c 8))) (true))))))))) (by kernel_rfl) (btf (nfd he) (band hw (btf (ch_ne hk ho) (band (p_8 hk ho hL) rfl))))
def sp_pik5 : Sp := sT [sI .i64, sI .i64]
theorem t_pk6_5 (c : Conf) (he : decide (errC (cO 2 c) = 0) = true) (hk : c.OkP) (ho : c.ob = 2) (hw : levIs c.cap c.node 5 = true) (hL : (lvN c.cap c.node : Int) = 5) : runF (cfg [S_check, S_lev5]) 500 6 [(cO 2 c).av, .int .u8 6] (fun w_ => sp_pik5.has w_ && (bif okP (AV.toI (AV.ix w_ 0)) (AV.toI (AV.ix w_ 1)) (pkV c 6) then true else false)) false = true := Eq.trans (b := (br ((!decide ((errC (Conf.mk 2 c.2 c.3 c.4 c.5 c.6 c.7 c.8 c.9 c.10 c.11 c.12)) = 0))) ((br ((!decide ((errC (Conf.mk 2 c.2 c.3 c.4 c.5 c.6 c.7 c.8 c.9 c.10 c.11 c.12)) = 0))) ((ba ((BasZRdV.okP 0 (errC (Conf.mk 2 c.2 c.3 c.4 c.5 c.6 c.7 c.8 c.9 c.10 c.11 c.12)) (BasZRdV.pkV c 6))) (true))) ((ba ((BasZRdV.okP 4 0 (BasZRdV.pkV c 6))) (true))))) ((ba ((BasZLev.levIs c.7 c.8 5)) ((ba ((BasZRdV.okP (IntKind.wrap .i64 ((IntKind.wrap .i64 (4 + (IntKind.wrap .i64 (1 + (IntKind.wrap .i64 (c.8 * 5)))))) + 0)) 0 (BasZRdV.pkV c 6))) (true))))))) (by kernel_rfl) (btf (nfd he) (band hw (band (p_6 hk ho hL) rfl)))
theorem t_pk7_5 (c : Conf) (he : decide (errC (cO 2 c) = 0) = true) (hk : c.OkP) (ho : c.ob = 2) (hw : levIs c.cap c.node 5 = true) (hL : (lvN c.cap c.node : Int) = 5) : runF (cfg [S_check, S_lev5]) 500 6 [(cO 2 c).av, .int .u8 7] (fun w_ => sp_pik5.has w_ && (bif okP (AV.toI (AV.ix w_ 0)) (AV.toI (AV.ix w_ 1)) (pkV c 7) then true else false)) false = true := Eq.trans (b := (br ((!decide ((errC (Conf.mk 2 c.2 c.3 c.4 c.5 c.6 c.7 c.8 c.9 c.10 c.11 c.12)) = 0))) ((br ((!decide ((errC (Conf.mk 2 c.2 c.3 c.4 c.5 c.6 c.7 c.8 c.9 c.10 c.11 c.12)) = 0))) ((ba ((BasZRdV.okP 0 (errC (Conf.mk 2 c.2 c.3 c.4 c.5 c.6 c.7 c.8 c.9 c.10 c.11 c.12)) (BasZRdV.pkV c 7))) (true))) ((ba ((BasZRdV.okP 4 0 (BasZRdV.pkV c 7))) (true))))) ((ba ((BasZLev.levIs c.7 c.8 5)) ((ba ((BasZRdV.okP (IntKind.wrap .i64 ((IntKind.wrap .i64 (4 + (IntKind.wrap .i64 ((IntKind.wrap .i64 (1 + (IntKind.wrap .i64 (c.8 * 5)))) + 1)))) + 0)) 0 (BasZRdV.pkV c 7))) (true))))))) (by kernel_rfl) (btf (nfd he) (band hw (band (p_7 hk ho hL) rfl)))
theorem t_pk8_5 (c : Conf) (he : decide (errC (cO 2 c) = 0) = true) (hk : c.OkP) (ho : c.ob = 2) (hw : levIs c.cap c.node 5 = true) (hL : (lvN c.cap c.node : Int) = 5) : runF (cfg [S_check, S_lev5]) 500 6 [(cO 2 c).av, .int .u8 8] (fun w_ => sp_pik5.has w_ && (bif okP (AV.toI (AV.ix w_ 0)) (AV.toI (AV.ix w_ 1)) (pkV c 8) then true else false)) false = true := Eq.trans (b := (br ((!decide ((errC (Conf.mk 2 c.2 c.3 c.4 c.5 c.6 c.7 c.8 c.9 c.10 c.11 c.12)) = 0))) ((br ((!decide ((errC (Conf.mk 2 c.2 c.3 c.4 c.5 c.6 c.7 c.8 c.9 c.10 c.11 c.12)) = 0))) ((ba ((BasZRdV.okP 0 (errC (Conf.mk 2 c.2 c.3 c.4 c.5 c.6 c.7 c.8 c.9 c.10 c.11 c.12)) (BasZRdV.pkV c 8))) (true))) ((ba ((BasZRdV.okP 4 0 (BasZRdV.pkV c 8))) (true))))) ((ba ((BasZLev.levIs c.7 c.8 5)) ((br (decide (c.10 = 0)) (false) ((ba ((BasZRdV.okP (IntKind.wrap .i64 ((IntKind.wrap .i64 (4 + (IntKind.wrap .i64 ((IntKind.wrap .i64 (1 + (IntKind.wrap .i64 (c.8 * 5)))) + c.7)))) + (IntKind.wrap .i64 (Int.tdiv c.7 c.10)))) 0 (BasZRdV.pkV c 8))) (true))))))))) (by kernel_rfl) (btf (nfd he) (band hw (btf (ch_ne hk ho) (band (p_8 hk ho hL) rfl))))
end Go.Bas.BasZPk
end
