/- Contracts: how many picks a reading has; How many picks: configs and kinds that are no reading's: it answers; Contracts: how many picks, whatever is asked for; Known answers of a closed run, each reckoned by the kernel; What law26's alive answers: a closed run; The engine, part Mf: blocks that nobody looks at again are left out of the heap, their numbers asv t; The engine: what a function does at known calls, where they stand: out of a run of its body, or of i; ReadEnds: a reading is over within its picks: the readers' contracts asv the law calls them, the sta; ReadEnds: a round of the law's loop, asv a tree; ReadEnds: the law's loop: it is over within its picks; ReadEnds: the law: whatever a reading sees, it is over within its picks; ReadEnds: the law, over what the row gives; ReadEnds: its row, lifted. -/
import Derived.Test.YteniehfknbiakaaGreatDoorBasW6
import Derived.Test.YteniehfknbiakaaGreatDoorBasW15
import Derived.Test.YteniehfknbiakaaGreatDoorRows
import Derived.Test.YteniehfknbiakaaGreatDoorCards
import Derived.Test.YteniehfknbiakaaGreatDoorTie
import Derived.SevenTiedAt
section
namespace Go.Bas.BasZPk2
open Go.RowKit Go.Proofs
open Go.Bas.BasZBase Go.Bas.BasZOp Go.Bas.BasZRank Go.Bas.BasZLev Go.Bas.BasZRank3 Go.Bas.BasZOk Go.Bas.BasZTreB Go.Bas.BasEnds Go.Bas.BasZRdA Go.Bas.BasZRdL Go.Bas.BasZRdM Go.Bas.BasZRdN Go.Bas.BasZRdP Go.Bas.BasZRb Go.Bas.BasZRdR Go.Bas.BasZRdS Go.Bas.BasZRdV Go.Bas.BasZPk
set_option maxRecDepth 100000
set_option maxHeartbeats 4000000
set_option linter.unusedVariables false
set_option linter.unusedSimpArgs false
/-- A kind that reads, of a config's object. -/
def PkOk (c : Conf) (k : Int) : Prop := errC c = 0 ∧ (k = 3 ∧ c.ob = 1 ∨ k = 11 ∧ c.ob = 3 ∨ k = 14 ∧ c.ob = 4 ∨ (k = 6 ∨ k = 7 ∨ k = 8) ∧ c.ob = 2)
instance (c : Conf) (k : Int) : Decidable (PkOk c k) := by unfold PkOk; infer_instance
theorem okP_of {n e v : Int} (h : okP n e v = true) : n = v ∧ e = 0 := by
  unfold okP at h
  simp only [Bool.and_eq_true, decide_eq_true_eq] at h
  exact h
noncomputable def a_pk (c : Conf) (k : Int) : AV := .tup [.int .i64 (pkV c k), .int .i64 0]
theorem pk_of0 {c : Conf} {k : Int} (h : runF (cfg [S_check]) 500 6 [c.av, .int .u8 k] (fun w_ => sp_pik0.has w_ && (bif okP (AV.toI (AV.ix w_ 0)) (AV.toI (AV.ix w_ 1)) (pkV c k) then true else false)) false = true) : ACalls Tryz.prog (gmap gs) 6 [c.av, .int .u8 k] (fun v => v = a_pk c k) := by
  have r := run_out h
  refine acalls_eq base (sums_cons s_check sums_nil) (n := 500) fun k_ hk => (r.2 k_).trans ?_
  have q := okP_of (of_cond (and_right r.1)).1
  rw [sp_pik0.ok _ (and_left r.1)]
  show k_ (.tup [.int .i64 (AV.toI (AV.ix _ 0)), .int .i64 (AV.toI (AV.ix _ 1))]) = true
  rw [q.1, q.2]
  exact hk
theorem pk_of1 {c : Conf} {k : Int} (h : runF (cfg [S_check, S_lev1]) 500 6 [c.av, .int .u8 k] (fun w_ => sp_pik1.has w_ && (bif okP (AV.toI (AV.ix w_ 0)) (AV.toI (AV.ix w_ 1)) (pkV c k) then true else false)) false = true) : ACalls Tryz.prog (gmap gs) 6 [c.av, .int .u8 k] (fun v => v = a_pk c k) := by
  have r := run_out h
  refine acalls_eq base (sums_cons s_check (sums_cons s_lev1 sums_nil)) (n := 500) fun k_ hk => (r.2 k_).trans ?_
  have q := okP_of (of_cond (and_right r.1)).1
  rw [sp_pik1.ok _ (and_left r.1)]
  show k_ (.tup [.int .i64 (AV.toI (AV.ix _ 0)), .int .i64 (AV.toI (AV.ix _ 1))]) = true
  rw [q.1, q.2]
  exact hk
theorem pk_of2 {c : Conf} {k : Int} (h : runF (cfg [S_check, S_lev2]) 500 6 [c.av, .int .u8 k] (fun w_ => sp_pik2.has w_ && (bif okP (AV.toI (AV.ix w_ 0)) (AV.toI (AV.ix w_ 1)) (pkV c k) then true else false)) false = true) : ACalls Tryz.prog (gmap gs) 6 [c.av, .int .u8 k] (fun v => v = a_pk c k) := by
  have r := run_out h
  refine acalls_eq base (sums_cons s_check (sums_cons s_lev2 sums_nil)) (n := 500) fun k_ hk => (r.2 k_).trans ?_
  have q := okP_of (of_cond (and_right r.1)).1
  rw [sp_pik2.ok _ (and_left r.1)]
  show k_ (.tup [.int .i64 (AV.toI (AV.ix _ 0)), .int .i64 (AV.toI (AV.ix _ 1))]) = true
  rw [q.1, q.2]
  exact hk
theorem pk_of3 {c : Conf} {k : Int} (h : runF (cfg [S_check, S_lev3]) 500 6 [c.av, .int .u8 k] (fun w_ => sp_pik3.has w_ && (bif okP (AV.toI (AV.ix w_ 0)) (AV.toI (AV.ix w_ 1)) (pkV c k) then true else false)) false = true) : ACalls Tryz.prog (gmap gs) 6 [c.av, .int .u8 k] (fun v => v = a_pk c k) := by
  have r := run_out h
  refine acalls_eq base (sums_cons s_check (sums_cons s_lev3 sums_nil)) (n := 500) fun k_ hk => (r.2 k_).trans ?_
  have q := okP_of (of_cond (and_right r.1)).1
  rw [sp_pik3.ok _ (and_left r.1)]
  show k_ (.tup [.int .i64 (AV.toI (AV.ix _ 0)), .int .i64 (AV.toI (AV.ix _ 1))]) = true
  rw [q.1, q.2]
  exact hk
theorem pk_of4 {c : Conf} {k : Int} (h : runF (cfg [S_check, S_lev4]) 500 6 [c.av, .int .u8 k] (fun w_ => sp_pik4.has w_ && (bif okP (AV.toI (AV.ix w_ 0)) (AV.toI (AV.ix w_ 1)) (pkV c k) then true else false)) false = true) : ACalls Tryz.prog (gmap gs) 6 [c.av, .int .u8 k] (fun v => v = a_pk c k) := by
  have r := run_out h
  refine acalls_eq base (sums_cons s_check (sums_cons s_lev4 sums_nil)) (n := 500) fun k_ hk => (r.2 k_).trans ?_
  have q := okP_of (of_cond (and_right r.1)).1
  rw [sp_pik4.ok _ (and_left r.1)]
  show k_ (.tup [.int .i64 (AV.toI (AV.ix _ 0)), .int .i64 (AV.toI (AV.ix _ 1))]) = true
  rw [q.1, q.2]
  exact hk
theorem pk_of5 {c : Conf} {k : Int} (h : runF (cfg [S_check, S_lev5]) 500 6 [c.av, .int .u8 k] (fun w_ => sp_pik5.has w_ && (bif okP (AV.toI (AV.ix w_ 0)) (AV.toI (AV.ix w_ 1)) (pkV c k) then true else false)) false = true) : ACalls Tryz.prog (gmap gs) 6 [c.av, .int .u8 k] (fun v => v = a_pk c k) := by
  have r := run_out h
  refine acalls_eq base (sums_cons s_check (sums_cons s_lev5 sums_nil)) (n := 500) fun k_ hk => (r.2 k_).trans ?_
  have q := okP_of (of_cond (and_right r.1)).1
  rw [sp_pik5.ok _ (and_left r.1)]
  show k_ (.tup [.int .i64 (AV.toI (AV.ix _ 0)), .int .i64 (AV.toI (AV.ix _ 1))]) = true
  rw [q.1, q.2]
  exact hk
theorem pk_ok (c : Conf) (k : Int) (h : PkOk c k) : ACalls Tryz.prog (gmap gs) 6 [c.av, .int .u8 k] (fun v => v = a_pk c k) := by
  obtain ⟨he, h⟩ := h
  have hk := ok_true.1 (of_errC he)
  rcases h with ⟨hK, ho⟩ | ⟨hK, ho⟩ | ⟨hK, ho⟩ | ⟨hK, ho⟩
  · subst hK
    have e := cO_is ho
    have t := t_pk3_0 c
    rw [e] at t
    exact pk_of0 (t (decide_eq_true he) hk ho)
  · subst hK
    have e := cO_is ho
    have t := t_pk11_0 c
    rw [e] at t
    exact pk_of0 (t (decide_eq_true he) hk ho)
  · subst hK
    have e := cO_is ho
    have t := t_pk14_0 c
    rw [e] at t
    exact pk_of0 (t (decide_eq_true he) hk ho)
  · have e := cO_is ho
    have hx := lvN_is (lvk hk ho).1
    rcases (show lvN c.cap c.node = 1 ∨ lvN c.cap c.node = 2 ∨ lvN c.cap c.node = 3 ∨ lvN c.cap c.node = 4 ∨ lvN c.cap c.node = 5 by omega) with hL | hL | hL | hL | hL
    · have hw : levIs c.cap c.node 1 = true := by
        have := hx.1
        rwa [hL] at this
      have hl : (lvN c.cap c.node : Int) = 1 := by rw [hL]; rfl
      rcases hK with hK | hK | hK
      · subst hK
        have t := t_pk6_1 c
        rw [e] at t
        exact pk_of1 (t (decide_eq_true he) hk ho hw hl)
      · subst hK
        have t := t_pk7_1 c
        rw [e] at t
        exact pk_of1 (t (decide_eq_true he) hk ho hw hl)
      · subst hK
        have t := t_pk8_1 c
        rw [e] at t
        exact pk_of1 (t (decide_eq_true he) hk ho hw hl)
    · have hw : levIs c.cap c.node 2 = true := by
        have := hx.1
        rwa [hL] at this
      have hl : (lvN c.cap c.node : Int) = 2 := by rw [hL]; rfl
      rcases hK with hK | hK | hK
      · subst hK
        have t := t_pk6_2 c
        rw [e] at t
        exact pk_of2 (t (decide_eq_true he) hk ho hw hl)
      · subst hK
        have t := t_pk7_2 c
        rw [e] at t
        exact pk_of2 (t (decide_eq_true he) hk ho hw hl)
      · subst hK
        have t := t_pk8_2 c
        rw [e] at t
        exact pk_of2 (t (decide_eq_true he) hk ho hw hl)
    · have hw : levIs c.cap c.node 3 = true := by
        have := hx.1
        rwa [hL] at this
      have hl : (lvN c.cap c.node : Int) = 3 := by rw [hL]; rfl
      rcases hK with hK | hK | hK
      · subst hK
        have t := t_pk6_3 c
        rw [e] at t
        exact pk_of3 (t (decide_eq_true he) hk ho hw hl)
      · subst hK
        have t := t_pk7_3 c
        rw [e] at t
        exact pk_of3 (t (decide_eq_true he) hk ho hw hl)
      · subst hK
        have t := t_pk8_3 c
        rw [e] at t
        exact pk_of3 (t (decide_eq_true he) hk ho hw hl)
    · have hw : levIs c.cap c.node 4 = true := by
        have := hx.1
        rwa [hL] at this
      have hl : (lvN c.cap c.node : Int) = 4 := by rw [hL]; rfl
      rcases hK with hK | hK | hK
      · subst hK
        have t := t_pk6_4 c
        rw [e] at t
        exact pk_of4 (t (decide_eq_true he) hk ho hw hl)
      · subst hK
        have t := t_pk7_4 c
        rw [e] at t
        exact pk_of4 (t (decide_eq_true he) hk ho hw hl)
      · subst hK
        have t := t_pk8_4 c
        rw [e] at t
        exact pk_of4 (t (decide_eq_true he) hk ho hw hl)
    · have hw : levIs c.cap c.node 5 = true := by
        have := hx.1
        rwa [hL] at this
      have hl : (lvN c.cap c.node : Int) = 5 := by rw [hL]; rfl
      rcases hK with hK | hK | hK
      · subst hK
        have t := t_pk6_5 c
        rw [e] at t
        exact pk_of5 (t (decide_eq_true he) hk ho hw hl)
      · subst hK
        have t := t_pk7_5 c
        rw [e] at t
        exact pk_of5 (t (decide_eq_true he) hk ho hw hl)
      · subst hK
        have t := t_pk8_5 c
        rw [e] at t
        exact pk_of5 (t (decide_eq_true he) hk ho hw hl)
end Go.Bas.BasZPk2
end
section
namespace Go.Bas.BasZPkB
open Go.RowKit Go.Proofs
open Go.Bas.BasZBase Go.Bas.BasZOp Go.Bas.BasZRank Go.Bas.BasZLev Go.Bas.BasZRank3 Go.Bas.BasZOk Go.Bas.BasZTreB Go.Bas.BasZTre Go.Bas.BasZBranch Go.Bas.BasZRdA Go.Bas.BasZRdL Go.Bas.BasZRdM Go.Bas.BasZRdN Go.Bas.BasZRdP Go.Bas.BasZRa Go.Bas.BasZRb Go.Bas.BasZRn Go.Bas.BasZRq Go.Bas.BasZFull Go.Bas.BasZRdR Go.Bas.BasZRdS Go.Bas.BasZRank3 Go.Bas.BasZRdV
set_option maxRecDepth 100000
set_option maxHeartbeats 4000000
set_option linter.unusedVariables false
set_option linter.unusedSimpArgs false
noncomputable def S_ofD : Sum := (34, on2 rConf (rI .u8) (fun _ _ => false) (fun _ _ => .nils))
theorem s_ofD : SumOk Tryz.prog (gmap gs) S_ofD := on2_sum fun n w hp => by cases hp
def sp_pib : Sp := sT [sI .i64, sI .i64]
theorem t_pib (c : Conf) (kd : Int) (he : (!decide (errC c = 0)) = true) : runF (cfg [S_check, S_obj, S_ofD]) 500 6 [c.av, .int .u8 kd] sp_pib.has false = true := Eq.trans (b := (br ((!decide ((errC c) = 0))) ((br ((!decide ((errC c) = 0))) (true) ((br (decide ((IntKind.wrap .i64 kd) < 15)) ((ba ((inside kd 15)) ((ba ((Nat.ble ((0 + ((Int.toNat kd) * 1)) + 1) 15)) ((ba ((AV.isB (lget [(AV.bool Bool.false), (AV.bool Bool.true), (AV.bool Bool.true), (AV.bool Bool.false), (AV.bool Bool.true), (AV.bool Bool.true), (AV.bool Bool.false), (AV.bool Bool.false), (AV.bool Bool.false), (AV.bool Bool.true), (AV.bool Bool.true), (AV.bool Bool.false), (AV.bool Bool.true), (AV.bool Bool.true), (AV.bool Bool.false)] (0 + ((Int.toNat kd) * 1))))) ((br ((AV.toB (lget [(AV.bool Bool.false), (AV.bool Bool.true), (AV.bool Bool.true), (AV.bool Bool.false), (AV.bool Bool.true), (AV.bool Bool.true), (AV.bool Bool.false), (AV.bool Bool.false), (AV.bool Bool.false), (AV.bool Bool.true), (AV.bool Bool.true), (AV.bool Bool.false), (AV.bool Bool.true), (AV.bool Bool.true), (AV.bool Bool.false)] (0 + ((Int.toNat kd) * 1))))) (true) (true))))))))) (true))))) ((ba ((ok_obj kd)) ((ba ((!decide ((f_obj_0 kd) = c.1))) (true))))))) (by kernel_rfl) (btb he (btb he rfl))
def sp_pic : Sp := sT [sI .i64, sI .i64]
theorem t_pic (c : Conf) (kd : Int) (he : decide (errC c = 0) = true) (hO : ok_obj kd = true) (hne : (!decide (f_obj_0 kd = c.ob)) = true) : runF (cfg [S_check, S_obj, S_ofD]) 500 6 [c.av, .int .u8 kd] sp_pic.has false = true := Eq.trans (b := (br ((!decide ((errC c) = 0))) ((br ((!decide ((errC c) = 0))) (true) ((br (decide ((IntKind.wrap .i64 kd) < 15)) ((ba ((inside kd 15)) ((ba ((Nat.ble ((0 + ((Int.toNat kd) * 1)) + 1) 15)) ((ba ((AV.isB (lget [(AV.bool Bool.false), (AV.bool Bool.true), (AV.bool Bool.true), (AV.bool Bool.false), (AV.bool Bool.true), (AV.bool Bool.true), (AV.bool Bool.false), (AV.bool Bool.false), (AV.bool Bool.false), (AV.bool Bool.true), (AV.bool Bool.true), (AV.bool Bool.false), (AV.bool Bool.true), (AV.bool Bool.true), (AV.bool Bool.false)] (0 + ((Int.toNat kd) * 1))))) ((br ((AV.toB (lget [(AV.bool Bool.false), (AV.bool Bool.true), (AV.bool Bool.true), (AV.bool Bool.false), (AV.bool Bool.true), (AV.bool Bool.true), (AV.bool Bool.false), (AV.bool Bool.false), (AV.bool Bool.false), (AV.bool Bool.true), (AV.bool Bool.true), (AV.bool Bool.false), (AV.bool Bool.true), (AV.bool Bool.true), (AV.bool Bool.false)] (0 + ((Int.toNat kd) * 1))))) (true) (true))))))))) (true))))) ((ba ((ok_obj kd)) ((ba ((!decide ((f_obj_0 kd) = c.1))) (true))))))) (by kernel_rfl) (btf (nfd he) (band hO (band hne rfl)))
def sp_piw0 : Sp := sT [sI .i64, sI .i64]
theorem t_pw1_0 (c : Conf) (he : decide (errC (cO 1 c) = 0) = true) (hk : c.OkP) (ho : c.ob = 1) : runF (cfg [S_check]) 500 6 [(cO 1 c).av, .int .u8 1] sp_piw0.has false = true := Eq.trans (b := (br ((!decide ((errC (Conf.mk 1 c.2 c.3 c.4 c.5 c.6 c.7 c.8 c.9 c.10 c.11 c.12)) = 0))) ((br ((!decide ((errC (Conf.mk 1 c.2 c.3 c.4 c.5 c.6 c.7 c.8 c.9 c.10 c.11 c.12)) = 0))) (true) (true))) (true))) (by kernel_rfl) (btf (nfd he) rfl)
theorem t_pw2_0 (c : Conf) (he : decide (errC (cO 1 c) = 0) = true) (hk : c.OkP) (ho : c.ob = 1) : runF (cfg [S_check]) 500 6 [(cO 1 c).av, .int .u8 2] sp_piw0.has false = true := Eq.trans (b := (br ((!decide ((errC (Conf.mk 1 c.2 c.3 c.4 c.5 c.6 c.7 c.8 c.9 c.10 c.11 c.12)) = 0))) ((br ((!decide ((errC (Conf.mk 1 c.2 c.3 c.4 c.5 c.6 c.7 c.8 c.9 c.10 c.11 c.12)) = 0))) (true) (true))) (true))) (by kernel_rfl) (btf (nfd he) rfl)
theorem t_pw9_0 (c : Conf) (he : decide (errC (cO 3 c) = 0) = true) (hk : c.OkP) (ho : c.ob = 3) : runF (cfg [S_check]) 500 6 [(cO 3 c).av, .int .u8 9] sp_piw0.has false = true := Eq.trans (b := (br ((!decide ((errC (Conf.mk 3 c.2 c.3 c.4 c.5 c.6 c.7 c.8 c.9 c.10 c.11 c.12)) = 0))) ((br ((!decide ((errC (Conf.mk 3 c.2 c.3 c.4 c.5 c.6 c.7 c.8 c.9 c.10 c.11 c.12)) = 0))) (true) (true))) (true))) (by kernel_rfl) (btf (nfd he) rfl)
theorem t_pw10_0 (c : Conf) (he : decide (errC (cO 3 c) = 0) = true) (hk : c.OkP) (ho : c.ob = 3) : runF (cfg [S_check]) 500 6 [(cO 3 c).av, .int .u8 10] sp_piw0.has false = true := Eq.trans (b := (br ((!decide ((errC (Conf.mk 3 c.2 c.3 c.4 c.5 c.6 c.7 c.8 c.9 c.10 c.11 c.12)) = 0))) ((br ((!decide ((errC (Conf.mk 3 c.2 c.3 c.4 c.5 c.6 c.7 c.8 c.9 c.10 c.11 c.12)) = 0))) (true) (true))) (true))) (by kernel_rfl) (btf (nfd he) rfl)
theorem t_pw12_0 (c : Conf) (he : decide (errC (cO 4 c) = 0) = true) (hk : c.OkP) (ho : c.ob = 4) : runF (cfg [S_check]) 500 6 [(cO 4 c).av, .int .u8 12] sp_piw0.has false = true := Eq.trans (b := (br ((!decide ((errC (Conf.mk 4 c.2 c.3 c.4 c.5 c.6 c.7 c.8 c.9 c.10 c.11 c.12)) = 0))) ((br ((!decide ((errC (Conf.mk 4 c.2 c.3 c.4 c.5 c.6 c.7 c.8 c.9 c.10 c.11 c.12)) = 0))) (true) (true))) (true))) (by kernel_rfl) (btf (nfd he) rfl)
theorem t_pw13_0 (c : Conf) (he : decide (errC (cO 4 c) = 0) = true) (hk : c.OkP) (ho : c.ob = 4) : runF (cfg [S_check]) 500 6 [(cO 4 c).av, .int .u8 13] sp_piw0.has false = true := Eq.trans (b := (br ((!decide ((errC (Conf.mk 4 c.2 c.3 c.4 c.5 c.6 c.7 c.8 c.9 c.10 c.11 c.12)) = 0))) ((br ((!decide ((errC (Conf.mk 4 c.2 c.3 c.4 c.5 c.6 c.7 c.8 c.9 c.10 c.11 c.12)) = 0))) (true) (true))) (true))) (by kernel_rfl) (btf (nfd he) rfl)
def sp_piw1 : Sp := sT [sI .i64, sI .i64]
theorem t_pw4_1 (c : Conf) (he : decide (errC (cO 2 c) = 0) = true) (hk : c.OkP) (ho : c.ob = 2) (hw : levIs c.cap c.node 1 = true) : runF (cfg [S_check, S_lev1]) 500 6 [(cO 2 c).av, .int .u8 4] sp_piw1.has false = true := Eq.trans (b := (br ((!decide ((errC (Conf.mk 2 c.2 c.3 c.4 c.5 c.6 c.7 c.8 c.9 c.10 c.11 c.12)) = 0))) ((br ((!decide ((errC (Conf.mk 2 c.2 c.3 c.4 c.5 c.6 c.7 c.8 c.9 c.10 c.11 c.12)) = 0))) (true) (true))) ((ba ((BasZLev.levIs c.7 c.8 1)) (true))))) (by kernel_rfl) (btf (nfd he) (band hw rfl))
theorem t_pw5_1 (c : Conf) (he : decide (errC (cO 2 c) = 0) = true) (hk : c.OkP) (ho : c.ob = 2) (hw : levIs c.cap c.node 1 = true) : runF (cfg [S_check, S_lev1]) 500 6 [(cO 2 c).av, .int .u8 5] sp_piw1.has false = true := Eq.trans (b := (br ((!decide ((errC (Conf.mk 2 c.2 c.3 c.4 c.5 c.6 c.7 c.8 c.9 c.10 c.11 c.12)) = 0))) ((br ((!decide ((errC (Conf.mk 2 c.2 c.3 c.4 c.5 c.6 c.7 c.8 c.9 c.10 c.11 c.12)) = 0))) (true) (true))) ((ba ((BasZLev.levIs c.7 c.8 1)) (true))))) (by kernel_rfl) (btf (nfd he) (band hw rfl))
def sp_piw2 : Sp := sT [sI .i64, sI .i64]
theorem t_pw4_2 (c : Conf) (he : decide (errC (cO 2 c) = 0) = true) (hk : c.OkP) (ho : c.ob = 2) (hw : levIs c.cap c.node 2 = true) : runF (cfg [S_check, S_lev2]) 500 6 [(cO 2 c).av, .int .u8 4] sp_piw2.has false = true := Eq.trans (b := (br ((!decide ((errC (Conf.mk 2 c.2 c.3 c.4 c.5 c.6 c.7 c.8 c.9 c.10 c.11 c.12)) = 0))) ((br ((!decide ((errC (Conf.mk 2 c.2 c.3 c.4 c.5 c.6 c.7 c.8 c.9 c.10 c.11 c.12)) = 0))) (true) (true))) ((ba ((BasZLev.levIs c.7 c.8 2)) (true))))) (by kernel_rfl) (btf (nfd he) (band hw rfl))
theorem t_pw5_2 (c : Conf) (he : decide (errC (cO 2 c) = 0) = true) (hk : c.OkP) (ho : c.ob = 2) (hw : levIs c.cap c.node 2 = true) : runF (cfg [S_check, S_lev2]) 500 6 [(cO 2 c).av, .int .u8 5] sp_piw2.has false = true := Eq.trans (b := (br ((!decide ((errC (Conf.mk 2 c.2 c.3 c.4 c.5 c.6 c.7 c.8 c.9 c.10 c.11 c.12)) = 0))) ((br ((!decide ((errC (Conf.mk 2 c.2 c.3 c.4 c.5 c.6 c.7 c.8 c.9 c.10 c.11 c.12)) = 0))) (true) (true))) ((ba ((BasZLev.levIs c.7 c.8 2)) (true))))) (by kernel_rfl) (btf (nfd he) (band hw rfl))
def sp_piw3 : Sp := sT [sI .i64, sI .i64]
theorem t_pw4_3 (c : Conf) (he : decide (errC (cO 2 c) = 0) = true) (hk : c.OkP) (ho : c.ob = 2) (hw : levIs c.cap c.node 3 = true) : runF (cfg [S_check, S_lev3]) 500 6 [(cO 2 c).av, .int .u8 4] sp_piw3.has false = true := Eq.trans (b := (br ((!decide ((errC (Conf.mk 2 c.2 c.3 c.4 c.5 c.6 c.7 c.8 c.9 c.10 c.11 c.12)) = 0))) ((br ((!decide ((errC (Conf.mk 2 c.2 c.3 c.4 c.5 c.6 c.7 c.8 c.9 c.10 c.11 c.12)) = 0))) (true) (true))) ((ba ((BasZLev.levIs c.7 c.8 3)) (true))))) (by kernel_rfl) (btf (nfd he) (band hw rfl))
theorem t_pw5_3 (c : Conf) (he : decide (errC (cO 2 c) = 0) = true) (hk : c.OkP) (ho : c.ob = 2) (hw : levIs c.cap c.node 3 = true) : runF (cfg [S_check, S_lev3]) 500 6 [(cO 2 c).av, .int .u8 5] sp_piw3.has false = true := Eq.trans (b := (br ((!decide ((errC (Conf.mk 2 c.2 c.3 c.4 c.5 c.6 c.7 c.8 c.9 c.10 c.11 c.12)) = 0))) ((br ((!decide ((errC (Conf.mk 2 c.2 c.3 c.4 c.5 c.6 c.7 c.8 c.9 c.10 c.11 c.12)) = 0))) (true) (true))) ((ba ((BasZLev.levIs c.7 c.8 3)) (true))))) (by kernel_rfl) (btf (nfd he) (band hw rfl))
def sp_piw4 : Sp := sT [sI .i64, sI .i64]
theorem t_pw4_4 (c : Conf) (he : decide (errC (cO 2 c) = 0) = true) (hk : c.OkP) (ho : c.ob = 2) (hw : levIs c.cap c.node 4 = true) : runF (cfg [S_check, S_lev4]) 500 6 [(cO 2 c).av, .int .u8 4] sp_piw4.has false = true := Eq.trans (b := (br ((!decide ((errC (Conf.mk 2 c.2 c.3 c.4 c.5 c.6 c.7 c.8 c.9 c.10 c.11 c.12)) = 0))) ((br ((!decide ((errC (Conf.mk 2 c.2 c.3 c.4 c.5 c.6 c.7 c.8 c.9 c.10 c.11 c.12)) = 0))) (true) (true))) ((ba ((BasZLev.levIs c.7 c.8 4)) (true))))) (by kernel_rfl) (btf (nfd he) (band hw rfl))
theorem t_pw5_4 (c : Conf) (he : decide (errC (cO 2 c) = 0) = true) (hk : c.OkP) (ho : c.ob = 2) (hw : levIs c.cap c.node 4 = true) : runF (cfg [S_check, S_lev4]) 500 6 [(cO 2 c).av, .int .u8 5] sp_piw4.has false = true := Eq.trans (b := (br ((!decide ((errC (Conf.mk 2 c.2 c.3 c.4 c.5 c.6 c.7 c.8 c.9 c.10 c.11 c.12)) = 0))) ((br ((!decide ((errC (Conf.mk 2 c.2 c.3 c.4 c.5 c.6 c.7 c.8 c.9 c.10 c.11 c.12)) = 0))) (true) (true))) ((ba ((BasZLev.levIs c.7 c.8 4)) (true))))) (by kernel_rfl) (btf (nfd he) (band hw rfl))
def sp_piw5 : Sp := sT [sI .i64, sI .i64]
theorem t_pw4_5 (c : Conf) (he : decide (errC (cO 2 c) = 0) = true) (hk : c.OkP) (ho : c.ob = 2) (hw : levIs c.cap c.node 5 = true) : runF (cfg [S_check, S_lev5]) 500 6 [(cO 2 c).av, .int .u8 4] sp_piw5.has false = true := Eq.trans (b := (br ((!decide ((errC (Conf.mk 2 c.2 c.3 c.4 c.5 c.6 c.7 c.8 c.9 c.10 c.11 c.12)) = 0))) ((br ((!decide ((errC (Conf.mk 2 c.2 c.3 c.4 c.5 c.6 c.7 c.8 c.9 c.10 c.11 c.12)) = 0))) (true) (true))) ((ba ((BasZLev.levIs c.7 c.8 5)) (true))))) (by kernel_rfl) (btf (nfd he) (band hw rfl))
theorem t_pw5_5 (c : Conf) (he : decide (errC (cO 2 c) = 0) = true) (hk : c.OkP) (ho : c.ob = 2) (hw : levIs c.cap c.node 5 = true) : runF (cfg [S_check, S_lev5]) 500 6 [(cO 2 c).av, .int .u8 5] sp_piw5.has false = true := Eq.trans (b := (br ((!decide ((errC (Conf.mk 2 c.2 c.3 c.4 c.5 c.6 c.7 c.8 c.9 c.10 c.11 c.12)) = 0))) ((br ((!decide ((errC (Conf.mk 2 c.2 c.3 c.4 c.5 c.6 c.7 c.8 c.9 c.10 c.11 c.12)) = 0))) (true) (true))) ((ba ((BasZLev.levIs c.7 c.8 5)) (true))))) (by kernel_rfl) (btf (nfd he) (band hw rfl))
end Go.Bas.BasZPkB
end
section
namespace Go.Bas.BasZPk3
open Go.RowKit Go.Proofs
open Go.Bas.BasZBase Go.Bas.BasZOp Go.Bas.BasZRank Go.Bas.BasZLev Go.Bas.BasZRank3 Go.Bas.BasZOk Go.Bas.BasZTreB Go.Bas.BasEnds Go.Bas.BasZRdA Go.Bas.BasZRdL Go.Bas.BasZRdM Go.Bas.BasZRdN Go.Bas.BasZRdP Go.Bas.BasZRb Go.Bas.BasZRdR Go.Bas.BasZRdS Go.Bas.BasZRdV Go.Bas.BasZPk2 Go.Bas.BasZPkB
set_option maxRecDepth 100000
set_option maxHeartbeats 4000000
set_option linter.unusedVariables false
set_option linter.unusedSimpArgs false
theorem obj_all {n : Int} (h0 : 0 ≤ n) (h1 : n ≤ 255) : (n = 0 ∨ 15 ≤ n) ∧ f_obj_0 n = 0 ∨ (n = 1 ∨ n = 2 ∨ n = 3) ∧ f_obj_0 n = 1 ∨ (n = 4 ∨ n = 5 ∨ n = 6 ∨ n = 7 ∨ n = 8) ∧ f_obj_0 n = 2 ∨ (n = 9 ∨ n = 10 ∨ n = 11) ∧ f_obj_0 n = 3 ∨ (n = 12 ∨ n = 13 ∨ n = 14) ∧ f_obj_0 n = 4 := by
  by_cases hn : n < 15
  · have t0 : f_obj_0 0 = 0 := by kernel_rfl
    have t1 : f_obj_0 1 = 1 := by kernel_rfl
    have t2 : f_obj_0 2 = 1 := by kernel_rfl
    have t3 : f_obj_0 3 = 1 := by kernel_rfl
    have t4 : f_obj_0 4 = 2 := by kernel_rfl
    have t5 : f_obj_0 5 = 2 := by kernel_rfl
    have t6 : f_obj_0 6 = 2 := by kernel_rfl
    have t7 : f_obj_0 7 = 2 := by kernel_rfl
    have t8 : f_obj_0 8 = 2 := by kernel_rfl
    have t9 : f_obj_0 9 = 3 := by kernel_rfl
    have t10 : f_obj_0 10 = 3 := by kernel_rfl
    have t11 : f_obj_0 11 = 3 := by kernel_rfl
    have t12 : f_obj_0 12 = 4 := by kernel_rfl
    have t13 : f_obj_0 13 = 4 := by kernel_rfl
    have t14 : f_obj_0 14 = 4 := by kernel_rfl
    rcases (show n = 0 ∨ n = 1 ∨ n = 2 ∨ n = 3 ∨ n = 4 ∨ n = 5 ∨ n = 6 ∨ n = 7 ∨ n = 8 ∨ n = 9 ∨ n = 10 ∨ n = 11 ∨ n = 12 ∨ n = 13 ∨ n = 14 by omega) with rfl | rfl | rfl | rfl | rfl | rfl | rfl | rfl | rfl | rfl | rfl | rfl | rfl | rfl | rfl <;> omega
  · have e : decide (IntKind.wrap .i64 n ≥ 15) = true := by rw [wi h0 h1]; exact decide_eq_true (by omega)
    have : f_obj_0 n = 0 := by
      unfold f_obj_0 T_obj
      rw [e]
      rfl
    exact .inl ⟨.inr (by omega), this⟩
def Tup2 (c : Conf) (k : Int) : Prop := ∃ p : Int × Int, ACalls Tryz.prog (gmap gs) 6 [c.av, .int .u8 k] (fun v => v = .tup [.int .i64 p.1, .int .i64 p.2])
theorem t_has {c : Conf} {k : Int} {l : List Sum} (hl : ∀ s ∈ l, SumOk Tryz.prog (gmap gs) s) (h : runF (cfg l) 500 6 [c.av, .int .u8 k] (sT [sI .i64, sI .i64]).has false = true) : Tup2 c k := ⟨(_, _), acalls_out base hl (n := 500) (sT [sI .i64, sI .i64]) h⟩
theorem pk_any (c : Conf) (k : Int) (h0 : 0 ≤ k) (h1 : k ≤ 255) (hn : ¬ PkOk c k) : Tup2 c k := by
  by_cases he : errC c = 0
  · have hk := ok_true.1 (of_errC he)
    have hob : 1 ≤ c.ob ∧ c.ob ≤ 4 := by have h := hk; unfold Conf.OkP at h; omega
    by_cases ho : f_obj_0 k = c.ob
    · rcases obj_all h0 h1 with ⟨a, b⟩ | ⟨a, b⟩ | ⟨a, b⟩ | ⟨a, b⟩ | ⟨a, b⟩
      · omega
      · have ho2 : c.ob = 1 := by omega
        have e := cO_is ho2
        rcases a with a | a | a
        · subst a
          have t := t_pw1_0 c
          rw [e] at t
          exact t_has (sums_cons s_check sums_nil) (t (decide_eq_true he) hk ho2)
        · subst a
          have t := t_pw2_0 c
          rw [e] at t
          exact t_has (sums_cons s_check sums_nil) (t (decide_eq_true he) hk ho2)
        · exact absurd ⟨he, .inl ⟨a, ho2⟩⟩ hn
      · have ho2 : c.ob = 2 := by omega
        have e := cO_is ho2
        have hx := lvN_is (lvk hk ho2).1
        by_cases hw : k = 4 ∨ k = 5
        · rcases (show lvN c.cap c.node = 1 ∨ lvN c.cap c.node = 2 ∨ lvN c.cap c.node = 3 ∨ lvN c.cap c.node = 4 ∨ lvN c.cap c.node = 5 by omega) with hL | hL | hL | hL | hL
          · have hw1 : levIs c.cap c.node 1 = true := by
              have := hx.1
              rwa [hL] at this
            rcases hw with hw | hw
            · subst hw
              have t := t_pw4_1 c
              rw [e] at t
              exact t_has (sums_cons s_check (sums_cons s_lev1 sums_nil)) (t (decide_eq_true he) hk ho2 hw1)
            · subst hw
              have t := t_pw5_1 c
              rw [e] at t
              exact t_has (sums_cons s_check (sums_cons s_lev1 sums_nil)) (t (decide_eq_true he) hk ho2 hw1)
          · have hw1 : levIs c.cap c.node 2 = true := by
              have := hx.1
              rwa [hL] at this
            rcases hw with hw | hw
            · subst hw
              have t := t_pw4_2 c
              rw [e] at t
              exact t_has (sums_cons s_check (sums_cons s_lev2 sums_nil)) (t (decide_eq_true he) hk ho2 hw1)
            · subst hw
              have t := t_pw5_2 c
              rw [e] at t
              exact t_has (sums_cons s_check (sums_cons s_lev2 sums_nil)) (t (decide_eq_true he) hk ho2 hw1)
          · have hw1 : levIs c.cap c.node 3 = true := by
              have := hx.1
              rwa [hL] at this
            rcases hw with hw | hw
            · subst hw
              have t := t_pw4_3 c
              rw [e] at t
              exact t_has (sums_cons s_check (sums_cons s_lev3 sums_nil)) (t (decide_eq_true he) hk ho2 hw1)
            · subst hw
              have t := t_pw5_3 c
              rw [e] at t
              exact t_has (sums_cons s_check (sums_cons s_lev3 sums_nil)) (t (decide_eq_true he) hk ho2 hw1)
          · have hw1 : levIs c.cap c.node 4 = true := by
              have := hx.1
              rwa [hL] at this
            rcases hw with hw | hw
            · subst hw
              have t := t_pw4_4 c
              rw [e] at t
              exact t_has (sums_cons s_check (sums_cons s_lev4 sums_nil)) (t (decide_eq_true he) hk ho2 hw1)
            · subst hw
              have t := t_pw5_4 c
              rw [e] at t
              exact t_has (sums_cons s_check (sums_cons s_lev4 sums_nil)) (t (decide_eq_true he) hk ho2 hw1)
          · have hw1 : levIs c.cap c.node 5 = true := by
              have := hx.1
              rwa [hL] at this
            rcases hw with hw | hw
            · subst hw
              have t := t_pw4_5 c
              rw [e] at t
              exact t_has (sums_cons s_check (sums_cons s_lev5 sums_nil)) (t (decide_eq_true he) hk ho2 hw1)
            · subst hw
              have t := t_pw5_5 c
              rw [e] at t
              exact t_has (sums_cons s_check (sums_cons s_lev5 sums_nil)) (t (decide_eq_true he) hk ho2 hw1)
        · exact absurd ⟨he, .inr (.inr (.inr ⟨by omega, ho2⟩))⟩ hn
      · have ho2 : c.ob = 3 := by omega
        have e := cO_is ho2
        rcases a with a | a | a
        · subst a
          have t := t_pw9_0 c
          rw [e] at t
          exact t_has (sums_cons s_check sums_nil) (t (decide_eq_true he) hk ho2)
        · subst a
          have t := t_pw10_0 c
          rw [e] at t
          exact t_has (sums_cons s_check sums_nil) (t (decide_eq_true he) hk ho2)
        · exact absurd ⟨he, .inr (.inl ⟨a, ho2⟩)⟩ hn
      · have ho2 : c.ob = 4 := by omega
        have e := cO_is ho2
        rcases a with a | a | a
        · subst a
          have t := t_pw12_0 c
          rw [e] at t
          exact t_has (sums_cons s_check sums_nil) (t (decide_eq_true he) hk ho2)
        · subst a
          have t := t_pw13_0 c
          rw [e] at t
          exact t_has (sums_cons s_check sums_nil) (t (decide_eq_true he) hk ho2)
        · exact absurd ⟨he, .inr (.inr (.inl ⟨a, ho2⟩))⟩ hn
    · exact t_has (sums_cons s_check (sums_cons s_obj (sums_cons s_ofD sums_nil))) (t_pic c k (decide_eq_true he) (ok_obj_pos h0 h1) (by rw [decide_eq_false ho]; rfl))
  · exact t_has (sums_cons s_check (sums_cons s_obj (sums_cons s_ofD sums_nil))) (t_pib c k (by rw [decide_eq_false he]; rfl))
theorem pk_ex (c : Conf) (k : Int) (h0 : 0 ≤ k) (h1 : k ≤ 255) : ∃ p : Int × Int, ACalls Tryz.prog (gmap gs) 6 [c.av, .int .u8 k] (fun v => v = .tup [.int .i64 p.1, .int .i64 p.2]) ∧ (PkOk c k → p.1 = pkV c k ∧ p.2 = 0) := by
  by_cases hn : PkOk c k
  · exact ⟨(pkV c k, 0), pk_ok c k hn, fun _ => ⟨rfl, rfl⟩⟩
  · obtain ⟨p, hp⟩ := pk_any c k h0 h1 hn
    exact ⟨p, hp, fun h => absurd h hn⟩
open Classical in
noncomputable def pkP (c : Conf) (k : Int) : Int × Int := if h : 0 ≤ k ∧ k ≤ 255 then Classical.choose (pk_ex c k h.1 h.2) else (0, 0)
noncomputable def pkA (c : Conf) (k : Int) : Int := (pkP c k).1
noncomputable def pkB (c : Conf) (k : Int) : Int := (pkP c k).2
theorem pkP_is {c : Conf} {k : Int} (h : 0 ≤ k ∧ k ≤ 255) : ACalls Tryz.prog (gmap gs) 6 [c.av, .int .u8 k] (fun v => v = .tup [.int .i64 (pkA c k), .int .i64 (pkB c k)]) ∧ (PkOk c k → pkA c k = pkV c k ∧ pkB c k = 0) := by
  unfold pkA pkB pkP
  rw [dif_pos h]
  exact Classical.choose_spec (pk_ex c k h.1 h.2)
noncomputable def S_pkT : Sum := (6, on2 rConf (rI .u8) (fun c k => decide (0 ≤ k) && decide (k ≤ 255)) (fun c k => .tup [.int .i64 (pkA c k), .int .i64 (pkB c k)]))
theorem s_pkT : SumOk Tryz.prog (gmap gs) S_pkT := on2_sum fun c k hp => (pkP_is ⟨of_decide_eq_true (and_left hp), of_decide_eq_true (and_right hp)⟩).1
end Go.Bas.BasZPk3
end
section
namespace Go.Bas.BasReadAlive
open Go.RowKit Go.Proofs Go.Bas.BasZBase
set_option linter.unusedVariables false
set_option maxRecDepth 100000
def x (n : Int) : AV := .int .i64 n
def y (n : Int) : AV := .int .u8 n
def w (n : Int) : AV := .int .u32 n
def u (n : Int) : AV := .int .u64 n
def a0 : AV := .agg [y 3, x 2, x 3, y 1, x 0, x 0, x 4, x 0, x 2, x 0, u 131072, u 0]
def a1 : AV := .agg [y 11, w 1, w 7, w 0]
def a2 : AV := .agg [y 11, w 1, w 7, y 0, y 0, y 0, y 0, y 0, y 0, w 0, w 0]
def a3 : AV := .agg [y 1, x 0, x 0, u 0, y 11, w 1, w 7, y 0, y 0, y 0, y 0, y 0, y 0, w 0, w 0, x 0, w 0, .nils, x 0]
def a4 : AV := .agg [y 1, x 0, u 0, u 0, u 0, x 0, w 0]
def a5 : AV := .agg [u 0, u 0, u 0, u 0]
def a6 : AV := .agg [y 2, x 0, x 0, u 0, y 11, w 1, w 7, y 0, y 0, y 0, y 0, y 0, y 0, w 0, w 0, x 0, w 0, .ns, x 0]
def a7 : AV := .agg [y 2, x 10, u 0, u 0, u 0, u 0, u 0, u 1, u 0, u 0]
def a8 : AV := .agg [y 3, x 0, x 0, u 0, y 11, w 1, w 7, y 0, y 0, y 0, y 0, y 0, y 0, w 0, w 0, x 0, w 0, .ns, x 0]
def a9 : AV := .agg [y 4, x 0, x 0, u 0, y 11, w 1, w 7, y 0, y 0, y 0, y 0, y 0, y 0, w 0, w 0, x 0, w 0, .ns, x 0]
def a10 : AV := .agg [y 11, w 1, w 7, y 0, y 1, y 0, y 0, y 0, y 0, w 0, w 0]
def a11 : AV := .agg [y 1, x 1, u 0, u 0, u 0, x 0, w 0]
def a12 : AV := .agg [y 4, x 0, x 0, u 0, y 11, w 1, w 7, y 0, y 1, y 0, y 0, y 0, y 0, w 0, w 0, x 0, w 0, .ns, x 0]
def a13 : AV := .agg [y 11, w 1, w 7, y 0, y 2, y 0, y 0, y 0, y 0, w 0, w 0]
def a14 : AV := .agg [y 1, x 2, u 0, u 0, u 0, x 0, w 0]
def a15 : AV := .agg [y 4, x 0, x 0, u 0, y 11, w 1, w 7, y 0, y 2, y 0, y 0, y 0, y 0, w 0, w 0, x 0, w 0, .ns, x 0]
def a16 : AV := .agg [y 11, w 1, w 7, y 0, y 3, y 0, y 0, y 0, y 0, w 0, w 0]
def a17 : AV := .agg [y 1, x 3, u 0, u 0, u 0, x 0, w 0]
def a18 : AV := .agg [y 4, x 0, x 0, u 0, y 11, w 1, w 7, y 0, y 3, y 0, y 0, y 0, y 0, w 0, w 0, x 0, w 0, .ns, x 0]
def a19 : AV := .agg [y 11, w 1, w 7, y 20, y 3, y 0, y 0, y 0, y 0, w 0, w 0]
def a20 : AV := .agg [y 4, x 0, u 0, u 0, u 0, x 0, w 0]
def a21 : AV := .agg [y 6, x 0, x 0, u 0, y 11, w 1, w 7, y 20, y 3, y 0, y 0, y 0, y 0, w 0, w 0, x 0, w 0, .ns, x 0]
def a22 : AV := .agg [y 2, x 10, u 0, u 0, u 0, u 0, u 0, u 0, u 0, u 0]
noncomputable abbrev c31 : Cfg := ⟨Tryz.prog, gmap gs, lookS [], fun _ => false, fun _ => none⟩
def A31_0 : List AV := [a0]
def R31_0 : AV := x 0
theorem m31_0 (k : AV → Bool) : runF c31 200000 31 A31_0 k false = k R31_0 := by kernel_rfl
theorem q31_0 : ACalls Tryz.prog (gmap gs) 31 A31_0 (fun v => v = R31_0) := acalls_eq base sums_nil fun k hk => (m31_0 k).trans hk
def M31 : List (Nat × List AV × AV) := [(261732842023329911, A31_0, R31_0)]
theorem s31 : SumOk Tryz.prog (gmap gs) (31, memoH M31) := memoH_sum (memoH_cons q31_0 memoH_nil)
noncomputable abbrev c32 : Cfg := ⟨Tryz.prog, gmap gs, lookS [], fun _ => false, fun _ => none⟩
def A32_0 : List AV := [y 11]
def R32_0 : AV := y 3
theorem m32_0 (k : AV → Bool) : runF c32 200000 32 A32_0 k false = k R32_0 := by kernel_rfl
theorem q32_0 : ACalls Tryz.prog (gmap gs) 32 A32_0 (fun v => v = R32_0) := acalls_eq base sums_nil fun k hk => (m32_0 k).trans hk
def M32 : List (Nat × List AV × AV) := [(18, A32_0, R32_0)]
theorem s32 : SumOk Tryz.prog (gmap gs) (32, memoH M32) := memoH_sum (memoH_cons q32_0 memoH_nil)
noncomputable abbrev c14 : Cfg := ⟨Tryz.prog, gmap gs, lookS [(31, memoH M31), (32, memoH M32)], fun _ => false, fun _ => none⟩
def A14_0 : List AV := [a0, a1]
def R14_0 : AV := x 0
theorem m14_0 (k : AV → Bool) : runF c14 200000 14 A14_0 k false = k R14_0 := by kernel_rfl
theorem q14_0 : ACalls Tryz.prog (gmap gs) 14 A14_0 (fun v => v = R14_0) := acalls_eq base (sums_cons s31 (sums_cons s32 sums_nil)) fun k hk => (m14_0 k).trans hk
def M14 : List (Nat × List AV × AV) := [(17949879180025633, A14_0, R14_0)]
theorem s14 : SumOk Tryz.prog (gmap gs) (14, memoH M14) := memoH_sum (memoH_cons q14_0 memoH_nil)
noncomputable abbrev c15 : Cfg := ⟨Tryz.prog, gmap gs, lookS [], fun _ => false, fun _ => none⟩
def A15_0 : List AV := [y 11]
def R15_0 : AV := .bool false
theorem m15_0 (k : AV → Bool) : runF c15 200000 15 A15_0 k false = k R15_0 := by kernel_rfl
theorem q15_0 : ACalls Tryz.prog (gmap gs) 15 A15_0 (fun v => v = R15_0) := acalls_eq base sums_nil fun k hk => (m15_0 k).trans hk
def M15 : List (Nat × List AV × AV) := [(18, A15_0, R15_0)]
theorem s15 : SumOk Tryz.prog (gmap gs) (15, memoH M15) := memoH_sum (memoH_cons q15_0 memoH_nil)
noncomputable abbrev c16 : Cfg := ⟨Tryz.prog, gmap gs, lookS [], fun _ => false, fun _ => none⟩
def A16_0 : List AV := [a1]
def R16_0 : AV := a2
theorem m16_0 (k : AV → Bool) : runF c16 200000 16 A16_0 k false = k R16_0 := by kernel_rfl
theorem q16_0 : ACalls Tryz.prog (gmap gs) 16 A16_0 (fun v => v = R16_0) := acalls_eq base sums_nil fun k hk => (m16_0 k).trans hk
def M16 : List (Nat × List AV × AV) := [(544367, A16_0, R16_0)]
theorem s16 : SumOk Tryz.prog (gmap gs) (16, memoH M16) := memoH_sum (memoH_cons q16_0 memoH_nil)
noncomputable abbrev c5 : Cfg := ⟨Tryz.prog, gmap gs, lookS [(14, memoH M14), (15, memoH M15), (16, memoH M16)], fun _ => false, fun _ => none⟩
def A5_0 : List AV := [a0, a1]
def R5_0 : AV := .tup [a3, x 0]
theorem m5_0 (k : AV → Bool) : runF c5 200000 5 A5_0 k false = k R5_0 := by kernel_rfl
theorem q5_0 : ACalls Tryz.prog (gmap gs) 5 A5_0 (fun v => v = R5_0) := acalls_eq base (sums_cons s14 (sums_cons s15 (sums_cons s16 sums_nil))) fun k hk => (m5_0 k).trans hk
def M5 : List (Nat × List AV × AV) := [(17949879180025633, A5_0, R5_0)]
theorem s5 : SumOk Tryz.prog (gmap gs) (5, memoH M5) := memoH_sum (memoH_cons q5_0 memoH_nil)
noncomputable abbrev c40 : Cfg := ⟨Tryz.prog, gmap gs, lookS [], fun _ => false, fun _ => none⟩
def A40_0 : List AV := [a0]
def R40_0 : AV := x 4
theorem m40_0 (k : AV → Bool) : runF c40 200000 40 A40_0 k false = k R40_0 := by kernel_rfl
theorem q40_0 : ACalls Tryz.prog (gmap gs) 40 A40_0 (fun v => v = R40_0) := acalls_eq base sums_nil fun k hk => (m40_0 k).trans hk
def M40 : List (Nat × List AV × AV) := [(261732842023329911, A40_0, R40_0)]
theorem s40 : SumOk Tryz.prog (gmap gs) (40, memoH M40) := memoH_sum (memoH_cons q40_0 memoH_nil)
noncomputable abbrev c20 : Cfg := ⟨Tryz.prog, gmap gs, lookS [(31, memoH M31), (40, memoH M40)], fun _ => false, fun _ => none⟩
theorem l20 : ∀ s ∈ ([(31, memoH M31), (40, memoH M40)] : List Sum), SumOk Tryz.prog (gmap gs) s := (sums_cons s31 (sums_cons s40 sums_nil))
def A20_0 : List AV := [a0, .agg [y 1, x 0, x 0]]
def R20_0 : AV := .tup [x 0, x 0]
theorem m20_0 (k : AV → Bool) : runF c20 200000 20 A20_0 k false = k R20_0 := by kernel_rfl
theorem q20_0 : ACalls Tryz.prog (gmap gs) 20 A20_0 (fun v => v = R20_0) := acalls_eq base l20 fun k hk => (m20_0 k).trans hk
def A20_1 : List AV := [a0, .agg [y 6, x 0, x 1]]
def R20_1 : AV := .tup [x 10, x 0]
theorem m20_1 (k : AV → Bool) : runF c20 200000 20 A20_1 k false = k R20_1 := by kernel_rfl
theorem q20_1 : ACalls Tryz.prog (gmap gs) 20 A20_1 (fun v => v = R20_1) := acalls_eq base l20 fun k hk => (m20_1 k).trans hk
def A20_2 : List AV := [a0, .agg [y 2, x 0, x 0]]
def R20_2 : AV := .tup [x 1, x 0]
theorem m20_2 (k : AV → Bool) : runF c20 200000 20 A20_2 k false = k R20_2 := by kernel_rfl
theorem q20_2 : ACalls Tryz.prog (gmap gs) 20 A20_2 (fun v => v = R20_2) := acalls_eq base l20 fun k hk => (m20_2 k).trans hk
def A20_3 : List AV := [a0, .agg [y 10, x 0, x 0]]
def R20_3 : AV := .tup [x 16, x 0]
theorem m20_3 (k : AV → Bool) : runF c20 200000 20 A20_3 k false = k R20_3 := by kernel_rfl
theorem q20_3 : ACalls Tryz.prog (gmap gs) 20 A20_3 (fun v => v = R20_3) := acalls_eq base l20 fun k hk => (m20_3 k).trans hk
def A20_4 : List AV := [a0, .agg [y 10, x 0, x 1]]
def R20_4 : AV := .tup [x 17, x 0]
theorem m20_4 (k : AV → Bool) : runF c20 200000 20 A20_4 k false = k R20_4 := by kernel_rfl
theorem q20_4 : ACalls Tryz.prog (gmap gs) 20 A20_4 (fun v => v = R20_4) := acalls_eq base l20 fun k hk => (m20_4 k).trans hk
def A20_5 : List AV := [a0, .agg [y 10, x 0, x 2]]
def R20_5 : AV := .tup [x 18, x 0]
theorem m20_5 (k : AV → Bool) : runF c20 200000 20 A20_5 k false = k R20_5 := by kernel_rfl
theorem q20_5 : ACalls Tryz.prog (gmap gs) 20 A20_5 (fun v => v = R20_5) := acalls_eq base l20 fun k hk => (m20_5 k).trans hk
def A20_6 : List AV := [a0, .agg [y 10, x 0, x 3]]
def R20_6 : AV := .tup [x 19, x 0]
theorem m20_6 (k : AV → Bool) : runF c20 200000 20 A20_6 k false = k R20_6 := by kernel_rfl
theorem q20_6 : ACalls Tryz.prog (gmap gs) 20 A20_6 (fun v => v = R20_6) := acalls_eq base l20 fun k hk => (m20_6 k).trans hk
def M20 : List (Nat × List AV × AV) := [(74961060915916784, A20_0, R20_0), (74961060915921590, A20_1, R20_1), (74961060915917745, A20_2, R20_2), (74961060915925433, A20_3, R20_3), (74961060915925434, A20_4, R20_4), (74961060915925435, A20_5, R20_5), (74961060915925436, A20_6, R20_6)]
theorem s20 : SumOk Tryz.prog (gmap gs) (20, memoH M20) := memoH_sum (memoH_cons q20_0 (memoH_cons q20_1 (memoH_cons q20_2 (memoH_cons q20_3 (memoH_cons q20_4 (memoH_cons q20_5 (memoH_cons q20_6 memoH_nil)))))))
noncomputable abbrev c21 : Cfg := ⟨Tryz.prog, gmap gs, lookS [(31, memoH M31), (20, memoH M20)], fun _ => false, fun _ => none⟩
def A21_0 : List AV := [a0, x 0, x 1]
def R21_0 : AV := .tup [a7, x 0]
theorem m21_0 (k : AV → Bool) : runF c21 200000 21 A21_0 k false = k R21_0 := by kernel_rfl
theorem q21_0 : ACalls Tryz.prog (gmap gs) 21 A21_0 (fun v => v = R21_0) := acalls_eq base (sums_cons s31 (sums_cons s20 sums_nil)) fun k hk => (m21_0 k).trans hk
def M21 : List (Nat × List AV × AV) := [(188373180127424202, A21_0, R21_0)]
theorem s21 : SumOk Tryz.prog (gmap gs) (21, memoH M21) := memoH_sum (memoH_cons q21_0 memoH_nil)
noncomputable abbrev c22 : Cfg := ⟨Tryz.prog, gmap gs, lookS [(31, memoH M31), (20, memoH M20)], fun _ => false, fun _ => none⟩
def A22_0 : List AV := [a0, x 0, x 1]
def R22_0 : AV := .tup [a22, x 0]
theorem m22_0 (k : AV → Bool) : runF c22 200000 22 A22_0 k false = k R22_0 := by kernel_rfl
theorem q22_0 : ACalls Tryz.prog (gmap gs) 22 A22_0 (fun v => v = R22_0) := acalls_eq base (sums_cons s31 (sums_cons s20 sums_nil)) fun k hk => (m22_0 k).trans hk
def M22 : List (Nat × List AV × AV) := [(188373180127424202, A22_0, R22_0)]
theorem s22 : SumOk Tryz.prog (gmap gs) (22, memoH M22) := memoH_sum (memoH_cons q22_0 memoH_nil)
noncomputable abbrev c55 : Cfg := ⟨Tryz.prog, gmap gs, lookS [(31, memoH M31), (14, memoH M14)], fun _ => false, fun _ => none⟩
theorem l55 : ∀ s ∈ ([(31, memoH M31), (14, memoH M14)] : List Sum), SumOk Tryz.prog (gmap gs) s := (sums_cons s31 (sums_cons s14 sums_nil))
def A55_0 : List AV := [a0, a2]
def R55_0 : AV := .tup [a4, x 0]
theorem m55_0 (k : AV → Bool) : runF c55 200000 55 A55_0 k false = k R55_0 := by kernel_rfl
theorem q55_0 : ACalls Tryz.prog (gmap gs) 55 A55_0 (fun v => v = R55_0) := acalls_eq base l55 fun k hk => (m55_0 k).trans hk
def A55_1 : List AV := [a0, a10]
def R55_1 : AV := .tup [a11, x 0]
theorem m55_1 (k : AV → Bool) : runF c55 200000 55 A55_1 k false = k R55_1 := by kernel_rfl
theorem q55_1 : ACalls Tryz.prog (gmap gs) 55 A55_1 (fun v => v = R55_1) := acalls_eq base l55 fun k hk => (m55_1 k).trans hk
def A55_2 : List AV := [a0, a13]
def R55_2 : AV := .tup [a14, x 0]
theorem m55_2 (k : AV → Bool) : runF c55 200000 55 A55_2 k false = k R55_2 := by kernel_rfl
theorem q55_2 : ACalls Tryz.prog (gmap gs) 55 A55_2 (fun v => v = R55_2) := acalls_eq base l55 fun k hk => (m55_2 k).trans hk
def A55_3 : List AV := [a0, a16]
def R55_3 : AV := .tup [a17, x 0]
theorem m55_3 (k : AV → Bool) : runF c55 200000 55 A55_3 k false = k R55_3 := by kernel_rfl
theorem q55_3 : ACalls Tryz.prog (gmap gs) 55 A55_3 (fun v => v = R55_3) := acalls_eq base l55 fun k hk => (m55_3 k).trans hk
def A55_4 : List AV := [a0, a19]
def R55_4 : AV := .tup [a20, x 0]
theorem m55_4 (k : AV → Bool) : runF c55 200000 55 A55_4 k false = k R55_4 := by kernel_rfl
theorem q55_4 : ACalls Tryz.prog (gmap gs) 55 A55_4 (fun v => v = R55_4) := acalls_eq base l55 fun k hk => (m55_4 k).trans hk
def M55 : List (Nat × List AV × AV) := [(738981271515060787, A55_0, R55_0), (738981272402564468, A55_1, R55_1), (738981273290068149, A55_2, R55_2), (738981274177571830, A55_3, R55_3), (738981824429854050, A55_4, R55_4)]
theorem s55 : SumOk Tryz.prog (gmap gs) (55, memoH M55) := memoH_sum (memoH_cons q55_0 (memoH_cons q55_1 (memoH_cons q55_2 (memoH_cons q55_3 (memoH_cons q55_4 memoH_nil)))))
noncomputable abbrev c35 : Cfg := ⟨Tryz.prog, gmap gs, lookS [(31, memoH M31), (55, memoH M55)], fun _ => false, fun _ => none⟩
theorem l35 : ∀ s ∈ ([(31, memoH M31), (55, memoH M55)] : List Sum), SumOk Tryz.prog (gmap gs) s := (sums_cons s31 (sums_cons s55 sums_nil))
def A35_0 : List AV := [a0, a2]
def R35_0 : AV := .tup [a4, x 0]
theorem m35_0 (k : AV → Bool) : runF c35 200000 35 A35_0 k false = k R35_0 := by kernel_rfl
theorem q35_0 : ACalls Tryz.prog (gmap gs) 35 A35_0 (fun v => v = R35_0) := acalls_eq base l35 fun k hk => (m35_0 k).trans hk
def A35_1 : List AV := [a0, a10]
def R35_1 : AV := .tup [a11, x 0]
theorem m35_1 (k : AV → Bool) : runF c35 200000 35 A35_1 k false = k R35_1 := by kernel_rfl
theorem q35_1 : ACalls Tryz.prog (gmap gs) 35 A35_1 (fun v => v = R35_1) := acalls_eq base l35 fun k hk => (m35_1 k).trans hk
def A35_2 : List AV := [a0, a13]
def R35_2 : AV := .tup [a14, x 0]
theorem m35_2 (k : AV → Bool) : runF c35 200000 35 A35_2 k false = k R35_2 := by kernel_rfl
theorem q35_2 : ACalls Tryz.prog (gmap gs) 35 A35_2 (fun v => v = R35_2) := acalls_eq base l35 fun k hk => (m35_2 k).trans hk
def A35_3 : List AV := [a0, a16]
def R35_3 : AV := .tup [a17, x 0]
theorem m35_3 (k : AV → Bool) : runF c35 200000 35 A35_3 k false = k R35_3 := by kernel_rfl
theorem q35_3 : ACalls Tryz.prog (gmap gs) 35 A35_3 (fun v => v = R35_3) := acalls_eq base l35 fun k hk => (m35_3 k).trans hk
def A35_4 : List AV := [a0, a19]
def R35_4 : AV := .tup [a20, x 0]
theorem m35_4 (k : AV → Bool) : runF c35 200000 35 A35_4 k false = k R35_4 := by kernel_rfl
theorem q35_4 : ACalls Tryz.prog (gmap gs) 35 A35_4 (fun v => v = R35_4) := acalls_eq base l35 fun k hk => (m35_4 k).trans hk
def M35 : List (Nat × List AV × AV) := [(738981271515060787, A35_0, R35_0), (738981272402564468, A35_1, R35_1), (738981273290068149, A35_2, R35_2), (738981274177571830, A35_3, R35_3), (738981824429854050, A35_4, R35_4)]
theorem s35 : SumOk Tryz.prog (gmap gs) (35, memoH M35) := memoH_sum (memoH_cons q35_0 (memoH_cons q35_1 (memoH_cons q35_2 (memoH_cons q35_3 (memoH_cons q35_4 memoH_nil)))))
noncomputable abbrev c7 : Cfg := ⟨Tryz.prog, gmap gs, lookS [(31, memoH M31), (15, memoH M15), (20, memoH M20), (21, memoH M21), (22, memoH M22), (35, memoH M35)], fun _ => false, fun _ => none⟩
theorem l7 : ∀ s ∈ ([(31, memoH M31), (15, memoH M15), (20, memoH M20), (21, memoH M21), (22, memoH M22), (35, memoH M35)] : List Sum), SumOk Tryz.prog (gmap gs) s := (sums_cons s31 (sums_cons s15 (sums_cons s20 (sums_cons s21 (sums_cons s22 (sums_cons s35 sums_nil))))))
def A7_0 : List AV := [a0, x 1, a3]
def R7_0 : AV := .tup [.agg [y 1, x 0, u 0, u 0, u 0, u 0, u 0, u 0, u 0, u 0], x 0]
theorem m7_0 (k : AV → Bool) : runF c7 200000 7 A7_0 k false = k R7_0 := by kernel_rfl
theorem q7_0 : ACalls Tryz.prog (gmap gs) 7 A7_0 (fun v => v = R7_0) := acalls_eq base l7 fun k hk => (m7_0 k).trans hk
def A7_1 : List AV := [a0, x 1, a6]
def R7_1 : AV := .tup [a7, x 0]
theorem m7_1 (k : AV → Bool) : runF c7 200000 7 A7_1 k false = k R7_1 := by kernel_rfl
theorem q7_1 : ACalls Tryz.prog (gmap gs) 7 A7_1 (fun v => v = R7_1) := acalls_eq base l7 fun k hk => (m7_1 k).trans hk
def A7_2 : List AV := [a0, x 1, a8]
def R7_2 : AV := .tup [.agg [y 1, x 1, u 0, u 0, u 0, u 0, u 0, u 0, u 0, u 0], x 0]
theorem m7_2 (k : AV → Bool) : runF c7 200000 7 A7_2 k false = k R7_2 := by kernel_rfl
theorem q7_2 : ACalls Tryz.prog (gmap gs) 7 A7_2 (fun v => v = R7_2) := acalls_eq base l7 fun k hk => (m7_2 k).trans hk
def A7_3 : List AV := [a0, x 1, a9]
def R7_3 : AV := .tup [.agg [y 1, x 16, u 0, u 0, u 0, u 0, u 0, u 0, u 0, u 0], x 0]
theorem m7_3 (k : AV → Bool) : runF c7 200000 7 A7_3 k false = k R7_3 := by kernel_rfl
theorem q7_3 : ACalls Tryz.prog (gmap gs) 7 A7_3 (fun v => v = R7_3) := acalls_eq base l7 fun k hk => (m7_3 k).trans hk
def A7_4 : List AV := [a0, x 1, a12]
def R7_4 : AV := .tup [.agg [y 1, x 17, u 0, u 0, u 0, u 0, u 0, u 0, u 0, u 0], x 0]
theorem m7_4 (k : AV → Bool) : runF c7 200000 7 A7_4 k false = k R7_4 := by kernel_rfl
theorem q7_4 : ACalls Tryz.prog (gmap gs) 7 A7_4 (fun v => v = R7_4) := acalls_eq base l7 fun k hk => (m7_4 k).trans hk
def A7_5 : List AV := [a0, x 1, a15]
def R7_5 : AV := .tup [.agg [y 1, x 18, u 0, u 0, u 0, u 0, u 0, u 0, u 0, u 0], x 0]
theorem m7_5 (k : AV → Bool) : runF c7 200000 7 A7_5 k false = k R7_5 := by kernel_rfl
theorem q7_5 : ACalls Tryz.prog (gmap gs) 7 A7_5 (fun v => v = R7_5) := acalls_eq base l7 fun k hk => (m7_5 k).trans hk
def A7_6 : List AV := [a0, x 1, a18]
def R7_6 : AV := .tup [.agg [y 1, x 19, u 0, u 0, u 0, u 0, u 0, u 0, u 0, u 0], x 0]
theorem m7_6 (k : AV → Bool) : runF c7 200000 7 A7_6 k false = k R7_6 := by kernel_rfl
theorem q7_6 : ACalls Tryz.prog (gmap gs) 7 A7_6 (fun v => v = R7_6) := acalls_eq base l7 fun k hk => (m7_6 k).trans hk
def A7_7 : List AV := [a0, x 1, a21]
def R7_7 : AV := .tup [a22, x 0]
theorem m7_7 (k : AV → Bool) : runF c7 200000 7 A7_7 k false = k R7_7 := by kernel_rfl
theorem q7_7 : ACalls Tryz.prog (gmap gs) 7 A7_7 (fun v => v = R7_7) := acalls_eq base l7 fun k hk => (m7_7 k).trans hk
def M7 : List (Nat × List AV × AV) := [(815244510945833707, A7_0, R7_0), (572504692936429419, A7_1, R7_1), (329764874927025131, A7_2, R7_2), (87025056917620843, A7_3, R7_3), (87844685204601644, A7_4, R7_4), (88664313491582445, A7_5, R7_5), (89483941778563246, A7_6, R7_6), (112173843687851290, A7_7, R7_7)]
theorem s7 : SumOk Tryz.prog (gmap gs) (7, memoH M7) := memoH_sum (memoH_cons q7_0 (memoH_cons q7_1 (memoH_cons q7_2 (memoH_cons q7_3 (memoH_cons q7_4 (memoH_cons q7_5 (memoH_cons q7_6 (memoH_cons q7_7 memoH_nil))))))))
noncomputable abbrev c24 : Cfg := ⟨Tryz.prog, gmap gs, lookS [(31, memoH M31)], fun _ => false, fun _ => none⟩
def A24_0 : List AV := [a0, a5]
def R24_0 : AV := .tup [.bool false, x 0]
theorem m24_0 (k : AV → Bool) : runF c24 200000 24 A24_0 k false = k R24_0 := by kernel_rfl
theorem q24_0 : ACalls Tryz.prog (gmap gs) 24 A24_0 (fun v => v = R24_0) := acalls_eq base (sums_cons s31 sums_nil) fun k hk => (m24_0 k).trans hk
def M24 : List (Nat × List AV × AV) := [(17949879179696754, A24_0, R24_0)]
theorem s24 : SumOk Tryz.prog (gmap gs) (24, memoH M24) := memoH_sum (memoH_cons q24_0 memoH_nil)
noncomputable abbrev c56 : Cfg := ⟨Tryz.prog, gmap gs, lookS [(31, memoH M31), (14, memoH M14)], fun _ => false, fun _ => none⟩
theorem l56 : ∀ s ∈ ([(31, memoH M31), (14, memoH M14)] : List Sum), SumOk Tryz.prog (gmap gs) s := (sums_cons s31 (sums_cons s14 sums_nil))
def A56_0 : List AV := [a0, a2, a5]
def R56_0 : AV := .tup [a10, x 0]
theorem m56_0 (k : AV → Bool) : runF c56 200000 56 A56_0 k false = k R56_0 := by kernel_rfl
theorem q56_0 : ACalls Tryz.prog (gmap gs) 56 A56_0 (fun v => v = R56_0) := acalls_eq base l56 fun k hk => (m56_0 k).trans hk
def A56_1 : List AV := [a0, a10, a5]
def R56_1 : AV := .tup [a13, x 0]
theorem m56_1 (k : AV → Bool) : runF c56 200000 56 A56_1 k false = k R56_1 := by kernel_rfl
theorem q56_1 : ACalls Tryz.prog (gmap gs) 56 A56_1 (fun v => v = R56_1) := acalls_eq base l56 fun k hk => (m56_1 k).trans hk
def A56_2 : List AV := [a0, a13, a5]
def R56_2 : AV := .tup [a16, x 0]
theorem m56_2 (k : AV → Bool) : runF c56 200000 56 A56_2 k false = k R56_2 := by kernel_rfl
theorem q56_2 : ACalls Tryz.prog (gmap gs) 56 A56_2 (fun v => v = R56_2) := acalls_eq base l56 fun k hk => (m56_2 k).trans hk
def A56_3 : List AV := [a0, a16, a5]
def R56_3 : AV := .tup [a19, x 0]
theorem m56_3 (k : AV → Bool) : runF c56 200000 56 A56_3 k false = k R56_3 := by kernel_rfl
theorem q56_3 : ACalls Tryz.prog (gmap gs) 56 A56_3 (fun v => v = R56_3) := acalls_eq base l56 fun k hk => (m56_3 k).trans hk
def M56 : List (Nat × List AV × AV) := [(908649369688822846, A56_0, R56_0), (909468997975803647, A56_1, R56_1), (910288626262784448, A56_2, R56_2), (911108254549765249, A56_3, R56_3)]
theorem s56 : SumOk Tryz.prog (gmap gs) (56, memoH M56) := memoH_sum (memoH_cons q56_0 (memoH_cons q56_1 (memoH_cons q56_2 (memoH_cons q56_3 memoH_nil))))
noncomputable abbrev c39 : Cfg := ⟨Tryz.prog, gmap gs, lookS [(31, memoH M31), (56, memoH M56)], fun _ => false, fun _ => none⟩
theorem l39 : ∀ s ∈ ([(31, memoH M31), (56, memoH M56)] : List Sum), SumOk Tryz.prog (gmap gs) s := (sums_cons s31 (sums_cons s56 sums_nil))
def A39_0 : List AV := [a0, a2, a5]
def R39_0 : AV := .tup [a10, .agg [u 0, u 0], .bool false, x 0]
theorem m39_0 (k : AV → Bool) : runF c39 200000 39 A39_0 k false = k R39_0 := by kernel_rfl
theorem q39_0 : ACalls Tryz.prog (gmap gs) 39 A39_0 (fun v => v = R39_0) := acalls_eq base l39 fun k hk => (m39_0 k).trans hk
def A39_1 : List AV := [a0, a10, a5]
def R39_1 : AV := .tup [a13, .agg [u 0, u 0], .bool false, x 0]
theorem m39_1 (k : AV → Bool) : runF c39 200000 39 A39_1 k false = k R39_1 := by kernel_rfl
theorem q39_1 : ACalls Tryz.prog (gmap gs) 39 A39_1 (fun v => v = R39_1) := acalls_eq base l39 fun k hk => (m39_1 k).trans hk
def A39_2 : List AV := [a0, a13, a5]
def R39_2 : AV := .tup [a16, .agg [u 0, u 0], .bool false, x 0]
theorem m39_2 (k : AV → Bool) : runF c39 200000 39 A39_2 k false = k R39_2 := by kernel_rfl
theorem q39_2 : ACalls Tryz.prog (gmap gs) 39 A39_2 (fun v => v = R39_2) := acalls_eq base l39 fun k hk => (m39_2 k).trans hk
def A39_3 : List AV := [a0, a16, a5]
def R39_3 : AV := .tup [a19, .agg [u 0, u 0], .bool false, x 0]
theorem m39_3 (k : AV → Bool) : runF c39 200000 39 A39_3 k false = k R39_3 := by kernel_rfl
theorem q39_3 : ACalls Tryz.prog (gmap gs) 39 A39_3 (fun v => v = R39_3) := acalls_eq base l39 fun k hk => (m39_3 k).trans hk
def M39 : List (Nat × List AV × AV) := [(908649369688822846, A39_0, R39_0), (909468997975803647, A39_1, R39_1), (910288626262784448, A39_2, R39_2), (911108254549765249, A39_3, R39_3)]
theorem s39 : SumOk Tryz.prog (gmap gs) (39, memoH M39) := memoH_sum (memoH_cons q39_0 (memoH_cons q39_1 (memoH_cons q39_2 (memoH_cons q39_3 memoH_nil))))
noncomputable abbrev c8 : Cfg := ⟨Tryz.prog, gmap gs, lookS [(31, memoH M31), (15, memoH M15), (35, memoH M35), (24, memoH M24), (39, memoH M39)], fun _ => false, fun _ => none⟩
theorem l8 : ∀ s ∈ ([(31, memoH M31), (15, memoH M15), (35, memoH M35), (24, memoH M24), (39, memoH M39)] : List Sum), SumOk Tryz.prog (gmap gs) s := (sums_cons s31 (sums_cons s15 (sums_cons s35 (sums_cons s24 (sums_cons s39 sums_nil)))))
def A8_0 : List AV := [a0, x 1, a3, a5]
def R8_0 : AV := .tup [a6, .bool false, x 0]
theorem m8_0 (k : AV → Bool) : runF c8 200000 8 A8_0 k false = k R8_0 := by kernel_rfl
theorem q8_0 : ACalls Tryz.prog (gmap gs) 8 A8_0 (fun v => v = R8_0) := acalls_eq base l8 fun k hk => (m8_0 k).trans hk
def A8_1 : List AV := [a0, x 1, a6, a5]
def R8_1 : AV := .tup [a8, .bool false, x 0]
theorem m8_1 (k : AV → Bool) : runF c8 200000 8 A8_1 k false = k R8_1 := by kernel_rfl
theorem q8_1 : ACalls Tryz.prog (gmap gs) 8 A8_1 (fun v => v = R8_1) := acalls_eq base l8 fun k hk => (m8_1 k).trans hk
def A8_2 : List AV := [a0, x 1, a8, a5]
def R8_2 : AV := .tup [a9, .bool false, x 0]
theorem m8_2 (k : AV → Bool) : runF c8 200000 8 A8_2 k false = k R8_2 := by kernel_rfl
theorem q8_2 : ACalls Tryz.prog (gmap gs) 8 A8_2 (fun v => v = R8_2) := acalls_eq base l8 fun k hk => (m8_2 k).trans hk
def A8_3 : List AV := [a0, x 1, a9, a5]
def R8_3 : AV := .tup [a12, .bool false, x 0]
theorem m8_3 (k : AV → Bool) : runF c8 200000 8 A8_3 k false = k R8_3 := by kernel_rfl
theorem q8_3 : ACalls Tryz.prog (gmap gs) 8 A8_3 (fun v => v = R8_3) := acalls_eq base l8 fun k hk => (m8_3 k).trans hk
def A8_4 : List AV := [a0, x 1, a12, a5]
def R8_4 : AV := .tup [a15, .bool false, x 0]
theorem m8_4 (k : AV → Bool) : runF c8 200000 8 A8_4 k false = k R8_4 := by kernel_rfl
theorem q8_4 : ACalls Tryz.prog (gmap gs) 8 A8_4 (fun v => v = R8_4) := acalls_eq base l8 fun k hk => (m8_4 k).trans hk
def A8_5 : List AV := [a0, x 1, a15, a5]
def R8_5 : AV := .tup [a18, .bool false, x 0]
theorem m8_5 (k : AV → Bool) : runF c8 200000 8 A8_5 k false = k R8_5 := by kernel_rfl
theorem q8_5 : ACalls Tryz.prog (gmap gs) 8 A8_5 (fun v => v = R8_5) := acalls_eq base l8 fun k hk => (m8_5 k).trans hk
def A8_6 : List AV := [a0, x 1, a18, a5]
def R8_6 : AV := .tup [a21, .bool false, x 0]
theorem m8_6 (k : AV → Bool) : runF c8 200000 8 A8_6 k false = k R8_6 := by kernel_rfl
theorem q8_6 : ACalls Tryz.prog (gmap gs) 8 A8_6 (fun v => v = R8_6) := acalls_eq base l8 fun k hk => (m8_6 k).trans hk
def A8_7 : List AV := [a0, x 1, a21, .agg [u 0, u 1, u 0, u 0]]
def R8_7 : AV := .tup [a21, .bool true, x 0]
theorem m8_7 (k : AV → Bool) : runF c8 200000 8 A8_7 k false = k R8_7 := by kernel_rfl
theorem q8_7 : ACalls Tryz.prog (gmap gs) 8 A8_7 (fun v => v = R8_7) := acalls_eq base l8 fun k hk => (m8_7 k).trans hk
def M8 : List (Nat × List AV × AV) := [(789996788857438579, A8_0, R8_0), (680806185714757934, A8_1, R8_1), (571615582572077289, A8_2, R8_2), (462424979429396644, A8_3, R8_3), (1089853178134161717, A8_4, R8_4), (564359872232079907, A8_5, R8_5), (38866566329998097, A8_6, R8_6), (291421504491583457, A8_7, R8_7)]
theorem s8 : SumOk Tryz.prog (gmap gs) (8, memoH M8) := memoH_sum (memoH_cons q8_0 (memoH_cons q8_1 (memoH_cons q8_2 (memoH_cons q8_3 (memoH_cons q8_4 (memoH_cons q8_5 (memoH_cons q8_6 (memoH_cons q8_7 memoH_nil))))))))
noncomputable abbrev c9 : Cfg := ⟨Tryz.prog, gmap gs, lookS [(31, memoH M31), (40, memoH M40)], fun _ => false, fun _ => none⟩
def A9_0 : List AV := [a0]
def R9_0 : AV := .tup [.lst [u 0, u 0, u 0, u 0, u 0, u 0, u 0, u 0, u 7, u 0, u 0, u 0, u 0, u 0, u 0, u 0, u 0, u 0, u 0, u 0, u 0, u 0, u 0, u 0, u 0, u 0, u 0, u 0, u 0, u 0, u 0, u 0, u 0, u 0, u 0, u 0, u 0, u 0, u 0, u 0, u 0, u 0, u 0, u 0, u 0, u 0, u 0, u 0, u 0, u 0, u 0, u 0, u 0, u 0, u 0, u 0, u 0, u 0, u 0, u 0, u 0, u 0, u 0, u 0, u 0, u 0, u 0, u 0, u 0, u 0, u 0, u 0, u 0, u 0, u 0, u 0, u 0, u 0, u 0, u 0, u 0, u 0, u 0, u 0, u 0, u 0, u 0, u 0, u 0, u 0, u 0, u 0, u 0, u 0, u 0, u 0, u 0, u 0, u 0, u 0] 25, x 0]
theorem m9_0 (k : AV → Bool) : runF c9 200000 9 A9_0 k false = k R9_0 := by kernel_rfl
theorem q9_0 : ACalls Tryz.prog (gmap gs) 9 A9_0 (fun v => v = R9_0) := acalls_eq base (sums_cons s31 (sums_cons s40 sums_nil)) fun k hk => (m9_0 k).trans hk
def M9 : List (Nat × List AV × AV) := [(261732842023329911, A9_0, R9_0)]
theorem s9 : SumOk Tryz.prog (gmap gs) (9, memoH M9) := memoH_sum (memoH_cons q9_0 memoH_nil)
end Go.Bas.BasReadAlive
end
section
namespace Go.Bas.BasReadAlive
open Go.RowKit Go.Proofs Go.Bas.BasZBase
set_option linter.unusedVariables false
noncomputable abbrev cfg0 : Cfg := ⟨Tryz.prog, gmap gs, lookS [(5, memoH M5), (7, memoH M7), (8, memoH M8), (9, memoH M9)], fun _ => false, fun _ => none⟩
theorem t_run : runF cfg0 2000 4 [] (fun v => match v with | .bool b => b | _ => false) false = true := by kernel_rfl
theorem law : ACalls Tryz.prog (gmap gs) 4 [] (fun v => v = .bool true) :=
  (runF_sound (cfg_ok base (sums_cons s5 (sums_cons s7 (sums_cons s8 (sums_cons s9 sums_nil))))) t_run).mono fun v h => by
    cases v <;> first | exact (by subst h; rfl) | cases h
noncomputable def S_alive : Sum := (4, fun args => match args with
  | [] => some (true, .bool true)
  | _ => none)
theorem s_alive : SumOk Tryz.prog (gmap gs) S_alive := fun args r hr => by
  simp only [S_alive] at hr
  split at hr
  · cases hr
    exact law
  · cases hr
end Go.Bas.BasReadAlive
end
section
namespace Go.Bas
open Go.RowKit
set_option linter.unusedSimpArgs false
set_option linter.unusedVariables false
noncomputable def memL (i : Nat) (l : List Nat) : Bool := List.rec (motive := fun _ => Bool) false (fun j _ ih => cond (Nat.beq i j) true ih) l
noncomputable def hkeep (ids : List Nat) (h : Heap) : Heap := List.rec (motive := fun _ => Heap) [] (fun p _ ih => cond (memL p.1 ids) (p :: ih) ih) h
theorem hget_hkeep (ids : List Nat) (id : Nat) (hb : HB) : ∀ h : Heap, hget (hkeep ids h) id = some hb → memL id ids = true ∧ hget h id = some hb
  | [], h => by cases h
  | p :: r, h => by
    have e : hkeep ids (p :: r) = cond (memL p.1 ids) (p :: hkeep ids r) (hkeep ids r) := rfl
    rw [e] at h
    rw [hget_cons p.1 p.2 r]
    cases h1 : memL p.1 ids with
    | true =>
      rw [h1] at h
      have h : cond (Nat.beq p.1 id) (some p.2) (hget (hkeep ids r) id) = some hb := h
      cases h2 : Nat.beq p.1 id with
      | true =>
        rw [h2] at h
        exact ⟨of_beq h2 ▸ h1, h⟩
      | false =>
        rw [h2] at h
        exact hget_hkeep ids id hb r h
    | false =>
      rw [h1] at h
      obtain ⟨a, b⟩ := hget_hkeep ids id hb r h
      cases h2 : Nat.beq p.1 id with
      | true =>
        have := of_beq h2
        subst this
        rw [h1] at a; cases a
      | false => exact ⟨a, b⟩
/-- The named blocks alone. -/
noncomputable def keepH (ids : List Nat) (st : St) : St := ⟨st.tmps, st.ds, ⟨hkeep ids st.m.heap, st.m.nx, st.m.lp⟩⟩
section
variable {C : Cfg} {K : Ex → St → Prop} {st : St} {inr : Option Nat} {body : Code}
theorem LessS.keepH (ids : List Nat) (st : St) : LessS C st (Bas.keepH ids st) := ⟨rfl, fun w B oC oL ω a S => by
  refine ⟨S.tm, S.dn, ⟨⟨fun id hb h => ?_, fun i j b h1 h2 => ?_, S.ms.hp.ob⟩, S.ms.lp, S.ms.gl, S.ms.gb, S.ms.bl⟩⟩
  · exact S.ms.hp.rel id hb (hget_hkeep ids id hb _ h).2
  · obtain ⟨x1, e1⟩ := Option.isSome_iff_exists.1 h1
    obtain ⟨x2, e2⟩ := Option.isSome_iff_exists.1 h2
    have e1 := (hget_hkeep ids i x1 _ e1).2
    have e2 := (hget_hkeep ids j x2 _ e2).2
    exact S.ms.hp.inj i j b (by rw [e1]; rfl) (by rw [e2]; rfl)⟩
theorem LessS.trans' {st st1 st2 : St} (h : LessS C st st1) (h' : LessS C st1 st2) : LessS C st st2 := ⟨h'.1.trans h.1, fun w B oC oL ω a S => h'.2 _ _ _ _ _ _ (h.2 _ _ _ _ _ _ S)⟩
/-- What is kept at a round's end: the named temporaries and the named blocks. -/
noncomputable def keepSH (ls ids : List Nat) (st : St) : St := Bas.keepH ids (keepS ls st)
theorem LessS.keepSH (ls ids : List Nat) (st : St) : LessS C st (Bas.keepSH ls ids st) := (LessS.keep ls st).trans' (LessS.keepH ids _)
end
end Go.Bas
end
section
namespace Go.Bas
open Go.RowKit
set_option linter.unusedSimpArgs false
set_option linter.unusedVariables false
noncomputable def onP (P : Prop) : Bool := @decide P (Classical.propDecidable _)
theorem of_onP {P : Prop} (h : onP P = true) : P := @of_decide_eq_true _ (Classical.propDecidable _) h
theorem onP_true {P : Prop} (h : P) : onP P = true := @decide_eq_true _ (Classical.propDecidable _) h
section
variable {C : Cfg} {K : Ex → St → Prop} {st : St} {c body : Code} {n : Nat} {ls ids : List Nat} {e0 x : Ex} {E S0 : St}
end
end Go.Bas
end
section
namespace Go.Bas.BasZRE
open Go.RowKit Go.Proofs
open Go.Bas.BasZBase Go.Bas.BasZOp Go.Bas.BasZOk Go.Bas.BasZRdA Go.Bas.BasZRdL Go.Bas.BasZRdN Go.Bas.BasZRdP Go.Bas.BasZRb Go.Bas.BasZRdR Go.Bas.BasZRdS Go.Bas.BasZRs Go.Bas.BasZRda Go.Bas.BasZRdn Go.Bas.BasZRdU Go.Bas.BasZRdV Go.Bas.BasZPk2 Go.Bas.BasZPk3
set_option maxRecDepth 100000
set_option maxHeartbeats 4000000
set_option linter.unusedVariables false
set_option linter.unusedSimpArgs false
/-- A reader, its rows nil or a list. -/
structure RdX where
  (pc ver inst batch : Int) (f : Frm) (code v : Int) (rows : Option (List AV × Nat)) (given : Int)
def rowsAV : Option (List AV × Nat) → AV
  | none => .nils
  | some p => .lst p.1 p.2
def RdX.cells (x : RdX) : List AV := [.int .u8 x.pc, .int .i64 x.ver, .int .i64 x.inst, .int .u64 x.batch, .int .u8 x.f.kind, .int .u32 x.f.a, .int .u32 x.f.b, .int .u8 x.f.pc, .int .u8 x.f.i, .int .u8 x.f.j, .int .u8 x.f.n, .int .u8 x.f.p, .int .u8 x.f.h, .int .u32 x.f.x, .int .u32 x.f.y, .int .i64 x.code, .int .u32 x.v, rowsAV x.rows, .int .i64 x.given]
def RdX.av (x : RdX) : AV := .agg x.cells
def rdxOf : AV → Option RdX
  | .agg [.int .u8 pc0, .int .i64 ver, .int .i64 inst, .int .u64 batch, .int .u8 kind, .int .u32 a, .int .u32 b, .int .u8 pc, .int .u8 i, .int .u8 j, .int .u8 n, .int .u8 p, .int .u8 h, .int .u32 x, .int .u32 y, .int .i64 code, .int .u32 v, .lst us m, .int .i64 given] =>
    some ⟨pc0, ver, inst, batch, ⟨kind, a, b, pc, i, j, n, p, h, x, y⟩, code, v, some (us, m), given⟩
  | .agg [.int .u8 pc0, .int .i64 ver, .int .i64 inst, .int .u64 batch, .int .u8 kind, .int .u32 a, .int .u32 b, .int .u8 pc, .int .u8 i, .int .u8 j, .int .u8 n, .int .u8 p, .int .u8 h, .int .u32 x, .int .u32 y, .int .i64 code, .int .u32 v, .nils, .int .i64 given] =>
    some ⟨pc0, ver, inst, batch, ⟨kind, a, b, pc, i, j, n, p, h, x, y⟩, code, v, none, given⟩
  | _ => none
theorem rdxOf_some {a : AV} {x : RdX} (h : rdxOf a = some x) : a = x.av := by
  unfold rdxOf at h
  split at h
  · simp only [Option.some.injEq] at h
    subst h
    rfl
  · simp only [Option.some.injEq] at h
    subst h
    rfl
  · cases h
def rRdX : Rd RdX := ⟨rdxOf, RdX.av, fun _ _ => rdxOf_some⟩
def RdX.us (x : RdX) : List AV := match x.rows with
  | none => []
  | some p => p.1
def RdX.m (x : RdX) : Nat := match x.rows with
  | none => 0
  | some p => p.2
def RdX.rd (x : RdX) : Rdr := ⟨x.pc, x.ver, x.inst, x.batch, x.f, x.code, x.v, x.us, x.m, x.given⟩
theorem RdX.wk (x : RdX) : Wk x.av x.rd.av := by
  obtain ⟨pc, ver, inst, batch, f, code, v, rows, given⟩ := x
  cases rows with
  | none => exact Wk.ofAgg (.cons (.refl _) (.cons (.refl _) (.cons (.refl _) (.cons (.refl _) (.cons (.refl _) (.cons (.refl _) (.cons (.refl _) (.cons (.refl _) (.cons (.refl _) (.cons (.refl _) (.cons (.refl _) (.cons (.refl _) (.cons (.refl _) (.cons (.refl _) (.cons (.refl _) (.cons (.refl _) (.cons (.refl _) (.cons .nils (.cons (.refl _) .nil)))))))))))))))))))
  | some p => exact .refl _
/-- The loop's head. -/
noncomputable def hd (c : Conf) (t : Int) (us : List AV) (m : Nat) (most : Int) (x : RdX) (come n : Int) : St := ⟨[.any, .int .i64 t, .any, .lst us m, .ptr 0 0, .any, .any, .any, .bool false, .bool true, .ptr 7 0, .any, .int .i64 most, .any, .int .i64 come, .int .i64 n, .any, .any, .any, .any, .any, .any, .any, .any, .any, .any, .any, .any, .any, .any, .any, .any, .any, .any, .any, .any, .any, .any, .any, .any, .any, .any, .any, .any, .any, .any, .any, .any, .any, .any, .any, .any, .any, .any, .any, .any, .any, .any, .any, .any, .any, .any, .any, .any, .any, .any, .any, .any, .any, .any, .any, .any, .any, .any, .any, .any, .any, .any, .any, .any, .any, .any, .any, .any, .any, .any, .any, .any, .any, .any, .any, .any, .any, .any, .any, .any, .any, .any, .any, .any, .any, .any, .any, .any, .any, .any, .any, .any, .any, .any, .any, .any, .any, .any, .any, .any, .any, .any, .any, .any, .any, .any, .any, .any, .any, .any, .any, .any], [], ⟨[(7, ⟨x.cells, 37, true⟩), (0, ⟨c.cells, 24, true⟩)], 8, []⟩⟩
/-- Behind the loop: it is true. -/
noncomputable def E0 : St := ⟨[.any, .any, .any, .any, .any, .any, .any, .any, .bool true, .any, .any, .any, .any, .any, .any, .any, .any, .any, .any, .any, .any, .any, .any, .any, .any, .any, .any, .any, .any, .any, .any, .any, .any, .any, .any, .any, .any, .any, .any, .any, .any, .any, .any, .any, .any, .any, .any, .any, .any, .any, .any, .any, .any, .any, .any, .any, .any, .any, .any, .any, .any, .any, .any, .any, .any, .any, .any, .any, .any, .any, .any, .any, .any, .any, .any, .any, .any, .any, .any, .any, .any, .any, .any, .any, .any, .any, .any, .any, .any, .any, .any, .any, .any, .any, .any, .any, .any, .any, .any, .any, .any, .any, .any, .any, .any, .any, .any, .any, .any, .any, .any, .any, .any, .any, .any, .any, .any, .any, .any, .any, .any, .any, .any, .any, .any, .any, .any, .any], [], ⟨[], 8, []⟩⟩
noncomputable def accAV (kd : Int) (g : Nat → Int) : AV := .agg [.int .u8 kd, .int .i64 (g 1), .int .u64 (g 2), .int .u64 (g 3), .int .u64 (g 4), .int .u64 (g 5), .int .u64 (g 6), .int .u64 (g 7), .int .u64 (g 8), .int .u64 (g 9)]
/-- What the two calls of a round answer, its reader and cell fixed. -/
noncomputable def S_n (c : Conf) (t : Int) (x : RdX) (kd : Int) (g : Nat → Int) : Sum := (7, on3 rConf (rI .i64) rRdX (fun c1 t1 x1 => onP (c1 = c ∧ t1 = t ∧ x1 = x)) (fun _ _ _ => .tup [accAV kd g, .int .i64 0]))
noncomputable def S_a (c : Conf) (t : Int) (x : RdX) (u : CelU) (y : Rdr) (over : Bool) : Sum := (8, on4 rConf (rI .i64) rRdX rCelU (fun c1 t1 x1 u1 => onP (c1 = c ∧ t1 = t ∧ x1 = x ∧ u1 = u)) (fun _ _ _ _ => .tup [y.av, .bool over, .int .i64 0]))
noncomputable abbrev cB (c : Conf) (t : Int) (x : RdX) (u : CelU) (kd : Int) (g : Nat → Int) (y : Rdr) (over : Bool) : Cfg := cfg [S_n c t x kd g, S_a c t x u y over]
noncomputable abbrev body : Code := loopAt (fcode Tryz.prog 3) [0]
end Go.Bas.BasZRE
end
section
namespace Go.Bas.BasZRF
open Go.RowKit Go.Proofs
open Go.Bas.BasZBase Go.Bas.BasZOp Go.Bas.BasZOk Go.Bas.BasZRdA Go.Bas.BasZRdL Go.Bas.BasZRdN Go.Bas.BasZRdP Go.Bas.BasZRb Go.Bas.BasZRdR Go.Bas.BasZRdS Go.Bas.BasZRs Go.Bas.BasZRda Go.Bas.BasZRdn Go.Bas.BasZRdU Go.Bas.BasZRdV Go.Bas.BasZPk2 Go.Bas.BasZPk3 Go.Bas.BasZRE
set_option maxRecDepth 100000
set_option maxHeartbeats 4000000
set_option linter.unusedVariables false
set_option linter.unusedSimpArgs false
noncomputable def hdT (c : Conf) (t : Int) (us : List AV) (m : Nat) (most : Int) (x : RdX) (b : Bool) (come n : Int) : St := ⟨[.any, .int .i64 t, .any, .lst us m, .ptr 0 0, .any, .any, .any, .bool b, .bool true, .ptr 7 0, .any, .int .i64 most, .any, .int .i64 come, .int .i64 n, .any, .any, .any, .any, .any, .any, .any, .any, .any, .any, .any, .any, .any, .any, .any, .any, .any, .any, .any, .any, .any, .any, .any, .any, .any, .any, .any, .any, .any, .any, .any, .any, .any, .any, .any, .any, .any, .any, .any, .any, .any, .any, .any, .any, .any, .any, .any, .any, .any, .any, .any, .any, .any, .any, .any, .any, .any, .any, .any, .any, .any, .any, .any, .any, .any, .any, .any, .any, .any, .any, .any, .any, .any, .any, .any, .any, .any, .any, .any, .any, .any, .any, .any, .any, .any, .any, .any, .any, .any, .any, .any, .any, .any, .any, .any, .any, .any, .any, .any, .any, .any, .any, .any, .any, .any, .any, .any, .any, .any, .any, .any, .any], [], ⟨[(7, ⟨x.cells, 37, true⟩), (0, ⟨c.cells, 24, true⟩)], 8, []⟩⟩
noncomputable def xOf (y : Rdr) : RdX := ⟨y.pc, y.ver, y.inst, y.batch, y.f, y.code, y.v, some (y.us, y.m), y.given⟩
def celZ : CelU := ⟨.int .u64 0, .int .u64 0, .int .u64 0, .int .u64 0⟩
noncomputable abbrev at4 (m : Nat) (n : Int) : Nat := (Int.toNat (Int.tmod n (Int.ofNat m))) * 4
noncomputable def celL (us : List AV) (m : Nat) (n : Int) : CelU := ⟨.int .u64 (lget us (at4 m n)).toI, .int .u64 (lget us (at4 m n + 1)).toI, .int .u64 (lget us (at4 m n + 1 + 1)).toI, .int .u64 (lget us (at4 m n + 1 + 1 + 1)).toI⟩
noncomputable def tI (c : Conf) (t : Int) (us : List AV) (m : Nat) (most : Int) (x : RdX) (come n : Int) (y : Rdr) (over : Bool) (k : Ex → St → Bool) : Bool :=
  br over (br (decide (come = 2)) (br (!decide (y.code = 230)) (k .ret (hdT c t us m most x true come n)) (k .ret (hdT c t us m most x (decide (n = 3)) come n))) (k .ret (hdT c t us m most x false come n))) (k .normal (hd c t us m most (xOf y) come (IntKind.wrap .i64 (n + 1))))
noncomputable def tS (c : Conf) (t : Int) (us : List AV) (m : Nat) (most : Int) (x : RdX) (u : CelU) (come n : Int) (y : Rdr) (over : Bool) (k : Ex → St → Bool) : Bool :=
  br (decide ((Int.ofNat m) > 0)) (br (decide ((Int.ofNat m) = 0)) false (ba (inside (Int.tmod n (Int.ofNat m)) m && Nat.beq (List.length us) (m * 4)) (ba (Nat.ble (at4 m n + 4) (List.length us)) (ba (AV.isI .u64 (lget us (at4 m n))) (ba (AV.isI .u64 (lget us (at4 m n + 1))) (ba (AV.isI .u64 (lget us (at4 m n + 1 + 1))) (ba (AV.isI .u64 (lget us (at4 m n + 1 + 1 + 1))) (ba (onP (c = c ∧ t = t ∧ x = x ∧ celL us m n = u)) (tI c t us m most x come n y over k)))))))))
    (ba (onP (c = c ∧ t = t ∧ x = x ∧ celZ = u)) (tI c t us m most x come n y over k))
noncomputable def tB (c : Conf) (t : Int) (us : List AV) (m : Nat) (most : Int) (x : RdX) (come n : Int) (u : CelU) (kd : Int) (y : Rdr) (over : Bool) (k : Ex → St → Bool) : Bool :=
  br (decide (n ≤ most)) (ba (onP (c = c ∧ t = t ∧ x = x)) (br (decide (kd = 3)) (k .ret (hdT c t us m most x false come n)) (br (decide (kd = 2)) (tS c t us m most x u (IntKind.wrap .i64 (come + 1)) n y over k) (br (decide (kd = 4)) (tS c t us m most x u (IntKind.wrap .i64 (come + 1)) n y over k) (tS c t us m most x u come n y over k)))))
    (k (.exit 0) (hdT c t us m most x false come n))
theorem t_body0 (c : Conf) (t : Int) (us : List AV) (m : Nat) (most : Int) (pc ver inst batch : Int) (f : Frm) (code v given : Int) (come n : Int) (u : CelU) (kd : Int) (g : Nat → Int) (y : Rdr) (over : Bool) (k : Ex → St → Bool) : run (cB c t ⟨pc, ver, inst, batch, f, code, v, none, given⟩ u kd g y over) 400 none none body (hd c t us m most ⟨pc, ver, inst, batch, f, code, v, none, given⟩ come n) (fun e s => dk 8 [1, 3, 4, 8, 9, 10, 12, 14, 15] e s k) false = tB c t us m most ⟨pc, ver, inst, batch, f, code, v, none, given⟩ come n u kd y over k := by kernel_rfl
theorem t_body1 (c : Conf) (t : Int) (us : List AV) (m : Nat) (most : Int) (pc ver inst batch : Int) (f : Frm) (code v given : Int) (us1 : List AV) (m1 : Nat) (come n : Int) (u : CelU) (kd : Int) (g : Nat → Int) (y : Rdr) (over : Bool) (k : Ex → St → Bool) : run (cB c t ⟨pc, ver, inst, batch, f, code, v, some (us1, m1), given⟩ u kd g y over) 400 none none body (hd c t us m most ⟨pc, ver, inst, batch, f, code, v, some (us1, m1), given⟩ come n) (fun e s => dk 8 [1, 3, 4, 8, 9, 10, 12, 14, 15] e s k) false = tB c t us m most ⟨pc, ver, inst, batch, f, code, v, some (us1, m1), given⟩ come n u kd y over k := by kernel_rfl
theorem t_body (c : Conf) (t : Int) (us : List AV) (m : Nat) (most : Int) (x : RdX) (come n : Int) (u : CelU) (kd : Int) (g : Nat → Int) (y : Rdr) (over : Bool) (k : Ex → St → Bool) : run (cB c t x u kd g y over) 400 none none body (hd c t us m most x come n) (fun e s => dk 8 [1, 3, 4, 8, 9, 10, 12, 14, 15] e s k) false = tB c t us m most x come n u kd y over k := by
  obtain ⟨pc, ver, inst, batch, f, code, v, rows, given⟩ := x
  cases rows with
  | none => exact t_body0 c t us m most pc ver inst batch f code v given come n u kd g y over k
  | some p => exact t_body1 c t us m most pc ver inst batch f code v given p.1 p.2 come n u kd g y over k
end Go.Bas.BasZRF
end
section
namespace Go.Bas.BasZRG
open Go.RowKit Go.Proofs
open Go.Bas.BasZBase Go.Bas.BasZOp Go.Bas.BasZOk Go.Bas.BasZRdA Go.Bas.BasZRdL Go.Bas.BasZRdN Go.Bas.BasZRdP Go.Bas.BasZRb Go.Bas.BasZRdR Go.Bas.BasZRdS Go.Bas.BasZRs Go.Bas.BasZRda Go.Bas.BasZRdn Go.Bas.BasZRdU Go.Bas.BasZRdV Go.Bas.BasZPk2 Go.Bas.BasZPk3 Go.Bas.BasZRE Go.Bas.BasZRF
set_option maxRecDepth 100000
set_option maxHeartbeats 4000000
set_option linter.unusedVariables false
set_option linter.unusedSimpArgs false
theorem wi64_ {i : Int} (h0 : 0 ≤ i) (h : i ≤ 1000000) : IntKind.wrap .i64 i = i := by
  simp only [IntKind.wrap, IntKind.signed, IntKind.bits]
  (try simp) <;> omega
theorem left_pos {c : Conf} {t : Int} {r : Rdr} (h : RI c t r) : 1 ≤ LEFT c r := by
  have hm := mu_nn h.1
  unfold LEFT
  cases decide (r.pc = 1) <;> cases decide (r.pc = 2) <;> cases decide (r.pc = 3) <;> cases (decide (r.pc = 4) || decide (r.pc = 5)) <;> simp only [cond_true, cond_false] <;> omega
/-- Where the loop may be. -/
def LI (c : Conf) (t : Int) (most : Int) (x : RdX) (come n : Int) : Prop := RI c t x.rd ∧ 1 ≤ n ∧ n - 1 + LEFT c x.rd ≤ most ∧ most ≤ 1000 ∧
  (x.pc = 1 → n = 1 ∧ come = 0) ∧ (x.pc = 2 → n = 2 ∧ come = 0) ∧ (x.pc = 3 ∨ x.pc = 7 → n = 3 ∧ come = 1) ∧ (x.pc = 4 ∨ x.pc = 5 ∨ x.pc = 6 → come = 1)
/-- The list of cells. -/
def CL (us : List AV) (m : Nat) : Prop := us.length = m * 4 ∧ m ≤ 100 ∧ ∀ j, j < us.length → AV.isI .u64 (lget us j) = true ∧ 0 ≤ (lget us j).toI
noncomputable def uOf (us : List AV) (m : Nat) (n : Int) : CelU := cond (decide ((Int.ofNat m) > 0)) (celL us m n) celZ
theorem tmod_in {m : Nat} {n : Int} (hm : (0 : Int) < Int.ofNat m) (hn : 1 ≤ n) : 0 ≤ Int.tmod n (Int.ofNat m) ∧ Int.tmod n (Int.ofNat m) < Int.ofNat m := ⟨Int.tmod_nonneg _ (by omega), Int.tmod_lt_of_pos _ hm⟩
theorem at_lt {us : List AV} {m : Nat} {n : Int} (hc : CL us m) (hm : (0 : Int) < Int.ofNat m) (hn : 1 ≤ n) : at4 m n + 4 ≤ us.length := by
  have h := tmod_in hm hn
  have e : (Int.ofNat m : Int) = (m : Int) := rfl
  have h1 : (Int.tmod n (Int.ofNat m)).toNat < m := by omega
  rw [hc.1]
  show (Int.tmod n (Int.ofNat m)).toNat * 4 + 4 ≤ m * 4
  omega
theorem uOf_ok {us : List AV} {m : Nat} {n : Int} (hc : CL us m) (hn : 1 ≤ n) : (uOf us m n).ok = true := by
  unfold uOf
  cases hm : decide ((Int.ofNat m) > 0) with
  | false => rfl
  | true =>
    have h := at_lt hc (of_decide_eq_true hm) hn
    have h2 := (hc.2.2 (at4 m n + 1) (by omega)).2
    show (AV.isI .u64 _ && (AV.isI .u64 _ && (AV.isI .u64 _ && (AV.isI .u64 _ && decide (0 ≤ (lget us (at4 m n + 1)).toI))))) = true
    rw [decide_eq_true h2]
    rfl
noncomputable def gN (c : Conf) (t : Int) (r : Rdr) : Nat → Int
  | 1 => f_rdn_1 c t r
  | 2 => f_rdn_2 c t r
  | 3 => f_rdn_3 c t r
  | 4 => f_rdn_4 c t r
  | 5 => f_rdn_5 c t r
  | 6 => f_rdn_6 c t r
  | 7 => f_rdn_7 c t r
  | 8 => f_rdn_8 c t r
  | _ => f_rdn_9 c t r
theorem okQ_0 {p e kd : Int} (h : okQ p e kd = true) : e = 0 := by
  unfold okQ at h
  cases hp : (decide (p = 2) || (decide (p = 6) || decide (p = 7))) with
  | true =>
    rw [hp] at h
    have h : isSt e kd = true := h
    unfold isSt at h
    exact of_decide_eq_true (and_left h)
  | false =>
    rw [hp] at h
    have h : isLd e kd = true := h
    unfold isLd at h
    exact of_decide_eq_true (and_left h)
theorem okQ_st {p e kd : Int} (h : okQ p e kd = true) (hp : p = 2 ∨ p = 6 ∨ p = 7) : kd = 2 ∨ kd = 4 := by
  unfold okQ at h
  have : (decide (p = 2) || (decide (p = 6) || decide (p = 7))) = true := by simp only [Bool.or_eq_true, decide_eq_true_eq]; exact hp
  rw [this] at h
  have h : isSt e kd = true := h
  unfold isSt at h
  have := and_right h
  simp only [Bool.or_eq_true, decide_eq_true_eq] at this
  exact this
theorem okQ_ld {p e kd : Int} (h : okQ p e kd = true) (hp : ¬ (p = 2 ∨ p = 6 ∨ p = 7)) : kd = 1 ∨ kd = 0 := by
  unfold okQ at h
  have : (decide (p = 2) || (decide (p = 6) || decide (p = 7))) = false := by
    rw [Bool.eq_false_iff]
    intro hh
    simp only [Bool.or_eq_true, decide_eq_true_eq] at hh
    exact hp hh
  rw [this] at h
  have h : isLd e kd = true := h
  unfold isLd at h
  have := and_right h
  simp only [Bool.or_eq_true, decide_eq_true_eq] at this
  exact this
theorem q_n {c : Conf} {t : Int} {x : RdX} (hk : okRI c t x.rd = true) : ACalls Tryz.prog (gmap gs) 7 [c.av, .int .i64 t, x.av] (fun v => v = o_rdn c t x.rd) := ACalls.wk (s_rdnx [c.av, .int .i64 t, x.rd.av] (o_rdn c t x.rd) (by
  show some (okRI c t x.rd, o_rdn c t x.rd) = _
  rw [hk])) (.cons (.refl _) (.cons (.refl _) (.cons x.wk .nil))) (.refl _)
theorem q_a {c : Conf} {t : Int} {x : RdX} {u : CelU} (hk : okRI c t x.rd = true) (hu : u.ok = true) : ACalls Tryz.prog (gmap gs) 8 [c.av, .int .i64 t, x.av, u.av] (fun v => v = o_rda c t x.rd u.cel) := ACalls.wk (s_rdax [c.av, .int .i64 t, x.rd.av, u.av] (o_rda c t x.rd u.cel) (by
  show some (okRI c t x.rd && u.ok, o_rda c t x.rd u.cel) = _
  rw [hk, hu]
  rfl)) (.cons (.refl _) (.cons (.refl _) (.cons x.wk (.cons (.refl _) .nil)))) (.refl _)
theorem s_n {c : Conf} {t : Int} {x : RdX} (hR : RI c t x.rd) : SumOk Tryz.prog (gmap gs) (S_n c t x (f_rdn_0 c t x.rd) (gN c t x.rd)) := on3_sum fun c1 t1 x1 hp => by
  obtain ⟨rfl, rfl, rfl⟩ := of_onP hp
  have hk := okRI_is hR
  have e : o_rdn c1 t1 x1.rd = .tup [accAV (f_rdn_0 c1 t1 x1.rd) (gN c1 t1 x1.rd), .int .i64 0] := by
    have h0 := okQ_0 (rdn_ok hk)
    unfold o_rdn
    rw [h0]
    rfl
  have q := q_n hk
  rw [e] at q
  exact q
theorem s_a {c : Conf} {t : Int} {x : RdX} {u : CelU} (hR : RI c t x.rd) (hu : u.ok = true) : SumOk Tryz.prog (gmap gs) (S_a c t x u (nxR c t x.rd u.cel) (f_rda_20 c t x.rd u.cel)) := on4_sum fun c1 t1 x1 u1 hp => by
  obtain ⟨rfl, rfl, rfl, rfl⟩ := of_onP hp
  have hk := okRI_is hR
  have e : o_rda c1 t1 x1.rd u1.cel = .tup [(nxR c1 t1 x1.rd u1.cel).av, .bool (f_rda_20 c1 t1 x1.rd u1.cel), .int .i64 0] := by
    have h0 := (rda_ok hk (CelU.is hu).2).1
    unfold o_rda
    rw [h0]
    rfl
  have q := q_a hk hu
  rw [e] at q
  exact q
/-- What a round comes to. -/
def GOOD (c : Conf) (t : Int) (us : List AV) (m : Nat) (most n : Int) (e : Ex) (s : St) : Prop := (e = .normal ∧ ∃ x come, LI c t most x come (n + 1) ∧ n ≤ most ∧ s = hd c t us m most x come (n + 1)) ∨ (e = .ret ∧ ∃ x come, s = hdT c t us m most x true come n)
theorem tI_ok {c : Conf} {t : Int} {us : List AV} {m : Nat} {most n come come1 : Int} {x : RdX} {y : Rdr} {over : Bool} {k : Ex → St → Bool} (hL : LI c t most x come n) (hS : RSTEP c t x.rd 0 over y)
    (hc : (x.pc = 2 ∨ x.pc = 6 ∨ x.pc = 7) ∧ come1 = come + 1 ∨ ¬ (x.pc = 2 ∨ x.pc = 6 ∨ x.pc = 7) ∧ come1 = come) (hk : ∀ e s, GOOD c t us m most n e s → k e s = true) : tI c t us m most x come1 n y over k = true := by
  obtain ⟨hR, h1, h2, h3, p1, p2, p3, p4⟩ := hL
  have hl := left_pos hR
  obtain ⟨_, s1, s2⟩ := hS
  unfold tI
  cases over with
  | true =>
    refine btb rfl ?_
    have q : x.pc = 6 ∧ y.code ≠ 230 ∨ x.pc = 7 := s1 rfl
    have hcome : come = 1 := by
      rcases q with q | q
      · exact p4 (.inr (.inr q.1))
      · exact (p3 (.inr q)).2
    have h12 : come1 = 2 := by omega
    refine btb (decide_eq_true h12) ?_
    refine bdt (fun _ => hk _ _ (.inr ⟨rfl, x, come1, rfl⟩)) (fun hf => ?_)
    have hy : y.code = 230 := by simpa using hf
    have h7 : n = 3 := by
      rcases q with q | q
      · exact absurd hy q.2
      · exact (p3 (.inr q)).1
    rw [decide_eq_true h7]
    exact hk _ _ (.inr ⟨rfl, x, come1, rfl⟩)
  | false =>
    refine btf rfl ?_
    obtain ⟨r1, r2, r3⟩ := s2 rfl
    have hl1 := left_pos r1
    have r2 : LEFT c y + 1 ≤ LEFT c x.rd := r2
    have hn : IntKind.wrap .i64 (n + 1) = n + 1 := wi64_ (by omega) (by omega)
    rw [hn]
    refine hk _ _ (.inl ⟨rfl, xOf y, come1, ⟨r1, by omega, ?_, h3, ?_, ?_, ?_, ?_⟩, by omega, rfl⟩)
    · show n + 1 - 1 + LEFT c y ≤ most
      omega
    all_goals
      obtain ⟨g1, g2, g3⟩ := r3
      have g1 : x.pc = 1 → y.pc = 2 := g1
      have g2 : x.pc = 2 → y.pc = 3 ∨ y.pc = 7 := g2
      have g3 : ¬ x.pc = 1 → ¬ x.pc = 2 → y.pc = 4 ∨ y.pc = 5 ∨ y.pc = 6 := g3
      have hat : atR x.pc x.f.pc := hR.2.2.2.2.2.2.1
      unfold atR at hat
      have h67 : ¬ (x.pc = 6 ∨ x.pc = 7) := by
        intro hh
        have : LEFT c x.rd = 1 := by
          rcases hh with hh | hh
          · show cond (decide (x.pc = 1)) _ (cond (decide (x.pc = 2)) _ (cond (decide (x.pc = 3)) _ (cond (decide (x.pc = 4) || decide (x.pc = 5)) _ 1))) = 1
            rw [hh]; rfl
          · show cond (decide (x.pc = 1)) _ (cond (decide (x.pc = 2)) _ (cond (decide (x.pc = 3)) _ (cond (decide (x.pc = 4) || decide (x.pc = 5)) _ 1))) = 1
            rw [hh]; rfl
        omega
      have e : (xOf y).pc = y.pc := rfl
      rw [e]
      intro hy
    · omega
    · omega
    · omega
    · omega
theorem LI_round {c : Conf} {t : Int} {us : List AV} {m : Nat} {most n come : Int} {x : RdX} {k : Ex → St → Bool} (hC : CL us m) (hL : LI c t most x come n) (hk : ∀ e s, GOOD c t us m most n e s → k e s = true) :
    tB c t us m most x come n (uOf us m n) (f_rdn_0 c t x.rd) (nxR c t x.rd (uOf us m n).cel) (f_rda_20 c t x.rd (uOf us m n).cel) k = true := by
  have hR := hL.1
  have hkR := okRI_is hR
  have hl := left_pos hR
  have hn := hL.2.1
  have hm := hL.2.2.1
  have hu := uOf_ok (us := us) (m := m) (n := n) hC hn
  have hS := rda_ok hkR (CelU.is hu).2
  have hQ := rdn_ok hkR
  rw [hS.1] at hS
  have hat : atR x.pc x.f.pc := hR.2.2.2.2.2.2.1
  have tS_ok : ∀ come1, ((x.pc = 2 ∨ x.pc = 6 ∨ x.pc = 7) ∧ come1 = come + 1 ∨ ¬ (x.pc = 2 ∨ x.pc = 6 ∨ x.pc = 7) ∧ come1 = come) → tS c t us m most x (uOf us m n) come1 n (nxR c t x.rd (uOf us m n).cel) (f_rda_20 c t x.rd (uOf us m n).cel) k = true := by
    intro come1 hc
    have hI := tI_ok hL hS hc hk
    unfold tS
    refine bdt (fun h0 => ?_) (fun h0 => ?_)
    · have h0' := of_decide_eq_true h0
      have ha := at_lt hC h0' hn
      have ht := tmod_in h0' hn
      have eu : celL us m n = uOf us m n := by unfold uOf; rw [h0]; rfl
      refine btf (decide_eq_false (by omega)) (band ?_ (band (Nat.ble_eq_true_of_le ha) (band (hC.2.2 _ (by omega)).1 (band (hC.2.2 _ (by omega)).1 (band (hC.2.2 _ (by omega)).1 (band (hC.2.2 _ (by omega)).1 (band (onP_true ⟨rfl, rfl, rfl, eu⟩) hI)))))))
      rw [hC.1]
      simp only [inside, Bool.and_eq_true, decide_eq_true_eq]
      exact ⟨⟨ht.1, ht.2⟩, Nat.beq_refl _⟩
    · have eu : celZ = uOf us m n := by unfold uOf; rw [h0]; rfl
      exact band (onP_true ⟨rfl, rfl, rfl, eu⟩) hI
  unfold tB
  refine btb (decide_eq_true (by omega)) (band (onP_true ⟨rfl, rfl, rfl⟩) ?_)
  have hw : come = 0 ∨ come = 1 := by
    obtain ⟨_, _, _, _, p1, p2, p3, p4⟩ := hL
    unfold atR at hat
    omega
  have hwc : IntKind.wrap .i64 (come + 1) = come + 1 := wi64_ (by omega) (by omega)
  by_cases hp : x.pc = 2 ∨ x.pc = 6 ∨ x.pc = 7
  · have hkd := okQ_st hQ hp
    rw [hwc]
    refine btf (decide_eq_false (by omega)) (bdt (fun _ => tS_ok _ (.inl ⟨hp, rfl⟩)) (fun h2 => btb (decide_eq_true (by have := of_decide_eq_false h2; omega)) (tS_ok _ (.inl ⟨hp, rfl⟩))))
  · have hkd := okQ_ld hQ hp
    refine btf (decide_eq_false (by omega)) (btf (decide_eq_false (by omega)) (btf (decide_eq_false (by omega)) (tS_ok _ (.inr ⟨hp, rfl⟩))))
end Go.Bas.BasZRG
end
section
namespace Go.Bas.BasZRH
open Go.RowKit Go.Proofs
open Go.Bas.BasZBase Go.Bas.BasZOp Go.Bas.BasZOk Go.Bas.BasZTreB Go.Bas.BasZRdA Go.Bas.BasZRdL Go.Bas.BasZRdN Go.Bas.BasZRdP Go.Bas.BasZRb Go.Bas.BasZRdR Go.Bas.BasZRdS Go.Bas.BasZRs Go.Bas.BasZRda Go.Bas.BasZRdn Go.Bas.BasZRdU Go.Bas.BasZRdV Go.Bas.BasZPk2 Go.Bas.BasZPk3 Go.Bas.BasZRE Go.Bas.BasZRF Go.Bas.BasZRG
set_option maxRecDepth 100000
set_option maxHeartbeats 4000000
set_option linter.unusedVariables false
set_option linter.unusedSimpArgs false
noncomputable abbrev lS : List Sum := [BasReadAlive.S_alive, S_opp, BasZOp.S_wr, S_pkT]
noncomputable abbrev cR : Cfg := cfg lS
theorem sumsR : ∀ s ∈ lS, SumOk Tryz.prog (gmap gs) s := sums_cons BasReadAlive.s_alive (sums_cons s_opp (sums_cons BasZOp.s_wr (sums_cons s_pkT sums_nil)))
theorem sim_cfg {l l' : List Sum} {w : World} {B oC oL : Nat → Prop} {ω : Nat → Option Nat} {st : St} {a : Act} (S : Sim (cfg l) w B oC oL ω st a) : Sim (cfg l') w B oC oL ω st a := ⟨S.tm, S.dn, ⟨S.ms.hp, S.ms.lp, S.ms.gl, S.ms.gb, S.ms.bl⟩⟩
theorem awp_cfg {l l' : List Sum} {inr : Option Nat} {code : Code} {st : St} {K : Ex → St → Prop} (h : AWp (cfg l) inr code st K) : AWp (cfg l') inr code st K := fun w B oC oL ω a Q ro S hI hQ => h w B oC oL ω a Q ro (sim_cfg S) hI (fun e st' a' w' oC' oL' ω' out S' E hk ho => hQ e st' a' w' oC' oL' ω' out (sim_cfg S') E hk ho)
theorem e0_is (c : Conf) (t : Int) (us : List AV) (m : Nat) (most : Int) (x : RdX) (come n : Int) : keepSH [8] [] (hdT c t us m most x true come n) = E0 := by kernel_rfl
theorem z_loop {c : Conf} {t : Int} {us : List AV} {m : Nat} {most come n : Int} {x : RdX} (hC : CL us m) (hL : LI c t most x come n) {K : Ex → St → Prop} (hK : K .ret E0) : AWp cR none (.loop body) (hd c t us m most x come n) K := by
  classical
  refine AWp.loopD (K := K) (fun i : { p : RdX × Int × Int // LI c t most p.1 p.2.1 p.2.2 } => hd c t us m most i.1.1 i.1.2.1 i.1.2.2) 8 (fun _ => rfl) (fun i => (most + 1 - i.1.2.2).toNat) ?_ ⟨(x, come, n), hL⟩
  rintro ⟨⟨x, come, n⟩, hL⟩
  have hL : LI c t most x come n := hL
  have hR := hL.1
  have hu := uOf_ok (us := us) (m := m) (n := n) hC hL.2.1
  have hB : (cB c t x (uOf us m n) (f_rdn_0 c t x.rd) (gN c t x.rd) (nxR c t x.rd (uOf us m n).cel) (f_rda_20 c t x.rd (uOf us m n).cel)).Ok := cfg_ok base (sums_cons (s_n hR) (sums_cons (s_a hR hu) sums_nil))
  have ht := (t_body c t us m most x come n (uOf us m n) (f_rdn_0 c t x.rd) (gN c t x.rd) (nxR c t x.rd (uOf us m n).cel) (f_rda_20 c t x.rd (uOf us m n).cel) (fun e s => onP (GOOD c t us m most n e s))).trans (LI_round hC hL fun e s h => onP_true h)
  have key : AWp (cB c t x (uOf us m n) (f_rdn_0 c t x.rd) (gN c t x.rd) (nxR c t x.rd (uOf us m n).cel) (f_rda_20 c t x.rd (uOf us m n).cel)) none body (hd c t us m most x come n) (fun e s => match e with
      | .normal => ∃ j : { p : RdX × Int × Int // LI c t most p.1 p.2.1 p.2.2 }, (most + 1 - j.1.2.2).toNat < (most + 1 - n).toNat ∧ LessD cR 8 s (hd c t us m most j.1.1 j.1.2.1 j.1.2.2)
      | .panic _ => False
      | e => ∃ s', LessD cR 8 s s' ∧ K e s') := by
    refine AWp.mono (fun e s he => ?_) (fun w B oC oL ω a Q ro S hI hQ => (run_sound hB 400).1 none body _ _ w B oC oL ω a Q ro ht S hI hQ)
    obtain ⟨l, hk⟩ := dk_lessD (C := cR) he
    rcases of_onP hk with ⟨rfl, x1, come1, hL1, hn, hs⟩ | ⟨rfl, x1, come1, hs⟩
    · rw [hs] at l
      refine ⟨⟨(x1, come1, n + 1), hL1⟩, ?_, l⟩
      show (most + 1 - (n + 1)).toNat < (most + 1 - n).toNat
      omega
    · rw [hs] at l
      refine ⟨E0, l.trans ?_, hK⟩
      have l2 := (LessS.keepSH (C := cR) [8] [] (hdT c t us m most x1 true come1 n)).d
      rw [e0_is] at l2
      exact l2
  exact awp_cfg key
/-- The loop's head, asv the law comes to it. -/
def okH (s : St) : Prop := ∃ (c : Conf) (t : Int) (us : List AV) (m : Nat) (most : Int) (x : RdX), CL us m ∧ LI c t most x 0 1 ∧ s = hd c t us m most x 0 1
noncomputable def zF : LF := fun st k => cond (onP (okH (keepSH [1, 3, 4, 8, 9, 10, 12, 14, 15] [7, 0] st))) (k .ret E0) false
theorem zF_ok : ∀ (st : St) (k : Ex → St → Bool), zF st k = true → AWq cR (.loop body) st (fun e s => k e s = true) := fun st k h => by
  obtain ⟨h1, h2⟩ := of_cond h
  obtain ⟨c, t, us, m, most, x, hC, hL, hs⟩ := of_onP h1
  refine (AWp.less (hs ▸ LessS.keepSH [1, 3, 4, 8, 9, 10, 12, 14, 15] [7, 0] st) ?_).q
  exact z_loop hC hL (K := fun e s => k e s = true) h2
theorem z_loops : loopsOf (fcode Tryz.prog 3) = [.loop body] := by kernel_rfl
theorem z_ok : LoopsOk cR (loopsOf (fcode Tryz.prog 3)) [zF] := by
  rw [z_loops]
  exact ⟨zF_ok, trivial⟩
/-- A reader that begins. -/
noncomputable def x0 (o : Opr) : RdX := ⟨1, 0, 0, 0, ⟨o.kind, o.a, o.b, 0, 0, 0, 0, 0, 0, 0, o.c⟩, 0, 0, none, 0⟩
noncomputable def hdD (c : Conf) (t : Int) (us : List AV) (m : Nat) (most : Int) : St := ⟨[.any, .int .i64 t, .any, .lst us m, .ptr 0 0, .any, .any, .any, .bool false, .bool true, .ptr 5 0, .any, .int .i64 most, .any, .int .i64 0, .int .i64 1, .any, .any, .any, .any, .any, .any, .any, .any, .any, .any, .any, .any, .any, .any, .any, .any, .any, .any, .any, .any, .any, .any, .any, .any, .any, .any, .any, .any, .any, .any, .any, .any, .any, .any, .any, .any, .any, .any, .any, .any, .any, .any, .any, .any, .any, .any, .any, .any, .any, .any, .any, .any, .any, .any, .any, .any, .any, .any, .any, .any, .any, .any, .any, .any, .any, .any, .any, .any, .any, .any, .any, .any, .any, .any, .any, .any, .any, .any, .any, .any, .any, .any, .any, .any, .any, .any, .any, .any, .any, .any, .any, .any, .any, .any, .any, .any, .any, .any, .any, .any, .any, .any, .any, .any, .any, .any, .any, .any, .any, .any, .any, .any], [], ⟨[(0, ⟨c.cells, 24, true⟩)], 6, []⟩⟩
noncomputable def tL (c : Conf) (t : Int) (o : Opr) (us : List AV) (m : Nat) (k : AV → Bool) : Bool :=
  ba (posO o) (br (!decide (f_opc_0 c o = 0))
    (ba (decide (0 ≤ o.kind) && decide (o.kind ≤ 255)) (br (decide ((Int.ofNat m) > 100)) (k (.bool true)) (br (decide (t < 0)) (k (.bool true)) (br (decide (t ≥ c.thr)) (k (.bool true)) (br (!decide (f_opc_0 c o = 0)) (k (.bool true)) (br (!decide (pkB c o.kind = 0)) (k (.bool false)) (ba (onP (okH (hdD c t us m (pkA c o.kind)))) (k (.bool true)))))))))
    (ba (ok_wr o.kind) (br (f_wr_0 o.kind)
      (ba (decide (0 ≤ o.kind) && decide (o.kind ≤ 255)) (br (decide ((Int.ofNat m) > 100)) (k (.bool true)) (br (decide (t < 0)) (k (.bool true)) (br (decide (t ≥ c.thr)) (k (.bool true)) (k (.bool true))))))
      (ba (decide (0 ≤ o.kind) && decide (o.kind ≤ 255)) (br (decide ((Int.ofNat m) > 100)) (k (.bool true)) (br (decide (t < 0)) (k (.bool true)) (br (decide (t ≥ c.thr)) (k (.bool true)) (br (!decide (pkB c o.kind = 0)) (k (.bool false)) (ba (onP (okH (hd c t us m (pkA c o.kind) (x0 o) 0 1))) (k (.bool true)))))))))))
theorem t_law (c : Conf) (t : Int) (o : Opr) (us : List AV) (m : Nat) (k : AV → Bool) : runFM cR 400 3 [zF] [c.av, .int .i64 t, o.av, .lst us m] k = tL c t o us m k := by kernel_rfl
/-! The law. -/
theorem fits_c {c : Conf} {o : Opr} (h : f_fits_0 c o = true) : o.kind = 3 ∨ o.kind = 6 ∨ o.kind = 7 ∨ o.kind = 8 ∨ o.kind = 11 ∨ o.kind = 14 → o.c = 0 := by
  unfold f_fits_0 T_fits at h
  revert h
  repeat' (first | (intro h; cases h; done) | refine prb_ (fun h => ?_) (fun h => ?_))
  all_goals
    intro hv hk
    have hv := lf hv
    simp only [decide_eq_true_eq, decide_eq_false_iff_not] at *
    omega
theorem wr_kinds : f_wr_0 1 = true ∧ f_wr_0 2 = true ∧ f_wr_0 4 = true ∧ f_wr_0 5 = true ∧ f_wr_0 9 = true ∧ f_wr_0 10 = true ∧ f_wr_0 12 = true ∧ f_wr_0 13 = true := ⟨by kernel_rfl, by kernel_rfl, by kernel_rfl, by kernel_rfl, by kernel_rfl, by kernel_rfl, by kernel_rfl, by kernel_rfl⟩
theorem many_ge {a b : Int} : 1 ≤ many a b := by
  unfold many
  cases decide (ishr .u32 a 16 = 0) <;> cases decide (b = 0) <;> simp
theorem pk_of {c : Conf} {o : Opr} (h0 : 0 ≤ o.kind ∧ o.kind ≤ 255) (hb : 0 ≤ o.b) (hc : f_opc_0 c o = 0) (hw : f_wr_0 o.kind = false) : PkOk c o.kind ∧ o.c = 0 := by
  obtain ⟨q1, q2, he⟩ := opc_0 h0.1 h0.2 hb hc
  have hk := ok_true.1 (of_errC he)
  have hob : 1 ≤ c.ob ∧ c.ob ≤ 4 := by have h := hk; unfold Conf.OkP at h; omega
  obtain ⟨w1, w2, w4, w5, w9, w10, w12, w13⟩ := wr_kinds
  have nw : ∀ k, f_wr_0 k = true → o.kind ≠ k := fun k hk hh => by rw [hh, hk] at hw; cases hw
  have n1 := nw 1 w1
  have n2 := nw 2 w2
  have n4 := nw 4 w4
  have n5 := nw 5 w5
  have n9 := nw 9 w9
  have n10 := nw 10 w10
  have n12 := nw 12 w12
  have n13 := nw 13 w13
  have hK : o.kind = 3 ∧ c.ob = 1 ∨ o.kind = 11 ∧ c.ob = 3 ∨ o.kind = 14 ∧ c.ob = 4 ∨ (o.kind = 6 ∨ o.kind = 7 ∨ o.kind = 8) ∧ c.ob = 2 := by
    rcases obj_all h0.1 h0.2 with ⟨a, b⟩ | ⟨a, b⟩ | ⟨a, b⟩ | ⟨a, b⟩ | ⟨a, b⟩ <;> omega
  exact ⟨⟨he, hK⟩, fits_c q2 (by omega)⟩
theorem start_LI {c : Conf} {t : Int} {o : Opr} (h0 : 0 ≤ o.kind ∧ o.kind ≤ 255) (hb : 0 ≤ o.b ∧ o.b ≤ 4294967295) (hc : f_opc_0 c o = 0) (hw : f_wr_0 o.kind = false) (ht : 0 ≤ t ∧ t < c.thr) : LI c t (pkV c o.kind) (x0 o) 0 1 := by
  obtain ⟨⟨he, hK⟩, hc0⟩ := pk_of h0 hb.1 hc hw
  have hk := ok_true.1 (of_errC he)
  have hcp := capP hk
  have hin := insP hk
  have hc1 : f_opc_0 c ⟨o.kind, o.a, o.b, 0⟩ = 0 := by
    have e : (⟨o.kind, o.a, o.b, 0⟩ : Opr) = o := by
      obtain ⟨k, a, b, cc⟩ := o
      have : cc = 0 := hc0
      rw [this]
    rw [e]
    exact hc
  have hI : INV c o.kind o.a o.b 0 0 0 0 0 0 := by
    rcases hK with ⟨q, ho⟩ | ⟨q, ho⟩ | ⟨q, ho⟩ | ⟨q, ho⟩
    · have := bitP hk ho
      exact .inl ⟨q, ho, .inl rfl, Int.le_refl 0, by omega⟩
    · exact .inr (.inl ⟨q, ho, .inl rfl, Int.le_refl 0, by omega, rfl, rfl⟩)
    · have := many_ge (a := o.a) (b := o.b)
      exact .inr (.inr (.inl ⟨q, ho, .inl ⟨rfl, by omega, Int.le_refl 0⟩, Int.le_refl 0, Int.le_refl 0, by omega, Int.le_refl 0, by omega, Int.le_refl 0, by omega, Int.le_refl 0, by omega⟩))
    · have := lvP hk ho
      exact .inr (.inr (.inr ⟨q, ho, ⟨Int.le_refl 0, by decide, Int.le_refl 0, Int.le_refl 0, by omega, Int.le_refl 0, by omega, Int.le_refl 0, by omega⟩, .inl ⟨rfl, rfl⟩⟩))
  have hOk : RdOk c (x0 o).rd.f := ⟨he, hc1, posF_of h0 hb ⟨Int.le_refl 0, by decide⟩, hI⟩
  have hrho : rhoF c (x0 o).rd.f ≤ c.cap := by
    show RHO c o.kind 0 0 0 ≤ c.cap
    rcases hK with ⟨q, ho⟩ | ⟨q, ho⟩ | ⟨q, ho⟩ | ⟨q, ho⟩
    · rw [q]; show (0 : Int) ≤ c.cap; omega
    · rw [q]; show (0 : Int) ≤ c.cap; omega
    · rw [q]; show (0 : Int) ≤ c.cap; omega
    · rcases q with q | q | q
      · rw [q]; show (0 : Int) ≤ c.cap; omega
      · rw [q]; show (1 : Int) ≤ c.cap; omega
      · rw [q]; show c.cap ≤ c.cap; exact Int.le_refl _
  have hmu : 4 + muF c (x0 o).rd.f ≤ pkV c o.kind ∧ pkV c o.kind ≤ 1000 := by
    have e : muF c (x0 o).rd.f = MU c o.kind o.a o.b 0 0 0 0 0 0 := rfl
    rw [e]
    rcases hK with ⟨q, ho⟩ | ⟨q, ho⟩ | ⟨q, ho⟩ | ⟨q, ho⟩
    · have := bitP hk ho
      rw [q]
      show 4 + (c.bits - 0 + 1) ≤ 4 + (c.bits + 1) ∧ 4 + (c.bits + 1) ≤ 1000
      omega
    · rw [q]
      show 4 + (c.cap - 0) ≤ 4 + c.cap ∧ 4 + c.cap ≤ 1000
      omega
    · have h3 := many_le (a := o.a) (b := o.b)
      have h2 := Int.mul_le_mul_of_nonneg_right (show many o.a o.b - 0 ≤ 3 by omega) (show 0 ≤ c.cap by omega)
      rw [q]
      show 4 + ((many o.a o.b - 0) * c.cap - 0) ≤ 4 + 3 * c.cap ∧ 4 + 3 * c.cap ≤ 1000
      omega
    · have hn := nodeL hk ho (rfl : (lvN c.cap c.node : Int) = (lvN c.cap c.node : Int))
      have hxI : xI c o.kind ≤ 64 := by
        rcases q with q | q | q
        · rw [q, x_6]; decide
        · rw [q, x_7]; decide
        · rw [q, x_8]
          have := Nat.div_le_self c.cap.toNat c.chunk.toNat
          generalize c.cap.toNat / c.chunk.toNat = Z at this
          omega
      have e1 : pkV c o.kind = 4 + (1 + c.node * (lvN c.cap c.node : Int) + xI c o.kind) := by
        rcases q with q | q | q <;> rw [q] <;> rfl
      rw [e1, mu_0 q]
      omega
  refine ⟨⟨hOk, ht, ⟨Int.le_refl 0, (by decide : (0 : Int) ≤ 1)⟩, ⟨Int.le_refl 0, by show (0 : Int) < c.ins; omega⟩, ⟨rfl, rfl, by show ((0 : Nat) : Int) + rhoF c (x0 o).rd.f ≤ c.cap; omega⟩, ⟨Int.le_refl 0, Int.le_refl 0⟩, .inl rfl, fun h => absurd (show (1 : Int) = 6 from h) (by decide)⟩, Int.le_refl 1, ?_, hmu.2, fun _ => ⟨rfl, rfl⟩, fun h => absurd (show (1 : Int) = 2 from h) (by decide), fun h => absurd (show (1 : Int) = 3 ∨ (1 : Int) = 7 from h) (by decide), fun h => absurd (show (1 : Int) = 4 ∨ (1 : Int) = 5 ∨ (1 : Int) = 6 from h) (by decide)⟩
  show (1 : Int) - 1 + (4 + muF c (x0 o).rd.f) ≤ pkV c o.kind
  omega
theorem tL_ok {c : Conf} {t : Int} {o : Opr} {us : List AV} {m : Nat} {k : AV → Bool} (h0 : 0 ≤ o.kind ∧ o.kind ≤ 255) (hb : 0 ≤ o.b ∧ o.b ≤ 4294967295) (hu : us.length = m * 4 ∧ ∀ j, j < us.length → AV.isI .u64 (lget us j) = true ∧ 0 ≤ (lget us j).toI) (hk : k (.bool true) = true) : tL c t o us m k = true := by
  have hO : posO o = true := by
    unfold posO
    simp only [Bool.and_eq_true, decide_eq_true_eq]
    exact ⟨h0.1, h0.2, hb.1⟩
  have hr : (decide (0 ≤ o.kind) && decide (o.kind ≤ 255)) = true := by rw [decide_eq_true h0.1, decide_eq_true h0.2]; rfl
  unfold tL
  refine band hO (bdt (fun he => ?_) (fun he => band (ok_wr_pos h0.1 h0.2) (bdt (fun hw => ?_) (fun hw => ?_))))
  · exact band hr (bdt (fun _ => hk) fun _ => bdt (fun _ => hk) fun _ => bdt (fun _ => hk) fun _ => btb he hk)
  · exact band hr (bdt (fun _ => hk) fun _ => bdt (fun _ => hk) fun _ => bdt (fun _ => hk) fun _ => hk)
  · refine band hr (bdt (fun _ => hk) fun hm => bdt (fun _ => hk) fun ht0 => bdt (fun _ => hk) fun ht1 => ?_)
    have hc : f_opc_0 c o = 0 := by simpa using he
    have hm := of_decide_eq_false hm
    have ht0 := of_decide_eq_false ht0
    have ht1 := of_decide_eq_false ht1
    have hP := (pkP_is (c := c) h0).2 (pk_of h0 hb.1 hc hw).1
    refine btf (by rw [hP.2]; rfl) (band (onP_true ?_) hk)
    rw [hP.1]
    have e : (Int.ofNat m : Int) = (m : Int) := rfl
    exact ⟨c, t, us, m, _, x0 o, ⟨hu.1, by omega, hu.2⟩, start_LI h0 hb hc hw ⟨by omega, by omega⟩, rfl⟩
theorem lawA (c : Conf) (t : Int) (o : Opr) (us : List AV) (m : Nat) (h0 : 0 ≤ o.kind ∧ o.kind ≤ 255) (hb : 0 ≤ o.b ∧ o.b ≤ 4294967295) (hu : us.length = m * 4 ∧ ∀ j, j < us.length → AV.isI .u64 (lget us j) = true ∧ 0 ≤ (lget us j).toI) : ACalls Tryz.prog (gmap gs) 3 [c.av, .int .i64 t, o.av, .lst us m] (fun v => v = .bool true) :=
  acalls_eqM base sumsR (n := 400) (fs := [zF]) (by kernel_rfl) z_ok fun k hk => (t_law c t o us m k).trans (tL_ok h0 hb hu hk)
end Go.Bas.BasZRH
end
section
namespace Go.Bas.BasZReadEnds
open Go.RowKit Go.Proofs
open Go.Bas.BasZBase Go.Bas.BasZRH
set_option maxRecDepth 100000
set_option linter.unusedVariables false
set_option linter.unusedSimpArgs false
theorem u64_wf {n : Int} (h : (Lit.int .u64 n).wf = true) : 0 ≤ n := by
  have h1 := wf_iff.1 h
  simp only [IntKind.min, IntKind.max, IntKind.signed, IntKind.bits] at h1
  simp at h1
  exact h1.1
theorem cell_get {u : List AV} {r : List AV} (h : ∀ j, j < u.length → AV.isI .u64 (lget u j) = true ∧ 0 ≤ (lget u j).toI) {n : Int} (hn : 0 ≤ n) : ∀ j, j < (.int .u64 n :: u).length → AV.isI .u64 (lget (.int .u64 n :: u) j) = true ∧ 0 ≤ (lget (.int .u64 n :: u) j).toI := fun j hj => by
  cases j with
  | zero => exact ⟨rfl, hn⟩
  | succ j => exact h j (by simpa using hj)
theorem cells_u : ∀ {rows : List (List Value)}, (∀ x ∈ rows, CellsOk [.i .u64, .i .u64, .i .u64, .i .u64] x) → (rows.flatten.map ofS).length = rows.length * 4 ∧ ∀ j, j < (rows.flatten.map ofS).length → AV.isI .u64 (lget (rows.flatten.map ofS) j) = true ∧ 0 ≤ (lget (rows.flatten.map ofS) j).toI
  | [], _ => ⟨rfl, fun j h => absurd h (Nat.not_lt_zero _)⟩
  | x :: r, h => by
    obtain ⟨a, y1, e1, w1, b, y2, e2, w2, c, y3, e3, w3, d, y4, e4, w4, hy⟩ := h x (List.mem_cons_self ..)
    have hy : y4 = [] := hy
    subst hy
    subst e4
    subst e3
    subst e2
    subst e1
    obtain ⟨h1, h2⟩ := cells_u (rows := r) (fun x hx => h x (List.mem_cons_of_mem _ hx))
    have e : ((([.int .u64 a, .int .u64 b, .int .u64 c, .int .u64 d] : List Value) :: r).flatten.map ofS) = (.int .u64 a :: .int .u64 b :: .int .u64 c :: .int .u64 d :: r.flatten.map ofS) := rfl
    rw [e]
    refine ⟨?_, cell_get (r := []) (cell_get (r := []) (cell_get (r := []) (cell_get (r := []) h2 (u64_wf w4)) (u64_wf w3)) (u64_wf w2)) (u64_wf w1)⟩
    simp only [List.length_cons, h1]
    omega
theorem law (c : Conf) (t : Int) (o : Opr) (rows : List (List Value)) (c0 : (Lit.int .u8 c.ob).wf = true) (c1 : (Lit.int .i64 c.ins).wf = true) (c2 : (Lit.int .i64 c.thr).wf = true) (c3 : (Lit.int .u8 c.kind).wf = true) (c4 : (Lit.int .i64 c.str).wf = true) (c5 : (Lit.int .i64 c.bits).wf = true) (c6 : (Lit.int .i64 c.cap).wf = true) (c7 : (Lit.int .i64 c.node).wf = true) (c8 : (Lit.int .i64 c.batch).wf = true) (c9 : (Lit.int .i64 c.chunk).wf = true) (c10 : (Lit.int .u64 c.limit).wf = true) (c11 : (Lit.int .u64 c.most).wf = true) (t0 : (Lit.int .i64 t).wf = true) (o0 : (Lit.int .u8 o.kind).wf = true) (o1 : (Lit.int .u32 o.a).wf = true) (o2 : (Lit.int .u32 o.b).wf = true) (o3 : (Lit.int .u32 o.c).wf = true) (w : ∀ x ∈ rows, CellsOk [.i .u64, .i .u64, .i .u64, .i .u64] x) (m : rows.length ≤ maxLen) : ACalls Tryz.prog (gmap gs) 3 [c.av, .int .i64 t, o.av, .lst (rows.flatten.map ofS) rows.length] (fun v => v = .bool true) := by
  have h0 := wf_iff.1 o0
  have h2 := wf_iff.1 o2
  simp only [IntKind.min, IntKind.max, IntKind.signed, IntKind.bits] at h0 h2
  simp at h0 h2
  exact lawA c t o _ _ (by omega) (by omega) (cells_u w)
end Go.Bas.BasZReadEnds
end
section
namespace Go.Proofs.YteniehfknbiakaaGreatDoor.readEnds
open Go.ChangeShapes Go.WideShapes Go.ChangeAt Go.RowKit Go.Bas Go.Bas.BasZBase Go.Bas.BasZReadEnds
set_option linter.unusedVariables false
set_option linter.unusedSimpArgs false

theorem own : ownKnob Tryz.prog.godebug = none := by kernel_rfl
theorem laidOut : laidOutB Tryz.prog = true := by kernel_rfl
theorem flat24 : flatT Tryz.prog 8 24 = some [.i .u8, .i .i64, .i .i64, .i .u8, .i .i64, .i .i64, .i .i64, .i .i64, .i .i64, .i .i64, .i .u64, .i .u64] := by kernel_rfl
theorem flat27 : flatT Tryz.prog 8 27 = some [.i .u8, .i .u32, .i .u32, .i .u32] := by kernel_rfl
def laidL : List (String × DataW Unit) := [("bascule/rank.powers", Rows.laid_bascule_rank_powers), ("bascule/op.objects", Rows.laid_bascule_op_objects), ("bascule/op.writers", Rows.laid_bascule_op_writers)]
def vals2 : List Value := [.int .i64 1, .int .i64 2, .int .i64 4, .int .i64 8, .int .i64 16, .int .i64 1, .int .i64 3, .int .i64 9, .int .i64 27, .int .i64 81, .int .i64 1, .int .i64 4, .int .i64 16, .int .i64 64, .int .i64 256]
theorem g2 : Tryz.prog.globalNamed "bascule/rank.powers" = some 2 := by kernel_rfl
def vals1 : List Value := [.int .u8 0, .int .u8 1, .int .u8 1, .int .u8 1, .int .u8 2, .int .u8 2, .int .u8 2, .int .u8 2, .int .u8 2, .int .u8 3, .int .u8 3, .int .u8 3, .int .u8 4, .int .u8 4, .int .u8 4]
theorem g1 : Tryz.prog.globalNamed "bascule/op.objects" = some 1 := by kernel_rfl
def vals0 : List Value := [.bool false, .bool true, .bool true, .bool false, .bool true, .bool true, .bool false, .bool false, .bool false, .bool true, .bool true, .bool false, .bool true, .bool true, .bool false]
theorem g0 : Tryz.prog.globalNamed "bascule/op.writers" = some 0 := by kernel_rfl
theorem of_laid {W : World} (h : laidMetH Tryz.prog laidL W) : GsOk W gs := by
  rw [MakeChecks.laidMetH_plain _ _ _ (by kernel_rfl)] at h
  obtain ⟨ps, ⟨g0', t0, cs0, f0, p0, q0, hg0, ht0, hv0, hd0, ⟨g1', t1, cs1, f1, p1, q1, hg1, ht1, hv1, hd1, ⟨g2', t2, cs2, f2, p2, q2, hg2, ht2, hv2, hd2, _, _⟩, _⟩, _⟩, _⟩ := h
  obtain ⟨ty2, e2⟩ : ∃ t, (Tryz.prog.globals[2]?).map (·.type) = some t := Option.isSome_iff_exists.1 (by kernel_rfl)
  have k2 : tabOk Tryz.prog 8 ty2 = true := by
    have : (((Tryz.prog.globals[2]?).map (·.type)).map (tabOk Tryz.prog 8)) = some true := by kernel_rfl
    rw [e2] at this
    exact Option.some.inj this
  obtain ⟨ty1, e1⟩ : ∃ t, (Tryz.prog.globals[1]?).map (·.type) = some t := Option.isSome_iff_exists.1 (by kernel_rfl)
  have k1 : tabOk Tryz.prog 8 ty1 = true := by
    have : (((Tryz.prog.globals[1]?).map (·.type)).map (tabOk Tryz.prog 8)) = some true := by kernel_rfl
    rw [e1] at this
    exact Option.some.inj this
  obtain ⟨ty0, e0⟩ : ∃ t, (Tryz.prog.globals[0]?).map (·.type) = some t := Option.isSome_iff_exists.1 (by kernel_rfl)
  have k0 : tabOk Tryz.prog 8 ty0 = true := by
    have : (((Tryz.prog.globals[0]?).map (·.type)).map (tabOk Tryz.prog 8)) = some true := by kernel_rfl
    rw [e0] at this
    exact Option.some.inj this
  exact ⟨⟨vals0, by kernel_rfl, laid_var g0 hg2 e0 ht2 hv2 hd2 k0 (by kernel_rfl) rfl⟩, ⟨⟨vals1, by kernel_rfl, laid_var g1 hg1 e1 ht1 hv1 hd1 k1 (by kernel_rfl) rfl⟩, ⟨⟨vals2, by kernel_rfl, laid_var g2 hg0 e2 ht0 hv0 hd0 k2 (by kernel_rfl) rfl⟩, trivial⟩⟩⟩
theorem door_met (os : Os) (args : Array Value) : laidMetH Tryz.prog laidL ((World.doorLaid Tryz.prog 32 os).forCall (fun _ _ => 0) ⟨#[], args, []⟩).memory :=
  laidMetH_of_parts3 (fuel := 8) (laidMet_of_run' 8 (by kernel_rfl) (by kernel_rfl)) (by kernel_rfl) (by kernel_rfl)

set_option maxRecDepth 100000 in
theorem lifted (os : Os) (started : os.Started) (H : Type) (enc : TypeId × Value → H) :
    ReturnsInHanded {} Tryz.checked os 3 .any (fun w args => (Rows.readEndsSpec.pre enc Tryz.prog Tryz.f3 [] false w args ∧ laidMetH Tryz.prog laidL w) ∧ sizedMet enc Tryz.prog Tryz.f3 (OpenSpec.ofChange Rows.readEndsSpec) false w args) (Rows.readEndsSpec.post enc Tryz.prog Tryz.f3 false true false false) := by
  refine returnsInHanded_of_change_and (C := Tryz.checked) (X := fun w _ => laidMetH Tryz.prog laidL w) (fun _ _ _ hh h => h.of_heap hh) own started (by kernel_rfl) Tryz.func3
    (ChangeSpec.witness_shaped (enc := enc) (C := Tryz.checked) (os := os) (X := fun w _ => laidMetH Tryz.prog laidL w) false (World.doorLaid Tryz.prog 32 os) #[.agg #[.int .u8 0, .int .i64 0, .int .i64 0, .int .u8 0, .int .i64 0, .int .i64 0, .int .i64 0, .int .i64 0, .int .i64 0, .int .i64 0, .int .u64 0, .int .u64 0], .int .i64 0, .agg #[.int .u8 0, .int .u32 0, .int .u32 0, .int .u32 0], .slice none 0 0] 8 rfl (World.shaped_of_RefB (by kernel_rfl) (by kernel_rfl)) (by kernel_rfl) (by kernel_rfl) (by kernel_rfl) (door_met os _)) ?_
  intro W base args ds gs0 before hval0 hW _ hwt hL _
  have hgs := gok_of (of_laid hL)
  have hval : ∀ (j : Nat) t v, Tryz.f3.params[j]? = some t → args[j]? = some v → Value.okWide Tryz.prog W .any base t v := hval0
  have hW' := hW
  obtain ⟨p, q, hA0, hV, rfl, hfz, hnd⟩ := hW
  have hA : DataW.TrodAll enc Tryz.prog W 0 (fun _ => true) true Tryz.f3.params.toList args.toList ds p := hA0
  rw [Tryz.params3] at hA hval
  obtain ⟨v0, v1, v2, v3, d0, d1, d2, d3, p0, p1, p2, p3, rfl, rfl, rfl, h0, h1, h2, h3⟩ := trodAll_four hA
  obtain ⟨rfl, rfl⟩ := trodVars_none hV
  obtain ⟨l0, rfl, c0⟩ := open_flat Tryz.underlying24 flat24 (by kernel_rfl) (hval 0 24 v0 rfl rfl) h0
  obtain ⟨x0_0, _, rfl, w0_0, x0_1, _, rfl, w0_1, x0_2, _, rfl, w0_2, x0_3, _, rfl, w0_3, x0_4, _, rfl, w0_4, x0_5, _, rfl, w0_5, x0_6, _, rfl, w0_6, x0_7, _, rfl, w0_7, x0_8, _, rfl, w0_8, x0_9, _, rfl, w0_9, x0_10, _, rfl, w0_10, x0_11, _, rfl, w0_11, rfl⟩ := c0
  obtain ⟨x1, rfl, rfl, rfl, w1⟩ := open_int Tryz.underlying3 (hval 1 3 v1 rfl rfl) h1
  obtain ⟨l2, rfl, c2⟩ := open_flat Tryz.underlying27 flat27 (by kernel_rfl) (hval 2 27 v2 rfl rfl) h2
  obtain ⟨x2_0, _, rfl, w2_0, x2_1, _, rfl, w2_1, x2_2, _, rfl, w2_2, x2_3, _, rfl, w2_3, rfl⟩ := c2
  obtain ⟨x3, w3, m3, r3⟩ := open_flats (ks := [.i .u64, .i .u64, .i .u64, .i .u64]) Tryz.underlying28 (by kernel_rfl) (by kernel_rfl) (by decide) (hval 3 28 v3 rfl rfl) h3
  refine (law ⟨x0_0, x0_1, x0_2, x0_3, x0_4, x0_5, x0_6, x0_7, x0_8, x0_9, x0_10, x0_11⟩ x1 ⟨x2_0, x2_1, x2_2, x2_3⟩ x3 w0_0 w0_1 w0_2 w0_3 w0_4 w0_5 w0_6 w0_7 w0_8 w0_9 w0_10 w0_11 w1 w2_0 w2_1 w2_2 w2_3 w3 m3 W _ (fun _ => False) hgs (fun g cells h => fun hb => hb) (fun _ h => h.elim) (repL_cons (rep_cells [.int .u8 x0_0, .int .i64 x0_1, .int .i64 x0_2, .int .u8 x0_3, .int .i64 x0_4, .int .i64 x0_5, .int .i64 x0_6, .int .i64 x0_7, .int .i64 x0_8, .int .i64 x0_9, .int .u64 x0_10, .int .u64 x0_11]) (repL_cons (.int _ _ _) (repL_cons (rep_cells [.int .u8 x2_0, .int .u32 x2_1, .int .u32 x2_2, .int .u32 x2_3]) (repL_cons r3 repL_nil))))).mono fun e W' hh => ?_
  obtain ⟨v, u, rfl, rfl, E, R⟩ := hh
  cases R
  exact ⟨_, rfl, post_true laidOut (by kernel_rfl) rfl hW' (Still.below E) (by kernel_rfl) Tryz.underlying4 rfl rfl rfl⟩

end Go.Proofs.YteniehfknbiakaaGreatDoor.readEnds
end
