/- Contracts: a stage's cell, and a cell's stage; the law StageLays, walked. -/
import Derived.Test.YtakdfjdpjggdkaaBasStage
namespace Go.Bas.BasStage2
open Go.RowKit Go.Proofs
open Go.Bas.BasStage
set_option maxRecDepth 100000
set_option maxHeartbeats 4000000
set_option linter.unusedVariables false
set_option linter.unusedSimpArgs false

def S_cell : Sum := (26, Fcell)
theorem t_cell (s : Stg) (k : AV → Bool) : runF (cfg []) 300 26 [s.av] k false = (k (AV.agg [AV.int IntKind.u64 (IntKind.wrap IntKind.u64 (IntKind.wrap IntKind.u64 (65536 * s.1) + IntKind.wrap IntKind.u64 s.2)), AV.int IntKind.u64 s.3, AV.int IntKind.u64 (IntKind.wrap IntKind.u64 s.4), AV.int IntKind.u64 0])) := by kernel_rfl
theorem s_cell : SumOk Try.prog (fun _ => none) S_cell := fun args r hr => by
    simp only [S_cell] at hr
    unfold Fcell at hr
    split at hr
    · split at hr
      · rename_i s hs
        cases stgOf_some hs
        simp only [Option.some.injEq, Prod.mk.injEq, true_and] at hr
        subst hr
        refine acalls_eq base sums_nil (n := 300) fun k hk => ?_
        refine (t_cell _ _).trans ?_
        unfold tagS at hk
        rw [Int.mul_comm] at hk
        exact hk
      · cases hr
    · cases hr
def S_laid : Sum := (10, onConf2 stgOf (fun _ _ => true) fun c s => laidAV (chk mayP c s) s)
theorem t_laid (c : Conf) (s : Stg) (k : AV → Bool) : runF (cfg [S_chk]) 300 10 [c.av, s.av] k false = (bif !decide (chk mayP c s = 0) then k (AV.tup [AV.agg [AV.int IntKind.u64 0, AV.int IntKind.u64 0, AV.int IntKind.u64 0, AV.int IntKind.u64 0], AV.int IntKind.i64 (chk mayP c s)]) else k (AV.tup [AV.agg [AV.int IntKind.u64 (IntKind.wrap IntKind.u64 (IntKind.wrap IntKind.u64 (s.1 * 65536) + IntKind.wrap IntKind.u64 s.2)), AV.int IntKind.u64 s.3, AV.int IntKind.u64 (IntKind.wrap IntKind.u64 s.4), AV.int IntKind.u64 0], AV.int IntKind.i64 0])) := by kernel_rfl
theorem s_laid : SumOk Try.prog (fun _ => none) S_laid := onConf2_sum (fun _ _ => stgOf_some) fun c s hp => acalls_eq base (sums_cons s_chk sums_nil) (n := 300) fun k hk => by
    rw [t_laid]
    have h1 : chk mayP c s = 0 → k (.tup [.agg [.int .u64 (tagS s), .int .u64 s.mask, .int .u64 (IntKind.wrap .u64 s.frm), .int .u64 0], .int .i64 0]) = true := fun h => by rw [h] at hk; exact hk
    have h2 : ¬ chk mayP c s = 0 → k (.tup [.agg [.int .u64 0, .int .u64 0, .int .u64 0, .int .u64 0], .int .i64 (chk mayP c s)]) = true := fun h => by simpa [laidAV, zif, h] using hk
    refine condI (fun h => ?_) (fun h => ?_)
    · exact h2 (by simpa using h)
    · exact h1 (by simpa using h)
def S_laidR : Sum := (11, onConf2 stgOf (fun _ _ => true) fun c s => laidAV (chk mayR c s) s)
theorem t_laidR (c : Conf) (s : Stg) (k : AV → Bool) : runF (cfg [S_chkR, S_cell]) 300 11 [c.av, s.av] k false = (bif !decide (chk mayR c s = 0) then k (AV.tup [AV.agg [AV.int IntKind.u64 0, AV.int IntKind.u64 0, AV.int IntKind.u64 0, AV.int IntKind.u64 0], AV.int IntKind.i64 (chk mayR c s)]) else k (AV.tup [AV.agg [AV.int IntKind.u64 (tagS s), AV.int IntKind.u64 s.3, AV.int IntKind.u64 (IntKind.wrap IntKind.u64 s.4), AV.int IntKind.u64 0], AV.int IntKind.i64 0])) := by kernel_rfl
theorem s_laidR : SumOk Try.prog (fun _ => none) S_laidR := onConf2_sum (fun _ _ => stgOf_some) fun c s hp => acalls_eq base (sums_cons s_chkR (sums_cons s_cell sums_nil)) (n := 300) fun k hk => by
    rw [t_laidR]
    have h1 : chk mayR c s = 0 → k (.tup [.agg [.int .u64 (tagS s), .int .u64 s.mask, .int .u64 (IntKind.wrap .u64 s.frm), .int .u64 0], .int .i64 0]) = true := fun h => by rw [h] at hk; exact hk
    have h2 : ¬ chk mayR c s = 0 → k (.tup [.agg [.int .u64 0, .int .u64 0, .int .u64 0, .int .u64 0], .int .i64 (chk mayR c s)]) = true := fun h => by simpa [laidAV, zif, h] using hk
    refine condI (fun h => ?_) (fun h => ?_)
    · exact h2 (by simpa using h)
    · exact h1 (by simpa using h)
def S_of : Sum := (12, onConf2 celOf (fun _ _ => true) fun c l => ofAV (ofP c l) l)
theorem t_of (c : Conf) (l : Cel) (k : AV → Bool) : runF (cfg [S_check, S_may]) 300 12 [c.av, l.av] k false = (bif !decide (errC c = 0) then k (AV.tup [AV.agg [AV.int IntKind.u64 0, AV.int IntKind.i64 0, AV.int IntKind.u64 0, AV.int IntKind.i64 0], AV.int IntKind.i64 (errC c)]) else bif decide (l.3 ≥ IntKind.wrap IntKind.u64 c.3) then k (AV.tup [AV.agg [AV.int IntKind.u64 0, AV.int IntKind.i64 0, AV.int IntKind.u64 0, AV.int IntKind.i64 0], AV.int IntKind.i64 2]) else bif !decide (l.4 = 0) then k (AV.tup [AV.agg [AV.int IntKind.u64 0, AV.int IntKind.i64 0, AV.int IntKind.u64 0, AV.int IntKind.i64 0], AV.int IntKind.i64 2]) else decide (0 ≤ c.3) && bif !mayP c (Stg.mk (IntKind.wrap IntKind.u64 (Int.tdiv l.1 65536)) (IntKind.wrap IntKind.i64 (Int.tmod l.1 65536)) l.2 (IntKind.wrap IntKind.i64 l.3)) then k (AV.tup [AV.agg [AV.int IntKind.u64 0, AV.int IntKind.i64 0, AV.int IntKind.u64 0, AV.int IntKind.i64 0], AV.int IntKind.i64 2]) else k (AV.tup [AV.agg [AV.int IntKind.u64 (IntKind.wrap IntKind.u64 (Int.tdiv l.1 65536)), AV.int IntKind.i64 (IntKind.wrap IntKind.i64 (Int.tmod l.1 65536)), AV.int IntKind.u64 l.2, AV.int IntKind.i64 (IntKind.wrap IntKind.i64 l.3)], AV.int IntKind.i64 0])) := by kernel_rfl
theorem s_of : SumOk Try.prog (fun _ => none) S_of := onConf2_sum (fun _ _ => celOf_some) fun c l hp => acalls_eq base (sums_cons s_check (sums_cons s_may sums_nil)) (n := 300) fun k hk => by
    rw [t_of]
    have h1 : ofP c l = 0 → k (.tup [.agg [.int .u64 (celStg l).batch, .int .i64 (celStg l).number, .int .u64 l.a, .int .i64 (celStg l).frm], .int .i64 0]) = true := fun h => by rw [h] at hk; exact hk
    have h2 : ∀ e : Int, ofP c l = e → ¬ e = 0 → k (.tup [.agg [.int .u64 0, .int .i64 0, .int .u64 0, .int .i64 0], .int .i64 e]) = true := fun e h hn => by rw [h] at hk; simpa [ofAV, zif, hn] using hk
    clear hk
    unfold ofP at h1 h2
    cases ho : c.ok with
    | false =>
      have he : errC c = 40 := by simp [errC, ho]
      try rw [he]
      rw [ho] at h2
      exact h2 40 rfl (by decide)
    | true =>
      have he : errC c = 0 := by simp [errC, ho]
      try rw [he]
      have hth : 0 ≤ c.thr := by have := ok_true.1 ho; simp only [Conf.OkP] at this; omega
      rw [ho] at h1 h2
      refine condI (fun h => ?_) (fun _ => condI (fun h => ?_) (fun h => condI (fun h' => ?_) (fun h' => andI (by simpa using hth) (condI (fun hm => ?_) (fun hm => ?_)))))
      · cases h
      · rw [h] at h2; exact h2 2 rfl (by decide)
      · rw [Bool.not_eq_true'] at h'
        rw [h, h'] at h2; exact h2 2 rfl (by decide)
      · rw [Bool.not_eq_false'] at h'
        rw [Bool.not_eq_true'] at hm
        have hm : mayP c (celStg l) = false := hm
        rw [h, h', hm] at h2; exact h2 2 rfl (by decide)
      · rw [Bool.not_eq_false'] at h'
        rw [Bool.not_eq_false'] at hm
        have hm : mayP c (celStg l) = true := hm
        rw [h, h', hm] at h1; exact h1 rfl
def S_ofR : Sum := (13, onConf2 celOf (fun _ _ => true) fun c l => ofAV (ofR c l) l)
theorem t_ofR (c : Conf) (l : Cel) (k : AV → Bool) : runF (cfg [S_mayBe, S_mayR]) 300 13 [c.av, l.av] k false = (bif !Conf.ok c then k (AV.tup [AV.agg [AV.int IntKind.u64 0, AV.int IntKind.i64 0, AV.int IntKind.u64 0, AV.int IntKind.i64 0], AV.int IntKind.i64 40]) else bif decide (l.3 > 16) then k (AV.tup [AV.agg [AV.int IntKind.u64 0, AV.int IntKind.i64 0, AV.int IntKind.u64 0, AV.int IntKind.i64 0], AV.int IntKind.i64 2]) else bif !decide (l.4 = 0) then k (AV.tup [AV.agg [AV.int IntKind.u64 0, AV.int IntKind.i64 0, AV.int IntKind.u64 0, AV.int IntKind.i64 0], AV.int IntKind.i64 2]) else decide (c.3 ≤ 16) && bif !mayR c (Stg.mk (IntKind.wrap IntKind.u64 (Int.tdiv l.1 65536)) (IntKind.wrap IntKind.i64 (Int.tmod l.1 65536)) l.2 (IntKind.wrap IntKind.i64 l.3)) then k (AV.tup [AV.agg [AV.int IntKind.u64 0, AV.int IntKind.i64 0, AV.int IntKind.u64 0, AV.int IntKind.i64 0], AV.int IntKind.i64 2]) else k (AV.tup [AV.agg [AV.int IntKind.u64 (IntKind.wrap IntKind.u64 (Int.tdiv l.1 65536)), AV.int IntKind.i64 (IntKind.wrap IntKind.i64 (Int.tmod l.1 65536)), AV.int IntKind.u64 l.2, AV.int IntKind.i64 (IntKind.wrap IntKind.i64 l.3)], AV.int IntKind.i64 0])) := by kernel_rfl
theorem s_ofR : SumOk Try.prog (fun _ => none) S_ofR := onConf2_sum (fun _ _ => celOf_some) fun c l hp => acalls_eq base (sums_cons s_mayBe (sums_cons s_mayR sums_nil)) (n := 300) fun k hk => by
    rw [t_ofR]
    have h1 : ofR c l = 0 → k (.tup [.agg [.int .u64 (celStg l).batch, .int .i64 (celStg l).number, .int .u64 l.a, .int .i64 (celStg l).frm], .int .i64 0]) = true := fun h => by rw [h] at hk; exact hk
    have h2 : ∀ e : Int, ofR c l = e → ¬ e = 0 → k (.tup [.agg [.int .u64 0, .int .i64 0, .int .u64 0, .int .i64 0], .int .i64 e]) = true := fun e h hn => by rw [h] at hk; simpa [ofAV, zif, hn] using hk
    clear hk
    unfold ofR at h1 h2
    cases ho : c.ok with
    | false =>
      have he : errC c = 40 := by simp [errC, ho]
      try rw [he]
      rw [ho] at h2
      exact h2 40 rfl (by decide)
    | true =>
      have he : errC c = 0 := by simp [errC, ho]
      try rw [he]
      have hth : c.thr ≤ 16 := by have := ok_true.1 ho; simp only [Conf.OkP] at this; omega
      rw [ho] at h1 h2
      refine condI (fun h => ?_) (fun _ => condI (fun h => ?_) (fun h => condI (fun h' => ?_) (fun h' => andI (by simpa using hth) (condI (fun hm => ?_) (fun hm => ?_)))))
      · cases h
      · rw [h] at h2; exact h2 2 rfl (by decide)
      · rw [Bool.not_eq_true'] at h'
        rw [h, h'] at h2; exact h2 2 rfl (by decide)
      · rw [Bool.not_eq_false'] at h'
        rw [Bool.not_eq_true'] at hm
        have hm : mayR c (celStg l) = false := hm
        rw [h, h', hm] at h2; exact h2 2 rfl (by decide)
      · rw [Bool.not_eq_false'] at h'
        rw [Bool.not_eq_false'] at hm
        have hm : mayR c (celStg l) = true := hm
        rw [h, h', hm] at h1; exact h1 rfl
theorem t_law (c : Conf) (s : Stg) (l : Cel) (k : AV → Bool) : runF (cfg [S_laid, S_laidR, S_of, S_ofR]) 300 3 [c.av, s.av, l.av] k false = (bif decide (zif (chk mayP c s) (tagS s) = zif (chk mayR c s) (tagS s)) && (decide (zif (chk mayP c s) s.3 = zif (chk mayR c s) s.3) && (decide (zif (chk mayP c s) (IntKind.wrap IntKind.u64 s.4) = zif (chk mayR c s) (IntKind.wrap IntKind.u64 s.4)) && true)) then bif decide (chk mayP c s = chk mayR c s) then bif decide (zif (ofP c l) (celStg l).1 = zif (ofR c l) (celStg l).1) && (decide (zif (ofP c l) (celStg l).2 = zif (ofR c l) (celStg l).2) && (decide (zif (ofP c l) l.2 = zif (ofR c l) l.2) && (decide (zif (ofP c l) (celStg l).4 = zif (ofR c l) (celStg l).4) && true))) then k (AV.bool (decide (ofP c l = ofR c l))) else k (AV.bool false) else k (AV.bool false) else k (AV.bool false)) := by kernel_rfl
end Go.Bas.BasStage2
