/- Contracts: a stage's cell, and a cell's stage; the law StageLays, walked. -/
import Derived.Test.YtomiknbiencggaaBasStage
namespace Go.Bas.BasStage2
open Go.RowKit Go.Proofs
open Go.Bas.BasStage
set_option maxRecDepth 100000
set_option maxHeartbeats 4000000
set_option linter.unusedVariables false
set_option linter.unusedSimpArgs false

def S_laid : Sum := (6, onConf2 stgOf (fun _ _ => true) fun c s => laidAV (chk mayP c s) s)
theorem t_laid (c : Conf) (s : Stg) (k : AV → Bool) : runF (cfg [S_chk]) 300 6 [c.av, s.av] k false = ((bif (!decide ((chk mayP c s) = 0)) then (k (AV.tup [(AV.agg [(AV.int IntKind.u64 0), (AV.int IntKind.u64 0), (AV.int IntKind.u64 0), (AV.int IntKind.u64 0)]), (AV.int IntKind.i64 (chk mayP c s))])) else (k (AV.tup [(AV.agg [(AV.int IntKind.u64 (IntKind.wrap IntKind.u64 ((IntKind.wrap IntKind.u64 (s.1 * 65536)) + (IntKind.wrap IntKind.u64 s.2)))), (AV.int IntKind.u64 s.3), (AV.int IntKind.u64 (IntKind.wrap IntKind.u64 s.4)), (AV.int IntKind.u64 0)]), (AV.int IntKind.i64 0)])))) := by kernel_rfl
theorem s_laid : SumOk Try.prog (fun _ => none) S_laid := onConf2_sum (fun _ _ => stgOf_some) fun c s hp => acalls_eq base (sums_cons s_chk sums_nil) (n := 300) fun k hk => by
    rw [t_laid]
    have h1 : chk mayP c s = 0 → k (.tup [.agg [.int .u64 (tagS s), .int .u64 s.mask, .int .u64 (IntKind.wrap .u64 s.frm), .int .u64 0], .int .i64 0]) = true := fun h => by rw [h] at hk; exact hk
    have h2 : ¬ chk mayP c s = 0 → k (.tup [.agg [.int .u64 0, .int .u64 0, .int .u64 0, .int .u64 0], .int .i64 (chk mayP c s)]) = true := fun h => by simpa [laidAV, zif, h] using hk
    refine condI (fun h => ?_) (fun h => ?_)
    · exact h2 (by simpa using h)
    · exact h1 (by simpa using h)
def S_of : Sum := (13, onConf2 celOf (fun _ _ => true) fun c l => ofAV (ofP c l) l)
theorem t_of (c : Conf) (l : Cel) (k : AV → Bool) : runF (cfg [S_check, S_may]) 300 13 [c.av, l.av] k false = ((bif (!decide ((errC c) = 0)) then (k (AV.tup [(AV.agg [(AV.int IntKind.u64 0), (AV.int IntKind.i64 0), (AV.int IntKind.u64 0), (AV.int IntKind.i64 0)]), (AV.int IntKind.i64 (errC c))])) else (bif decide (l.3 ≥ (IntKind.wrap IntKind.u64 c.3)) then (k (AV.tup [(AV.agg [(AV.int IntKind.u64 0), (AV.int IntKind.i64 0), (AV.int IntKind.u64 0), (AV.int IntKind.i64 0)]), (AV.int IntKind.i64 2)])) else (bif (!decide (l.4 = 0)) then (k (AV.tup [(AV.agg [(AV.int IntKind.u64 0), (AV.int IntKind.i64 0), (AV.int IntKind.u64 0), (AV.int IntKind.i64 0)]), (AV.int IntKind.i64 2)])) else (decide (0 ≤ c.3) && (bif (!(mayP c (Stg.mk (IntKind.wrap IntKind.u64 (Int.tdiv l.1 65536)) (IntKind.wrap IntKind.i64 (Int.tmod l.1 65536)) l.2 (IntKind.wrap IntKind.i64 l.3)))) then (k (AV.tup [(AV.agg [(AV.int IntKind.u64 0), (AV.int IntKind.i64 0), (AV.int IntKind.u64 0), (AV.int IntKind.i64 0)]), (AV.int IntKind.i64 2)])) else (k (AV.tup [(AV.agg [(AV.int IntKind.u64 (IntKind.wrap IntKind.u64 (Int.tdiv l.1 65536))), (AV.int IntKind.i64 (IntKind.wrap IntKind.i64 (Int.tmod l.1 65536))), (AV.int IntKind.u64 l.2), (AV.int IntKind.i64 (IntKind.wrap IntKind.i64 l.3))]), (AV.int IntKind.i64 0)])))))))) := by kernel_rfl
theorem s_of : SumOk Try.prog (fun _ => none) S_of := onConf2_sum (fun _ _ => celOf_some) fun c l hp => acalls_eq base (sums_cons s_check (sums_cons s_may sums_nil)) (n := 300) fun k hk => by
    rw [t_of]
    have h1 : ofP c l = 0 → k (.tup [.agg [.int .u64 (celStg l).batch, .int .i64 (celStg l).number, .int .u64 l.a, .int .i64 (celStg l).frm], .int .i64 0]) = true := fun h => by rw [h] at hk; exact hk
    have h2 : ∀ e : Int, ofP c l = e → ¬ e = 0 → k (.tup [.agg [.int .u64 0, .int .i64 0, .int .u64 0, .int .i64 0], .int .i64 e]) = true := fun e h hn => by rw [h] at hk; simpa [ofAV, zif, hn] using hk
    clear hk
    unfold ofP at h1 h2
    cases ho : c.ok with
    | false =>
      have he : errC c = 40 := by simp [errC, ho]
      try rw [he]
      rw [ho] at h2
      exact h2 40 rfl (by decide)
    | true =>
      have he : errC c = 0 := by simp [errC, ho]
      try rw [he]
      have hth : 0 ≤ c.thr := by have := ok_true.1 ho; simp only [Conf.OkP] at this; omega
      rw [ho] at h1 h2
      refine condI (fun h => ?_) (fun _ => condI (fun h => ?_) (fun h => condI (fun h' => ?_) (fun h' => andI (by simpa using hth) (condI (fun hm => ?_) (fun hm => ?_)))))
      · cases h
      · rw [h] at h2; exact h2 2 rfl (by decide)
      · rw [Bool.not_eq_true'] at h'
        rw [h, h'] at h2; exact h2 2 rfl (by decide)
      · rw [Bool.not_eq_false'] at h'
        rw [Bool.not_eq_true'] at hm
        have hm : mayP c (celStg l) = false := hm
        rw [h, h', hm] at h2; exact h2 2 rfl (by decide)
      · rw [Bool.not_eq_false'] at h'
        rw [Bool.not_eq_false'] at hm
        have hm : mayP c (celStg l) = true := hm
        rw [h, h', hm] at h1; exact h1 rfl
end Go.Bas.BasStage2
