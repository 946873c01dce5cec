/- Contracts: the chapter's examples; what a stage asks, and the next one; the law StageBack, walked. -/
import Derived.Test.YtomiknbiencggaaBasStage2
namespace Go.Bas.BasStage3
open Go.RowKit Go.Proofs
open Go.Bas.BasStage Go.Bas.BasStage2
set_option maxRecDepth 100000
set_option maxHeartbeats 4000000
set_option linter.unusedVariables false
set_option linter.unusedSimpArgs false

def S_alive : Sum := (5, fun args => match args with | [] => some (true, .bool true) | _ => none)
theorem s_alive : SumOk Try.prog (fun _ => none) S_alive := fun args r hr => by
    cases args with
    | nil =>
      obtain rfl : AV.bool true = r := by simpa [S_alive] using hr
      refine acalls_eq base sums_nil (n := 2000) fun k hk => ?_
      exact (show runF (cfg []) 2000 5 [] k false = k (AV.bool true) by kernel_rfl).trans hk
    | cons a b => simp [S_alive] at hr
theorem t_next (c : Conf) (s : Stg) (k : AV → Bool) : runF (cfg [S_chk, S_rest]) 300 8 [c.av, s.av] k false = ((bif (!decide ((chk mayP c s) = 0)) then (k (AV.tup [(AV.agg [(AV.int IntKind.u64 0), (AV.int IntKind.i64 0), (AV.int IntKind.u64 0), (AV.int IntKind.i64 0)]), (AV.int IntKind.i64 (chk mayP c s))])) else (bif decide (s.2 = (restS c)) then (k (AV.tup [(AV.agg [(AV.int IntKind.u64 0), (AV.int IntKind.i64 0), (AV.int IntKind.u64 0), (AV.int IntKind.i64 0)]), (AV.int IntKind.i64 2)])) else (k (AV.tup [(AV.agg [(AV.int IntKind.u64 s.1), (AV.int IntKind.i64 (IntKind.wrap IntKind.i64 (s.2 + 1))), (AV.int IntKind.u64 s.3), (AV.int IntKind.i64 s.4)]), (AV.int IntKind.i64 0)]))))) := by kernel_rfl
theorem t_what (c : Conf) (s : Stg) (k : AV → Bool) : runF (cfg [S_chk]) 300 7 [c.av, s.av] k false = ((bif (!decide ((chk mayP c s) = 0)) then (k (AV.tup [(AV.agg [(AV.int IntKind.u8 0), (AV.int IntKind.i64 0)]), (AV.int IntKind.i64 (chk mayP c s))])) else (bif decide ((IntKind.wrap IntKind.u64 c.2) = 0) then Bool.false else (bif decide ((IntKind.wrap IntKind.i64 (s.2 - c.2)) = 0) then (bif decide ((IntKind.wrap IntKind.u64 c.2) = 0) then Bool.false else (k (AV.tup [(AV.agg [(AV.int IntKind.u8 2), (AV.int IntKind.i64 (IntKind.wrap IntKind.i64 (Int.tmod s.1 (IntKind.wrap IntKind.u64 c.2))))]), (AV.int IntKind.i64 0)]))) else (bif decide ((IntKind.wrap IntKind.i64 (s.2 - c.2)) = 3) then (k (AV.tup [(AV.agg [(AV.int IntKind.u8 3), (AV.int IntKind.i64 (IntKind.wrap IntKind.i64 (Int.tmod (IntKind.wrap IntKind.u64 (s.1 + 1)) 2)))]), (AV.int IntKind.i64 0)])) else (bif decide ((IntKind.wrap IntKind.i64 (s.2 - c.2)) = 1) then (k (AV.tup [(AV.agg [(AV.int IntKind.u8 3), (AV.int IntKind.i64 (IntKind.wrap IntKind.i64 (Int.tmod s.1 2)))]), (AV.int IntKind.i64 0)])) else (bif decide ((IntKind.wrap IntKind.i64 (s.2 - c.2)) = 2) then (k (AV.tup [(AV.agg [(AV.int IntKind.u8 4), (AV.int IntKind.i64 (IntKind.wrap IntKind.i64 (Int.tmod s.1 2)))]), (AV.int IntKind.i64 0)])) else (bif decide ((IntKind.wrap IntKind.i64 (s.2 - c.2)) = 4) then (bif decide ((IntKind.wrap IntKind.u64 c.2) = 0) then Bool.false else (k (AV.tup [(AV.agg [(AV.int IntKind.u8 1), (AV.int IntKind.i64 (IntKind.wrap IntKind.i64 (Int.tmod (IntKind.wrap IntKind.u64 (s.1 - 1)) (IntKind.wrap IntKind.u64 c.2))))]), (AV.int IntKind.i64 0)]))) else (bif decide ((IntKind.wrap IntKind.i64 (s.2 - c.2)) = 5) then (k (AV.tup [(AV.agg [(AV.int IntKind.u8 5), (AV.int IntKind.i64 0)]), (AV.int IntKind.i64 0)])) else (k (AV.tup [(AV.agg [(AV.int IntKind.u8 1), (AV.int IntKind.i64 (IntKind.wrap IntKind.i64 (Int.tmod (IntKind.wrap IntKind.u64 ((IntKind.wrap IntKind.u64 (s.1 + (IntKind.wrap IntKind.u64 s.2))) - 1)) (IntKind.wrap IntKind.u64 c.2))))]), (AV.int IntKind.i64 0)]))))))))))) := by kernel_rfl
end Go.Bas.BasStage3
