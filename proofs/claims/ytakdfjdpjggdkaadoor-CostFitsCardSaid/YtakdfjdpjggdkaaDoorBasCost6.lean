/- The picks of a reading, and the law CostSays: their trees. -/
import Derived.Test.YtakdfjdpjggdkaaDoorBasCost5
namespace Go.Bas.BasCost6
open Go.RowKit Go.Proofs
open Go.Bas.BasCBase Go.Bas.BasCItems Go.Bas.BasCItems2 Go.Bas.BasCost0 Go.Bas.BasCost Go.Bas.BasCost2 Go.Bas.BasCost5
set_option maxRecDepth 100000
set_option maxHeartbeats 4000000
set_option linter.unusedVariables false
set_option linter.unusedSimpArgs false
def pErr (c : Conf) (kd : Int) : Int := cond (decide (cErr c kd = 0)) (cond (wrF kd) 50 0) (cErr c kd)
def pV (c : Conf) (kd : Int) : Int := IntKind.wrap .i64 (IntKind.wrap .i64 (4 + cR c kd) + cG c kd)
def FPk : List AV → Option (Bool × AV)
  | [a, .int .u8 kd] => match confOf a with
    | some c => some (pK kd, .tup [.int .i64 (zif (pErr c kd) (pV c kd)), .int .i64 (pErr c kd)])
    | none => none
  | _ => none
def S_Picks : Sum := (24, FPk)
def S_PicksR : Sum := (25, FPk)

theorem t_Picks (c : Conf) (kd : Int) (k : AV → Bool) : runF (cfg [S_Of, S_wr, S_pk]) 300 24 [c.av, .int .u8 kd] k false = (((BasCost0.pK kd) && (bif (!decide ((BasCost5.cErr c kd) = 0)) then (k (AV.tup [(AV.int IntKind.i64 0), (AV.int IntKind.i64 (BasCost5.cErr c kd))])) else ((BasCost0.pK kd) && (bif (BasCBase.wrF kd) then (k (AV.tup [(AV.int IntKind.i64 0), (AV.int IntKind.i64 50)])) else (k (AV.tup [(AV.int IntKind.i64 (IntKind.wrap IntKind.i64 ((IntKind.wrap IntKind.i64 (4 + (zif (BasCost5.cErr c kd) (BasCost.cR c kd)))) + (zif (BasCost5.cErr c kd) (BasCost.cG c kd))))), (AV.int IntKind.i64 0)]))))))) := by kernel_rfl
theorem t_PicksR (c : Conf) (kd : Int) (k : AV → Bool) : runF (cfg [S_OfR, S_wrR]) 300 25 [c.av, .int .u8 kd] k false = (((BasCost0.pK kd) && (bif (!decide ((BasCost5.cErr c kd) = 0)) then (k (AV.tup [(AV.int IntKind.i64 0), (AV.int IntKind.i64 (BasCost5.cErr c kd))])) else ((BasCost0.pK kd) && (bif (BasCBase.wrF kd) then (k (AV.tup [(AV.int IntKind.i64 0), (AV.int IntKind.i64 50)])) else (k (AV.tup [(AV.int IntKind.i64 (IntKind.wrap IntKind.i64 ((IntKind.wrap IntKind.i64 (4 + (zif (BasCost5.cErr c kd) (BasCost.cR c kd)))) + (zif (BasCost5.cErr c kd) (BasCost.cG c kd))))), (AV.int IntKind.i64 0)]))))))) := by kernel_rfl
theorem t_says (c : Conf) (kd : Int) (k : AV → Bool) : runF (cfg [S_Of, S_OfR, S_Steps, S_StepsR, S_Picks, S_PicksR]) 300 8 [c.av, .int .u8 kd] k false = (((BasCost0.pK kd) && ((BasCost0.pK kd) && ((BasCost0.pK kd) && ((BasCost0.pK kd) && (bif (decide ((zif (BasCost5.cErr c kd) (BasCost.cR c kd)) = (zif (BasCost5.cErr c kd) (BasCost.cR c kd))) && (decide ((zif (BasCost5.cErr c kd) (BasCost.cW c kd)) = (zif (BasCost5.cErr c kd) (BasCost.cW c kd))) && (decide ((zif (BasCost5.cErr c kd) (BasCost.cG c kd)) = (zif (BasCost5.cErr c kd) (BasCost.cG c kd))) && Bool.true))) then (bif decide ((BasCost5.cErr c kd) = (BasCost5.cErr c kd)) then (bif decide ((zif (errC c) (BasCost2.gS c)) = (zif (errC c) (BasCost2.gS c))) then (bif decide ((errC c) = (errC c)) then (bif decide ((zif (BasCost6.pErr c kd) (BasCost6.pV c kd)) = (zif (BasCost6.pErr c kd) (BasCost6.pV c kd))) then (k (AV.bool (decide ((BasCost6.pErr c kd) = (BasCost6.pErr c kd))))) else (k (AV.bool Bool.false))) else (k (AV.bool Bool.false))) else (k (AV.bool Bool.false))) else (k (AV.bool Bool.false))) else (k (AV.bool Bool.false)))))))) := by kernel_rfl
end Go.Bas.BasCost6
