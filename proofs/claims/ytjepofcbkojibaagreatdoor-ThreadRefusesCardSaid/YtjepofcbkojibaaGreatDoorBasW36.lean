/- ThreadRefuses: what the card asks of the program, each by itself. -/
import Derived.Test.YtjepofcbkojibaaGreatDoorBasW35
import Derived.Test.YtjepofcbkojibaaGreatDoorRows
import Derived.Test.YtjepofcbkojibaaGreatDoorCards
import Derived.Test.YtjepofcbkojibaaGreatDoorTie
import Derived.SevenTiedAt
set_option maxRecDepth 100000
set_option maxHeartbeats 4000000
set_option linter.unusedVariables false
set_option linter.unusedSimpArgs false
namespace Go.Proofs.YtjepofcbkojibaaGreatDoor.threadRefuses
open Go.ChangeShapes Go.WideShapes Go.ChangeAt Go.RowKit Go.Bas Go.Bas.BasZBase Go.Bas.BasZRefuse
theorem c_text : Rows.threadRefusesRow.wfByText (OpenSpec.ofChange Rows.threadRefusesSpec) = true := by kernel_rfl
theorem c_main : Tryz.checked.prog.mainIs = some (true, ("0cb80774747713666c6b3c795d68d6eec3aa056023dc04924460245525a87bb5").toList) := by kernel_rfl
theorem c_looks : true = Tryz.checked.prog.looks [] := by kernel_rfl
theorem c_goes : false = Rows.threadRefusesRow.goesBy Tryz.checked.prog := by kernel_rfl
theorem c_func : Tryz.prog.funcNamed "bascule/basculelaw28.ThreadRefuses" = some 8 := by kernel_rfl
theorem c_all : ([3, 24, 79, 81].all fun u => !Tryz.prog.wantsStandIn u) = true := by kernel_rfl
end Go.Proofs.YtjepofcbkojibaaGreatDoor.threadRefuses
