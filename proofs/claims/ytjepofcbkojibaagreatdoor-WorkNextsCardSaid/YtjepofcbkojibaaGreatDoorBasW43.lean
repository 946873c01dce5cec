/- WorkNexts: what the card asks of the program, each by itself. -/
import Derived.Test.YtjepofcbkojibaaGreatDoorBasW42
import Derived.Test.YtjepofcbkojibaaGreatDoorRows
import Derived.Test.YtjepofcbkojibaaGreatDoorCards
import Derived.Test.YtjepofcbkojibaaGreatDoorTie
import Derived.SevenTiedAt
set_option maxRecDepth 100000
set_option maxHeartbeats 4000000
set_option linter.unusedVariables false
set_option linter.unusedSimpArgs false
namespace Go.Proofs.YtjepofcbkojibaaGreatDoor.workNexts
open Go.ChangeShapes Go.WideShapes Go.ChangeAt Go.RowKit Go.Bas
theorem Bp6:Rows.workNextsRow.wfByText (OpenSpec.ofChange Rows.workNextsSpec)=true:=by kernel_rfl
theorem Bp7:Tryz.checked.prog.mainIs=some (true,("0cb80774747713666c6b3c795d68d6eec3aa056023dc04924460245525a87bb5").toList):=by kernel_rfl
theorem Bh7:true=Tryz.checked.prog.looks []:=by kernel_rfl
theorem Bp8:false=Rows.workNextsRow.goesBy Tryz.checked.prog:=by kernel_rfl
theorem c_func:Tryz.prog.funcNamed "bascule/basculelaw25.WorkNexts" = some 4:=by kernel_rfl
theorem c_all:([24,41,51].all fun u=>!Tryz.prog.wantsStandIn u)=true:=by kernel_rfl
end Go.Proofs.YtjepofcbkojibaaGreatDoor.workNexts
