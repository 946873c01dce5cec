/- R. -/
import Derived.Test.YtjepofcbkojibaaGreatDoorBasW44
import Derived.Test.YtjepofcbkojibaaGreatDoorBasW45
set_option maxRecDepth 100000
set_option maxHeartbeats 4000000
set_option linter.unusedVariables false
set_option linter.unusedSimpArgs false
namespace Go.Proofs.YtjepofcbkojibaaGreatDoor.readBegins
open Go.ChangeShapes Go.WideShapes Go.ChangeAt Go.RowKit Go.Bas
theorem Apw:Rows.ReadBeginsSaid :=
 OpenClaim.holds_of_wide 3 Tryz.f3 rfl rfl rfl rfl rfl rfl rfl ⟨rfl,rfl,rfl,rfl,rfl⟩ rfl rfl rfl rfl rfl (by kernel_rfl) Tryz.func3 Apv
  (Odt (by kernel_rfl)) (by unfold Func.isWrapper;first|(rw [if_pos (by decide +kernel)];kernel_rfl)|(rw [if_neg (by decide +kernel)];exact ⟨rfl,rfl⟩))
  (fun os started H enc _=>lifted os started H enc)
end Go.Proofs.YtjepofcbkojibaaGreatDoor.readBegins
