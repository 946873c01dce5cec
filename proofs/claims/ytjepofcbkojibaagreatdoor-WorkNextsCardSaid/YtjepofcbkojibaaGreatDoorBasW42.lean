/- WorkNexts: its row holds. -/
import Derived.Test.YtjepofcbkojibaaGreatDoorBasW40
import Derived.Test.YtjepofcbkojibaaGreatDoorBasW41
set_option maxRecDepth 100000
set_option maxHeartbeats 4000000
set_option linter.unusedVariables false
set_option linter.unusedSimpArgs false
namespace Go.Proofs.YtjepofcbkojibaaGreatDoor.workNexts
open Go.ChangeShapes Go.WideShapes Go.ChangeAt Go.RowKit Go.Bas
theorem Apw:Rows.WorkNextsSaid :=
 OpenClaim.holds_of_wide 4 Tryz.f4 rfl rfl rfl rfl rfl rfl rfl ⟨rfl,rfl,rfl,rfl,rfl⟩ rfl rfl rfl rfl rfl (by kernel_rfl) Tryz.func4 Apv
  (Odt (by kernel_rfl)) (by unfold Func.isWrapper;first|(rw [if_pos (by decide +kernel)];kernel_rfl)|(rw [if_neg (by decide +kernel)];exact ⟨rfl,rfl⟩))
  (fun os started H enc _=>lifted os started H enc)
end Go.Proofs.YtjepofcbkojibaaGreatDoor.workNexts
