/- Known calls of a closed run, where they stand: states, rounds, ends. No conditions. -/
import Derived.Test.YtfbmlbocgeabgabGreatDoorBasGhostNamesX10
namespace Go.Proofs.YtfbmlbocgeabgabGreatDoor.ghostNames
open Go.ChangeShapes Go.WideShapes Go.ChangeAt Go.RowKit Go.Bas
set_option linter.unusedVariables false
set_option maxRecDepth 100000
noncomputable def zS1_14_12 : St := ⟨zT1_14 (x 12), [], ⟨(1835, ⟨zb177, 59, true⟩) :: zH1_14 ⟨[x 0], 3, true⟩ ⟨zb176, 72, false⟩, 1989, []⟩⟩
theorem zr1_14_8 (k : St → Bool) : rndsH cR 3000 zL1_14 (1835 :: zI1_14) zB1_14 4 zS1_14_8 k false = k zS1_14_12 := by kernel_rfl
noncomputable def zS1_14_16 : St := ⟨zT1_14 (x 16), [], ⟨(1835, ⟨zb177, 59, true⟩) :: zH1_14 ⟨[x 0], 3, true⟩ ⟨zb176, 72, false⟩, 2041, []⟩⟩
theorem zr1_14_12 (k : St → Bool) : rndsH cR 3000 zL1_14 (1835 :: zI1_14) zB1_14 4 zS1_14_12 k false = k zS1_14_16 := by kernel_rfl
noncomputable def zS1_14_20 : St := ⟨zT1_14 (x 20), [], ⟨(1835, ⟨zb177, 59, true⟩) :: zH1_14 ⟨[x 0], 3, true⟩ ⟨zb176, 72, false⟩, 2093, []⟩⟩
theorem zr1_14_16 (k : St → Bool) : rndsH cR 3000 zL1_14 (1835 :: zI1_14) zB1_14 4 zS1_14_16 k false = k zS1_14_20 := by kernel_rfl
noncomputable def zS1_14_24 : St := ⟨zT1_14 (x 24), [], ⟨(1835, ⟨zb177, 59, true⟩) :: zH1_14 ⟨[x 0], 3, true⟩ ⟨zb176, 72, false⟩, 2145, []⟩⟩
theorem zr1_14_20 (k : St → Bool) : rndsH cR 3000 zL1_14 (1835 :: zI1_14) zB1_14 4 zS1_14_20 k false = k zS1_14_24 := by kernel_rfl
noncomputable def zS1_14_28 : St := ⟨zT1_14 (x 28), [], ⟨(1835, ⟨zb177, 59, true⟩) :: zH1_14 ⟨[x 0], 3, true⟩ ⟨zb176, 72, false⟩, 2197, []⟩⟩
theorem zr1_14_24 (k : St → Bool) : rndsH cR 3000 zL1_14 (1835 :: zI1_14) zB1_14 4 zS1_14_24 k false = k zS1_14_28 := by kernel_rfl
noncomputable def zS1_14_32 : St := ⟨zT1_14 (x 32), [], ⟨(1835, ⟨zb177, 59, true⟩) :: zH1_14 ⟨[x 0], 3, true⟩ ⟨zb176, 72, false⟩, 2249, []⟩⟩
theorem zr1_14_28 (k : St → Bool) : rndsH cR 3000 zL1_14 (1835 :: zI1_14) zB1_14 4 zS1_14_28 k false = k zS1_14_32 := by kernel_rfl
noncomputable def zS1_14_36 : St := ⟨zT1_14 (x 36), [], ⟨(1835, ⟨zb177, 59, true⟩) :: zH1_14 ⟨[x 0], 3, true⟩ ⟨zb176, 72, false⟩, 2301, []⟩⟩
theorem zr1_14_32 (k : St → Bool) : rndsH cR 3000 zL1_14 (1835 :: zI1_14) zB1_14 4 zS1_14_32 k false = k zS1_14_36 := by kernel_rfl
noncomputable def zb178 : List AV := [y 3, x 2, x 1, y 1, x 0, x 0, x 1, x 0, x 1, x 0, u 131072, u 0, x 1, x 2, .sl 1740 0 1 1 true, u 1, .sl 1835 0 1 15 true, .nils]
noncomputable def zS1_14_40 : St := ⟨zT1_14 (x 40), [], ⟨(1835, ⟨zb177, 59, true⟩) :: zH1_14 ⟨[x 0], 3, true⟩ ⟨zb178, 72, false⟩, 2353, []⟩⟩
theorem zr1_14_36 (k : St → Bool) : rndsH cR 3000 zL1_14 (1835 :: zI1_14) zB1_14 4 zS1_14_36 k false = k zS1_14_40 := by kernel_rfl
noncomputable def zS1_14_44 : St := ⟨zT1_14 (x 44), [], ⟨(1835, ⟨zb177, 59, true⟩) :: zH1_14 ⟨[x 0], 3, true⟩ ⟨zb178, 72, false⟩, 2405, []⟩⟩
theorem zr1_14_40 (k : St → Bool) : rndsH cR 3000 zL1_14 (1835 :: zI1_14) zB1_14 4 zS1_14_40 k false = k zS1_14_44 := by kernel_rfl
noncomputable def zS1_14_48 : St := ⟨zT1_14 (x 48), [], ⟨(1835, ⟨zb177, 59, true⟩) :: zH1_14 ⟨[x 0], 3, true⟩ ⟨zb178, 72, false⟩, 2457, []⟩⟩
theorem zr1_14_44 (k : St → Bool) : rndsH cR 3000 zL1_14 (1835 :: zI1_14) zB1_14 4 zS1_14_44 k false = k zS1_14_48 := by kernel_rfl
end Go.Proofs.YtfbmlbocgeabgabGreatDoor.ghostNames
