/- Known calls of a closed run, where they stand: states, rounds, ends. No conditions. -/
import Derived.Test.YtfbmlbocgeabgabGreatDoorBasGhostNamesX1
namespace Go.Proofs.YtfbmlbocgeabgabGreatDoor.ghostNames
open Go.ChangeShapes Go.WideShapes Go.ChangeAt Go.RowKit Go.Bas
set_option linter.unusedVariables false
set_option maxRecDepth 100000
noncomputable def zb75 : List AV := [u 0, u 0, u 0, u 0, u 0, u 0, u 0, u 0, u 65537, u 1, u 0, u 0, u 1, u 265, u 7, u 2, u 0, u 0, u 0, u 0, u 0, u 0, u 0, u 0, u 0, u 0, u 0, u 0, u 0, u 0, u 0, u 0, u 0, u 0, u 0, u 0, u 65536, u 0, u 0, u 0, u 0, u 0, u 0, u 0]
noncomputable def zb76 : List AV := [x 0, y 2, y 0, x 0, x 0, u 0, y 0, w 0, w 0, y 0, y 0, y 0, y 0, y 0, y 0, w 0, w 0, x 0, w 0, .nils, x 0, y 2, u 1, y 9, w 1, w 7, w 2, .bool false, x 0, w 0, .nils, u 0, u 65537, u 1, u 0, u 0, u 0, u 0, u 0, u 0, u 0, u 0, u 0, u 0, .lst [.bool true] 1, u 0, x 0, u 0, u 1, .bool false]
noncomputable def zS0_1_10 : St := ⟨zT0_1 (x 10), [], ⟨(122, ⟨(zg0 ++ (zt13 ++ (zt14))), 57, true⟩) :: zH0_1 ⟨zb75, 48, true⟩ ⟨zb76, 114, true⟩ ⟨[.sl 122 0 10 22 true], 27, false⟩, 123, zl0⟩⟩
theorem zr0_1_9 (k : St → Bool) : rndsH cR 3000 zL0_1 (122 :: zI0_1) zB0_1 1 zS0_1_9 k false = k zS0_1_10 := by kernel_rfl
noncomputable def zb77 : List AV := [x 0, y 2, y 0, x 0, x 0, u 0, y 0, w 0, w 0, y 0, y 0, y 0, y 0, y 0, y 0, w 0, w 0, x 0, w 0, .nils, x 0, y 3, u 1, y 9, w 1, w 7, w 2, .bool false, x 0, w 0, .nils, u 0, u 65537, u 1, u 0, u 0, u 0, u 0, u 0, u 0, u 0, u 0, u 0, u 0, .lst [.bool true] 1, u 0, x 0, u 0, u 1, .bool false]
noncomputable def zS0_1_11 : St := ⟨zT0_1 (x 11), [], ⟨(132, ⟨(zg0 ++ (zt13 ++ (zt14 ++ (zt8)))), 57, true⟩) :: zH0_1 ⟨zb75, 48, true⟩ ⟨zb77, 114, true⟩ ⟨[.sl 132 0 11 22 true], 27, false⟩, 133, zl0⟩⟩
theorem zr0_1_10 (k : St → Bool) : rndsH cR 3000 zL0_1 (132 :: zI0_1) zB0_1 1 zS0_1_10 k false = k zS0_1_11 := by kernel_rfl
noncomputable def zb78 : List AV := [x 0, y 2, y 0, x 0, x 0, u 0, y 0, w 0, w 0, y 0, y 0, y 0, y 0, y 0, y 0, w 0, w 0, x 0, w 0, .nils, x 0, y 7, u 1, y 9, w 1, w 7, w 2, .bool false, x 0, w 0, .nils, u 0, u 65537, u 1, u 0, u 0, u 0, u 0, u 0, u 0, u 0, u 0, u 0, u 0, .lst [.bool true] 1, u 0, x 0, u 0, u 1, .bool false]
noncomputable def zS0_1_12 : St := ⟨zT0_1 (x 12), [], ⟨(142, ⟨(zg0 ++ (zt13 ++ (zt14 ++ (zt8 ++ (zt12))))), 57, true⟩) :: zH0_1 ⟨zb75, 48, true⟩ ⟨zb78, 114, true⟩ ⟨[.sl 142 0 12 22 true], 27, false⟩, 143, zl0⟩⟩
theorem zr0_1_11 (k : St → Bool) : rndsH cR 3000 zL0_1 (142 :: zI0_1) zB0_1 1 zS0_1_11 k false = k zS0_1_12 := by kernel_rfl
noncomputable def zb79 : List AV := [x 0, y 2, y 0, x 0, x 0, u 0, y 0, w 0, w 0, y 0, y 0, y 0, y 0, y 0, y 0, w 0, w 0, x 0, w 0, .nils, x 0, y 8, u 1, y 9, w 1, w 7, w 2, .bool false, x 0, w 0, .nils, u 0, u 65537, u 1, u 0, u 0, u 65536, u 0, u 0, u 0, u 0, u 0, u 0, u 0, .lst [.bool true] 1, u 0, x 0, u 0, u 1, .bool false]
noncomputable def zS0_1_13 : St := ⟨zT0_1 (x 13), [], ⟨(152, ⟨(zg0 ++ (zt13 ++ (zt14 ++ (zt8 ++ (zt12 ++ (zt15)))))), 57, true⟩) :: zH0_1 ⟨zb75, 48, true⟩ ⟨zb79, 114, true⟩ ⟨[.sl 152 0 13 22 true], 27, false⟩, 153, zl0⟩⟩
theorem zr0_1_12 (k : St → Bool) : rndsH cR 3000 zL0_1 (152 :: zI0_1) zB0_1 1 zS0_1_12 k false = k zS0_1_13 := by kernel_rfl
noncomputable def zb80 : List AV := [x 0, y 2, y 0, x 0, x 0, u 0, y 0, w 0, w 0, y 0, y 0, y 0, y 0, y 0, y 0, w 0, w 0, x 0, w 0, .nils, x 0, y 10, u 1, y 9, w 1, w 7, w 2, .bool false, x 0, w 0, .nils, u 0, u 65537, u 1, u 0, u 0, u 65536, u 0, u 0, u 0, u 1, u 265, u 7, u 2, .lst [.bool true] 1, u 0, x 0, u 0, u 1, .bool false]
noncomputable def zS0_1_14 : St := ⟨zT0_1 (x 14), [], ⟨(162, ⟨(zg0 ++ (zt13 ++ (zt14 ++ (zt8 ++ (zt12 ++ (zt15 ++ (zt10))))))), 57, true⟩) :: zH0_1 ⟨zb75, 48, true⟩ ⟨zb80, 114, true⟩ ⟨[.sl 162 0 14 22 true], 27, false⟩, 163, zl0⟩⟩
theorem zr0_1_13 (k : St → Bool) : rndsH cR 3000 zL0_1 (162 :: zI0_1) zB0_1 1 zS0_1_13 k false = k zS0_1_14 := by kernel_rfl
noncomputable def zb81 : List AV := [u 0, u 0, u 0, u 0, u 0, u 0, u 0, u 0, u 65537, u 1, u 0, u 0, u 1, u 265, u 7, u 2, u 0, u 0, u 0, u 0, u 0, u 0, u 0, u 0, u 0, u 0, u 0, u 0, u 0, u 0, u 0, u 0, u 0, u 0, u 0, u 0, u 65537, u 36896, u 30064771073, u 8589934592, u 0, u 0, u 0, u 0]
noncomputable def zb82 : List AV := [x 0, y 2, y 0, x 0, x 0, u 0, y 0, w 0, w 0, y 0, y 0, y 0, y 0, y 0, y 0, w 0, w 0, x 0, w 0, .nils, x 0, y 2, u 1, y 9, w 1, w 7, w 2, .bool false, x 0, w 0, .nils, u 0, u 65537, u 1, u 0, u 0, u 65536, u 0, u 0, u 0, u 1, u 265, u 7, u 2, .lst [.bool true] 1, u 0, x 0, u 0, u 1, .bool false]
noncomputable def zS0_1_15 : St := ⟨zT0_1 (x 15), [], ⟨(173, ⟨(zg0 ++ (zt13 ++ (zt14 ++ (zt8 ++ (zt12 ++ (zt15 ++ (zt10 ++ (zt16)))))))), 57, true⟩) :: zH0_1 ⟨zb81, 48, true⟩ ⟨zb82, 114, true⟩ ⟨[.sl 173 0 15 22 true], 27, false⟩, 174, zl0⟩⟩
theorem zr0_1_14 (k : St → Bool) : rndsH cR 3000 zL0_1 (173 :: zI0_1) zB0_1 1 zS0_1_14 k false = k zS0_1_15 := by kernel_rfl
noncomputable def zb83 : List AV := [x 0, y 2, y 0, x 0, x 0, u 0, y 0, w 0, w 0, y 0, y 0, y 0, y 0, y 0, y 0, w 0, w 0, x 0, w 0, .nils, x 0, y 3, u 1, y 9, w 1, w 7, w 2, .bool false, x 0, w 0, .nils, u 0, u 65537, u 1, u 0, u 0, u 65536, u 0, u 0, u 0, u 1, u 265, u 7, u 2, .lst [.bool true] 1, u 0, x 0, u 0, u 1, .bool false]
noncomputable def zS0_1_16 : St := ⟨zT0_1 (x 16), [], ⟨(183, ⟨(zg0 ++ (zt13 ++ (zt14 ++ (zt8 ++ (zt12 ++ (zt15 ++ (zt10 ++ (zt16 ++ (zt8))))))))), 57, true⟩) :: zH0_1 ⟨zb81, 48, true⟩ ⟨zb83, 114, true⟩ ⟨[.sl 183 0 16 22 true], 27, false⟩, 184, zl0⟩⟩
theorem zr0_1_15 (k : St → Bool) : rndsH cR 3000 zL0_1 (183 :: zI0_1) zB0_1 1 zS0_1_15 k false = k zS0_1_16 := by kernel_rfl
noncomputable def zb84 : List AV := [x 0, y 2, y 0, x 0, x 0, u 0, y 0, w 0, w 0, y 0, y 0, y 0, y 0, y 0, y 0, w 0, w 0, x 0, w 0, .nils, x 0, y 7, u 1, y 9, w 1, w 7, w 2, .bool false, x 0, w 0, .nils, u 0, u 65537, u 1, u 0, u 0, u 65536, u 0, u 0, u 0, u 1, u 265, u 7, u 2, .lst [.bool true] 1, u 0, x 0, u 0, u 1, .bool false]
noncomputable def zS0_1_17 : St := ⟨zT0_1 (x 17), [], ⟨(193, ⟨(zg0 ++ (zg1 ++ (zt12))), 57, true⟩) :: zH0_1 ⟨zb81, 48, true⟩ ⟨zb84, 114, true⟩ ⟨[.sl 193 0 17 22 true], 27, false⟩, 194, zl0⟩⟩
theorem zr0_1_16 (k : St → Bool) : rndsH cR 3000 zL0_1 (193 :: zI0_1) zB0_1 1 zS0_1_16 k false = k zS0_1_17 := by kernel_rfl
noncomputable def zb85 : List AV := [x 0, y 2, y 0, x 0, x 0, u 0, y 0, w 0, w 0, y 0, y 0, y 0, y 0, y 0, y 0, w 0, w 0, x 0, w 0, .nils, x 0, y 8, u 1, y 9, w 1, w 7, w 2, .bool false, x 0, w 0, .nils, u 0, u 65537, u 1, u 0, u 0, u 65537, u 36896, u 30064771073, u 8589934592, u 1, u 265, u 7, u 2, .lst [.bool true] 1, u 0, x 0, u 0, u 1, .bool false]
noncomputable def zS0_1_18 : St := ⟨zT0_1 (x 18), [], ⟨(203, ⟨(zg0 ++ (zg1 ++ (zt12 ++ (zt17)))), 57, true⟩) :: zH0_1 ⟨zb81, 48, true⟩ ⟨zb85, 114, true⟩ ⟨[.sl 203 0 18 22 true], 27, false⟩, 204, zl0⟩⟩
theorem zr0_1_17 (k : St → Bool) : rndsH cR 3000 zL0_1 (203 :: zI0_1) zB0_1 1 zS0_1_17 k false = k zS0_1_18 := by kernel_rfl
noncomputable def zb86 : List AV := [x 0, y 2, y 0, x 0, x 0, u 0, y 0, w 0, w 0, y 0, y 0, y 0, y 0, y 0, y 0, w 0, w 0, x 0, w 0, .nils, x 0, y 10, u 1, y 9, w 1, w 7, w 2, .bool false, x 0, w 0, .nils, u 0, u 65537, u 1, u 0, u 0, u 65537, u 36896, u 30064771073, u 8589934592, u 0, u 0, u 0, u 0, .lst [.bool true] 1, u 0, x 0, u 0, u 1, .bool false]
noncomputable def zS0_1_19 : St := ⟨zT0_1 (x 19), [], ⟨(213, ⟨(zg0 ++ (zg1 ++ (zt12 ++ (zt17 ++ (zt18))))), 57, true⟩) :: zH0_1 ⟨zb81, 48, true⟩ ⟨zb86, 114, true⟩ ⟨[.sl 213 0 19 22 true], 27, false⟩, 214, zl0⟩⟩
theorem zr0_1_18 (k : St → Bool) : rndsH cR 3000 zL0_1 (213 :: zI0_1) zB0_1 1 zS0_1_18 k false = k zS0_1_19 := by kernel_rfl
end Go.Proofs.YtfbmlbocgeabgabGreatDoor.ghostNames
