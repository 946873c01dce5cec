/- Known calls of a closed run, where they stand: states, rounds, ends. No conditions. -/
import Derived.Test.YtehfcbppcfpjoaaGreatDoorBasAlV
import Derived.Test.YtehfcbppcfpjoaaGreatDoorBasXr
namespace Go.Proofs.YtehfcbppcfpjoaaGreatDoor.aloneNames
open Go.ChangeShapes Go.WideShapes Go.ChangeAt Go.RowKit Go.Bas
set_option linter.unusedVariables false
set_option maxRecDepth 100000
noncomputable def zrep (z : List AV) : Nat → List AV
  | 0 => []
  | n + 1 => z ++ zrep z n
noncomputable def zb0 : List AV := [u 0, u 0, u 0, u 0, u 0, u 0, u 1, u 0, u 0, u 0, u 0, u 0, u 0, u 8, u 1, u 0]
noncomputable def zb1 : List AV := [y 1, x 2, x 1, y 1, x 0, x 1, x 2, x 0, x 1, x 0, u 131072, u 0]
noncomputable def zb2 : List AV := [y 3, x 2, x 1, y 1, x 0, x 0, x 2, x 0, x 1, x 0, u 131072, u 0]
noncomputable def zh0 : Heap := [(21, ⟨[u 3, u 7], 35, true⟩), (5, ⟨[x 0], 27, true⟩), (4, ⟨[.sl 21 0 1 2 true], 26, false⟩), (2, ⟨zb0, 31, true⟩), (1, ⟨zb1, 24, true⟩), (0, ⟨zb2, 24, true⟩)]
noncomputable def zA0 : List AV := [.agg [y 1, x 2, x 1, y 1, x 0, x 1, x 2, x 0, x 1, x 0, u 131072, u 0], .sl 2 0 4 4 true]
noncomputable def zM0 : Mem := ⟨[(2, ⟨zb0, 31, true⟩), (1, ⟨zb1, 24, true⟩), (0, ⟨zb2, 24, true⟩)], 3, []⟩
noncomputable def zE0 : St := ⟨[.any, .any, .any, .any, .ptr 4 0, .ptr 5 0, .any, .any, .any, .any, .any, .any, .any, .any, .any, .any, .any, .any, .any, .any, .any, .any, .any, .any, .any], [], ⟨zh0, 22, []⟩⟩
noncomputable def zV0 : AV := .tup [.sl 21 0 1 2 true, x 0]
noncomputable def zi0 : List Nat := [21, 5, 4, 2, 1, 0]
noncomputable def zr0 : List Nat := [4, 5]
noncomputable def zD0 : St := ⟨[.any, .sl 2 0 4 4 true, .ptr 3 0, .any, .ptr 4 0, .ptr 5 0, .any, .any, .any, .any, .any, .any, .any, .any, .any, .any, .any, .any, .any, .any, .any, .any, .any, .any, .any], [], ⟨[(5, ⟨[x 0], 27, true⟩), (4, ⟨[.nils], 26, true⟩), (3, ⟨zb1, 24, true⟩), (2, ⟨zb0, 31, true⟩), (1, ⟨zb1, 24, true⟩), (0, ⟨zb2, 24, true⟩)], 9, []⟩⟩
noncomputable def zd0 : List Nat := [5, 4, 3, 2, 1, 0]
theorem zt0 (k : St → Bool) : runs cR 3000 vps ⟨padL zA0 25, [], zM0⟩ (fun s => k (keepSN [1, 2, 4, 5] zd0 s)) false = k zD0 := by kernel_rfl
theorem zu0 (k : St → Bool) (kp : AV → St → Bool) : opsK cR (callR cR (run cR 3000) false) (opsOf vL) (opsOf vL).toList zD0 (fun s => k (keepSN [4, 5] zi0 s)) (fun v s => kp v (keepSN [4, 5] zi0 s)) false = k zE0 := by kernel_rfl
theorem zw0 (kk : AV → Mem → Bool) : resKs cR zE0 [.cell 4 26, .cell 5 27] (fun vs => kk (tupOf vs) zE0.m) false = kk zV0 zE0.m := by kernel_rfl
noncomputable def zb3 : List AV := [u 0, u 0, u 0, u 0, u 0, u 0, u 1, u 0, u 0, u 0, u 0, u 0, u 0, u 8, u 0, u 0]
noncomputable def zA1 : List AV := [.agg [y 1, x 2, x 1, y 1, x 0, x 1, x 2, x 0, x 1, x 0, u 131072, u 0], .sl 22 0 4 4 true]
noncomputable def zM1 : Mem := ⟨((22, ⟨zb3, 31, true⟩) :: zh0), 23, []⟩
noncomputable def zW1 : Mem := ⟨((25, ⟨[x 2], 27, true⟩) :: (24, ⟨[.nils], 26, true⟩) :: (22, ⟨zb3, 31, true⟩) :: zh0), 34, []⟩
noncomputable def zE1 : St := ⟨[.any, .any, .any, .any, .ptr 24 0, .ptr 25 0, .any, .any, .any, .any, .any, .any, .any, .any, .any, .any, .any, .any, .any, .any, .any, .any, .any, .any, .any], [], ⟨((25, ⟨[x 0], 27, true⟩) :: (24, ⟨[.nils], 26, true⟩) :: (22, ⟨zb3, 31, true⟩) :: zh0), 34, []⟩⟩
noncomputable def zV1 : AV := .tup [.nils, x 2]
noncomputable def zi1 : List Nat := [25, 24, 22, 21, 5, 4, 2, 1, 0]
noncomputable def zr1 : List Nat := [4, 5]
noncomputable def zD1 : St := ⟨[.any, .sl 22 0 4 4 true, .ptr 23 0, .any, .ptr 24 0, .ptr 25 0, .any, .any, .any, .any, .any, .any, .any, .any, .any, .any, .any, .any, .any, .any, .any, .any, .any, .any, .any], [], ⟨((25, ⟨[x 0], 27, true⟩) :: (24, ⟨[.nils], 26, true⟩) :: (23, ⟨zb1, 24, true⟩) :: (22, ⟨zb3, 31, true⟩) :: zh0), 29, []⟩⟩
noncomputable def zd1 : List Nat := [25, 24, 23, 22, 21, 5, 4, 2, 1, 0]
theorem zt1 (k : St → Bool) : runs cR 3000 vps ⟨padL zA1 25, [], zM1⟩ (fun s => k (keepSN [1, 2, 4, 5] zd1 s)) false = k zD1 := by kernel_rfl
theorem zu1 (k : St → Bool) (kp : AV → St → Bool) : opsK cR (callR cR (run cR 3000) false) (opsOf vL) (opsOf vL).toList zD1 (fun s => k (keepSN [4, 5] zi1 s)) (fun v s => kp v (keepSN [4, 5] zi1 s)) false = kp (.iface 27 (x 2)) zE1 := by kernel_rfl
theorem zq1 (k : Ex → St → Bool) : run cR 3000 none none kY ⟨[.ptr 24 0, .ptr 25 0, .any, .any], [], zE1.m⟩ (fun e s => k e (keepSN [] zi1 s)) false = k .normal ⟨[.any, .any, .any, .any], [], zW1⟩ := by kernel_rfl
theorem zw1 (kk : AV → Mem → Bool) : resKs cR ⟨zE1.tmps, [], zW1⟩ [.cell 4 26, .cell 5 27] (fun vs => kk (tupOf vs) zW1) false = kk zV1 zW1 := by kernel_rfl
noncomputable def zb4 : List AV := [u 7, u 3, u 0, u 0, u 0, u 1, u 2, u 0, u 0, u 2, u 3, u 0, u 0, u 4, u 0, u 0, u 0, u 2, u 0, u 0, u 0, u 4, u 0, u 0]
noncomputable def zb5 : List AV := [y 2, x 2, x 1, y 1, x 0, x 0, x 3, x 2, x 1, x 1, u 131072, u 0]
noncomputable def zA2 : List AV := [.agg [y 2, x 2, x 1, y 1, x 0, x 0, x 3, x 2, x 1, x 1, u 131072, u 0], .sl 36 0 6 4 true]
noncomputable def zM2 : Mem := ⟨((36, ⟨zb4, 31, true⟩) :: (35, ⟨zb5, 24, true⟩) :: (34, ⟨zb2, 24, true⟩) :: (25, ⟨[x 2], 27, true⟩) :: (24, ⟨[.nils], 26, true⟩) :: (22, ⟨zb3, 31, true⟩) :: zh0), 37, []⟩
noncomputable def zE2 : St := ⟨[.any, .any, .any, .any, .ptr 38 0, .ptr 39 0, .any, .any, .any, .any, .any, .any, .any, .any, .any, .any, .any, .any, .any, .any, .any, .any, .any, .any, .any], [], ⟨((58, ⟨[u 1, u 2, u 2, u 3, u 4, u 0], 35, true⟩) :: (39, ⟨[x 0], 27, true⟩) :: (38, ⟨[.sl 58 0 3 2 true], 26, false⟩) :: (36, ⟨zb4, 31, true⟩) :: (35, ⟨zb5, 24, true⟩) :: (34, ⟨zb2, 24, true⟩) :: (25, ⟨[x 2], 27, true⟩) :: (24, ⟨[.nils], 26, true⟩) :: (22, ⟨zb3, 31, true⟩) :: zh0), 68, []⟩⟩
noncomputable def zV2 : AV := .tup [.sl 58 0 3 2 true, x 0]
noncomputable def zi2 : List Nat := [58, 39, 38, 36, 35, 34, 25, 24, 22, 21, 5, 4, 2, 1, 0]
noncomputable def zr2 : List Nat := [4, 5]
noncomputable def zD2 : St := ⟨[.any, .sl 36 0 6 4 true, .ptr 37 0, .any, .ptr 38 0, .ptr 39 0, .any, .any, .any, .any, .any, .any, .any, .any, .any, .any, .any, .any, .any, .any, .any, .any, .any, .any, .any], [], ⟨((39, ⟨[x 0], 27, true⟩) :: (38, ⟨[.nils], 26, true⟩) :: (37, ⟨zb5, 24, true⟩) :: (36, ⟨zb4, 31, true⟩) :: (35, ⟨zb5, 24, true⟩) :: (34, ⟨zb2, 24, true⟩) :: (25, ⟨[x 2], 27, true⟩) :: (24, ⟨[.nils], 26, true⟩) :: (22, ⟨zb3, 31, true⟩) :: zh0), 47, []⟩⟩
noncomputable def zd2 : List Nat := [39, 38, 37, 36, 35, 34, 25, 24, 22, 21, 5, 4, 2, 1, 0]
theorem zt2 (k : St → Bool) : runs cR 3000 vps ⟨padL zA2 25, [], zM2⟩ (fun s => k (keepSN [1, 2, 4, 5] zd2 s)) false = k zD2 := by kernel_rfl
theorem zu2 (k : St → Bool) (kp : AV → St → Bool) : opsK cR (callR cR (run cR 3000) false) (opsOf vL) (opsOf vL).toList zD2 (fun s => k (keepSN [4, 5] zi2 s)) (fun v s => kp v (keepSN [4, 5] zi2 s)) false = k zE2 := by kernel_rfl
theorem zw2 (kk : AV → Mem → Bool) : resKs cR zE2 [.cell 4 26, .cell 5 27] (fun vs => kk (tupOf vs) zE2.m) false = kk zV2 zE2.m := by kernel_rfl
noncomputable def zb6 : List AV := [u 0, u 2, u 0, u 0, u 0, u 1, u 2, u 0, u 0, u 2, u 3, u 0, u 0, u 4, u 0, u 0, u 0, u 2, u 0, u 0, u 0, u 0, u 0, u 0]
noncomputable def zA3 : List AV := [.agg [y 2, x 2, x 1, y 1, x 0, x 0, x 3, x 2, x 1, x 1, u 131072, u 0], .sl 68 0 6 4 true]
noncomputable def zM3 : Mem := ⟨((68, ⟨zb6, 31, true⟩) :: (58, ⟨[u 1, u 2, u 2, u 3, u 4, u 0], 35, true⟩) :: (39, ⟨[x 0], 27, true⟩) :: (38, ⟨[.sl 58 0 3 2 true], 26, false⟩) :: (36, ⟨zb4, 31, true⟩) :: (35, ⟨zb5, 24, true⟩) :: (34, ⟨zb2, 24, true⟩) :: (25, ⟨[x 2], 27, true⟩) :: (24, ⟨[.nils], 26, true⟩) :: (22, ⟨zb3, 31, true⟩) :: zh0), 69, []⟩
noncomputable def zW3 : Mem := ⟨((71, ⟨[x 2], 27, true⟩) :: (70, ⟨[.nils], 26, true⟩) :: (68, ⟨zb6, 31, true⟩) :: (58, ⟨[u 1, u 2, u 2, u 3, u 4, u 0], 35, true⟩) :: (39, ⟨[x 0], 27, true⟩) :: (38, ⟨[.sl 58 0 3 2 true], 26, false⟩) :: (36, ⟨zb4, 31, true⟩) :: (35, ⟨zb5, 24, true⟩) :: (34, ⟨zb2, 24, true⟩) :: (25, ⟨[x 2], 27, true⟩) :: (24, ⟨[.nils], 26, true⟩) :: (22, ⟨zb3, 31, true⟩) :: zh0), 96, []⟩
noncomputable def zE3 : St := ⟨[.any, .any, .any, .any, .ptr 70 0, .ptr 71 0, .any, .any, .any, .any, .any, .any, .any, .any, .any, .any, .any, .any, .any, .any, .any, .any, .any, .any, .any], [], ⟨((71, ⟨[x 0], 27, true⟩) :: (70, ⟨[.nils], 26, true⟩) :: (68, ⟨zb6, 31, true⟩) :: (58, ⟨[u 1, u 2, u 2, u 3, u 4, u 0], 35, true⟩) :: (39, ⟨[x 0], 27, true⟩) :: (38, ⟨[.sl 58 0 3 2 true], 26, false⟩) :: (36, ⟨zb4, 31, true⟩) :: (35, ⟨zb5, 24, true⟩) :: (34, ⟨zb2, 24, true⟩) :: (25, ⟨[x 2], 27, true⟩) :: (24, ⟨[.nils], 26, true⟩) :: (22, ⟨zb3, 31, true⟩) :: zh0), 96, []⟩⟩
noncomputable def zV3 : AV := .tup [.nils, x 2]
noncomputable def zi3 : List Nat := [71, 70, 68, 58, 39, 38, 36, 35, 34, 25, 24, 22, 21, 5, 4, 2, 1, 0]
noncomputable def zr3 : List Nat := [4, 5]
end Go.Proofs.YtehfcbppcfpjoaaGreatDoor.aloneNames
