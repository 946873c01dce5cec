/- Known calls of a closed run, where they stand: states, rounds, ends. No conditions. -/
import Derived.Test.YtfbmlbocgeabgabGreatDoorBasGhostNamesX11
namespace Go.Proofs.YtfbmlbocgeabgabGreatDoor.ghostNames
open Go.ChangeShapes Go.WideShapes Go.ChangeAt Go.RowKit Go.Bas
set_option linter.unusedVariables false
set_option maxRecDepth 100000
noncomputable def zS1_14_52 : St := ⟨zT1_14 (x 52), [], ⟨(1835, ⟨zb177, 59, true⟩) :: zH1_14 ⟨[x 0], 3, true⟩ ⟨zb178, 72, false⟩, 2509, []⟩⟩
theorem zr1_14_48 (k : St → Bool) : rndsH cR 3000 zL1_14 (1835 :: zI1_14) zB1_14 4 zS1_14_48 k false = k zS1_14_52 := by kernel_rfl
noncomputable def zS1_14_56 : St := ⟨zT1_14 (x 56), [], ⟨(1835, ⟨zb177, 59, true⟩) :: zH1_14 ⟨[x 0], 3, true⟩ ⟨zb178, 72, false⟩, 2561, []⟩⟩
theorem zr1_14_52 (k : St → Bool) : rndsH cR 3000 zL1_14 (1835 :: zI1_14) zB1_14 4 zS1_14_52 k false = k zS1_14_56 := by kernel_rfl
noncomputable def zS1_14_60 : St := ⟨zT1_14 (x 60), [], ⟨(1835, ⟨zb177, 59, true⟩) :: zH1_14 ⟨[x 0], 3, true⟩ ⟨zb178, 72, false⟩, 2613, []⟩⟩
theorem zr1_14_56 (k : St → Bool) : rndsH cR 3000 zL1_14 (1835 :: zI1_14) zB1_14 4 zS1_14_56 k false = k zS1_14_60 := by kernel_rfl
noncomputable def zS1_14_64 : St := ⟨zT1_14 (x 64), [], ⟨(1835, ⟨zb177, 59, true⟩) :: zH1_14 ⟨[x 0], 3, true⟩ ⟨zb178, 72, false⟩, 2665, []⟩⟩
theorem zr1_14_60 (k : St → Bool) : rndsH cR 3000 zL1_14 (1835 :: zI1_14) zB1_14 4 zS1_14_60 k false = k zS1_14_64 := by kernel_rfl
noncomputable def zS1_14_68 : St := ⟨zT1_14 (x 68), [], ⟨(1835, ⟨zb177, 59, true⟩) :: zH1_14 ⟨[x 0], 3, true⟩ ⟨zb178, 72, false⟩, 2717, []⟩⟩
theorem zr1_14_64 (k : St → Bool) : rndsH cR 3000 zL1_14 (1835 :: zI1_14) zB1_14 4 zS1_14_64 k false = k zS1_14_68 := by kernel_rfl
noncomputable def zS1_14_72 : St := ⟨zT1_14 (x 72), [], ⟨(1835, ⟨zb177, 59, true⟩) :: zH1_14 ⟨[x 0], 3, true⟩ ⟨zb178, 72, false⟩, 2769, []⟩⟩
theorem zr1_14_68 (k : St → Bool) : rndsH cR 3000 zL1_14 (1835 :: zI1_14) zB1_14 4 zS1_14_68 k false = k zS1_14_72 := by kernel_rfl
noncomputable def zS1_14_76 : St := ⟨zT1_14 (x 76), [], ⟨(1835, ⟨zb177, 59, true⟩) :: zH1_14 ⟨[x 0], 3, true⟩ ⟨zb178, 72, false⟩, 2821, []⟩⟩
theorem zr1_14_72 (k : St → Bool) : rndsH cR 3000 zL1_14 (1835 :: zI1_14) zB1_14 4 zS1_14_72 k false = k zS1_14_76 := by kernel_rfl
noncomputable def zS1_14_80 : St := ⟨zT1_14 (x 80), [], ⟨(1835, ⟨zb177, 59, true⟩) :: zH1_14 ⟨[x 0], 3, true⟩ ⟨zb178, 72, false⟩, 2873, []⟩⟩
theorem zr1_14_76 (k : St → Bool) : rndsH cR 3000 zL1_14 (1835 :: zI1_14) zB1_14 4 zS1_14_76 k false = k zS1_14_80 := by kernel_rfl
noncomputable def zb179 : List AV := [x 0, x 0, x 0, x 81, y 9, w 1, w 7, w 2, x 0, w 0, .nils, y 2, .bool true, u 1, x 0, x 0, x 1, x 82, x (-1), y 9, w 1, w 7, w 1, x 0, w 0, .nils, y 2, .bool false, u 0, x 0]
noncomputable def zS1_14_84 : St := ⟨zT1_14 (x 84), [], ⟨(2908, ⟨zb179, 59, true⟩) :: zH1_14 ⟨[x 1], 3, true⟩ ⟨zb173, 72, false⟩, 2932, []⟩⟩
theorem zr1_14_80 (k : St → Bool) : rndsH cR 3000 zL1_14 (2908 :: 1835 :: zI1_14) zB1_14 4 zS1_14_80 k false = k zS1_14_84 := by kernel_rfl
noncomputable def zS1_14_86 : St := ⟨zT1_14 (x 86), [], ⟨(2908, ⟨zb172, 59, true⟩) :: zH1_14 ⟨[x (-1)], 3, true⟩ ⟨zb173, 72, false⟩, 2959, []⟩⟩
theorem zr1_14_84 (k : St → Bool) : rndsH cR 3000 zL1_14 (2908 :: zI1_14) zB1_14 2 zS1_14_84 k false = k zS1_14_86 := by kernel_rfl
noncomputable def zS1_14_87 : St := ⟨zT1_14 (x 86), [], ⟨(2908, ⟨zb172, 59, true⟩) :: zH1_14 ⟨[x (-1)], 3, true⟩ ⟨zb173, 72, false⟩, 2959, []⟩⟩
theorem zl1_14 (k : Ex → St → Bool) : run cR 3000 none none zB1_14 zS1_14_86 (fun e s => k e (keepSH zL1_14 (2908 :: zI1_14) s)) false = k (.exit 2) zS1_14_87 := by kernel_rfl
theorem zc1_14 {K : Ex → St → Prop} (h : K (.exit 2) zS1_14_87) : AWr cR none zB1_14 zS1_14_0 K := by
  refine AWr.toH hR zr1_14_0 ?_
  refine AWr.toH hR zr1_14_4 ?_
  refine AWr.toH hR zr1_14_8 ?_
  refine AWr.toH hR zr1_14_12 ?_
  refine AWr.toH hR zr1_14_16 ?_
  refine AWr.toH hR zr1_14_20 ?_
  refine AWr.toH hR zr1_14_24 ?_
  refine AWr.toH hR zr1_14_28 ?_
  refine AWr.toH hR zr1_14_32 ?_
  refine AWr.toH hR zr1_14_36 ?_
  refine AWr.toH hR zr1_14_40 ?_
  refine AWr.toH hR zr1_14_44 ?_
  refine AWr.toH hR zr1_14_48 ?_
  refine AWr.toH hR zr1_14_52 ?_
  refine AWr.toH hR zr1_14_56 ?_
  refine AWr.toH hR zr1_14_60 ?_
  refine AWr.toH hR zr1_14_64 ?_
  refine AWr.toH hR zr1_14_68 ?_
  refine AWr.toH hR zr1_14_72 ?_
  refine AWr.toH hR zr1_14_76 ?_
  refine AWr.toH hR zr1_14_80 ?_
  refine AWr.toH hR zr1_14_84 ?_
  exact (AWr.last hR zl1_14 (fun h => by cases h) h)
noncomputable def zF1_14 : LF := fun st k => cond (onP (keepSH zL1_14 (zI1_14) st = zS1_14_0)) (k (.exit 2) zS1_14_87) false
theorem zk1_14 : ∀ (st : St) (k : Ex → St → Bool), zF1_14 st k = true → AWp cR none (.loop zB1_14) st (fun e s => k e s = true) := fun st k h => by
  obtain ⟨h1, h2⟩ := of_cond h
  exact AWp.loopH (of_onP h1) (zc1_14 (K := fun e s => k e s = true) h2)
end Go.Proofs.YtfbmlbocgeabgabGreatDoor.ghostNames
