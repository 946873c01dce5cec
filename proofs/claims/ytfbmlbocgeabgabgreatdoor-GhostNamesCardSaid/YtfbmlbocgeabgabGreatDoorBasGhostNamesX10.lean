/- Known calls of a closed run, where they stand: states, rounds, ends. No conditions. -/
import Derived.Test.YtfbmlbocgeabgabGreatDoorBasGhostNamesX9
namespace Go.Proofs.YtfbmlbocgeabgabGreatDoor.ghostNames
open Go.ChangeShapes Go.WideShapes Go.ChangeAt Go.RowKit Go.Bas
set_option linter.unusedVariables false
set_option maxRecDepth 100000
noncomputable def zS0_1_326 : St := ⟨zT0_1 (x 326), [], ⟨(902, ⟨(zg0 ++ (zg1 ++ (zg2 ++ (zg3 ++ (zg4 ++ (zg5 ++ (zg6 ++ (zg7 ++ (zg8 ++ (zg9 ++ (zt26 ++ (zt56 ++ (zt57 ++ (zt58 ++ (zt59 ++ (zt60)))))))))))))))), 57, true⟩) :: zH0_1 ⟨zb61, 48, true⟩ ⟨zb62, 114, true⟩ ⟨[.sl 902 0 86 22 true], 27, false⟩, 1383, zl0⟩⟩
theorem zr0_1_266 (k : St → Bool) : rndsH cR 3000 zL0_1 (902 :: zI0_1) zB0_1 60 zS0_1_266 k false = k zS0_1_326 := by kernel_rfl
noncomputable def zS0_1_386 : St := ⟨zT0_1 (x 386), [], ⟨(902, ⟨(zg0 ++ (zg1 ++ (zg2 ++ (zg3 ++ (zg4 ++ (zg5 ++ (zg6 ++ (zg7 ++ (zg8 ++ (zg9 ++ (zt26 ++ (zt56 ++ (zt57 ++ (zt58 ++ (zt59 ++ (zt60)))))))))))))))), 57, true⟩) :: zH0_1 ⟨zb61, 48, true⟩ ⟨zb62, 114, true⟩ ⟨[.sl 902 0 86 22 true], 27, false⟩, 1503, zl0⟩⟩
theorem zr0_1_326 (k : St → Bool) : rndsH cR 3000 zL0_1 (902 :: zI0_1) zB0_1 60 zS0_1_326 k false = k zS0_1_386 := by kernel_rfl
noncomputable def zS0_1_446 : St := ⟨zT0_1 (x 446), [], ⟨(902, ⟨(zg0 ++ (zg1 ++ (zg2 ++ (zg3 ++ (zg4 ++ (zg5 ++ (zg6 ++ (zg7 ++ (zg8 ++ (zg9 ++ (zt26 ++ (zt56 ++ (zt57 ++ (zt58 ++ (zt59 ++ (zt60)))))))))))))))), 57, true⟩) :: zH0_1 ⟨zb61, 48, true⟩ ⟨zb62, 114, true⟩ ⟨[.sl 902 0 86 22 true], 27, false⟩, 1623, zl0⟩⟩
theorem zr0_1_386 (k : St → Bool) : rndsH cR 3000 zL0_1 (902 :: zI0_1) zB0_1 60 zS0_1_386 k false = k zS0_1_446 := by kernel_rfl
noncomputable def zS0_1_500 : St := ⟨zT0_1 (x 500), [], ⟨(902, ⟨(zg0 ++ (zg1 ++ (zg2 ++ (zg3 ++ (zg4 ++ (zg5 ++ (zg6 ++ (zg7 ++ (zg8 ++ (zg9 ++ (zt26 ++ (zt56 ++ (zt57 ++ (zt58 ++ (zt59 ++ (zt60)))))))))))))))), 57, true⟩) :: zH0_1 ⟨zb61, 48, true⟩ ⟨zb62, 114, true⟩ ⟨[.sl 902 0 86 22 true], 27, false⟩, 1731, zl0⟩⟩
theorem zr0_1_446 (k : St → Bool) : rndsH cR 3000 zL0_1 (902 :: zI0_1) zB0_1 54 zS0_1_446 k false = k zS0_1_500 := by kernel_rfl
noncomputable def zS0_1_501 : St := ⟨zT0_1 (x 500), [], ⟨(902, ⟨(zg0 ++ (zg1 ++ (zg2 ++ (zg3 ++ (zg4 ++ (zg5 ++ (zg6 ++ (zg7 ++ (zg8 ++ (zg9 ++ (zt26 ++ (zt56 ++ (zt57 ++ (zt58 ++ (zt59 ++ (zt60)))))))))))))))), 57, true⟩) :: zH0_1 ⟨zb61, 48, true⟩ ⟨zb62, 114, true⟩ ⟨[.sl 902 0 86 22 true], 27, false⟩, 1731, zl0⟩⟩
theorem zl0_1 (k : Ex → St → Bool) : run cR 3000 none none zB0_1 zS0_1_500 (fun e s => k e (keepSH zL0_1 (902 :: zI0_1) s)) false = k (.exit 0) zS0_1_501 := by kernel_rfl
theorem zc0_1 {K : Ex → St → Prop} (h : K (.exit 0) zS0_1_501) : AWr cR none zB0_1 zS0_1_0 K := by
  refine AWr.toH hR zr0_1_0 ?_
  refine AWr.toH hR zr0_1_1 ?_
  refine AWr.toH hR zr0_1_2 ?_
  refine AWr.toH hR zr0_1_3 ?_
  refine AWr.toH hR zr0_1_4 ?_
  refine AWr.toH hR zr0_1_5 ?_
  refine AWr.toH hR zr0_1_6 ?_
  refine AWr.toH hR zr0_1_7 ?_
  refine AWr.toH hR zr0_1_8 ?_
  refine AWr.toH hR zr0_1_9 ?_
  refine AWr.toH hR zr0_1_10 ?_
  refine AWr.toH hR zr0_1_11 ?_
  refine AWr.toH hR zr0_1_12 ?_
  refine AWr.toH hR zr0_1_13 ?_
  refine AWr.toH hR zr0_1_14 ?_
  refine AWr.toH hR zr0_1_15 ?_
  refine AWr.toH hR zr0_1_16 ?_
  refine AWr.toH hR zr0_1_17 ?_
  refine AWr.toH hR zr0_1_18 ?_
  refine AWr.toH hR zr0_1_19 ?_
  refine AWr.toH hR zr0_1_20 ?_
  refine AWr.toH hR zr0_1_21 ?_
  refine AWr.toH hR zr0_1_22 ?_
  refine AWr.toH hR zr0_1_23 ?_
  refine AWr.toH hR zr0_1_24 ?_
  refine AWr.toH hR zr0_1_25 ?_
  refine AWr.toH hR zr0_1_26 ?_
  refine AWr.toH hR zr0_1_27 ?_
  refine AWr.toH hR zr0_1_28 ?_
  refine AWr.toH hR zr0_1_29 ?_
  refine AWr.toH hR zr0_1_30 ?_
  refine AWr.toH hR zr0_1_31 ?_
  refine AWr.toH hR zr0_1_32 ?_
  refine AWr.toH hR zr0_1_33 ?_
  refine AWr.toH hR zr0_1_34 ?_
  refine AWr.toH hR zr0_1_35 ?_
  refine AWr.toH hR zr0_1_36 ?_
  refine AWr.toH hR zr0_1_37 ?_
  refine AWr.toH hR zr0_1_38 ?_
  refine AWr.toH hR zr0_1_39 ?_
  refine AWr.toH hR zr0_1_40 ?_
  refine AWr.toH hR zr0_1_41 ?_
  refine AWr.toH hR zr0_1_42 ?_
  refine AWr.toH hR zr0_1_43 ?_
  refine AWr.toH hR zr0_1_44 ?_
  refine AWr.toH hR zr0_1_45 ?_
  refine AWr.toH hR zr0_1_46 ?_
  refine AWr.toH hR zr0_1_47 ?_
  refine AWr.toH hR zr0_1_48 ?_
  refine AWr.toH hR zr0_1_49 ?_
  refine AWr.toH hR zr0_1_50 ?_
  refine AWr.toH hR zr0_1_51 ?_
  refine AWr.toH hR zr0_1_52 ?_
  refine AWr.toH hR zr0_1_53 ?_
  refine AWr.toH hR zr0_1_54 ?_
  refine AWr.toH hR zr0_1_55 ?_
  refine AWr.toH hR zr0_1_56 ?_
  refine AWr.toH hR zr0_1_57 ?_
  refine AWr.toH hR zr0_1_58 ?_
  refine AWr.toH hR zr0_1_59 ?_
  refine AWr.toH hR zr0_1_60 ?_
  refine AWr.toH hR zr0_1_61 ?_
  refine AWr.toH hR zr0_1_62 ?_
  refine AWr.toH hR zr0_1_63 ?_
  refine AWr.toH hR zr0_1_64 ?_
  refine AWr.toH hR zr0_1_65 ?_
  refine AWr.toH hR zr0_1_66 ?_
  refine AWr.toH hR zr0_1_67 ?_
  refine AWr.toH hR zr0_1_68 ?_
  refine AWr.toH hR zr0_1_69 ?_
  refine AWr.toH hR zr0_1_70 ?_
  refine AWr.toH hR zr0_1_71 ?_
  refine AWr.toH hR zr0_1_72 ?_
  refine AWr.toH hR zr0_1_73 ?_
  refine AWr.toH hR zr0_1_74 ?_
  refine AWr.toH hR zr0_1_75 ?_
  refine AWr.toH hR zr0_1_76 ?_
  refine AWr.toH hR zr0_1_77 ?_
  refine AWr.toH hR zr0_1_78 ?_
  refine AWr.toH hR zr0_1_79 ?_
  refine AWr.toH hR zr0_1_80 ?_
  refine AWr.toH hR zr0_1_81 ?_
  refine AWr.toH hR zr0_1_82 ?_
  refine AWr.toH hR zr0_1_83 ?_
  refine AWr.toH hR zr0_1_84 ?_
  refine AWr.toH hR zr0_1_85 ?_
  refine AWr.toH hR zr0_1_86 ?_
  refine AWr.toH hR zr0_1_146 ?_
  refine AWr.toH hR zr0_1_206 ?_
  refine AWr.toH hR zr0_1_266 ?_
  refine AWr.toH hR zr0_1_326 ?_
  refine AWr.toH hR zr0_1_386 ?_
  refine AWr.toH hR zr0_1_446 ?_
  exact (AWr.last hR zl0_1 (fun h => by cases h) h)
noncomputable def zF0_1 : LF := fun st k => cond (onP (keepSH zL0_1 (zI0_1) st = zS0_1_0)) (k (.exit 0) zS0_1_501) false
theorem zk0_1 : ∀ (st : St) (k : Ex → St → Bool), zF0_1 st k = true → AWp cR none (.loop zB0_1) st (fun e s => k e s = true) := fun st k h => by
  obtain ⟨h1, h2⟩ := of_cond h
  exact AWp.loopH (of_onP h1) (zc0_1 (K := fun e s => k e s = true) h2)
theorem zcode0 : loopsOf (fcode Tryz.prog 21) = [.loop zB0_1] := by kernel_rfl
theorem zok0 : LoopsOkP cR (loopsOf (fcode Tryz.prog 21)) [zF0_1] := by
  rw [zcode0]
  exact ⟨zk0_1, trivial⟩
theorem zx0 (k : Ex → St → Bool) : runM cR 3000 (fcode Tryz.prog 21) [zF0_1] ⟨padL zA0 28, [], zM0⟩ (fun e s => k e (keepSH zr0 zi0 s)) = cond (onP (zS0_1_0 = zS0_1_0)) (k .normal zE0) false := by kernel_rfl
theorem zy0 : AWp cR none (fcode Tryz.prog 21) ⟨padL zA0 28, [], zM0⟩ (fun e s => e = .normal ∧ LessS cR s zE0) := awp_runM hR zok0 fun k hk => (zx0 k).trans (by rw [onP_true (rfl : zS0_1_0 = zS0_1_0)]; exact hk)
noncomputable def zb172 : List AV := [x 0, x 0, x 0, x 81, y 9, w 1, w 7, w 2, x 0, w 0, .nils, y 2, .bool true, u 1, x 0, x 0, x 1, x 82, x 85, y 9, w 1, w 7, w 1, x 230, w 0, .nils, y 3, .bool false, u 0, x 0]
noncomputable def zb173 : List AV := [y 3, x 2, x 1, y 1, x 0, x 0, x 1, x 0, x 1, x 0, u 131072, u 0, x 1, x 2, .sl 1740 0 1 1 true, u 1, .sl 2908 0 2 15 true, .nils]
noncomputable def zh0 : Heap := [(2908, ⟨zb172, 59, true⟩), (1740, ⟨[x (-1)], 3, true⟩), (1737, ⟨zb173, 72, false⟩), (1734, ⟨zb4, 34, true⟩), (1733, ⟨zb4, 34, true⟩), (1732, ⟨zb61, 48, true⟩), (902, ⟨(zg0 ++ (zg1 ++ (zg2 ++ (zg3 ++ (zg4 ++ (zg5 ++ (zg6 ++ (zg7 ++ (zg8 ++ (zg9 ++ (zt26 ++ (zt56 ++ (zt57 ++ (zt58 ++ (zt59 ++ (zt60)))))))))))))))), 57, true⟩), (18, ⟨[.sl 2 0 500 1 true], 36, false⟩), (17, ⟨[.ptr 9 0], 61, false⟩), (16, ⟨[.sl 15 0 11 4 true], 102, false⟩), (15, ⟨zb61, 48, true⟩), (13, ⟨[.sl 11 0 2 4 false], 25, false⟩), (12, ⟨[.sl 11 0 2 4 false], 25, false⟩), (11, ⟨zb1, 24, true⟩), (9, ⟨zb2, 84, false⟩), (8, ⟨zb62, 114, true⟩), (7, ⟨zb4, 34, true⟩), (6, ⟨[.sl 902 0 86 22 true], 27, false⟩), (5, ⟨zb5, 38, false⟩), (4, ⟨zb4, 34, true⟩), (3, ⟨zb4, 34, true⟩), (2, ⟨zb6, 3, true⟩), (1, ⟨[.sl 0 0 2 4 true], 25, false⟩), (0, ⟨zb1, 24, true⟩)]
noncomputable def zA1 : List AV := [.agg [y 3, x 2, x 1, y 1, x 0, x 0, x 1, x 0, x 1, x 0, u 131072, u 0], .sl 1 0 1 1 true, .sl 902 0 86 22 true]
noncomputable def zM1 : Mem := ⟨[(1734, ⟨zb4, 34, true⟩), (1733, ⟨zb4, 34, true⟩), (902, ⟨(zg0 ++ (zg1 ++ (zg2 ++ (zg3 ++ (zg4 ++ (zg5 ++ (zg6 ++ (zg7 ++ (zg8 ++ (zg9 ++ (zt26 ++ (zt56 ++ (zt57 ++ (zt58 ++ (zt59 ++ (zt60)))))))))))))))), 57, true⟩), (6, ⟨[.sl 902 0 86 22 true], 27, false⟩), (1732, ⟨zb61, 48, true⟩), (16, ⟨[.sl 15 0 11 4 true], 102, false⟩), (15, ⟨zb61, 48, true⟩), (13, ⟨[.sl 11 0 2 4 false], 25, false⟩), (11, ⟨zb1, 24, true⟩), (9, ⟨zb2, 84, false⟩), (8, ⟨zb62, 114, true⟩), (18, ⟨[.sl 2 0 500 1 true], 36, false⟩), (17, ⟨[.ptr 9 0], 61, false⟩), (12, ⟨[.sl 11 0 2 4 false], 25, false⟩), (7, ⟨zb4, 34, true⟩), (5, ⟨zb5, 38, false⟩), (4, ⟨zb4, 34, true⟩), (2, ⟨zb6, 3, true⟩), (1, ⟨[.sl 0 0 2 4 true], 25, false⟩), (0, ⟨zb1, 24, true⟩), (3, ⟨zb4, 34, true⟩)], 1735, []⟩
noncomputable def zE1 : St := ⟨[.any, .any, .any, .any, .any, .any, .ptr 1737 0, x 0, .any, .any, .any, .any, .any, .any, .any, .any, .any, .any, .any, .any, .any, .any, .any, .any, .any, .any, .any, .any, .any, .any, .any, .any, .any, .any, .any, .any, .any, .any, .any, .any, .any, .any, .any, .any, .any, .any, .any, .any, .any, .any, .any, .any, .any, .any, .any, .any, .any, .any, .any, .any, .any, .any, .any, .any, .any, .any, .any, .any, .any, .any, .any, .any, .any, .any, .any, .any, .any, .any, .any, .any, .any, .any, .any, .any, .any, .any, .any, .any, .any, .any], [], ⟨zh0, 2959, []⟩⟩
noncomputable def zV1 : AV := .tup [.ptr 1737 0, x 0]
noncomputable def zi1 : List Nat := [2908, 1740, 1737, 1734, 1733, 1732, 902, 18, 17, 16, 15, 13, 12, 11, 9, 8, 7, 6, 5, 4, 3, 2, 1, 0]
noncomputable def zr1 : List Nat := [6, 7]
noncomputable def zb174 : List AV := [y 3, x 2, x 1, y 1, x 0, x 0, x 1, x 0, x 1, x 0, u 131072, u 0, x 1, x 2, .sl 1740 0 1 1 true, u 0, .nils, .nils]
noncomputable def zH1_8 : Heap := [(1740, ⟨[x (-1)], 3, true⟩), (1737, ⟨zb174, 72, false⟩), (1735, ⟨zb4, 34, true⟩), (1734, ⟨zb4, 34, true⟩), (1733, ⟨zb4, 34, true⟩), (1732, ⟨zb61, 48, true⟩), (902, ⟨(zg0 ++ (zg1 ++ (zg2 ++ (zg3 ++ (zg4 ++ (zg5 ++ (zg6 ++ (zg7 ++ (zg8 ++ (zg9 ++ (zt26 ++ (zt56 ++ (zt57 ++ (zt58 ++ (zt59 ++ (zt60)))))))))))))))), 57, true⟩), (18, ⟨[.sl 2 0 500 1 true], 36, false⟩), (17, ⟨[.ptr 9 0], 61, false⟩), (16, ⟨[.sl 15 0 11 4 true], 102, false⟩), (15, ⟨zb61, 48, true⟩), (13, ⟨[.sl 11 0 2 4 false], 25, false⟩), (12, ⟨[.sl 11 0 2 4 false], 25, false⟩), (11, ⟨zb1, 24, true⟩), (9, ⟨zb2, 84, false⟩), (8, ⟨zb62, 114, true⟩), (7, ⟨zb4, 34, true⟩), (6, ⟨[.sl 902 0 86 22 true], 27, false⟩), (5, ⟨zb5, 38, false⟩), (4, ⟨zb4, 34, true⟩), (3, ⟨zb4, 34, true⟩), (2, ⟨zb6, 3, true⟩), (1, ⟨[.sl 0 0 2 4 true], 25, false⟩), (0, ⟨zb1, 24, true⟩)]
noncomputable def zT1_8 (t37 : AV) : List AV := [.any, .sl 1 0 1 1 true, .sl 902 0 86 22 true, .ptr 1735 0, .any, .any, .any, .any, .any, .ptr 1737 0, .any, .any, .any, .any, .any, .any, .any, .any, .any, .any, .any, .any, .any, .any, .any, .any, .any, .any, .any, .any, .any, .any, .any, .any, .any, .sl 902 0 86 22 true, x 86, t37, .any, .any, .any, .any, .any, .any, .any, .any, .any, .any, .any, .any, .any, .any, .any, .any, .any, .any, .any, .any, .any, .any, .any, .any, .any, .any, .any, .any, .any, .any, .any, .any, .any, .any, .any, .any, .any, .any, .any, .any, .any, .any, .any, .any, .any, .any, .any, .any, .any, .any, .any, .any]
noncomputable def zI1_8 : List Nat := [1740, 1737, 1735, 1734, 1733, 1732, 902, 18, 17, 16, 15, 13, 12, 11, 9, 8, 7, 6, 5, 4, 3, 2, 1, 0]
noncomputable def zL1_8 : List Nat := [1, 2, 3, 9, 35, 36, 37]
noncomputable abbrev zB1_8 : Code := loopAt (fcode Tryz.prog 13) [0]
noncomputable def zS1_8_0 : St := ⟨zT1_8 (x 0), [], ⟨zH1_8, 1741, []⟩⟩
noncomputable def zS1_8_30 : St := ⟨zT1_8 (x 30), [], ⟨zH1_8, 1771, []⟩⟩
theorem zr1_8_0 (k : St → Bool) : rndsH cR 3000 zL1_8 (zI1_8) zB1_8 30 zS1_8_0 k false = k zS1_8_30 := by kernel_rfl
noncomputable def zS1_8_60 : St := ⟨zT1_8 (x 60), [], ⟨zH1_8, 1801, []⟩⟩
theorem zr1_8_30 (k : St → Bool) : rndsH cR 3000 zL1_8 (zI1_8) zB1_8 30 zS1_8_30 k false = k zS1_8_60 := by kernel_rfl
noncomputable def zS1_8_86 : St := ⟨zT1_8 (x 86), [], ⟨zH1_8, 1827, []⟩⟩
theorem zr1_8_60 (k : St → Bool) : rndsH cR 3000 zL1_8 (zI1_8) zB1_8 26 zS1_8_60 k false = k zS1_8_86 := by kernel_rfl
noncomputable def zS1_8_87 : St := ⟨zT1_8 (x 86), [], ⟨zH1_8, 1827, []⟩⟩
theorem zl1_8 (k : Ex → St → Bool) : run cR 3000 none none zB1_8 zS1_8_86 (fun e s => k e (keepSH zL1_8 (zI1_8) s)) false = k (.exit 0) zS1_8_87 := by kernel_rfl
theorem zc1_8 {K : Ex → St → Prop} (h : K (.exit 0) zS1_8_87) : AWr cR none zB1_8 zS1_8_0 K := by
  refine AWr.toH hR zr1_8_0 ?_
  refine AWr.toH hR zr1_8_30 ?_
  refine AWr.toH hR zr1_8_60 ?_
  exact (AWr.last hR zl1_8 (fun h => by cases h) h)
noncomputable def zF1_8 : LF := fun st k => cond (onP (keepSH zL1_8 (zI1_8) st = zS1_8_0)) (k (.exit 0) zS1_8_87) false
theorem zk1_8 : ∀ (st : St) (k : Ex → St → Bool), zF1_8 st k = true → AWp cR none (.loop zB1_8) st (fun e s => k e s = true) := fun st k h => by
  obtain ⟨h1, h2⟩ := of_cond h
  exact AWp.loopH (of_onP h1) (zc1_8 (K := fun e s => k e s = true) h2)
noncomputable def zH1_14 (v1740 v1737 : HB) : Heap := [(1740, v1740), (1737, v1737), (1734, ⟨zb4, 34, true⟩), (1733, ⟨zb4, 34, true⟩), (1732, ⟨zb61, 48, true⟩), (902, ⟨(zg0 ++ (zg1 ++ (zg2 ++ (zg3 ++ (zg4 ++ (zg5 ++ (zg6 ++ (zg7 ++ (zg8 ++ (zg9 ++ (zt26 ++ (zt56 ++ (zt57 ++ (zt58 ++ (zt59 ++ (zt60)))))))))))))))), 57, true⟩), (18, ⟨[.sl 2 0 500 1 true], 36, false⟩), (17, ⟨[.ptr 9 0], 61, false⟩), (16, ⟨[.sl 15 0 11 4 true], 102, false⟩), (15, ⟨zb61, 48, true⟩), (13, ⟨[.sl 11 0 2 4 false], 25, false⟩), (12, ⟨[.sl 11 0 2 4 false], 25, false⟩), (11, ⟨zb1, 24, true⟩), (9, ⟨zb2, 84, false⟩), (8, ⟨zb62, 114, true⟩), (7, ⟨zb4, 34, true⟩), (6, ⟨[.sl 902 0 86 22 true], 27, false⟩), (5, ⟨zb5, 38, false⟩), (4, ⟨zb4, 34, true⟩), (3, ⟨zb4, 34, true⟩), (2, ⟨zb6, 3, true⟩), (1, ⟨[.sl 0 0 2 4 true], 25, false⟩), (0, ⟨zb1, 24, true⟩)]
noncomputable def zT1_14 (t70 : AV) : List AV := [.any, .sl 1 0 1 1 true, .any, .any, .any, .any, .any, .any, .any, .ptr 1737 0, .any, .any, .any, .any, .any, .any, .any, .any, .any, .any, .any, .any, .any, .any, .any, .any, .any, .any, .any, .any, .any, .any, .any, .any, .any, .any, .any, .any, .any, .any, .any, .any, .any, .any, .any, .any, .any, .any, .any, .any, .any, .any, .any, .any, .any, .any, .any, .any, .any, .any, .any, .any, .any, .any, .any, .any, .any, .any, .sl 902 0 86 22 true, x 86, t70, .any, .any, .any, .any, .any, .any, .any, .any, .any, .any, .any, .any, .any, .any, .any, .any, .any, .any, .any]
noncomputable def zI1_14 : List Nat := [1740, 1737, 1734, 1733, 1732, 902, 18, 17, 16, 15, 13, 12, 11, 9, 8, 7, 6, 5, 4, 3, 2, 1, 0]
noncomputable def zL1_14 : List Nat := [1, 9, 68, 69, 70]
noncomputable abbrev zB1_14 : Code := loopAt (fcode Tryz.prog 13) [1]
noncomputable def zS1_14_0 : St := ⟨zT1_14 (x 0), [], ⟨zH1_14 ⟨[x (-1)], 3, true⟩ ⟨zb174, 72, false⟩, 1827, []⟩⟩
noncomputable def zb175 : List AV := [x 0, x 0, x 0, x (-1), y 9, w 1, w 7, w 2, x 0, w 0, .nils, y 2, .bool false, u 0, x 0]
noncomputable def zb176 : List AV := [y 3, x 2, x 1, y 1, x 0, x 0, x 1, x 0, x 1, x 0, u 131072, u 0, x 1, x 2, .sl 1740 0 1 1 true, u 0, .sl 1835 0 1 15 true, .nils]
noncomputable def zS1_14_4 : St := ⟨zT1_14 (x 4), [], ⟨(1835, ⟨zb175, 59, true⟩) :: zH1_14 ⟨[x 0], 3, true⟩ ⟨zb176, 72, false⟩, 1885, []⟩⟩
theorem zr1_14_0 (k : St → Bool) : rndsH cR 3000 zL1_14 (1835 :: zI1_14) zB1_14 4 zS1_14_0 k false = k zS1_14_4 := by kernel_rfl
noncomputable def zb177 : List AV := [x 0, x 0, x 0, x (-1), y 9, w 1, w 7, w 2, x 0, w 0, .nils, y 2, .bool true, u 1, x 0]
noncomputable def zS1_14_8 : St := ⟨zT1_14 (x 8), [], ⟨(1835, ⟨zb177, 59, true⟩) :: zH1_14 ⟨[x 0], 3, true⟩ ⟨zb176, 72, false⟩, 1937, []⟩⟩
theorem zr1_14_4 (k : St → Bool) : rndsH cR 3000 zL1_14 (1835 :: zI1_14) zB1_14 4 zS1_14_4 k false = k zS1_14_8 := by kernel_rfl
end Go.Proofs.YtfbmlbocgeabgabGreatDoor.ghostNames
