/- A thread alone, at its examples: the rounds of its update one by one, and that the examples come out. -/
import Derived.Test.YtjepofcbkojibaaGreatDoorBasW5
import Derived.Test.YtjepofcbkojibaaGreatDoorBasW8
import Derived.Test.YtjepofcbkojibaaGreatDoorBasW30
set_option maxRecDepth 100000
set_option maxHeartbeats 4000000
set_option linter.unusedVariables false
set_option linter.unusedSimpArgs false
namespace Go.Bas.BasTRAlive
noncomputable section
open Go.RowKit Go.Proofs BasZBase
def b7_0 : List AV := a7.elems
def b7_1 : List AV := a9.elems
def b7_2 : List AV := a11.elems
def b7_3 : List AV := a16.elems
def b7_4 : List AV := a18.elems
def b7_5 : List AV := a19.elems
def b7_6 : List AV := a23.elems
def b7_7 : List AV := a24.elems
def b7_8 : List AV := a25.elems
def b7_9 : List AV := a28.elems
def b7_10 : List AV := a31.elems
def b7_11 : List AV := a32.elems
def b7_12 : List AV := a33.elems
def b7_13 : List AV := a36.elems
def b7_14 : List AV := a41.elems
def b7_15 : List AV := a42.elems
def b7_16 : List AV := a43.elems
def b7_17 : List AV := a44.elems
def b7_18 : List AV := a46.elems
def b7_19 : List AV := a53.elems
def b7_20 : List AV := a54.elems
def b7_21 : List AV := a55.elems
def b7_22 : List AV := a56.elems
def b7_23 : List AV := a58.elems
def b7_24 : List AV := a64.elems
def b7_25 : List AV := a65.elems
def b7_26 : List AV := a66.elems
def b7_27 : List AV := a67.elems
def b7_28 : List AV := a68.elems
def b7_29 : List AV := a70.elems
def b7_30 : List AV := a76.elems
def b7_31 : List AV := a77.elems
def b7_32 : List AV := a78.elems
def b7_33 : List AV := a79.elems
def b7_34 : List AV := a80.elems
def b7_35 : List AV := a81.elems
def b7_36 : List AV := a85.elems
def b7_37 : List AV := a86.elems
def b7_38 : List AV := a87.elems
def b7_39 : List AV := a89.elems
def b7_40 : List AV := a93.elems
def b7_41 : List AV := a94.elems
def b7_42 : List AV := a95.elems
def b7_43 : List AV := a98.elems
def b7_44 : List AV := a101.elems
def b7_45 : List AV := a102.elems
def b7_46 : List AV := a103.elems
def b7_47 : List AV := a105.elems
def b7_48 : List AV := a109.elems
def b7_49 : List AV := a110.elems
def b7_50 : List AV := a111.elems
def b7_51 : List AV := a114.elems
def b7_52 : List AV := a118.elems
def b7_53 : List AV := a119.elems
def b7_54 : List AV := a120.elems
def b7_55 : List AV := a122.elems
def b7_56 : List AV := a124.elems
def b7_57 : List AV := a125.elems
def b7_58 : List AV := a126.elems
def b7_59 : List AV := a127.elems
def b7_60 : List AV := a129.elems
def b7_61 : List AV := a130.elems
def b7_62 : List AV := a131.elems
def b7_63 : List AV := a132.elems
def b7_64 : List AV := a133.elems
def b7_65 : List AV := a136.elems
def b7_66 : List AV := a137.elems
def b7_67 : List AV := a138.elems
def b7_68 : List AV := a139.elems
def b7_69 : List AV := a140.elems
def b7_70 : List AV := a143.elems
def b7_71 : List AV := a144.elems
def b7_72 : List AV := a145.elems
def b7_73 : List AV := a146.elems
def b7_74 : List AV := a147.elems
def b7_75 : List AV := a148.elems
def b7_76 : List AV := a150.elems
def b7_77 : List AV := a151.elems
def b7_78 : List AV := a152.elems
def b7_79 : List AV := a153.elems
def b7_80 : List AV := a157.elems
def b7_81 : List AV := a158.elems
def b7_82 : List AV := a159.elems
def b2_83 : List AV := [u 0, u 0, u 0, u 0, u 0, u 0, u 0, u 0, u 7, u 0, u 0, u 0, u 0, u 0, u 0, u 0, u 0, u 0, u 0, u 0, u 0, u 0, u 0, u 0, u 0, u 0, u 0, u 0, u 0, u 0, u 0, u 0, u 0, u 0, u 0, u 0, u 0, u 0, u 0, u 0, u 0, u 0, u 0, u 0]
def b2_84 : List AV := [u 0, u 0, u 0, u 0, u 0, u 0, u 0, u 0, u 7, u 0, u 0, u 0, u 1, u 265, u 7, u 2, u 0, u 0, u 0, u 0, u 0, u 0, u 0, u 0, u 0, u 0, u 0, u 0, u 0, u 0, u 0, u 0, u 0, u 0, u 0, u 0, u 0, u 0, u 0, u 0, u 0, u 0, u 0, u 0]
def b2_85 : List AV := [u 0, u 0, u 0, u 0, u 0, u 0, u 0, u 0, u 65537, u 1, u 0, u 0, u 1, u 265, u 7, u 2, u 0, u 0, u 0, u 0, u 0, u 0, u 0, u 0, u 0, u 0, u 0, u 0, u 0, u 0, u 0, u 0, u 0, u 0, u 0, u 0, u 0, u 0, u 0, u 0, u 0, u 0, u 0, u 0]
def b2_86 : List AV := [u 0, u 0, u 0, u 0, u 0, u 0, u 0, u 0, u 65537, u 1, u 0, u 0, u 1, u 265, u 7, u 2, u 0, u 0, u 0, u 0, u 0, u 0, u 0, u 0, u 0, u 0, u 0, u 0, u 0, u 0, u 0, u 0, u 0, u 0, u 0, u 0, u 65536, u 0, u 0, u 0, u 0, u 0, u 0, u 0]
def b2_87 : List AV := [u 0, u 0, u 0, u 0, u 0, u 0, u 0, u 0, u 65537, u 1, u 0, u 0, u 1, u 265, u 7, u 2, u 0, u 0, u 0, u 0, u 0, u 0, u 0, u 0, u 0, u 0, u 0, u 0, u 0, u 0, u 0, u 0, u 0, u 0, u 0, u 0, u 65537, u 36896, u 30064771073, u 8589934592, u 0, u 0, u 0, u 0]
def b2_88 : List AV := [u 0, u 0, u 0, u 0, u 0, u 0, u 0, u 0, u 65537, u 1, u 0, u 0, u 1, u 265, u 7, u 2, u 0, u 0, u 0, u 0, u 0, u 0, u 0, u 0, u 0, u 0, u 0, u 0, u 0, u 0, u 0, u 0, u 0, u 0, u 0, u 0, u 65538, u 140737488523296, u 30064771073, u 8589934592, u 0, u 0, u 0, u 0]
def b2_89 : List AV := [u 0, u 0, u 0, u 0, u 0, u 0, u 0, u 0, u 65537, u 1, u 0, u 0, u 1, u 265, u 7, u 2, u 0, u 0, u 0, u 0, u 0, u 0, u 0, u 0, u 0, u 0, u 0, u 0, u 0, u 0, u 0, u 0, u 0, u 0, u 0, u 0, u 65538, u 140737488523296, u 30064771073, u 8589934592, u 65539, u 2, u 1, u 7]
def b2_90 : List AV := [u 0, u 0, u 0, u 0, u 0, u 0, u 0, u 0, u 65537, u 1, u 0, u 0, u 1, u 265, u 7, u 2, u 0, u 0, u 0, u 0, u 0, u 0, u 0, u 0, u 0, u 0, u 0, u 0, u 0, u 0, u 0, u 0, u 0, u 0, u 0, u 0, u 65539, u 140737489702944, u 30064771073, u 8589934592, u 65539, u 2, u 1, u 7]
def b2_91 : List AV := [u 0, u 0, u 0, u 0, u 0, u 0, u 0, u 0, u 65537, u 1, u 0, u 0, u 1, u 265, u 7, u 2, u 1, u 0, u 0, u 1, u 0, u 0, u 0, u 0, u 0, u 0, u 0, u 0, u 0, u 0, u 0, u 0, u 0, u 0, u 0, u 0, u 65539, u 140737489702944, u 30064771073, u 8589934592, u 65539, u 2, u 1, u 7]
def b2_92 : List AV := [u 0, u 0, u 0, u 0, u 0, u 0, u 0, u 0, u 65537, u 1, u 0, u 0, u 1, u 265, u 7, u 2, u 1, u 0, u 0, u 1, u 0, u 0, u 0, u 0, u 0, u 0, u 0, u 0, u 0, u 0, u 0, u 0, u 0, u 0, u 0, u 0, u 65540, u 1, u 0, u 0, u 65539, u 2, u 1, u 7]
def b2_93 : List AV := [u 0, u 0, u 0, u 0, u 0, u 0, u 0, u 0, u 65538, u 1, u 0, u 0, u 1, u 265, u 7, u 2, u 1, u 0, u 0, u 1, u 0, u 0, u 0, u 0, u 0, u 0, u 0, u 0, u 0, u 0, u 0, u 0, u 0, u 0, u 0, u 0, u 65540, u 1, u 0, u 0, u 65539, u 2, u 1, u 7]
def b2_94 : List AV := [u 0, u 0, u 0, u 0, u 65536, u 1, u 0, u 0, u 65538, u 1, u 0, u 0, u 1, u 265, u 7, u 2, u 1, u 0, u 0, u 1, u 0, u 0, u 0, u 0, u 0, u 0, u 0, u 0, u 0, u 0, u 0, u 0, u 0, u 0, u 0, u 0, u 65540, u 1, u 0, u 0, u 65539, u 2, u 1, u 7]
def b2_95 : List AV := [u 0, u 0, u 0, u 0, u 65536, u 1, u 0, u 0, u 65539, u 1, u 0, u 0, u 1, u 265, u 7, u 2, u 1, u 0, u 0, u 1, u 0, u 0, u 0, u 0, u 0, u 0, u 0, u 0, u 0, u 0, u 0, u 0, u 0, u 0, u 0, u 0, u 65540, u 1, u 0, u 0, u 65539, u 2, u 1, u 7]
def b2_96 : List AV := [u 0, u 0, u 0, u 0, u 65536, u 1, u 0, u 0, u 65540, u 1, u 0, u 0, u 1, u 265, u 7, u 2, u 1, u 0, u 0, u 1, u 0, u 0, u 0, u 0, u 0, u 0, u 0, u 0, u 0, u 0, u 0, u 0, u 0, u 0, u 0, u 0, u 65540, u 1, u 0, u 0, u 65539, u 2, u 1, u 7]
def b2_97 : List AV := [u 65536, u 1, u 0, u 0, u 65536, u 1, u 0, u 0, u 65540, u 1, u 0, u 0, u 1, u 265, u 7, u 2, u 1, u 0, u 0, u 1, u 0, u 0, u 0, u 0, u 0, u 0, u 0, u 0, u 0, u 0, u 0, u 0, u 0, u 0, u 0, u 0, u 65540, u 1, u 0, u 0, u 65539, u 2, u 1, u 7]
def b2_98 : List AV := [u 65536, u 1, u 0, u 0, u 65536, u 1, u 0, u 0, u 65541, u 1, u 0, u 0, u 1, u 265, u 7, u 2, u 1, u 0, u 0, u 1, u 0, u 0, u 0, u 0, u 0, u 0, u 0, u 0, u 0, u 0, u 0, u 0, u 0, u 0, u 0, u 0, u 65540, u 1, u 0, u 0, u 65539, u 2, u 1, u 7]
def b2_99 : List AV := [u 65536, u 1, u 0, u 0, u 65536, u 1, u 0, u 0, u 65542, u 1, u 0, u 0, u 1, u 265, u 7, u 2, u 1, u 0, u 0, u 1, u 0, u 0, u 0, u 0, u 0, u 0, u 0, u 0, u 0, u 0, u 0, u 0, u 0, u 0, u 0, u 0, u 65540, u 1, u 0, u 0, u 65539, u 2, u 1, u 7]
def b2_100 : List AV := [u 65536, u 1, u 0, u 0, u 65536, u 1, u 0, u 0, u 65542, u 1, u 0, u 0, u 1, u 265, u 7, u 2, u 1, u 0, u 0, u 1, u 0, u 0, u 0, u 0, u 0, u 0, u 0, u 0, u 65536, u 0, u 0, u 0, u 0, u 0, u 0, u 0, u 65540, u 1, u 0, u 0, u 65539, u 2, u 1, u 7]
def b2_101 : List AV := [u 65536, u 1, u 0, u 0, u 65536, u 1, u 0, u 0, u 65542, u 1, u 0, u 0, u 1, u 265, u 7, u 2, u 1, u 0, u 0, u 1, u 0, u 0, u 0, u 0, u 0, u 0, u 0, u 0, u 65537, u 36896, u 30064771073, u 8589934592, u 0, u 0, u 0, u 0, u 65540, u 1, u 0, u 0, u 65539, u 2, u 1, u 7]
def b2_102 : List AV := [u 65536, u 1, u 0, u 0, u 65536, u 1, u 0, u 0, u 65542, u 1, u 0, u 0, u 1, u 265, u 7, u 2, u 1, u 0, u 0, u 1, u 0, u 0, u 0, u 0, u 0, u 0, u 0, u 0, u 65538, u 140737488523296, u 30064771073, u 8589934592, u 0, u 0, u 0, u 0, u 65540, u 1, u 0, u 0, u 65539, u 2, u 1, u 7]
def b2_103 : List AV := [u 65536, u 1, u 0, u 0, u 65536, u 1, u 0, u 0, u 65542, u 1, u 0, u 0, u 1, u 265, u 7, u 2, u 1, u 0, u 0, u 1, u 0, u 0, u 0, u 0, u 0, u 0, u 0, u 0, u 65538, u 140737488523296, u 30064771073, u 8589934592, u 65539, u 2, u 1, u 7, u 65540, u 1, u 0, u 0, u 65539, u 2, u 1, u 7]
def b2_104 : List AV := [u 65536, u 1, u 0, u 0, u 65536, u 1, u 0, u 0, u 65542, u 1, u 0, u 0, u 1, u 265, u 7, u 2, u 1, u 0, u 0, u 1, u 0, u 0, u 0, u 0, u 0, u 0, u 0, u 0, u 65539, u 140737489702944, u 30064771073, u 8589934592, u 65539, u 2, u 1, u 7, u 65540, u 1, u 0, u 0, u 65539, u 2, u 1, u 7]
def b2_105 : List AV := [u 65536, u 1, u 0, u 0, u 65536, u 1, u 0, u 0, u 65542, u 1, u 0, u 0, u 1, u 265, u 7, u 2, u 1, u 0, u 0, u 1, u 0, u 0, u 0, u 0, u 0, u 0, u 0, u 0, u 65540, u 1, u 0, u 0, u 65539, u 2, u 1, u 7, u 65540, u 1, u 0, u 0, u 65539, u 2, u 1, u 7]
def b2_106 : List AV := [u 65536, u 1, u 0, u 0, u 65536, u 1, u 0, u 0, u 65543, u 1, u 0, u 0, u 1, u 265, u 7, u 2, u 1, u 0, u 0, u 1, u 0, u 0, u 0, u 0, u 0, u 0, u 0, u 0, u 65540, u 1, u 0, u 0, u 65539, u 2, u 1, u 7, u 65540, u 1, u 0, u 0, u 65539, u 2, u 1, u 7]
abbrev lS : List Sum := [(26, memoH M26), (28, memoH M28), (134, memoH M134), (69, memoH M69)]
abbrev cR : Cfg := ⟨Tryz.prog, gmap gs, lookS lS, fun _ => false, fun _ => none⟩
theorem sumsR : ∀ s ∈ lS, SumOk Tryz.prog (gmap gs) s := (sums_cons s26 (sums_cons s28 (sums_cons s134 (sums_cons s69 sums_nil))))
theorem hR : cR.Ok := cfg_ok base sumsR
abbrev inner : Code := loopAt (fcode Tryz.prog 72) [0, 0]
abbrev outer : Code := loopAt (fcode Tryz.prog 72) [0]
def lsI : List Nat := [1, 2, 3, 4, 5, 10, 11, 12, 13, 15, 16, 18]
def SI (over : Bool) (kk : Int) (v7 v2 : List AV) : St := ⟨[.any, .ptr 3 0, x 0, .sl 5 0 3 4 true, x 500, .ptr 6 0, .any, .any, .any, .any, .nils, .bool false, .ptr 7 0, .sl 11 0 1 3 true, .any, .ptr 13 0, .bool over, .any, .int .i64 kk, .any, .any, .any, .any, .any, .any, .any, .any, .any, .any, .any, .any, .any, .any, .any, .any, .any, .any, .any, .any, .any, .any, .any, .any, .any, .any, .any, .any, .any, .any, .any, .any, .any, .any, .any, .any, .any, .any, .any, .any, .any, .any, .any, .any, .any, .any, .any, .any, .any, .any, .any, .any, .any, .any, .any, .any, .any, .any, .any, .any, .any, .any, .any, .any, .any, .any, .any, .any, .any, .any, .any, .any, .any, .any, .any, .any, .any, .any, .any, .any, .any, .any, .any, .any, .any, .any, .any, .any, .any, .any, .any, .any, .any, .any, .any, .any, .any, .any, .any, .any, .any, .any, .any, .any, .any, .any, .any, .any, .any, .any, .any], [], ⟨[(13, ⟨[x 0, w 0, .nils], 33, true⟩), (12, ⟨[x 1, y 2, y 0, x 0, x 0, u 0, y 0, w 0, w 0, y 0, y 0, y 0, y 0, y 0, y 0, w 0, w 0, x 0, w 0, .nils, x 0, y 1, u 1, y 9, w 1, w 7, w 2, .bool false, x 0, w 0, .nils, u 0, u 0, u 0, u 0, u 0, u 0, u 0, u 0, u 0, u 0, u 0, u 0, u 0, .nils, u 0, x 0, u 0, u 1, .bool false], 81, true⟩), (11, ⟨[x 10, w 0, .nils], 33, true⟩), (10, ⟨[x 10, w 0, .nils], 33, true⟩), (9, ⟨[x 10, w 0, .nils], 33, true⟩), (8, ⟨[x 1, y 0, y 0, x 0, x 0, u 0, y 0, w 0, w 0, y 0, y 0, y 0, y 0, y 0, y 0, w 0, w 0, x 0, w 0, .nils, x 0, y 0, u 0, y 0, w 0, w 0, w 0, .bool false, x 0, w 0, .nils, u 0, u 0, u 0, u 0, u 0, u 0, u 0, u 0, u 0, u 0, u 0, u 0, u 0, .nils, u 0, x 0, u 0, u 0, .bool false], 81, true⟩), (7, ⟨v7, 81, true⟩), (6, ⟨[y 3, x 2, x 1, y 1, x 0, x 0, x 1, x 0, x 1, x 0, u 131072, u 0], 24, true⟩), (5, ⟨[y 11, w 0, w 0, w 0, y 9, w 1, w 7, w 2, y 11, w 1, w 7, w 0], 27, true⟩), (4, ⟨[y 3, x 2, x 1, y 1, x 0, x 0, x 1, x 0, x 1, x 0, u 131072, u 0], 24, true⟩), (3, ⟨[.sl 2 0 11 4 true], 241, false⟩), (2, ⟨v2, 41, true⟩), (0, ⟨[y 3, x 2, x 1, y 1, x 0, x 0, x 1, x 0, x 1, x 0, u 131072, u 0], 24, true⟩)], 14, []⟩⟩
theorem rE : Rnd cR 3000 14 lsI inner (SI true 82 b7_82 b2_106) (.exit 2) (SI true 82 b7_82 b2_106) := fun k => by kernel_rfl
def fam : List St := [SI false 0 b7_0 b2_83, SI false 1 b7_1 b2_84, SI false 2 b7_2 b2_84, SI false 3 b7_3 b2_84, SI false 4 b7_4 b2_84, SI false 5 b7_5 b2_84, SI false 6 b7_6 b2_85, SI false 7 b7_7 b2_85, SI false 8 b7_8 b2_85, SI false 9 b7_9 b2_85, SI false 10 b7_10 b2_86, SI false 11 b7_11 b2_86, SI false 12 b7_12 b2_86, SI false 13 b7_13 b2_86, SI false 14 b7_14 b2_86, SI false 15 b7_15 b2_87, SI false 16 b7_16 b2_87, SI false 17 b7_17 b2_87, SI false 18 b7_18 b2_87, SI false 19 b7_19 b2_87, SI false 20 b7_20 b2_88, SI false 21 b7_21 b2_88, SI false 22 b7_22 b2_88, SI false 23 b7_23 b2_88, SI false 24 b7_24 b2_88, SI false 25 b7_25 b2_89, SI false 26 b7_26 b2_90, SI false 27 b7_27 b2_90, SI false 28 b7_28 b2_90, SI false 29 b7_29 b2_90, SI false 30 b7_30 b2_90, SI false 31 b7_31 b2_91, SI false 32 b7_32 b2_92, SI false 33 b7_33 b2_92, SI false 34 b7_34 b2_92, SI false 35 b7_35 b2_92, SI false 36 b7_36 b2_93, SI false 37 b7_37 b2_93, SI false 38 b7_38 b2_93, SI false 39 b7_39 b2_94, SI false 40 b7_40 b2_95, SI false 41 b7_41 b2_95, SI false 42 b7_42 b2_95, SI false 43 b7_43 b2_95, SI false 44 b7_44 b2_96, SI false 45 b7_45 b2_96, SI false 46 b7_46 b2_96, SI false 47 b7_47 b2_97, SI false 48 b7_48 b2_98, SI false 49 b7_49 b2_98, SI false 50 b7_50 b2_98, SI false 51 b7_51 b2_98, SI false 52 b7_52 b2_99, SI false 53 b7_53 b2_99, SI false 54 b7_54 b2_99, SI false 55 b7_55 b2_99, SI false 56 b7_56 b2_100, SI false 57 b7_57 b2_100, SI false 58 b7_58 b2_100, SI false 59 b7_59 b2_100, SI false 60 b7_60 b2_100, SI false 61 b7_61 b2_101, SI false 62 b7_62 b2_101, SI false 63 b7_63 b2_101, SI false 64 b7_64 b2_101, SI false 65 b7_65 b2_101, SI false 66 b7_66 b2_102, SI false 67 b7_67 b2_102, SI false 68 b7_68 b2_102, SI false 69 b7_69 b2_102, SI false 70 b7_70 b2_102, SI false 71 b7_71 b2_103, SI false 72 b7_72 b2_104, SI false 73 b7_73 b2_104, SI false 74 b7_74 b2_104, SI false 75 b7_75 b2_104, SI false 76 b7_76 b2_105, SI false 77 b7_77 b2_105, SI false 78 b7_78 b2_105, SI false 79 b7_79 b2_105, SI false 80 b7_80 b2_106, SI false 81 b7_81 b2_106, SI true 82 b7_82 b2_106]
def FI (i : Nat) : St := fam.getD i (SI true 82 b7_82 b2_106)
def PR (i : Nat) : Prop := Rnd cR 3000 14 lsI inner (FI i) .normal (FI (i + 1))
abbrev PU (m : Nat) : Prop := ∀ i, i < m -> PR i
theorem pr0 : ∀ i, i < 0 -> PR i := fun i h => absurd h (Nat.not_lt_zero _)
theorem ext {m : Nat} (h : ∀ i, i < m -> PR i) (r : PR m) : ∀ i, i < m + 1 -> PR i := fun i hi => by
 rcases Nat.lt_succ_iff_lt_or_eq.1 hi with h1 | h1
 ·exact h i h1
 ·rw [h1]; exact r
theorem pr1 : PU 1 := ext pr0 fun k => by kernel_rfl
theorem pr2 : PU 2 := ext pr1 fun k => by kernel_rfl
theorem pr3 : PU 3 := ext pr2 fun k => by kernel_rfl
theorem pr4 : PU 4 := ext pr3 fun k => by kernel_rfl
theorem pr5 : PU 5 := ext pr4 fun k => by kernel_rfl
theorem pr6 : PU 6 := ext pr5 fun k => by kernel_rfl
theorem pr7 : PU 7 := ext pr6 fun k => by kernel_rfl
theorem pr8 : PU 8 := ext pr7 fun k => by kernel_rfl
theorem pr9 : PU 9 := ext pr8 fun k => by kernel_rfl
theorem pr10 : PU 10 := ext pr9 fun k => by kernel_rfl
theorem pr11 : PU 11 := ext pr10 fun k => by kernel_rfl
theorem pr12 : PU 12 := ext pr11 fun k => by kernel_rfl
theorem pr13 : PU 13 := ext pr12 fun k => by kernel_rfl
theorem pr14 : PU 14 := ext pr13 fun k => by kernel_rfl
theorem pr15 : PU 15 := ext pr14 fun k => by kernel_rfl
theorem pr16 : PU 16 := ext pr15 fun k => by kernel_rfl
theorem pr17 : PU 17 := ext pr16 fun k => by kernel_rfl
theorem pr18 : PU 18 := ext pr17 fun k => by kernel_rfl
theorem pr19 : PU 19 := ext pr18 fun k => by kernel_rfl
theorem pr20 : PU 20 := ext pr19 fun k => by kernel_rfl
theorem pr21 : PU 21 := ext pr20 fun k => by kernel_rfl
theorem pr22 : PU 22 := ext pr21 fun k => by kernel_rfl
theorem pr23 : PU 23 := ext pr22 fun k => by kernel_rfl
theorem pr24 : PU 24 := ext pr23 fun k => by kernel_rfl
theorem pr25 : PU 25 := ext pr24 fun k => by kernel_rfl
theorem pr26 : PU 26 := ext pr25 fun k => by kernel_rfl
theorem pr27 : PU 27 := ext pr26 fun k => by kernel_rfl
theorem pr28 : PU 28 := ext pr27 fun k => by kernel_rfl
theorem pr29 : PU 29 := ext pr28 fun k => by kernel_rfl
theorem pr30 : PU 30 := ext pr29 fun k => by kernel_rfl
theorem pr31 : PU 31 := ext pr30 fun k => by kernel_rfl
theorem pr32 : PU 32 := ext pr31 fun k => by kernel_rfl
theorem pr33 : PU 33 := ext pr32 fun k => by kernel_rfl
theorem pr34 : PU 34 := ext pr33 fun k => by kernel_rfl
theorem pr35 : PU 35 := ext pr34 fun k => by kernel_rfl
theorem pr36 : PU 36 := ext pr35 fun k => by kernel_rfl
theorem pr37 : PU 37 := ext pr36 fun k => by kernel_rfl
theorem pr38 : PU 38 := ext pr37 fun k => by kernel_rfl
theorem pr39 : PU 39 := ext pr38 fun k => by kernel_rfl
theorem pr40 : PU 40 := ext pr39 fun k => by kernel_rfl
theorem pr41 : PU 41 := ext pr40 fun k => by kernel_rfl
theorem pr42 : PU 42 := ext pr41 fun k => by kernel_rfl
theorem pr43 : PU 43 := ext pr42 fun k => by kernel_rfl
theorem pr44 : PU 44 := ext pr43 fun k => by kernel_rfl
theorem pr45 : PU 45 := ext pr44 fun k => by kernel_rfl
theorem pr46 : PU 46 := ext pr45 fun k => by kernel_rfl
theorem pr47 : PU 47 := ext pr46 fun k => by kernel_rfl
theorem pr48 : PU 48 := ext pr47 fun k => by kernel_rfl
theorem pr49 : PU 49 := ext pr48 fun k => by kernel_rfl
theorem pr50 : PU 50 := ext pr49 fun k => by kernel_rfl
theorem pr51 : PU 51 := ext pr50 fun k => by kernel_rfl
theorem pr52 : PU 52 := ext pr51 fun k => by kernel_rfl
theorem pr53 : PU 53 := ext pr52 fun k => by kernel_rfl
theorem pr54 : PU 54 := ext pr53 fun k => by kernel_rfl
theorem pr55 : PU 55 := ext pr54 fun k => by kernel_rfl
theorem pr56 : PU 56 := ext pr55 fun k => by kernel_rfl
theorem pr57 : PU 57 := ext pr56 fun k => by kernel_rfl
theorem pr58 : PU 58 := ext pr57 fun k => by kernel_rfl
theorem pr59 : PU 59 := ext pr58 fun k => by kernel_rfl
theorem pr60 : PU 60 := ext pr59 fun k => by kernel_rfl
theorem pr61 : PU 61 := ext pr60 fun k => by kernel_rfl
theorem pr62 : PU 62 := ext pr61 fun k => by kernel_rfl
theorem pr63 : PU 63 := ext pr62 fun k => by kernel_rfl
theorem pr64 : PU 64 := ext pr63 fun k => by kernel_rfl
theorem pr65 : PU 65 := ext pr64 fun k => by kernel_rfl
theorem pr66 : PU 66 := ext pr65 fun k => by kernel_rfl
theorem pr67 : PU 67 := ext pr66 fun k => by kernel_rfl
theorem pr68 : PU 68 := ext pr67 fun k => by kernel_rfl
theorem pr69 : PU 69 := ext pr68 fun k => by kernel_rfl
theorem pr70 : PU 70 := ext pr69 fun k => by kernel_rfl
theorem pr71 : PU 71 := ext pr70 fun k => by kernel_rfl
theorem pr72 : PU 72 := ext pr71 fun k => by kernel_rfl
theorem pr73 : PU 73 := ext pr72 fun k => by kernel_rfl
theorem pr74 : PU 74 := ext pr73 fun k => by kernel_rfl
theorem pr75 : PU 75 := ext pr74 fun k => by kernel_rfl
theorem pr76 : PU 76 := ext pr75 fun k => by kernel_rfl
theorem pr77 : PU 77 := ext pr76 fun k => by kernel_rfl
theorem pr78 : PU 78 := ext pr77 fun k => by kernel_rfl
theorem pr79 : PU 79 := ext pr78 fun k => by kernel_rfl
theorem pr80 : PU 80 := ext pr79 fun k => by kernel_rfl
theorem pr81 : PU 81 := ext pr80 fun k => by kernel_rfl
theorem pr82 : PU 82 := ext pr81 fun k => by kernel_rfl
theorem fam_nx : (fam.all fun s => Nat.beq s.m.nx 14) = true := by kernel_rfl
theorem FI_nx (i : Nat) : (FI i).m.nx = 14 := by
 unfold FI
 rw [List.getD_eq_getElem?_getD]
 cases h : fam[i]? with
 | none => rfl
 | some s =>
  have := List.all_eq_true.1 fam_nx s (List.mem_of_getElem? h); exact of_beq this
def onP (P : Prop) : Bool := @decide P (Classical.propDecidable _)
theorem of_onP {P : Prop} (h : onP P = true) : P := @of_decide_eq_true _ (Classical.propDecidable _) h
theorem onP_true {P : Prop} (h : P) : onP P = true := @decide_eq_true _ (Classical.propDecidable _) h
def selT (st : St) : Bool := match lget st.tmps 13 with
 | .sl _ _ n _ _ => Nat.beq n 1
 | _ => false
def F_in : LF := fun st k => cond (selT st) (cond (onP (keepS lsI st = SI false 0 b7_0 b2_83)) (k (.exit 2) (SI true 82 b7_82 b2_106)) false) (unrl cR 3000 inner [] 12 st k)
theorem in_loops : loopsOf inner = [] := by kernel_rfl
theorem out_loops : loopsOf outer = [.loop inner] := by kernel_rfl
theorem all_loops : loopsOf (fcode Tryz.prog 72) = [.loop outer] := by kernel_rfl
theorem in_ok : ∀ (st : St) (k : Ex -> St -> Bool), F_in st k = true -> AWp cR none (.loop inner) st (fun e s => k e s = true) := fun st k h => by
 unfold F_in at h
 rcases of_cond2 h with ⟨_, h1⟩ | ⟨_, h1⟩
 ·obtain ⟨h2, h3⟩ := of_cond h1
  have e := of_onP h2; refine AWp.less (LessS.keep lsI st) ?_; rw [e]; exact loop_rounds hR (N := 82) FI (x := .exit 2) rfl (fun s hs hn => by cases hs; cases hn) FI_nx pr82 rE h3
 ·exact AWr.loop (unrl_ok hR (by rw [in_loops]; exact trivial) 12 st k h1)
theorem inner_ok : LoopsOkP cR (loopsOf outer) [F_in] := by
 rw [out_loops]
 exact ⟨fun st k h => in_ok st k h, trivial⟩
def F_out : LF := unrl cR 3000 outer [F_in] 5
theorem outer_ok : LoopsOkP cR (loopsOf (fcode Tryz.prog 72)) [F_out] := by
 rw [all_loops]
 exact ⟨fun st k h => AWr.loop (unrl_ok hR inner_ok 5 st k h), trivial⟩
def argsR : List AV := [.agg [y 3, x 2, x 1, y 1, x 0, x 0, x 1, x 0, x 1, x 0, u 131072, u 0], .ptr 3 0, x 0, .sl 5 0 3 4 true, x 500]
def memR : Mem := ⟨[(5, ⟨[y 11, w 0, w 0, w 0, y 9, w 1, w 7, w 2, y 11, w 1, w 7, w 0], 27, true⟩), (4, ⟨[y 3, x 2, x 1, y 1, x 0, x 0, x 1, x 0, x 1, x 0, u 131072, u 0], 24, true⟩), (3, ⟨[.sl 2 0 11 4 true], 241, false⟩), (2, ⟨[u 0, u 0, u 0, u 0, u 0, u 0, u 0, u 0, u 7, u 0, u 0, u 0, u 0, u 0, u 0, u 0, u 0, u 0, u 0, u 0, u 0, u 0, u 0, u 0, u 0, u 0, u 0, u 0, u 0, u 0, u 0, u 0, u 0, u 0, u 0, u 0, u 0, u 0, u 0, u 0, u 0, u 0, u 0, u 0], 41, true⟩), (0, ⟨[y 3, x 2, x 1, y 1, x 0, x 0, x 1, x 0, x 1, x 0, u 131072, u 0], 24, true⟩)], 6, []⟩
def memE : Mem := ⟨[(64, ⟨[x 10, w 0, .nils, x 0, w 0, .nils, x 0, w 2, .ns], 33, true⟩), (63, ⟨[x 0, w 2, .ns], 33, true⟩), (62, ⟨[x 0, w 2, .ns], 33, true⟩), (61, ⟨[x 3, y 0, y 0, x 0, x 0, u 0, y 0, w 0, w 0, y 0, y 0, y 0, y 0, y 0, y 0, w 0, w 0, x 0, w 0, .nils, x 0, y 0, u 0, y 0, w 0, w 0, w 0, .bool false, x 0, w 0, .nils, u 0, u 0, u 0, u 0, u 0, u 0, u 0, u 0, u 0, u 0, u 0, u 0, u 0, .nils, u 0, x 0, u 0, u 1, .bool false], 81, true⟩), (60, ⟨[u 0, u 1, u 0, u 0, .bool true], 243, true⟩), (59, ⟨[y 2, x 6, u 0, u 0, u 0, u 0, u 0, u 0, u 0, u 0], 43, true⟩), (58, ⟨[u 0, u 1, u 0, u 0], 41, true⟩), (57, ⟨[u 0, u 1, u 0, u 0, .bool true], 243, true⟩), (56, ⟨[y 2, x 6, u 0, u 0, u 0, u 0, u 0, u 0, u 0, u 0], 43, true⟩), (55, ⟨[u 0, u 1, u 0, u 0, .bool true], 243, true⟩), (54, ⟨[y 2, x 6, u 0, u 0, u 0, u 0, u 0, u 0, u 0, u 0], 43, true⟩), (53, ⟨[x 0, w 0, .nils], 33, true⟩), (52, ⟨[x 2, y 1, y 6, x 1, x 1, u 1, y 11, w 1, w 7, y 20, y 0, y 0, y 0, y 0, y 0, w 2, w 0, x 0, w 2, .ns, x 0, y 0, u 0, y 0, w 0, w 0, w 0, .bool false, x 0, w 0, .nils, u 0, u 0, u 0, u 0, u 0, u 0, u 0, u 0, u 0, u 0, u 0, u 0, u 0, .nils, u 0, x 0, u 0, u 1, .bool false], 81, true⟩), (51, ⟨[u 65539, u 2, u 1, u 7, .bool true], 243, true⟩), (50, ⟨[y 1, x 10, u 0, u 0, u 0, u 0, u 0, u 0, u 0, u 0], 43, true⟩), (49, ⟨[u 65539, u 2, u 1, u 7], 41, true⟩), (48, ⟨[u 65539, u 2, u 1, u 7, .bool true], 243, true⟩), (47, ⟨[y 1, x 10, u 0, u 0, u 0, u 0, u 0, u 0, u 0, u 0], 43, true⟩), (46, ⟨[u 65539, u 2, u 1, u 7, .bool true], 243, true⟩), (45, ⟨[y 1, x 10, u 0, u 0, u 0, u 0, u 0, u 0, u 0, u 0], 43, true⟩), (44, ⟨[x 0, w 0, .nils], 33, true⟩), (43, ⟨[x 2, y 1, y 4, x 1, x 1, u 1, y 11, w 1, w 7, y 0, y 0, y 0, y 0, y 0, y 0, w 0, w 0, x 0, w 0, .ns, x 0, y 0, u 0, y 0, w 0, w 0, w 0, .bool false, x 0, w 0, .nils, u 0, u 0, u 0, u 0, u 0, u 0, u 0, u 0, u 0, u 0, u 0, u 0, u 0, .nils, u 0, x 0, u 0, u 1, .bool false], 81, true⟩), (42, ⟨[u 65536, u 1, u 0, u 0, .bool true], 243, true⟩), (41, ⟨[y 1, x 1, u 0, u 0, u 0, u 0, u 0, u 0, u 0, u 0], 43, true⟩), (40, ⟨[u 65536, u 1, u 0, u 0], 41, true⟩), (39, ⟨[u 65536, u 1, u 0, u 0, .bool true], 243, true⟩), (38, ⟨[y 1, x 1, u 0, u 0, u 0, u 0, u 0, u 0, u 0, u 0], 43, true⟩), (37, ⟨[u 65536, u 1, u 0, u 0, .bool true], 243, true⟩), (36, ⟨[y 1, x 1, u 0, u 0, u 0, u 0, u 0, u 0, u 0, u 0], 43, true⟩), (35, ⟨[x 0, w 0, .nils], 33, true⟩), (34, ⟨[x 2, y 1, y 3, x 1, x 0, u 0, y 11, w 1, w 7, y 0, y 0, y 0, y 0, y 0, y 0, w 0, w 0, x 0, w 0, .ns, x 0, y 0, u 0, y 0, w 0, w 0, w 0, .bool false, x 0, w 0, .nils, u 0, u 0, u 0, u 0, u 0, u 0, u 0, u 0, u 0, u 0, u 0, u 0, u 0, .nils, u 0, x 0, u 0, u 1, .bool false], 81, true⟩), (33, ⟨[u 0, u 0, u 0, u 0, .bool true], 243, true⟩), (32, ⟨[y 2, x 6, u 0, u 0, u 0, u 0, u 0, u 1, u 0, u 0], 43, true⟩), (31, ⟨[u 0, u 0, u 0, u 0], 41, true⟩), (30, ⟨[u 0, u 0, u 0, u 0, .bool true], 243, true⟩), (29, ⟨[y 2, x 6, u 0, u 0, u 0, u 0, u 0, u 1, u 0, u 0], 43, true⟩), (28, ⟨[u 0, u 0, u 0, u 0, .bool true], 243, true⟩), (27, ⟨[y 2, x 6, u 0, u 0, u 0, u 0, u 0, u 1, u 0, u 0], 43, true⟩), (26, ⟨[x 0, w 0, .nils], 33, true⟩), (25, ⟨[x 2, y 1, y 2, x 1, x 0, u 0, y 11, w 1, w 7, y 0, y 0, y 0, y 0, y 0, y 0, w 0, w 0, x 0, w 0, .ns, x 0, y 0, u 0, y 0, w 0, w 0, w 0, .bool false, x 0, w 0, .nils, u 0, u 0, u 0, u 0, u 0, u 0, u 0, u 0, u 0, u 0, u 0, u 0, u 0, .nils, u 0, x 0, u 0, u 1, .bool false], 81, true⟩), (24, ⟨[u 65536, u 1, u 0, u 0, .bool true], 243, true⟩), (23, ⟨[y 1, x 0, u 0, u 0, u 0, u 0, u 0, u 0, u 0, u 0], 43, true⟩), (22, ⟨[u 65536, u 1, u 0, u 0], 41, true⟩), (21, ⟨[u 65536, u 1, u 0, u 0, .bool true], 243, true⟩), (20, ⟨[y 1, x 0, u 0, u 0, u 0, u 0, u 0, u 0, u 0, u 0], 43, true⟩), (19, ⟨[u 65536, u 1, u 0, u 0, .bool true], 243, true⟩), (18, ⟨[y 1, x 0, u 0, u 0, u 0, u 0, u 0, u 0, u 0, u 0], 43, true⟩), (17, ⟨[x 0, w 2, .ns], 33, true⟩), (16, ⟨[x 2, y 1, y 1, x 0, x 0, u 0, y 11, w 1, w 7, y 0, y 0, y 0, y 0, y 0, y 0, w 0, w 0, x 0, w 0, .nils, x 0, y 0, u 0, y 0, w 0, w 0, w 0, .bool false, x 0, w 0, .nils, u 0, u 0, u 0, u 0, u 0, u 0, u 0, u 0, u 0, u 0, u 0, u 0, u 0, .nils, u 0, x 0, u 0, u 1, .bool false], 81, true⟩), (14, ⟨[x 0, w 0, .nils], 33, true⟩), (13, ⟨[x 0, w 0, .nils], 33, true⟩), (12, ⟨[x 1, y 2, y 0, x 0, x 0, u 0, y 0, w 0, w 0, y 0, y 0, y 0, y 0, y 0, y 0, w 0, w 0, x 0, w 0, .nils, x 0, y 1, u 1, y 9, w 1, w 7, w 2, .bool false, x 0, w 0, .nils, u 0, u 0, u 0, u 0, u 0, u 0, u 0, u 0, u 0, u 0, u 0, u 0, u 0, .nils, u 0, x 0, u 0, u 1, .bool false], 81, true⟩), (10, ⟨[x 10, w 0, .nils], 33, true⟩), (9, ⟨[x 10, w 0, .nils], 33, true⟩), (8, ⟨[x 1, y 0, y 0, x 0, x 0, u 0, y 0, w 0, w 0, y 0, y 0, y 0, y 0, y 0, y 0, w 0, w 0, x 0, w 0, .nils, x 0, y 0, u 0, y 0, w 0, w 0, w 0, .bool false, x 0, w 0, .nils, u 0, u 0, u 0, u 0, u 0, u 0, u 0, u 0, u 0, u 0, u 0, u 0, u 0, .nils, u 0, x 0, u 0, u 0, .bool false], 81, true⟩), (7, ⟨[x 3, y 0, y 0, x 0, x 0, u 0, y 0, w 0, w 0, y 0, y 0, y 0, y 0, y 0, y 0, w 0, w 0, x 0, w 0, .nils, x 0, y 0, u 0, y 0, w 0, w 0, w 0, .bool false, x 0, w 0, .nils, u 0, u 0, u 0, u 0, u 0, u 0, u 0, u 0, u 0, u 0, u 0, u 0, u 0, .nils, u 0, x 0, u 0, u 1, .bool false], 81, true⟩), (6, ⟨[y 3, x 2, x 1, y 1, x 0, x 0, x 1, x 0, x 1, x 0, u 131072, u 0], 24, true⟩), (5, ⟨[y 11, w 0, w 0, w 0, y 9, w 1, w 7, w 2, y 11, w 1, w 7, w 0], 27, true⟩), (4, ⟨[y 3, x 2, x 1, y 1, x 0, x 0, x 1, x 0, x 1, x 0, u 131072, u 0], 24, true⟩), (3, ⟨[.sl 2 0 11 4 true], 241, false⟩), (2, ⟨[u 65536, u 1, u 0, u 0, u 65536, u 1, u 0, u 0, u 65543, u 1, u 0, u 0, u 1, u 265, u 7, u 2, u 1, u 0, u 0, u 1, u 0, u 0, u 0, u 0, u 0, u 0, u 0, u 0, u 65540, u 1, u 0, u 0, u 65539, u 2, u 1, u 7, u 65540, u 1, u 0, u 0, u 65539, u 2, u 1, u 7], 41, true⟩), (0, ⟨[y 3, x 2, x 1, y 1, x 0, x 0, x 1, x 0, x 1, x 0, u 131072, u 0], 24, true⟩)], 65, []⟩
def valE : AV := .tup [.sl 64 0 3 3 true, .bool true]
def stE : St := ⟨[.any, .any, .any, .any, .any, .any, .any, .any, .any, .any, .sl 64 0 3 3 true, .bool true, .any, .any, .any, .any, .any, .any, .any, .any, .any, .any, .any, .any, .any, .any, .any, .any, .any, .any, .any, .any, .any, .any, .any, .any, .any, .any, .any, .any, .any, .any, .any, .any, .any, .any, .any, .any, .any, .any, .any, .any, .any, .any, .any, .any, .any, .any, .any, .any, .any, .any, .any, .any, .any, .any, .any, .any, .any, .any, .any, .any, .any, .any, .any, .any, .any, .any, .any, .any, .any, .any, .any, .any, .any, .any, .any, .any, .any, .any, .any, .any, .any, .any, .any, .any, .any, .any, .any, .any, .any, .any, .any, .any, .any, .any, .any, .any, .any, .any, .any, .any, .any, .any, .any, .any, .any, .any, .any, .any, .any, .any, .any, .any, .any, .any, .any, .any, .any, .any], [], memE⟩
theorem t_runs (k : Ex -> St -> Bool) : runM cR 3000 (fcode Tryz.prog 72) [F_out] ⟨padL argsR 130, [], memR⟩ (fun e s => k e (keepS [10, 11] s)) = cond (onP (SI false 0 b7_0 b2_83 = SI false 0 b7_0 b2_83)) (k .ret stE) false := by kernel_rfl
def F_runs (args : List AV) (m : Mem) : TrM := .br (onP (args = argsR /\ m = memR)) (.leaf valE memE) .bad
theorem runMK {c : Code} {l : List LF} {st : St} {K : Ex -> St -> Prop} (ls : List Nat) {n : Nat} (hl : LoopsOkP cR (loopsOf c) l) (h : ∀ k : Ex -> St -> Bool, (∀ e s, K e s -> k e s = true) -> Bas.runM cR n c l st (fun e s => k e (keepS ls s)) = true) : AWp cR none c st (fun e s => ∃ s', LessS cR s s' /\ K e s') := by
 classical
 have h1 := h (fun e s => decide (K e s)) (fun e s h => decide_eq_true h)
 have := runA_soundP hR (mkA c l) st _ (mkA_okP c l hl) h1
 rw [mkA_code] at this
 exact this.mono fun e s hk => ⟨_, LessS.keep ls s, of_decide_eq_true hk⟩
theorem runs_ok : InpOk cR 72 F_runs := by
 obtain ⟨fn, hfn, hbd, hnt, hrs⟩ := fn_is (P := Tryz.prog) (f := 72) (n := 130) (r := 2) (by kernel_rfl)
 refine inp_of_awp hR hfn hbd rfl rfl rfl fun args m kk h => ?_
 unfold F_runs at h
 rw [TrM.ev_br] at h
 rcases of_cond2 h with ⟨hc, h1⟩ | ⟨_, h1⟩
 case inr => cases h1
 obtain ⟨rfl, rfl⟩ := of_onP hc
 have h1 : kk valE memE = true := h1
 rw [hnt]
 have hres : ∀ (kk : AV -> Mem -> Bool), closeK stE.ds stE.m.lp (fun lp => resK cR fn stE (fun v => kk v ⟨stE.m.heap, stE.m.nx, lp⟩) false) false = kk valE memE := fun kk => by
  show resK cR fn stE (fun v => kk v ⟨memE.heap, memE.nx, memE.lp⟩) false = _
  have : ((Tryz.prog.funcs[72]?).map fun fn => fn.results.toList) = some [.tmp 10, .tmp 11] := by kernel_rfl
  rw [show Tryz.prog.funcs[72]? = some fn from hfn] at this
  have hr : fn.results.toList = [.tmp 10, .tmp 11] := Option.some.inj this; unfold resK; rw [hr]; rfl
 refine AWp.less (LessS.refl _) ((AWp.post (runMK [10, 11] (n := 3000) outer_ok fun k hk => ?_) fun e s he => he))
 refine (t_runs k).trans ?_
 rw [onP_true rfl]
 exact hk .ret stE ⟨.inl rfl, (hres kk).trans h1⟩
abbrev cX : Cfg := ⟨Tryz.prog, gmap gs, lookS lS, fun _ => false, lookX [(72, F_runs)]⟩
theorem hX : cX.Ok := cfg_okX base sumsR (fun s hs => by
 rcases List.mem_cons.1 hs with rfl | h
 ·exact runs_ok
 ·cases h)
theorem t_alive (k : AV -> Bool) : runF cX 3000 32 [] k false = cond (onP (argsR = argsR /\ memR = memR)) (k (.bool true)) false := by kernel_rfl
theorem q_alive : ACalls Tryz.prog (gmap gs) 32 [] (fun v => v = .bool true) := by
 classical
 exact (runF_sound hX (k := fun v => decide (v = .bool true)) ((t_alive _).trans (by rw [onP_true (⟨rfl, rfl⟩ : argsR = argsR /\ memR = memR)]; exact decide_eq_true rfl))).mono fun v hv => of_decide_eq_true hv
def S_alive : Sum := (32, fun args => match args with
 | [] => some (true, .bool true)
 | _ => none)
theorem s_alive : SumOk Tryz.prog (gmap gs) S_alive := fun args r hr => by
 simp only [S_alive] at hr
 split at hr
 ·simp only [Option.some.injEq, Prod.mk.injEq, true_and] at hr
  subst hr; exact q_alive
 ·cases hr
end
end Go.Bas.BasTRAlive
