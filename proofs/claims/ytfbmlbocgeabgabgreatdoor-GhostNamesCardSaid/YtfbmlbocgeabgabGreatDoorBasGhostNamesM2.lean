/- Known answers of a closed run, each reckoned by the kernel. -/
import Derived.Test.YtfbmlbocgeabgabGreatDoorBasGhostNamesM1
namespace Go.Proofs.YtfbmlbocgeabgabGreatDoor.ghostNames
open Go.ChangeShapes Go.WideShapes Go.ChangeAt Go.RowKit Go.Bas
set_option linter.unusedVariables false
set_option maxRecDepth 100000
def A74_46 : List AV := [a0, x 0, .agg [y 13, u 1, y 9, w 1, w 7, w 2, .bool true, x 0, w 0, .nils, u 1, u 65540, u 1, u 0, u 0, u 65540, u 1, u 0, u 0, u 0, u 0, u 0, u 0, .lst [.bool true] 1, u 65539, x 1, u 0]]
def R74_46 : AV := .tup [a104, x 0]
theorem m74_46 (k : AV → Bool) : runF c74 200000 74 A74_46 k false = k R74_46 := by kernel_rfl
theorem q74_46 : ACalls Tryz.prog (gmap gs) 74 A74_46 (fun v => v = R74_46) := acalls_eq base l74 fun k hk => (m74_46 k).trans hk
def A74_47 : List AV := [a0, x 0, .agg [y 11, u 1, y 9, w 1, w 7, w 2, .bool true, x 0, w 0, .nils, u 1, u 65540, u 1, u 0, u 0, u 65540, u 1, u 0, u 0, u 0, u 0, u 0, u 0, .lst [.bool true] 1, u 65539, x 1, u 0]]
def R74_47 : AV := .tup [a108, x 0]
theorem m74_47 (k : AV → Bool) : runF c74 200000 74 A74_47 k false = k R74_47 := by kernel_rfl
theorem q74_47 : ACalls Tryz.prog (gmap gs) 74 A74_47 (fun v => v = R74_47) := acalls_eq base l74 fun k hk => (m74_47 k).trans hk
def A74_48 : List AV := [a0, x 0, .agg [y 2, u 1, y 9, w 1, w 7, w 2, .bool true, x 0, w 0, .nils, u 1, u 65540, u 1, u 0, u 0, u 65540, u 1, u 0, u 0, u 0, u 0, u 0, u 0, .lst [.bool true] 1, u 65539, x 1, u 0]]
def R74_48 : AV := .tup [a10, x 0]
theorem m74_48 (k : AV → Bool) : runF c74 200000 74 A74_48 k false = k R74_48 := by kernel_rfl
theorem q74_48 : ACalls Tryz.prog (gmap gs) 74 A74_48 (fun v => v = R74_48) := acalls_eq base l74 fun k hk => (m74_48 k).trans hk
def A74_49 : List AV := [a0, x 0, .agg [y 3, u 1, y 9, w 1, w 7, w 2, .bool true, x 0, w 0, .nils, u 1, u 65540, u 1, u 0, u 0, u 65540, u 1, u 0, u 0, u 0, u 0, u 0, u 0, .lst [.bool true] 1, u 65539, x 1, u 0]]
def R74_49 : AV := .tup [a13, x 0]
theorem m74_49 (k : AV → Bool) : runF c74 200000 74 A74_49 k false = k R74_49 := by kernel_rfl
theorem q74_49 : ACalls Tryz.prog (gmap gs) 74 A74_49 (fun v => v = R74_49) := acalls_eq base l74 fun k hk => (m74_49 k).trans hk
def A74_50 : List AV := [a0, x 0, .agg [y 14, u 1, y 9, w 1, w 7, w 2, .bool true, x 0, w 0, .nils, u 1, u 65541, u 1, u 0, u 0, u 65540, u 1, u 0, u 0, u 0, u 0, u 0, u 0, .lst [.bool true] 1, u 65541, x 0, u 0]]
def R74_50 : AV := .tup [a113, x 0]
theorem m74_50 (k : AV → Bool) : runF c74 200000 74 A74_50 k false = k R74_50 := by kernel_rfl
theorem q74_50 : ACalls Tryz.prog (gmap gs) 74 A74_50 (fun v => v = R74_50) := acalls_eq base l74 fun k hk => (m74_50 k).trans hk
def A74_51 : List AV := [a0, x 0, .agg [y 11, u 1, y 9, w 1, w 7, w 2, .bool true, x 0, w 0, .nils, u 1, u 65541, u 1, u 0, u 0, u 65540, u 1, u 0, u 0, u 0, u 0, u 0, u 0, .lst [.bool true] 1, u 65541, x 1, u 0]]
def R74_51 : AV := .tup [a117, x 0]
theorem m74_51 (k : AV → Bool) : runF c74 200000 74 A74_51 k false = k R74_51 := by kernel_rfl
theorem q74_51 : ACalls Tryz.prog (gmap gs) 74 A74_51 (fun v => v = R74_51) := acalls_eq base l74 fun k hk => (m74_51 k).trans hk
def A74_52 : List AV := [a0, x 0, .agg [y 2, u 1, y 9, w 1, w 7, w 2, .bool true, x 0, w 0, .nils, u 1, u 65541, u 1, u 0, u 0, u 65540, u 1, u 0, u 0, u 0, u 0, u 0, u 0, .lst [.bool true] 1, u 65541, x 1, u 0]]
def R74_52 : AV := .tup [a10, x 0]
theorem m74_52 (k : AV → Bool) : runF c74 200000 74 A74_52 k false = k R74_52 := by kernel_rfl
theorem q74_52 : ACalls Tryz.prog (gmap gs) 74 A74_52 (fun v => v = R74_52) := acalls_eq base l74 fun k hk => (m74_52 k).trans hk
def A74_53 : List AV := [a0, x 0, .agg [y 3, u 1, y 9, w 1, w 7, w 2, .bool true, x 0, w 0, .nils, u 1, u 65541, u 1, u 0, u 0, u 65540, u 1, u 0, u 0, u 0, u 0, u 0, u 0, .lst [.bool true] 1, u 65541, x 1, u 0]]
def R74_53 : AV := .tup [a13, x 0]
theorem m74_53 (k : AV → Bool) : runF c74 200000 74 A74_53 k false = k R74_53 := by kernel_rfl
theorem q74_53 : ACalls Tryz.prog (gmap gs) 74 A74_53 (fun v => v = R74_53) := acalls_eq base l74 fun k hk => (m74_53 k).trans hk
def A74_54 : List AV := [a0, x 0, .agg [y 7, u 1, y 9, w 1, w 7, w 2, .bool true, x 0, w 0, .nils, u 1, u 65542, u 1, u 0, u 0, u 65540, u 1, u 0, u 0, u 0, u 0, u 0, u 0, .lst [.bool true] 1, u 65541, x 1, u 0]]
def R74_54 : AV := .tup [a121, x 0]
theorem m74_54 (k : AV → Bool) : runF c74 200000 74 A74_54 k false = k R74_54 := by kernel_rfl
theorem q74_54 : ACalls Tryz.prog (gmap gs) 74 A74_54 (fun v => v = R74_54) := acalls_eq base l74 fun k hk => (m74_54 k).trans hk
def A74_55 : List AV := [a0, x 0, .agg [y 10, u 1, y 9, w 1, w 7, w 2, .bool true, x 0, w 0, .nils, u 1, u 65542, u 1, u 0, u 0, u 0, u 0, u 0, u 0, u 0, u 0, u 0, u 0, .lst [.bool true] 1, u 65541, x 1, u 0]]
def R74_55 : AV := .tup [a123, x 0]
theorem m74_55 (k : AV → Bool) : runF c74 200000 74 A74_55 k false = k R74_55 := by kernel_rfl
theorem q74_55 : ACalls Tryz.prog (gmap gs) 74 A74_55 (fun v => v = R74_55) := acalls_eq base l74 fun k hk => (m74_55 k).trans hk
def A74_56 : List AV := [a0, x 0, .agg [y 2, u 1, y 9, w 1, w 7, w 2, .bool true, x 0, w 0, .nils, u 1, u 65542, u 1, u 0, u 0, u 0, u 0, u 0, u 0, u 0, u 0, u 0, u 0, .lst [.bool true] 1, u 65541, x 1, u 0]]
def R74_56 : AV := .tup [a10, x 0]
theorem m74_56 (k : AV → Bool) : runF c74 200000 74 A74_56 k false = k R74_56 := by kernel_rfl
theorem q74_56 : ACalls Tryz.prog (gmap gs) 74 A74_56 (fun v => v = R74_56) := acalls_eq base l74 fun k hk => (m74_56 k).trans hk
def A74_57 : List AV := [a0, x 0, .agg [y 3, u 1, y 9, w 1, w 7, w 2, .bool true, x 0, w 0, .nils, u 1, u 65542, u 1, u 0, u 0, u 0, u 0, u 0, u 0, u 0, u 0, u 0, u 0, .lst [.bool true] 1, u 65541, x 1, u 0]]
def R74_57 : AV := .tup [a13, x 0]
theorem m74_57 (k : AV → Bool) : runF c74 200000 74 A74_57 k false = k R74_57 := by kernel_rfl
theorem q74_57 : ACalls Tryz.prog (gmap gs) 74 A74_57 (fun v => v = R74_57) := acalls_eq base l74 fun k hk => (m74_57 k).trans hk
def A74_58 : List AV := [a0, x 0, .agg [y 7, u 1, y 9, w 1, w 7, w 2, .bool true, x 0, w 0, .nils, u 1, u 65542, u 1, u 0, u 0, u 0, u 0, u 0, u 0, u 0, u 0, u 0, u 0, .lst [.bool true] 1, u 65541, x 1, u 0]]
def R74_58 : AV := .tup [a121, x 0]
theorem m74_58 (k : AV → Bool) : runF c74 200000 74 A74_58 k false = k R74_58 := by kernel_rfl
theorem q74_58 : ACalls Tryz.prog (gmap gs) 74 A74_58 (fun v => v = R74_58) := acalls_eq base l74 fun k hk => (m74_58 k).trans hk
def A74_59 : List AV := [a0, x 0, .agg [y 8, u 1, y 9, w 1, w 7, w 2, .bool true, x 0, w 0, .nils, u 1, u 65542, u 1, u 0, u 0, u 65536, u 0, u 0, u 0, u 0, u 0, u 0, u 0, .lst [.bool true] 1, u 65541, x 1, u 0]]
def R74_59 : AV := .tup [a17, x 0]
theorem m74_59 (k : AV → Bool) : runF c74 200000 74 A74_59 k false = k R74_59 := by kernel_rfl
theorem q74_59 : ACalls Tryz.prog (gmap gs) 74 A74_59 (fun v => v = R74_59) := acalls_eq base l74 fun k hk => (m74_59 k).trans hk
def A74_60 : List AV := [a0, x 0, .agg [y 10, u 1, y 9, w 1, w 7, w 2, .bool true, x 0, w 0, .nils, u 1, u 65542, u 1, u 0, u 0, u 65536, u 0, u 0, u 0, u 1, u 265, u 7, u 2, .lst [.bool true] 1, u 65541, x 1, u 0]]
def R74_60 : AV := .tup [a128, x 0]
theorem m74_60 (k : AV → Bool) : runF c74 200000 74 A74_60 k false = k R74_60 := by kernel_rfl
theorem q74_60 : ACalls Tryz.prog (gmap gs) 74 A74_60 (fun v => v = R74_60) := acalls_eq base l74 fun k hk => (m74_60 k).trans hk
def A74_61 : List AV := [a0, x 0, .agg [y 2, u 1, y 9, w 1, w 7, w 2, .bool true, x 0, w 0, .nils, u 1, u 65542, u 1, u 0, u 0, u 65536, u 0, u 0, u 0, u 1, u 265, u 7, u 2, .lst [.bool true] 1, u 65541, x 1, u 0]]
def R74_61 : AV := .tup [a10, x 0]
theorem m74_61 (k : AV → Bool) : runF c74 200000 74 A74_61 k false = k R74_61 := by kernel_rfl
theorem q74_61 : ACalls Tryz.prog (gmap gs) 74 A74_61 (fun v => v = R74_61) := acalls_eq base l74 fun k hk => (m74_61 k).trans hk
def A74_62 : List AV := [a0, x 0, .agg [y 3, u 1, y 9, w 1, w 7, w 2, .bool true, x 0, w 0, .nils, u 1, u 65542, u 1, u 0, u 0, u 65536, u 0, u 0, u 0, u 1, u 265, u 7, u 2, .lst [.bool true] 1, u 65541, x 1, u 0]]
def R74_62 : AV := .tup [a13, x 0]
theorem m74_62 (k : AV → Bool) : runF c74 200000 74 A74_62 k false = k R74_62 := by kernel_rfl
theorem q74_62 : ACalls Tryz.prog (gmap gs) 74 A74_62 (fun v => v = R74_62) := acalls_eq base l74 fun k hk => (m74_62 k).trans hk
def A74_63 : List AV := [a0, x 0, .agg [y 7, u 1, y 9, w 1, w 7, w 2, .bool true, x 0, w 0, .nils, u 1, u 65542, u 1, u 0, u 0, u 65536, u 0, u 0, u 0, u 1, u 265, u 7, u 2, .lst [.bool true] 1, u 65541, x 1, u 0]]
def R74_63 : AV := .tup [a121, x 0]
theorem m74_63 (k : AV → Bool) : runF c74 200000 74 A74_63 k false = k R74_63 := by kernel_rfl
theorem q74_63 : ACalls Tryz.prog (gmap gs) 74 A74_63 (fun v => v = R74_63) := acalls_eq base l74 fun k hk => (m74_63 k).trans hk
def A74_64 : List AV := [a0, x 0, .agg [y 8, u 1, y 9, w 1, w 7, w 2, .bool true, x 0, w 0, .nils, u 1, u 65542, u 1, u 0, u 0, u 65537, u 36896, u 30064771073, u 8589934592, u 1, u 265, u 7, u 2, .lst [.bool true] 1, u 65541, x 1, u 0]]
def R74_64 : AV := .tup [a134, x 0]
theorem m74_64 (k : AV → Bool) : runF c74 200000 74 A74_64 k false = k R74_64 := by kernel_rfl
theorem q74_64 : ACalls Tryz.prog (gmap gs) 74 A74_64 (fun v => v = R74_64) := acalls_eq base l74 fun k hk => (m74_64 k).trans hk
def A74_65 : List AV := [a0, x 0, .agg [y 10, u 1, y 9, w 1, w 7, w 2, .bool true, x 0, w 0, .nils, u 1, u 65542, u 1, u 0, u 0, u 65537, u 36896, u 30064771073, u 8589934592, u 0, u 0, u 0, u 0, .lst [.bool true] 1, u 65541, x 1, u 0]]
def R74_65 : AV := .tup [a135, x 0]
theorem m74_65 (k : AV → Bool) : runF c74 200000 74 A74_65 k false = k R74_65 := by kernel_rfl
theorem q74_65 : ACalls Tryz.prog (gmap gs) 74 A74_65 (fun v => v = R74_65) := acalls_eq base l74 fun k hk => (m74_65 k).trans hk
def A74_66 : List AV := [a0, x 0, .agg [y 2, u 1, y 9, w 1, w 7, w 2, .bool true, x 0, w 0, .nils, u 1, u 65542, u 1, u 0, u 0, u 65537, u 36896, u 30064771073, u 8589934592, u 0, u 0, u 0, u 0, .lst [.bool true] 1, u 65541, x 1, u 0]]
def R74_66 : AV := .tup [a10, x 0]
theorem m74_66 (k : AV → Bool) : runF c74 200000 74 A74_66 k false = k R74_66 := by kernel_rfl
theorem q74_66 : ACalls Tryz.prog (gmap gs) 74 A74_66 (fun v => v = R74_66) := acalls_eq base l74 fun k hk => (m74_66 k).trans hk
def A74_67 : List AV := [a0, x 0, .agg [y 3, u 1, y 9, w 1, w 7, w 2, .bool true, x 0, w 0, .nils, u 1, u 65542, u 1, u 0, u 0, u 65537, u 36896, u 30064771073, u 8589934592, u 0, u 0, u 0, u 0, .lst [.bool true] 1, u 65541, x 1, u 0]]
def R74_67 : AV := .tup [a13, x 0]
theorem m74_67 (k : AV → Bool) : runF c74 200000 74 A74_67 k false = k R74_67 := by kernel_rfl
theorem q74_67 : ACalls Tryz.prog (gmap gs) 74 A74_67 (fun v => v = R74_67) := acalls_eq base l74 fun k hk => (m74_67 k).trans hk
def A74_68 : List AV := [a0, x 0, .agg [y 7, u 1, y 9, w 1, w 7, w 2, .bool true, x 0, w 0, .nils, u 1, u 65542, u 1, u 0, u 0, u 65537, u 36896, u 30064771073, u 8589934592, u 0, u 0, u 0, u 0, .lst [.bool true] 1, u 65541, x 1, u 0]]
def R74_68 : AV := .tup [a121, x 0]
theorem m74_68 (k : AV → Bool) : runF c74 200000 74 A74_68 k false = k R74_68 := by kernel_rfl
theorem q74_68 : ACalls Tryz.prog (gmap gs) 74 A74_68 (fun v => v = R74_68) := acalls_eq base l74 fun k hk => (m74_68 k).trans hk
def A74_69 : List AV := [a0, x 0, .agg [y 8, u 1, y 9, w 1, w 7, w 2, .bool true, x 0, w 0, .nils, u 1, u 65542, u 1, u 0, u 0, u 65538, u 140737488523296, u 30064771073, u 8589934592, u 0, u 0, u 0, u 0, .lst [.bool true] 1, u 65541, x 1, u 0]]
def R74_69 : AV := .tup [a134, x 0]
theorem m74_69 (k : AV → Bool) : runF c74 200000 74 A74_69 k false = k R74_69 := by kernel_rfl
theorem q74_69 : ACalls Tryz.prog (gmap gs) 74 A74_69 (fun v => v = R74_69) := acalls_eq base l74 fun k hk => (m74_69 k).trans hk
def A74_70 : List AV := [a0, x 0, .agg [y 9, u 1, y 9, w 1, w 7, w 2, .bool true, x 0, w 0, .nils, u 1, u 65542, u 1, u 0, u 0, u 65538, u 140737488523296, u 30064771073, u 8589934592, u 0, u 0, u 0, u 0, .lst [.bool true] 1, u 65541, x 1, u 0]]
def R74_70 : AV := .tup [a141, x 0]
theorem m74_70 (k : AV → Bool) : runF c74 200000 74 A74_70 k false = k R74_70 := by kernel_rfl
theorem q74_70 : ACalls Tryz.prog (gmap gs) 74 A74_70 (fun v => v = R74_70) := acalls_eq base l74 fun k hk => (m74_70 k).trans hk
def A74_71 : List AV := [a0, x 0, .agg [y 10, u 1, y 9, w 1, w 7, w 2, .bool true, x 0, w 0, .nils, u 1, u 65542, u 1, u 0, u 0, u 65538, u 140737488523296, u 30064771073, u 8589934592, u 0, u 0, u 0, u 0, .lst [.bool true] 1, u 65541, x 1, u 0]]
def R74_71 : AV := .tup [a142, x 0]
theorem m74_71 (k : AV → Bool) : runF c74 200000 74 A74_71 k false = k R74_71 := by kernel_rfl
theorem q74_71 : ACalls Tryz.prog (gmap gs) 74 A74_71 (fun v => v = R74_71) := acalls_eq base l74 fun k hk => (m74_71 k).trans hk
def A74_72 : List AV := [a0, x 0, .agg [y 2, u 1, y 9, w 1, w 7, w 2, .bool true, x 0, w 0, .nils, u 1, u 65542, u 1, u 0, u 0, u 65538, u 140737488523296, u 30064771073, u 8589934592, u 0, u 0, u 0, u 0, .lst [.bool true] 1, u 65541, x 1, u 0]]
def R74_72 : AV := .tup [a10, x 0]
theorem m74_72 (k : AV → Bool) : runF c74 200000 74 A74_72 k false = k R74_72 := by kernel_rfl
theorem q74_72 : ACalls Tryz.prog (gmap gs) 74 A74_72 (fun v => v = R74_72) := acalls_eq base l74 fun k hk => (m74_72 k).trans hk
def A74_73 : List AV := [a0, x 0, .agg [y 3, u 1, y 9, w 1, w 7, w 2, .bool true, x 0, w 0, .nils, u 1, u 65542, u 1, u 0, u 0, u 65538, u 140737488523296, u 30064771073, u 8589934592, u 0, u 0, u 0, u 0, .lst [.bool true] 1, u 65541, x 1, u 0]]
def R74_73 : AV := .tup [a13, x 0]
theorem m74_73 (k : AV → Bool) : runF c74 200000 74 A74_73 k false = k R74_73 := by kernel_rfl
theorem q74_73 : ACalls Tryz.prog (gmap gs) 74 A74_73 (fun v => v = R74_73) := acalls_eq base l74 fun k hk => (m74_73 k).trans hk
def A74_74 : List AV := [a0, x 0, .agg [y 7, u 1, y 9, w 1, w 7, w 2, .bool true, x 0, w 0, .nils, u 1, u 65542, u 1, u 0, u 0, u 65538, u 140737488523296, u 30064771073, u 8589934592, u 0, u 0, u 0, u 0, .lst [.bool true] 1, u 65541, x 1, u 0]]
def R74_74 : AV := .tup [a121, x 0]
theorem m74_74 (k : AV → Bool) : runF c74 200000 74 A74_74 k false = k R74_74 := by kernel_rfl
theorem q74_74 : ACalls Tryz.prog (gmap gs) 74 A74_74 (fun v => v = R74_74) := acalls_eq base l74 fun k hk => (m74_74 k).trans hk
def A74_75 : List AV := [a0, x 0, .agg [y 10, u 1, y 9, w 1, w 7, w 2, .bool true, x 0, w 0, .nils, u 1, u 65542, u 1, u 0, u 0, u 65539, u 140737489702944, u 30064771073, u 8589934592, u 0, u 0, u 0, u 0, .lst [.bool true] 1, u 65541, x 1, u 0]]
def R74_75 : AV := .tup [a149, x 0]
theorem m74_75 (k : AV → Bool) : runF c74 200000 74 A74_75 k false = k R74_75 := by kernel_rfl
theorem q74_75 : ACalls Tryz.prog (gmap gs) 74 A74_75 (fun v => v = R74_75) := acalls_eq base l74 fun k hk => (m74_75 k).trans hk
def A74_76 : List AV := [a0, x 0, .agg [y 2, u 1, y 9, w 1, w 7, w 2, .bool true, x 0, w 0, .nils, u 1, u 65542, u 1, u 0, u 0, u 65539, u 140737489702944, u 30064771073, u 8589934592, u 0, u 0, u 0, u 0, .lst [.bool true] 1, u 65541, x 1, u 0]]
def R74_76 : AV := .tup [a10, x 0]
theorem m74_76 (k : AV → Bool) : runF c74 200000 74 A74_76 k false = k R74_76 := by kernel_rfl
theorem q74_76 : ACalls Tryz.prog (gmap gs) 74 A74_76 (fun v => v = R74_76) := acalls_eq base l74 fun k hk => (m74_76 k).trans hk
def A74_77 : List AV := [a0, x 0, .agg [y 3, u 1, y 9, w 1, w 7, w 2, .bool true, x 0, w 0, .nils, u 1, u 65542, u 1, u 0, u 0, u 65539, u 140737489702944, u 30064771073, u 8589934592, u 0, u 0, u 0, u 0, .lst [.bool true] 1, u 65541, x 1, u 0]]
def R74_77 : AV := .tup [a13, x 0]
theorem m74_77 (k : AV → Bool) : runF c74 200000 74 A74_77 k false = k R74_77 := by kernel_rfl
theorem q74_77 : ACalls Tryz.prog (gmap gs) 74 A74_77 (fun v => v = R74_77) := acalls_eq base l74 fun k hk => (m74_77 k).trans hk
def A74_78 : List AV := [a0, x 0, .agg [y 7, u 1, y 9, w 1, w 7, w 2, .bool true, x 0, w 0, .nils, u 1, u 65542, u 1, u 0, u 0, u 65539, u 140737489702944, u 30064771073, u 8589934592, u 0, u 0, u 0, u 0, .lst [.bool true] 1, u 65541, x 1, u 0]]
def R74_78 : AV := .tup [a121, x 0]
theorem m74_78 (k : AV → Bool) : runF c74 200000 74 A74_78 k false = k R74_78 := by kernel_rfl
theorem q74_78 : ACalls Tryz.prog (gmap gs) 74 A74_78 (fun v => v = R74_78) := acalls_eq base l74 fun k hk => (m74_78 k).trans hk
def A74_79 : List AV := [a0, x 0, .agg [y 11, u 1, y 9, w 1, w 7, w 2, .bool true, x 0, w 0, .nils, u 1, u 65542, u 1, u 0, u 0, u 65540, u 1, u 0, u 0, u 0, u 0, u 0, u 0, .lst [.bool true] 1, u 65541, x 1, u 0]]
def R74_79 : AV := .tup [a156, x 0]
theorem m74_79 (k : AV → Bool) : runF c74 200000 74 A74_79 k false = k R74_79 := by kernel_rfl
theorem q74_79 : ACalls Tryz.prog (gmap gs) 74 A74_79 (fun v => v = R74_79) := acalls_eq base l74 fun k hk => (m74_79 k).trans hk
def A74_80 : List AV := [a0, x 0, .agg [y 2, u 1, y 9, w 1, w 7, w 2, .bool true, x 0, w 0, .nils, u 1, u 65542, u 1, u 0, u 0, u 65540, u 1, u 0, u 0, u 0, u 0, u 0, u 0, .lst [.bool true] 1, u 65541, x 1, u 0]]
def R74_80 : AV := .tup [a10, x 0]
theorem m74_80 (k : AV → Bool) : runF c74 200000 74 A74_80 k false = k R74_80 := by kernel_rfl
theorem q74_80 : ACalls Tryz.prog (gmap gs) 74 A74_80 (fun v => v = R74_80) := acalls_eq base l74 fun k hk => (m74_80 k).trans hk
def A74_81 : List AV := [a0, x 0, .agg [y 3, u 1, y 9, w 1, w 7, w 2, .bool true, x 0, w 0, .nils, u 1, u 65542, u 1, u 0, u 0, u 65540, u 1, u 0, u 0, u 0, u 0, u 0, u 0, .lst [.bool true] 1, u 65541, x 1, u 0]]
def R74_81 : AV := .tup [a13, x 0]
theorem m74_81 (k : AV → Bool) : runF c74 200000 74 A74_81 k false = k R74_81 := by kernel_rfl
theorem q74_81 : ACalls Tryz.prog (gmap gs) 74 A74_81 (fun v => v = R74_81) := acalls_eq base l74 fun k hk => (m74_81 k).trans hk
def A74_82 : List AV := [a0, x 0, a163]
def R74_82 : AV := .tup [a162, x 0]
theorem m74_82 (k : AV → Bool) : runF c74 200000 74 A74_82 k false = k R74_82 := by kernel_rfl
theorem q74_82 : ACalls Tryz.prog (gmap gs) 74 A74_82 (fun v => v = R74_82) := acalls_eq base l74 fun k hk => (m74_82 k).trans hk
def A74_83 : List AV := [a0, x 0, .agg [y 2, u 2, y 9, w 1, w 7, w 1, .bool false, x 0, w 0, .nils, u 0, u 0, u 0, u 0, u 0, u 0, u 0, u 0, u 0, u 0, u 0, u 0, u 0, .nils, u 0, x 0, u 0]]
def R74_83 : AV := .tup [a10, x 0]
theorem m74_83 (k : AV → Bool) : runF c74 200000 74 A74_83 k false = k R74_83 := by kernel_rfl
theorem q74_83 : ACalls Tryz.prog (gmap gs) 74 A74_83 (fun v => v = R74_83) := acalls_eq base l74 fun k hk => (m74_83 k).trans hk
def A74_84 : List AV := [a0, x 0, .agg [y 3, u 2, y 9, w 1, w 7, w 1, .bool false, x 0, w 0, .nils, u 0, u 0, u 0, u 0, u 0, u 0, u 0, u 0, u 0, u 0, u 0, u 0, u 0, .nils, u 0, x 0, u 0]]
def R74_84 : AV := .tup [a13, x 0]
theorem m74_84 (k : AV → Bool) : runF c74 200000 74 A74_84 k false = k R74_84 := by kernel_rfl
theorem q74_84 : ACalls Tryz.prog (gmap gs) 74 A74_84 (fun v => v = R74_84) := acalls_eq base l74 fun k hk => (m74_84 k).trans hk
def A74_85 : List AV := [a0, x 0, .agg [y 15, u 2, y 9, w 1, w 7, w 1, .bool false, x 0, w 0, .nils, u 0, u 65543, u 1, u 0, u 0, u 0, u 0, u 0, u 0, u 0, u 0, u 0, u 0, .nils, u 0, x 0, u 0]]
def R74_85 : AV := .tup [a10, x 0]
theorem m74_85 (k : AV → Bool) : runF c74 200000 74 A74_85 k false = k R74_85 := by kernel_rfl
theorem q74_85 : ACalls Tryz.prog (gmap gs) 74 A74_85 (fun v => v = R74_85) := acalls_eq base l74 fun k hk => (m74_85 k).trans hk
def M74 : List (Nat × List AV × AV) := [(697183068898069959, A74_0, R74_0), (8657070581893626, A74_1, R74_1), (473052576872564176, A74_2, R74_2), (1044629658489323373, A74_3, R74_3), (356103923076487715, A74_4, R74_4), (71209209040390842, A74_5, R74_5), (132241659339586792, A74_6, R74_6), (693444299068211246, A74_7, R74_7), (36850737470633583, A74_8, R74_8), (567529002046099137, A74_9, R74_9), (689593902644491037, A74_10, R74_10), (97875037766268608, A74_11, R74_11), (36842587467072658, A74_12, R74_12), (1111717831237341449, A74_13, R74_13), (1081209756091304399, A74_14, R74_14), (50353152082849416, A74_15, R74_15), (611555791811473870, A74_16, R74_16), (550523341512277920, A74_17, R74_17), (520530045981470942, A74_18, R74_18), (490005670828312042, A74_19, R74_19), (612070571426703942, A74_20, R74_20), (20351706548481513, A74_21, R74_21), (1112240760856132446, A74_22, R74_22), (1051644133374884672, A74_23, R74_23), (459925268496662243, A74_24, R74_24), (1021127908225286697, A74_25, R74_25), (1143192808823678597, A74_26, R74_26), (551473943945456168, A74_27, R74_27), (490441493646260218, A74_28, R74_28), (92062533917402804, A74_29, R74_29), (653265173646027258, A74_30, R74_30), (61546308767804829, A74_31, R74_31), (183611209366196729, A74_32, R74_32), (818410119981584111, A74_33, R74_33), (757377669682388161, A74_34, R74_34), (280374110326347199, A74_35, R74_35), (994157875802961528, A74_36, R74_36), (402439010924739099, A74_37, R74_37), (822128795953286997, A74_38, R74_38), (260926156224662543, A74_39, R74_39), (974709921701276872, A74_40, R74_40), (382991056823054443, A74_41, R74_41), (772164616764987345, A74_42, R74_42), (241478202185960897, A74_43, R74_43), (955261967662575226, A74_44, R74_44), (363543102784352797, A74_45, R74_45), (191514022934678266, A74_46, R74_46), (222030248084276241, A74_47, R74_47), (935814013560890570, A74_48, R74_48), (344095148682668141, A74_49, R74_49), (733268708561619955, A74_50, R74_50), (202582293982593507, A74_51, R74_51), (916366059459207836, A74_52, R74_52), (324647194580985407, A74_53, R74_53), (244166790180104801, A74_54, R74_54), (543885502487423717, A74_55, R74_55), (665950403085815617, A74_56, R74_56), (74231538207593188, A74_57, R74_57), (13199087908397238, A74_58, R74_58), (1088074331678666029, A74_59, R74_59), (1057566256532628979, A74_60, R74_60), (26709652524173996, A74_61, R74_61), (587912292252798450, A74_62, R74_62), (526879841953602500, A74_63, R74_63), (496886546422795522, A74_64, R74_64), (466362171269636622, A74_65, R74_65), (588427071868028522, A74_66, R74_66), (1149629711596652976, A74_67, R74_67), (1088597261297457026, A74_68, R74_68), (1028000633816209252, A74_69, R74_69), (436281768937986823, A74_70, R74_70), (997484408666611277, A74_71, R74_71), (1119549309265003177, A74_72, R74_72), (527830444386780748, A74_73, R74_73), (466797994087584798, A74_74, R74_74), (37902809209129409, A74_75, R74_75), (159967709807521309, A74_76, R74_76), (721170349536145763, A74_77, R74_77), (660137899236949813, A74_78, R74_78), (183134339880908851, A74_79, R74_79), (896918105357523180, A74_80, R74_80), (305199240479300751, A74_81, R74_81), (529730765233525339, A74_82, R74_82), (994126271524195889, A74_83, R74_83), (305600273208019556, A74_84, R74_84), (941764957640450969, A74_85, R74_85)]
theorem s74 : SumOk Tryz.prog (gmap gs) (74, memoH M74) := memoH_sum (memoH_cons q74_0 (memoH_cons q74_1 (memoH_cons q74_2 (memoH_cons q74_3 (memoH_cons q74_4 (memoH_cons q74_5 (memoH_cons q74_6 (memoH_cons q74_7 (memoH_cons q74_8 (memoH_cons q74_9 (memoH_cons q74_10 (memoH_cons q74_11 (memoH_cons q74_12 (memoH_cons q74_13 (memoH_cons q74_14 (memoH_cons q74_15 (memoH_cons q74_16 (memoH_cons q74_17 (memoH_cons q74_18 (memoH_cons q74_19 (memoH_cons q74_20 (memoH_cons q74_21 (memoH_cons q74_22 (memoH_cons q74_23 (memoH_cons q74_24 (memoH_cons q74_25 (memoH_cons q74_26 (memoH_cons q74_27 (memoH_cons q74_28 (memoH_cons q74_29 (memoH_cons q74_30 (memoH_cons q74_31 (memoH_cons q74_32 (memoH_cons q74_33 (memoH_cons q74_34 (memoH_cons q74_35 (memoH_cons q74_36 (memoH_cons q74_37 (memoH_cons q74_38 (memoH_cons q74_39 (memoH_cons q74_40 (memoH_cons q74_41 (memoH_cons q74_42 (memoH_cons q74_43 (memoH_cons q74_44 (memoH_cons q74_45 (memoH_cons q74_46 (memoH_cons q74_47 (memoH_cons q74_48 (memoH_cons q74_49 (memoH_cons q74_50 (memoH_cons q74_51 (memoH_cons q74_52 (memoH_cons q74_53 (memoH_cons q74_54 (memoH_cons q74_55 (memoH_cons q74_56 (memoH_cons q74_57 (memoH_cons q74_58 (memoH_cons q74_59 (memoH_cons q74_60 (memoH_cons q74_61 (memoH_cons q74_62 (memoH_cons q74_63 (memoH_cons q74_64 (memoH_cons q74_65 (memoH_cons q74_66 (memoH_cons q74_67 (memoH_cons q74_68 (memoH_cons q74_69 (memoH_cons q74_70 (memoH_cons q74_71 (memoH_cons q74_72 (memoH_cons q74_73 (memoH_cons q74_74 (memoH_cons q74_75 (memoH_cons q74_76 (memoH_cons q74_77 (memoH_cons q74_78 (memoH_cons q74_79 (memoH_cons q74_80 (memoH_cons q74_81 (memoH_cons q74_82 (memoH_cons q74_83 (memoH_cons q74_84 (memoH_cons q74_85 memoH_nil))))))))))))))))))))))))))))))))))))))))))))))))))))))))))))))))))))))))))))))))))))))
noncomputable abbrev c33 : Cfg := ⟨Tryz.prog, gmap gs, lookS [(14, memoH M14), (72, memoH M72), (74, memoH M74)], fun _ => false, fun _ => none⟩
theorem l33 : ∀ s ∈ ([(14, memoH M14), (72, memoH M72), (74, memoH M74)] : List Sum), SumOk Tryz.prog (gmap gs) s := (sums_cons s14 (sums_cons s72 (sums_cons s74 sums_nil)))
def A33_0 : List AV := [a0, x 0, a7]
def R33_0 : AV := .tup [a3, x 0]
theorem m33_0 (k : AV → Bool) : runF c33 200000 33 A33_0 k false = k R33_0 := by kernel_rfl
theorem q33_0 : ACalls Tryz.prog (gmap gs) 33 A33_0 (fun v => v = R33_0) := acalls_eq base l33 fun k hk => (m33_0 k).trans hk
def A33_1 : List AV := [a0, x 0, a9]
def R33_1 : AV := .tup [a10, x 0]
theorem m33_1 (k : AV → Bool) : runF c33 200000 33 A33_1 k false = k R33_1 := by kernel_rfl
theorem q33_1 : ACalls Tryz.prog (gmap gs) 33 A33_1 (fun v => v = R33_1) := acalls_eq base l33 fun k hk => (m33_1 k).trans hk
def A33_2 : List AV := [a0, x 0, a11]
def R33_2 : AV := .tup [a13, x 0]
theorem m33_2 (k : AV → Bool) : runF c33 200000 33 A33_2 k false = k R33_2 := by kernel_rfl
theorem q33_2 : ACalls Tryz.prog (gmap gs) 33 A33_2 (fun v => v = R33_2) := acalls_eq base l33 fun k hk => (m33_2 k).trans hk
def A33_3 : List AV := [a0, x 0, a16]
def R33_3 : AV := .tup [a17, x 0]
theorem m33_3 (k : AV → Bool) : runF c33 200000 33 A33_3 k false = k R33_3 := by kernel_rfl
theorem q33_3 : ACalls Tryz.prog (gmap gs) 33 A33_3 (fun v => v = R33_3) := acalls_eq base l33 fun k hk => (m33_3 k).trans hk
def A33_4 : List AV := [a0, x 0, a18]
def R33_4 : AV := .tup [a10, x 0]
theorem m33_4 (k : AV → Bool) : runF c33 200000 33 A33_4 k false = k R33_4 := by kernel_rfl
theorem q33_4 : ACalls Tryz.prog (gmap gs) 33 A33_4 (fun v => v = R33_4) := acalls_eq base l33 fun k hk => (m33_4 k).trans hk
def A33_5 : List AV := [a0, x 0, a19]
def R33_5 : AV := .tup [a22, x 0]
theorem m33_5 (k : AV → Bool) : runF c33 200000 33 A33_5 k false = k R33_5 := by kernel_rfl
theorem q33_5 : ACalls Tryz.prog (gmap gs) 33 A33_5 (fun v => v = R33_5) := acalls_eq base l33 fun k hk => (m33_5 k).trans hk
def A33_6 : List AV := [a0, x 0, a23]
def R33_6 : AV := .tup [a10, x 0]
theorem m33_6 (k : AV → Bool) : runF c33 200000 33 A33_6 k false = k R33_6 := by kernel_rfl
theorem q33_6 : ACalls Tryz.prog (gmap gs) 33 A33_6 (fun v => v = R33_6) := acalls_eq base l33 fun k hk => (m33_6 k).trans hk
def A33_7 : List AV := [a0, x 0, a24]
def R33_7 : AV := .tup [a13, x 0]
theorem m33_7 (k : AV → Bool) : runF c33 200000 33 A33_7 k false = k R33_7 := by kernel_rfl
theorem q33_7 : ACalls Tryz.prog (gmap gs) 33 A33_7 (fun v => v = R33_7) := acalls_eq base l33 fun k hk => (m33_7 k).trans hk
def A33_8 : List AV := [a0, x 0, a25]
def R33_8 : AV := .tup [a26, x 0]
theorem m33_8 (k : AV → Bool) : runF c33 200000 33 A33_8 k false = k R33_8 := by kernel_rfl
theorem q33_8 : ACalls Tryz.prog (gmap gs) 33 A33_8 (fun v => v = R33_8) := acalls_eq base l33 fun k hk => (m33_8 k).trans hk
def A33_9 : List AV := [a0, x 0, a28]
def R33_9 : AV := .tup [a30, x 0]
theorem m33_9 (k : AV → Bool) : runF c33 200000 33 A33_9 k false = k R33_9 := by kernel_rfl
theorem q33_9 : ACalls Tryz.prog (gmap gs) 33 A33_9 (fun v => v = R33_9) := acalls_eq base l33 fun k hk => (m33_9 k).trans hk
def A33_10 : List AV := [a0, x 0, a31]
def R33_10 : AV := .tup [a10, x 0]
theorem m33_10 (k : AV → Bool) : runF c33 200000 33 A33_10 k false = k R33_10 := by kernel_rfl
theorem q33_10 : ACalls Tryz.prog (gmap gs) 33 A33_10 (fun v => v = R33_10) := acalls_eq base l33 fun k hk => (m33_10 k).trans hk
def A33_11 : List AV := [a0, x 0, a32]
def R33_11 : AV := .tup [a13, x 0]
theorem m33_11 (k : AV → Bool) : runF c33 200000 33 A33_11 k false = k R33_11 := by kernel_rfl
theorem q33_11 : ACalls Tryz.prog (gmap gs) 33 A33_11 (fun v => v = R33_11) := acalls_eq base l33 fun k hk => (m33_11 k).trans hk
def A33_12 : List AV := [a0, x 0, a33]
def R33_12 : AV := .tup [a26, x 0]
theorem m33_12 (k : AV → Bool) : runF c33 200000 33 A33_12 k false = k R33_12 := by kernel_rfl
theorem q33_12 : ACalls Tryz.prog (gmap gs) 33 A33_12 (fun v => v = R33_12) := acalls_eq base l33 fun k hk => (m33_12 k).trans hk
def A33_13 : List AV := [a0, x 0, a36]
def R33_13 : AV := .tup [a17, x 0]
theorem m33_13 (k : AV → Bool) : runF c33 200000 33 A33_13 k false = k R33_13 := by kernel_rfl
theorem q33_13 : ACalls Tryz.prog (gmap gs) 33 A33_13 (fun v => v = R33_13) := acalls_eq base l33 fun k hk => (m33_13 k).trans hk
def A33_14 : List AV := [a0, x 0, a41]
def R33_14 : AV := .tup [a40, x 0]
theorem m33_14 (k : AV → Bool) : runF c33 200000 33 A33_14 k false = k R33_14 := by kernel_rfl
theorem q33_14 : ACalls Tryz.prog (gmap gs) 33 A33_14 (fun v => v = R33_14) := acalls_eq base l33 fun k hk => (m33_14 k).trans hk
def A33_15 : List AV := [a0, x 0, a42]
def R33_15 : AV := .tup [a10, x 0]
theorem m33_15 (k : AV → Bool) : runF c33 200000 33 A33_15 k false = k R33_15 := by kernel_rfl
theorem q33_15 : ACalls Tryz.prog (gmap gs) 33 A33_15 (fun v => v = R33_15) := acalls_eq base l33 fun k hk => (m33_15 k).trans hk
def A33_16 : List AV := [a0, x 0, a43]
def R33_16 : AV := .tup [a13, x 0]
theorem m33_16 (k : AV → Bool) : runF c33 200000 33 A33_16 k false = k R33_16 := by kernel_rfl
theorem q33_16 : ACalls Tryz.prog (gmap gs) 33 A33_16 (fun v => v = R33_16) := acalls_eq base l33 fun k hk => (m33_16 k).trans hk
def A33_17 : List AV := [a0, x 0, a44]
def R33_17 : AV := .tup [a26, x 0]
theorem m33_17 (k : AV → Bool) : runF c33 200000 33 A33_17 k false = k R33_17 := by kernel_rfl
theorem q33_17 : ACalls Tryz.prog (gmap gs) 33 A33_17 (fun v => v = R33_17) := acalls_eq base l33 fun k hk => (m33_17 k).trans hk
def A33_18 : List AV := [a0, x 0, a46]
def R33_18 : AV := .tup [a48, x 0]
theorem m33_18 (k : AV → Bool) : runF c33 200000 33 A33_18 k false = k R33_18 := by kernel_rfl
theorem q33_18 : ACalls Tryz.prog (gmap gs) 33 A33_18 (fun v => v = R33_18) := acalls_eq base l33 fun k hk => (m33_18 k).trans hk
def A33_19 : List AV := [a0, x 0, a53]
def R33_19 : AV := .tup [a52, x 0]
theorem m33_19 (k : AV → Bool) : runF c33 200000 33 A33_19 k false = k R33_19 := by kernel_rfl
theorem q33_19 : ACalls Tryz.prog (gmap gs) 33 A33_19 (fun v => v = R33_19) := acalls_eq base l33 fun k hk => (m33_19 k).trans hk
def A33_20 : List AV := [a0, x 0, a54]
def R33_20 : AV := .tup [a10, x 0]
theorem m33_20 (k : AV → Bool) : runF c33 200000 33 A33_20 k false = k R33_20 := by kernel_rfl
theorem q33_20 : ACalls Tryz.prog (gmap gs) 33 A33_20 (fun v => v = R33_20) := acalls_eq base l33 fun k hk => (m33_20 k).trans hk
def A33_21 : List AV := [a0, x 0, a55]
def R33_21 : AV := .tup [a13, x 0]
theorem m33_21 (k : AV → Bool) : runF c33 200000 33 A33_21 k false = k R33_21 := by kernel_rfl
theorem q33_21 : ACalls Tryz.prog (gmap gs) 33 A33_21 (fun v => v = R33_21) := acalls_eq base l33 fun k hk => (m33_21 k).trans hk
def A33_22 : List AV := [a0, x 0, a56]
def R33_22 : AV := .tup [a26, x 0]
theorem m33_22 (k : AV → Bool) : runF c33 200000 33 A33_22 k false = k R33_22 := by kernel_rfl
theorem q33_22 : ACalls Tryz.prog (gmap gs) 33 A33_22 (fun v => v = R33_22) := acalls_eq base l33 fun k hk => (m33_22 k).trans hk
def A33_23 : List AV := [a0, x 0, a58]
def R33_23 : AV := .tup [a48, x 0]
theorem m33_23 (k : AV → Bool) : runF c33 200000 33 A33_23 k false = k R33_23 := by kernel_rfl
theorem q33_23 : ACalls Tryz.prog (gmap gs) 33 A33_23 (fun v => v = R33_23) := acalls_eq base l33 fun k hk => (m33_23 k).trans hk
def A33_24 : List AV := [a0, x 0, a64]
def R33_24 : AV := .tup [a59, x 0]
theorem m33_24 (k : AV → Bool) : runF c33 200000 33 A33_24 k false = k R33_24 := by kernel_rfl
theorem q33_24 : ACalls Tryz.prog (gmap gs) 33 A33_24 (fun v => v = R33_24) := acalls_eq base l33 fun k hk => (m33_24 k).trans hk
def A33_25 : List AV := [a0, x 0, a65]
def R33_25 : AV := .tup [a63, x 0]
theorem m33_25 (k : AV → Bool) : runF c33 200000 33 A33_25 k false = k R33_25 := by kernel_rfl
theorem q33_25 : ACalls Tryz.prog (gmap gs) 33 A33_25 (fun v => v = R33_25) := acalls_eq base l33 fun k hk => (m33_25 k).trans hk
def A33_26 : List AV := [a0, x 0, a66]
def R33_26 : AV := .tup [a10, x 0]
theorem m33_26 (k : AV → Bool) : runF c33 200000 33 A33_26 k false = k R33_26 := by kernel_rfl
theorem q33_26 : ACalls Tryz.prog (gmap gs) 33 A33_26 (fun v => v = R33_26) := acalls_eq base l33 fun k hk => (m33_26 k).trans hk
def A33_27 : List AV := [a0, x 0, a67]
def R33_27 : AV := .tup [a13, x 0]
theorem m33_27 (k : AV → Bool) : runF c33 200000 33 A33_27 k false = k R33_27 := by kernel_rfl
theorem q33_27 : ACalls Tryz.prog (gmap gs) 33 A33_27 (fun v => v = R33_27) := acalls_eq base l33 fun k hk => (m33_27 k).trans hk
def A33_28 : List AV := [a0, x 0, a68]
def R33_28 : AV := .tup [a26, x 0]
theorem m33_28 (k : AV → Bool) : runF c33 200000 33 A33_28 k false = k R33_28 := by kernel_rfl
theorem q33_28 : ACalls Tryz.prog (gmap gs) 33 A33_28 (fun v => v = R33_28) := acalls_eq base l33 fun k hk => (m33_28 k).trans hk
def A33_29 : List AV := [a0, x 0, a70]
def R33_29 : AV := .tup [a10, x 0]
theorem m33_29 (k : AV → Bool) : runF c33 200000 33 A33_29 k false = k R33_29 := by kernel_rfl
theorem q33_29 : ACalls Tryz.prog (gmap gs) 33 A33_29 (fun v => v = R33_29) := acalls_eq base l33 fun k hk => (m33_29 k).trans hk
def A33_30 : List AV := [a0, x 0, a76]
def R33_30 : AV := .tup [a72, x 0]
theorem m33_30 (k : AV → Bool) : runF c33 200000 33 A33_30 k false = k R33_30 := by kernel_rfl
theorem q33_30 : ACalls Tryz.prog (gmap gs) 33 A33_30 (fun v => v = R33_30) := acalls_eq base l33 fun k hk => (m33_30 k).trans hk
def A33_31 : List AV := [a0, x 0, a77]
def R33_31 : AV := .tup [a75, x 0]
theorem m33_31 (k : AV → Bool) : runF c33 200000 33 A33_31 k false = k R33_31 := by kernel_rfl
theorem q33_31 : ACalls Tryz.prog (gmap gs) 33 A33_31 (fun v => v = R33_31) := acalls_eq base l33 fun k hk => (m33_31 k).trans hk
def A33_32 : List AV := [a0, x 0, a78]
def R33_32 : AV := .tup [a10, x 0]
theorem m33_32 (k : AV → Bool) : runF c33 200000 33 A33_32 k false = k R33_32 := by kernel_rfl
theorem q33_32 : ACalls Tryz.prog (gmap gs) 33 A33_32 (fun v => v = R33_32) := acalls_eq base l33 fun k hk => (m33_32 k).trans hk
def A33_33 : List AV := [a0, x 0, a79]
def R33_33 : AV := .tup [a13, x 0]
theorem m33_33 (k : AV → Bool) : runF c33 200000 33 A33_33 k false = k R33_33 := by kernel_rfl
theorem q33_33 : ACalls Tryz.prog (gmap gs) 33 A33_33 (fun v => v = R33_33) := acalls_eq base l33 fun k hk => (m33_33 k).trans hk
def A33_34 : List AV := [a0, x 0, a80]
def R33_34 : AV := .tup [a26, x 0]
theorem m33_34 (k : AV → Bool) : runF c33 200000 33 A33_34 k false = k R33_34 := by kernel_rfl
theorem q33_34 : ACalls Tryz.prog (gmap gs) 33 A33_34 (fun v => v = R33_34) := acalls_eq base l33 fun k hk => (m33_34 k).trans hk
def A33_35 : List AV := [a0, x 0, a81]
def R33_35 : AV := .tup [a84, x 0]
theorem m33_35 (k : AV → Bool) : runF c33 200000 33 A33_35 k false = k R33_35 := by kernel_rfl
theorem q33_35 : ACalls Tryz.prog (gmap gs) 33 A33_35 (fun v => v = R33_35) := acalls_eq base l33 fun k hk => (m33_35 k).trans hk
def A33_36 : List AV := [a0, x 0, a85]
def R33_36 : AV := .tup [a10, x 0]
theorem m33_36 (k : AV → Bool) : runF c33 200000 33 A33_36 k false = k R33_36 := by kernel_rfl
theorem q33_36 : ACalls Tryz.prog (gmap gs) 33 A33_36 (fun v => v = R33_36) := acalls_eq base l33 fun k hk => (m33_36 k).trans hk
def A33_37 : List AV := [a0, x 0, a86]
def R33_37 : AV := .tup [a13, x 0]
theorem m33_37 (k : AV → Bool) : runF c33 200000 33 A33_37 k false = k R33_37 := by kernel_rfl
theorem q33_37 : ACalls Tryz.prog (gmap gs) 33 A33_37 (fun v => v = R33_37) := acalls_eq base l33 fun k hk => (m33_37 k).trans hk
def A33_38 : List AV := [a0, x 0, a87]
def R33_38 : AV := .tup [a88, x 0]
theorem m33_38 (k : AV → Bool) : runF c33 200000 33 A33_38 k false = k R33_38 := by kernel_rfl
theorem q33_38 : ACalls Tryz.prog (gmap gs) 33 A33_38 (fun v => v = R33_38) := acalls_eq base l33 fun k hk => (m33_38 k).trans hk
def A33_39 : List AV := [a0, x 0, a89]
def R33_39 : AV := .tup [a92, x 0]
theorem m33_39 (k : AV → Bool) : runF c33 200000 33 A33_39 k false = k R33_39 := by kernel_rfl
theorem q33_39 : ACalls Tryz.prog (gmap gs) 33 A33_39 (fun v => v = R33_39) := acalls_eq base l33 fun k hk => (m33_39 k).trans hk
def A33_40 : List AV := [a0, x 0, a93]
def R33_40 : AV := .tup [a10, x 0]
theorem m33_40 (k : AV → Bool) : runF c33 200000 33 A33_40 k false = k R33_40 := by kernel_rfl
theorem q33_40 : ACalls Tryz.prog (gmap gs) 33 A33_40 (fun v => v = R33_40) := acalls_eq base l33 fun k hk => (m33_40 k).trans hk
def A33_41 : List AV := [a0, x 0, a94]
def R33_41 : AV := .tup [a13, x 0]
theorem m33_41 (k : AV → Bool) : runF c33 200000 33 A33_41 k false = k R33_41 := by kernel_rfl
theorem q33_41 : ACalls Tryz.prog (gmap gs) 33 A33_41 (fun v => v = R33_41) := acalls_eq base l33 fun k hk => (m33_41 k).trans hk
def A33_42 : List AV := [a0, x 0, a95]
def R33_42 : AV := .tup [a97, x 0]
theorem m33_42 (k : AV → Bool) : runF c33 200000 33 A33_42 k false = k R33_42 := by kernel_rfl
theorem q33_42 : ACalls Tryz.prog (gmap gs) 33 A33_42 (fun v => v = R33_42) := acalls_eq base l33 fun k hk => (m33_42 k).trans hk
def A33_43 : List AV := [a0, x 0, a98]
def R33_43 : AV := .tup [a100, x 0]
theorem m33_43 (k : AV → Bool) : runF c33 200000 33 A33_43 k false = k R33_43 := by kernel_rfl
theorem q33_43 : ACalls Tryz.prog (gmap gs) 33 A33_43 (fun v => v = R33_43) := acalls_eq base l33 fun k hk => (m33_43 k).trans hk
def A33_44 : List AV := [a0, x 0, a101]
def R33_44 : AV := .tup [a10, x 0]
theorem m33_44 (k : AV → Bool) : runF c33 200000 33 A33_44 k false = k R33_44 := by kernel_rfl
theorem q33_44 : ACalls Tryz.prog (gmap gs) 33 A33_44 (fun v => v = R33_44) := acalls_eq base l33 fun k hk => (m33_44 k).trans hk
def A33_45 : List AV := [a0, x 0, a102]
def R33_45 : AV := .tup [a13, x 0]
theorem m33_45 (k : AV → Bool) : runF c33 200000 33 A33_45 k false = k R33_45 := by kernel_rfl
theorem q33_45 : ACalls Tryz.prog (gmap gs) 33 A33_45 (fun v => v = R33_45) := acalls_eq base l33 fun k hk => (m33_45 k).trans hk
def A33_46 : List AV := [a0, x 0, a103]
def R33_46 : AV := .tup [a104, x 0]
theorem m33_46 (k : AV → Bool) : runF c33 200000 33 A33_46 k false = k R33_46 := by kernel_rfl
theorem q33_46 : ACalls Tryz.prog (gmap gs) 33 A33_46 (fun v => v = R33_46) := acalls_eq base l33 fun k hk => (m33_46 k).trans hk
def A33_47 : List AV := [a0, x 0, a105]
def R33_47 : AV := .tup [a108, x 0]
theorem m33_47 (k : AV → Bool) : runF c33 200000 33 A33_47 k false = k R33_47 := by kernel_rfl
theorem q33_47 : ACalls Tryz.prog (gmap gs) 33 A33_47 (fun v => v = R33_47) := acalls_eq base l33 fun k hk => (m33_47 k).trans hk
def A33_48 : List AV := [a0, x 0, a109]
def R33_48 : AV := .tup [a10, x 0]
theorem m33_48 (k : AV → Bool) : runF c33 200000 33 A33_48 k false = k R33_48 := by kernel_rfl
theorem q33_48 : ACalls Tryz.prog (gmap gs) 33 A33_48 (fun v => v = R33_48) := acalls_eq base l33 fun k hk => (m33_48 k).trans hk
def A33_49 : List AV := [a0, x 0, a110]
def R33_49 : AV := .tup [a13, x 0]
theorem m33_49 (k : AV → Bool) : runF c33 200000 33 A33_49 k false = k R33_49 := by kernel_rfl
theorem q33_49 : ACalls Tryz.prog (gmap gs) 33 A33_49 (fun v => v = R33_49) := acalls_eq base l33 fun k hk => (m33_49 k).trans hk
def A33_50 : List AV := [a0, x 0, a111]
def R33_50 : AV := .tup [a113, x 0]
theorem m33_50 (k : AV → Bool) : runF c33 200000 33 A33_50 k false = k R33_50 := by kernel_rfl
theorem q33_50 : ACalls Tryz.prog (gmap gs) 33 A33_50 (fun v => v = R33_50) := acalls_eq base l33 fun k hk => (m33_50 k).trans hk
def A33_51 : List AV := [a0, x 0, a114]
def R33_51 : AV := .tup [a117, x 0]
theorem m33_51 (k : AV → Bool) : runF c33 200000 33 A33_51 k false = k R33_51 := by kernel_rfl
theorem q33_51 : ACalls Tryz.prog (gmap gs) 33 A33_51 (fun v => v = R33_51) := acalls_eq base l33 fun k hk => (m33_51 k).trans hk
def A33_52 : List AV := [a0, x 0, a118]
def R33_52 : AV := .tup [a10, x 0]
theorem m33_52 (k : AV → Bool) : runF c33 200000 33 A33_52 k false = k R33_52 := by kernel_rfl
theorem q33_52 : ACalls Tryz.prog (gmap gs) 33 A33_52 (fun v => v = R33_52) := acalls_eq base l33 fun k hk => (m33_52 k).trans hk
def A33_53 : List AV := [a0, x 0, a119]
def R33_53 : AV := .tup [a13, x 0]
theorem m33_53 (k : AV → Bool) : runF c33 200000 33 A33_53 k false = k R33_53 := by kernel_rfl
theorem q33_53 : ACalls Tryz.prog (gmap gs) 33 A33_53 (fun v => v = R33_53) := acalls_eq base l33 fun k hk => (m33_53 k).trans hk
def A33_54 : List AV := [a0, x 0, a120]
def R33_54 : AV := .tup [a121, x 0]
theorem m33_54 (k : AV → Bool) : runF c33 200000 33 A33_54 k false = k R33_54 := by kernel_rfl
theorem q33_54 : ACalls Tryz.prog (gmap gs) 33 A33_54 (fun v => v = R33_54) := acalls_eq base l33 fun k hk => (m33_54 k).trans hk
def A33_55 : List AV := [a0, x 0, a122]
def R33_55 : AV := .tup [a123, x 0]
theorem m33_55 (k : AV → Bool) : runF c33 200000 33 A33_55 k false = k R33_55 := by kernel_rfl
theorem q33_55 : ACalls Tryz.prog (gmap gs) 33 A33_55 (fun v => v = R33_55) := acalls_eq base l33 fun k hk => (m33_55 k).trans hk
def A33_56 : List AV := [a0, x 0, a124]
def R33_56 : AV := .tup [a10, x 0]
theorem m33_56 (k : AV → Bool) : runF c33 200000 33 A33_56 k false = k R33_56 := by kernel_rfl
theorem q33_56 : ACalls Tryz.prog (gmap gs) 33 A33_56 (fun v => v = R33_56) := acalls_eq base l33 fun k hk => (m33_56 k).trans hk
def A33_57 : List AV := [a0, x 0, a125]
def R33_57 : AV := .tup [a13, x 0]
theorem m33_57 (k : AV → Bool) : runF c33 200000 33 A33_57 k false = k R33_57 := by kernel_rfl
theorem q33_57 : ACalls Tryz.prog (gmap gs) 33 A33_57 (fun v => v = R33_57) := acalls_eq base l33 fun k hk => (m33_57 k).trans hk
def A33_58 : List AV := [a0, x 0, a126]
def R33_58 : AV := .tup [a121, x 0]
theorem m33_58 (k : AV → Bool) : runF c33 200000 33 A33_58 k false = k R33_58 := by kernel_rfl
theorem q33_58 : ACalls Tryz.prog (gmap gs) 33 A33_58 (fun v => v = R33_58) := acalls_eq base l33 fun k hk => (m33_58 k).trans hk
def A33_59 : List AV := [a0, x 0, a127]
def R33_59 : AV := .tup [a17, x 0]
theorem m33_59 (k : AV → Bool) : runF c33 200000 33 A33_59 k false = k R33_59 := by kernel_rfl
theorem q33_59 : ACalls Tryz.prog (gmap gs) 33 A33_59 (fun v => v = R33_59) := acalls_eq base l33 fun k hk => (m33_59 k).trans hk
def A33_60 : List AV := [a0, x 0, a129]
def R33_60 : AV := .tup [a128, x 0]
theorem m33_60 (k : AV → Bool) : runF c33 200000 33 A33_60 k false = k R33_60 := by kernel_rfl
theorem q33_60 : ACalls Tryz.prog (gmap gs) 33 A33_60 (fun v => v = R33_60) := acalls_eq base l33 fun k hk => (m33_60 k).trans hk
def A33_61 : List AV := [a0, x 0, a130]
def R33_61 : AV := .tup [a10, x 0]
theorem m33_61 (k : AV → Bool) : runF c33 200000 33 A33_61 k false = k R33_61 := by kernel_rfl
theorem q33_61 : ACalls Tryz.prog (gmap gs) 33 A33_61 (fun v => v = R33_61) := acalls_eq base l33 fun k hk => (m33_61 k).trans hk
def A33_62 : List AV := [a0, x 0, a131]
def R33_62 : AV := .tup [a13, x 0]
theorem m33_62 (k : AV → Bool) : runF c33 200000 33 A33_62 k false = k R33_62 := by kernel_rfl
theorem q33_62 : ACalls Tryz.prog (gmap gs) 33 A33_62 (fun v => v = R33_62) := acalls_eq base l33 fun k hk => (m33_62 k).trans hk
def A33_63 : List AV := [a0, x 0, a132]
def R33_63 : AV := .tup [a121, x 0]
theorem m33_63 (k : AV → Bool) : runF c33 200000 33 A33_63 k false = k R33_63 := by kernel_rfl
theorem q33_63 : ACalls Tryz.prog (gmap gs) 33 A33_63 (fun v => v = R33_63) := acalls_eq base l33 fun k hk => (m33_63 k).trans hk
def A33_64 : List AV := [a0, x 0, a133]
def R33_64 : AV := .tup [a134, x 0]
theorem m33_64 (k : AV → Bool) : runF c33 200000 33 A33_64 k false = k R33_64 := by kernel_rfl
theorem q33_64 : ACalls Tryz.prog (gmap gs) 33 A33_64 (fun v => v = R33_64) := acalls_eq base l33 fun k hk => (m33_64 k).trans hk
def A33_65 : List AV := [a0, x 0, a136]
def R33_65 : AV := .tup [a135, x 0]
theorem m33_65 (k : AV → Bool) : runF c33 200000 33 A33_65 k false = k R33_65 := by kernel_rfl
theorem q33_65 : ACalls Tryz.prog (gmap gs) 33 A33_65 (fun v => v = R33_65) := acalls_eq base l33 fun k hk => (m33_65 k).trans hk
def A33_66 : List AV := [a0, x 0, a137]
def R33_66 : AV := .tup [a10, x 0]
theorem m33_66 (k : AV → Bool) : runF c33 200000 33 A33_66 k false = k R33_66 := by kernel_rfl
theorem q33_66 : ACalls Tryz.prog (gmap gs) 33 A33_66 (fun v => v = R33_66) := acalls_eq base l33 fun k hk => (m33_66 k).trans hk
def A33_67 : List AV := [a0, x 0, a138]
def R33_67 : AV := .tup [a13, x 0]
theorem m33_67 (k : AV → Bool) : runF c33 200000 33 A33_67 k false = k R33_67 := by kernel_rfl
theorem q33_67 : ACalls Tryz.prog (gmap gs) 33 A33_67 (fun v => v = R33_67) := acalls_eq base l33 fun k hk => (m33_67 k).trans hk
def A33_68 : List AV := [a0, x 0, a139]
def R33_68 : AV := .tup [a121, x 0]
theorem m33_68 (k : AV → Bool) : runF c33 200000 33 A33_68 k false = k R33_68 := by kernel_rfl
theorem q33_68 : ACalls Tryz.prog (gmap gs) 33 A33_68 (fun v => v = R33_68) := acalls_eq base l33 fun k hk => (m33_68 k).trans hk
def A33_69 : List AV := [a0, x 0, a140]
def R33_69 : AV := .tup [a134, x 0]
theorem m33_69 (k : AV → Bool) : runF c33 200000 33 A33_69 k false = k R33_69 := by kernel_rfl
theorem q33_69 : ACalls Tryz.prog (gmap gs) 33 A33_69 (fun v => v = R33_69) := acalls_eq base l33 fun k hk => (m33_69 k).trans hk
def A33_70 : List AV := [a0, x 0, a143]
def R33_70 : AV := .tup [a141, x 0]
theorem m33_70 (k : AV → Bool) : runF c33 200000 33 A33_70 k false = k R33_70 := by kernel_rfl
theorem q33_70 : ACalls Tryz.prog (gmap gs) 33 A33_70 (fun v => v = R33_70) := acalls_eq base l33 fun k hk => (m33_70 k).trans hk
def A33_71 : List AV := [a0, x 0, a144]
def R33_71 : AV := .tup [a142, x 0]
theorem m33_71 (k : AV → Bool) : runF c33 200000 33 A33_71 k false = k R33_71 := by kernel_rfl
theorem q33_71 : ACalls Tryz.prog (gmap gs) 33 A33_71 (fun v => v = R33_71) := acalls_eq base l33 fun k hk => (m33_71 k).trans hk
def A33_72 : List AV := [a0, x 0, a145]
def R33_72 : AV := .tup [a10, x 0]
theorem m33_72 (k : AV → Bool) : runF c33 200000 33 A33_72 k false = k R33_72 := by kernel_rfl
theorem q33_72 : ACalls Tryz.prog (gmap gs) 33 A33_72 (fun v => v = R33_72) := acalls_eq base l33 fun k hk => (m33_72 k).trans hk
def A33_73 : List AV := [a0, x 0, a146]
def R33_73 : AV := .tup [a13, x 0]
theorem m33_73 (k : AV → Bool) : runF c33 200000 33 A33_73 k false = k R33_73 := by kernel_rfl
theorem q33_73 : ACalls Tryz.prog (gmap gs) 33 A33_73 (fun v => v = R33_73) := acalls_eq base l33 fun k hk => (m33_73 k).trans hk
def A33_74 : List AV := [a0, x 0, a147]
def R33_74 : AV := .tup [a121, x 0]
theorem m33_74 (k : AV → Bool) : runF c33 200000 33 A33_74 k false = k R33_74 := by kernel_rfl
theorem q33_74 : ACalls Tryz.prog (gmap gs) 33 A33_74 (fun v => v = R33_74) := acalls_eq base l33 fun k hk => (m33_74 k).trans hk
def A33_75 : List AV := [a0, x 0, a148]
def R33_75 : AV := .tup [a149, x 0]
theorem m33_75 (k : AV → Bool) : runF c33 200000 33 A33_75 k false = k R33_75 := by kernel_rfl
theorem q33_75 : ACalls Tryz.prog (gmap gs) 33 A33_75 (fun v => v = R33_75) := acalls_eq base l33 fun k hk => (m33_75 k).trans hk
def A33_76 : List AV := [a0, x 0, a150]
def R33_76 : AV := .tup [a10, x 0]
theorem m33_76 (k : AV → Bool) : runF c33 200000 33 A33_76 k false = k R33_76 := by kernel_rfl
theorem q33_76 : ACalls Tryz.prog (gmap gs) 33 A33_76 (fun v => v = R33_76) := acalls_eq base l33 fun k hk => (m33_76 k).trans hk
def A33_77 : List AV := [a0, x 0, a151]
def R33_77 : AV := .tup [a13, x 0]
theorem m33_77 (k : AV → Bool) : runF c33 200000 33 A33_77 k false = k R33_77 := by kernel_rfl
theorem q33_77 : ACalls Tryz.prog (gmap gs) 33 A33_77 (fun v => v = R33_77) := acalls_eq base l33 fun k hk => (m33_77 k).trans hk
def A33_78 : List AV := [a0, x 0, a152]
def R33_78 : AV := .tup [a121, x 0]
theorem m33_78 (k : AV → Bool) : runF c33 200000 33 A33_78 k false = k R33_78 := by kernel_rfl
theorem q33_78 : ACalls Tryz.prog (gmap gs) 33 A33_78 (fun v => v = R33_78) := acalls_eq base l33 fun k hk => (m33_78 k).trans hk
def A33_79 : List AV := [a0, x 0, a153]
def R33_79 : AV := .tup [a156, x 0]
theorem m33_79 (k : AV → Bool) : runF c33 200000 33 A33_79 k false = k R33_79 := by kernel_rfl
theorem q33_79 : ACalls Tryz.prog (gmap gs) 33 A33_79 (fun v => v = R33_79) := acalls_eq base l33 fun k hk => (m33_79 k).trans hk
def A33_80 : List AV := [a0, x 0, a157]
def R33_80 : AV := .tup [a10, x 0]
theorem m33_80 (k : AV → Bool) : runF c33 200000 33 A33_80 k false = k R33_80 := by kernel_rfl
theorem q33_80 : ACalls Tryz.prog (gmap gs) 33 A33_80 (fun v => v = R33_80) := acalls_eq base l33 fun k hk => (m33_80 k).trans hk
def A33_81 : List AV := [a0, x 0, a158]
def R33_81 : AV := .tup [a13, x 0]
theorem m33_81 (k : AV → Bool) : runF c33 200000 33 A33_81 k false = k R33_81 := by kernel_rfl
theorem q33_81 : ACalls Tryz.prog (gmap gs) 33 A33_81 (fun v => v = R33_81) := acalls_eq base l33 fun k hk => (m33_81 k).trans hk
def A33_82 : List AV := [a0, x 0, a164]
def R33_82 : AV := .tup [a162, x 0]
theorem m33_82 (k : AV → Bool) : runF c33 200000 33 A33_82 k false = k R33_82 := by kernel_rfl
theorem q33_82 : ACalls Tryz.prog (gmap gs) 33 A33_82 (fun v => v = R33_82) := acalls_eq base l33 fun k hk => (m33_82 k).trans hk
def A33_83 : List AV := [a0, x 0, a165]
def R33_83 : AV := .tup [a10, x 0]
theorem m33_83 (k : AV → Bool) : runF c33 200000 33 A33_83 k false = k R33_83 := by kernel_rfl
theorem q33_83 : ACalls Tryz.prog (gmap gs) 33 A33_83 (fun v => v = R33_83) := acalls_eq base l33 fun k hk => (m33_83 k).trans hk
def A33_84 : List AV := [a0, x 0, a166]
def R33_84 : AV := .tup [a13, x 0]
theorem m33_84 (k : AV → Bool) : runF c33 200000 33 A33_84 k false = k R33_84 := by kernel_rfl
theorem q33_84 : ACalls Tryz.prog (gmap gs) 33 A33_84 (fun v => v = R33_84) := acalls_eq base l33 fun k hk => (m33_84 k).trans hk
def A33_85 : List AV := [a0, x 0, a167]
def R33_85 : AV := .tup [a10, x 0]
theorem m33_85 (k : AV → Bool) : runF c33 200000 33 A33_85 k false = k R33_85 := by kernel_rfl
theorem q33_85 : ACalls Tryz.prog (gmap gs) 33 A33_85 (fun v => v = R33_85) := acalls_eq base l33 fun k hk => (m33_85 k).trans hk
def A33_86 : List AV := [a0, x 0, a174]
def R33_86 : AV := .tup [a175, x 0]
theorem m33_86 (k : AV → Bool) : runF c33 200000 33 A33_86 k false = k R33_86 := by kernel_rfl
theorem q33_86 : ACalls Tryz.prog (gmap gs) 33 A33_86 (fun v => v = R33_86) := acalls_eq base l33 fun k hk => (m33_86 k).trans hk
def A33_87 : List AV := [a0, x 0, a177]
def R33_87 : AV := .tup [a178, x 0]
theorem m33_87 (k : AV → Bool) : runF c33 200000 33 A33_87 k false = k R33_87 := by kernel_rfl
theorem q33_87 : ACalls Tryz.prog (gmap gs) 33 A33_87 (fun v => v = R33_87) := acalls_eq base l33 fun k hk => (m33_87 k).trans hk
def A33_88 : List AV := [a0, x 0, a180]
def R33_88 : AV := .tup [a181, x 0]
theorem m33_88 (k : AV → Bool) : runF c33 200000 33 A33_88 k false = k R33_88 := by kernel_rfl
theorem q33_88 : ACalls Tryz.prog (gmap gs) 33 A33_88 (fun v => v = R33_88) := acalls_eq base l33 fun k hk => (m33_88 k).trans hk
def A33_89 : List AV := [a0, x 0, a183]
def R33_89 : AV := .tup [a134, x 0]
theorem m33_89 (k : AV → Bool) : runF c33 200000 33 A33_89 k false = k R33_89 := by kernel_rfl
theorem q33_89 : ACalls Tryz.prog (gmap gs) 33 A33_89 (fun v => v = R33_89) := acalls_eq base l33 fun k hk => (m33_89 k).trans hk
def A33_90 : List AV := [a0, x 0, a186]
def R33_90 : AV := .tup [a187, x 0]
theorem m33_90 (k : AV → Bool) : runF c33 200000 33 A33_90 k false = k R33_90 := by kernel_rfl
theorem q33_90 : ACalls Tryz.prog (gmap gs) 33 A33_90 (fun v => v = R33_90) := acalls_eq base l33 fun k hk => (m33_90 k).trans hk
def M33 : List (Nat × List AV × AV) := [(1010081713151971690, A33_0, R33_0), (1113540975636626519, A33_1, R33_1), (64078733514434465, A33_2, R33_2), (559017974360906474, A33_3, R33_3), (662729886955949978, A33_4, R33_4), (693433549282330700, A33_5, R33_5), (546621551860447617, A33_6, R33_6), (295094175064206667, A33_7, R33_7), (1109666004344164408, A33_8, R33_8), (347251720533392633, A33_9, R33_9), (53627725689626467, A33_10, R33_10), (955021853500232400, A33_11, R33_11), (1101833850922115483, A33_12, R33_12), (1039274986415616466, A33_13, R33_13), (544052386245183491, A33_14, R33_14), (250428391401417325, A33_15, R33_15), (1151822519212023258, A33_16, R33_16), (145713012027059458, A33_17, R33_17), (145193622092725675, A33_18, R33_18), (787228219685041733, A33_19, R33_19), (493604224841275567, A33_20, R33_20), (242076848045034617, A33_21, R33_21), (388888845466917700, A33_22, R33_22), (954526570936997919, A33_23, R33_23), (702999194140756969, A33_24, R33_24), (451471817344516019, A33_25, R33_25), (157847822500749853, A33_26, R33_26), (1059241950311355786, A33_27, R33_27), (53132443126391986, A33_28, R33_28), (1133813177774429171, A33_29, R33_29), (882285800978188221, A33_30, R33_30), (630758424181947271, A33_31, R33_31), (337134429338181105, A33_32, R33_32), (483411593703454100, A33_33, R33_33), (630223591125337183, A33_34, R33_34), (1092561883495032135, A33_35, R33_35), (1050465265447506919, A33_36, R33_36), (798937888651265969, A33_37, R33_37), (598294688689386897, A33_38, R33_38), (849822065485627847, A33_39, R33_39), (807725447438102631, A33_40, R33_40), (556198070641861681, A33_41, R33_41), (1005421682220990411, A33_42, R33_42), (607082308002896169, A33_43, R33_43), (564985689955370953, A33_44, R33_44), (313458313159130003, A33_45, R33_45), (1014209241007856864, A33_46, R33_46), (364342489993491881, A33_47, R33_47), (322245871945966665, A33_48, R33_48), (70718495149725715, A33_49, R33_49), (519942046204028877, A33_50, R33_50), (121602671985934635, A33_51, R33_51), (79506053938409419, A33_52, R33_52), (980900181749015352, A33_53, R33_53), (884972361161494147, A33_54, R33_54), (684278736783251673, A33_55, R33_55), (390654741939485507, A33_56, R33_56), (139127365143244557, A33_57, R33_57), (285939362565127640, A33_58, R33_58), (223380498058628623, A33_59, R33_59), (881079402495042531, A33_60, R33_60), (587455407651276365, A33_61, R33_61), (335928030855035415, A33_62, R33_62), (482740028276918498, A33_63, R33_63), (482220638342584715, A33_64, R33_64), (1124255235934900773, A33_65, R33_65), (830631241091134607, A33_66, R33_66), (579103864294893657, A33_67, R33_67), (725915861716776740, A33_68, R33_68), (138632082580010076, A33_69, R33_69), (1040026210390616009, A33_70, R33_70), (788498833594375059, A33_71, R33_71), (494874838750608893, A33_72, R33_72), (243347461954367943, A33_73, R33_73), (390159459376251026, A33_74, R33_74), (967785440431806311, A33_75, R33_75), (674161445588040145, A33_76, R33_76), (422634068791799195, A33_77, R33_77), (569446066213682278, A33_78, R33_78), (1031784358583377230, A33_79, R33_79), (989687740535852014, A33_80, R33_80), (738160363739611064, A33_81, R33_81), (631642929565933217, A33_82, R33_82), (735102192050588046, A33_83, R33_83), (838561454535242875, A33_84, R33_84), (1144425752472982778, A33_85, R33_85), (744279677357069782, A33_86, R33_86), (714585710949700846, A33_87, R33_87), (684891744542331910, A33_88, R33_88), (655197778134962974, A33_89, R33_89), (118029552297677465, A33_90, R33_90)]
theorem s33 : SumOk Tryz.prog (gmap gs) (33, memoH M33) := memoH_sum (memoH_cons q33_0 (memoH_cons q33_1 (memoH_cons q33_2 (memoH_cons q33_3 (memoH_cons q33_4 (memoH_cons q33_5 (memoH_cons q33_6 (memoH_cons q33_7 (memoH_cons q33_8 (memoH_cons q33_9 (memoH_cons q33_10 (memoH_cons q33_11 (memoH_cons q33_12 (memoH_cons q33_13 (memoH_cons q33_14 (memoH_cons q33_15 (memoH_cons q33_16 (memoH_cons q33_17 (memoH_cons q33_18 (memoH_cons q33_19 (memoH_cons q33_20 (memoH_cons q33_21 (memoH_cons q33_22 (memoH_cons q33_23 (memoH_cons q33_24 (memoH_cons q33_25 (memoH_cons q33_26 (memoH_cons q33_27 (memoH_cons q33_28 (memoH_cons q33_29 (memoH_cons q33_30 (memoH_cons q33_31 (memoH_cons q33_32 (memoH_cons q33_33 (memoH_cons q33_34 (memoH_cons q33_35 (memoH_cons q33_36 (memoH_cons q33_37 (memoH_cons q33_38 (memoH_cons q33_39 (memoH_cons q33_40 (memoH_cons q33_41 (memoH_cons q33_42 (memoH_cons q33_43 (memoH_cons q33_44 (memoH_cons q33_45 (memoH_cons q33_46 (memoH_cons q33_47 (memoH_cons q33_48 (memoH_cons q33_49 (memoH_cons q33_50 (memoH_cons q33_51 (memoH_cons q33_52 (memoH_cons q33_53 (memoH_cons q33_54 (memoH_cons q33_55 (memoH_cons q33_56 (memoH_cons q33_57 (memoH_cons q33_58 (memoH_cons q33_59 (memoH_cons q33_60 (memoH_cons q33_61 (memoH_cons q33_62 (memoH_cons q33_63 (memoH_cons q33_64 (memoH_cons q33_65 (memoH_cons q33_66 (memoH_cons q33_67 (memoH_cons q33_68 (memoH_cons q33_69 (memoH_cons q33_70 (memoH_cons q33_71 (memoH_cons q33_72 (memoH_cons q33_73 (memoH_cons q33_74 (memoH_cons q33_75 (memoH_cons q33_76 (memoH_cons q33_77 (memoH_cons q33_78 (memoH_cons q33_79 (memoH_cons q33_80 (memoH_cons q33_81 (memoH_cons q33_82 (memoH_cons q33_83 (memoH_cons q33_84 (memoH_cons q33_85 (memoH_cons q33_86 (memoH_cons q33_87 (memoH_cons q33_88 (memoH_cons q33_89 (memoH_cons q33_90 memoH_nil)))))))))))))))))))))))))))))))))))))))))))))))))))))))))))))))))))))))))))))))))))))))))))
noncomputable abbrev c88 : Cfg := ⟨Tryz.prog, gmap gs, lookS [(14, memoH M14)], fun _ => false, fun _ => none⟩
def A88_0 : List AV := [a0, a8]
def R88_0 : AV := .tup [.bool false, x 0]
theorem m88_0 (k : AV → Bool) : runF c88 200000 88 A88_0 k false = k R88_0 := by kernel_rfl
theorem q88_0 : ACalls Tryz.prog (gmap gs) 88 A88_0 (fun v => v = R88_0) := acalls_eq base (sums_cons s14 sums_nil) fun k hk => (m88_0 k).trans hk
def M88 : List (Nat × List AV × AV) := [(758402636004931417, A88_0, R88_0)]
theorem s88 : SumOk Tryz.prog (gmap gs) (88, memoH M88) := memoH_sum (memoH_cons q88_0 memoH_nil)
noncomputable abbrev c73 : Cfg := ⟨Tryz.prog, gmap gs, lookS [(14, memoH M14), (45, memoH M45), (98, memoH M98), (101, memoH M101), (88, memoH M88)], fun _ => false, fun _ => none⟩
theorem l73 : ∀ s ∈ ([(14, memoH M14), (45, memoH M45), (98, memoH M98), (101, memoH M101), (88, memoH M88)] : List Sum), SumOk Tryz.prog (gmap gs) s := (sums_cons s14 (sums_cons s45 (sums_cons s98 (sums_cons s101 (sums_cons s88 sums_nil)))))
def A73_0 : List AV := [a0, x 0, a173, a8]
def R73_0 : AV := .tup [a176, .bool false, x 0]
theorem m73_0 (k : AV → Bool) : runF c73 200000 73 A73_0 k false = k R73_0 := by kernel_rfl
theorem q73_0 : ACalls Tryz.prog (gmap gs) 73 A73_0 (fun v => v = R73_0) := acalls_eq base l73 fun k hk => (m73_0 k).trans hk
def A73_1 : List AV := [a0, x 0, .agg [y 2, x 0, x 0, u 0, y 11, w 1, w 7, y 0, y 0, y 0, y 0, y 0, y 0, w 0, w 0, x 0, w 0, .lst [] 0, x 0], a8]
def R73_1 : AV := .tup [a179, .bool false, x 0]
theorem m73_1 (k : AV → Bool) : runF c73 200000 73 A73_1 k false = k R73_1 := by kernel_rfl
theorem q73_1 : ACalls Tryz.prog (gmap gs) 73 A73_1 (fun v => v = R73_1) := acalls_eq base l73 fun k hk => (m73_1 k).trans hk
def A73_2 : List AV := [a0, x 0, .agg [y 3, x 0, x 0, u 0, y 11, w 1, w 7, y 0, y 0, y 0, y 0, y 0, y 0, w 0, w 0, x 0, w 0, .lst [] 0, x 0], a8]
def R73_2 : AV := .tup [a182, .bool false, x 0]
theorem m73_2 (k : AV → Bool) : runF c73 200000 73 A73_2 k false = k R73_2 := by kernel_rfl
theorem q73_2 : ACalls Tryz.prog (gmap gs) 73 A73_2 (fun v => v = R73_2) := acalls_eq base l73 fun k hk => (m73_2 k).trans hk
def A73_3 : List AV := [a0, x 0, .agg [y 4, x 0, x 0, u 0, y 11, w 1, w 7, y 0, y 0, y 0, y 0, y 0, y 0, w 0, w 0, x 0, w 0, .lst [] 0, x 0], a8]
def R73_3 : AV := .tup [a185, .bool false, x 0]
theorem m73_3 (k : AV → Bool) : runF c73 200000 73 A73_3 k false = k R73_3 := by kernel_rfl
theorem q73_3 : ACalls Tryz.prog (gmap gs) 73 A73_3 (fun v => v = R73_3) := acalls_eq base l73 fun k hk => (m73_3 k).trans hk
def A73_4 : List AV := [a0, x 0, .agg [y 6, x 0, x 0, u 0, y 11, w 1, w 7, y 20, y 0, y 0, y 0, y 0, y 0, w 0, w 0, x 0, w 0, .lst [] 0, x 0], a188]
def R73_4 : AV := .tup [a185, .bool true, x 0]
theorem m73_4 (k : AV → Bool) : runF c73 200000 73 A73_4 k false = k R73_4 := by kernel_rfl
theorem q73_4 : ACalls Tryz.prog (gmap gs) 73 A73_4 (fun v => v = R73_4) := acalls_eq base l73 fun k hk => (m73_4 k).trans hk
def M73 : List (Nat × List AV × AV) := [(136195065970045658, A73_0, R73_0), (27004463113656523, A73_1, R73_1), (1070735364577822761, A73_2, R73_2), (961544761435142116, A73_3, R73_3), (61178194989880593, A73_4, R73_4)]
theorem s73 : SumOk Tryz.prog (gmap gs) (73, memoH M73) := memoH_sum (memoH_cons q73_0 (memoH_cons q73_1 (memoH_cons q73_2 (memoH_cons q73_3 (memoH_cons q73_4 memoH_nil)))))
noncomputable abbrev c120 : Cfg := ⟨Tryz.prog, gmap gs, lookS [(14, memoH M14)], fun _ => false, fun _ => none⟩
theorem l120 : ∀ s ∈ ([(14, memoH M14)] : List Sum), SumOk Tryz.prog (gmap gs) s := (sums_cons s14 sums_nil)
def A120_0 : List AV := [a0, a96, a8]
def R120_0 : AV := .tup [.agg [u 65539, x 1, u 0], .bool true, x 0]
theorem m120_0 (k : AV → Bool) : runF c120 200000 120 A120_0 k false = k R120_0 := by kernel_rfl
theorem q120_0 : ACalls Tryz.prog (gmap gs) 120 A120_0 (fun v => v = R120_0) := acalls_eq base l120 fun k hk => (m120_0 k).trans hk
def A120_1 : List AV := [a0, a112, a8]
def R120_1 : AV := .tup [.agg [u 65541, x 1, u 0], .bool true, x 0]
theorem m120_1 (k : AV → Bool) : runF c120 200000 120 A120_1 k false = k R120_1 := by kernel_rfl
theorem q120_1 : ACalls Tryz.prog (gmap gs) 120 A120_1 (fun v => v = R120_1) := acalls_eq base l120 fun k hk => (m120_1 k).trans hk
def M120 : List (Nat × List AV × AV) := [(923183113244080589, A120_0, R120_0), (923183115019087951, A120_1, R120_1)]
theorem s120 : SumOk Tryz.prog (gmap gs) (120, memoH M120) := memoH_sum (memoH_cons q120_0 (memoH_cons q120_1 memoH_nil))
noncomputable abbrev c121 : Cfg := ⟨Tryz.prog, gmap gs, lookS [], fun _ => false, fun _ => none⟩
theorem l121 : ∀ s ∈ ([] : List Sum), SumOk Tryz.prog (gmap gs) s := sums_nil
def A121_0 : List AV := [u 1, a8]
def R121_0 : AV := .tup [.agg [x 0, w 0, .nils], u 0, .bool false]
theorem m121_0 (k : AV → Bool) : runF c121 200000 121 A121_0 k false = k R121_0 := by kernel_rfl
theorem q121_0 : ACalls Tryz.prog (gmap gs) 121 A121_0 (fun v => v = R121_0) := acalls_eq base l121 fun k hk => (m121_0 k).trans hk
def A121_1 : List AV := [u 1, a71]
def R121_1 : AV := .tup [.agg [x 0, w 0, .nils], u 1, .bool true]
theorem m121_1 (k : AV → Bool) : runF c121 200000 121 A121_1 k false = k R121_1 := by kernel_rfl
theorem q121_1 : ACalls Tryz.prog (gmap gs) 121 A121_1 (fun v => v = R121_1) := acalls_eq base l121 fun k hk => (m121_1 k).trans hk
def A121_2 : List AV := [u 2, a71]
def R121_2 : AV := .tup [.agg [x 0, w 0, .nils], u 0, .bool false]
theorem m121_2 (k : AV → Bool) : runF c121 200000 121 A121_2 k false = k R121_2 := by kernel_rfl
theorem q121_2 : ACalls Tryz.prog (gmap gs) 121 A121_2 (fun v => v = R121_2) := acalls_eq base l121 fun k hk => (m121_2 k).trans hk
def M121 : List (Nat × List AV × AV) := [(7603656, A121_0, R121_0), (7633448, A121_1, R121_1), (8556969, A121_2, R121_2)]
theorem s121 : SumOk Tryz.prog (gmap gs) (121, memoH M121) := memoH_sum (memoH_cons q121_0 (memoH_cons q121_1 (memoH_cons q121_2 memoH_nil)))
noncomputable abbrev c139 : Cfg := ⟨Tryz.prog, gmap gs, lookS [], fun _ => false, fun _ => none⟩
def A139_0 : List AV := [a2, a8]
def R139_0 : AV := .bool true
theorem m139_0 (k : AV → Bool) : runF c139 200000 139 A139_0 k false = k R139_0 := by kernel_rfl
theorem q139_0 : ACalls Tryz.prog (gmap gs) 139 A139_0 (fun v => v = R139_0) := acalls_eq base sums_nil fun k hk => (m139_0 k).trans hk
def M139 : List (Nat × List AV × AV) := [(461911249411, A139_0, R139_0)]
theorem s139 : SumOk Tryz.prog (gmap gs) (139, memoH M139) := memoH_sum (memoH_cons q139_0 memoH_nil)
noncomputable abbrev c35 : Cfg := ⟨Tryz.prog, gmap gs, lookS [(14, memoH M14), (70, memoH M70), (72, memoH M72), (77, memoH M77), (129, memoH M129), (108, memoH M108), (109, memoH M109), (110, memoH M110), (132, memoH M132), (74, memoH M74), (73, memoH M73), (120, memoH M120), (121, memoH M121), (139, memoH M139)], fun _ => false, fun _ => none⟩
theorem l35 : ∀ s ∈ ([(14, memoH M14), (70, memoH M70), (72, memoH M72), (77, memoH M77), (129, memoH M129), (108, memoH M108), (109, memoH M109), (110, memoH M110), (132, memoH M132), (74, memoH M74), (73, memoH M73), (120, memoH M120), (121, memoH M121), (139, memoH M139)] : List Sum), SumOk Tryz.prog (gmap gs) s := (sums_cons s14 (sums_cons s70 (sums_cons s72 (sums_cons s77 (sums_cons s129 (sums_cons s108 (sums_cons s109 (sums_cons s110 (sums_cons s132 (sums_cons s74 (sums_cons s73 (sums_cons s120 (sums_cons s121 (sums_cons s139 sums_nil))))))))))))))
def A35_0 : List AV := [a0, x 0, a7, a8]
def R35_0 : AV := .tup [a9, .agg [x 0, w 0, .nils], .bool false, x 0]
theorem m35_0 (k : AV → Bool) : runF c35 200000 35 A35_0 k false = k R35_0 := by kernel_rfl
theorem q35_0 : ACalls Tryz.prog (gmap gs) 35 A35_0 (fun v => v = R35_0) := acalls_eq base l35 fun k hk => (m35_0 k).trans hk
def A35_1 : List AV := [a0, x 0, a9, a8]
def R35_1 : AV := .tup [a11, .agg [x 0, w 0, .nils], .bool false, x 0]
theorem m35_1 (k : AV → Bool) : runF c35 200000 35 A35_1 k false = k R35_1 := by kernel_rfl
theorem q35_1 : ACalls Tryz.prog (gmap gs) 35 A35_1 (fun v => v = R35_1) := acalls_eq base l35 fun k hk => (m35_1 k).trans hk
def A35_2 : List AV := [a0, x 0, a11, a15]
def R35_2 : AV := .tup [a16, .agg [x 0, w 0, .nils], .bool false, x 0]
theorem m35_2 (k : AV → Bool) : runF c35 200000 35 A35_2 k false = k R35_2 := by kernel_rfl
theorem q35_2 : ACalls Tryz.prog (gmap gs) 35 A35_2 (fun v => v = R35_2) := acalls_eq base l35 fun k hk => (m35_2 k).trans hk
def A35_3 : List AV := [a0, x 0, a16, a2]
def R35_3 : AV := .tup [a18, .agg [x 0, w 0, .nils], .bool false, x 0]
theorem m35_3 (k : AV → Bool) : runF c35 200000 35 A35_3 k false = k R35_3 := by kernel_rfl
theorem q35_3 : ACalls Tryz.prog (gmap gs) 35 A35_3 (fun v => v = R35_3) := acalls_eq base l35 fun k hk => (m35_3 k).trans hk
def A35_4 : List AV := [a0, x 0, a18, a8]
def R35_4 : AV := .tup [a19, .agg [x 0, w 0, .nils], .bool false, x 0]
theorem m35_4 (k : AV → Bool) : runF c35 200000 35 A35_4 k false = k R35_4 := by kernel_rfl
theorem q35_4 : ACalls Tryz.prog (gmap gs) 35 A35_4 (fun v => v = R35_4) := acalls_eq base l35 fun k hk => (m35_4 k).trans hk
def A35_5 : List AV := [a0, x 0, a19, a15]
def R35_5 : AV := .tup [a23, .agg [x 0, w 0, .nils], .bool false, x 0]
theorem m35_5 (k : AV → Bool) : runF c35 200000 35 A35_5 k false = k R35_5 := by kernel_rfl
theorem q35_5 : ACalls Tryz.prog (gmap gs) 35 A35_5 (fun v => v = R35_5) := acalls_eq base l35 fun k hk => (m35_5 k).trans hk
def A35_6 : List AV := [a0, x 0, a23, a8]
def R35_6 : AV := .tup [a24, .agg [x 0, w 0, .nils], .bool false, x 0]
theorem m35_6 (k : AV → Bool) : runF c35 200000 35 A35_6 k false = k R35_6 := by kernel_rfl
theorem q35_6 : ACalls Tryz.prog (gmap gs) 35 A35_6 (fun v => v = R35_6) := acalls_eq base l35 fun k hk => (m35_6 k).trans hk
def A35_7 : List AV := [a0, x 0, a24, a21]
def R35_7 : AV := .tup [a25, .agg [x 0, w 0, .nils], .bool false, x 0]
theorem m35_7 (k : AV → Bool) : runF c35 200000 35 A35_7 k false = k R35_7 := by kernel_rfl
theorem q35_7 : ACalls Tryz.prog (gmap gs) 35 A35_7 (fun v => v = R35_7) := acalls_eq base l35 fun k hk => (m35_7 k).trans hk
def A35_8 : List AV := [a0, x 0, a25, a8]
def R35_8 : AV := .tup [a28, .agg [x 0, w 0, .nils], .bool false, x 0]
theorem m35_8 (k : AV → Bool) : runF c35 200000 35 A35_8 k false = k R35_8 := by kernel_rfl
theorem q35_8 : ACalls Tryz.prog (gmap gs) 35 A35_8 (fun v => v = R35_8) := acalls_eq base l35 fun k hk => (m35_8 k).trans hk
def A35_9 : List AV := [a0, x 0, a28, a8]
def R35_9 : AV := .tup [a31, .agg [x 0, w 0, .nils], .bool false, x 0]
theorem m35_9 (k : AV → Bool) : runF c35 200000 35 A35_9 k false = k R35_9 := by kernel_rfl
theorem q35_9 : ACalls Tryz.prog (gmap gs) 35 A35_9 (fun v => v = R35_9) := acalls_eq base l35 fun k hk => (m35_9 k).trans hk
def A35_10 : List AV := [a0, x 0, a31, a8]
def R35_10 : AV := .tup [a32, .agg [x 0, w 0, .nils], .bool false, x 0]
theorem m35_10 (k : AV → Bool) : runF c35 200000 35 A35_10 k false = k R35_10 := by kernel_rfl
theorem q35_10 : ACalls Tryz.prog (gmap gs) 35 A35_10 (fun v => v = R35_10) := acalls_eq base l35 fun k hk => (m35_10 k).trans hk
def A35_11 : List AV := [a0, x 0, a32, a21]
def R35_11 : AV := .tup [a33, .agg [x 0, w 0, .nils], .bool false, x 0]
theorem m35_11 (k : AV → Bool) : runF c35 200000 35 A35_11 k false = k R35_11 := by kernel_rfl
theorem q35_11 : ACalls Tryz.prog (gmap gs) 35 A35_11 (fun v => v = R35_11) := acalls_eq base l35 fun k hk => (m35_11 k).trans hk
def A35_12 : List AV := [a0, x 0, a33, a34]
def R35_12 : AV := .tup [a36, .agg [x 0, w 0, .nils], .bool false, x 0]
theorem m35_12 (k : AV → Bool) : runF c35 200000 35 A35_12 k false = k R35_12 := by kernel_rfl
theorem q35_12 : ACalls Tryz.prog (gmap gs) 35 A35_12 (fun v => v = R35_12) := acalls_eq base l35 fun k hk => (m35_12 k).trans hk
def A35_13 : List AV := [a0, x 0, a36, a2]
def R35_13 : AV := .tup [a41, .agg [x 0, w 0, .nils], .bool false, x 0]
theorem m35_13 (k : AV → Bool) : runF c35 200000 35 A35_13 k false = k R35_13 := by kernel_rfl
theorem q35_13 : ACalls Tryz.prog (gmap gs) 35 A35_13 (fun v => v = R35_13) := acalls_eq base l35 fun k hk => (m35_13 k).trans hk
def A35_14 : List AV := [a0, x 0, a41, a34]
def R35_14 : AV := .tup [a42, .agg [x 0, w 0, .nils], .bool false, x 0]
theorem m35_14 (k : AV → Bool) : runF c35 200000 35 A35_14 k false = k R35_14 := by kernel_rfl
theorem q35_14 : ACalls Tryz.prog (gmap gs) 35 A35_14 (fun v => v = R35_14) := acalls_eq base l35 fun k hk => (m35_14 k).trans hk
def A35_15 : List AV := [a0, x 0, a42, a8]
def R35_15 : AV := .tup [a43, .agg [x 0, w 0, .nils], .bool false, x 0]
theorem m35_15 (k : AV → Bool) : runF c35 200000 35 A35_15 k false = k R35_15 := by kernel_rfl
theorem q35_15 : ACalls Tryz.prog (gmap gs) 35 A35_15 (fun v => v = R35_15) := acalls_eq base l35 fun k hk => (m35_15 k).trans hk
def A35_16 : List AV := [a0, x 0, a43, a21]
def R35_16 : AV := .tup [a44, .agg [x 0, w 0, .nils], .bool false, x 0]
theorem m35_16 (k : AV → Bool) : runF c35 200000 35 A35_16 k false = k R35_16 := by kernel_rfl
theorem q35_16 : ACalls Tryz.prog (gmap gs) 35 A35_16 (fun v => v = R35_16) := acalls_eq base l35 fun k hk => (m35_16 k).trans hk
def A35_17 : List AV := [a0, x 0, a44, a39]
def R35_17 : AV := .tup [a46, .agg [x 0, w 0, .nils], .bool false, x 0]
theorem m35_17 (k : AV → Bool) : runF c35 200000 35 A35_17 k false = k R35_17 := by kernel_rfl
theorem q35_17 : ACalls Tryz.prog (gmap gs) 35 A35_17 (fun v => v = R35_17) := acalls_eq base l35 fun k hk => (m35_17 k).trans hk
def A35_18 : List AV := [a0, x 0, a46, a8]
def R35_18 : AV := .tup [a53, .agg [x 0, w 0, .nils], .bool false, x 0]
theorem m35_18 (k : AV → Bool) : runF c35 200000 35 A35_18 k false = k R35_18 := by kernel_rfl
theorem q35_18 : ACalls Tryz.prog (gmap gs) 35 A35_18 (fun v => v = R35_18) := acalls_eq base l35 fun k hk => (m35_18 k).trans hk
def A35_19 : List AV := [a0, x 0, a53, a39]
def R35_19 : AV := .tup [a54, .agg [x 0, w 0, .nils], .bool false, x 0]
theorem m35_19 (k : AV → Bool) : runF c35 200000 35 A35_19 k false = k R35_19 := by kernel_rfl
theorem q35_19 : ACalls Tryz.prog (gmap gs) 35 A35_19 (fun v => v = R35_19) := acalls_eq base l35 fun k hk => (m35_19 k).trans hk
def A35_20 : List AV := [a0, x 0, a54, a8]
def R35_20 : AV := .tup [a55, .agg [x 0, w 0, .nils], .bool false, x 0]
theorem m35_20 (k : AV → Bool) : runF c35 200000 35 A35_20 k false = k R35_20 := by kernel_rfl
theorem q35_20 : ACalls Tryz.prog (gmap gs) 35 A35_20 (fun v => v = R35_20) := acalls_eq base l35 fun k hk => (m35_20 k).trans hk
def A35_21 : List AV := [a0, x 0, a55, a21]
def R35_21 : AV := .tup [a56, .agg [x 0, w 0, .nils], .bool false, x 0]
theorem m35_21 (k : AV → Bool) : runF c35 200000 35 A35_21 k false = k R35_21 := by kernel_rfl
theorem q35_21 : ACalls Tryz.prog (gmap gs) 35 A35_21 (fun v => v = R35_21) := acalls_eq base l35 fun k hk => (m35_21 k).trans hk
def A35_22 : List AV := [a0, x 0, a56, a51]
def R35_22 : AV := .tup [a58, .agg [x 0, w 0, .nils], .bool false, x 0]
theorem m35_22 (k : AV → Bool) : runF c35 200000 35 A35_22 k false = k R35_22 := by kernel_rfl
theorem q35_22 : ACalls Tryz.prog (gmap gs) 35 A35_22 (fun v => v = R35_22) := acalls_eq base l35 fun k hk => (m35_22 k).trans hk
def A35_23 : List AV := [a0, x 0, a58, a8]
def R35_23 : AV := .tup [a64, .agg [x 0, w 0, .nils], .bool false, x 0]
theorem m35_23 (k : AV → Bool) : runF c35 200000 35 A35_23 k false = k R35_23 := by kernel_rfl
theorem q35_23 : ACalls Tryz.prog (gmap gs) 35 A35_23 (fun v => v = R35_23) := acalls_eq base l35 fun k hk => (m35_23 k).trans hk
def A35_24 : List AV := [a0, x 0, a64, a8]
def R35_24 : AV := .tup [a65, .agg [x 0, w 0, .nils], .bool false, x 0]
theorem m35_24 (k : AV → Bool) : runF c35 200000 35 A35_24 k false = k R35_24 := by kernel_rfl
theorem q35_24 : ACalls Tryz.prog (gmap gs) 35 A35_24 (fun v => v = R35_24) := acalls_eq base l35 fun k hk => (m35_24 k).trans hk
def A35_25 : List AV := [a0, x 0, a65, a51]
def R35_25 : AV := .tup [a66, .agg [x 0, w 0, .nils], .bool false, x 0]
theorem m35_25 (k : AV → Bool) : runF c35 200000 35 A35_25 k false = k R35_25 := by kernel_rfl
theorem q35_25 : ACalls Tryz.prog (gmap gs) 35 A35_25 (fun v => v = R35_25) := acalls_eq base l35 fun k hk => (m35_25 k).trans hk
def A35_26 : List AV := [a0, x 0, a66, a8]
def R35_26 : AV := .tup [a67, .agg [x 0, w 0, .nils], .bool false, x 0]
theorem m35_26 (k : AV → Bool) : runF c35 200000 35 A35_26 k false = k R35_26 := by kernel_rfl
theorem q35_26 : ACalls Tryz.prog (gmap gs) 35 A35_26 (fun v => v = R35_26) := acalls_eq base l35 fun k hk => (m35_26 k).trans hk
def A35_27 : List AV := [a0, x 0, a67, a21]
def R35_27 : AV := .tup [a68, .agg [x 0, w 0, .nils], .bool false, x 0]
theorem m35_27 (k : AV → Bool) : runF c35 200000 35 A35_27 k false = k R35_27 := by kernel_rfl
theorem q35_27 : ACalls Tryz.prog (gmap gs) 35 A35_27 (fun v => v = R35_27) := acalls_eq base l35 fun k hk => (m35_27 k).trans hk
def A35_28 : List AV := [a0, x 0, a68, a62]
def R35_28 : AV := .tup [a70, .agg [x 0, w 0, .nils], .bool false, x 0]
theorem m35_28 (k : AV → Bool) : runF c35 200000 35 A35_28 k false = k R35_28 := by kernel_rfl
theorem q35_28 : ACalls Tryz.prog (gmap gs) 35 A35_28 (fun v => v = R35_28) := acalls_eq base l35 fun k hk => (m35_28 k).trans hk
def A35_29 : List AV := [a0, x 0, a70, a8]
def R35_29 : AV := .tup [a76, .agg [x 0, w 0, .nils], .bool false, x 0]
theorem m35_29 (k : AV → Bool) : runF c35 200000 35 A35_29 k false = k R35_29 := by kernel_rfl
theorem q35_29 : ACalls Tryz.prog (gmap gs) 35 A35_29 (fun v => v = R35_29) := acalls_eq base l35 fun k hk => (m35_29 k).trans hk
def A35_30 : List AV := [a0, x 0, a76, a8]
def R35_30 : AV := .tup [a77, .agg [x 0, w 0, .nils], .bool false, x 0]
theorem m35_30 (k : AV → Bool) : runF c35 200000 35 A35_30 k false = k R35_30 := by kernel_rfl
theorem q35_30 : ACalls Tryz.prog (gmap gs) 35 A35_30 (fun v => v = R35_30) := acalls_eq base l35 fun k hk => (m35_30 k).trans hk
def A35_31 : List AV := [a0, x 0, a77, a62]
def R35_31 : AV := .tup [a78, .agg [x 0, w 0, .nils], .bool false, x 0]
theorem m35_31 (k : AV → Bool) : runF c35 200000 35 A35_31 k false = k R35_31 := by kernel_rfl
theorem q35_31 : ACalls Tryz.prog (gmap gs) 35 A35_31 (fun v => v = R35_31) := acalls_eq base l35 fun k hk => (m35_31 k).trans hk
def A35_32 : List AV := [a0, x 0, a78, a71]
def R35_32 : AV := .tup [a79, .agg [x 0, w 0, .nils], .bool false, x 0]
theorem m35_32 (k : AV → Bool) : runF c35 200000 35 A35_32 k false = k R35_32 := by kernel_rfl
theorem q35_32 : ACalls Tryz.prog (gmap gs) 35 A35_32 (fun v => v = R35_32) := acalls_eq base l35 fun k hk => (m35_32 k).trans hk
def A35_33 : List AV := [a0, x 0, a79, a21]
def R35_33 : AV := .tup [a80, .agg [x 0, w 0, .nils], .bool false, x 0]
theorem m35_33 (k : AV → Bool) : runF c35 200000 35 A35_33 k false = k R35_33 := by kernel_rfl
theorem q35_33 : ACalls Tryz.prog (gmap gs) 35 A35_33 (fun v => v = R35_33) := acalls_eq base l35 fun k hk => (m35_33 k).trans hk
def A35_34 : List AV := [a0, x 0, a80, a74]
def R35_34 : AV := .tup [a81, .agg [x 0, w 0, .nils], .bool false, x 0]
theorem m35_34 (k : AV → Bool) : runF c35 200000 35 A35_34 k false = k R35_34 := by kernel_rfl
theorem q35_34 : ACalls Tryz.prog (gmap gs) 35 A35_34 (fun v => v = R35_34) := acalls_eq base l35 fun k hk => (m35_34 k).trans hk
def A35_35 : List AV := [a0, x 0, a81, a21]
def R35_35 : AV := .tup [a85, .agg [x 0, w 0, .nils], .bool false, x 0]
theorem m35_35 (k : AV → Bool) : runF c35 200000 35 A35_35 k false = k R35_35 := by kernel_rfl
theorem q35_35 : ACalls Tryz.prog (gmap gs) 35 A35_35 (fun v => v = R35_35) := acalls_eq base l35 fun k hk => (m35_35 k).trans hk
def A35_36 : List AV := [a0, x 0, a85, a71]
def R35_36 : AV := .tup [a86, .agg [x 0, w 0, .nils], .bool false, x 0]
theorem m35_36 (k : AV → Bool) : runF c35 200000 35 A35_36 k false = k R35_36 := by kernel_rfl
theorem q35_36 : ACalls Tryz.prog (gmap gs) 35 A35_36 (fun v => v = R35_36) := acalls_eq base l35 fun k hk => (m35_36 k).trans hk
def A35_37 : List AV := [a0, x 0, a86, a83]
def R35_37 : AV := .tup [a87, .agg [x 0, w 0, .nils], .bool false, x 0]
theorem m35_37 (k : AV → Bool) : runF c35 200000 35 A35_37 k false = k R35_37 := by kernel_rfl
theorem q35_37 : ACalls Tryz.prog (gmap gs) 35 A35_37 (fun v => v = R35_37) := acalls_eq base l35 fun k hk => (m35_37 k).trans hk
def A35_38 : List AV := [a0, x 0, a87, a8]
def R35_38 : AV := .tup [a89, .agg [x 0, w 0, .nils], .bool false, x 0]
theorem m35_38 (k : AV → Bool) : runF c35 200000 35 A35_38 k false = k R35_38 := by kernel_rfl
theorem q35_38 : ACalls Tryz.prog (gmap gs) 35 A35_38 (fun v => v = R35_38) := acalls_eq base l35 fun k hk => (m35_38 k).trans hk
def A35_39 : List AV := [a0, x 0, a89, a83]
def R35_39 : AV := .tup [a93, .agg [x 0, w 0, .nils], .bool false, x 0]
theorem m35_39 (k : AV → Bool) : runF c35 200000 35 A35_39 k false = k R35_39 := by kernel_rfl
theorem q35_39 : ACalls Tryz.prog (gmap gs) 35 A35_39 (fun v => v = R35_39) := acalls_eq base l35 fun k hk => (m35_39 k).trans hk
def A35_40 : List AV := [a0, x 0, a93, a71]
def R35_40 : AV := .tup [a94, .agg [x 0, w 0, .nils], .bool false, x 0]
theorem m35_40 (k : AV → Bool) : runF c35 200000 35 A35_40 k false = k R35_40 := by kernel_rfl
theorem q35_40 : ACalls Tryz.prog (gmap gs) 35 A35_40 (fun v => v = R35_40) := acalls_eq base l35 fun k hk => (m35_40 k).trans hk
def A35_41 : List AV := [a0, x 0, a94, a91]
def R35_41 : AV := .tup [a95, .agg [x 0, w 0, .nils], .bool false, x 0]
theorem m35_41 (k : AV → Bool) : runF c35 200000 35 A35_41 k false = k R35_41 := by kernel_rfl
theorem q35_41 : ACalls Tryz.prog (gmap gs) 35 A35_41 (fun v => v = R35_41) := acalls_eq base l35 fun k hk => (m35_41 k).trans hk
def A35_42 : List AV := [a0, x 0, a95, a8]
def R35_42 : AV := .tup [a98, .agg [x 0, w 0, .nils], .bool false, x 0]
theorem m35_42 (k : AV → Bool) : runF c35 200000 35 A35_42 k false = k R35_42 := by kernel_rfl
theorem q35_42 : ACalls Tryz.prog (gmap gs) 35 A35_42 (fun v => v = R35_42) := acalls_eq base l35 fun k hk => (m35_42 k).trans hk
def A35_43 : List AV := [a0, x 0, a98, a91]
def R35_43 : AV := .tup [a101, .agg [x 0, w 0, .nils], .bool false, x 0]
theorem m35_43 (k : AV → Bool) : runF c35 200000 35 A35_43 k false = k R35_43 := by kernel_rfl
theorem q35_43 : ACalls Tryz.prog (gmap gs) 35 A35_43 (fun v => v = R35_43) := acalls_eq base l35 fun k hk => (m35_43 k).trans hk
def A35_44 : List AV := [a0, x 0, a101, a71]
def R35_44 : AV := .tup [a102, .agg [x 0, w 0, .nils], .bool false, x 0]
theorem m35_44 (k : AV → Bool) : runF c35 200000 35 A35_44 k false = k R35_44 := by kernel_rfl
theorem q35_44 : ACalls Tryz.prog (gmap gs) 35 A35_44 (fun v => v = R35_44) := acalls_eq base l35 fun k hk => (m35_44 k).trans hk
def A35_45 : List AV := [a0, x 0, a102, a74]
def R35_45 : AV := .tup [a103, .agg [x 0, w 0, .nils], .bool false, x 0]
theorem m35_45 (k : AV → Bool) : runF c35 200000 35 A35_45 k false = k R35_45 := by kernel_rfl
theorem q35_45 : ACalls Tryz.prog (gmap gs) 35 A35_45 (fun v => v = R35_45) := acalls_eq base l35 fun k hk => (m35_45 k).trans hk
def A35_46 : List AV := [a0, x 0, a103, a8]
def R35_46 : AV := .tup [a105, .agg [x 0, w 0, .nils], .bool false, x 0]
theorem m35_46 (k : AV → Bool) : runF c35 200000 35 A35_46 k false = k R35_46 := by kernel_rfl
theorem q35_46 : ACalls Tryz.prog (gmap gs) 35 A35_46 (fun v => v = R35_46) := acalls_eq base l35 fun k hk => (m35_46 k).trans hk
def A35_47 : List AV := [a0, x 0, a105, a74]
def R35_47 : AV := .tup [a109, .agg [x 0, w 0, .nils], .bool false, x 0]
theorem m35_47 (k : AV → Bool) : runF c35 200000 35 A35_47 k false = k R35_47 := by kernel_rfl
theorem q35_47 : ACalls Tryz.prog (gmap gs) 35 A35_47 (fun v => v = R35_47) := acalls_eq base l35 fun k hk => (m35_47 k).trans hk
def A35_48 : List AV := [a0, x 0, a109, a71]
def R35_48 : AV := .tup [a110, .agg [x 0, w 0, .nils], .bool false, x 0]
theorem m35_48 (k : AV → Bool) : runF c35 200000 35 A35_48 k false = k R35_48 := by kernel_rfl
theorem q35_48 : ACalls Tryz.prog (gmap gs) 35 A35_48 (fun v => v = R35_48) := acalls_eq base l35 fun k hk => (m35_48 k).trans hk
def A35_49 : List AV := [a0, x 0, a110, a107]
def R35_49 : AV := .tup [a111, .agg [x 0, w 0, .nils], .bool false, x 0]
theorem m35_49 (k : AV → Bool) : runF c35 200000 35 A35_49 k false = k R35_49 := by kernel_rfl
theorem q35_49 : ACalls Tryz.prog (gmap gs) 35 A35_49 (fun v => v = R35_49) := acalls_eq base l35 fun k hk => (m35_49 k).trans hk
def A35_50 : List AV := [a0, x 0, a111, a8]
def R35_50 : AV := .tup [a114, .agg [x 0, w 0, .nils], .bool false, x 0]
theorem m35_50 (k : AV → Bool) : runF c35 200000 35 A35_50 k false = k R35_50 := by kernel_rfl
theorem q35_50 : ACalls Tryz.prog (gmap gs) 35 A35_50 (fun v => v = R35_50) := acalls_eq base l35 fun k hk => (m35_50 k).trans hk
def A35_51 : List AV := [a0, x 0, a114, a107]
def R35_51 : AV := .tup [a118, .agg [x 0, w 0, .nils], .bool false, x 0]
theorem m35_51 (k : AV → Bool) : runF c35 200000 35 A35_51 k false = k R35_51 := by kernel_rfl
theorem q35_51 : ACalls Tryz.prog (gmap gs) 35 A35_51 (fun v => v = R35_51) := acalls_eq base l35 fun k hk => (m35_51 k).trans hk
def A35_52 : List AV := [a0, x 0, a118, a71]
def R35_52 : AV := .tup [a119, .agg [x 0, w 0, .nils], .bool false, x 0]
theorem m35_52 (k : AV → Bool) : runF c35 200000 35 A35_52 k false = k R35_52 := by kernel_rfl
theorem q35_52 : ACalls Tryz.prog (gmap gs) 35 A35_52 (fun v => v = R35_52) := acalls_eq base l35 fun k hk => (m35_52 k).trans hk
def A35_53 : List AV := [a0, x 0, a119, a116]
def R35_53 : AV := .tup [a120, .agg [x 0, w 0, .nils], .bool false, x 0]
theorem m35_53 (k : AV → Bool) : runF c35 200000 35 A35_53 k false = k R35_53 := by kernel_rfl
theorem q35_53 : ACalls Tryz.prog (gmap gs) 35 A35_53 (fun v => v = R35_53) := acalls_eq base l35 fun k hk => (m35_53 k).trans hk
def A35_54 : List AV := [a0, x 0, a120, a8]
def R35_54 : AV := .tup [a122, .agg [x 0, w 0, .nils], .bool false, x 0]
theorem m35_54 (k : AV → Bool) : runF c35 200000 35 A35_54 k false = k R35_54 := by kernel_rfl
theorem q35_54 : ACalls Tryz.prog (gmap gs) 35 A35_54 (fun v => v = R35_54) := acalls_eq base l35 fun k hk => (m35_54 k).trans hk
def A35_55 : List AV := [a0, x 0, a122, a8]
def R35_55 : AV := .tup [a124, .agg [x 0, w 0, .nils], .bool false, x 0]
theorem m35_55 (k : AV → Bool) : runF c35 200000 35 A35_55 k false = k R35_55 := by kernel_rfl
theorem q35_55 : ACalls Tryz.prog (gmap gs) 35 A35_55 (fun v => v = R35_55) := acalls_eq base l35 fun k hk => (m35_55 k).trans hk
def A35_56 : List AV := [a0, x 0, a124, a71]
def R35_56 : AV := .tup [a125, .agg [x 0, w 0, .nils], .bool false, x 0]
theorem m35_56 (k : AV → Bool) : runF c35 200000 35 A35_56 k false = k R35_56 := by kernel_rfl
theorem q35_56 : ACalls Tryz.prog (gmap gs) 35 A35_56 (fun v => v = R35_56) := acalls_eq base l35 fun k hk => (m35_56 k).trans hk
def A35_57 : List AV := [a0, x 0, a125, a116]
def R35_57 : AV := .tup [a126, .agg [x 0, w 0, .nils], .bool false, x 0]
theorem m35_57 (k : AV → Bool) : runF c35 200000 35 A35_57 k false = k R35_57 := by kernel_rfl
theorem q35_57 : ACalls Tryz.prog (gmap gs) 35 A35_57 (fun v => v = R35_57) := acalls_eq base l35 fun k hk => (m35_57 k).trans hk
def A35_58 : List AV := [a0, x 0, a126, a34]
def R35_58 : AV := .tup [a127, .agg [x 0, w 0, .nils], .bool false, x 0]
theorem m35_58 (k : AV → Bool) : runF c35 200000 35 A35_58 k false = k R35_58 := by kernel_rfl
theorem q35_58 : ACalls Tryz.prog (gmap gs) 35 A35_58 (fun v => v = R35_58) := acalls_eq base l35 fun k hk => (m35_58 k).trans hk
def A35_59 : List AV := [a0, x 0, a127, a2]
def R35_59 : AV := .tup [a129, .agg [x 0, w 0, .nils], .bool false, x 0]
theorem m35_59 (k : AV → Bool) : runF c35 200000 35 A35_59 k false = k R35_59 := by kernel_rfl
theorem q35_59 : ACalls Tryz.prog (gmap gs) 35 A35_59 (fun v => v = R35_59) := acalls_eq base l35 fun k hk => (m35_59 k).trans hk
def A35_60 : List AV := [a0, x 0, a129, a34]
def R35_60 : AV := .tup [a130, .agg [x 0, w 0, .nils], .bool false, x 0]
theorem m35_60 (k : AV → Bool) : runF c35 200000 35 A35_60 k false = k R35_60 := by kernel_rfl
theorem q35_60 : ACalls Tryz.prog (gmap gs) 35 A35_60 (fun v => v = R35_60) := acalls_eq base l35 fun k hk => (m35_60 k).trans hk
def A35_61 : List AV := [a0, x 0, a130, a71]
def R35_61 : AV := .tup [a131, .agg [x 0, w 0, .nils], .bool false, x 0]
theorem m35_61 (k : AV → Bool) : runF c35 200000 35 A35_61 k false = k R35_61 := by kernel_rfl
theorem q35_61 : ACalls Tryz.prog (gmap gs) 35 A35_61 (fun v => v = R35_61) := acalls_eq base l35 fun k hk => (m35_61 k).trans hk
def A35_62 : List AV := [a0, x 0, a131, a116]
def R35_62 : AV := .tup [a132, .agg [x 0, w 0, .nils], .bool false, x 0]
theorem m35_62 (k : AV → Bool) : runF c35 200000 35 A35_62 k false = k R35_62 := by kernel_rfl
theorem q35_62 : ACalls Tryz.prog (gmap gs) 35 A35_62 (fun v => v = R35_62) := acalls_eq base l35 fun k hk => (m35_62 k).trans hk
def A35_63 : List AV := [a0, x 0, a132, a39]
def R35_63 : AV := .tup [a133, .agg [x 0, w 0, .nils], .bool false, x 0]
theorem m35_63 (k : AV → Bool) : runF c35 200000 35 A35_63 k false = k R35_63 := by kernel_rfl
theorem q35_63 : ACalls Tryz.prog (gmap gs) 35 A35_63 (fun v => v = R35_63) := acalls_eq base l35 fun k hk => (m35_63 k).trans hk
def A35_64 : List AV := [a0, x 0, a133, a8]
def R35_64 : AV := .tup [a136, .agg [x 0, w 0, .nils], .bool false, x 0]
theorem m35_64 (k : AV → Bool) : runF c35 200000 35 A35_64 k false = k R35_64 := by kernel_rfl
theorem q35_64 : ACalls Tryz.prog (gmap gs) 35 A35_64 (fun v => v = R35_64) := acalls_eq base l35 fun k hk => (m35_64 k).trans hk
def A35_65 : List AV := [a0, x 0, a136, a39]
def R35_65 : AV := .tup [a137, .agg [x 0, w 0, .nils], .bool false, x 0]
theorem m35_65 (k : AV → Bool) : runF c35 200000 35 A35_65 k false = k R35_65 := by kernel_rfl
theorem q35_65 : ACalls Tryz.prog (gmap gs) 35 A35_65 (fun v => v = R35_65) := acalls_eq base l35 fun k hk => (m35_65 k).trans hk
def A35_66 : List AV := [a0, x 0, a137, a71]
def R35_66 : AV := .tup [a138, .agg [x 0, w 0, .nils], .bool false, x 0]
theorem m35_66 (k : AV → Bool) : runF c35 200000 35 A35_66 k false = k R35_66 := by kernel_rfl
theorem q35_66 : ACalls Tryz.prog (gmap gs) 35 A35_66 (fun v => v = R35_66) := acalls_eq base l35 fun k hk => (m35_66 k).trans hk
def A35_67 : List AV := [a0, x 0, a138, a116]
def R35_67 : AV := .tup [a139, .agg [x 0, w 0, .nils], .bool false, x 0]
theorem m35_67 (k : AV → Bool) : runF c35 200000 35 A35_67 k false = k R35_67 := by kernel_rfl
theorem q35_67 : ACalls Tryz.prog (gmap gs) 35 A35_67 (fun v => v = R35_67) := acalls_eq base l35 fun k hk => (m35_67 k).trans hk
def A35_68 : List AV := [a0, x 0, a139, a51]
def R35_68 : AV := .tup [a140, .agg [x 0, w 0, .nils], .bool false, x 0]
theorem m35_68 (k : AV → Bool) : runF c35 200000 35 A35_68 k false = k R35_68 := by kernel_rfl
theorem q35_68 : ACalls Tryz.prog (gmap gs) 35 A35_68 (fun v => v = R35_68) := acalls_eq base l35 fun k hk => (m35_68 k).trans hk
def A35_69 : List AV := [a0, x 0, a140, a8]
def R35_69 : AV := .tup [a143, .agg [x 0, w 0, .nils], .bool false, x 0]
theorem m35_69 (k : AV → Bool) : runF c35 200000 35 A35_69 k false = k R35_69 := by kernel_rfl
theorem q35_69 : ACalls Tryz.prog (gmap gs) 35 A35_69 (fun v => v = R35_69) := acalls_eq base l35 fun k hk => (m35_69 k).trans hk
def A35_70 : List AV := [a0, x 0, a143, a8]
def R35_70 : AV := .tup [a144, .agg [x 0, w 0, .nils], .bool false, x 0]
theorem m35_70 (k : AV → Bool) : runF c35 200000 35 A35_70 k false = k R35_70 := by kernel_rfl
theorem q35_70 : ACalls Tryz.prog (gmap gs) 35 A35_70 (fun v => v = R35_70) := acalls_eq base l35 fun k hk => (m35_70 k).trans hk
def A35_71 : List AV := [a0, x 0, a144, a51]
def R35_71 : AV := .tup [a145, .agg [x 0, w 0, .nils], .bool false, x 0]
theorem m35_71 (k : AV → Bool) : runF c35 200000 35 A35_71 k false = k R35_71 := by kernel_rfl
theorem q35_71 : ACalls Tryz.prog (gmap gs) 35 A35_71 (fun v => v = R35_71) := acalls_eq base l35 fun k hk => (m35_71 k).trans hk
def A35_72 : List AV := [a0, x 0, a145, a71]
def R35_72 : AV := .tup [a146, .agg [x 0, w 0, .nils], .bool false, x 0]
theorem m35_72 (k : AV → Bool) : runF c35 200000 35 A35_72 k false = k R35_72 := by kernel_rfl
theorem q35_72 : ACalls Tryz.prog (gmap gs) 35 A35_72 (fun v => v = R35_72) := acalls_eq base l35 fun k hk => (m35_72 k).trans hk
def A35_73 : List AV := [a0, x 0, a146, a116]
def R35_73 : AV := .tup [a147, .agg [x 0, w 0, .nils], .bool false, x 0]
theorem m35_73 (k : AV → Bool) : runF c35 200000 35 A35_73 k false = k R35_73 := by kernel_rfl
theorem q35_73 : ACalls Tryz.prog (gmap gs) 35 A35_73 (fun v => v = R35_73) := acalls_eq base l35 fun k hk => (m35_73 k).trans hk
def A35_74 : List AV := [a0, x 0, a147, a62]
def R35_74 : AV := .tup [a148, .agg [x 0, w 0, .nils], .bool false, x 0]
theorem m35_74 (k : AV → Bool) : runF c35 200000 35 A35_74 k false = k R35_74 := by kernel_rfl
theorem q35_74 : ACalls Tryz.prog (gmap gs) 35 A35_74 (fun v => v = R35_74) := acalls_eq base l35 fun k hk => (m35_74 k).trans hk
def A35_75 : List AV := [a0, x 0, a148, a62]
def R35_75 : AV := .tup [a150, .agg [x 0, w 0, .nils], .bool false, x 0]
theorem m35_75 (k : AV → Bool) : runF c35 200000 35 A35_75 k false = k R35_75 := by kernel_rfl
theorem q35_75 : ACalls Tryz.prog (gmap gs) 35 A35_75 (fun v => v = R35_75) := acalls_eq base l35 fun k hk => (m35_75 k).trans hk
def A35_76 : List AV := [a0, x 0, a150, a71]
def R35_76 : AV := .tup [a151, .agg [x 0, w 0, .nils], .bool false, x 0]
theorem m35_76 (k : AV → Bool) : runF c35 200000 35 A35_76 k false = k R35_76 := by kernel_rfl
theorem q35_76 : ACalls Tryz.prog (gmap gs) 35 A35_76 (fun v => v = R35_76) := acalls_eq base l35 fun k hk => (m35_76 k).trans hk
def A35_77 : List AV := [a0, x 0, a151, a116]
def R35_77 : AV := .tup [a152, .agg [x 0, w 0, .nils], .bool false, x 0]
theorem m35_77 (k : AV → Bool) : runF c35 200000 35 A35_77 k false = k R35_77 := by kernel_rfl
theorem q35_77 : ACalls Tryz.prog (gmap gs) 35 A35_77 (fun v => v = R35_77) := acalls_eq base l35 fun k hk => (m35_77 k).trans hk
def A35_78 : List AV := [a0, x 0, a152, a74]
def R35_78 : AV := .tup [a153, .agg [x 0, w 0, .nils], .bool false, x 0]
theorem m35_78 (k : AV → Bool) : runF c35 200000 35 A35_78 k false = k R35_78 := by kernel_rfl
theorem q35_78 : ACalls Tryz.prog (gmap gs) 35 A35_78 (fun v => v = R35_78) := acalls_eq base l35 fun k hk => (m35_78 k).trans hk
def A35_79 : List AV := [a0, x 0, a153, a116]
def R35_79 : AV := .tup [a157, .agg [x 0, w 0, .nils], .bool false, x 0]
theorem m35_79 (k : AV → Bool) : runF c35 200000 35 A35_79 k false = k R35_79 := by kernel_rfl
theorem q35_79 : ACalls Tryz.prog (gmap gs) 35 A35_79 (fun v => v = R35_79) := acalls_eq base l35 fun k hk => (m35_79 k).trans hk
def A35_80 : List AV := [a0, x 0, a157, a71]
def R35_80 : AV := .tup [a158, .agg [x 0, w 0, .nils], .bool false, x 0]
theorem m35_80 (k : AV → Bool) : runF c35 200000 35 A35_80 k false = k R35_80 := by kernel_rfl
theorem q35_80 : ACalls Tryz.prog (gmap gs) 35 A35_80 (fun v => v = R35_80) := acalls_eq base l35 fun k hk => (m35_80 k).trans hk
def A35_81 : List AV := [a0, x 0, a158, a155]
def R35_81 : AV := .tup [a159, .agg [x 0, w 0, .nils], .bool true, x 0]
theorem m35_81 (k : AV → Bool) : runF c35 200000 35 A35_81 k false = k R35_81 := by kernel_rfl
theorem q35_81 : ACalls Tryz.prog (gmap gs) 35 A35_81 (fun v => v = R35_81) := acalls_eq base l35 fun k hk => (m35_81 k).trans hk
def A35_82 : List AV := [a0, x 0, a164, a2]
def R35_82 : AV := .tup [a165, .agg [x 0, w 0, .nils], .bool false, x 0]
theorem m35_82 (k : AV → Bool) : runF c35 200000 35 A35_82 k false = k R35_82 := by kernel_rfl
theorem q35_82 : ACalls Tryz.prog (gmap gs) 35 A35_82 (fun v => v = R35_82) := acalls_eq base l35 fun k hk => (m35_82 k).trans hk
def A35_83 : List AV := [a0, x 0, a165, a71]
def R35_83 : AV := .tup [a166, .agg [x 0, w 0, .nils], .bool false, x 0]
theorem m35_83 (k : AV → Bool) : runF c35 200000 35 A35_83 k false = k R35_83 := by kernel_rfl
theorem q35_83 : ACalls Tryz.prog (gmap gs) 35 A35_83 (fun v => v = R35_83) := acalls_eq base l35 fun k hk => (m35_83 k).trans hk
def A35_84 : List AV := [a0, x 0, a166, a155]
def R35_84 : AV := .tup [a167, .agg [x 0, w 0, .nils], .bool false, x 0]
theorem m35_84 (k : AV → Bool) : runF c35 200000 35 A35_84 k false = k R35_84 := by kernel_rfl
theorem q35_84 : ACalls Tryz.prog (gmap gs) 35 A35_84 (fun v => v = R35_84) := acalls_eq base l35 fun k hk => (m35_84 k).trans hk
def A35_85 : List AV := [a0, x 0, a167, a71]
def R35_85 : AV := .tup [.agg [x 2, y 0, y 0, x 0, x 0, u 0, y 0, w 0, w 0, y 0, y 0, y 0, y 0, y 0, y 0, w 0, w 0, x 0, w 0, .nils, x 0, y 0, u 0, y 0, w 0, w 0, w 0, .bool false, x 0, w 0, .nils, u 0, u 0, u 0, u 0, u 0, u 0, u 0, u 0, u 0, u 0, u 0, u 0, u 0, .nils, u 0, x 0, u 0, u 2, .bool false], .agg [x 230, w 0, .nils], .bool true, x 0]
theorem m35_85 (k : AV → Bool) : runF c35 200000 35 A35_85 k false = k R35_85 := by kernel_rfl
theorem q35_85 : ACalls Tryz.prog (gmap gs) 35 A35_85 (fun v => v = R35_85) := acalls_eq base l35 fun k hk => (m35_85 k).trans hk
def A35_86 : List AV := [a0, x 0, a174, a8]
def R35_86 : AV := .tup [a177, .agg [x 0, w 0, .nils], .bool false, x 0]
theorem m35_86 (k : AV → Bool) : runF c35 200000 35 A35_86 k false = k R35_86 := by kernel_rfl
theorem q35_86 : ACalls Tryz.prog (gmap gs) 35 A35_86 (fun v => v = R35_86) := acalls_eq base l35 fun k hk => (m35_86 k).trans hk
end Go.Proofs.YtfbmlbocgeabgabGreatDoor.ghostNames
