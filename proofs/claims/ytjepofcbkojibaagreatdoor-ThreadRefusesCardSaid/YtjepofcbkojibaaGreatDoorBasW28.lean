/- Known answers of a closed run, each reckoned by the kernel. -/
import Derived.Test.YtjepofcbkojibaaGreatDoorBasW27
set_option maxRecDepth 100000
set_option maxHeartbeats 4000000
set_option linter.unusedVariables false
set_option linter.unusedSimpArgs false
namespace Go.Bas.BasTRAlive
open Go.RowKit Go.Proofs BasZBase
def e22_48 : Ent := (935814013560890570, [a0, x 0, .agg (wr 2 true [u 1, u 65540, u 1, u 0, u 0, u 65540, u 1, u 0, u 0, u 0, u 0, u 0, u 0, .lst [.bool true] 1, u 65539, x 1, u 0])], .tup [a10, x 0])
theorem q22_48 : E 22 e22_48 := mq l22 fun k => by kernel_rfl
def e22_49 : Ent := (344095148682668141, [a0, x 0, .agg (wr 3 true [u 1, u 65540, u 1, u 0, u 0, u 65540, u 1, u 0, u 0, u 0, u 0, u 0, u 0, .lst [.bool true] 1, u 65539, x 1, u 0])], .tup [a13, x 0])
theorem q22_49 : E 22 e22_49 := mq l22 fun k => by kernel_rfl
def e22_50 : Ent := (733268708561619955, [a0, x 0, .agg (wr 14 true [u 1, u 65541, u 1, u 0, u 0, u 65540, u 1, u 0, u 0, u 0, u 0, u 0, u 0, .lst [.bool true] 1, u 65541, x 0, u 0])], .tup [a113, x 0])
theorem q22_50 : E 22 e22_50 := mq l22 fun k => by kernel_rfl
def e22_51 : Ent := (202582293982593507, [a0, x 0, .agg (wr 11 true [u 1, u 65541, u 1, u 0, u 0, u 65540, u 1, u 0, u 0, u 0, u 0, u 0, u 0, .lst [.bool true] 1, u 65541, x 1, u 0])], .tup [a117, x 0])
theorem q22_51 : E 22 e22_51 := mq l22 fun k => by kernel_rfl
def e22_52 : Ent := (916366059459207836, [a0, x 0, .agg (wr 2 true [u 1, u 65541, u 1, u 0, u 0, u 65540, u 1, u 0, u 0, u 0, u 0, u 0, u 0, .lst [.bool true] 1, u 65541, x 1, u 0])], .tup [a10, x 0])
theorem q22_52 : E 22 e22_52 := mq l22 fun k => by kernel_rfl
def e22_53 : Ent := (324647194580985407, [a0, x 0, .agg (wr 3 true [u 1, u 65541, u 1, u 0, u 0, u 65540, u 1, u 0, u 0, u 0, u 0, u 0, u 0, .lst [.bool true] 1, u 65541, x 1, u 0])], .tup [a13, x 0])
theorem q22_53 : E 22 e22_53 := mq l22 fun k => by kernel_rfl
def e22_54 : Ent := (244166790180104801, [a0, x 0, .agg (wr 7 true [u 1, u 65542, u 1, u 0, u 0, u 65540, u 1, u 0, u 0, u 0, u 0, u 0, u 0, .lst [.bool true] 1, u 65541, x 1, u 0])], .tup [a121, x 0])
theorem q22_54 : E 22 e22_54 := mq l22 fun k => by kernel_rfl
def e22_55 : Ent := (543885502487423717, [a0, x 0, .agg (wr 10 true [u 1, u 65542, u 1, u 0, u 0, u 0, u 0, u 0, u 0, u 0, u 0, u 0, u 0, .lst [.bool true] 1, u 65541, x 1, u 0])], .tup [a123, x 0])
theorem q22_55 : E 22 e22_55 := mq l22 fun k => by kernel_rfl
def e22_56 : Ent := (665950403085815617, [a0, x 0, .agg (wr 2 true [u 1, u 65542, u 1, u 0, u 0, u 0, u 0, u 0, u 0, u 0, u 0, u 0, u 0, .lst [.bool true] 1, u 65541, x 1, u 0])], .tup [a10, x 0])
theorem q22_56 : E 22 e22_56 := mq l22 fun k => by kernel_rfl
def e22_57 : Ent := (74231538207593188, [a0, x 0, .agg (wr 3 true [u 1, u 65542, u 1, u 0, u 0, u 0, u 0, u 0, u 0, u 0, u 0, u 0, u 0, .lst [.bool true] 1, u 65541, x 1, u 0])], .tup [a13, x 0])
theorem q22_57 : E 22 e22_57 := mq l22 fun k => by kernel_rfl
def e22_58 : Ent := (13199087908397238, [a0, x 0, .agg (wr 7 true [u 1, u 65542, u 1, u 0, u 0, u 0, u 0, u 0, u 0, u 0, u 0, u 0, u 0, .lst [.bool true] 1, u 65541, x 1, u 0])], .tup [a121, x 0])
theorem q22_58 : E 22 e22_58 := mq l22 fun k => by kernel_rfl
def e22_59 : Ent := (1088074331678666029, [a0, x 0, .agg (wr 8 true [u 1, u 65542, u 1, u 0, u 0, u 65536, u 0, u 0, u 0, u 0, u 0, u 0, u 0, .lst [.bool true] 1, u 65541, x 1, u 0])], .tup [a17, x 0])
theorem q22_59 : E 22 e22_59 := mq l22 fun k => by kernel_rfl
def e22_60 : Ent := (1057566256532628979, [a0, x 0, .agg (wr 10 true [u 1, u 65542, u 1, u 0, u 0, u 65536, u 0, u 0, u 0, u 1, u 265, u 7, u 2, .lst [.bool true] 1, u 65541, x 1, u 0])], .tup [a128, x 0])
theorem q22_60 : E 22 e22_60 := mq l22 fun k => by kernel_rfl
def e22_61 : Ent := (26709652524173996, [a0, x 0, .agg (wr 2 true [u 1, u 65542, u 1, u 0, u 0, u 65536, u 0, u 0, u 0, u 1, u 265, u 7, u 2, .lst [.bool true] 1, u 65541, x 1, u 0])], .tup [a10, x 0])
theorem q22_61 : E 22 e22_61 := mq l22 fun k => by kernel_rfl
def e22_62 : Ent := (587912292252798450, [a0, x 0, .agg (wr 3 true [u 1, u 65542, u 1, u 0, u 0, u 65536, u 0, u 0, u 0, u 1, u 265, u 7, u 2, .lst [.bool true] 1, u 65541, x 1, u 0])], .tup [a13, x 0])
theorem q22_62 : E 22 e22_62 := mq l22 fun k => by kernel_rfl
def e22_63 : Ent := (526879841953602500, [a0, x 0, .agg (wr 7 true [u 1, u 65542, u 1, u 0, u 0, u 65536, u 0, u 0, u 0, u 1, u 265, u 7, u 2, .lst [.bool true] 1, u 65541, x 1, u 0])], .tup [a121, x 0])
theorem q22_63 : E 22 e22_63 := mq l22 fun k => by kernel_rfl
def e22_64 : Ent := (496886546422795522, [a0, x 0, .agg (wr 8 true [u 1, u 65542, u 1, u 0, u 0, u 65537, u 36896, u 30064771073, u 8589934592, u 1, u 265, u 7, u 2, .lst [.bool true] 1, u 65541, x 1, u 0])], .tup [a134, x 0])
theorem q22_64 : E 22 e22_64 := mq l22 fun k => by kernel_rfl
def e22_65 : Ent := (466362171269636622, [a0, x 0, .agg (wr 10 true [u 1, u 65542, u 1, u 0, u 0, u 65537, u 36896, u 30064771073, u 8589934592, u 0, u 0, u 0, u 0, .lst [.bool true] 1, u 65541, x 1, u 0])], .tup [a135, x 0])
theorem q22_65 : E 22 e22_65 := mq l22 fun k => by kernel_rfl
def e22_66 : Ent := (588427071868028522, [a0, x 0, .agg (wr 2 true [u 1, u 65542, u 1, u 0, u 0, u 65537, u 36896, u 30064771073, u 8589934592, u 0, u 0, u 0, u 0, .lst [.bool true] 1, u 65541, x 1, u 0])], .tup [a10, x 0])
theorem q22_66 : E 22 e22_66 := mq l22 fun k => by kernel_rfl
def e22_67 : Ent := (1149629711596652976, [a0, x 0, .agg (wr 3 true [u 1, u 65542, u 1, u 0, u 0, u 65537, u 36896, u 30064771073, u 8589934592, u 0, u 0, u 0, u 0, .lst [.bool true] 1, u 65541, x 1, u 0])], .tup [a13, x 0])
theorem q22_67 : E 22 e22_67 := mq l22 fun k => by kernel_rfl
def e22_68 : Ent := (1088597261297457026, [a0, x 0, .agg (wr 7 true [u 1, u 65542, u 1, u 0, u 0, u 65537, u 36896, u 30064771073, u 8589934592, u 0, u 0, u 0, u 0, .lst [.bool true] 1, u 65541, x 1, u 0])], .tup [a121, x 0])
theorem q22_68 : E 22 e22_68 := mq l22 fun k => by kernel_rfl
def e22_69 : Ent := (1028000633816209252, [a0, x 0, .agg (wr 8 true [u 1, u 65542, u 1, u 0, u 0, u 65538, u 140737488523296, u 30064771073, u 8589934592, u 0, u 0, u 0, u 0, .lst [.bool true] 1, u 65541, x 1, u 0])], .tup [a134, x 0])
theorem q22_69 : E 22 e22_69 := mq l22 fun k => by kernel_rfl
def e22_70 : Ent := (436281768937986823, [a0, x 0, .agg (wr 9 true [u 1, u 65542, u 1, u 0, u 0, u 65538, u 140737488523296, u 30064771073, u 8589934592, u 0, u 0, u 0, u 0, .lst [.bool true] 1, u 65541, x 1, u 0])], .tup [a141, x 0])
theorem q22_70 : E 22 e22_70 := mq l22 fun k => by kernel_rfl
def e22_71 : Ent := (997484408666611277, [a0, x 0, .agg (wr 10 true [u 1, u 65542, u 1, u 0, u 0, u 65538, u 140737488523296, u 30064771073, u 8589934592, u 0, u 0, u 0, u 0, .lst [.bool true] 1, u 65541, x 1, u 0])], .tup [a142, x 0])
theorem q22_71 : E 22 e22_71 := mq l22 fun k => by kernel_rfl
def e22_72 : Ent := (1119549309265003177, [a0, x 0, .agg (wr 2 true [u 1, u 65542, u 1, u 0, u 0, u 65538, u 140737488523296, u 30064771073, u 8589934592, u 0, u 0, u 0, u 0, .lst [.bool true] 1, u 65541, x 1, u 0])], .tup [a10, x 0])
theorem q22_72 : E 22 e22_72 := mq l22 fun k => by kernel_rfl
def e22_73 : Ent := (527830444386780748, [a0, x 0, .agg (wr 3 true [u 1, u 65542, u 1, u 0, u 0, u 65538, u 140737488523296, u 30064771073, u 8589934592, u 0, u 0, u 0, u 0, .lst [.bool true] 1, u 65541, x 1, u 0])], .tup [a13, x 0])
theorem q22_73 : E 22 e22_73 := mq l22 fun k => by kernel_rfl
def e22_74 : Ent := (466797994087584798, [a0, x 0, .agg (wr 7 true [u 1, u 65542, u 1, u 0, u 0, u 65538, u 140737488523296, u 30064771073, u 8589934592, u 0, u 0, u 0, u 0, .lst [.bool true] 1, u 65541, x 1, u 0])], .tup [a121, x 0])
theorem q22_74 : E 22 e22_74 := mq l22 fun k => by kernel_rfl
def e22_75 : Ent := (37902809209129409, [a0, x 0, .agg (wr 10 true [u 1, u 65542, u 1, u 0, u 0, u 65539, u 140737489702944, u 30064771073, u 8589934592, u 0, u 0, u 0, u 0, .lst [.bool true] 1, u 65541, x 1, u 0])], .tup [a149, x 0])
theorem q22_75 : E 22 e22_75 := mq l22 fun k => by kernel_rfl
def e22_76 : Ent := (159967709807521309, [a0, x 0, .agg (wr 2 true [u 1, u 65542, u 1, u 0, u 0, u 65539, u 140737489702944, u 30064771073, u 8589934592, u 0, u 0, u 0, u 0, .lst [.bool true] 1, u 65541, x 1, u 0])], .tup [a10, x 0])
theorem q22_76 : E 22 e22_76 := mq l22 fun k => by kernel_rfl
def e22_77 : Ent := (721170349536145763, [a0, x 0, .agg (wr 3 true [u 1, u 65542, u 1, u 0, u 0, u 65539, u 140737489702944, u 30064771073, u 8589934592, u 0, u 0, u 0, u 0, .lst [.bool true] 1, u 65541, x 1, u 0])], .tup [a13, x 0])
theorem q22_77 : E 22 e22_77 := mq l22 fun k => by kernel_rfl
def e22_78 : Ent := (660137899236949813, [a0, x 0, .agg (wr 7 true [u 1, u 65542, u 1, u 0, u 0, u 65539, u 140737489702944, u 30064771073, u 8589934592, u 0, u 0, u 0, u 0, .lst [.bool true] 1, u 65541, x 1, u 0])], .tup [a121, x 0])
theorem q22_78 : E 22 e22_78 := mq l22 fun k => by kernel_rfl
def e22_79 : Ent := (183134339880908851, [a0, x 0, .agg (wr 11 true [u 1, u 65542, u 1, u 0, u 0, u 65540, u 1, u 0, u 0, u 0, u 0, u 0, u 0, .lst [.bool true] 1, u 65541, x 1, u 0])], .tup [a156, x 0])
theorem q22_79 : E 22 e22_79 := mq l22 fun k => by kernel_rfl
def e22_80 : Ent := (896918105357523180, [a0, x 0, .agg (wr 2 true [u 1, u 65542, u 1, u 0, u 0, u 65540, u 1, u 0, u 0, u 0, u 0, u 0, u 0, .lst [.bool true] 1, u 65541, x 1, u 0])], .tup [a10, x 0])
theorem q22_80 : E 22 e22_80 := mq l22 fun k => by kernel_rfl
def e22_81 : Ent := (305199240479300751, [a0, x 0, .agg (wr 3 true [u 1, u 65542, u 1, u 0, u 0, u 65540, u 1, u 0, u 0, u 0, u 0, u 0, u 0, .lst [.bool true] 1, u 65541, x 1, u 0])], .tup [a13, x 0])
theorem q22_81 : E 22 e22_81 := mq l22 fun k => by kernel_rfl
def M22 : List Ent := [e22_0, e22_1, e22_2, e22_3, e22_4, e22_5, e22_6, e22_7, e22_8, e22_9, e22_10, e22_11, e22_12, e22_13, e22_14, e22_15, e22_16, e22_17, e22_18, e22_19, e22_20, e22_21, e22_22, e22_23, e22_24, e22_25, e22_26, e22_27, e22_28, e22_29, e22_30, e22_31, e22_32, e22_33, e22_34, e22_35, e22_36, e22_37, e22_38, e22_39, e22_40, e22_41, e22_42, e22_43, e22_44, e22_45, e22_46, e22_47, e22_48, e22_49, e22_50, e22_51, e22_52, e22_53, e22_54, e22_55, e22_56, e22_57, e22_58, e22_59, e22_60, e22_61, e22_62, e22_63, e22_64, e22_65, e22_66, e22_67, e22_68, e22_69, e22_70, e22_71, e22_72, e22_73, e22_74, e22_75, e22_76, e22_77, e22_78, e22_79, e22_80, e22_81]
theorem s22 : SumOk Tryz.prog (gmap gs) (22, memoH M22) := memoH_sum (mc q22_0 (mc q22_1 (mc q22_2 (mc q22_3 (mc q22_4 (mc q22_5 (mc q22_6 (mc q22_7 (mc q22_8 (mc q22_9 (mc q22_10 (mc q22_11 (mc q22_12 (mc q22_13 (mc q22_14 (mc q22_15 (mc q22_16 (mc q22_17 (mc q22_18 (mc q22_19 (mc q22_20 (mc q22_21 (mc q22_22 (mc q22_23 (mc q22_24 (mc q22_25 (mc q22_26 (mc q22_27 (mc q22_28 (mc q22_29 (mc q22_30 (mc q22_31 (mc q22_32 (mc q22_33 (mc q22_34 (mc q22_35 (mc q22_36 (mc q22_37 (mc q22_38 (mc q22_39 (mc q22_40 (mc q22_41 (mc q22_42 (mc q22_43 (mc q22_44 (mc q22_45 (mc q22_46 (mc q22_47 (mc q22_48 (mc q22_49 (mc q22_50 (mc q22_51 (mc q22_52 (mc q22_53 (mc q22_54 (mc q22_55 (mc q22_56 (mc q22_57 (mc q22_58 (mc q22_59 (mc q22_60 (mc q22_61 (mc q22_62 (mc q22_63 (mc q22_64 (mc q22_65 (mc q22_66 (mc q22_67 (mc q22_68 (mc q22_69 (mc q22_70 (mc q22_71 (mc q22_72 (mc q22_73 (mc q22_74 (mc q22_75 (mc q22_76 (mc q22_77 (mc q22_78 (mc q22_79 (mc q22_80 (mc q22_81 memoH_nil))))))))))))))))))))))))))))))))))))))))))))))))))))))))))))))))))))))))))))))))))
theorem l28 : ∀ s ∈ ([(73, memoH M73), (11, memoH M11), (22, memoH M22)] : List Sum), SumOk Tryz.prog (gmap gs) s := (sums_cons s73 (sums_cons s11 (sums_cons s22 sums_nil)))
def e28_0 : Ent := (144296106234749386, [a0, x 0, a7], .tup [a5, x 0])
theorem q28_0 : E 28 e28_0 := mq l28 fun k => by kernel_rfl
def e28_1 : Ent := (247755368719404215, [a0, x 0, a9], .tup [a10, x 0])
theorem q28_1 : E 28 e28_1 := mq l28 fun k => by kernel_rfl
def e28_2 : Ent := (351214631204059044, [a0, x 0, a11], .tup [a13, x 0])
theorem q28_2 : E 28 e28_2 := mq l28 fun k => by kernel_rfl
def e28_3 : Ent := (846153872050531053, [a0, x 0, a16], .tup [a17, x 0])
theorem q28_3 : E 28 e28_3 := mq l28 fun k => by kernel_rfl
def e28_4 : Ent := (949865784645574557, [a0, x 0, a18], .tup [a10, x 0])
theorem q28_4 : E 28 e28_4 := mq l28 fun k => by kernel_rfl
def e28_5 : Ent := (371274340805917585, [a0, x 0, a19], .tup [a22, x 0])
theorem q28_5 : E 28 e28_5 := mq l28 fun k => by kernel_rfl
def e28_6 : Ent := (224462343384034502, [a0, x 0, a23], .tup [a10, x 0])
theorem q28_6 : E 28 e28_6 := mq l28 fun k => by kernel_rfl
def e28_7 : Ent := (1125856471194640435, [a0, x 0, a24], .tup [a13, x 0])
theorem q28_7 : E 28 e28_7 := mq l28 fun k => by kernel_rfl
def e28_8 : Ent := (787506795867751293, [a0, x 0, a25], .tup [a26, x 0])
theorem q28_8 : E 28 e28_8 := mq l28 fun k => by kernel_rfl
def e28_9 : Ent := (25092512056979518, [a0, x 0, a28], .tup [a30, x 0])
theorem q28_9 : E 28 e28_9 := mq l28 fun k => by kernel_rfl
def e28_10 : Ent := (884390021820060235, [a0, x 0, a31], .tup [a10, x 0])
theorem q28_10 : E 28 e28_10 := mq l28 fun k => by kernel_rfl
def e28_11 : Ent := (632862645023819285, [a0, x 0, a32], .tup [a13, x 0])
theorem q28_11 : E 28 e28_11 := mq l28 fun k => by kernel_rfl
def e28_12 : Ent := (779674642445702368, [a0, x 0, a33], .tup [a26, x 0])
theorem q28_12 : E 28 e28_12 := mq l28 fun k => by kernel_rfl
def e28_13 : Ent := (717115777939203351, [a0, x 0, a36], .tup [a17, x 0])
theorem q28_13 : E 28 e28_13 := mq l28 fun k => by kernel_rfl
def e28_14 : Ent := (221893177768770376, [a0, x 0, a41], .tup [a40, x 0])
theorem q28_14 : E 28 e28_14 := mq l28 fun k => by kernel_rfl
def e28_15 : Ent := (1081190687531851093, [a0, x 0, a42], .tup [a10, x 0])
theorem q28_15 : E 28 e28_15 := mq l28 fun k => by kernel_rfl
def e28_16 : Ent := (829663310735610143, [a0, x 0, a43], .tup [a13, x 0])
theorem q28_16 : E 28 e28_16 := mq l28 fun k => by kernel_rfl
def e28_17 : Ent := (976475308157493226, [a0, x 0, a44], .tup [a26, x 0])
theorem q28_17 : E 28 e28_17 := mq l28 fun k => by kernel_rfl
def e28_18 : Ent := (975955918223159443, [a0, x 0, a46], .tup [a48, x 0])
theorem q28_18 : E 28 e28_18 := mq l28 fun k => by kernel_rfl
def e28_19 : Ent := (465069011208628618, [a0, x 0, a53], .tup [a52, x 0])
theorem q28_19 : E 28 e28_19 := mq l28 fun k => by kernel_rfl
def e28_20 : Ent := (171445016364862452, [a0, x 0, a54], .tup [a10, x 0])
theorem q28_20 : E 28 e28_20 := mq l28 fun k => by kernel_rfl
def e28_21 : Ent := (1072839144175468385, [a0, x 0, a55], .tup [a13, x 0])
theorem q28_21 : E 28 e28_21 := mq l28 fun k => by kernel_rfl
def e28_22 : Ent := (66729636990504585, [a0, x 0, a56], .tup [a26, x 0])
theorem q28_22 : E 28 e28_22 := mq l28 fun k => by kernel_rfl
def e28_23 : Ent := (632367362460584804, [a0, x 0, a58], .tup [a48, x 0])
theorem q28_23 : E 28 e28_23 := mq l28 fun k => by kernel_rfl
def e28_24 : Ent := (380839985664343854, [a0, x 0, a64], .tup [a59, x 0])
theorem q28_24 : E 28 e28_24 := mq l28 fun k => by kernel_rfl
def e28_25 : Ent := (129312608868102904, [a0, x 0, a65], .tup [a63, x 0])
theorem q28_25 : E 28 e28_25 := mq l28 fun k => by kernel_rfl
def e28_26 : Ent := (988610118631183621, [a0, x 0, a66], .tup [a10, x 0])
theorem q28_26 : E 28 e28_26 := mq l28 fun k => by kernel_rfl
def e28_27 : Ent := (737082741834942671, [a0, x 0, a67], .tup [a13, x 0])
theorem q28_27 : E 28 e28_27 := mq l28 fun k => by kernel_rfl
def e28_28 : Ent := (883894739256825754, [a0, x 0, a68], .tup [a26, x 0])
theorem q28_28 : E 28 e28_28 := mq l28 fun k => by kernel_rfl
def e28_29 : Ent := (811653969298016056, [a0, x 0, a70], .tup [a10, x 0])
theorem q28_29 : E 28 e28_29 := mq l28 fun k => by kernel_rfl
def e28_30 : Ent := (560126592501775106, [a0, x 0, a76], .tup [a72, x 0])
theorem q28_30 : E 28 e28_30 := mq l28 fun k => by kernel_rfl
def e28_31 : Ent := (308599215705534156, [a0, x 0, a77], .tup [a75, x 0])
theorem q28_31 : E 28 e28_31 := mq l28 fun k => by kernel_rfl
def e28_32 : Ent := (14975220861767990, [a0, x 0, a78], .tup [a10, x 0])
theorem q28_32 : E 28 e28_32 := mq l28 fun k => by kernel_rfl
def e28_33 : Ent := (161252385227040985, [a0, x 0, a79], .tup [a13, x 0])
theorem q28_33 : E 28 e28_33 := mq l28 fun k => by kernel_rfl
def e28_34 : Ent := (308064382648924068, [a0, x 0, a80], .tup [a26, x 0])
theorem q28_34 : E 28 e28_34 := mq l28 fun k => by kernel_rfl
def e28_35 : Ent := (770402675018619020, [a0, x 0, a81], .tup [a84, x 0])
theorem q28_35 : E 28 e28_35 := mq l28 fun k => by kernel_rfl
def e28_36 : Ent := (728306056971093804, [a0, x 0, a85], .tup [a10, x 0])
theorem q28_36 : E 28 e28_36 := mq l28 fun k => by kernel_rfl
def e28_37 : Ent := (476778680174852854, [a0, x 0, a86], .tup [a13, x 0])
theorem q28_37 : E 28 e28_37 := mq l28 fun k => by kernel_rfl
def e28_38 : Ent := (276135480212973782, [a0, x 0, a87], .tup [a88, x 0])
theorem q28_38 : E 28 e28_38 := mq l28 fun k => by kernel_rfl
def e28_39 : Ent := (527662857009214732, [a0, x 0, a89], .tup [a92, x 0])
theorem q28_39 : E 28 e28_39 := mq l28 fun k => by kernel_rfl
def e28_40 : Ent := (485566238961689516, [a0, x 0, a93], .tup [a10, x 0])
theorem q28_40 : E 28 e28_40 := mq l28 fun k => by kernel_rfl
def e28_41 : Ent := (234038862165448566, [a0, x 0, a94], .tup [a13, x 0])
theorem q28_41 : E 28 e28_41 := mq l28 fun k => by kernel_rfl
def e28_42 : Ent := (683262473744577296, [a0, x 0, a95], .tup [a97, x 0])
theorem q28_42 : E 28 e28_42 := mq l28 fun k => by kernel_rfl
def e28_43 : Ent := (284923099526483054, [a0, x 0, a98], .tup [a100, x 0])
theorem q28_43 : E 28 e28_43 := mq l28 fun k => by kernel_rfl
def e28_44 : Ent := (242826481478957838, [a0, x 0, a101], .tup [a10, x 0])
theorem q28_44 : E 28 e28_44 := mq l28 fun k => by kernel_rfl
def e28_45 : Ent := (1144220609289563771, [a0, x 0, a102], .tup [a13, x 0])
theorem q28_45 : E 28 e28_45 := mq l28 fun k => by kernel_rfl
def e28_46 : Ent := (692050032531443749, [a0, x 0, a103], .tup [a104, x 0])
theorem q28_46 : E 28 e28_46 := mq l28 fun k => by kernel_rfl
def e28_47 : Ent := (42183281517078766, [a0, x 0, a105], .tup [a108, x 0])
theorem q28_47 : E 28 e28_47 := mq l28 fun k => by kernel_rfl
def e28_48 : Ent := (86663469553550, [a0, x 0, a109], .tup [a10, x 0])
theorem q28_48 : E 28 e28_48 := mq l28 fun k => by kernel_rfl
def e28_49 : Ent := (901480791280159483, [a0, x 0, a110], .tup [a13, x 0])
theorem q28_49 : E 28 e28_49 := mq l28 fun k => by kernel_rfl
def e28_50 : Ent := (197782837727615762, [a0, x 0, a111], .tup [a113, x 0])
theorem q28_50 : E 28 e28_50 := mq l28 fun k => by kernel_rfl
def e28_51 : Ent := (952364968116368403, [a0, x 0, a114], .tup [a117, x 0])
theorem q28_51 : E 28 e28_51 := mq l28 fun k => by kernel_rfl
def e28_52 : Ent := (910268350068843187, [a0, x 0, a118], .tup [a10, x 0])
theorem q28_52 : E 28 e28_52 := mq l28 fun k => by kernel_rfl
def e28_53 : Ent := (658740973272602237, [a0, x 0, a119], .tup [a13, x 0])
theorem q28_53 : E 28 e28_53 := mq l28 fun k => by kernel_rfl
def e28_54 : Ent := (562813152685081032, [a0, x 0, a120], .tup [a121, x 0])
theorem q28_54 : E 28 e28_54 := mq l28 fun k => by kernel_rfl
def e28_55 : Ent := (362119528306838558, [a0, x 0, a122], .tup [a123, x 0])
theorem q28_55 : E 28 e28_55 := mq l28 fun k => by kernel_rfl
def e28_56 : Ent := (68495533463072392, [a0, x 0, a124], .tup [a10, x 0])
theorem q28_56 : E 28 e28_56 := mq l28 fun k => by kernel_rfl
def e28_57 : Ent := (969889661273678325, [a0, x 0, a125], .tup [a13, x 0])
theorem q28_57 : E 28 e28_57 := mq l28 fun k => by kernel_rfl
def e28_58 : Ent := (1116701658695561408, [a0, x 0, a126], .tup [a121, x 0])
theorem q28_58 : E 28 e28_58 := mq l28 fun k => by kernel_rfl
def e28_59 : Ent := (1054142794189062391, [a0, x 0, a127], .tup [a17, x 0])
theorem q28_59 : E 28 e28_59 := mq l28 fun k => by kernel_rfl
def e28_60 : Ent := (558920194018629416, [a0, x 0, a129], .tup [a128, x 0])
theorem q28_60 : E 28 e28_60 := mq l28 fun k => by kernel_rfl
def e28_61 : Ent := (265296199174863250, [a0, x 0, a130], .tup [a10, x 0])
theorem q28_61 : E 28 e28_61 := mq l28 fun k => by kernel_rfl
def e28_62 : Ent := (13768822378622300, [a0, x 0, a131], .tup [a13, x 0])
theorem q28_62 : E 28 e28_62 := mq l28 fun k => by kernel_rfl
def e28_63 : Ent := (160580819800505383, [a0, x 0, a132], .tup [a121, x 0])
theorem q28_63 : E 28 e28_63 := mq l28 fun k => by kernel_rfl
def e28_64 : Ent := (160061429866171600, [a0, x 0, a133], .tup [a134, x 0])
theorem q28_64 : E 28 e28_64 := mq l28 fun k => by kernel_rfl
def e28_65 : Ent := (802096027458487658, [a0, x 0, a136], .tup [a135, x 0])
theorem q28_65 : E 28 e28_65 := mq l28 fun k => by kernel_rfl
def e28_66 : Ent := (508472032614721492, [a0, x 0, a137], .tup [a10, x 0])
theorem q28_66 : E 28 e28_66 := mq l28 fun k => by kernel_rfl
def e28_67 : Ent := (256944655818480542, [a0, x 0, a138], .tup [a13, x 0])
theorem q28_67 : E 28 e28_67 := mq l28 fun k => by kernel_rfl
def e28_68 : Ent := (403756653240363625, [a0, x 0, a139], .tup [a121, x 0])
theorem q28_68 : E 28 e28_68 := mq l28 fun k => by kernel_rfl
def e28_69 : Ent := (969394378710443844, [a0, x 0, a140], .tup [a134, x 0])
theorem q28_69 : E 28 e28_69 := mq l28 fun k => by kernel_rfl
def e28_70 : Ent := (717867001914202894, [a0, x 0, a143], .tup [a141, x 0])
theorem q28_70 : E 28 e28_70 := mq l28 fun k => by kernel_rfl
def e28_71 : Ent := (466339625117961944, [a0, x 0, a144], .tup [a142, x 0])
theorem q28_71 : E 28 e28_71 := mq l28 fun k => by kernel_rfl
def e28_72 : Ent := (172715630274195778, [a0, x 0, a145], .tup [a10, x 0])
theorem q28_72 : E 28 e28_72 := mq l28 fun k => by kernel_rfl
def e28_73 : Ent := (1074109758084801711, [a0, x 0, a146], .tup [a13, x 0])
theorem q28_73 : E 28 e28_73 := mq l28 fun k => by kernel_rfl
def e28_74 : Ent := (68000250899837911, [a0, x 0, a147], .tup [a121, x 0])
theorem q28_74 : E 28 e28_74 := mq l28 fun k => by kernel_rfl
def e28_75 : Ent := (645626231955393196, [a0, x 0, a148], .tup [a149, x 0])
theorem q28_75 : E 28 e28_75 := mq l28 fun k => by kernel_rfl
def e28_76 : Ent := (352002237111627030, [a0, x 0, a150], .tup [a10, x 0])
theorem q28_76 : E 28 e28_76 := mq l28 fun k => by kernel_rfl
def e28_77 : Ent := (100474860315386080, [a0, x 0, a151], .tup [a13, x 0])
theorem q28_77 : E 28 e28_77 := mq l28 fun k => by kernel_rfl
def e28_78 : Ent := (247286857737269163, [a0, x 0, a152], .tup [a121, x 0])
theorem q28_78 : E 28 e28_78 := mq l28 fun k => by kernel_rfl
def e28_79 : Ent := (709625150106964115, [a0, x 0, a153], .tup [a156, x 0])
theorem q28_79 : E 28 e28_79 := mq l28 fun k => by kernel_rfl
def e28_80 : Ent := (667528532059438899, [a0, x 0, a157], .tup [a10, x 0])
theorem q28_80 : E 28 e28_80 := mq l28 fun k => by kernel_rfl
def e28_81 : Ent := (416001155263197949, [a0, x 0, a158], .tup [a13, x 0])
theorem q28_81 : E 28 e28_81 := mq l28 fun k => by kernel_rfl
def e28_82 : Ent := (1031415575046694392, [a0, x 0, a163], .tup [a164, x 0])
theorem q28_82 : E 28 e28_82 := mq l28 fun k => by kernel_rfl
def e28_83 : Ent := (256943413202412340, [a0, x 0, a167], .tup [a168, x 0])
theorem q28_83 : E 28 e28_83 := mq l28 fun k => by kernel_rfl
def e28_84 : Ent := (227249446795043404, [a0, x 0, a170], .tup [a171, x 0])
theorem q28_84 : E 28 e28_84 := mq l28 fun k => by kernel_rfl
def e28_85 : Ent := (1010153095332105170, [a0, x 0, a173], .tup [a48, x 0])
theorem q28_85 : E 28 e28_85 := mq l28 fun k => by kernel_rfl
def e28_86 : Ent := (1026134316903190631, [a0, x 0, a178], .tup [a179, x 0])
theorem q28_86 : E 28 e28_86 := mq l28 fun k => by kernel_rfl
def M28 : List Ent := [e28_0, e28_1, e28_2, e28_3, e28_4, e28_5, e28_6, e28_7, e28_8, e28_9, e28_10, e28_11, e28_12, e28_13, e28_14, e28_15, e28_16, e28_17, e28_18, e28_19, e28_20, e28_21, e28_22, e28_23, e28_24, e28_25, e28_26, e28_27, e28_28, e28_29, e28_30, e28_31, e28_32, e28_33, e28_34, e28_35, e28_36, e28_37, e28_38, e28_39, e28_40, e28_41, e28_42, e28_43, e28_44, e28_45, e28_46, e28_47, e28_48, e28_49, e28_50, e28_51, e28_52, e28_53, e28_54, e28_55, e28_56, e28_57, e28_58, e28_59, e28_60, e28_61, e28_62, e28_63, e28_64, e28_65, e28_66, e28_67, e28_68, e28_69, e28_70, e28_71, e28_72, e28_73, e28_74, e28_75, e28_76, e28_77, e28_78, e28_79, e28_80, e28_81, e28_82, e28_83, e28_84, e28_85, e28_86]
theorem s28 : SumOk Tryz.prog (gmap gs) (28, memoH M28) := memoH_sum (mc q28_0 (mc q28_1 (mc q28_2 (mc q28_3 (mc q28_4 (mc q28_5 (mc q28_6 (mc q28_7 (mc q28_8 (mc q28_9 (mc q28_10 (mc q28_11 (mc q28_12 (mc q28_13 (mc q28_14 (mc q28_15 (mc q28_16 (mc q28_17 (mc q28_18 (mc q28_19 (mc q28_20 (mc q28_21 (mc q28_22 (mc q28_23 (mc q28_24 (mc q28_25 (mc q28_26 (mc q28_27 (mc q28_28 (mc q28_29 (mc q28_30 (mc q28_31 (mc q28_32 (mc q28_33 (mc q28_34 (mc q28_35 (mc q28_36 (mc q28_37 (mc q28_38 (mc q28_39 (mc q28_40 (mc q28_41 (mc q28_42 (mc q28_43 (mc q28_44 (mc q28_45 (mc q28_46 (mc q28_47 (mc q28_48 (mc q28_49 (mc q28_50 (mc q28_51 (mc q28_52 (mc q28_53 (mc q28_54 (mc q28_55 (mc q28_56 (mc q28_57 (mc q28_58 (mc q28_59 (mc q28_60 (mc q28_61 (mc q28_62 (mc q28_63 (mc q28_64 (mc q28_65 (mc q28_66 (mc q28_67 (mc q28_68 (mc q28_69 (mc q28_70 (mc q28_71 (mc q28_72 (mc q28_73 (mc q28_74 (mc q28_75 (mc q28_76 (mc q28_77 (mc q28_78 (mc q28_79 (mc q28_80 (mc q28_81 (mc q28_82 (mc q28_83 (mc q28_84 (mc q28_85 (mc q28_86 memoH_nil)))))))))))))))))))))))))))))))))))))))))))))))))))))))))))))))))))))))))))))))))))))))
def e69_0 : Ent := (261679962693091325, [a0], .tup [.lst [u 0, u 0, u 0, u 0, u 0, u 0, u 0, u 0, u 7, u 0, u 0, u 0, u 0, u 0, u 0, u 0, u 0, u 0, u 0, u 0, u 0, u 0, u 0, u 0, u 0, u 0, u 0, u 0, u 0, u 0, u 0, u 0, u 0, u 0, u 0, u 0, u 0, u 0, u 0, u 0, u 0, u 0, u 0, u 0] 11, x 0])
theorem q69_0 : E 69 e69_0 := mq (sums_cons s73 (sums_cons s143 sums_nil)) fun k => by kernel_rfl
def M69 : List Ent := [e69_0]
theorem s69 : SumOk Tryz.prog (gmap gs) (69, memoH M69) := memoH_sum (mc q69_0 memoH_nil)
def e191_0 : Ent := (758402636004931417, [a0, a8], .tup [.bool false, x 0])
theorem q191_0 : E 191 e191_0 := mq (sums_cons s73 sums_nil) fun k => by kernel_rfl
def M191 : List Ent := [e191_0]
theorem s191 : SumOk Tryz.prog (gmap gs) (191, memoH M191) := memoH_sum (mc q191_0 memoH_nil)
theorem l129 : ∀ s ∈ ([(73, memoH M73), (34, memoH M34), (80, memoH M80), (238, memoH M238), (191, memoH M191)] : List Sum), SumOk Tryz.prog (gmap gs) s := (sums_cons s73 (sums_cons s34 (sums_cons s80 (sums_cons s238 (sums_cons s191 sums_nil)))))
def e129_0 : Ent := (136195067922429595, [a0, x 0, a162, a165], .tup [a166, .bool false, x 0])
theorem q129_0 : E 129 e129_0 := mq l129 fun k => by kernel_rfl
def e129_1 : Ent := (841684543701009774, [a0, x 0, .agg [y 2, x 1, x 0, u 0, y 11, w 1, w 7, y 0, y 0, y 0, y 0, y 0, y 0, w 0, w 0, x 0, w 0, .lst [] 0, x 0], a8], .tup [a169, .bool false, x 0])
theorem q129_1 : E 129 e129_1 := mq l129 fun k => by kernel_rfl
def e129_2 : Ent := (732493942510713066, [a0, x 0, .agg [y 3, x 1, x 0, u 0, y 11, w 1, w 7, y 0, y 0, y 0, y 0, y 0, y 0, w 0, w 0, x 0, w 0, .lst [] 0, x 0], a165], .tup [a172, .bool false, x 0])
theorem q129_2 : E 129 e129_2 := mq l129 fun k => by kernel_rfl
def e129_3 : Ent := (785998336870067644, [a0, x 0, .agg [y 4, x 1, x 1, u 1, y 11, w 1, w 7, y 0, y 0, y 0, y 0, y 0, y 0, w 0, w 0, x 0, w 0, .lst [] 0, x 0], a174], .tup [a177, .bool false, x 0])
theorem q129_3 : E 129 e129_3 := mq l129 fun k => by kernel_rfl
def e129_4 : Ent := (1038606154098507399, [a0, x 0, .agg [y 6, x 1, x 1, u 1, y 11, w 1, w 7, y 20, y 0, y 0, y 0, y 0, y 0, w 2, w 0, x 0, w 2, .lst [] 0, x 0], a180], .tup [a177, .bool true, x 0])
theorem q129_4 : E 129 e129_4 := mq l129 fun k => by kernel_rfl
def M129 : List Ent := [e129_0, e129_1, e129_2, e129_3, e129_4]
theorem s129 : SumOk Tryz.prog (gmap gs) (129, memoH M129) := memoH_sum (mc q129_0 (mc q129_1 (mc q129_2 (mc q129_3 (mc q129_4 memoH_nil)))))
theorem l268 : ∀ s ∈ ([(73, memoH M73)] : List Sum), SumOk Tryz.prog (gmap gs) s := (sums_cons s73 sums_nil)
def e268_0 : Ent := (923183113244080589, [a0, a96, a8], .tup [.agg [u 65539, x 1, u 0], .bool true, x 0])
theorem q268_0 : E 268 e268_0 := mq l268 fun k => by kernel_rfl
def e268_1 : Ent := (923183115019087951, [a0, a112, a8], .tup [.agg [u 65541, x 1, u 0], .bool true, x 0])
theorem q268_1 : E 268 e268_1 := mq l268 fun k => by kernel_rfl
def M268 : List Ent := [e268_0, e268_1]
theorem s268 : SumOk Tryz.prog (gmap gs) (268, memoH M268) := memoH_sum (mc q268_0 (mc q268_1 memoH_nil))
theorem l269 : ∀ s ∈ ([] : List Sum), SumOk Tryz.prog (gmap gs) s := sums_nil
def e269_0 : Ent := (7603656, [u 1, a8], .tup [.agg [x 0, w 0, .nils], u 0, .bool false])
theorem q269_0 : E 269 e269_0 := mq l269 fun k => by kernel_rfl
def e269_1 : Ent := (7633448, [u 1, a71], .tup [.agg [x 0, w 0, .nils], u 1, .bool true])
theorem q269_1 : E 269 e269_1 := mq l269 fun k => by kernel_rfl
def M269 : List Ent := [e269_0, e269_1]
theorem s269 : SumOk Tryz.prog (gmap gs) (269, memoH M269) := memoH_sum (mc q269_0 (mc q269_1 memoH_nil))
def e295_0 : Ent := (461911249411, [a4, a8], .bool true)
theorem q295_0 : E 295 e295_0 := mq sums_nil fun k => by kernel_rfl
def M295 : List Ent := [e295_0]
theorem s295 : SumOk Tryz.prog (gmap gs) (295, memoH M295) := memoH_sum (mc q295_0 memoH_nil)
theorem l134 : ∀ s ∈ ([(73, memoH M73), (53, memoH M53), (11, memoH M11), (89, memoH M89), (14, memoH M14), (16, memoH M16), (18, memoH M18), (176, memoH M176), (179, memoH M179), (22, memoH M22), (129, memoH M129), (268, memoH M268), (269, memoH M269), (295, memoH M295)] : List Sum), SumOk Tryz.prog (gmap gs) s := (sums_cons s73 (sums_cons s53 (sums_cons s11 (sums_cons s89 (sums_cons s14 (sums_cons s16 (sums_cons s18 (sums_cons s176 (sums_cons s179 (sums_cons s22 (sums_cons s129 (sums_cons s268 (sums_cons s269 (sums_cons s295 sums_nil))))))))))))))
def e134_0 : Ent := (52216039590952039, [a0, x 0, a7, a8], .tup [a9, .agg [x 0, w 0, .nils], .bool false, x 0])
theorem q134_0 : E 134 e134_0 := mq l134 fun k => by kernel_rfl
def e134_1 : Ent := (789913847281550089, [a0, x 0, a9, a8], .tup [a11, .agg [x 0, w 0, .nils], .bool false, x 0])
theorem q134_1 : E 134 e134_1 := mq l134 fun k => by kernel_rfl
def e134_2 : Ent := (374690150365509793, [a0, x 0, a11, a15], .tup [a16, .agg [x 0, w 0, .nils], .bool false, x 0])
theorem q134_2 : E 134 e134_2 := mq l134 fun k => by kernel_rfl
def e134_3 : Ent := (1050540999133422323, [a0, x 0, a16, a4], .tup [a18, .agg [x 0, w 0, .nils], .bool false, x 0])
theorem q134_3 : E 134 e134_3 := mq l134 fun k => by kernel_rfl
def e134_4 : Ent := (1072855967893343124, [a0, x 0, a18, a8], .tup [a19, .agg [x 0, w 0, .nils], .bool false, x 0])
theorem q134_4 : E 134 e134_4 := mq l134 fun k => by kernel_rfl
def e134_5 : Ent := (795025345551436610, [a0, x 0, a19, a15], .tup [a23, .agg [x 0, w 0, .nils], .bool false, x 0])
theorem q134_5 : E 134 e134_5 := mq l134 fun k => by kernel_rfl
def e134_6 : Ent := (401296055857973630, [a0, x 0, a23, a8], .tup [a24, .agg [x 0, w 0, .nils], .bool false, x 0])
theorem q134_6 : E 134 e134_6 := mq l134 fun k => by kernel_rfl
def e134_7 : Ent := (211498004081989248, [a0, x 0, a24, a21], .tup [a25, .agg [x 0, w 0, .nils], .bool false, x 0])
theorem q134_7 : E 134 e134_7 := mq l134 fun k => by kernel_rfl
def e134_8 : Ent := (37619518032425379, [a0, x 0, a25, a8], .tup [a28, .agg [x 0, w 0, .nils], .bool false, x 0])
theorem q134_8 : E 134 e134_8 := mq l134 fun k => by kernel_rfl
end Go.Bas.BasTRAlive
