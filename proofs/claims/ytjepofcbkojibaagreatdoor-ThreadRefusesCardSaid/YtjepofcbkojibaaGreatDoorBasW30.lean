/- Known answers of a closed run, each reckoned by the kernel. -/
import Derived.Test.YtjepofcbkojibaaGreatDoorBasW29
set_option maxRecDepth 100000
set_option maxHeartbeats 4000000
set_option linter.unusedVariables false
set_option linter.unusedSimpArgs false
namespace Go.Bas.BasTRAlive
open Go.RowKit Go.Proofs BasZBase
def e134_71 : Ent := (744132346700723531, [a0, x 0, a144, a51], .tup [a145, .agg [x 0, w 0, .nils], .bool false, x 0])
theorem q134_71 : E 134 e134_71 := mq l134 fun k => by kernel_rfl
def e134_72 : Ent := (974345602899923451, [a0, x 0, a145, a71], .tup [a146, .agg [x 0, w 0, .nils], .bool false, x 0])
theorem q134_72 : E 134 e134_72 := mq l134 fun k => by kernel_rfl
def e134_73 : Ent := (784547551124058232, [a0, x 0, a146, a116], .tup [a147, .agg [x 0, w 0, .nils], .bool false, x 0])
theorem q134_73 : E 134 e134_73 := mq l134 fun k => by kernel_rfl
def e134_74 : Ent := (160605004412742497, [a0, x 0, a147, a62], .tup [a148, .agg [x 0, w 0, .nils], .bool false, x 0])
theorem q134_74 : E 134 e134_74 := mq l134 fun k => by kernel_rfl
def e134_75 : Ent := (21602851473418180, [a0, x 0, a148, a62], .tup [a150, .agg [x 0, w 0, .nils], .bool false, x 0])
theorem q134_75 : E 134 e134_75 := mq l134 fun k => by kernel_rfl
def e134_76 : Ent := (251816106538946581, [a0, x 0, a150, a71], .tup [a151, .agg [x 0, w 0, .nils], .bool false, x 0])
theorem q134_76 : E 134 e134_76 := mq l134 fun k => by kernel_rfl
def e134_77 : Ent := (62018054763081362, [a0, x 0, a151, a116], .tup [a152, .agg [x 0, w 0, .nils], .bool false, x 0])
theorem q134_77 : E 134 e134_77 := mq l134 fun k => by kernel_rfl
def e134_78 : Ent := (455747344456276223, [a0, x 0, a152, a74], .tup [a153, .agg [x 0, w 0, .nils], .bool false, x 0])
theorem q134_78 : E 134 e134_78 := mq l134 fun k => by kernel_rfl
def e134_79 : Ent := (863231274799217162, [a0, x 0, a153, a116], .tup [a157, .agg [x 0, w 0, .nils], .bool false, x 0])
theorem q134_79 : E 134 e134_79 := mq l134 fun k => by kernel_rfl
def e134_80 : Ent := (265570747188573495, [a0, x 0, a157, a71], .tup [a158, .agg [x 0, w 0, .nils], .bool false, x 0])
theorem q134_80 : E 134 e134_80 := mq l134 fun k => by kernel_rfl
def e134_81 : Ent := (75772695412738067, [a0, x 0, a158, a155], .tup [a159, .agg [x 0, w 0, .nils], .bool true, x 0])
theorem q134_81 : E 134 e134_81 := mq l134 fun k => by kernel_rfl
def e134_82 : Ent := (572470064771081004, [a0, x 0, a163, a165], .tup [a167, .agg [x 0, w 0, .nils], .bool false, x 0])
theorem q134_82 : E 134 e134_82 := mq l134 fun k => by kernel_rfl
def e134_83 : Ent := (639668933035099334, [a0, x 0, a167, a8], .tup [a170, .agg [x 0, w 0, .nils], .bool false, x 0])
theorem q134_83 : E 134 e134_83 := mq l134 fun k => by kernel_rfl
def e134_84 : Ent := (1029027013680298653, [a0, x 0, a170, a165], .tup [a173, .agg [x 0, w 0, .nils], .bool false, x 0])
theorem q134_84 : E 134 e134_84 := mq l134 fun k => by kernel_rfl
def e134_85 : Ent := (785008031434391970, [a0, x 0, a173, a174], .tup [a178, .agg [x 0, w 0, .nils], .bool false, x 0])
theorem q134_85 : E 134 e134_85 := mq l134 fun k => by kernel_rfl
def e134_86 : Ent := (77632603044150637, [a0, x 0, a178, a180], .tup [.agg [x 3, y 0, y 0, x 0, x 0, u 0, y 0, w 0, w 0, y 0, y 0, y 0, y 0, y 0, y 0, w 0, w 0, x 0, w 0, .nils, x 0, y 0, u 0, y 0, w 0, w 0, w 0, .bool false, x 0, w 0, .nils, u 0, u 0, u 0, u 0, u 0, u 0, u 0, u 0, u 0, u 0, u 0, u 0, u 0, .nils, u 0, x 0, u 0, u 1, .bool false], .agg [x 0, w 2, .ns], .bool true, x 0])
theorem q134_86 : E 134 e134_86 := mq l134 fun k => by kernel_rfl
def M134 : List Ent := [e134_0, e134_1, e134_2, e134_3, e134_4, e134_5, e134_6, e134_7, e134_8, e134_9, e134_10, e134_11, e134_12, e134_13, e134_14, e134_15, e134_16, e134_17, e134_18, e134_19, e134_20, e134_21, e134_22, e134_23, e134_24, e134_25, e134_26, e134_27, e134_28, e134_29, e134_30, e134_31, e134_32, e134_33, e134_34, e134_35, e134_36, e134_37, e134_38, e134_39, e134_40, e134_41, e134_42, e134_43, e134_44, e134_45, e134_46, e134_47, e134_48, e134_49, e134_50, e134_51, e134_52, e134_53, e134_54, e134_55, e134_56, e134_57, e134_58, e134_59, e134_60, e134_61, e134_62, e134_63, e134_64, e134_65, e134_66, e134_67, e134_68, e134_69, e134_70, e134_71, e134_72, e134_73, e134_74, e134_75, e134_76, e134_77, e134_78, e134_79, e134_80, e134_81, e134_82, e134_83, e134_84, e134_85, e134_86]
theorem s134 : SumOk Tryz.prog (gmap gs) (134, memoH M134) := memoH_sum (mc q134_0 (mc q134_1 (mc q134_2 (mc q134_3 (mc q134_4 (mc q134_5 (mc q134_6 (mc q134_7 (mc q134_8 (mc q134_9 (mc q134_10 (mc q134_11 (mc q134_12 (mc q134_13 (mc q134_14 (mc q134_15 (mc q134_16 (mc q134_17 (mc q134_18 (mc q134_19 (mc q134_20 (mc q134_21 (mc q134_22 (mc q134_23 (mc q134_24 (mc q134_25 (mc q134_26 (mc q134_27 (mc q134_28 (mc q134_29 (mc q134_30 (mc q134_31 (mc q134_32 (mc q134_33 (mc q134_34 (mc q134_35 (mc q134_36 (mc q134_37 (mc q134_38 (mc q134_39 (mc q134_40 (mc q134_41 (mc q134_42 (mc q134_43 (mc q134_44 (mc q134_45 (mc q134_46 (mc q134_47 (mc q134_48 (mc q134_49 (mc q134_50 (mc q134_51 (mc q134_52 (mc q134_53 (mc q134_54 (mc q134_55 (mc q134_56 (mc q134_57 (mc q134_58 (mc q134_59 (mc q134_60 (mc q134_61 (mc q134_62 (mc q134_63 (mc q134_64 (mc q134_65 (mc q134_66 (mc q134_67 (mc q134_68 (mc q134_69 (mc q134_70 (mc q134_71 (mc q134_72 (mc q134_73 (mc q134_74 (mc q134_75 (mc q134_76 (mc q134_77 (mc q134_78 (mc q134_79 (mc q134_80 (mc q134_81 (mc q134_82 (mc q134_83 (mc q134_84 (mc q134_85 (mc q134_86 memoH_nil)))))))))))))))))))))))))))))))))))))))))))))))))))))))))))))))))))))))))))))))))))))))
end Go.Bas.BasTRAlive
