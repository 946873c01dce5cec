/- Known answers of a closed run, each reckoned by the kernel. -/
import Derived.Test.YtjepofcbkojibaaGreatDoorBasW28
set_option maxRecDepth 100000
set_option maxHeartbeats 4000000
set_option linter.unusedVariables false
set_option linter.unusedSimpArgs false
namespace Go.Bas.BasTRAlive
open Go.RowKit Go.Proofs BasZBase
def e134_9 : Ent := (892506280766156949, [a0, x 0, a28, a8], .tup [a31, .agg [x 0, w 0, .nils], .bool false, x 0])
theorem q134_9 : E 134 e134_9 := mq l134 fun k => by kernel_rfl
def e134_10 : Ent := (105047701379648063, [a0, x 0, a31, a8], .tup [a32, .agg [x 0, w 0, .nils], .bool false, x 0])
theorem q134_10 : E 134 e134_10 := mq l134 fun k => by kernel_rfl
def e134_11 : Ent := (1068171154210510564, [a0, x 0, a32, a21], .tup [a33, .agg [x 0, w 0, .nils], .bool false, x 0])
theorem q134_11 : E 134 e134_11 := mq l134 fun k => by kernel_rfl
def e134_12 : Ent := (308978939296887372, [a0, x 0, a33, a34], .tup [a36, .agg [x 0, w 0, .nils], .bool false, x 0])
theorem q134_12 : E 134 e134_12 := mq l134 fun k => by kernel_rfl
def e134_13 : Ent := (1086309889177111110, [a0, x 0, a36, a4], .tup [a41, .agg [x 0, w 0, .nils], .bool false, x 0])
theorem q134_13 : E 134 e134_13 := mq l134 fun k => by kernel_rfl
def e134_14 : Ent := (435354364360334174, [a0, x 0, a41, a34], .tup [a42, .agg [x 0, w 0, .nils], .bool false, x 0])
theorem q134_14 : E 134 e134_14 := mq l134 fun k => by kernel_rfl
def e134_15 : Ent := (800817287628289195, [a0, x 0, a42, a8], .tup [a43, .agg [x 0, w 0, .nils], .bool false, x 0])
theorem q134_15 : E 134 e134_15 := mq l134 fun k => by kernel_rfl
def e134_16 : Ent := (611019235852304813, [a0, x 0, a43, a21], .tup [a44, .agg [x 0, w 0, .nils], .bool false, x 0])
theorem q134_16 : E 134 e134_16 := mq l134 fun k => by kernel_rfl
def e134_17 : Ent := (1004749466178853206, [a0, x 0, a44, a39], .tup [a46, .agg [x 0, w 0, .nils], .bool false, x 0])
theorem q134_17 : E 134 e134_17 := mq l134 fun k => by kernel_rfl
def e134_18 : Ent := (952582894171838913, [a0, x 0, a46, a8], .tup [a53, .agg [x 0, w 0, .nils], .bool false, x 0])
theorem q134_18 : E 134 e134_18 := mq l134 fun k => by kernel_rfl
def e134_19 : Ent := (844347148612829388, [a0, x 0, a53, a39], .tup [a54, .agg [x 0, w 0, .nils], .bool false, x 0])
theorem q134_19 : E 134 e134_19 := mq l134 fun k => by kernel_rfl
def e134_20 : Ent := (56887626640612824, [a0, x 0, a54, a8], .tup [a55, .agg [x 0, w 0, .nils], .bool false, x 0])
theorem q134_20 : E 134 e134_20 := mq l134 fun k => by kernel_rfl
def e134_21 : Ent := (1020011079471475325, [a0, x 0, a55, a21], .tup [a56, .agg [x 0, w 0, .nils], .bool false, x 0])
theorem q134_21 : E 134 e134_21 := mq l134 fun k => by kernel_rfl
def e134_22 : Ent := (396068531626637026, [a0, x 0, a56, a51], .tup [a58, .agg [x 0, w 0, .nils], .bool false, x 0])
theorem q134_22 : E 134 e134_22 := mq l134 fun k => by kernel_rfl
def e134_23 : Ent := (221238895698334903, [a0, x 0, a58, a8], .tup [a64, .agg [x 0, w 0, .nils], .bool false, x 0])
theorem q134_23 : E 134 e134_23 := mq l134 fun k => by kernel_rfl
def e134_24 : Ent := (31440841969936793, [a0, x 0, a64, a8], .tup [a65, .agg [x 0, w 0, .nils], .bool false, x 0])
theorem q134_24 : E 134 e134_24 := mq l134 fun k => by kernel_rfl
def e134_25 : Ent := (1129813961869553435, [a0, x 0, a65, a51], .tup [a66, .agg [x 0, w 0, .nils], .bool false, x 0])
theorem q134_25 : E 134 e134_25 := mq l134 fun k => by kernel_rfl
def e134_26 : Ent := (207105713461876680, [a0, x 0, a66, a8], .tup [a67, .agg [x 0, w 0, .nils], .bool false, x 0])
theorem q134_26 : E 134 e134_26 := mq l134 fun k => by kernel_rfl
def e134_27 : Ent := (17307661685892298, [a0, x 0, a67, a21], .tup [a68, .agg [x 0, w 0, .nils], .bool false, x 0])
theorem q134_27 : E 134 e134_27 := mq l134 fun k => by kernel_rfl
def e134_28 : Ent := (546286619581572401, [a0, x 0, a68, a62], .tup [a70, .agg [x 0, w 0, .nils], .bool false, x 0])
theorem q134_28 : E 134 e134_28 := mq l134 fun k => by kernel_rfl
def e134_29 : Ent := (651630903944204916, [a0, x 0, a70, a8], .tup [a76, .agg [x 0, w 0, .nils], .bool false, x 0])
theorem q134_29 : E 134 e134_29 := mq l134 fun k => by kernel_rfl
def e134_30 : Ent := (461832850215806806, [a0, x 0, a76, a8], .tup [a77, .agg [x 0, w 0, .nils], .bool false, x 0])
theorem q134_30 : E 134 e134_30 := mq l134 fun k => by kernel_rfl
def e134_31 : Ent := (407284466642248084, [a0, x 0, a77, a62], .tup [a78, .agg [x 0, w 0, .nils], .bool false, x 0])
theorem q134_31 : E 134 e134_31 := mq l134 fun k => by kernel_rfl
def e134_32 : Ent := (637497721707776485, [a0, x 0, a78, a71], .tup [a79, .agg [x 0, w 0, .nils], .bool false, x 0])
theorem q134_32 : E 134 e134_32 := mq l134 fun k => by kernel_rfl
def e134_33 : Ent := (552071711478800940, [a0, x 0, a79, a21], .tup [a80, .agg [x 0, w 0, .nils], .bool false, x 0])
theorem q134_33 : E 134 e134_33 := mq l134 fun k => by kernel_rfl
def e134_34 : Ent := (945801001172144756, [a0, x 0, a80, a74], .tup [a81, .agg [x 0, w 0, .nils], .bool false, x 0])
theorem q134_34 : E 134 e134_34 := mq l134 fun k => by kernel_rfl
def e134_35 : Ent := (200363426908089857, [a0, x 0, a81, a21], .tup [a85, .agg [x 0, w 0, .nils], .bool false, x 0])
theorem q134_35 : E 134 e134_35 := mq l134 fun k => by kernel_rfl
def e134_36 : Ent := (755624403904442028, [a0, x 0, a85, a71], .tup [a86, .agg [x 0, w 0, .nils], .bool false, x 0])
theorem q134_36 : E 134 e134_36 := mq l134 fun k => by kernel_rfl
def e134_37 : Ent := (565826352128457645, [a0, x 0, a86, a83], .tup [a87, .agg [x 0, w 0, .nils], .bool false, x 0])
theorem q134_37 : E 134 e134_37 := mq l134 fun k => by kernel_rfl
def e134_38 : Ent := (1054296272691444257, [a0, x 0, a87, a8], .tup [a89, .agg [x 0, w 0, .nils], .bool false, x 0])
theorem q134_38 : E 134 e134_38 := mq l134 fun k => by kernel_rfl
def e134_39 : Ent := (91172823765439003, [a0, x 0, a89, a83], .tup [a93, .agg [x 0, w 0, .nils], .bool false, x 0])
theorem q134_39 : E 134 e134_39 := mq l134 fun k => by kernel_rfl
def e134_40 : Ent := (646433800761761383, [a0, x 0, a93, a71], .tup [a94, .agg [x 0, w 0, .nils], .bool false, x 0])
theorem q134_40 : E 134 e134_40 := mq l134 fun k => by kernel_rfl
def e134_41 : Ent := (456635748985806791, [a0, x 0, a94, a91], .tup [a95, .agg [x 0, w 0, .nils], .bool false, x 0])
theorem q134_41 : E 134 e134_41 := mq l134 fun k => by kernel_rfl
def e134_42 : Ent := (621407187794813091, [a0, x 0, a95, a8], .tup [a98, .agg [x 0, w 0, .nils], .bool false, x 0])
theorem q134_42 : E 134 e134_42 := mq l134 fun k => by kernel_rfl
def e134_43 : Ent := (37879873838247959, [a0, x 0, a98, a91], .tup [a101, .agg [x 0, w 0, .nils], .bool false, x 0])
theorem q134_43 : E 134 e134_43 := mq l134 fun k => by kernel_rfl
def e134_44 : Ent := (593140850834540548, [a0, x 0, a101, a71], .tup [a102, .agg [x 0, w 0, .nils], .bool false, x 0])
theorem q134_44 : E 134 e134_44 := mq l134 fun k => by kernel_rfl
def e134_45 : Ent := (403342799058615747, [a0, x 0, a102, a74], .tup [a103, .agg [x 0, w 0, .nils], .bool false, x 0])
theorem q134_45 : E 134 e134_45 := mq l134 fun k => by kernel_rfl
def e134_46 : Ent := (702014665893144667, [a0, x 0, a103, a8], .tup [a105, .agg [x 0, w 0, .nils], .bool false, x 0])
theorem q134_46 : E 134 e134_46 := mq l134 fun k => by kernel_rfl
def e134_47 : Ent := (1081610775302443988, [a0, x 0, a105, a74], .tup [a109, .agg [x 0, w 0, .nils], .bool false, x 0])
theorem q134_47 : E 134 e134_47 := mq l134 fun k => by kernel_rfl
def e134_48 : Ent := (483950247691859903, [a0, x 0, a109, a71], .tup [a110, .agg [x 0, w 0, .nils], .bool false, x 0])
theorem q134_48 : E 134 e134_48 := mq l134 fun k => by kernel_rfl
def e134_49 : Ent := (294152195915964893, [a0, x 0, a110, a107], .tup [a111, .agg [x 0, w 0, .nils], .bool false, x 0])
theorem q134_49 : E 134 e134_49 := mq l134 fun k => by kernel_rfl
def e134_50 : Ent := (403027687291526683, [a0, x 0, a111, a8], .tup [a114, .agg [x 0, w 0, .nils], .bool false, x 0])
theorem q134_50 : E 134 e134_50 := mq l134 fun k => by kernel_rfl
def e134_51 : Ent := (972421877941868016, [a0, x 0, a114, a107], .tup [a118, .agg [x 0, w 0, .nils], .bool false, x 0])
theorem q134_51 : E 134 e134_51 := mq l134 fun k => by kernel_rfl
def e134_52 : Ent := (374761350331254140, [a0, x 0, a118, a71], .tup [a119, .agg [x 0, w 0, .nils], .bool false, x 0])
theorem q134_52 : E 134 e134_52 := mq l134 fun k => by kernel_rfl
def e134_53 : Ent := (184963298555388921, [a0, x 0, a119, a116], .tup [a120, .agg [x 0, w 0, .nils], .bool false, x 0])
theorem q134_53 : E 134 e134_53 := mq l134 fun k => by kernel_rfl
def e134_54 : Ent := (469501983153400036, [a0, x 0, a120, a8], .tup [a122, .agg [x 0, w 0, .nils], .bool false, x 0])
theorem q134_54 : E 134 e134_54 := mq l134 fun k => by kernel_rfl
def e134_55 : Ent := (506824665597327045, [a0, x 0, a122, a8], .tup [a124, .agg [x 0, w 0, .nils], .bool false, x 0])
theorem q134_55 : E 134 e134_55 := mq l134 fun k => by kernel_rfl
def e134_56 : Ent := (872287590817694834, [a0, x 0, a124, a71], .tup [a125, .agg [x 0, w 0, .nils], .bool false, x 0])
theorem q134_56 : E 134 e134_56 := mq l134 fun k => by kernel_rfl
def e134_57 : Ent := (682489539041829615, [a0, x 0, a125, a116], .tup [a126, .agg [x 0, w 0, .nils], .bool false, x 0])
theorem q134_57 : E 134 e134_57 := mq l134 fun k => by kernel_rfl
def e134_58 : Ent := (1076218828734904351, [a0, x 0, a126, a34], .tup [a127, .agg [x 0, w 0, .nils], .bool false, x 0])
theorem q134_58 : E 134 e134_58 := mq l134 fun k => by kernel_rfl
def e134_59 : Ent := (700628274008281206, [a0, x 0, a127, a4], .tup [a129, .agg [x 0, w 0, .nils], .bool false, x 0])
theorem q134_59 : E 134 e134_59 := mq l134 fun k => by kernel_rfl
def e134_60 : Ent := (49672749191504270, [a0, x 0, a129, a34], .tup [a130, .agg [x 0, w 0, .nils], .bool false, x 0])
theorem q134_60 : E 134 e134_60 := mq l134 fun k => by kernel_rfl
def e134_61 : Ent := (415135672459489083, [a0, x 0, a130, a71], .tup [a131, .agg [x 0, w 0, .nils], .bool false, x 0])
theorem q134_61 : E 134 e134_61 := mq l134 fun k => by kernel_rfl
def e134_62 : Ent := (225337620683623864, [a0, x 0, a131, a116], .tup [a132, .agg [x 0, w 0, .nils], .bool false, x 0])
theorem q134_62 : E 134 e134_62 := mq l134 fun k => by kernel_rfl
def e134_63 : Ent := (619067851010023302, [a0, x 0, a132, a39], .tup [a133, .agg [x 0, w 0, .nils], .bool false, x 0])
theorem q134_63 : E 134 e134_63 := mq l134 fun k => by kernel_rfl
def e134_64 : Ent := (566901279003009009, [a0, x 0, a133, a8], .tup [a136, .agg [x 0, w 0, .nils], .bool false, x 0])
theorem q134_64 : E 134 e134_64 := mq l134 fun k => by kernel_rfl
def e134_65 : Ent := (458665533443999484, [a0, x 0, a136, a39], .tup [a137, .agg [x 0, w 0, .nils], .bool false, x 0])
theorem q134_65 : E 134 e134_65 := mq l134 fun k => by kernel_rfl
def e134_66 : Ent := (824127516078659595, [a0, x 0, a137, a71], .tup [a138, .agg [x 0, w 0, .nils], .bool false, x 0])
theorem q134_66 : E 134 e134_66 := mq l134 fun k => by kernel_rfl
def e134_67 : Ent := (634329464302794376, [a0, x 0, a138, a116], .tup [a139, .agg [x 0, w 0, .nils], .bool false, x 0])
theorem q134_67 : E 134 e134_67 := mq l134 fun k => by kernel_rfl
def e134_68 : Ent := (10386916457807122, [a0, x 0, a139, a51], .tup [a140, .agg [x 0, w 0, .nils], .bool false, x 0])
theorem q134_68 : E 134 e134_68 := mq l134 fun k => by kernel_rfl
def e134_69 : Ent := (988478785136351882, [a0, x 0, a140, a8], .tup [a143, .agg [x 0, w 0, .nils], .bool false, x 0])
theorem q134_69 : E 134 e134_69 := mq l134 fun k => by kernel_rfl
def e134_70 : Ent := (798680731407953772, [a0, x 0, a143, a8], .tup [a144, .agg [x 0, w 0, .nils], .bool false, x 0])
theorem q134_70 : E 134 e134_70 := mq l134 fun k => by kernel_rfl
end Go.Bas.BasTRAlive
