/- Known answers of a closed run, each reckoned by the kernel. -/
import Derived.Test.YtjepofcbkojibaaGreatDoorBasW26
set_option maxRecDepth 100000
set_option maxHeartbeats 4000000
set_option linter.unusedVariables false
set_option linter.unusedSimpArgs false
namespace Go.Bas.BasTRAlive
open Go.RowKit Go.Proofs BasZBase
def M14 : List Ent := [e14_0, e14_1, e14_2, e14_3, e14_4, e14_5, e14_6, e14_7, e14_8, e14_9, e14_10, e14_11]
theorem s14 : SumOk Tryz.prog (gmap gs) (14, memoH M14) := memoH_sum (mc q14_0 (mc q14_1 (mc q14_2 (mc q14_3 (mc q14_4 (mc q14_5 (mc q14_6 (mc q14_7 (mc q14_8 (mc q14_9 (mc q14_10 (mc q14_11 memoH_nil))))))))))))
def e234_0 : Ent := (7633441, [u 1, u 1, .agg [x 0, w 0, .nils]], a71)
theorem q234_0 : E 234 e234_0 := mq sums_nil fun k => by kernel_rfl
def M234 : List Ent := [e234_0]
theorem s234 : SumOk Tryz.prog (gmap gs) (234, memoH M234) := memoH_sum (mc q234_0 memoH_nil)
theorem l16 : ∀ s ∈ ([(73, memoH M73), (34, memoH M34), (40, memoH M40), (80, memoH M80), (89, memoH M89), (90, memoH M90), (162, memoH M162), (163, memoH M163), (234, memoH M234)] : List Sum), SumOk Tryz.prog (gmap gs) s := (sums_cons s73 (sums_cons s34 (sums_cons s40 (sums_cons s80 (sums_cons s89 (sums_cons s90 (sums_cons s162 (sums_cons s163 (sums_cons s234 sums_nil)))))))))
def e16_0 : Ent := (1077358411490427545, [a0, a20, a8, a8], .tup [a29, .bool false, x 0])
theorem q16_0 : E 16 e16_0 := mq l16 fun k => by kernel_rfl
def e16_1 : Ent := (1079161478168806041, [a0, a20, a34, a8], .tup [a29, .bool false, x 0])
theorem q16_1 : E 16 e16_1 := mq l16 fun k => by kernel_rfl
def e16_2 : Ent := (1079161478169090716, [a0, a20, a34, a4], .tup [a29, .bool false, x 0])
theorem q16_2 : E 16 e16_2 := mq l16 fun k => by kernel_rfl
def e16_3 : Ent := (794934602224359575, [a0, a20, a39, a4], .tup [a29, .bool false, x 0])
theorem q16_3 : E 16 e16_3 := mq l16 fun k => by kernel_rfl
def e16_4 : Ent := (794934602224074900, [a0, a20, a39, a8], .tup [a29, .bool false, x 0])
theorem q16_4 : E 16 e16_4 := mq l16 fun k => by kernel_rfl
def e16_5 : Ent := (624054908277516957, [a0, a20, a51, a8], .tup [a59, .bool true, x 0])
theorem q16_5 : E 16 e16_5 := mq l16 fun k => by kernel_rfl
def e16_6 : Ent := (625101877732415356, [a0, a20, a62, a8], .tup [a72, .bool true, x 0])
theorem q16_6 : E 16 e16_6 := mq l16 fun k => by kernel_rfl
def e16_7 : Ent := (1081456552925331550, [a0, a115, a8, a8], .tup [a29, .bool false, x 0])
theorem q16_7 : E 16 e16_7 := mq l16 fun k => by kernel_rfl
def e16_8 : Ent := (1083259619603710046, [a0, a115, a34, a8], .tup [a29, .bool false, x 0])
theorem q16_8 : E 16 e16_8 := mq l16 fun k => by kernel_rfl
def e16_9 : Ent := (1083259619603994721, [a0, a115, a34, a4], .tup [a29, .bool false, x 0])
theorem q16_9 : E 16 e16_9 := mq l16 fun k => by kernel_rfl
def e16_10 : Ent := (799032743659263580, [a0, a115, a39, a4], .tup [a29, .bool false, x 0])
theorem q16_10 : E 16 e16_10 := mq l16 fun k => by kernel_rfl
def e16_11 : Ent := (799032743658978905, [a0, a115, a39, a8], .tup [a29, .bool false, x 0])
theorem q16_11 : E 16 e16_11 := mq l16 fun k => by kernel_rfl
def e16_12 : Ent := (628153049712420962, [a0, a115, a51, a8], .tup [a141, .bool true, x 0])
theorem q16_12 : E 16 e16_12 := mq l16 fun k => by kernel_rfl
def e16_13 : Ent := (629200019167319361, [a0, a115, a62, a8], .tup [a29, .bool false, x 0])
theorem q16_13 : E 16 e16_13 := mq l16 fun k => by kernel_rfl
def M16 : List Ent := [e16_0, e16_1, e16_2, e16_3, e16_4, e16_5, e16_6, e16_7, e16_8, e16_9, e16_10, e16_11, e16_12, e16_13]
theorem s16 : SumOk Tryz.prog (gmap gs) (16, memoH M16) := memoH_sum (mc q16_0 (mc q16_1 (mc q16_2 (mc q16_3 (mc q16_4 (mc q16_5 (mc q16_6 (mc q16_7 (mc q16_8 (mc q16_9 (mc q16_10 (mc q16_11 (mc q16_12 (mc q16_13 memoH_nil))))))))))))))
theorem l231 : ∀ s ∈ ([] : List Sum), SumOk Tryz.prog (gmap gs) s := sums_nil
def e231_0 : Ent := (215488, [a8], .tup [u 0, .agg [y 0, w 0, w 0, w 0]])
theorem q231_0 : E 231 e231_0 := mq l231 fun k => by kernel_rfl
def e231_1 : Ent := (500163, [a4], .tup [u 1, a3])
theorem q231_1 : E 231 e231_1 := mq l231 fun k => by kernel_rfl
def M231 : List Ent := [e231_0, e231_1]
theorem s231 : SumOk Tryz.prog (gmap gs) (231, memoH M231) := memoH_sum (mc q231_0 (mc q231_1 memoH_nil))
theorem l203 : ∀ s ∈ ([(73, memoH M73), (33, memoH M33)] : List Sum), SumOk Tryz.prog (gmap gs) s := (sums_cons s73 (sums_cons s33 sums_nil))
def e203_0 : Ent := (1077621721440246895, [a0, a37, a4], .tup [a47, x 0])
theorem q203_0 : E 203 e203_0 := mq l203 fun k => by kernel_rfl
def e203_1 : Ent := (1077621721439962220, [a0, a37, a8], .tup [a49, x 0])
theorem q203_1 : E 203 e203_1 := mq l203 fun k => by kernel_rfl
def e203_2 : Ent := (1128438676120275563, [a0, a49, a8], .tup [a60, x 0])
theorem q203_2 : E 203 e203_2 := mq l203 fun k => by kernel_rfl
def e203_3 : Ent := (26635111586425867, [a0, a161, a174], .tup [a175, x 0])
theorem q203_3 : E 203 e203_3 := mq l203 fun k => by kernel_rfl
def M203 : List Ent := [e203_0, e203_1, e203_2, e203_3]
theorem s203 : SumOk Tryz.prog (gmap gs) (203, memoH M203) := memoH_sum (mc q203_0 (mc q203_1 (mc q203_2 (mc q203_3 memoH_nil))))
theorem l238 : ∀ s ∈ ([(73, memoH M73), (203, memoH M203)] : List Sum), SumOk Tryz.prog (gmap gs) s := (sums_cons s73 (sums_cons s203 sums_nil))
def e238_0 : Ent := (1077621721440246895, [a0, a37, a4], .tup [a47, .agg [u 0, u 0], .bool false, x 0])
theorem q238_0 : E 238 e238_0 := mq l238 fun k => by kernel_rfl
def e238_1 : Ent := (1077621721439962220, [a0, a37, a8], .tup [a49, .agg [u 0, u 0], .bool false, x 0])
theorem q238_1 : E 238 e238_1 := mq l238 fun k => by kernel_rfl
def e238_2 : Ent := (1128438676120275563, [a0, a49, a8], .tup [a60, .agg [u 0, u 0], .bool false, x 0])
theorem q238_2 : E 238 e238_2 := mq l238 fun k => by kernel_rfl
def e238_3 : Ent := (26635111586425867, [a0, a161, a174], .tup [a175, .agg [u 0, u 0], .bool false, x 0])
theorem q238_3 : E 238 e238_3 := mq l238 fun k => by kernel_rfl
def M238 : List Ent := [e238_0, e238_1, e238_2, e238_3]
theorem s238 : SumOk Tryz.prog (gmap gs) (238, memoH M238) := memoH_sum (mc q238_0 (mc q238_1 (mc q238_2 (mc q238_3 memoH_nil))))
theorem l288 : ∀ s ∈ ([(175, memoH M175)] : List Sum), SumOk Tryz.prog (gmap gs) s := (sums_cons s175 sums_nil)
def e288_0 : Ent := (245223249506599242, [a38], .tup [a39, x 0])
theorem q288_0 : E 288 e288_0 := mq l288 fun k => by kernel_rfl
def e288_1 : Ent := (451418555485367732, [.agg [u 65538, y 0, y 1, y 9, w 1, w 7, y 22, y 0, y 0, y 0, y 0, y 0, w 0, w 2]], .tup [.agg [u 65538, u 1478688, u 30064771073, u 8589934592], x 0])
theorem q288_1 : E 288 e288_1 := mq l288 fun k => by kernel_rfl
def e288_2 : Ent := (451418005233086473, [a50], .tup [a51, x 0])
theorem q288_2 : E 288 e288_2 := mq l288 fun k => by kernel_rfl
def e288_3 : Ent := (657613201161398519, [a61], .tup [a62, x 0])
theorem q288_3 : E 288 e288_3 := mq l288 fun k => by kernel_rfl
def e288_4 : Ent := (465731089453421464, [a73], .tup [a74, x 0])
theorem q288_4 : E 288 e288_4 := mq l288 fun k => by kernel_rfl
def M288 : List Ent := [e288_0, e288_1, e288_2, e288_3, e288_4]
theorem s288 : SumOk Tryz.prog (gmap gs) (288, memoH M288) := memoH_sum (mc q288_0 (mc q288_1 (mc q288_2 (mc q288_3 (mc q288_4 memoH_nil)))))
theorem l18 : ∀ s ∈ ([(73, memoH M73), (33, memoH M33), (34, memoH M34), (35, memoH M35), (40, memoH M40), (104, memoH M104), (80, memoH M80), (89, memoH M89), (90, memoH M90), (162, memoH M162), (163, memoH M163), (231, memoH M231), (238, memoH M238), (288, memoH M288)] : List Sum), SumOk Tryz.prog (gmap gs) s := (sums_cons s73 (sums_cons s33 (sums_cons s34 (sums_cons s35 (sums_cons s40 (sums_cons s104 (sums_cons s80 (sums_cons s89 (sums_cons s90 (sums_cons s162 (sums_cons s163 (sums_cons s231 (sums_cons s238 (sums_cons s288 sums_nil))))))))))))))
def e18_0 : Ent := (1077358411490427545, [a0, a20, a8, a8], .tup [a30, x 0])
theorem q18_0 : E 18 e18_0 := mq l18 fun k => by kernel_rfl
def e18_1 : Ent := (1079161478168806041, [a0, a20, a34, a8], .tup [a29, x 2])
theorem q18_1 : E 18 e18_1 := mq l18 fun k => by kernel_rfl
def e18_2 : Ent := (1079161478169090716, [a0, a20, a34, a4], .tup [a40, x 0])
theorem q18_2 : E 18 e18_2 := mq l18 fun k => by kernel_rfl
def e18_3 : Ent := (794934602224359575, [a0, a20, a39, a4], .tup [.agg [y 3, x 9, u 65537, u 36896, u 30064771073, u 8589934592, u 65538, u 1478688, u 30064771073, u 8589934592], x 0])
theorem q18_3 : E 18 e18_3 := mq l18 fun k => by kernel_rfl
def e18_4 : Ent := (794934602224074900, [a0, a20, a39, a8], .tup [a52, x 0])
theorem q18_4 : E 18 e18_4 := mq l18 fun k => by kernel_rfl
def e18_5 : Ent := (624054908277516957, [a0, a20, a51, a8], .tup [a63, x 0])
theorem q18_5 : E 18 e18_5 := mq l18 fun k => by kernel_rfl
def e18_6 : Ent := (625101877732415356, [a0, a20, a62, a8], .tup [a75, x 0])
theorem q18_6 : E 18 e18_6 := mq l18 fun k => by kernel_rfl
def e18_7 : Ent := (1081456552925331550, [a0, a115, a8, a8], .tup [a123, x 0])
theorem q18_7 : E 18 e18_7 := mq l18 fun k => by kernel_rfl
def e18_8 : Ent := (1083259619603710046, [a0, a115, a34, a8], .tup [a29, x 2])
theorem q18_8 : E 18 e18_8 := mq l18 fun k => by kernel_rfl
def e18_9 : Ent := (1083259619603994721, [a0, a115, a34, a4], .tup [a128, x 0])
theorem q18_9 : E 18 e18_9 := mq l18 fun k => by kernel_rfl
def e18_10 : Ent := (799032743659263580, [a0, a115, a39, a4], .tup [.agg [y 3, x 7, u 65537, u 36896, u 30064771073, u 8589934592, u 65538, u 1478688, u 30064771073, u 8589934592], x 0])
theorem q18_10 : E 18 e18_10 := mq l18 fun k => by kernel_rfl
def e18_11 : Ent := (799032743658978905, [a0, a115, a39, a8], .tup [a135, x 0])
theorem q18_11 : E 18 e18_11 := mq l18 fun k => by kernel_rfl
def e18_12 : Ent := (628153049712420962, [a0, a115, a51, a8], .tup [a142, x 0])
theorem q18_12 : E 18 e18_12 := mq l18 fun k => by kernel_rfl
def e18_13 : Ent := (629200019167319361, [a0, a115, a62, a8], .tup [a149, x 0])
theorem q18_13 : E 18 e18_13 := mq l18 fun k => by kernel_rfl
def M18 : List Ent := [e18_0, e18_1, e18_2, e18_3, e18_4, e18_5, e18_6, e18_7, e18_8, e18_9, e18_10, e18_11, e18_12, e18_13]
theorem s18 : SumOk Tryz.prog (gmap gs) (18, memoH M18) := memoH_sum (mc q18_0 (mc q18_1 (mc q18_2 (mc q18_3 (mc q18_4 (mc q18_5 (mc q18_6 (mc q18_7 (mc q18_8 (mc q18_9 (mc q18_10 (mc q18_11 (mc q18_12 (mc q18_13 memoH_nil))))))))))))))
def e183_0 : Ent := (805475942991897783, [a0, .lst [.bool true] 1, x 0], .tup [u 1, x 0, x 0])
theorem q183_0 : E 183 e183_0 := mq (sums_cons s73 (sums_cons s162 sums_nil)) fun k => by kernel_rfl
def M183 : List Ent := [e183_0]
theorem s183 : SumOk Tryz.prog (gmap gs) (183, memoH M183) := memoH_sum (mc q183_0 memoH_nil)
def e110_0 : Ent := (178542289218326672, [a0, a14, .lst [.bool true] 1], .tup [a20, x 0])
theorem q110_0 : E 110 e110_0 := mq (sums_cons s73 (sums_cons s184 (sums_cons s224 (sums_cons s183 sums_nil)))) fun k => by kernel_rfl
def M110 : List Ent := [e110_0]
theorem s110 : SumOk Tryz.prog (gmap gs) (110, memoH M110) := memoH_sum (mc q110_0 memoH_nil)
theorem l111 : ∀ s ∈ ([(73, memoH M73), (184, memoH M184), (224, memoH M224)] : List Sum), SumOk Tryz.prog (gmap gs) s := (sums_cons s73 (sums_cons s184 (sums_cons s224 sums_nil)))
def e111_0 : Ent := (758402636004962200, [a0, a20], .tup [a82, x 0])
theorem q111_0 : E 111 e111_0 := mq l111 fun k => by kernel_rfl
def e111_1 : Ent := (758402636004963161, [a0, a82], .tup [a90, x 0])
theorem q111_1 : E 111 e111_1 := mq l111 fun k => by kernel_rfl
def e111_2 : Ent := (758402636004964122, [a0, a90], .tup [a99, x 0])
theorem q111_2 : E 111 e111_2 := mq l111 fun k => by kernel_rfl
def e111_3 : Ent := (758402636004965083, [a0, a99], .tup [a106, x 0])
theorem q111_3 : E 111 e111_3 := mq l111 fun k => by kernel_rfl
def e111_4 : Ent := (758402636004966044, [a0, a106], .tup [a115, x 0])
theorem q111_4 : E 111 e111_4 := mq l111 fun k => by kernel_rfl
def e111_5 : Ent := (758402636004967005, [a0, a115], .tup [a154, x 0])
theorem q111_5 : E 111 e111_5 := mq l111 fun k => by kernel_rfl
def M111 : List Ent := [e111_0, e111_1, e111_2, e111_3, e111_4, e111_5]
theorem s111 : SumOk Tryz.prog (gmap gs) (111, memoH M111) := memoH_sum (mc q111_0 (mc q111_1 (mc q111_2 (mc q111_3 (mc q111_4 (mc q111_5 memoH_nil))))))
theorem l114 : ∀ s ∈ ([(73, memoH M73), (40, memoH M40)] : List Sum), SumOk Tryz.prog (gmap gs) s := (sums_cons s73 (sums_cons s40 sums_nil))
def e114_0 : Ent := (758402636067944187, [a0, x 1, a96], .tup [a97, x 0])
theorem q114_0 : E 114 e114_0 := mq l114 fun k => by kernel_rfl
def e114_1 : Ent := (758402636067916318, [a0, x 0, a112], .tup [a113, x 0])
theorem q114_1 : E 114 e114_1 := mq l114 fun k => by kernel_rfl
def M114 : List Ent := [e114_0, e114_1]
theorem s114 : SumOk Tryz.prog (gmap gs) (114, memoH M114) := memoH_sum (mc q114_0 (mc q114_1 memoH_nil))
theorem l176 : ∀ s ∈ ([(73, memoH M73), (224, memoH M224)] : List Sum), SumOk Tryz.prog (gmap gs) s := (sums_cons s73 (sums_cons s224 sums_nil))
def e176_0 : Ent := (758402636005139954, [a0, a15], .tup [a14, x 0])
theorem q176_0 : E 176 e176_0 := mq l176 fun k => by kernel_rfl
def e176_1 : Ent := (758402637957345145, [a0, a21], .tup [a20, x 0])
theorem q176_1 : E 176 e176_1 := mq l176 fun k => by kernel_rfl
def e176_2 : Ent := (758402637957374936, [a0, a83], .tup [a82, x 0])
theorem q176_2 : E 176 e176_2 := mq l176 fun k => by kernel_rfl
def e176_3 : Ent := (758402637957404727, [a0, a91], .tup [a90, x 0])
theorem q176_3 : E 176 e176_3 := mq l176 fun k => by kernel_rfl
def e176_4 : Ent := (758402637957434518, [a0, a74], .tup [a99, x 0])
theorem q176_4 : E 176 e176_4 := mq l176 fun k => by kernel_rfl
def e176_5 : Ent := (758402637957464309, [a0, a107], .tup [a106, x 0])
theorem q176_5 : E 176 e176_5 := mq l176 fun k => by kernel_rfl
def e176_6 : Ent := (758402637957494100, [a0, a116], .tup [a115, x 0])
theorem q176_6 : E 176 e176_6 := mq l176 fun k => by kernel_rfl
def e176_7 : Ent := (758402637957523891, [a0, a155], .tup [a154, x 0])
theorem q176_7 : E 176 e176_7 := mq l176 fun k => by kernel_rfl
def M176 : List Ent := [e176_0, e176_1, e176_2, e176_3, e176_4, e176_5, e176_6, e176_7]
theorem s176 : SumOk Tryz.prog (gmap gs) (176, memoH M176) := memoH_sum (mc q176_0 (mc q176_1 (mc q176_2 (mc q176_3 (mc q176_4 (mc q176_5 (mc q176_6 (mc q176_7 memoH_nil))))))))
def e179_0 : Ent := (261679962693091325, [a0], .tup [x 1, x 0])
theorem q179_0 : E 179 e179_0 := mq (sums_cons s73 sums_nil) fun k => by kernel_rfl
def M179 : List Ent := [e179_0]
theorem s179 : SumOk Tryz.prog (gmap gs) (179, memoH M179) := memoH_sum (mc q179_0 memoH_nil)
theorem l182 : ∀ s ∈ ([(73, memoH M73), (224, memoH M224)] : List Sum), SumOk Tryz.prog (gmap gs) s := (sums_cons s73 (sums_cons s224 sums_nil))
def e182_0 : Ent := (758402636004962200, [a0, a20], .tup [a21, x 0])
theorem q182_0 : E 182 e182_0 := mq l182 fun k => by kernel_rfl
def e182_1 : Ent := (758402636004963161, [a0, a82], .tup [a83, x 0])
theorem q182_1 : E 182 e182_1 := mq l182 fun k => by kernel_rfl
def e182_2 : Ent := (758402636004964122, [a0, a90], .tup [a91, x 0])
theorem q182_2 : E 182 e182_2 := mq l182 fun k => by kernel_rfl
def e182_3 : Ent := (758402636004965083, [a0, a99], .tup [a74, x 0])
theorem q182_3 : E 182 e182_3 := mq l182 fun k => by kernel_rfl
def e182_4 : Ent := (758402636004966044, [a0, a106], .tup [a107, x 0])
theorem q182_4 : E 182 e182_4 := mq l182 fun k => by kernel_rfl
def e182_5 : Ent := (758402636004967005, [a0, a115], .tup [a116, x 0])
theorem q182_5 : E 182 e182_5 := mq l182 fun k => by kernel_rfl
def e182_6 : Ent := (758402636004967966, [a0, a154], .tup [a155, x 0])
theorem q182_6 : E 182 e182_6 := mq l182 fun k => by kernel_rfl
def M182 : List Ent := [e182_0, e182_1, e182_2, e182_3, e182_4, e182_5, e182_6]
theorem s182 : SumOk Tryz.prog (gmap gs) (182, memoH M182) := memoH_sum (mc q182_0 (mc q182_1 (mc q182_2 (mc q182_3 (mc q182_4 (mc q182_5 (mc q182_6 memoH_nil)))))))
theorem l22 : ∀ s ∈ ([(73, memoH M73), (40, memoH M40), (53, memoH M53), (89, memoH M89), (14, memoH M14), (16, memoH M16), (18, memoH M18), (110, memoH M110), (111, memoH M111), (114, memoH M114), (176, memoH M176), (179, memoH M179), (182, memoH M182)] : List Sum), SumOk Tryz.prog (gmap gs) s := (sums_cons s73 (sums_cons s40 (sums_cons s53 (sums_cons s89 (sums_cons s14 (sums_cons s16 (sums_cons s18 (sums_cons s110 (sums_cons s111 (sums_cons s114 (sums_cons s176 (sums_cons s179 (sums_cons s182 sums_nil)))))))))))))
def e22_0 : Ent := (697183068898069959, [a0, x 0, a6], .tup [a5, x 0])
theorem q22_0 : E 22 e22_0 := mq l22 fun k => by kernel_rfl
def e22_1 : Ent := (8657070581893626, [a0, x 0, .agg (wr 2 false [u 0, u 0, u 0, u 0, u 0, u 0, u 0, u 0, u 0, u 0, u 0, u 0, u 0, .nils, u 0, x 0, u 0])], .tup [a10, x 0])
theorem q22_1 : E 22 e22_1 := mq l22 fun k => by kernel_rfl
def e22_2 : Ent := (473052576872564176, [a0, x 0, .agg (wr 3 false [u 0, u 0, u 0, u 0, u 0, u 0, u 0, u 0, u 0, u 0, u 0, u 0, u 0, .nils, u 0, x 0, u 0])], .tup [a13, x 0])
theorem q22_2 : E 22 e22_2 := mq l22 fun k => by kernel_rfl
def e22_3 : Ent := (1044629658489323373, [a0, x 0, .agg (wr 4 false [u 0, u 7, u 0, u 0, u 0, u 0, u 0, u 0, u 0, u 0, u 0, u 0, u 0, .nils, u 0, x 0, u 0])], .tup [a17, x 0])
theorem q22_3 : E 22 e22_3 := mq l22 fun k => by kernel_rfl
def e22_4 : Ent := (356103923076487715, [a0, x 0, .agg (wr 5 false [u 0, u 7, u 0, u 0, u 0, u 0, u 0, u 0, u 0, u 1, u 265, u 7, u 2, .nils, u 0, x 0, u 0])], .tup [a10, x 0])
theorem q22_4 : E 22 e22_4 := mq l22 fun k => by kernel_rfl
def e22_5 : Ent := (71209209040390842, [a0, x 0, .agg (wr 6 false [u 0, u 7, u 0, u 0, u 0, u 0, u 0, u 0, u 0, u 1, u 265, u 7, u 2, .lst [.bool true] 1, u 0, x 0, u 0])], .tup [a22, x 0])
theorem q22_5 : E 22 e22_5 := mq l22 fun k => by kernel_rfl
def e22_6 : Ent := (132241659339586792, [a0, x 0, .agg (wr 2 false [u 0, u 7, u 0, u 0, u 0, u 0, u 0, u 0, u 0, u 1, u 265, u 7, u 2, .lst [.bool true] 1, u 0, x 0, u 0])], .tup [a10, x 0])
theorem q22_6 : E 22 e22_6 := mq l22 fun k => by kernel_rfl
def e22_7 : Ent := (693444299068211246, [a0, x 0, .agg (wr 3 false [u 0, u 7, u 0, u 0, u 0, u 0, u 0, u 0, u 0, u 1, u 265, u 7, u 2, .lst [.bool true] 1, u 0, x 0, u 0])], .tup [a13, x 0])
theorem q22_7 : E 22 e22_7 := mq l22 fun k => by kernel_rfl
def e22_8 : Ent := (36850737470633583, [a0, x 0, .agg (wr 7 false [u 0, u 65537, u 1, u 0, u 0, u 0, u 0, u 0, u 0, u 1, u 265, u 7, u 2, .lst [.bool true] 1, u 0, x 0, u 0])], .tup [a26, x 0])
theorem q22_8 : E 22 e22_8 := mq l22 fun k => by kernel_rfl
def e22_9 : Ent := (567529002046099137, [a0, x 0, .agg (wr 10 false [u 0, u 65537, u 1, u 0, u 0, u 0, u 0, u 0, u 0, u 0, u 0, u 0, u 0, .lst [.bool true] 1, u 0, x 0, u 0])], .tup [a30, x 0])
theorem q22_9 : E 22 e22_9 := mq l22 fun k => by kernel_rfl
def e22_10 : Ent := (689593902644491037, [a0, x 0, .agg (wr 2 false [u 0, u 65537, u 1, u 0, u 0, u 0, u 0, u 0, u 0, u 0, u 0, u 0, u 0, .lst [.bool true] 1, u 0, x 0, u 0])], .tup [a10, x 0])
theorem q22_10 : E 22 e22_10 := mq l22 fun k => by kernel_rfl
def e22_11 : Ent := (97875037766268608, [a0, x 0, .agg (wr 3 false [u 0, u 65537, u 1, u 0, u 0, u 0, u 0, u 0, u 0, u 0, u 0, u 0, u 0, .lst [.bool true] 1, u 0, x 0, u 0])], .tup [a13, x 0])
theorem q22_11 : E 22 e22_11 := mq l22 fun k => by kernel_rfl
def e22_12 : Ent := (36842587467072658, [a0, x 0, .agg (wr 7 false [u 0, u 65537, u 1, u 0, u 0, u 0, u 0, u 0, u 0, u 0, u 0, u 0, u 0, .lst [.bool true] 1, u 0, x 0, u 0])], .tup [a26, x 0])
theorem q22_12 : E 22 e22_12 := mq l22 fun k => by kernel_rfl
def e22_13 : Ent := (1111717831237341449, [a0, x 0, .agg (wr 8 false [u 0, u 65537, u 1, u 0, u 0, u 65536, u 0, u 0, u 0, u 0, u 0, u 0, u 0, .lst [.bool true] 1, u 0, x 0, u 0])], .tup [a17, x 0])
theorem q22_13 : E 22 e22_13 := mq l22 fun k => by kernel_rfl
def e22_14 : Ent := (1081209756091304399, [a0, x 0, .agg (wr 10 false [u 0, u 65537, u 1, u 0, u 0, u 65536, u 0, u 0, u 0, u 1, u 265, u 7, u 2, .lst [.bool true] 1, u 0, x 0, u 0])], .tup [a40, x 0])
theorem q22_14 : E 22 e22_14 := mq l22 fun k => by kernel_rfl
def e22_15 : Ent := (50353152082849416, [a0, x 0, .agg (wr 2 false [u 0, u 65537, u 1, u 0, u 0, u 65536, u 0, u 0, u 0, u 1, u 265, u 7, u 2, .lst [.bool true] 1, u 0, x 0, u 0])], .tup [a10, x 0])
theorem q22_15 : E 22 e22_15 := mq l22 fun k => by kernel_rfl
def e22_16 : Ent := (611555791811473870, [a0, x 0, .agg (wr 3 false [u 0, u 65537, u 1, u 0, u 0, u 65536, u 0, u 0, u 0, u 1, u 265, u 7, u 2, .lst [.bool true] 1, u 0, x 0, u 0])], .tup [a13, x 0])
theorem q22_16 : E 22 e22_16 := mq l22 fun k => by kernel_rfl
def e22_17 : Ent := (550523341512277920, [a0, x 0, .agg (wr 7 false [u 0, u 65537, u 1, u 0, u 0, u 65536, u 0, u 0, u 0, u 1, u 265, u 7, u 2, .lst [.bool true] 1, u 0, x 0, u 0])], .tup [a26, x 0])
theorem q22_17 : E 22 e22_17 := mq l22 fun k => by kernel_rfl
def e22_18 : Ent := (520530045981470942, [a0, x 0, .agg (wr 8 false [u 0, u 65537, u 1, u 0, u 0, u 65537, u 36896, u 30064771073, u 8589934592, u 1, u 265, u 7, u 2, .lst [.bool true] 1, u 0, x 0, u 0])], .tup [a48, x 0])
theorem q22_18 : E 22 e22_18 := mq l22 fun k => by kernel_rfl
def e22_19 : Ent := (490005670828312042, [a0, x 0, .agg (wr 10 false [u 0, u 65537, u 1, u 0, u 0, u 65537, u 36896, u 30064771073, u 8589934592, u 0, u 0, u 0, u 0, .lst [.bool true] 1, u 0, x 0, u 0])], .tup [a52, x 0])
theorem q22_19 : E 22 e22_19 := mq l22 fun k => by kernel_rfl
def e22_20 : Ent := (612070571426703942, [a0, x 0, .agg (wr 2 false [u 0, u 65537, u 1, u 0, u 0, u 65537, u 36896, u 30064771073, u 8589934592, u 0, u 0, u 0, u 0, .lst [.bool true] 1, u 0, x 0, u 0])], .tup [a10, x 0])
theorem q22_20 : E 22 e22_20 := mq l22 fun k => by kernel_rfl
def e22_21 : Ent := (20351706548481513, [a0, x 0, .agg (wr 3 false [u 0, u 65537, u 1, u 0, u 0, u 65537, u 36896, u 30064771073, u 8589934592, u 0, u 0, u 0, u 0, .lst [.bool true] 1, u 0, x 0, u 0])], .tup [a13, x 0])
theorem q22_21 : E 22 e22_21 := mq l22 fun k => by kernel_rfl
def e22_22 : Ent := (1112240760856132446, [a0, x 0, .agg (wr 7 false [u 0, u 65537, u 1, u 0, u 0, u 65537, u 36896, u 30064771073, u 8589934592, u 0, u 0, u 0, u 0, .lst [.bool true] 1, u 0, x 0, u 0])], .tup [a26, x 0])
theorem q22_22 : E 22 e22_22 := mq l22 fun k => by kernel_rfl
def e22_23 : Ent := (1051644133374884672, [a0, x 0, .agg (wr 8 false [u 0, u 65537, u 1, u 0, u 0, u 65538, u 140737488523296, u 30064771073, u 8589934592, u 0, u 0, u 0, u 0, .lst [.bool true] 1, u 0, x 0, u 0])], .tup [a48, x 0])
theorem q22_23 : E 22 e22_23 := mq l22 fun k => by kernel_rfl
def e22_24 : Ent := (459925268496662243, [a0, x 0, .agg (wr 9 false [u 0, u 65537, u 1, u 0, u 0, u 65538, u 140737488523296, u 30064771073, u 8589934592, u 0, u 0, u 0, u 0, .lst [.bool true] 1, u 0, x 0, u 0])], .tup [a59, x 0])
theorem q22_24 : E 22 e22_24 := mq l22 fun k => by kernel_rfl
def e22_25 : Ent := (1021127908225286697, [a0, x 0, .agg (wr 10 false [u 0, u 65537, u 1, u 0, u 0, u 65538, u 140737488523296, u 30064771073, u 8589934592, u 0, u 0, u 0, u 0, .lst [.bool true] 1, u 0, x 0, u 0])], .tup [a63, x 0])
theorem q22_25 : E 22 e22_25 := mq l22 fun k => by kernel_rfl
def e22_26 : Ent := (1143192808823678597, [a0, x 0, .agg (wr 2 false [u 0, u 65537, u 1, u 0, u 0, u 65538, u 140737488523296, u 30064771073, u 8589934592, u 0, u 0, u 0, u 0, .lst [.bool true] 1, u 0, x 0, u 0])], .tup [a10, x 0])
theorem q22_26 : E 22 e22_26 := mq l22 fun k => by kernel_rfl
def e22_27 : Ent := (551473943945456168, [a0, x 0, .agg (wr 3 false [u 0, u 65537, u 1, u 0, u 0, u 65538, u 140737488523296, u 30064771073, u 8589934592, u 0, u 0, u 0, u 0, .lst [.bool true] 1, u 0, x 0, u 0])], .tup [a13, x 0])
theorem q22_27 : E 22 e22_27 := mq l22 fun k => by kernel_rfl
def e22_28 : Ent := (490441493646260218, [a0, x 0, .agg (wr 7 false [u 0, u 65537, u 1, u 0, u 0, u 65538, u 140737488523296, u 30064771073, u 8589934592, u 0, u 0, u 0, u 0, .lst [.bool true] 1, u 0, x 0, u 0])], .tup [a26, x 0])
theorem q22_28 : E 22 e22_28 := mq l22 fun k => by kernel_rfl
def e22_29 : Ent := (92062533917402804, [a0, x 0, .agg (wr 8 false [u 0, u 65537, u 1, u 0, u 0, u 65539, u 140737489702944, u 30064771073, u 8589934592, u 0, u 0, u 0, u 0, .lst [.bool true] 1, u 0, x 0, u 0])], .tup [a10, x 0])
theorem q22_29 : E 22 e22_29 := mq l22 fun k => by kernel_rfl
def e22_30 : Ent := (653265173646027258, [a0, x 0, .agg (wr 9 false [u 0, u 65537, u 1, u 0, u 0, u 65539, u 140737489702944, u 30064771073, u 8589934592, u 0, u 0, u 0, u 0, .lst [.bool true] 1, u 0, x 0, u 0])], .tup [a72, x 0])
theorem q22_30 : E 22 e22_30 := mq l22 fun k => by kernel_rfl
def e22_31 : Ent := (61546308767804829, [a0, x 0, .agg (wr 10 false [u 0, u 65537, u 1, u 0, u 0, u 65539, u 140737489702944, u 30064771073, u 8589934592, u 0, u 0, u 0, u 0, .lst [.bool true] 1, u 0, x 0, u 0])], .tup [a75, x 0])
theorem q22_31 : E 22 e22_31 := mq l22 fun k => by kernel_rfl
def e22_32 : Ent := (183611209366196729, [a0, x 0, .agg (wr 2 false [u 0, u 65537, u 1, u 0, u 0, u 65539, u 140737489702944, u 30064771073, u 8589934592, u 0, u 0, u 0, u 0, .lst [.bool true] 1, u 0, x 0, u 0])], .tup [a10, x 0])
theorem q22_32 : E 22 e22_32 := mq l22 fun k => by kernel_rfl
def e22_33 : Ent := (818410119981584111, [a0, x 0, .agg (wr 3 true [u 1, u 65537, u 1, u 0, u 0, u 65539, u 140737489702944, u 30064771073, u 8589934592, u 0, u 0, u 0, u 0, .lst [.bool true] 1, u 0, x 0, u 0])], .tup [a13, x 0])
theorem q22_33 : E 22 e22_33 := mq l22 fun k => by kernel_rfl
def e22_34 : Ent := (757377669682388161, [a0, x 0, .agg (wr 7 true [u 1, u 65537, u 1, u 0, u 0, u 65539, u 140737489702944, u 30064771073, u 8589934592, u 0, u 0, u 0, u 0, .lst [.bool true] 1, u 0, x 0, u 0])], .tup [a26, x 0])
theorem q22_34 : E 22 e22_34 := mq l22 fun k => by kernel_rfl
def e22_35 : Ent := (280374110326347199, [a0, x 0, .agg (wr 11 true [u 1, u 65537, u 1, u 0, u 0, u 65540, u 1, u 0, u 0, u 0, u 0, u 0, u 0, .lst [.bool true] 1, u 0, x 0, u 0])], .tup [a84, x 0])
theorem q22_35 : E 22 e22_35 := mq l22 fun k => by kernel_rfl
def e22_36 : Ent := (994157875802961528, [a0, x 0, .agg (wr 2 true [u 1, u 65537, u 1, u 0, u 0, u 65540, u 1, u 0, u 0, u 0, u 0, u 0, u 0, .lst [.bool true] 1, u 0, x 0, u 0])], .tup [a10, x 0])
theorem q22_36 : E 22 e22_36 := mq l22 fun k => by kernel_rfl
def e22_37 : Ent := (402439010924739099, [a0, x 0, .agg (wr 3 true [u 1, u 65537, u 1, u 0, u 0, u 65540, u 1, u 0, u 0, u 0, u 0, u 0, u 0, .lst [.bool true] 1, u 0, x 0, u 0])], .tup [a13, x 0])
theorem q22_37 : E 22 e22_37 := mq l22 fun k => by kernel_rfl
def e22_38 : Ent := (822128795953286997, [a0, x 0, .agg (wr 12 true [u 1, u 65538, u 1, u 0, u 0, u 65540, u 1, u 0, u 0, u 0, u 0, u 0, u 0, .lst [.bool true] 1, u 0, x 0, u 0])], .tup [a88, x 0])
theorem q22_38 : E 22 e22_38 := mq l22 fun k => by kernel_rfl
def e22_39 : Ent := (260926156224662543, [a0, x 0, .agg (wr 11 true [u 1, u 65538, u 1, u 0, u 0, u 65540, u 1, u 0, u 0, u 0, u 0, u 0, u 0, .lst [.bool true] 1, u 0, x 0, u 0])], .tup [a92, x 0])
theorem q22_39 : E 22 e22_39 := mq l22 fun k => by kernel_rfl
def e22_40 : Ent := (974709921701276872, [a0, x 0, .agg (wr 2 true [u 1, u 65538, u 1, u 0, u 0, u 65540, u 1, u 0, u 0, u 0, u 0, u 0, u 0, .lst [.bool true] 1, u 0, x 0, u 0])], .tup [a10, x 0])
theorem q22_40 : E 22 e22_40 := mq l22 fun k => by kernel_rfl
def e22_41 : Ent := (382991056823054443, [a0, x 0, .agg (wr 3 true [u 1, u 65538, u 1, u 0, u 0, u 65540, u 1, u 0, u 0, u 0, u 0, u 0, u 0, .lst [.bool true] 1, u 0, x 0, u 0])], .tup [a13, x 0])
theorem q22_41 : E 22 e22_41 := mq l22 fun k => by kernel_rfl
def e22_42 : Ent := (772164616764987345, [a0, x 0, .agg (wr 14 true [u 1, u 65539, u 1, u 0, u 0, u 65540, u 1, u 0, u 0, u 0, u 0, u 0, u 0, .lst [.bool true] 1, u 65539, x 0, u 0])], .tup [a97, x 0])
theorem q22_42 : E 22 e22_42 := mq l22 fun k => by kernel_rfl
def e22_43 : Ent := (241478202185960897, [a0, x 0, .agg (wr 11 true [u 1, u 65539, u 1, u 0, u 0, u 65540, u 1, u 0, u 0, u 0, u 0, u 0, u 0, .lst [.bool true] 1, u 65539, x 1, u 0])], .tup [a100, x 0])
theorem q22_43 : E 22 e22_43 := mq l22 fun k => by kernel_rfl
def e22_44 : Ent := (955261967662575226, [a0, x 0, .agg (wr 2 true [u 1, u 65539, u 1, u 0, u 0, u 65540, u 1, u 0, u 0, u 0, u 0, u 0, u 0, .lst [.bool true] 1, u 65539, x 1, u 0])], .tup [a10, x 0])
theorem q22_44 : E 22 e22_44 := mq l22 fun k => by kernel_rfl
def e22_45 : Ent := (363543102784352797, [a0, x 0, .agg (wr 3 true [u 1, u 65539, u 1, u 0, u 0, u 65540, u 1, u 0, u 0, u 0, u 0, u 0, u 0, .lst [.bool true] 1, u 65539, x 1, u 0])], .tup [a13, x 0])
theorem q22_45 : E 22 e22_45 := mq l22 fun k => by kernel_rfl
def e22_46 : Ent := (191514022934678266, [a0, x 0, .agg (wr 13 true [u 1, u 65540, u 1, u 0, u 0, u 65540, u 1, u 0, u 0, u 0, u 0, u 0, u 0, .lst [.bool true] 1, u 65539, x 1, u 0])], .tup [a104, x 0])
theorem q22_46 : E 22 e22_46 := mq l22 fun k => by kernel_rfl
def e22_47 : Ent := (222030248084276241, [a0, x 0, .agg (wr 11 true [u 1, u 65540, u 1, u 0, u 0, u 65540, u 1, u 0, u 0, u 0, u 0, u 0, u 0, .lst [.bool true] 1, u 65539, x 1, u 0])], .tup [a108, x 0])
theorem q22_47 : E 22 e22_47 := mq l22 fun k => by kernel_rfl
end Go.Bas.BasTRAlive
