/- Known answers of a closed run, each reckoned by the kernel. -/
import Derived.Test.YtfbmlbocgeabgaaGreatDoorRows
import Derived.Test.YtfbmlbocgeabgaaGreatDoorCards
import Derived.Test.YtfbmlbocgeabgaaGreatDoorTie
import Derived.SevenTiedAt
import Derived.Test.YtfbmlbocgeabgaaGreatDoorBasNMm
namespace Go.Proofs.YtfbmlbocgeabgaaGreatDoor.worldNames
open Go.ChangeShapes Go.WideShapes Go.ChangeAt Go.RowKit Go.Bas
set_option linter.unusedVariables false
set_option maxRecDepth 100000
theorem base : Base Tryz.prog := ⟨by kernel_rfl, by kernel_rfl⟩
def vals3 : List Value := [.int .u8 0, .int .u8 1, .int .u8 56, .int .u8 2, .int .u8 57, .int .u8 49, .int .u8 28, .int .u8 3, .int .u8 61, .int .u8 58, .int .u8 42, .int .u8 50, .int .u8 38, .int .u8 29, .int .u8 17, .int .u8 4, .int .u8 62, .int .u8 47, .int .u8 59, .int .u8 36, .int .u8 45, .int .u8 43, .int .u8 51, .int .u8 22, .int .u8 53, .int .u8 39, .int .u8 33, .int .u8 30, .int .u8 24, .int .u8 18, .int .u8 12, .int .u8 5, .int .u8 63, .int .u8 55, .int .u8 48, .int .u8 27, .int .u8 60, .int .u8 41, .int .u8 37, .int .u8 16, .int .u8 46, .int .u8 35, .int .u8 44, .int .u8 21, .int .u8 52, .int .u8 32, .int .u8 23, .int .u8 11, .int .u8 54, .int .u8 26, .int .u8 40, .int .u8 15, .int .u8 34, .int .u8 20, .int .u8 31, .int .u8 10, .int .u8 25, .int .u8 14, .int .u8 19, .int .u8 9, .int .u8 13, .int .u8 8, .int .u8 7, .int .u8 6]
def cells3 : List AV := [.int .u8 0, .int .u8 1, .int .u8 56, .int .u8 2, .int .u8 57, .int .u8 49, .int .u8 28, .int .u8 3, .int .u8 61, .int .u8 58, .int .u8 42, .int .u8 50, .int .u8 38, .int .u8 29, .int .u8 17, .int .u8 4, .int .u8 62, .int .u8 47, .int .u8 59, .int .u8 36, .int .u8 45, .int .u8 43, .int .u8 51, .int .u8 22, .int .u8 53, .int .u8 39, .int .u8 33, .int .u8 30, .int .u8 24, .int .u8 18, .int .u8 12, .int .u8 5, .int .u8 63, .int .u8 55, .int .u8 48, .int .u8 27, .int .u8 60, .int .u8 41, .int .u8 37, .int .u8 16, .int .u8 46, .int .u8 35, .int .u8 44, .int .u8 21, .int .u8 52, .int .u8 32, .int .u8 23, .int .u8 11, .int .u8 54, .int .u8 26, .int .u8 40, .int .u8 15, .int .u8 34, .int .u8 20, .int .u8 31, .int .u8 10, .int .u8 25, .int .u8 14, .int .u8 19, .int .u8 9, .int .u8 13, .int .u8 8, .int .u8 7, .int .u8 6]
def vals2 : List Value := [.int .i64 1, .int .i64 2, .int .i64 4, .int .i64 8, .int .i64 16, .int .i64 1, .int .i64 3, .int .i64 9, .int .i64 27, .int .i64 81, .int .i64 1, .int .i64 4, .int .i64 16, .int .i64 64, .int .i64 256]
def cells2 : List AV := [.int .i64 1, .int .i64 2, .int .i64 4, .int .i64 8, .int .i64 16, .int .i64 1, .int .i64 3, .int .i64 9, .int .i64 27, .int .i64 81, .int .i64 1, .int .i64 4, .int .i64 16, .int .i64 64, .int .i64 256]
def vals1 : List Value := [.int .u8 0, .int .u8 1, .int .u8 1, .int .u8 1, .int .u8 2, .int .u8 2, .int .u8 2, .int .u8 2, .int .u8 2, .int .u8 3, .int .u8 3, .int .u8 3, .int .u8 4, .int .u8 4, .int .u8 4]
def cells1 : List AV := [.int .u8 0, .int .u8 1, .int .u8 1, .int .u8 1, .int .u8 2, .int .u8 2, .int .u8 2, .int .u8 2, .int .u8 2, .int .u8 3, .int .u8 3, .int .u8 3, .int .u8 4, .int .u8 4, .int .u8 4]
def vals0 : List Value := [.bool false, .bool true, .bool true, .bool false, .bool true, .bool true, .bool false, .bool false, .bool false, .bool true, .bool true, .bool false, .bool true, .bool true, .bool false]
def cells0 : List AV := [.bool false, .bool true, .bool true, .bool false, .bool true, .bool true, .bool false, .bool false, .bool false, .bool true, .bool true, .bool false, .bool true, .bool true, .bool false]
def gs : List (Nat × List AV) := [(3, cells3), (2, cells2), (1, cells1), (0, cells0)]
def x (n : Int) : AV := .int .i64 n
def y (n : Int) : AV := .int .u8 n
def w (n : Int) : AV := .int .u32 n
def u (n : Int) : AV := .int .u64 n
def a0 : AV := .agg [y 0, x 0, x 0, y 0, x 0, x 0, x 0, x 0, x 0, x 0, u 0, u 0]
def a1 : AV := .agg [y 3, x 2, x 1, y 1, x 0, x 0, x 1, x 0, x 1, x 0, u 131072, u 0]
def a2 : AV := .lst [y 11, w 0, w 0, w 0, y 11, w 1, w 7, w 0] 2
def a3 : AV := .agg [x 1, y 0, y 0, x 0, x 0, u 0, y 0, w 0, w 0, y 0, y 0, y 0, y 0, y 0, y 0, w 0, w 0, x 0, w 0, .nils, x 0, y 0, u 0, y 0, w 0, w 0, w 0, .bool false, x 0, w 0, .nils, u 0, u 0, u 0, u 0, u 0, u 0, u 0, u 0, u 0, u 0, u 0, u 0, u 0, .nils, u 0, x 0, u 0, u 0, .bool false]
def a4 : AV := .agg [y 11, w 1, w 7, w 0]
def a5 : AV := .agg [y 11, w 1, w 7, y 0, y 0, y 0, y 0, y 0, y 0, w 0, w 0]
def a6 : AV := .agg [y 1, x 0, x 0, u 0, y 11, w 1, w 7, y 0, y 0, y 0, y 0, y 0, y 0, w 0, w 0, x 0, w 0, .nils, x 0]
def a7 : AV := .agg [x 1, y 1, y 1, x 0, x 0, u 0, y 11, w 1, w 7, y 0, y 0, y 0, y 0, y 0, y 0, w 0, w 0, x 0, w 0, .nils, x 0, y 0, u 0, y 0, w 0, w 0, w 0, .bool false, x 0, w 0, .nils, u 0, u 0, u 0, u 0, u 0, u 0, u 0, u 0, u 0, u 0, u 0, u 0, u 0, .nils, u 0, x 0, u 0, u 0, .bool false]
def a8 : AV := .agg [y 1, x 0, u 0, u 0, u 0, x 0, w 0]
def a9 : AV := .agg [y 1, x 0, u 0, u 0, u 0, u 0, u 0, u 0, u 0, u 0]
def a10 : AV := .agg [u 0, u 0, u 0, u 0]
def a11 : AV := .agg [y 2, x 0, x 0, u 0, y 11, w 1, w 7, y 0, y 0, y 0, y 0, y 0, y 0, w 0, w 0, x 0, w 0, .ns, x 0]
def a12 : AV := .agg [x 1, y 1, y 2, x 0, x 0, u 0, y 11, w 1, w 7, y 0, y 0, y 0, y 0, y 0, y 0, w 0, w 0, x 0, w 0, .ns, x 0, y 0, u 0, y 0, w 0, w 0, w 0, .bool false, x 0, w 0, .nils, u 0, u 0, u 0, u 0, u 0, u 0, u 0, u 0, u 0, u 0, u 0, u 0, u 0, .nils, u 0, x 0, u 0, u 0, .bool false]
def a13 : AV := .agg [y 2, x 5, u 0, u 0, u 0, u 0, u 0, u 1, u 0, u 0]
def a14 : AV := .agg [y 3, x 0, x 0, u 0, y 11, w 1, w 7, y 0, y 0, y 0, y 0, y 0, y 0, w 0, w 0, x 0, w 0, .ns, x 0]
def a15 : AV := .agg [x 1, y 1, y 3, x 0, x 0, u 0, y 11, w 1, w 7, y 0, y 0, y 0, y 0, y 0, y 0, w 0, w 0, x 0, w 0, .ns, x 0, y 0, u 0, y 0, w 0, w 0, w 0, .bool false, x 0, w 0, .nils, u 0, u 0, u 0, u 0, u 0, u 0, u 0, u 0, u 0, u 0, u 0, u 0, u 0, .nils, u 0, x 0, u 0, u 0, .bool false]
def a16 : AV := .agg [y 1, x 1, u 0, u 0, u 0, u 0, u 0, u 0, u 0, u 0]
def a17 : AV := .agg [y 4, x 0, x 0, u 0, y 11, w 1, w 7, y 0, y 0, y 0, y 0, y 0, y 0, w 0, w 0, x 0, w 0, .ns, x 0]
def a18 : AV := .agg [x 1, y 1, y 4, x 0, x 0, u 0, y 11, w 1, w 7, y 0, y 0, y 0, y 0, y 0, y 0, w 0, w 0, x 0, w 0, .ns, x 0, y 0, u 0, y 0, w 0, w 0, w 0, .bool false, x 0, w 0, .nils, u 0, u 0, u 0, u 0, u 0, u 0, u 0, u 0, u 0, u 0, u 0, u 0, u 0, .nils, u 0, x 0, u 0, u 0, .bool false]
def a19 : AV := .agg [y 1, x 8, u 0, u 0, u 0, u 0, u 0, u 0, u 0, u 0]
def a20 : AV := .agg [y 11, w 1, w 7, y 20, y 0, y 0, y 0, y 0, y 0, w 0, w 0]
def a21 : AV := .agg [y 4, x 0, u 0, u 0, u 0, x 0, w 0]
def a22 : AV := .agg [y 6, x 0, x 0, u 0, y 11, w 1, w 7, y 20, y 0, y 0, y 0, y 0, y 0, w 0, w 0, x 0, w 0, .ns, x 0]
def a23 : AV := .agg [x 1, y 1, y 6, x 0, x 0, u 0, y 11, w 1, w 7, y 20, y 0, y 0, y 0, y 0, y 0, w 0, w 0, x 0, w 0, .ns, x 0, y 0, u 0, y 0, w 0, w 0, w 0, .bool false, x 0, w 0, .nils, u 0, u 0, u 0, u 0, u 0, u 0, u 0, u 0, u 0, u 0, u 0, u 0, u 0, .nils, u 0, x 0, u 0, u 0, .bool false]
def a24 : AV := .agg [y 2, x 5, u 0, u 0, u 0, u 0, u 0, u 0, u 0, u 0]
def a25 : AV := .agg [u 0, u 1, u 0, u 0]
noncomputable abbrev c39 : Cfg := ⟨Tryz.prog, gmap gs, lookS [], fun _ => false, fun _ => none⟩
theorem l39 : ∀ s ∈ ([] : List Sum), SumOk Tryz.prog (gmap gs) s := sums_nil
def A39_0 : List AV := [a0]
def R39_0 : AV := x 40
theorem m39_0 (k : AV → Bool) : runF c39 200000 39 A39_0 k false = k R39_0 := by kernel_rfl
theorem q39_0 : ACalls Tryz.prog (gmap gs) 39 A39_0 (fun v => v = R39_0) := acalls_eq base l39 fun k hk => (m39_0 k).trans hk
def A39_1 : List AV := [a1]
def R39_1 : AV := x 0
theorem m39_1 (k : AV → Bool) : runF c39 200000 39 A39_1 k false = k R39_1 := by kernel_rfl
theorem q39_1 : ACalls Tryz.prog (gmap gs) 39 A39_1 (fun v => v = R39_1) := acalls_eq base l39 fun k hk => (m39_1 k).trans hk
def M39 : List (Nat × List AV × AV) := [(183787982883994944, A39_0, R39_0), (261679962693091325, A39_1, R39_1)]
theorem s39 : SumOk Tryz.prog (gmap gs) (39, memoH M39) := memoH_sum (memoH_cons q39_0 (memoH_cons q39_1 memoH_nil))
noncomputable abbrev c40 : Cfg := ⟨Tryz.prog, gmap gs, lookS [], fun _ => false, fun _ => none⟩
def A40_0 : List AV := [a1]
def R40_0 : AV := x 1
theorem m40_0 (k : AV → Bool) : runF c40 200000 40 A40_0 k false = k R40_0 := by kernel_rfl
theorem q40_0 : ACalls Tryz.prog (gmap gs) 40 A40_0 (fun v => v = R40_0) := acalls_eq base sums_nil fun k hk => (m40_0 k).trans hk
def M40 : List (Nat × List AV × AV) := [(261679962693091325, A40_0, R40_0)]
theorem s40 : SumOk Tryz.prog (gmap gs) (40, memoH M40) := memoH_sum (memoH_cons q40_0 memoH_nil)
noncomputable abbrev c11 : Cfg := ⟨Tryz.prog, gmap gs, lookS [(39, memoH M39), (40, memoH M40)], fun _ => false, fun _ => none⟩
theorem l11 : ∀ s ∈ ([(39, memoH M39), (40, memoH M40)] : List Sum), SumOk Tryz.prog (gmap gs) s := (sums_cons s39 (sums_cons s40 sums_nil))
def A11_0 : List AV := [a0]
def R11_0 : AV := .tup [.nils, x 40]
theorem m11_0 (k : AV → Bool) : runF c11 200000 11 A11_0 k false = k R11_0 := by kernel_rfl
theorem q11_0 : ACalls Tryz.prog (gmap gs) 11 A11_0 (fun v => v = R11_0) := acalls_eq base l11 fun k hk => (m11_0 k).trans hk
def A11_1 : List AV := [a1]
def R11_1 : AV := .tup [.lst [u 0, u 0, u 0, u 0, u 0, u 0, u 0, u 0, u 7, u 0, u 0, u 0, u 0, u 0, u 0, u 0, u 0, u 0, u 0, u 0, u 0, u 0, u 0, u 0, u 0, u 0, u 0, u 0, u 0, u 0, u 0, u 0, u 0, u 0, u 0, u 0, u 0, u 0, u 0, u 0, u 0, u 0, u 0, u 0] 11, x 0]
theorem m11_1 (k : AV → Bool) : runF c11 200000 11 A11_1 k false = k R11_1 := by kernel_rfl
theorem q11_1 : ACalls Tryz.prog (gmap gs) 11 A11_1 (fun v => v = R11_1) := acalls_eq base l11 fun k hk => (m11_1 k).trans hk
def M11 : List (Nat × List AV × AV) := [(183787982883994944, A11_0, R11_0), (261679962693091325, A11_1, R11_1)]
theorem s11 : SumOk Tryz.prog (gmap gs) (11, memoH M11) := memoH_sum (memoH_cons q11_0 (memoH_cons q11_1 memoH_nil))
noncomputable abbrev c42 : Cfg := ⟨Tryz.prog, gmap gs, lookS [], fun _ => false, fun _ => none⟩
def A42_0 : List AV := [y 11]
def R42_0 : AV := y 3
theorem m42_0 (k : AV → Bool) : runF c42 200000 42 A42_0 k false = k R42_0 := by kernel_rfl
theorem q42_0 : ACalls Tryz.prog (gmap gs) 42 A42_0 (fun v => v = R42_0) := acalls_eq base sums_nil fun k hk => (m42_0 k).trans hk
def M42 : List (Nat × List AV × AV) := [(18, A42_0, R42_0)]
theorem s42 : SumOk Tryz.prog (gmap gs) (42, memoH M42) := memoH_sum (memoH_cons q42_0 memoH_nil)
noncomputable abbrev c27 : Cfg := ⟨Tryz.prog, gmap gs, lookS [(39, memoH M39), (42, memoH M42)], fun _ => false, fun _ => none⟩
theorem l27 : ∀ s ∈ ([(39, memoH M39), (42, memoH M42)] : List Sum), SumOk Tryz.prog (gmap gs) s := (sums_cons s39 (sums_cons s42 sums_nil))
def A27_0 : List AV := [a1, .agg [y 11, w 0, w 0, w 0]]
def R27_0 : AV := x 10
theorem m27_0 (k : AV → Bool) : runF c27 200000 27 A27_0 k false = k R27_0 := by kernel_rfl
theorem q27_0 : ACalls Tryz.prog (gmap gs) 27 A27_0 (fun v => v = R27_0) := acalls_eq base l27 fun k hk => (m27_0 k).trans hk
def A27_1 : List AV := [a1, a4]
def R27_1 : AV := x 0
theorem m27_1 (k : AV → Bool) : runF c27 200000 27 A27_1 k false = k R27_1 := by kernel_rfl
theorem q27_1 : ACalls Tryz.prog (gmap gs) 27 A27_1 (fun v => v = R27_1) := acalls_eq base l27 fun k hk => (m27_1 k).trans hk
def M27 : List (Nat × List AV × AV) := [(758402636005259118, A27_0, R27_0), (758402636005260296, A27_1, R27_1)]
theorem s27 : SumOk Tryz.prog (gmap gs) (27, memoH M27) := memoH_sum (memoH_cons q27_0 (memoH_cons q27_1 memoH_nil))
noncomputable abbrev c28 : Cfg := ⟨Tryz.prog, gmap gs, lookS [], fun _ => false, fun _ => none⟩
def A28_0 : List AV := [y 11]
def R28_0 : AV := .bool false
theorem m28_0 (k : AV → Bool) : runF c28 200000 28 A28_0 k false = k R28_0 := by kernel_rfl
theorem q28_0 : ACalls Tryz.prog (gmap gs) 28 A28_0 (fun v => v = R28_0) := acalls_eq base sums_nil fun k hk => (m28_0 k).trans hk
def M28 : List (Nat × List AV × AV) := [(18, A28_0, R28_0)]
theorem s28 : SumOk Tryz.prog (gmap gs) (28, memoH M28) := memoH_sum (memoH_cons q28_0 memoH_nil)
noncomputable abbrev c47 : Cfg := ⟨Tryz.prog, gmap gs, lookS [], fun _ => false, fun _ => none⟩
def A47_0 : List AV := [a4]
def R47_0 : AV := a5
theorem m47_0 (k : AV → Bool) : runF c47 200000 47 A47_0 k false = k R47_0 := by kernel_rfl
theorem q47_0 : ACalls Tryz.prog (gmap gs) 47 A47_0 (fun v => v = R47_0) := acalls_eq base sums_nil fun k hk => (m47_0 k).trans hk
def M47 : List (Nat × List AV × AV) := [(544367, A47_0, R47_0)]
theorem s47 : SumOk Tryz.prog (gmap gs) (47, memoH M47) := memoH_sum (memoH_cons q47_0 memoH_nil)
noncomputable abbrev c31 : Cfg := ⟨Tryz.prog, gmap gs, lookS [(27, memoH M27), (28, memoH M28), (47, memoH M47)], fun _ => false, fun _ => none⟩
def A31_0 : List AV := [a1, a4]
def R31_0 : AV := .tup [a6, x 0]
theorem m31_0 (k : AV → Bool) : runF c31 200000 31 A31_0 k false = k R31_0 := by kernel_rfl
theorem q31_0 : ACalls Tryz.prog (gmap gs) 31 A31_0 (fun v => v = R31_0) := acalls_eq base (sums_cons s27 (sums_cons s28 (sums_cons s47 sums_nil))) fun k hk => (m31_0 k).trans hk
def M31 : List (Nat × List AV × AV) := [(758402636005260296, A31_0, R31_0)]
theorem s31 : SumOk Tryz.prog (gmap gs) (31, memoH M31) := memoH_sum (memoH_cons q31_0 memoH_nil)
noncomputable abbrev c16 : Cfg := ⟨Tryz.prog, gmap gs, lookS [(39, memoH M39), (27, memoH M27), (28, memoH M28), (31, memoH M31)], fun _ => false, fun _ => none⟩
theorem l16 : ∀ s ∈ ([(39, memoH M39), (27, memoH M27), (28, memoH M28), (31, memoH M31)] : List Sum), SumOk Tryz.prog (gmap gs) s := (sums_cons s39 (sums_cons s27 (sums_cons s28 (sums_cons s31 sums_nil))))
def A16_0 : List AV := [a1, x 0, a2, .agg [x 0, y 0, y 0, x 0, x 0, u 0, y 0, w 0, w 0, y 0, y 0, y 0, y 0, y 0, y 0, w 0, w 0, x 0, w 0, .nils, x 0, y 0, u 0, y 0, w 0, w 0, w 0, .bool false, x 0, w 0, .nils, u 0, u 0, u 0, u 0, u 0, u 0, u 0, u 0, u 0, u 0, u 0, u 0, u 0, .nils, u 0, x 0, u 0, u 0, .bool false]]
def R16_0 : AV := .tup [a3, .agg [x 10, w 0, .nils], .bool true, x 0]
theorem m16_0 (k : AV → Bool) : runF c16 200000 16 A16_0 k false = k R16_0 := by kernel_rfl
theorem q16_0 : ACalls Tryz.prog (gmap gs) 16 A16_0 (fun v => v = R16_0) := acalls_eq base l16 fun k hk => (m16_0 k).trans hk
def A16_1 : List AV := [a1, x 0, a2, a3]
def R16_1 : AV := .tup [a7, .agg [x 0, w 0, .nils], .bool false, x 0]
theorem m16_1 (k : AV → Bool) : runF c16 200000 16 A16_1 k false = k R16_1 := by kernel_rfl
theorem q16_1 : ACalls Tryz.prog (gmap gs) 16 A16_1 (fun v => v = R16_1) := acalls_eq base l16 fun k hk => (m16_1 k).trans hk
def M16 : List (Nat × List AV × AV) := [(153091501207978139, A16_0, R16_0), (440227398897602718, A16_1, R16_1)]
theorem s16 : SumOk Tryz.prog (gmap gs) (16, memoH M16) := memoH_sum (memoH_cons q16_0 (memoH_cons q16_1 memoH_nil))
noncomputable abbrev c56 : Cfg := ⟨Tryz.prog, gmap gs, lookS [(39, memoH M39), (40, memoH M40)], fun _ => false, fun _ => none⟩
theorem l56 : ∀ s ∈ ([(39, memoH M39), (40, memoH M40)] : List Sum), SumOk Tryz.prog (gmap gs) s := (sums_cons s39 (sums_cons s40 sums_nil))
def A56_0 : List AV := [a1, .agg [y 1, x 0, x 0]]
def R56_0 : AV := .tup [x 0, x 0]
theorem m56_0 (k : AV → Bool) : runF c56 200000 56 A56_0 k false = k R56_0 := by kernel_rfl
theorem q56_0 : ACalls Tryz.prog (gmap gs) 56 A56_0 (fun v => v = R56_0) := acalls_eq base l56 fun k hk => (m56_0 k).trans hk
def A56_1 : List AV := [a1, .agg [y 6, x 0, x 0]]
def R56_1 : AV := .tup [x 5, x 0]
theorem m56_1 (k : AV → Bool) : runF c56 200000 56 A56_1 k false = k R56_1 := by kernel_rfl
theorem q56_1 : ACalls Tryz.prog (gmap gs) 56 A56_1 (fun v => v = R56_1) := acalls_eq base l56 fun k hk => (m56_1 k).trans hk
def A56_2 : List AV := [a1, .agg [y 2, x 0, x 0]]
def R56_2 : AV := .tup [x 1, x 0]
theorem m56_2 (k : AV → Bool) : runF c56 200000 56 A56_2 k false = k R56_2 := by kernel_rfl
theorem q56_2 : ACalls Tryz.prog (gmap gs) 56 A56_2 (fun v => v = R56_2) := acalls_eq base l56 fun k hk => (m56_2 k).trans hk
def A56_3 : List AV := [a1, .agg [y 10, x 0, x 0]]
def R56_3 : AV := .tup [x 8, x 0]
theorem m56_3 (k : AV → Bool) : runF c56 200000 56 A56_3 k false = k R56_3 := by kernel_rfl
theorem q56_3 : ACalls Tryz.prog (gmap gs) 56 A56_3 (fun v => v = R56_3) := acalls_eq base l56 fun k hk => (m56_3 k).trans hk
def M56 : List (Nat × List AV × AV) := [(805475942991895024, A56_0, R56_0), (805475942991899829, A56_1, R56_1), (805475942991895985, A56_2, R56_2), (805475942991903673, A56_3, R56_3)]
theorem s56 : SumOk Tryz.prog (gmap gs) (56, memoH M56) := memoH_sum (memoH_cons q56_0 (memoH_cons q56_1 (memoH_cons q56_2 (memoH_cons q56_3 memoH_nil))))
noncomputable abbrev c59 : Cfg := ⟨Tryz.prog, gmap gs, lookS [(39, memoH M39), (56, memoH M56)], fun _ => false, fun _ => none⟩
def A59_0 : List AV := [a1, x 0, x 0]
def R59_0 : AV := .tup [a13, x 0]
theorem m59_0 (k : AV → Bool) : runF c59 200000 59 A59_0 k false = k R59_0 := by kernel_rfl
theorem q59_0 : ACalls Tryz.prog (gmap gs) 59 A59_0 (fun v => v = R59_0) := acalls_eq base (sums_cons s39 (sums_cons s56 sums_nil)) fun k hk => (m59_0 k).trans hk
def M59 : List (Nat × List AV × AV) := [(137556143768143055, A59_0, R59_0)]
theorem s59 : SumOk Tryz.prog (gmap gs) (59, memoH M59) := memoH_sum (memoH_cons q59_0 memoH_nil)
noncomputable abbrev c60 : Cfg := ⟨Tryz.prog, gmap gs, lookS [(39, memoH M39), (56, memoH M56)], fun _ => false, fun _ => none⟩
def A60_0 : List AV := [a1, x 0, x 0]
def R60_0 : AV := .tup [a24, x 0]
theorem m60_0 (k : AV → Bool) : runF c60 200000 60 A60_0 k false = k R60_0 := by kernel_rfl
theorem q60_0 : ACalls Tryz.prog (gmap gs) 60 A60_0 (fun v => v = R60_0) := acalls_eq base (sums_cons s39 (sums_cons s56 sums_nil)) fun k hk => (m60_0 k).trans hk
def M60 : List (Nat × List AV × AV) := [(137556143768143055, A60_0, R60_0)]
theorem s60 : SumOk Tryz.prog (gmap gs) (60, memoH M60) := memoH_sum (memoH_cons q60_0 memoH_nil)
noncomputable abbrev c123 : Cfg := ⟨Tryz.prog, gmap gs, lookS [(39, memoH M39), (27, memoH M27)], fun _ => false, fun _ => none⟩
theorem l123 : ∀ s ∈ ([(39, memoH M39), (27, memoH M27)] : List Sum), SumOk Tryz.prog (gmap gs) s := (sums_cons s39 (sums_cons s27 sums_nil))
def A123_0 : List AV := [a1, a5]
def R123_0 : AV := .tup [a8, x 0]
theorem m123_0 (k : AV → Bool) : runF c123 200000 123 A123_0 k false = k R123_0 := by kernel_rfl
theorem q123_0 : ACalls Tryz.prog (gmap gs) 123 A123_0 (fun v => v = R123_0) := acalls_eq base l123 fun k hk => (m123_0 k).trans hk
def A123_1 : List AV := [a1, a20]
def R123_1 : AV := .tup [a21, x 0]
theorem m123_1 (k : AV → Bool) : runF c123 200000 123 A123_1 k false = k R123_1 := by kernel_rfl
theorem q123_1 : ACalls Tryz.prog (gmap gs) 123 A123_1 (fun v => v = R123_1) := acalls_eq base l123 fun k hk => (m123_1 k).trans hk
def M123 : List (Nat × List AV × AV) := [(935539288024250486, A123_0, R123_0), (935539838276532706, A123_1, R123_1)]
theorem s123 : SumOk Tryz.prog (gmap gs) (123, memoH M123) := memoH_sum (memoH_cons q123_0 (memoH_cons q123_1 memoH_nil))
noncomputable abbrev c73 : Cfg := ⟨Tryz.prog, gmap gs, lookS [(39, memoH M39), (123, memoH M123)], fun _ => false, fun _ => none⟩
theorem l73 : ∀ s ∈ ([(39, memoH M39), (123, memoH M123)] : List Sum), SumOk Tryz.prog (gmap gs) s := (sums_cons s39 (sums_cons s123 sums_nil))
def A73_0 : List AV := [a1, a5]
def R73_0 : AV := .tup [a8, x 0]
theorem m73_0 (k : AV → Bool) : runF c73 200000 73 A73_0 k false = k R73_0 := by kernel_rfl
theorem q73_0 : ACalls Tryz.prog (gmap gs) 73 A73_0 (fun v => v = R73_0) := acalls_eq base l73 fun k hk => (m73_0 k).trans hk
def A73_1 : List AV := [a1, a20]
def R73_1 : AV := .tup [a21, x 0]
theorem m73_1 (k : AV → Bool) : runF c73 200000 73 A73_1 k false = k R73_1 := by kernel_rfl
theorem q73_1 : ACalls Tryz.prog (gmap gs) 73 A73_1 (fun v => v = R73_1) := acalls_eq base l73 fun k hk => (m73_1 k).trans hk
def M73 : List (Nat × List AV × AV) := [(935539288024250486, A73_0, R73_0), (935539838276532706, A73_1, R73_1)]
theorem s73 : SumOk Tryz.prog (gmap gs) (73, memoH M73) := memoH_sum (memoH_cons q73_0 (memoH_cons q73_1 memoH_nil))
noncomputable abbrev c48 : Cfg := ⟨Tryz.prog, gmap gs, lookS [(39, memoH M39), (28, memoH M28), (56, memoH M56), (59, memoH M59), (60, memoH M60), (73, memoH M73)], fun _ => false, fun _ => none⟩
theorem l48 : ∀ s ∈ ([(39, memoH M39), (28, memoH M28), (56, memoH M56), (59, memoH M59), (60, memoH M60), (73, memoH M73)] : List Sum), SumOk Tryz.prog (gmap gs) s := (sums_cons s39 (sums_cons s28 (sums_cons s56 (sums_cons s59 (sums_cons s60 (sums_cons s73 sums_nil))))))
def A48_0 : List AV := [a1, x 0, a6]
def R48_0 : AV := .tup [a9, x 0]
theorem m48_0 (k : AV → Bool) : runF c48 200000 48 A48_0 k false = k R48_0 := by kernel_rfl
theorem q48_0 : ACalls Tryz.prog (gmap gs) 48 A48_0 (fun v => v = R48_0) := acalls_eq base l48 fun k hk => (m48_0 k).trans hk
def A48_1 : List AV := [a1, x 0, a11]
def R48_1 : AV := .tup [a13, x 0]
theorem m48_1 (k : AV → Bool) : runF c48 200000 48 A48_1 k false = k R48_1 := by kernel_rfl
theorem q48_1 : ACalls Tryz.prog (gmap gs) 48 A48_1 (fun v => v = R48_1) := acalls_eq base l48 fun k hk => (m48_1 k).trans hk
def A48_2 : List AV := [a1, x 0, a14]
def R48_2 : AV := .tup [a16, x 0]
theorem m48_2 (k : AV → Bool) : runF c48 200000 48 A48_2 k false = k R48_2 := by kernel_rfl
theorem q48_2 : ACalls Tryz.prog (gmap gs) 48 A48_2 (fun v => v = R48_2) := acalls_eq base l48 fun k hk => (m48_2 k).trans hk
def A48_3 : List AV := [a1, x 0, a17]
def R48_3 : AV := .tup [a19, x 0]
theorem m48_3 (k : AV → Bool) : runF c48 200000 48 A48_3 k false = k R48_3 := by kernel_rfl
theorem q48_3 : ACalls Tryz.prog (gmap gs) 48 A48_3 (fun v => v = R48_3) := acalls_eq base l48 fun k hk => (m48_3 k).trans hk
def A48_4 : List AV := [a1, x 0, a22]
def R48_4 : AV := .tup [a24, x 0]
theorem m48_4 (k : AV → Bool) : runF c48 200000 48 A48_4 k false = k R48_4 := by kernel_rfl
theorem q48_4 : ACalls Tryz.prog (gmap gs) 48 A48_4 (fun v => v = R48_4) := acalls_eq base l48 fun k hk => (m48_4 k).trans hk
def M48 : List (Nat × List AV × AV) := [(1063086952629747573, A48_0, R48_0), (820347134620343285, A48_1, R48_1), (577607316610938997, A48_2, R48_2), (334867498601534709, A48_3, R48_3), (357557400510822753, A48_4, R48_4)]
theorem s48 : SumOk Tryz.prog (gmap gs) (48, memoH M48) := memoH_sum (memoH_cons q48_0 (memoH_cons q48_1 (memoH_cons q48_2 (memoH_cons q48_3 (memoH_cons q48_4 memoH_nil)))))
noncomputable abbrev c17 : Cfg := ⟨Tryz.prog, gmap gs, lookS [(39, memoH M39), (48, memoH M48)], fun _ => false, fun _ => none⟩
theorem l17 : ∀ s ∈ ([(39, memoH M39), (48, memoH M48)] : List Sum), SumOk Tryz.prog (gmap gs) s := (sums_cons s39 (sums_cons s48 sums_nil))
def A17_0 : List AV := [a1, x 0, a7]
def R17_0 : AV := .tup [a9, x 0]
theorem m17_0 (k : AV → Bool) : runF c17 200000 17 A17_0 k false = k R17_0 := by kernel_rfl
theorem q17_0 : ACalls Tryz.prog (gmap gs) 17 A17_0 (fun v => v = R17_0) := acalls_eq base l17 fun k hk => (m17_0 k).trans hk
def A17_1 : List AV := [a1, x 0, a12]
def R17_1 : AV := .tup [a13, x 0]
theorem m17_1 (k : AV → Bool) : runF c17 200000 17 A17_1 k false = k R17_1 := by kernel_rfl
theorem q17_1 : ACalls Tryz.prog (gmap gs) 17 A17_1 (fun v => v = R17_1) := acalls_eq base l17 fun k hk => (m17_1 k).trans hk
def A17_2 : List AV := [a1, x 0, a15]
def R17_2 : AV := .tup [a16, x 0]
theorem m17_2 (k : AV → Bool) : runF c17 200000 17 A17_2 k false = k R17_2 := by kernel_rfl
theorem q17_2 : ACalls Tryz.prog (gmap gs) 17 A17_2 (fun v => v = R17_2) := acalls_eq base l17 fun k hk => (m17_2 k).trans hk
def A17_3 : List AV := [a1, x 0, a18]
def R17_3 : AV := .tup [a19, x 0]
theorem m17_3 (k : AV → Bool) : runF c17 200000 17 A17_3 k false = k R17_3 := by kernel_rfl
theorem q17_3 : ACalls Tryz.prog (gmap gs) 17 A17_3 (fun v => v = R17_3) := acalls_eq base l17 fun k hk => (m17_3 k).trans hk
def A17_4 : List AV := [a1, x 0, a23]
def R17_4 : AV := .tup [a24, x 0]
theorem m17_4 (k : AV → Bool) : runF c17 200000 17 A17_4 k false = k R17_4 := by kernel_rfl
theorem q17_4 : ACalls Tryz.prog (gmap gs) 17 A17_4 (fun v => v = R17_4) := acalls_eq base l17 fun k hk => (m17_4 k).trans hk
def M17 : List (Nat × List AV × AV) := [(744279677357069782, A17_0, R17_0), (714585710949700846, A17_1, R17_1), (684891744542331910, A17_2, R17_2), (655197778134962974, A17_3, R17_3), (118029552297677465, A17_4, R17_4)]
theorem s17 : SumOk Tryz.prog (gmap gs) (17, memoH M17) := memoH_sum (memoH_cons q17_0 (memoH_cons q17_1 (memoH_cons q17_2 (memoH_cons q17_3 (memoH_cons q17_4 memoH_nil)))))
noncomputable abbrev c62 : Cfg := ⟨Tryz.prog, gmap gs, lookS [(39, memoH M39)], fun _ => false, fun _ => none⟩
def A62_0 : List AV := [a1, a10]
def R62_0 : AV := .tup [.bool false, x 0]
theorem m62_0 (k : AV → Bool) : runF c62 200000 62 A62_0 k false = k R62_0 := by kernel_rfl
theorem q62_0 : ACalls Tryz.prog (gmap gs) 62 A62_0 (fun v => v = R62_0) := acalls_eq base (sums_cons s39 sums_nil) fun k hk => (m62_0 k).trans hk
def M62 : List (Nat × List AV × AV) := [(758402636004931417, A62_0, R62_0)]
theorem s62 : SumOk Tryz.prog (gmap gs) (62, memoH M62) := memoH_sum (memoH_cons q62_0 memoH_nil)
noncomputable abbrev c124 : Cfg := ⟨Tryz.prog, gmap gs, lookS [(39, memoH M39), (27, memoH M27)], fun _ => false, fun _ => none⟩
def A124_0 : List AV := [a1, a5, a10]
def R124_0 : AV := .tup [a20, x 0]
theorem m124_0 (k : AV → Bool) : runF c124 200000 124 A124_0 k false = k R124_0 := by kernel_rfl
theorem q124_0 : ACalls Tryz.prog (gmap gs) 124 A124_0 (fun v => v = R124_0) := acalls_eq base (sums_cons s39 (sums_cons s27 sums_nil)) fun k hk => (m124_0 k).trans hk
def M124 : List (Nat × List AV × AV) := [(26635109633951558, A124_0, R124_0)]
theorem s124 : SumOk Tryz.prog (gmap gs) (124, memoH M124) := memoH_sum (memoH_cons q124_0 memoH_nil)
noncomputable abbrev c76 : Cfg := ⟨Tryz.prog, gmap gs, lookS [(39, memoH M39), (124, memoH M124)], fun _ => false, fun _ => none⟩
def A76_0 : List AV := [a1, a5, a10]
def R76_0 : AV := .tup [a20, .agg [u 0, u 0], .bool false, x 0]
theorem m76_0 (k : AV → Bool) : runF c76 200000 76 A76_0 k false = k R76_0 := by kernel_rfl
theorem q76_0 : ACalls Tryz.prog (gmap gs) 76 A76_0 (fun v => v = R76_0) := acalls_eq base (sums_cons s39 (sums_cons s124 sums_nil)) fun k hk => (m76_0 k).trans hk
def M76 : List (Nat × List AV × AV) := [(26635109633951558, A76_0, R76_0)]
theorem s76 : SumOk Tryz.prog (gmap gs) (76, memoH M76) := memoH_sum (memoH_cons q76_0 memoH_nil)
noncomputable abbrev c49 : Cfg := ⟨Tryz.prog, gmap gs, lookS [(39, memoH M39), (28, memoH M28), (73, memoH M73), (62, memoH M62), (76, memoH M76)], fun _ => false, fun _ => none⟩
theorem l49 : ∀ s ∈ ([(39, memoH M39), (28, memoH M28), (73, memoH M73), (62, memoH M62), (76, memoH M76)] : List Sum), SumOk Tryz.prog (gmap gs) s := (sums_cons s39 (sums_cons s28 (sums_cons s73 (sums_cons s62 (sums_cons s76 sums_nil)))))
def A49_0 : List AV := [a1, x 0, a6, a10]
def R49_0 : AV := .tup [a11, .bool false, x 0]
theorem m49_0 (k : AV → Bool) : runF c49 200000 49 A49_0 k false = k R49_0 := by kernel_rfl
theorem q49_0 : ACalls Tryz.prog (gmap gs) 49 A49_0 (fun v => v = R49_0) := acalls_eq base l49 fun k hk => (m49_0 k).trans hk
def A49_1 : List AV := [a1, x 0, .agg [y 2, x 0, x 0, u 0, y 11, w 1, w 7, y 0, y 0, y 0, y 0, y 0, y 0, w 0, w 0, x 0, w 0, .lst [] 0, x 0], a10]
def R49_1 : AV := .tup [a14, .bool false, x 0]
theorem m49_1 (k : AV → Bool) : runF c49 200000 49 A49_1 k false = k R49_1 := by kernel_rfl
theorem q49_1 : ACalls Tryz.prog (gmap gs) 49 A49_1 (fun v => v = R49_1) := acalls_eq base l49 fun k hk => (m49_1 k).trans hk
def A49_2 : List AV := [a1, x 0, .agg [y 3, x 0, x 0, u 0, y 11, w 1, w 7, y 0, y 0, y 0, y 0, y 0, y 0, w 0, w 0, x 0, w 0, .lst [] 0, x 0], a10]
def R49_2 : AV := .tup [a17, .bool false, x 0]
theorem m49_2 (k : AV → Bool) : runF c49 200000 49 A49_2 k false = k R49_2 := by kernel_rfl
theorem q49_2 : ACalls Tryz.prog (gmap gs) 49 A49_2 (fun v => v = R49_2) := acalls_eq base l49 fun k hk => (m49_2 k).trans hk
def A49_3 : List AV := [a1, x 0, .agg [y 4, x 0, x 0, u 0, y 11, w 1, w 7, y 0, y 0, y 0, y 0, y 0, y 0, w 0, w 0, x 0, w 0, .lst [] 0, x 0], a10]
def R49_3 : AV := .tup [a22, .bool false, x 0]
theorem m49_3 (k : AV → Bool) : runF c49 200000 49 A49_3 k false = k R49_3 := by kernel_rfl
theorem q49_3 : ACalls Tryz.prog (gmap gs) 49 A49_3 (fun v => v = R49_3) := acalls_eq base l49 fun k hk => (m49_3 k).trans hk
def A49_4 : List AV := [a1, x 0, .agg [y 6, x 0, x 0, u 0, y 11, w 1, w 7, y 20, y 0, y 0, y 0, y 0, y 0, w 0, w 0, x 0, w 0, .lst [] 0, x 0], a25]
def R49_4 : AV := .tup [a22, .bool true, x 0]
theorem m49_4 (k : AV → Bool) : runF c49 200000 49 A49_4 k false = k R49_4 := by kernel_rfl
theorem q49_4 : ACalls Tryz.prog (gmap gs) 49 A49_4 (fun v => v = R49_4) := acalls_eq base l49 fun k hk => (m49_4 k).trans hk
def M49 : List (Nat × List AV × AV) := [(136195065970045658, A49_0, R49_0), (27004463113656523, A49_1, R49_1), (1070735364577822761, A49_2, R49_2), (961544761435142116, A49_3, R49_3), (61178194989880593, A49_4, R49_4)]
theorem s49 : SumOk Tryz.prog (gmap gs) (49, memoH M49) := memoH_sum (memoH_cons q49_0 (memoH_cons q49_1 (memoH_cons q49_2 (memoH_cons q49_3 (memoH_cons q49_4 memoH_nil)))))
noncomputable abbrev c19 : Cfg := ⟨Tryz.prog, gmap gs, lookS [(39, memoH M39), (48, memoH M48), (49, memoH M49)], fun _ => false, fun _ => none⟩
theorem l19 : ∀ s ∈ ([(39, memoH M39), (48, memoH M48), (49, memoH M49)] : List Sum), SumOk Tryz.prog (gmap gs) s := (sums_cons s39 (sums_cons s48 (sums_cons s49 sums_nil)))
def A19_0 : List AV := [a1, x 0, a7, a10]
def R19_0 : AV := .tup [a12, .agg [x 0, w 0, .nils], .bool false, x 0]
theorem m19_0 (k : AV → Bool) : runF c19 200000 19 A19_0 k false = k R19_0 := by kernel_rfl
theorem q19_0 : ACalls Tryz.prog (gmap gs) 19 A19_0 (fun v => v = R19_0) := acalls_eq base l19 fun k hk => (m19_0 k).trans hk
def A19_1 : List AV := [a1, x 0, a12, a10]
def R19_1 : AV := .tup [a15, .agg [x 0, w 0, .nils], .bool false, x 0]
theorem m19_1 (k : AV → Bool) : runF c19 200000 19 A19_1 k false = k R19_1 := by kernel_rfl
theorem q19_1 : ACalls Tryz.prog (gmap gs) 19 A19_1 (fun v => v = R19_1) := acalls_eq base l19 fun k hk => (m19_1 k).trans hk
def A19_2 : List AV := [a1, x 0, a15, a10]
def R19_2 : AV := .tup [a18, .agg [x 0, w 0, .nils], .bool false, x 0]
theorem m19_2 (k : AV → Bool) : runF c19 200000 19 A19_2 k false = k R19_2 := by kernel_rfl
theorem q19_2 : ACalls Tryz.prog (gmap gs) 19 A19_2 (fun v => v = R19_2) := acalls_eq base l19 fun k hk => (m19_2 k).trans hk
def A19_3 : List AV := [a1, x 0, a18, a10]
def R19_3 : AV := .tup [a23, .agg [x 0, w 0, .nils], .bool false, x 0]
theorem m19_3 (k : AV → Bool) : runF c19 200000 19 A19_3 k false = k R19_3 := by kernel_rfl
theorem q19_3 : ACalls Tryz.prog (gmap gs) 19 A19_3 (fun v => v = R19_3) := acalls_eq base l19 fun k hk => (m19_3 k).trans hk
def A19_4 : List AV := [a1, x 0, a23, a25]
def R19_4 : AV := .tup [.agg [x 2, y 0, y 0, x 0, x 0, u 0, y 0, w 0, w 0, y 0, y 0, y 0, y 0, y 0, y 0, w 0, w 0, x 0, w 0, .nils, x 0, y 0, u 0, y 0, w 0, w 0, w 0, .bool false, x 0, w 0, .nils, u 0, u 0, u 0, u 0, u 0, u 0, u 0, u 0, u 0, u 0, u 0, u 0, u 0, .nils, u 0, x 0, u 0, u 0, .bool false], .agg [x 0, w 0, .ns], .bool true, x 0]
theorem m19_4 (k : AV → Bool) : runF c19 200000 19 A19_4 k false = k R19_4 := by kernel_rfl
theorem q19_4 : ACalls Tryz.prog (gmap gs) 19 A19_4 (fun v => v = R19_4) := acalls_eq base l19 fun k hk => (m19_4 k).trans hk
def M19 : List (Nat × List AV × AV) := [(1098845436219722789, A19_0, R19_0), (335282010305691288, A19_1, R19_1), (724640088998506670, A19_2, R19_2), (1113998167691322052, A19_3, R19_3), (959435953658664362, A19_4, R19_4)]
theorem s19 : SumOk Tryz.prog (gmap gs) (19, memoH M19) := memoH_sum (memoH_cons q19_0 (memoH_cons q19_1 (memoH_cons q19_2 (memoH_cons q19_3 (memoH_cons q19_4 memoH_nil)))))
end Go.Proofs.YtfbmlbocgeabgaaGreatDoor.worldNames
