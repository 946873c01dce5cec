/- Known answers of a closed run, each reckoned by the kernel. -/
import Derived.Test.YtfbmlbocgeabgabGreatDoorRows
import Derived.Test.YtfbmlbocgeabgabGreatDoorCards
import Derived.Test.YtfbmlbocgeabgabGreatDoorTie
import Derived.SevenTiedAt
import Derived.Test.YtfbmlbocgeabgabGreatDoorBasNMm
namespace Go.Proofs.YtfbmlbocgeabgabGreatDoor.ghostNames
open Go.ChangeShapes Go.WideShapes Go.ChangeAt Go.RowKit Go.Bas
set_option linter.unusedVariables false
set_option maxRecDepth 100000
theorem base : Base Tryz.prog := ⟨by kernel_rfl, by kernel_rfl⟩
def vals3 : List Value := [.int .u8 0, .int .u8 1, .int .u8 56, .int .u8 2, .int .u8 57, .int .u8 49, .int .u8 28, .int .u8 3, .int .u8 61, .int .u8 58, .int .u8 42, .int .u8 50, .int .u8 38, .int .u8 29, .int .u8 17, .int .u8 4, .int .u8 62, .int .u8 47, .int .u8 59, .int .u8 36, .int .u8 45, .int .u8 43, .int .u8 51, .int .u8 22, .int .u8 53, .int .u8 39, .int .u8 33, .int .u8 30, .int .u8 24, .int .u8 18, .int .u8 12, .int .u8 5, .int .u8 63, .int .u8 55, .int .u8 48, .int .u8 27, .int .u8 60, .int .u8 41, .int .u8 37, .int .u8 16, .int .u8 46, .int .u8 35, .int .u8 44, .int .u8 21, .int .u8 52, .int .u8 32, .int .u8 23, .int .u8 11, .int .u8 54, .int .u8 26, .int .u8 40, .int .u8 15, .int .u8 34, .int .u8 20, .int .u8 31, .int .u8 10, .int .u8 25, .int .u8 14, .int .u8 19, .int .u8 9, .int .u8 13, .int .u8 8, .int .u8 7, .int .u8 6]
def cells3 : List AV := [.int .u8 0, .int .u8 1, .int .u8 56, .int .u8 2, .int .u8 57, .int .u8 49, .int .u8 28, .int .u8 3, .int .u8 61, .int .u8 58, .int .u8 42, .int .u8 50, .int .u8 38, .int .u8 29, .int .u8 17, .int .u8 4, .int .u8 62, .int .u8 47, .int .u8 59, .int .u8 36, .int .u8 45, .int .u8 43, .int .u8 51, .int .u8 22, .int .u8 53, .int .u8 39, .int .u8 33, .int .u8 30, .int .u8 24, .int .u8 18, .int .u8 12, .int .u8 5, .int .u8 63, .int .u8 55, .int .u8 48, .int .u8 27, .int .u8 60, .int .u8 41, .int .u8 37, .int .u8 16, .int .u8 46, .int .u8 35, .int .u8 44, .int .u8 21, .int .u8 52, .int .u8 32, .int .u8 23, .int .u8 11, .int .u8 54, .int .u8 26, .int .u8 40, .int .u8 15, .int .u8 34, .int .u8 20, .int .u8 31, .int .u8 10, .int .u8 25, .int .u8 14, .int .u8 19, .int .u8 9, .int .u8 13, .int .u8 8, .int .u8 7, .int .u8 6]
def vals2 : List Value := [.int .i64 1, .int .i64 2, .int .i64 4, .int .i64 8, .int .i64 16, .int .i64 1, .int .i64 3, .int .i64 9, .int .i64 27, .int .i64 81, .int .i64 1, .int .i64 4, .int .i64 16, .int .i64 64, .int .i64 256]
def cells2 : List AV := [.int .i64 1, .int .i64 2, .int .i64 4, .int .i64 8, .int .i64 16, .int .i64 1, .int .i64 3, .int .i64 9, .int .i64 27, .int .i64 81, .int .i64 1, .int .i64 4, .int .i64 16, .int .i64 64, .int .i64 256]
def vals1 : List Value := [.int .u8 0, .int .u8 1, .int .u8 1, .int .u8 1, .int .u8 2, .int .u8 2, .int .u8 2, .int .u8 2, .int .u8 2, .int .u8 3, .int .u8 3, .int .u8 3, .int .u8 4, .int .u8 4, .int .u8 4]
def cells1 : List AV := [.int .u8 0, .int .u8 1, .int .u8 1, .int .u8 1, .int .u8 2, .int .u8 2, .int .u8 2, .int .u8 2, .int .u8 2, .int .u8 3, .int .u8 3, .int .u8 3, .int .u8 4, .int .u8 4, .int .u8 4]
def vals0 : List Value := [.bool false, .bool true, .bool true, .bool false, .bool true, .bool true, .bool false, .bool false, .bool false, .bool true, .bool true, .bool false, .bool true, .bool true, .bool false]
def cells0 : List AV := [.bool false, .bool true, .bool true, .bool false, .bool true, .bool true, .bool false, .bool false, .bool false, .bool true, .bool true, .bool false, .bool true, .bool true, .bool false]
def gs : List (Nat × List AV) := [(3, cells3), (2, cells2), (1, cells1), (0, cells0)]
def x (n : Int) : AV := .int .i64 n
def y (n : Int) : AV := .int .u8 n
def w (n : Int) : AV := .int .u32 n
def u (n : Int) : AV := .int .u64 n
def a0 : AV := .agg [y 3, x 2, x 1, y 1, x 0, x 0, x 1, x 0, x 1, x 0, u 131072, u 0]
def a1 : AV := .agg [y 9, w 1, w 7, w 2]
def a2 : AV := .agg [u 1, u 265, u 7, u 2]
def a3 : AV := .agg [y 2, x 3, u 0, u 0, u 0, u 0, u 1, u 265, u 7, u 2]
def a4 : AV := .agg [y 1, u 1, y 9, w 1, w 7, w 2, .bool false, x 0, w 0, .nils, u 0, u 0, u 0, u 0, u 0, u 0, u 0, u 0, u 0, u 0, u 0, u 0, u 0, .nils, u 0, x 0, u 0]
def a5 : AV := .lst [y 9, w 1, w 7, w 2, y 9, w 1, w 7, w 1] 2
def a6 : AV := .agg [x 0, y 0, y 0, x 0, x 0, u 0, y 0, w 0, w 0, y 0, y 0, y 0, y 0, y 0, y 0, w 0, w 0, x 0, w 0, .nils, x 0, y 0, u 0, y 0, w 0, w 0, w 0, .bool false, x 0, w 0, .nils, u 0, u 0, u 0, u 0, u 0, u 0, u 0, u 0, u 0, u 0, u 0, u 0, u 0, .nils, u 0, x 0, u 0, u 0, .bool false]
def a7 : AV := .agg [x 0, y 2, y 0, x 0, x 0, u 0, y 0, w 0, w 0, y 0, y 0, y 0, y 0, y 0, y 0, w 0, w 0, x 0, w 0, .nils, x 0, y 1, u 1, y 9, w 1, w 7, w 2, .bool false, x 0, w 0, .nils, u 0, u 0, u 0, u 0, u 0, u 0, u 0, u 0, u 0, u 0, u 0, u 0, u 0, .nils, u 0, x 0, u 0, u 1, .bool false]
def a8 : AV := .agg [u 0, u 0, u 0, u 0]
def a9 : AV := .agg [x 0, y 2, y 0, x 0, x 0, u 0, y 0, w 0, w 0, y 0, y 0, y 0, y 0, y 0, y 0, w 0, w 0, x 0, w 0, .nils, x 0, y 2, u 1, y 9, w 1, w 7, w 2, .bool false, x 0, w 0, .nils, u 0, u 0, u 0, u 0, u 0, u 0, u 0, u 0, u 0, u 0, u 0, u 0, u 0, .nils, u 0, x 0, u 0, u 1, .bool false]
def a10 : AV := .agg [y 1, x 4, u 0, u 0, u 0, u 0, u 0, u 0, u 0, u 0]
def a11 : AV := .agg [x 0, y 2, y 0, x 0, x 0, u 0, y 0, w 0, w 0, y 0, y 0, y 0, y 0, y 0, y 0, w 0, w 0, x 0, w 0, .nils, x 0, y 3, u 1, y 9, w 1, w 7, w 2, .bool false, x 0, w 0, .nils, u 0, u 0, u 0, u 0, u 0, u 0, u 0, u 0, u 0, u 0, u 0, u 0, u 0, .nils, u 0, x 0, u 0, u 1, .bool false]
def a12 : AV := .agg [y 3, x 0, x 0]
def a13 : AV := .agg [y 1, x 2, u 0, u 0, u 0, u 0, u 0, u 0, u 0, u 0]
def a14 : AV := .agg [u 0, x 7, u 0, x 0]
def a15 : AV := .agg [u 7, u 0, u 0, u 0]
def a16 : AV := .agg [x 0, y 2, y 0, x 0, x 0, u 0, y 0, w 0, w 0, y 0, y 0, y 0, y 0, y 0, y 0, w 0, w 0, x 0, w 0, .nils, x 0, y 4, u 1, y 9, w 1, w 7, w 2, .bool false, x 0, w 0, .nils, u 0, u 7, u 0, u 0, u 0, u 0, u 0, u 0, u 0, u 0, u 0, u 0, u 0, .nils, u 0, x 0, u 0, u 1, .bool false]
def a17 : AV := .agg [y 1, x 3, u 0, u 0, u 0, u 0, u 0, u 0, u 0, u 0]
def a18 : AV := .agg [x 0, y 2, y 0, x 0, x 0, u 0, y 0, w 0, w 0, y 0, y 0, y 0, y 0, y 0, y 0, w 0, w 0, x 0, w 0, .nils, x 0, y 5, u 1, y 9, w 1, w 7, w 2, .bool false, x 0, w 0, .nils, u 0, u 7, u 0, u 0, u 0, u 0, u 0, u 0, u 0, u 1, u 265, u 7, u 2, .nils, u 0, x 0, u 0, u 1, .bool false]
def a19 : AV := .agg [x 0, y 2, y 0, x 0, x 0, u 0, y 0, w 0, w 0, y 0, y 0, y 0, y 0, y 0, y 0, w 0, w 0, x 0, w 0, .nils, x 0, y 6, u 1, y 9, w 1, w 7, w 2, .bool false, x 0, w 0, .nils, u 0, u 7, u 0, u 0, u 0, u 0, u 0, u 0, u 0, u 1, u 265, u 7, u 2, .lst [.bool true] 1, u 0, x 0, u 0, u 1, .bool false]
def a20 : AV := .agg [u 1, x 1, u 1, x 0]
def a21 : AV := .agg [u 65537, u 1, u 0, u 0]
def a22 : AV := .agg [y 3, x 2, u 7, u 0, u 0, u 0, u 65537, u 1, u 0, u 0]
def a23 : AV := .agg [x 0, y 2, y 0, x 0, x 0, u 0, y 0, w 0, w 0, y 0, y 0, y 0, y 0, y 0, y 0, w 0, w 0, x 0, w 0, .nils, x 0, y 2, u 1, y 9, w 1, w 7, w 2, .bool false, x 0, w 0, .nils, u 0, u 7, u 0, u 0, u 0, u 0, u 0, u 0, u 0, u 1, u 265, u 7, u 2, .lst [.bool true] 1, u 0, x 0, u 0, u 1, .bool false]
def a24 : AV := .agg [x 0, y 2, y 0, x 0, x 0, u 0, y 0, w 0, w 0, y 0, y 0, y 0, y 0, y 0, y 0, w 0, w 0, x 0, w 0, .nils, x 0, y 3, u 1, y 9, w 1, w 7, w 2, .bool false, x 0, w 0, .nils, u 0, u 7, u 0, u 0, u 0, u 0, u 0, u 0, u 0, u 1, u 265, u 7, u 2, .lst [.bool true] 1, u 0, x 0, u 0, u 1, .bool false]
def a25 : AV := .agg [x 0, y 2, y 0, x 0, x 0, u 0, y 0, w 0, w 0, y 0, y 0, y 0, y 0, y 0, y 0, w 0, w 0, x 0, w 0, .nils, x 0, y 7, u 1, y 9, w 1, w 7, w 2, .bool false, x 0, w 0, .nils, u 0, u 65537, u 1, u 0, u 0, u 0, u 0, u 0, u 0, u 1, u 265, u 7, u 2, .lst [.bool true] 1, u 0, x 0, u 0, u 1, .bool false]
def a26 : AV := .agg [y 1, x 9, u 0, u 0, u 0, u 0, u 0, u 0, u 0, u 0]
def a27 : AV := .agg [y 2, x 0, x 0]
def a28 : AV := .agg [x 0, y 2, y 0, x 0, x 0, u 0, y 0, w 0, w 0, y 0, y 0, y 0, y 0, y 0, y 0, w 0, w 0, x 0, w 0, .nils, x 0, y 10, u 1, y 9, w 1, w 7, w 2, .bool false, x 0, w 0, .nils, u 0, u 65537, u 1, u 0, u 0, u 0, u 0, u 0, u 0, u 0, u 0, u 0, u 0, .lst [.bool true] 1, u 0, x 0, u 0, u 1, .bool false]
def a29 : AV := .agg [y 0, x 0, u 0, u 0, u 0, u 0, u 0, u 0, u 0, u 0]
def a30 : AV := .agg [y 3, x 9, u 0, u 0, u 0, u 0, u 65536, u 0, u 0, u 0]
def a31 : AV := .agg [x 0, y 2, y 0, x 0, x 0, u 0, y 0, w 0, w 0, y 0, y 0, y 0, y 0, y 0, y 0, w 0, w 0, x 0, w 0, .nils, x 0, y 2, u 1, y 9, w 1, w 7, w 2, .bool false, x 0, w 0, .nils, u 0, u 65537, u 1, u 0, u 0, u 0, u 0, u 0, u 0, u 0, u 0, u 0, u 0, .lst [.bool true] 1, u 0, x 0, u 0, u 1, .bool false]
def a32 : AV := .agg [x 0, y 2, y 0, x 0, x 0, u 0, y 0, w 0, w 0, y 0, y 0, y 0, y 0, y 0, y 0, w 0, w 0, x 0, w 0, .nils, x 0, y 3, u 1, y 9, w 1, w 7, w 2, .bool false, x 0, w 0, .nils, u 0, u 65537, u 1, u 0, u 0, u 0, u 0, u 0, u 0, u 0, u 0, u 0, u 0, .lst [.bool true] 1, u 0, x 0, u 0, u 1, .bool false]
def a33 : AV := .agg [x 0, y 2, y 0, x 0, x 0, u 0, y 0, w 0, w 0, y 0, y 0, y 0, y 0, y 0, y 0, w 0, w 0, x 0, w 0, .nils, x 0, y 7, u 1, y 9, w 1, w 7, w 2, .bool false, x 0, w 0, .nils, u 0, u 65537, u 1, u 0, u 0, u 0, u 0, u 0, u 0, u 0, u 0, u 0, u 0, .lst [.bool true] 1, u 0, x 0, u 0, u 1, .bool false]
def a34 : AV := .agg [u 65536, u 0, u 0, u 0]
def a35 : AV := .agg [y 4, x 3, x 0]
def a36 : AV := .agg [x 0, y 2, y 0, x 0, x 0, u 0, y 0, w 0, w 0, y 0, y 0, y 0, y 0, y 0, y 0, w 0, w 0, x 0, w 0, .nils, x 0, y 8, u 1, y 9, w 1, w 7, w 2, .bool false, x 0, w 0, .nils, u 0, u 65537, u 1, u 0, u 0, u 65536, u 0, u 0, u 0, u 0, u 0, u 0, u 0, .lst [.bool true] 1, u 0, x 0, u 0, u 1, .bool false]
def a37 : AV := .agg [y 9, w 1, w 7, y 0, y 0, y 0, y 0, y 0, y 0, w 0, w 2]
def a38 : AV := .agg [u 65537, y 0, y 1, y 9, w 1, w 7, y 0, y 0, y 0, y 0, y 0, y 0, w 0, w 2]
def a39 : AV := .agg [u 65537, u 36896, u 30064771073, u 8589934592]
def a40 : AV := .agg [y 3, x 9, u 65536, u 0, u 0, u 0, u 65537, u 36896, u 30064771073, u 8589934592]
def a41 : AV := .agg [x 0, y 2, y 0, x 0, x 0, u 0, y 0, w 0, w 0, y 0, y 0, y 0, y 0, y 0, y 0, w 0, w 0, x 0, w 0, .nils, x 0, y 10, u 1, y 9, w 1, w 7, w 2, .bool false, x 0, w 0, .nils, u 0, u 65537, u 1, u 0, u 0, u 65536, u 0, u 0, u 0, u 1, u 265, u 7, u 2, .lst [.bool true] 1, u 0, x 0, u 0, u 1, .bool false]
def a42 : AV := .agg [x 0, y 2, y 0, x 0, x 0, u 0, y 0, w 0, w 0, y 0, y 0, y 0, y 0, y 0, y 0, w 0, w 0, x 0, w 0, .nils, x 0, y 2, u 1, y 9, w 1, w 7, w 2, .bool false, x 0, w 0, .nils, u 0, u 65537, u 1, u 0, u 0, u 65536, u 0, u 0, u 0, u 1, u 265, u 7, u 2, .lst [.bool true] 1, u 0, x 0, u 0, u 1, .bool false]
def a43 : AV := .agg [x 0, y 2, y 0, x 0, x 0, u 0, y 0, w 0, w 0, y 0, y 0, y 0, y 0, y 0, y 0, w 0, w 0, x 0, w 0, .nils, x 0, y 3, u 1, y 9, w 1, w 7, w 2, .bool false, x 0, w 0, .nils, u 0, u 65537, u 1, u 0, u 0, u 65536, u 0, u 0, u 0, u 1, u 265, u 7, u 2, .lst [.bool true] 1, u 0, x 0, u 0, u 1, .bool false]
def a44 : AV := .agg [x 0, y 2, y 0, x 0, x 0, u 0, y 0, w 0, w 0, y 0, y 0, y 0, y 0, y 0, y 0, w 0, w 0, x 0, w 0, .nils, x 0, y 7, u 1, y 9, w 1, w 7, w 2, .bool false, x 0, w 0, .nils, u 0, u 65537, u 1, u 0, u 0, u 65536, u 0, u 0, u 0, u 1, u 265, u 7, u 2, .lst [.bool true] 1, u 0, x 0, u 0, u 1, .bool false]
def a45 : AV := .agg [y 1, x 0, u 0, u 0, u 0, x 0, w 0]
def a46 : AV := .agg [x 0, y 2, y 0, x 0, x 0, u 0, y 0, w 0, w 0, y 0, y 0, y 0, y 0, y 0, y 0, w 0, w 0, x 0, w 0, .nils, x 0, y 8, u 1, y 9, w 1, w 7, w 2, .bool false, x 0, w 0, .nils, u 0, u 65537, u 1, u 0, u 0, u 65537, u 36896, u 30064771073, u 8589934592, u 1, u 265, u 7, u 2, .lst [.bool true] 1, u 0, x 0, u 0, u 1, .bool false]
def a47 : AV := .agg [y 9, w 1, w 7, y 22, y 0, y 0, y 0, y 0, y 0, w 0, w 2]
def a48 : AV := .agg [y 1, x 10, u 0, u 0, u 0, u 0, u 0, u 0, u 0, u 0]
def a49 : AV := .agg [y 9, w 1, w 7, y 2, y 0, y 0, y 0, y 0, y 1, w 0, w 2]
def a50 : AV := .agg [u 65538, y 0, y 1, y 9, w 1, w 7, y 2, y 0, y 0, y 0, y 0, y 1, w 0, w 2]
def a51 : AV := .agg [u 65538, u 140737488523296, u 30064771073, u 8589934592]
def a52 : AV := .agg [y 3, x 9, u 65537, u 36896, u 30064771073, u 8589934592, u 65538, u 140737488523296, u 30064771073, u 8589934592]
def a53 : AV := .agg [x 0, y 2, y 0, x 0, x 0, u 0, y 0, w 0, w 0, y 0, y 0, y 0, y 0, y 0, y 0, w 0, w 0, x 0, w 0, .nils, x 0, y 10, u 1, y 9, w 1, w 7, w 2, .bool false, x 0, w 0, .nils, u 0, u 65537, u 1, u 0, u 0, u 65537, u 36896, u 30064771073, u 8589934592, u 0, u 0, u 0, u 0, .lst [.bool true] 1, u 0, x 0, u 0, u 1, .bool false]
def a54 : AV := .agg [x 0, y 2, y 0, x 0, x 0, u 0, y 0, w 0, w 0, y 0, y 0, y 0, y 0, y 0, y 0, w 0, w 0, x 0, w 0, .nils, x 0, y 2, u 1, y 9, w 1, w 7, w 2, .bool false, x 0, w 0, .nils, u 0, u 65537, u 1, u 0, u 0, u 65537, u 36896, u 30064771073, u 8589934592, u 0, u 0, u 0, u 0, .lst [.bool true] 1, u 0, x 0, u 0, u 1, .bool false]
def a55 : AV := .agg [x 0, y 2, y 0, x 0, x 0, u 0, y 0, w 0, w 0, y 0, y 0, y 0, y 0, y 0, y 0, w 0, w 0, x 0, w 0, .nils, x 0, y 3, u 1, y 9, w 1, w 7, w 2, .bool false, x 0, w 0, .nils, u 0, u 65537, u 1, u 0, u 0, u 65537, u 36896, u 30064771073, u 8589934592, u 0, u 0, u 0, u 0, .lst [.bool true] 1, u 0, x 0, u 0, u 1, .bool false]
def a56 : AV := .agg [x 0, y 2, y 0, x 0, x 0, u 0, y 0, w 0, w 0, y 0, y 0, y 0, y 0, y 0, y 0, w 0, w 0, x 0, w 0, .nils, x 0, y 7, u 1, y 9, w 1, w 7, w 2, .bool false, x 0, w 0, .nils, u 0, u 65537, u 1, u 0, u 0, u 65537, u 36896, u 30064771073, u 8589934592, u 0, u 0, u 0, u 0, .lst [.bool true] 1, u 0, x 0, u 0, u 1, .bool false]
def a57 : AV := .agg [y 2, x 0, u 2, u 1, u 7, x 0, w 0]
def a58 : AV := .agg [x 0, y 2, y 0, x 0, x 0, u 0, y 0, w 0, w 0, y 0, y 0, y 0, y 0, y 0, y 0, w 0, w 0, x 0, w 0, .nils, x 0, y 8, u 1, y 9, w 1, w 7, w 2, .bool false, x 0, w 0, .nils, u 0, u 65537, u 1, u 0, u 0, u 65538, u 140737488523296, u 30064771073, u 8589934592, u 0, u 0, u 0, u 0, .lst [.bool true] 1, u 0, x 0, u 0, u 1, .bool false]
def a59 : AV := .agg [y 3, x 10, u 0, u 0, u 0, u 0, u 65539, u 2, u 1, u 7]
def a60 : AV := .agg [y 9, w 1, w 7, y 20, y 0, y 0, y 0, y 0, y 1, w 0, w 2]
def a61 : AV := .agg [u 65539, y 0, y 1, y 9, w 1, w 7, y 20, y 0, y 0, y 0, y 0, y 1, w 0, w 2]
def a62 : AV := .agg [u 65539, u 140737489702944, u 30064771073, u 8589934592]
def a63 : AV := .agg [y 3, x 9, u 65538, u 140737488523296, u 30064771073, u 8589934592, u 65539, u 140737489702944, u 30064771073, u 8589934592]
def a64 : AV := .agg [x 0, y 2, y 0, x 0, x 0, u 0, y 0, w 0, w 0, y 0, y 0, y 0, y 0, y 0, y 0, w 0, w 0, x 0, w 0, .nils, x 0, y 9, u 1, y 9, w 1, w 7, w 2, .bool false, x 0, w 0, .nils, u 0, u 65537, u 1, u 0, u 0, u 65538, u 140737488523296, u 30064771073, u 8589934592, u 0, u 0, u 0, u 0, .lst [.bool true] 1, u 0, x 0, u 0, u 1, .bool false]
def a65 : AV := .agg [x 0, y 2, y 0, x 0, x 0, u 0, y 0, w 0, w 0, y 0, y 0, y 0, y 0, y 0, y 0, w 0, w 0, x 0, w 0, .nils, x 0, y 10, u 1, y 9, w 1, w 7, w 2, .bool false, x 0, w 0, .nils, u 0, u 65537, u 1, u 0, u 0, u 65538, u 140737488523296, u 30064771073, u 8589934592, u 0, u 0, u 0, u 0, .lst [.bool true] 1, u 0, x 0, u 0, u 1, .bool false]
def a66 : AV := .agg [x 0, y 2, y 0, x 0, x 0, u 0, y 0, w 0, w 0, y 0, y 0, y 0, y 0, y 0, y 0, w 0, w 0, x 0, w 0, .nils, x 0, y 2, u 1, y 9, w 1, w 7, w 2, .bool false, x 0, w 0, .nils, u 0, u 65537, u 1, u 0, u 0, u 65538, u 140737488523296, u 30064771073, u 8589934592, u 0, u 0, u 0, u 0, .lst [.bool true] 1, u 0, x 0, u 0, u 1, .bool false]
def a67 : AV := .agg [x 0, y 2, y 0, x 0, x 0, u 0, y 0, w 0, w 0, y 0, y 0, y 0, y 0, y 0, y 0, w 0, w 0, x 0, w 0, .nils, x 0, y 3, u 1, y 9, w 1, w 7, w 2, .bool false, x 0, w 0, .nils, u 0, u 65537, u 1, u 0, u 0, u 65538, u 140737488523296, u 30064771073, u 8589934592, u 0, u 0, u 0, u 0, .lst [.bool true] 1, u 0, x 0, u 0, u 1, .bool false]
def a68 : AV := .agg [x 0, y 2, y 0, x 0, x 0, u 0, y 0, w 0, w 0, y 0, y 0, y 0, y 0, y 0, y 0, w 0, w 0, x 0, w 0, .nils, x 0, y 7, u 1, y 9, w 1, w 7, w 2, .bool false, x 0, w 0, .nils, u 0, u 65537, u 1, u 0, u 0, u 65538, u 140737488523296, u 30064771073, u 8589934592, u 0, u 0, u 0, u 0, .lst [.bool true] 1, u 0, x 0, u 0, u 1, .bool false]
def a69 : AV := .agg [y 4, x 0, u 0, u 0, u 0, x 0, w 0]
def a70 : AV := .agg [x 0, y 2, y 0, x 0, x 0, u 0, y 0, w 0, w 0, y 0, y 0, y 0, y 0, y 0, y 0, w 0, w 0, x 0, w 0, .nils, x 0, y 8, u 1, y 9, w 1, w 7, w 2, .bool false, x 0, w 0, .nils, u 0, u 65537, u 1, u 0, u 0, u 65539, u 140737489702944, u 30064771073, u 8589934592, u 0, u 0, u 0, u 0, .lst [.bool true] 1, u 0, x 0, u 0, u 1, .bool false]
def a71 : AV := .agg [u 1, u 0, u 0, u 1]
def a72 : AV := .agg [y 3, x 4, u 0, u 0, u 0, u 0, u 1, u 0, u 0, u 1]
def a73 : AV := .agg [u 65540, y 1, y 0, y 0, w 0, w 0, y 0, y 0, y 0, y 0, y 0, y 0, w 0, w 0]
def a74 : AV := .agg [u 65540, u 1, u 0, u 0]
def a75 : AV := .agg [y 3, x 9, u 65539, u 140737489702944, u 30064771073, u 8589934592, u 65540, u 1, u 0, u 0]
def a76 : AV := .agg [x 0, y 2, y 0, x 0, x 0, u 0, y 0, w 0, w 0, y 0, y 0, y 0, y 0, y 0, y 0, w 0, w 0, x 0, w 0, .nils, x 0, y 9, u 1, y 9, w 1, w 7, w 2, .bool false, x 0, w 0, .nils, u 0, u 65537, u 1, u 0, u 0, u 65539, u 140737489702944, u 30064771073, u 8589934592, u 0, u 0, u 0, u 0, .lst [.bool true] 1, u 0, x 0, u 0, u 1, .bool false]
def a77 : AV := .agg [x 0, y 2, y 0, x 0, x 0, u 0, y 0, w 0, w 0, y 0, y 0, y 0, y 0, y 0, y 0, w 0, w 0, x 0, w 0, .nils, x 0, y 10, u 1, y 9, w 1, w 7, w 2, .bool false, x 0, w 0, .nils, u 0, u 65537, u 1, u 0, u 0, u 65539, u 140737489702944, u 30064771073, u 8589934592, u 0, u 0, u 0, u 0, .lst [.bool true] 1, u 0, x 0, u 0, u 1, .bool false]
def a78 : AV := .agg [x 0, y 2, y 0, x 0, x 0, u 0, y 0, w 0, w 0, y 0, y 0, y 0, y 0, y 0, y 0, w 0, w 0, x 0, w 0, .nils, x 0, y 2, u 1, y 9, w 1, w 7, w 2, .bool false, x 0, w 0, .nils, u 0, u 65537, u 1, u 0, u 0, u 65539, u 140737489702944, u 30064771073, u 8589934592, u 0, u 0, u 0, u 0, .lst [.bool true] 1, u 0, x 0, u 0, u 1, .bool false]
def a79 : AV := .agg [x 0, y 2, y 0, x 0, x 0, u 0, y 0, w 0, w 0, y 0, y 0, y 0, y 0, y 0, y 0, w 0, w 0, x 0, w 0, .nils, x 0, y 3, u 1, y 9, w 1, w 7, w 2, .bool true, x 0, w 0, .nils, u 1, u 65537, u 1, u 0, u 0, u 65539, u 140737489702944, u 30064771073, u 8589934592, u 0, u 0, u 0, u 0, .lst [.bool true] 1, u 0, x 0, u 0, u 1, .bool false]
def a80 : AV := .agg [x 0, y 2, y 0, x 0, x 0, u 0, y 0, w 0, w 0, y 0, y 0, y 0, y 0, y 0, y 0, w 0, w 0, x 0, w 0, .nils, x 0, y 7, u 1, y 9, w 1, w 7, w 2, .bool true, x 0, w 0, .nils, u 1, u 65537, u 1, u 0, u 0, u 65539, u 140737489702944, u 30064771073, u 8589934592, u 0, u 0, u 0, u 0, .lst [.bool true] 1, u 0, x 0, u 0, u 1, .bool false]
def a81 : AV := .agg [x 0, y 2, y 0, x 0, x 0, u 0, y 0, w 0, w 0, y 0, y 0, y 0, y 0, y 0, y 0, w 0, w 0, x 0, w 0, .nils, x 0, y 11, u 1, y 9, w 1, w 7, w 2, .bool true, x 0, w 0, .nils, u 1, u 65537, u 1, u 0, u 0, u 65540, u 1, u 0, u 0, u 0, u 0, u 0, u 0, .lst [.bool true] 1, u 0, x 0, u 0, u 1, .bool false]
def a82 : AV := .agg [u 1, x 2, u 1, x 0]
def a83 : AV := .agg [u 65538, u 1, u 0, u 0]
def a84 : AV := .agg [y 3, x 2, u 65537, u 1, u 0, u 0, u 65538, u 1, u 0, u 0]
def a85 : AV := .agg [x 0, y 2, y 0, x 0, x 0, u 0, y 0, w 0, w 0, y 0, y 0, y 0, y 0, y 0, y 0, w 0, w 0, x 0, w 0, .nils, x 0, y 2, u 1, y 9, w 1, w 7, w 2, .bool true, x 0, w 0, .nils, u 1, u 65537, u 1, u 0, u 0, u 65540, u 1, u 0, u 0, u 0, u 0, u 0, u 0, .lst [.bool true] 1, u 0, x 0, u 0, u 1, .bool false]
def a86 : AV := .agg [x 0, y 2, y 0, x 0, x 0, u 0, y 0, w 0, w 0, y 0, y 0, y 0, y 0, y 0, y 0, w 0, w 0, x 0, w 0, .nils, x 0, y 3, u 1, y 9, w 1, w 7, w 2, .bool true, x 0, w 0, .nils, u 1, u 65537, u 1, u 0, u 0, u 65540, u 1, u 0, u 0, u 0, u 0, u 0, u 0, .lst [.bool true] 1, u 0, x 0, u 0, u 1, .bool false]
def a87 : AV := .agg [x 0, y 2, y 0, x 0, x 0, u 0, y 0, w 0, w 0, y 0, y 0, y 0, y 0, y 0, y 0, w 0, w 0, x 0, w 0, .nils, x 0, y 12, u 1, y 9, w 1, w 7, w 2, .bool true, x 0, w 0, .nils, u 1, u 65538, u 1, u 0, u 0, u 65540, u 1, u 0, u 0, u 0, u 0, u 0, u 0, .lst [.bool true] 1, u 0, x 0, u 0, u 1, .bool false]
def a88 : AV := .agg [y 3, x 1, u 0, u 0, u 0, u 0, u 65536, u 1, u 0, u 0]
def a89 : AV := .agg [x 0, y 2, y 0, x 0, x 0, u 0, y 0, w 0, w 0, y 0, y 0, y 0, y 0, y 0, y 0, w 0, w 0, x 0, w 0, .nils, x 0, y 11, u 1, y 9, w 1, w 7, w 2, .bool true, x 0, w 0, .nils, u 1, u 65538, u 1, u 0, u 0, u 65540, u 1, u 0, u 0, u 0, u 0, u 0, u 0, .lst [.bool true] 1, u 0, x 0, u 0, u 1, .bool false]
def a90 : AV := .agg [u 1, x 3, u 1, x 0]
def a91 : AV := .agg [u 65539, u 1, u 0, u 0]
def a92 : AV := .agg [y 3, x 2, u 65538, u 1, u 0, u 0, u 65539, u 1, u 0, u 0]
def a93 : AV := .agg [x 0, y 2, y 0, x 0, x 0, u 0, y 0, w 0, w 0, y 0, y 0, y 0, y 0, y 0, y 0, w 0, w 0, x 0, w 0, .nils, x 0, y 2, u 1, y 9, w 1, w 7, w 2, .bool true, x 0, w 0, .nils, u 1, u 65538, u 1, u 0, u 0, u 65540, u 1, u 0, u 0, u 0, u 0, u 0, u 0, .lst [.bool true] 1, u 0, x 0, u 0, u 1, .bool false]
def a94 : AV := .agg [x 0, y 2, y 0, x 0, x 0, u 0, y 0, w 0, w 0, y 0, y 0, y 0, y 0, y 0, y 0, w 0, w 0, x 0, w 0, .nils, x 0, y 3, u 1, y 9, w 1, w 7, w 2, .bool true, x 0, w 0, .nils, u 1, u 65538, u 1, u 0, u 0, u 65540, u 1, u 0, u 0, u 0, u 0, u 0, u 0, .lst [.bool true] 1, u 0, x 0, u 0, u 1, .bool false]
def a95 : AV := .agg [x 0, y 2, y 0, x 0, x 0, u 0, y 0, w 0, w 0, y 0, y 0, y 0, y 0, y 0, y 0, w 0, w 0, x 0, w 0, .nils, x 0, y 14, u 1, y 9, w 1, w 7, w 2, .bool true, x 0, w 0, .nils, u 1, u 65539, u 1, u 0, u 0, u 65540, u 1, u 0, u 0, u 0, u 0, u 0, u 0, .lst [.bool true] 1, u 65539, x 0, u 0, u 1, .bool false]
def a96 : AV := .agg [u 65539, x 0, u 0]
def a97 : AV := .agg [y 1, x 6, u 0, u 0, u 0, u 0, u 0, u 0, u 0, u 0]
def a98 : AV := .agg [x 0, y 2, y 0, x 0, x 0, u 0, y 0, w 0, w 0, y 0, y 0, y 0, y 0, y 0, y 0, w 0, w 0, x 0, w 0, .nils, x 0, y 11, u 1, y 9, w 1, w 7, w 2, .bool true, x 0, w 0, .nils, u 1, u 65539, u 1, u 0, u 0, u 65540, u 1, u 0, u 0, u 0, u 0, u 0, u 0, .lst [.bool true] 1, u 65539, x 1, u 0, u 1, .bool false]
def a99 : AV := .agg [u 1, x 4, u 1, x 0]
def a100 : AV := .agg [y 3, x 2, u 65539, u 1, u 0, u 0, u 65540, u 1, u 0, u 0]
def a101 : AV := .agg [x 0, y 2, y 0, x 0, x 0, u 0, y 0, w 0, w 0, y 0, y 0, y 0, y 0, y 0, y 0, w 0, w 0, x 0, w 0, .nils, x 0, y 2, u 1, y 9, w 1, w 7, w 2, .bool true, x 0, w 0, .nils, u 1, u 65539, u 1, u 0, u 0, u 65540, u 1, u 0, u 0, u 0, u 0, u 0, u 0, .lst [.bool true] 1, u 65539, x 1, u 0, u 1, .bool false]
def a102 : AV := .agg [x 0, y 2, y 0, x 0, x 0, u 0, y 0, w 0, w 0, y 0, y 0, y 0, y 0, y 0, y 0, w 0, w 0, x 0, w 0, .nils, x 0, y 3, u 1, y 9, w 1, w 7, w 2, .bool true, x 0, w 0, .nils, u 1, u 65539, u 1, u 0, u 0, u 65540, u 1, u 0, u 0, u 0, u 0, u 0, u 0, .lst [.bool true] 1, u 65539, x 1, u 0, u 1, .bool false]
def a103 : AV := .agg [x 0, y 2, y 0, x 0, x 0, u 0, y 0, w 0, w 0, y 0, y 0, y 0, y 0, y 0, y 0, w 0, w 0, x 0, w 0, .nils, x 0, y 13, u 1, y 9, w 1, w 7, w 2, .bool true, x 0, w 0, .nils, u 1, u 65540, u 1, u 0, u 0, u 65540, u 1, u 0, u 0, u 0, u 0, u 0, u 0, .lst [.bool true] 1, u 65539, x 1, u 0, u 1, .bool false]
def a104 : AV := .agg [y 3, x 0, u 0, u 0, u 0, u 0, u 65536, u 1, u 0, u 0]
def a105 : AV := .agg [x 0, y 2, y 0, x 0, x 0, u 0, y 0, w 0, w 0, y 0, y 0, y 0, y 0, y 0, y 0, w 0, w 0, x 0, w 0, .nils, x 0, y 11, u 1, y 9, w 1, w 7, w 2, .bool true, x 0, w 0, .nils, u 1, u 65540, u 1, u 0, u 0, u 65540, u 1, u 0, u 0, u 0, u 0, u 0, u 0, .lst [.bool true] 1, u 65539, x 1, u 0, u 1, .bool false]
def a106 : AV := .agg [u 1, x 5, u 1, x 0]
def a107 : AV := .agg [u 65541, u 1, u 0, u 0]
def a108 : AV := .agg [y 3, x 2, u 65540, u 1, u 0, u 0, u 65541, u 1, u 0, u 0]
def a109 : AV := .agg [x 0, y 2, y 0, x 0, x 0, u 0, y 0, w 0, w 0, y 0, y 0, y 0, y 0, y 0, y 0, w 0, w 0, x 0, w 0, .nils, x 0, y 2, u 1, y 9, w 1, w 7, w 2, .bool true, x 0, w 0, .nils, u 1, u 65540, u 1, u 0, u 0, u 65540, u 1, u 0, u 0, u 0, u 0, u 0, u 0, .lst [.bool true] 1, u 65539, x 1, u 0, u 1, .bool false]
def a110 : AV := .agg [x 0, y 2, y 0, x 0, x 0, u 0, y 0, w 0, w 0, y 0, y 0, y 0, y 0, y 0, y 0, w 0, w 0, x 0, w 0, .nils, x 0, y 3, u 1, y 9, w 1, w 7, w 2, .bool true, x 0, w 0, .nils, u 1, u 65540, u 1, u 0, u 0, u 65540, u 1, u 0, u 0, u 0, u 0, u 0, u 0, .lst [.bool true] 1, u 65539, x 1, u 0, u 1, .bool false]
def a111 : AV := .agg [x 0, y 2, y 0, x 0, x 0, u 0, y 0, w 0, w 0, y 0, y 0, y 0, y 0, y 0, y 0, w 0, w 0, x 0, w 0, .nils, x 0, y 14, u 1, y 9, w 1, w 7, w 2, .bool true, x 0, w 0, .nils, u 1, u 65541, u 1, u 0, u 0, u 65540, u 1, u 0, u 0, u 0, u 0, u 0, u 0, .lst [.bool true] 1, u 65541, x 0, u 0, u 1, .bool false]
def a112 : AV := .agg [u 65541, x 0, u 0]
def a113 : AV := .agg [y 1, x 5, u 0, u 0, u 0, u 0, u 0, u 0, u 0, u 0]
def a114 : AV := .agg [x 0, y 2, y 0, x 0, x 0, u 0, y 0, w 0, w 0, y 0, y 0, y 0, y 0, y 0, y 0, w 0, w 0, x 0, w 0, .nils, x 0, y 11, u 1, y 9, w 1, w 7, w 2, .bool true, x 0, w 0, .nils, u 1, u 65541, u 1, u 0, u 0, u 65540, u 1, u 0, u 0, u 0, u 0, u 0, u 0, .lst [.bool true] 1, u 65541, x 1, u 0, u 1, .bool false]
def a115 : AV := .agg [u 1, x 6, u 1, x 0]
def a116 : AV := .agg [u 65542, u 1, u 0, u 0]
def a117 : AV := .agg [y 3, x 2, u 65541, u 1, u 0, u 0, u 65542, u 1, u 0, u 0]
def a118 : AV := .agg [x 0, y 2, y 0, x 0, x 0, u 0, y 0, w 0, w 0, y 0, y 0, y 0, y 0, y 0, y 0, w 0, w 0, x 0, w 0, .nils, x 0, y 2, u 1, y 9, w 1, w 7, w 2, .bool true, x 0, w 0, .nils, u 1, u 65541, u 1, u 0, u 0, u 65540, u 1, u 0, u 0, u 0, u 0, u 0, u 0, .lst [.bool true] 1, u 65541, x 1, u 0, u 1, .bool false]
def a119 : AV := .agg [x 0, y 2, y 0, x 0, x 0, u 0, y 0, w 0, w 0, y 0, y 0, y 0, y 0, y 0, y 0, w 0, w 0, x 0, w 0, .nils, x 0, y 3, u 1, y 9, w 1, w 7, w 2, .bool true, x 0, w 0, .nils, u 1, u 65541, u 1, u 0, u 0, u 65540, u 1, u 0, u 0, u 0, u 0, u 0, u 0, .lst [.bool true] 1, u 65541, x 1, u 0, u 1, .bool false]
def a120 : AV := .agg [x 0, y 2, y 0, x 0, x 0, u 0, y 0, w 0, w 0, y 0, y 0, y 0, y 0, y 0, y 0, w 0, w 0, x 0, w 0, .nils, x 0, y 7, u 1, y 9, w 1, w 7, w 2, .bool true, x 0, w 0, .nils, u 1, u 65542, u 1, u 0, u 0, u 65540, u 1, u 0, u 0, u 0, u 0, u 0, u 0, .lst [.bool true] 1, u 65541, x 1, u 0, u 1, .bool false]
def a121 : AV := .agg [y 1, x 7, u 0, u 0, u 0, u 0, u 0, u 0, u 0, u 0]
def a122 : AV := .agg [x 0, y 2, y 0, x 0, x 0, u 0, y 0, w 0, w 0, y 0, y 0, y 0, y 0, y 0, y 0, w 0, w 0, x 0, w 0, .nils, x 0, y 10, u 1, y 9, w 1, w 7, w 2, .bool true, x 0, w 0, .nils, u 1, u 65542, u 1, u 0, u 0, u 0, u 0, u 0, u 0, u 0, u 0, u 0, u 0, .lst [.bool true] 1, u 65541, x 1, u 0, u 1, .bool false]
def a123 : AV := .agg [y 3, x 7, u 0, u 0, u 0, u 0, u 65536, u 0, u 0, u 0]
def a124 : AV := .agg [x 0, y 2, y 0, x 0, x 0, u 0, y 0, w 0, w 0, y 0, y 0, y 0, y 0, y 0, y 0, w 0, w 0, x 0, w 0, .nils, x 0, y 2, u 1, y 9, w 1, w 7, w 2, .bool true, x 0, w 0, .nils, u 1, u 65542, u 1, u 0, u 0, u 0, u 0, u 0, u 0, u 0, u 0, u 0, u 0, .lst [.bool true] 1, u 65541, x 1, u 0, u 1, .bool false]
def a125 : AV := .agg [x 0, y 2, y 0, x 0, x 0, u 0, y 0, w 0, w 0, y 0, y 0, y 0, y 0, y 0, y 0, w 0, w 0, x 0, w 0, .nils, x 0, y 3, u 1, y 9, w 1, w 7, w 2, .bool true, x 0, w 0, .nils, u 1, u 65542, u 1, u 0, u 0, u 0, u 0, u 0, u 0, u 0, u 0, u 0, u 0, .lst [.bool true] 1, u 65541, x 1, u 0, u 1, .bool false]
def a126 : AV := .agg [x 0, y 2, y 0, x 0, x 0, u 0, y 0, w 0, w 0, y 0, y 0, y 0, y 0, y 0, y 0, w 0, w 0, x 0, w 0, .nils, x 0, y 7, u 1, y 9, w 1, w 7, w 2, .bool true, x 0, w 0, .nils, u 1, u 65542, u 1, u 0, u 0, u 0, u 0, u 0, u 0, u 0, u 0, u 0, u 0, .lst [.bool true] 1, u 65541, x 1, u 0, u 1, .bool false]
def a127 : AV := .agg [x 0, y 2, y 0, x 0, x 0, u 0, y 0, w 0, w 0, y 0, y 0, y 0, y 0, y 0, y 0, w 0, w 0, x 0, w 0, .nils, x 0, y 8, u 1, y 9, w 1, w 7, w 2, .bool true, x 0, w 0, .nils, u 1, u 65542, u 1, u 0, u 0, u 65536, u 0, u 0, u 0, u 0, u 0, u 0, u 0, .lst [.bool true] 1, u 65541, x 1, u 0, u 1, .bool false]
def a128 : AV := .agg [y 3, x 7, u 65536, u 0, u 0, u 0, u 65537, u 36896, u 30064771073, u 8589934592]
def a129 : AV := .agg [x 0, y 2, y 0, x 0, x 0, u 0, y 0, w 0, w 0, y 0, y 0, y 0, y 0, y 0, y 0, w 0, w 0, x 0, w 0, .nils, x 0, y 10, u 1, y 9, w 1, w 7, w 2, .bool true, x 0, w 0, .nils, u 1, u 65542, u 1, u 0, u 0, u 65536, u 0, u 0, u 0, u 1, u 265, u 7, u 2, .lst [.bool true] 1, u 65541, x 1, u 0, u 1, .bool false]
def a130 : AV := .agg [x 0, y 2, y 0, x 0, x 0, u 0, y 0, w 0, w 0, y 0, y 0, y 0, y 0, y 0, y 0, w 0, w 0, x 0, w 0, .nils, x 0, y 2, u 1, y 9, w 1, w 7, w 2, .bool true, x 0, w 0, .nils, u 1, u 65542, u 1, u 0, u 0, u 65536, u 0, u 0, u 0, u 1, u 265, u 7, u 2, .lst [.bool true] 1, u 65541, x 1, u 0, u 1, .bool false]
def a131 : AV := .agg [x 0, y 2, y 0, x 0, x 0, u 0, y 0, w 0, w 0, y 0, y 0, y 0, y 0, y 0, y 0, w 0, w 0, x 0, w 0, .nils, x 0, y 3, u 1, y 9, w 1, w 7, w 2, .bool true, x 0, w 0, .nils, u 1, u 65542, u 1, u 0, u 0, u 65536, u 0, u 0, u 0, u 1, u 265, u 7, u 2, .lst [.bool true] 1, u 65541, x 1, u 0, u 1, .bool false]
def a132 : AV := .agg [x 0, y 2, y 0, x 0, x 0, u 0, y 0, w 0, w 0, y 0, y 0, y 0, y 0, y 0, y 0, w 0, w 0, x 0, w 0, .nils, x 0, y 7, u 1, y 9, w 1, w 7, w 2, .bool true, x 0, w 0, .nils, u 1, u 65542, u 1, u 0, u 0, u 65536, u 0, u 0, u 0, u 1, u 265, u 7, u 2, .lst [.bool true] 1, u 65541, x 1, u 0, u 1, .bool false]
def a133 : AV := .agg [x 0, y 2, y 0, x 0, x 0, u 0, y 0, w 0, w 0, y 0, y 0, y 0, y 0, y 0, y 0, w 0, w 0, x 0, w 0, .nils, x 0, y 8, u 1, y 9, w 1, w 7, w 2, .bool true, x 0, w 0, .nils, u 1, u 65542, u 1, u 0, u 0, u 65537, u 36896, u 30064771073, u 8589934592, u 1, u 265, u 7, u 2, .lst [.bool true] 1, u 65541, x 1, u 0, u 1, .bool false]
def a134 : AV := .agg [y 1, x 8, u 0, u 0, u 0, u 0, u 0, u 0, u 0, u 0]
def a135 : AV := .agg [y 3, x 7, u 65537, u 36896, u 30064771073, u 8589934592, u 65538, u 140737488523296, u 30064771073, u 8589934592]
def a136 : AV := .agg [x 0, y 2, y 0, x 0, x 0, u 0, y 0, w 0, w 0, y 0, y 0, y 0, y 0, y 0, y 0, w 0, w 0, x 0, w 0, .nils, x 0, y 10, u 1, y 9, w 1, w 7, w 2, .bool true, x 0, w 0, .nils, u 1, u 65542, u 1, u 0, u 0, u 65537, u 36896, u 30064771073, u 8589934592, u 0, u 0, u 0, u 0, .lst [.bool true] 1, u 65541, x 1, u 0, u 1, .bool false]
def a137 : AV := .agg [x 0, y 2, y 0, x 0, x 0, u 0, y 0, w 0, w 0, y 0, y 0, y 0, y 0, y 0, y 0, w 0, w 0, x 0, w 0, .nils, x 0, y 2, u 1, y 9, w 1, w 7, w 2, .bool true, x 0, w 0, .nils, u 1, u 65542, u 1, u 0, u 0, u 65537, u 36896, u 30064771073, u 8589934592, u 0, u 0, u 0, u 0, .lst [.bool true] 1, u 65541, x 1, u 0, u 1, .bool false]
def a138 : AV := .agg [x 0, y 2, y 0, x 0, x 0, u 0, y 0, w 0, w 0, y 0, y 0, y 0, y 0, y 0, y 0, w 0, w 0, x 0, w 0, .nils, x 0, y 3, u 1, y 9, w 1, w 7, w 2, .bool true, x 0, w 0, .nils, u 1, u 65542, u 1, u 0, u 0, u 65537, u 36896, u 30064771073, u 8589934592, u 0, u 0, u 0, u 0, .lst [.bool true] 1, u 65541, x 1, u 0, u 1, .bool false]
def a139 : AV := .agg [x 0, y 2, y 0, x 0, x 0, u 0, y 0, w 0, w 0, y 0, y 0, y 0, y 0, y 0, y 0, w 0, w 0, x 0, w 0, .nils, x 0, y 7, u 1, y 9, w 1, w 7, w 2, .bool true, x 0, w 0, .nils, u 1, u 65542, u 1, u 0, u 0, u 65537, u 36896, u 30064771073, u 8589934592, u 0, u 0, u 0, u 0, .lst [.bool true] 1, u 65541, x 1, u 0, u 1, .bool false]
def a140 : AV := .agg [x 0, y 2, y 0, x 0, x 0, u 0, y 0, w 0, w 0, y 0, y 0, y 0, y 0, y 0, y 0, w 0, w 0, x 0, w 0, .nils, x 0, y 8, u 1, y 9, w 1, w 7, w 2, .bool true, x 0, w 0, .nils, u 1, u 65542, u 1, u 0, u 0, u 65538, u 140737488523296, u 30064771073, u 8589934592, u 0, u 0, u 0, u 0, .lst [.bool true] 1, u 65541, x 1, u 0, u 1, .bool false]
def a141 : AV := .agg [y 3, x 8, u 0, u 0, u 0, u 0, u 65539, u 2, u 1, u 7]
def a142 : AV := .agg [y 3, x 7, u 65538, u 140737488523296, u 30064771073, u 8589934592, u 65539, u 140737489702944, u 30064771073, u 8589934592]
def a143 : AV := .agg [x 0, y 2, y 0, x 0, x 0, u 0, y 0, w 0, w 0, y 0, y 0, y 0, y 0, y 0, y 0, w 0, w 0, x 0, w 0, .nils, x 0, y 9, u 1, y 9, w 1, w 7, w 2, .bool true, x 0, w 0, .nils, u 1, u 65542, u 1, u 0, u 0, u 65538, u 140737488523296, u 30064771073, u 8589934592, u 0, u 0, u 0, u 0, .lst [.bool true] 1, u 65541, x 1, u 0, u 1, .bool false]
def a144 : AV := .agg [x 0, y 2, y 0, x 0, x 0, u 0, y 0, w 0, w 0, y 0, y 0, y 0, y 0, y 0, y 0, w 0, w 0, x 0, w 0, .nils, x 0, y 10, u 1, y 9, w 1, w 7, w 2, .bool true, x 0, w 0, .nils, u 1, u 65542, u 1, u 0, u 0, u 65538, u 140737488523296, u 30064771073, u 8589934592, u 0, u 0, u 0, u 0, .lst [.bool true] 1, u 65541, x 1, u 0, u 1, .bool false]
def a145 : AV := .agg [x 0, y 2, y 0, x 0, x 0, u 0, y 0, w 0, w 0, y 0, y 0, y 0, y 0, y 0, y 0, w 0, w 0, x 0, w 0, .nils, x 0, y 2, u 1, y 9, w 1, w 7, w 2, .bool true, x 0, w 0, .nils, u 1, u 65542, u 1, u 0, u 0, u 65538, u 140737488523296, u 30064771073, u 8589934592, u 0, u 0, u 0, u 0, .lst [.bool true] 1, u 65541, x 1, u 0, u 1, .bool false]
def a146 : AV := .agg [x 0, y 2, y 0, x 0, x 0, u 0, y 0, w 0, w 0, y 0, y 0, y 0, y 0, y 0, y 0, w 0, w 0, x 0, w 0, .nils, x 0, y 3, u 1, y 9, w 1, w 7, w 2, .bool true, x 0, w 0, .nils, u 1, u 65542, u 1, u 0, u 0, u 65538, u 140737488523296, u 30064771073, u 8589934592, u 0, u 0, u 0, u 0, .lst [.bool true] 1, u 65541, x 1, u 0, u 1, .bool false]
def a147 : AV := .agg [x 0, y 2, y 0, x 0, x 0, u 0, y 0, w 0, w 0, y 0, y 0, y 0, y 0, y 0, y 0, w 0, w 0, x 0, w 0, .nils, x 0, y 7, u 1, y 9, w 1, w 7, w 2, .bool true, x 0, w 0, .nils, u 1, u 65542, u 1, u 0, u 0, u 65538, u 140737488523296, u 30064771073, u 8589934592, u 0, u 0, u 0, u 0, .lst [.bool true] 1, u 65541, x 1, u 0, u 1, .bool false]
def a148 : AV := .agg [x 0, y 2, y 0, x 0, x 0, u 0, y 0, w 0, w 0, y 0, y 0, y 0, y 0, y 0, y 0, w 0, w 0, x 0, w 0, .nils, x 0, y 10, u 1, y 9, w 1, w 7, w 2, .bool true, x 0, w 0, .nils, u 1, u 65542, u 1, u 0, u 0, u 65539, u 140737489702944, u 30064771073, u 8589934592, u 0, u 0, u 0, u 0, .lst [.bool true] 1, u 65541, x 1, u 0, u 1, .bool false]
def a149 : AV := .agg [y 3, x 7, u 65539, u 140737489702944, u 30064771073, u 8589934592, u 65540, u 1, u 0, u 0]
def a150 : AV := .agg [x 0, y 2, y 0, x 0, x 0, u 0, y 0, w 0, w 0, y 0, y 0, y 0, y 0, y 0, y 0, w 0, w 0, x 0, w 0, .nils, x 0, y 2, u 1, y 9, w 1, w 7, w 2, .bool true, x 0, w 0, .nils, u 1, u 65542, u 1, u 0, u 0, u 65539, u 140737489702944, u 30064771073, u 8589934592, u 0, u 0, u 0, u 0, .lst [.bool true] 1, u 65541, x 1, u 0, u 1, .bool false]
def a151 : AV := .agg [x 0, y 2, y 0, x 0, x 0, u 0, y 0, w 0, w 0, y 0, y 0, y 0, y 0, y 0, y 0, w 0, w 0, x 0, w 0, .nils, x 0, y 3, u 1, y 9, w 1, w 7, w 2, .bool true, x 0, w 0, .nils, u 1, u 65542, u 1, u 0, u 0, u 65539, u 140737489702944, u 30064771073, u 8589934592, u 0, u 0, u 0, u 0, .lst [.bool true] 1, u 65541, x 1, u 0, u 1, .bool false]
def a152 : AV := .agg [x 0, y 2, y 0, x 0, x 0, u 0, y 0, w 0, w 0, y 0, y 0, y 0, y 0, y 0, y 0, w 0, w 0, x 0, w 0, .nils, x 0, y 7, u 1, y 9, w 1, w 7, w 2, .bool true, x 0, w 0, .nils, u 1, u 65542, u 1, u 0, u 0, u 65539, u 140737489702944, u 30064771073, u 8589934592, u 0, u 0, u 0, u 0, .lst [.bool true] 1, u 65541, x 1, u 0, u 1, .bool false]
def a153 : AV := .agg [x 0, y 2, y 0, x 0, x 0, u 0, y 0, w 0, w 0, y 0, y 0, y 0, y 0, y 0, y 0, w 0, w 0, x 0, w 0, .nils, x 0, y 11, u 1, y 9, w 1, w 7, w 2, .bool true, x 0, w 0, .nils, u 1, u 65542, u 1, u 0, u 0, u 65540, u 1, u 0, u 0, u 0, u 0, u 0, u 0, .lst [.bool true] 1, u 65541, x 1, u 0, u 1, .bool false]
def a154 : AV := .agg [u 1, x 7, u 1, x 0]
def a155 : AV := .agg [u 65543, u 1, u 0, u 0]
def a156 : AV := .agg [y 3, x 2, u 65542, u 1, u 0, u 0, u 65543, u 1, u 0, u 0]
def a157 : AV := .agg [x 0, y 2, y 0, x 0, x 0, u 0, y 0, w 0, w 0, y 0, y 0, y 0, y 0, y 0, y 0, w 0, w 0, x 0, w 0, .nils, x 0, y 2, u 1, y 9, w 1, w 7, w 2, .bool true, x 0, w 0, .nils, u 1, u 65542, u 1, u 0, u 0, u 65540, u 1, u 0, u 0, u 0, u 0, u 0, u 0, .lst [.bool true] 1, u 65541, x 1, u 0, u 1, .bool false]
def a158 : AV := .agg [x 0, y 2, y 0, x 0, x 0, u 0, y 0, w 0, w 0, y 0, y 0, y 0, y 0, y 0, y 0, w 0, w 0, x 0, w 0, .nils, x 0, y 3, u 1, y 9, w 1, w 7, w 2, .bool true, x 0, w 0, .nils, u 1, u 65542, u 1, u 0, u 0, u 65540, u 1, u 0, u 0, u 0, u 0, u 0, u 0, .lst [.bool true] 1, u 65541, x 1, u 0, u 1, .bool false]
def a159 : AV := .agg [x 1, y 0, y 0, x 0, x 0, u 0, y 0, w 0, w 0, y 0, y 0, y 0, y 0, y 0, y 0, w 0, w 0, x 0, w 0, .nils, x 0, y 0, u 0, y 0, w 0, w 0, w 0, .bool false, x 0, w 0, .nils, u 0, u 0, u 0, u 0, u 0, u 0, u 0, u 0, u 0, u 0, u 0, u 0, u 0, .nils, u 0, x 0, u 0, u 1, .bool false]
def a160 : AV := .agg [y 9, w 1, w 7, w 1]
def a161 : AV := .agg [u 2, u 265, u 7, u 1]
def a162 : AV := .agg [y 2, x 3, u 0, u 0, u 0, u 0, u 2, u 265, u 7, u 1]
def a163 : AV := .agg [y 1, u 2, y 9, w 1, w 7, w 1, .bool false, x 0, w 0, .nils, u 0, u 0, u 0, u 0, u 0, u 0, u 0, u 0, u 0, u 0, u 0, u 0, u 0, .nils, u 0, x 0, u 0]
def a164 : AV := .agg [x 1, y 2, y 0, x 0, x 0, u 0, y 0, w 0, w 0, y 0, y 0, y 0, y 0, y 0, y 0, w 0, w 0, x 0, w 0, .nils, x 0, y 1, u 2, y 9, w 1, w 7, w 1, .bool false, x 0, w 0, .nils, u 0, u 0, u 0, u 0, u 0, u 0, u 0, u 0, u 0, u 0, u 0, u 0, u 0, .nils, u 0, x 0, u 0, u 2, .bool false]
def a165 : AV := .agg [x 1, y 2, y 0, x 0, x 0, u 0, y 0, w 0, w 0, y 0, y 0, y 0, y 0, y 0, y 0, w 0, w 0, x 0, w 0, .nils, x 0, y 2, u 2, y 9, w 1, w 7, w 1, .bool false, x 0, w 0, .nils, u 0, u 0, u 0, u 0, u 0, u 0, u 0, u 0, u 0, u 0, u 0, u 0, u 0, .nils, u 0, x 0, u 0, u 2, .bool false]
def a166 : AV := .agg [x 1, y 2, y 0, x 0, x 0, u 0, y 0, w 0, w 0, y 0, y 0, y 0, y 0, y 0, y 0, w 0, w 0, x 0, w 0, .nils, x 0, y 3, u 2, y 9, w 1, w 7, w 1, .bool false, x 0, w 0, .nils, u 0, u 0, u 0, u 0, u 0, u 0, u 0, u 0, u 0, u 0, u 0, u 0, u 0, .nils, u 0, x 0, u 0, u 2, .bool false]
def a167 : AV := .agg [x 1, y 2, y 0, x 0, x 0, u 0, y 0, w 0, w 0, y 0, y 0, y 0, y 0, y 0, y 0, w 0, w 0, x 0, w 0, .nils, x 0, y 15, u 2, y 9, w 1, w 7, w 1, .bool false, x 0, w 0, .nils, u 0, u 65543, u 1, u 0, u 0, u 0, u 0, u 0, u 0, u 0, u 0, u 0, u 0, .nils, u 0, x 0, u 0, u 2, .bool false]
def a168 : AV := .agg [u 0, x 0, u 0, x 0]
def a169 : AV := .lst [y 11, w 0, w 0, w 0, y 11, w 1, w 7, w 0] 2
def a170 : AV := .agg [x 1, y 0, y 0, x 0, x 0, u 0, y 0, w 0, w 0, y 0, y 0, y 0, y 0, y 0, y 0, w 0, w 0, x 0, w 0, .nils, x 0, y 0, u 0, y 0, w 0, w 0, w 0, .bool false, x 0, w 0, .nils, u 0, u 0, u 0, u 0, u 0, u 0, u 0, u 0, u 0, u 0, u 0, u 0, u 0, .nils, u 0, x 0, u 0, u 0, .bool false]
def a171 : AV := .agg [y 11, w 1, w 7, w 0]
def a172 : AV := .agg [y 11, w 1, w 7, y 0, y 0, y 0, y 0, y 0, y 0, w 0, w 0]
def a173 : AV := .agg [y 1, x 0, x 0, u 0, y 11, w 1, w 7, y 0, y 0, y 0, y 0, y 0, y 0, w 0, w 0, x 0, w 0, .nils, x 0]
def a174 : AV := .agg [x 1, y 1, y 1, x 0, x 0, u 0, y 11, w 1, w 7, y 0, y 0, y 0, y 0, y 0, y 0, w 0, w 0, x 0, w 0, .nils, x 0, y 0, u 0, y 0, w 0, w 0, w 0, .bool false, x 0, w 0, .nils, u 0, u 0, u 0, u 0, u 0, u 0, u 0, u 0, u 0, u 0, u 0, u 0, u 0, .nils, u 0, x 0, u 0, u 0, .bool false]
def a175 : AV := .agg [y 1, x 0, u 0, u 0, u 0, u 0, u 0, u 0, u 0, u 0]
def a176 : AV := .agg [y 2, x 0, x 0, u 0, y 11, w 1, w 7, y 0, y 0, y 0, y 0, y 0, y 0, w 0, w 0, x 0, w 0, .ns, x 0]
def a177 : AV := .agg [x 1, y 1, y 2, x 0, x 0, u 0, y 11, w 1, w 7, y 0, y 0, y 0, y 0, y 0, y 0, w 0, w 0, x 0, w 0, .ns, x 0, y 0, u 0, y 0, w 0, w 0, w 0, .bool false, x 0, w 0, .nils, u 0, u 0, u 0, u 0, u 0, u 0, u 0, u 0, u 0, u 0, u 0, u 0, u 0, .nils, u 0, x 0, u 0, u 0, .bool false]
def a178 : AV := .agg [y 2, x 5, u 0, u 0, u 0, u 0, u 0, u 1, u 0, u 0]
def a179 : AV := .agg [y 3, x 0, x 0, u 0, y 11, w 1, w 7, y 0, y 0, y 0, y 0, y 0, y 0, w 0, w 0, x 0, w 0, .ns, x 0]
def a180 : AV := .agg [x 1, y 1, y 3, x 0, x 0, u 0, y 11, w 1, w 7, y 0, y 0, y 0, y 0, y 0, y 0, w 0, w 0, x 0, w 0, .ns, x 0, y 0, u 0, y 0, w 0, w 0, w 0, .bool false, x 0, w 0, .nils, u 0, u 0, u 0, u 0, u 0, u 0, u 0, u 0, u 0, u 0, u 0, u 0, u 0, .nils, u 0, x 0, u 0, u 0, .bool false]
def a181 : AV := .agg [y 1, x 1, u 0, u 0, u 0, u 0, u 0, u 0, u 0, u 0]
def a182 : AV := .agg [y 4, x 0, x 0, u 0, y 11, w 1, w 7, y 0, y 0, y 0, y 0, y 0, y 0, w 0, w 0, x 0, w 0, .ns, x 0]
def a183 : AV := .agg [x 1, y 1, y 4, x 0, x 0, u 0, y 11, w 1, w 7, y 0, y 0, y 0, y 0, y 0, y 0, w 0, w 0, x 0, w 0, .ns, x 0, y 0, u 0, y 0, w 0, w 0, w 0, .bool false, x 0, w 0, .nils, u 0, u 0, u 0, u 0, u 0, u 0, u 0, u 0, u 0, u 0, u 0, u 0, u 0, .nils, u 0, x 0, u 0, u 0, .bool false]
def a184 : AV := .agg [y 11, w 1, w 7, y 20, y 0, y 0, y 0, y 0, y 0, w 0, w 0]
def a185 : AV := .agg [y 6, x 0, x 0, u 0, y 11, w 1, w 7, y 20, y 0, y 0, y 0, y 0, y 0, w 0, w 0, x 0, w 0, .ns, x 0]
def a186 : AV := .agg [x 1, y 1, y 6, x 0, x 0, u 0, y 11, w 1, w 7, y 20, y 0, y 0, y 0, y 0, y 0, w 0, w 0, x 0, w 0, .ns, x 0, y 0, u 0, y 0, w 0, w 0, w 0, .bool false, x 0, w 0, .nils, u 0, u 0, u 0, u 0, u 0, u 0, u 0, u 0, u 0, u 0, u 0, u 0, u 0, .nils, u 0, x 0, u 0, u 0, .bool false]
def a187 : AV := .agg [y 2, x 5, u 0, u 0, u 0, u 0, u 0, u 0, u 0, u 0]
def a188 : AV := .agg [u 0, u 1, u 0, u 0]
noncomputable abbrev c14 : Cfg := ⟨Tryz.prog, gmap gs, lookS [], fun _ => false, fun _ => none⟩
theorem l14 : ∀ s ∈ ([] : List Sum), SumOk Tryz.prog (gmap gs) s := sums_nil
def A14_0 : List AV := [a0]
def R14_0 : AV := x 0
theorem m14_0 (k : AV → Bool) : runF c14 200000 14 A14_0 k false = k R14_0 := by kernel_rfl
theorem q14_0 : ACalls Tryz.prog (gmap gs) 14 A14_0 (fun v => v = R14_0) := acalls_eq base l14 fun k hk => (m14_0 k).trans hk
def A14_1 : List AV := [.agg [y 0, x 0, x 0, y 0, x 0, x 0, x 0, x 0, x 0, x 0, u 0, u 0]]
def R14_1 : AV := x 40
theorem m14_1 (k : AV → Bool) : runF c14 200000 14 A14_1 k false = k R14_1 := by kernel_rfl
theorem q14_1 : ACalls Tryz.prog (gmap gs) 14 A14_1 (fun v => v = R14_1) := acalls_eq base l14 fun k hk => (m14_1 k).trans hk
def M14 : List (Nat × List AV × AV) := [(261679962693091325, A14_0, R14_0), (183787982883994944, A14_1, R14_1)]
theorem s14 : SumOk Tryz.prog (gmap gs) (14, memoH M14) := memoH_sum (memoH_cons q14_0 (memoH_cons q14_1 memoH_nil))
noncomputable abbrev c42 : Cfg := ⟨Tryz.prog, gmap gs, lookS [], fun _ => false, fun _ => none⟩
def A42_0 : List AV := [a0]
def R42_0 : AV := x 1
theorem m42_0 (k : AV → Bool) : runF c42 200000 42 A42_0 k false = k R42_0 := by kernel_rfl
theorem q42_0 : ACalls Tryz.prog (gmap gs) 42 A42_0 (fun v => v = R42_0) := acalls_eq base sums_nil fun k hk => (m42_0 k).trans hk
def M42 : List (Nat × List AV × AV) := [(261679962693091325, A42_0, R42_0)]
theorem s42 : SumOk Tryz.prog (gmap gs) (42, memoH M42) := memoH_sum (memoH_cons q42_0 memoH_nil)
noncomputable abbrev c18 : Cfg := ⟨Tryz.prog, gmap gs, lookS [(14, memoH M14), (42, memoH M42)], fun _ => false, fun _ => none⟩
def A18_0 : List AV := [a0]
def R18_0 : AV := .tup [.lst [u 0, u 0, u 0, u 0, u 0, u 0, u 0, u 0, u 7, u 0, u 0, u 0, u 0, u 0, u 0, u 0, u 0, u 0, u 0, u 0, u 0, u 0, u 0, u 0, u 0, u 0, u 0, u 0, u 0, u 0, u 0, u 0, u 0, u 0, u 0, u 0, u 0, u 0, u 0, u 0, u 0, u 0, u 0, u 0] 11, x 0]
theorem m18_0 (k : AV → Bool) : runF c18 200000 18 A18_0 k false = k R18_0 := by kernel_rfl
theorem q18_0 : ACalls Tryz.prog (gmap gs) 18 A18_0 (fun v => v = R18_0) := acalls_eq base (sums_cons s14 (sums_cons s42 sums_nil)) fun k hk => (m18_0 k).trans hk
def M18 : List (Nat × List AV × AV) := [(261679962693091325, A18_0, R18_0)]
theorem s18 : SumOk Tryz.prog (gmap gs) (18, memoH M18) := memoH_sum (memoH_cons q18_0 memoH_nil)
noncomputable abbrev c27 : Cfg := ⟨Tryz.prog, gmap gs, lookS [(14, memoH M14), (42, memoH M42)], fun _ => false, fun _ => none⟩
theorem l27 : ∀ s ∈ ([(14, memoH M14), (42, memoH M42)] : List Sum), SumOk Tryz.prog (gmap gs) s := (sums_cons s14 (sums_cons s42 sums_nil))
def A27_0 : List AV := [a0, .agg [y 4, x 0, x 0]]
def R27_0 : AV := .tup [x 3, x 0]
theorem m27_0 (k : AV → Bool) : runF c27 200000 27 A27_0 k false = k R27_0 := by kernel_rfl
theorem q27_0 : ACalls Tryz.prog (gmap gs) 27 A27_0 (fun v => v = R27_0) := acalls_eq base l27 fun k hk => (m27_0 k).trans hk
def A27_1 : List AV := [a0, .agg [y 5, x 0, x 0]]
def R27_1 : AV := .tup [x 4, x 0]
theorem m27_1 (k : AV → Bool) : runF c27 200000 27 A27_1 k false = k R27_1 := by kernel_rfl
theorem q27_1 : ACalls Tryz.prog (gmap gs) 27 A27_1 (fun v => v = R27_1) := acalls_eq base l27 fun k hk => (m27_1 k).trans hk
def A27_2 : List AV := [a0, a12]
def R27_2 : AV := .tup [x 2, x 0]
theorem m27_2 (k : AV → Bool) : runF c27 200000 27 A27_2 k false = k R27_2 := by kernel_rfl
theorem q27_2 : ACalls Tryz.prog (gmap gs) 27 A27_2 (fun v => v = R27_2) := acalls_eq base l27 fun k hk => (m27_2 k).trans hk
def A27_3 : List AV := [a0, .agg [y 9, x 1, x 0]]
def R27_3 : AV := .tup [x 9, x 0]
theorem m27_3 (k : AV → Bool) : runF c27 200000 27 A27_3 k false = k R27_3 := by kernel_rfl
theorem q27_3 : ACalls Tryz.prog (gmap gs) 27 A27_3 (fun v => v = R27_3) := acalls_eq base l27 fun k hk => (m27_3 k).trans hk
def A27_4 : List AV := [a0, .agg [y 10, x 1, x 0]]
def R27_4 : AV := .tup [x 10, x 0]
theorem m27_4 (k : AV → Bool) : runF c27 200000 27 A27_4 k false = k R27_4 := by kernel_rfl
theorem q27_4 : ACalls Tryz.prog (gmap gs) 27 A27_4 (fun v => v = R27_4) := acalls_eq base l27 fun k hk => (m27_4 k).trans hk
def A27_5 : List AV := [a0, a27]
def R27_5 : AV := .tup [x 1, x 0]
theorem m27_5 (k : AV → Bool) : runF c27 200000 27 A27_5 k false = k R27_5 := by kernel_rfl
theorem q27_5 : ACalls Tryz.prog (gmap gs) 27 A27_5 (fun v => v = R27_5) := acalls_eq base l27 fun k hk => (m27_5 k).trans hk
def A27_6 : List AV := [a0, .agg [y 6, x 1, x 0]]
def R27_6 : AV := .tup [x 6, x 0]
theorem m27_6 (k : AV → Bool) : runF c27 200000 27 A27_6 k false = k R27_6 := by kernel_rfl
theorem q27_6 : ACalls Tryz.prog (gmap gs) 27 A27_6 (fun v => v = R27_6) := acalls_eq base l27 fun k hk => (m27_6 k).trans hk
def A27_7 : List AV := [a0, .agg [y 1, x 0, x 0]]
def R27_7 : AV := .tup [x 0, x 0]
theorem m27_7 (k : AV → Bool) : runF c27 200000 27 A27_7 k false = k R27_7 := by kernel_rfl
theorem q27_7 : ACalls Tryz.prog (gmap gs) 27 A27_7 (fun v => v = R27_7) := acalls_eq base l27 fun k hk => (m27_7 k).trans hk
def A27_8 : List AV := [a0, .agg [y 6, x 0, x 0]]
def R27_8 : AV := .tup [x 5, x 0]
theorem m27_8 (k : AV → Bool) : runF c27 200000 27 A27_8 k false = k R27_8 := by kernel_rfl
theorem q27_8 : ACalls Tryz.prog (gmap gs) 27 A27_8 (fun v => v = R27_8) := acalls_eq base l27 fun k hk => (m27_8 k).trans hk
def A27_9 : List AV := [a0, .agg [y 9, x 0, x 0]]
def R27_9 : AV := .tup [x 7, x 0]
theorem m27_9 (k : AV → Bool) : runF c27 200000 27 A27_9 k false = k R27_9 := by kernel_rfl
theorem q27_9 : ACalls Tryz.prog (gmap gs) 27 A27_9 (fun v => v = R27_9) := acalls_eq base l27 fun k hk => (m27_9 k).trans hk
def A27_10 : List AV := [a0, .agg [y 10, x 0, x 0]]
def R27_10 : AV := .tup [x 8, x 0]
theorem m27_10 (k : AV → Bool) : runF c27 200000 27 A27_10 k false = k R27_10 := by kernel_rfl
theorem q27_10 : ACalls Tryz.prog (gmap gs) 27 A27_10 (fun v => v = R27_10) := acalls_eq base l27 fun k hk => (m27_10 k).trans hk
def M27 : List (Nat × List AV × AV) := [(805475942991897907, A27_0, R27_0), (805475942991898868, A27_1, R27_1), (805475942991896946, A27_2, R27_2), (805475942991902743, A27_3, R27_3), (805475942991903704, A27_4, R27_4), (805475942991895985, A27_5, R27_5), (805475942991899860, A27_6, R27_6), (805475942991895024, A27_7, R27_7), (805475942991899829, A27_8, R27_8), (805475942991902712, A27_9, R27_9), (805475942991903673, A27_10, R27_10)]
theorem s27 : SumOk Tryz.prog (gmap gs) (27, memoH M27) := memoH_sum (memoH_cons q27_0 (memoH_cons q27_1 (memoH_cons q27_2 (memoH_cons q27_3 (memoH_cons q27_4 (memoH_cons q27_5 (memoH_cons q27_6 (memoH_cons q27_7 (memoH_cons q27_8 (memoH_cons q27_9 (memoH_cons q27_10 memoH_nil)))))))))))
noncomputable abbrev c67 : Cfg := ⟨Tryz.prog, gmap gs, lookS [], fun _ => false, fun _ => none⟩
theorem l67 : ∀ s ∈ ([] : List Sum), SumOk Tryz.prog (gmap gs) s := sums_nil
def A67_0 : List AV := [y 9]
def R67_0 : AV := y 3
theorem m67_0 (k : AV → Bool) : runF c67 200000 67 A67_0 k false = k R67_0 := by kernel_rfl
theorem q67_0 : ACalls Tryz.prog (gmap gs) 67 A67_0 (fun v => v = R67_0) := acalls_eq base l67 fun k hk => (m67_0 k).trans hk
def A67_1 : List AV := [y 11]
def R67_1 : AV := y 3
theorem m67_1 (k : AV → Bool) : runF c67 200000 67 A67_1 k false = k R67_1 := by kernel_rfl
theorem q67_1 : ACalls Tryz.prog (gmap gs) 67 A67_1 (fun v => v = R67_1) := acalls_eq base l67 fun k hk => (m67_1 k).trans hk
def M67 : List (Nat × List AV × AV) := [(16, A67_0, R67_0), (18, A67_1, R67_1)]
theorem s67 : SumOk Tryz.prog (gmap gs) (67, memoH M67) := memoH_sum (memoH_cons q67_0 (memoH_cons q67_1 memoH_nil))
noncomputable abbrev c44 : Cfg := ⟨Tryz.prog, gmap gs, lookS [(14, memoH M14), (67, memoH M67)], fun _ => false, fun _ => none⟩
theorem l44 : ∀ s ∈ ([(14, memoH M14), (67, memoH M67)] : List Sum), SumOk Tryz.prog (gmap gs) s := (sums_cons s14 (sums_cons s67 sums_nil))
def A44_0 : List AV := [a0, a1]
def R44_0 : AV := x 0
theorem m44_0 (k : AV → Bool) : runF c44 200000 44 A44_0 k false = k R44_0 := by kernel_rfl
theorem q44_0 : ACalls Tryz.prog (gmap gs) 44 A44_0 (fun v => v = R44_0) := acalls_eq base l44 fun k hk => (m44_0 k).trans hk
def A44_1 : List AV := [a0, a160]
def R44_1 : AV := x 0
theorem m44_1 (k : AV → Bool) : runF c44 200000 44 A44_1 k false = k R44_1 := by kernel_rfl
theorem q44_1 : ACalls Tryz.prog (gmap gs) 44 A44_1 (fun v => v = R44_1) := acalls_eq base l44 fun k hk => (m44_1 k).trans hk
def A44_2 : List AV := [a0, .agg [y 11, w 0, w 0, w 0]]
def R44_2 : AV := x 10
theorem m44_2 (k : AV → Bool) : runF c44 200000 44 A44_2 k false = k R44_2 := by kernel_rfl
theorem q44_2 : ACalls Tryz.prog (gmap gs) 44 A44_2 (fun v => v = R44_2) := acalls_eq base l44 fun k hk => (m44_2 k).trans hk
def A44_3 : List AV := [a0, a171]
def R44_3 : AV := x 0
theorem m44_3 (k : AV → Bool) : runF c44 200000 44 A44_3 k false = k R44_3 := by kernel_rfl
theorem q44_3 : ACalls Tryz.prog (gmap gs) 44 A44_3 (fun v => v = R44_3) := acalls_eq base l44 fun k hk => (m44_3 k).trans hk
def M44 : List (Nat × List AV × AV) := [(758402636005200716, A44_0, R44_0), (758402636005200715, A44_1, R44_1), (758402636005259118, A44_2, R44_2), (758402636005260296, A44_3, R44_3)]
theorem s44 : SumOk Tryz.prog (gmap gs) (44, memoH M44) := memoH_sum (memoH_cons q44_0 (memoH_cons q44_1 (memoH_cons q44_2 (memoH_cons q44_3 memoH_nil))))
noncomputable abbrev c45 : Cfg := ⟨Tryz.prog, gmap gs, lookS [], fun _ => false, fun _ => none⟩
theorem l45 : ∀ s ∈ ([] : List Sum), SumOk Tryz.prog (gmap gs) s := sums_nil
def A45_0 : List AV := [y 9]
def R45_0 : AV := .bool true
theorem m45_0 (k : AV → Bool) : runF c45 200000 45 A45_0 k false = k R45_0 := by kernel_rfl
theorem q45_0 : ACalls Tryz.prog (gmap gs) 45 A45_0 (fun v => v = R45_0) := acalls_eq base l45 fun k hk => (m45_0 k).trans hk
def A45_1 : List AV := [y 11]
def R45_1 : AV := .bool false
theorem m45_1 (k : AV → Bool) : runF c45 200000 45 A45_1 k false = k R45_1 := by kernel_rfl
theorem q45_1 : ACalls Tryz.prog (gmap gs) 45 A45_1 (fun v => v = R45_1) := acalls_eq base l45 fun k hk => (m45_1 k).trans hk
def M45 : List (Nat × List AV × AV) := [(16, A45_0, R45_0), (18, A45_1, R45_1)]
theorem s45 : SumOk Tryz.prog (gmap gs) (45, memoH M45) := memoH_sum (memoH_cons q45_0 (memoH_cons q45_1 memoH_nil))
noncomputable abbrev c97 : Cfg := ⟨Tryz.prog, gmap gs, lookS [], fun _ => false, fun _ => none⟩
theorem l97 : ∀ s ∈ ([] : List Sum), SumOk Tryz.prog (gmap gs) s := sums_nil
def A97_0 : List AV := [.lst [x 8, u 9, x 32, u 1] 2]
def R97_0 : AV := .tup [u 265, x 0]
theorem m97_0 (k : AV → Bool) : runF c97 200000 97 A97_0 k false = k R97_0 := by kernel_rfl
theorem q97_0 : ACalls Tryz.prog (gmap gs) 97 A97_0 (fun v => v = R97_0) := acalls_eq base l97 fun k hk => (m97_0 k).trans hk
def A97_1 : List AV := [.lst [x 5, u 0, x 7, u 1, x 4, u 9, x 5, u 0, x 7, u 0, x 7, u 0, x 6, u 0, x 6, u 0, x 3, u 0] 9]
def R97_1 : AV := .tup [u 36896, x 0]
theorem m97_1 (k : AV → Bool) : runF c97 200000 97 A97_1 k false = k R97_1 := by kernel_rfl
theorem q97_1 : ACalls Tryz.prog (gmap gs) 97 A97_1 (fun v => v = R97_1) := acalls_eq base l97 fun k hk => (m97_1 k).trans hk
def A97_2 : List AV := [.lst [x 32, u 1, x 32, u 7] 2]
def R97_2 : AV := .tup [u 30064771073, x 0]
theorem m97_2 (k : AV → Bool) : runF c97 200000 97 A97_2 k false = k R97_2 := by kernel_rfl
theorem q97_2 : ACalls Tryz.prog (gmap gs) 97 A97_2 (fun v => v = R97_2) := acalls_eq base l97 fun k hk => (m97_2 k).trans hk
def A97_3 : List AV := [.lst [x 32, u 0, x 32, u 2] 2]
def R97_3 : AV := .tup [u 8589934592, x 0]
theorem m97_3 (k : AV → Bool) : runF c97 200000 97 A97_3 k false = k R97_3 := by kernel_rfl
theorem q97_3 : ACalls Tryz.prog (gmap gs) 97 A97_3 (fun v => v = R97_3) := acalls_eq base l97 fun k hk => (m97_3 k).trans hk
def A97_4 : List AV := [.lst [x 5, u 0, x 7, u 1, x 4, u 9, x 5, u 22, x 7, u 0, x 7, u 0, x 6, u 0, x 6, u 0, x 3, u 0] 9]
def R97_4 : AV := .tup [u 1478688, x 0]
theorem m97_4 (k : AV → Bool) : runF c97 200000 97 A97_4 k false = k R97_4 := by kernel_rfl
theorem q97_4 : ACalls Tryz.prog (gmap gs) 97 A97_4 (fun v => v = R97_4) := acalls_eq base l97 fun k hk => (m97_4 k).trans hk
def A97_5 : List AV := [.lst [x 5, u 0, x 7, u 1, x 4, u 9, x 5, u 2, x 7, u 0, x 7, u 0, x 6, u 0, x 6, u 0, x 3, u 1] 9]
def R97_5 : AV := .tup [u 140737488523296, x 0]
theorem m97_5 (k : AV → Bool) : runF c97 200000 97 A97_5 k false = k R97_5 := by kernel_rfl
theorem q97_5 : ACalls Tryz.prog (gmap gs) 97 A97_5 (fun v => v = R97_5) := acalls_eq base l97 fun k hk => (m97_5 k).trans hk
def A97_6 : List AV := [.lst [x 5, u 0, x 7, u 1, x 4, u 9, x 5, u 20, x 7, u 0, x 7, u 0, x 6, u 0, x 6, u 0, x 3, u 1] 9]
def R97_6 : AV := .tup [u 140737489702944, x 0]
theorem m97_6 (k : AV → Bool) : runF c97 200000 97 A97_6 k false = k R97_6 := by kernel_rfl
theorem q97_6 : ACalls Tryz.prog (gmap gs) 97 A97_6 (fun v => v = R97_6) := acalls_eq base l97 fun k hk => (m97_6 k).trans hk
def A97_7 : List AV := [.lst [x 5, u 1, x 7, u 0, x 4, u 0, x 5, u 0, x 7, u 0, x 7, u 0, x 6, u 0, x 6, u 0, x 3, u 0] 9]
def R97_7 : AV := .tup [u 1, x 0]
theorem m97_7 (k : AV → Bool) : runF c97 200000 97 A97_7 k false = k R97_7 := by kernel_rfl
theorem q97_7 : ACalls Tryz.prog (gmap gs) 97 A97_7 (fun v => v = R97_7) := acalls_eq base l97 fun k hk => (m97_7 k).trans hk
def A97_8 : List AV := [.lst [x 32, u 0, x 32, u 0] 2]
def R97_8 : AV := .tup [u 0, x 0]
theorem m97_8 (k : AV → Bool) : runF c97 200000 97 A97_8 k false = k R97_8 := by kernel_rfl
theorem q97_8 : ACalls Tryz.prog (gmap gs) 97 A97_8 (fun v => v = R97_8) := acalls_eq base l97 fun k hk => (m97_8 k).trans hk
def M97 : List (Nat × List AV × AV) := [(10622189, A97_0, R97_0), (1151265986605622044, A97_1, R97_1), (11329491, A97_2, R97_2), (11328525, A97_3, R97_3), (16376304312352783, A97_4, R97_4), (1152905243179583647, A97_5, R97_5), (14737047738391182, A97_6, R97_6), (332953807343305764, A97_7, R97_7), (11328523, A97_8, R97_8)]
theorem s97 : SumOk Tryz.prog (gmap gs) (97, memoH M97) := memoH_sum (memoH_cons q97_0 (memoH_cons q97_1 (memoH_cons q97_2 (memoH_cons q97_3 (memoH_cons q97_4 (memoH_cons q97_5 (memoH_cons q97_6 (memoH_cons q97_7 (memoH_cons q97_8 memoH_nil)))))))))
noncomputable abbrev c83 : Cfg := ⟨Tryz.prog, gmap gs, lookS [(97, memoH M97)], fun _ => false, fun _ => none⟩
theorem l83 : ∀ s ∈ ([(97, memoH M97)] : List Sum), SumOk Tryz.prog (gmap gs) s := (sums_cons s97 sums_nil)
def A83_0 : List AV := [u 1, a1]
def R83_0 : AV := a2
theorem m83_0 (k : AV → Bool) : runF c83 200000 83 A83_0 k false = k R83_0 := by kernel_rfl
theorem q83_0 : ACalls Tryz.prog (gmap gs) 83 A83_0 (fun v => v = R83_0) := acalls_eq base l83 fun k hk => (m83_0 k).trans hk
def A83_1 : List AV := [u 2, a160]
def R83_1 : AV := a161
theorem m83_1 (k : AV → Bool) : runF c83 200000 83 A83_1 k false = k R83_1 := by kernel_rfl
theorem q83_1 : ACalls Tryz.prog (gmap gs) 83 A83_1 (fun v => v = R83_1) := acalls_eq base l83 fun k hk => (m83_1 k).trans hk
def M83 : List (Nat × List AV × AV) := [(7872955, A83_0, R83_0), (8796475, A83_1, R83_1)]
theorem s83 : SumOk Tryz.prog (gmap gs) (83, memoH M83) := memoH_sum (memoH_cons q83_0 (memoH_cons q83_1 memoH_nil))
noncomputable abbrev c70 : Cfg := ⟨Tryz.prog, gmap gs, lookS [(14, memoH M14), (27, memoH M27), (44, memoH M44), (45, memoH M45), (83, memoH M83)], fun _ => false, fun _ => none⟩
theorem l70 : ∀ s ∈ ([(14, memoH M14), (27, memoH M27), (44, memoH M44), (45, memoH M45), (83, memoH M83)] : List Sum), SumOk Tryz.prog (gmap gs) s := (sums_cons s14 (sums_cons s27 (sums_cons s44 (sums_cons s45 (sums_cons s83 sums_nil)))))
def A70_0 : List AV := [a0, x 0, u 1, a1]
def R70_0 : AV := .tup [a3, x 0]
theorem m70_0 (k : AV → Bool) : runF c70 200000 70 A70_0 k false = k R70_0 := by kernel_rfl
theorem q70_0 : ACalls Tryz.prog (gmap gs) 70 A70_0 (fun v => v = R70_0) := acalls_eq base l70 fun k hk => (m70_0 k).trans hk
def A70_1 : List AV := [a0, x 0, u 2, a160]
def R70_1 : AV := .tup [a162, x 0]
theorem m70_1 (k : AV → Bool) : runF c70 200000 70 A70_1 k false = k R70_1 := by kernel_rfl
theorem q70_1 : ACalls Tryz.prog (gmap gs) 70 A70_1 (fun v => v = R70_1) := acalls_eq base l70 fun k hk => (m70_1 k).trans hk
def M70 : List (Nat × List AV × AV) := [(178542289213054725, A70_0, R70_0), (178542289213978245, A70_1, R70_1)]
theorem s70 : SumOk Tryz.prog (gmap gs) (70, memoH M70) := memoH_sum (memoH_cons q70_0 (memoH_cons q70_1 memoH_nil))
noncomputable abbrev c47 : Cfg := ⟨Tryz.prog, gmap gs, lookS [(70, memoH M70)], fun _ => false, fun _ => none⟩
theorem l47 : ∀ s ∈ ([(70, memoH M70)] : List Sum), SumOk Tryz.prog (gmap gs) s := (sums_cons s70 sums_nil)
def A47_0 : List AV := [a0, x 0, u 1, a1]
def R47_0 : AV := .tup [a4, x 0]
theorem m47_0 (k : AV → Bool) : runF c47 200000 47 A47_0 k false = k R47_0 := by kernel_rfl
theorem q47_0 : ACalls Tryz.prog (gmap gs) 47 A47_0 (fun v => v = R47_0) := acalls_eq base l47 fun k hk => (m47_0 k).trans hk
def A47_1 : List AV := [a0, x 0, u 2, a160]
def R47_1 : AV := .tup [a163, x 0]
theorem m47_1 (k : AV → Bool) : runF c47 200000 47 A47_1 k false = k R47_1 := by kernel_rfl
theorem q47_1 : ACalls Tryz.prog (gmap gs) 47 A47_1 (fun v => v = R47_1) := acalls_eq base l47 fun k hk => (m47_1 k).trans hk
def M47 : List (Nat × List AV × AV) := [(178542289213054725, A47_0, R47_0), (178542289213978245, A47_1, R47_1)]
theorem s47 : SumOk Tryz.prog (gmap gs) (47, memoH M47) := memoH_sum (memoH_cons q47_0 (memoH_cons q47_1 memoH_nil))
noncomputable abbrev c71 : Cfg := ⟨Tryz.prog, gmap gs, lookS [], fun _ => false, fun _ => none⟩
theorem l71 : ∀ s ∈ ([] : List Sum), SumOk Tryz.prog (gmap gs) s := sums_nil
def A71_0 : List AV := [a1]
def R71_0 : AV := a37
theorem m71_0 (k : AV → Bool) : runF c71 200000 71 A71_0 k false = k R71_0 := by kernel_rfl
theorem q71_0 : ACalls Tryz.prog (gmap gs) 71 A71_0 (fun v => v = R71_0) := acalls_eq base l71 fun k hk => (m71_0 k).trans hk
def A71_1 : List AV := [a171]
def R71_1 : AV := a172
theorem m71_1 (k : AV → Bool) : runF c71 200000 71 A71_1 k false = k R71_1 := by kernel_rfl
theorem q71_1 : ACalls Tryz.prog (gmap gs) 71 A71_1 (fun v => v = R71_1) := acalls_eq base l71 fun k hk => (m71_1 k).trans hk
def M71 : List (Nat × List AV × AV) := [(484787, A71_0, R71_0), (544367, A71_1, R71_1)]
theorem s71 : SumOk Tryz.prog (gmap gs) (71, memoH M71) := memoH_sum (memoH_cons q71_0 (memoH_cons q71_1 memoH_nil))
noncomputable abbrev c48 : Cfg := ⟨Tryz.prog, gmap gs, lookS [(44, memoH M44), (45, memoH M45), (71, memoH M71)], fun _ => false, fun _ => none⟩
def A48_0 : List AV := [a0, a171]
def R48_0 : AV := .tup [a173, x 0]
theorem m48_0 (k : AV → Bool) : runF c48 200000 48 A48_0 k false = k R48_0 := by kernel_rfl
theorem q48_0 : ACalls Tryz.prog (gmap gs) 48 A48_0 (fun v => v = R48_0) := acalls_eq base (sums_cons s44 (sums_cons s45 (sums_cons s71 sums_nil))) fun k hk => (m48_0 k).trans hk
def M48 : List (Nat × List AV × AV) := [(758402636005260296, A48_0, R48_0)]
theorem s48 : SumOk Tryz.prog (gmap gs) (48, memoH M48) := memoH_sum (memoH_cons q48_0 memoH_nil)
noncomputable abbrev c32 : Cfg := ⟨Tryz.prog, gmap gs, lookS [(14, memoH M14), (44, memoH M44), (45, memoH M45), (47, memoH M47), (48, memoH M48)], fun _ => false, fun _ => none⟩
theorem l32 : ∀ s ∈ ([(14, memoH M14), (44, memoH M44), (45, memoH M45), (47, memoH M47), (48, memoH M48)] : List Sum), SumOk Tryz.prog (gmap gs) s := (sums_cons s14 (sums_cons s44 (sums_cons s45 (sums_cons s47 (sums_cons s48 sums_nil)))))
def A32_0 : List AV := [a0, x 0, a5, a6]
def R32_0 : AV := .tup [a7, .agg [x 0, w 0, .nils], .bool false, x 0]
theorem m32_0 (k : AV → Bool) : runF c32 200000 32 A32_0 k false = k R32_0 := by kernel_rfl
theorem q32_0 : ACalls Tryz.prog (gmap gs) 32 A32_0 (fun v => v = R32_0) := acalls_eq base l32 fun k hk => (m32_0 k).trans hk
def A32_1 : List AV := [a0, x 0, a5, a159]
def R32_1 : AV := .tup [a164, .agg [x 0, w 0, .nils], .bool false, x 0]
theorem m32_1 (k : AV → Bool) : runF c32 200000 32 A32_1 k false = k R32_1 := by kernel_rfl
theorem q32_1 : ACalls Tryz.prog (gmap gs) 32 A32_1 (fun v => v = R32_1) := acalls_eq base l32 fun k hk => (m32_1 k).trans hk
def A32_2 : List AV := [a0, x 0, a169, a6]
def R32_2 : AV := .tup [a170, .agg [x 10, w 0, .nils], .bool true, x 0]
theorem m32_2 (k : AV → Bool) : runF c32 200000 32 A32_2 k false = k R32_2 := by kernel_rfl
theorem q32_2 : ACalls Tryz.prog (gmap gs) 32 A32_2 (fun v => v = R32_2) := acalls_eq base l32 fun k hk => (m32_2 k).trans hk
def A32_3 : List AV := [a0, x 0, a169, a170]
def R32_3 : AV := .tup [a174, .agg [x 0, w 0, .nils], .bool false, x 0]
theorem m32_3 (k : AV → Bool) : runF c32 200000 32 A32_3 k false = k R32_3 := by kernel_rfl
theorem q32_3 : ACalls Tryz.prog (gmap gs) 32 A32_3 (fun v => v = R32_3) := acalls_eq base l32 fun k hk => (m32_3 k).trans hk
def M32 : List (Nat × List AV × AV) := [(484813807308159073, A32_0, R32_0), (771949704997783683, A32_1, R32_1), (153091501207978139, A32_2, R32_2), (440227398897602718, A32_3, R32_3)]
theorem s32 : SumOk Tryz.prog (gmap gs) (32, memoH M32) := memoH_sum (memoH_cons q32_0 (memoH_cons q32_1 (memoH_cons q32_2 (memoH_cons q32_3 memoH_nil))))
noncomputable abbrev c85 : Cfg := ⟨Tryz.prog, gmap gs, lookS [(14, memoH M14), (27, memoH M27)], fun _ => false, fun _ => none⟩
def A85_0 : List AV := [a0, x 0, x 0]
def R85_0 : AV := .tup [a178, x 0]
theorem m85_0 (k : AV → Bool) : runF c85 200000 85 A85_0 k false = k R85_0 := by kernel_rfl
theorem q85_0 : ACalls Tryz.prog (gmap gs) 85 A85_0 (fun v => v = R85_0) := acalls_eq base (sums_cons s14 (sums_cons s27 sums_nil)) fun k hk => (m85_0 k).trans hk
def M85 : List (Nat × List AV × AV) := [(137556143768143055, A85_0, R85_0)]
theorem s85 : SumOk Tryz.prog (gmap gs) (85, memoH M85) := memoH_sum (memoH_cons q85_0 memoH_nil)
noncomputable abbrev c86 : Cfg := ⟨Tryz.prog, gmap gs, lookS [(14, memoH M14), (27, memoH M27)], fun _ => false, fun _ => none⟩
def A86_0 : List AV := [a0, x 0, x 0]
def R86_0 : AV := .tup [a187, x 0]
theorem m86_0 (k : AV → Bool) : runF c86 200000 86 A86_0 k false = k R86_0 := by kernel_rfl
theorem q86_0 : ACalls Tryz.prog (gmap gs) 86 A86_0 (fun v => v = R86_0) := acalls_eq base (sums_cons s14 (sums_cons s27 sums_nil)) fun k hk => (m86_0 k).trans hk
def M86 : List (Nat × List AV × AV) := [(137556143768143055, A86_0, R86_0)]
theorem s86 : SumOk Tryz.prog (gmap gs) (86, memoH M86) := memoH_sum (memoH_cons q86_0 memoH_nil)
noncomputable abbrev c145 : Cfg := ⟨Tryz.prog, gmap gs, lookS [(14, memoH M14), (44, memoH M44)], fun _ => false, fun _ => none⟩
theorem l145 : ∀ s ∈ ([(14, memoH M14), (44, memoH M44)] : List Sum), SumOk Tryz.prog (gmap gs) s := (sums_cons s14 (sums_cons s44 sums_nil))
def A145_0 : List AV := [a0, a37]
def R145_0 : AV := .tup [a45, x 0]
theorem m145_0 (k : AV → Bool) : runF c145 200000 145 A145_0 k false = k R145_0 := by kernel_rfl
theorem q145_0 : ACalls Tryz.prog (gmap gs) 145 A145_0 (fun v => v = R145_0) := acalls_eq base l145 fun k hk => (m145_0 k).trans hk
def A145_1 : List AV := [a0, a49]
def R145_1 : AV := .tup [a57, x 0]
theorem m145_1 (k : AV → Bool) : runF c145 200000 145 A145_1 k false = k R145_1 := by kernel_rfl
theorem q145_1 : ACalls Tryz.prog (gmap gs) 145 A145_1 (fun v => v = R145_1) := acalls_eq base l145 fun k hk => (m145_1 k).trans hk
def A145_2 : List AV := [a0, a60]
def R145_2 : AV := .tup [a69, x 0]
theorem m145_2 (k : AV → Bool) : runF c145 200000 145 A145_2 k false = k R145_2 := by kernel_rfl
theorem q145_2 : ACalls Tryz.prog (gmap gs) 145 A145_2 (fun v => v = R145_2) := acalls_eq base l145 fun k hk => (m145_2 k).trans hk
def A145_3 : List AV := [a0, a172]
def R145_3 : AV := .tup [a45, x 0]
theorem m145_3 (k : AV → Bool) : runF c145 200000 145 A145_3 k false = k R145_3 := by kernel_rfl
theorem q145_3 : ACalls Tryz.prog (gmap gs) 145 A145_3 (fun v => v = R145_3) := acalls_eq base l145 fun k hk => (m145_3 k).trans hk
def A145_4 : List AV := [a0, a184]
def R145_4 : AV := .tup [a69, x 0]
theorem m145_4 (k : AV → Bool) : runF c145 200000 145 A145_4 k false = k R145_4 := by kernel_rfl
theorem q145_4 : ACalls Tryz.prog (gmap gs) 145 A145_4 (fun v => v = R145_4) := acalls_eq base l145 fun k hk => (m145_4 k).trans hk
def M145 : List (Nat × List AV × AV) := [(933900031450288886, A145_0, R145_0), (933900086475518069, A145_1, R145_1), (933900581702572067, A145_2, R145_2), (935539288024250486, A145_3, R145_3), (935539838276532706, A145_4, R145_4)]
theorem s145 : SumOk Tryz.prog (gmap gs) (145, memoH M145) := memoH_sum (memoH_cons q145_0 (memoH_cons q145_1 (memoH_cons q145_2 (memoH_cons q145_3 (memoH_cons q145_4 memoH_nil)))))
noncomputable abbrev c98 : Cfg := ⟨Tryz.prog, gmap gs, lookS [(14, memoH M14), (145, memoH M145)], fun _ => false, fun _ => none⟩
theorem l98 : ∀ s ∈ ([(14, memoH M14), (145, memoH M145)] : List Sum), SumOk Tryz.prog (gmap gs) s := (sums_cons s14 (sums_cons s145 sums_nil))
def A98_0 : List AV := [a0, a37]
def R98_0 : AV := .tup [a45, x 0]
theorem m98_0 (k : AV → Bool) : runF c98 200000 98 A98_0 k false = k R98_0 := by kernel_rfl
theorem q98_0 : ACalls Tryz.prog (gmap gs) 98 A98_0 (fun v => v = R98_0) := acalls_eq base l98 fun k hk => (m98_0 k).trans hk
def A98_1 : List AV := [a0, a49]
def R98_1 : AV := .tup [a57, x 0]
theorem m98_1 (k : AV → Bool) : runF c98 200000 98 A98_1 k false = k R98_1 := by kernel_rfl
theorem q98_1 : ACalls Tryz.prog (gmap gs) 98 A98_1 (fun v => v = R98_1) := acalls_eq base l98 fun k hk => (m98_1 k).trans hk
def A98_2 : List AV := [a0, a60]
def R98_2 : AV := .tup [a69, x 0]
theorem m98_2 (k : AV → Bool) : runF c98 200000 98 A98_2 k false = k R98_2 := by kernel_rfl
theorem q98_2 : ACalls Tryz.prog (gmap gs) 98 A98_2 (fun v => v = R98_2) := acalls_eq base l98 fun k hk => (m98_2 k).trans hk
def A98_3 : List AV := [a0, a172]
def R98_3 : AV := .tup [a45, x 0]
theorem m98_3 (k : AV → Bool) : runF c98 200000 98 A98_3 k false = k R98_3 := by kernel_rfl
theorem q98_3 : ACalls Tryz.prog (gmap gs) 98 A98_3 (fun v => v = R98_3) := acalls_eq base l98 fun k hk => (m98_3 k).trans hk
def A98_4 : List AV := [a0, a184]
def R98_4 : AV := .tup [a69, x 0]
theorem m98_4 (k : AV → Bool) : runF c98 200000 98 A98_4 k false = k R98_4 := by kernel_rfl
theorem q98_4 : ACalls Tryz.prog (gmap gs) 98 A98_4 (fun v => v = R98_4) := acalls_eq base l98 fun k hk => (m98_4 k).trans hk
def M98 : List (Nat × List AV × AV) := [(933900031450288886, A98_0, R98_0), (933900086475518069, A98_1, R98_1), (933900581702572067, A98_2, R98_2), (935539288024250486, A98_3, R98_3), (935539838276532706, A98_4, R98_4)]
theorem s98 : SumOk Tryz.prog (gmap gs) (98, memoH M98) := memoH_sum (memoH_cons q98_0 (memoH_cons q98_1 (memoH_cons q98_2 (memoH_cons q98_3 (memoH_cons q98_4 memoH_nil)))))
noncomputable abbrev c72 : Cfg := ⟨Tryz.prog, gmap gs, lookS [(14, memoH M14), (27, memoH M27), (45, memoH M45), (85, memoH M85), (86, memoH M86), (98, memoH M98)], fun _ => false, fun _ => none⟩
theorem l72 : ∀ s ∈ ([(14, memoH M14), (27, memoH M27), (45, memoH M45), (85, memoH M85), (86, memoH M86), (98, memoH M98)] : List Sum), SumOk Tryz.prog (gmap gs) s := (sums_cons s14 (sums_cons s27 (sums_cons s45 (sums_cons s85 (sums_cons s86 (sums_cons s98 sums_nil))))))
def A72_0 : List AV := [a0, x 0, a173]
def R72_0 : AV := .tup [a175, x 0]
theorem m72_0 (k : AV → Bool) : runF c72 200000 72 A72_0 k false = k R72_0 := by kernel_rfl
theorem q72_0 : ACalls Tryz.prog (gmap gs) 72 A72_0 (fun v => v = R72_0) := acalls_eq base l72 fun k hk => (m72_0 k).trans hk
def A72_1 : List AV := [a0, x 0, a176]
def R72_1 : AV := .tup [a178, x 0]
theorem m72_1 (k : AV → Bool) : runF c72 200000 72 A72_1 k false = k R72_1 := by kernel_rfl
theorem q72_1 : ACalls Tryz.prog (gmap gs) 72 A72_1 (fun v => v = R72_1) := acalls_eq base l72 fun k hk => (m72_1 k).trans hk
def A72_2 : List AV := [a0, x 0, a179]
def R72_2 : AV := .tup [a181, x 0]
theorem m72_2 (k : AV → Bool) : runF c72 200000 72 A72_2 k false = k R72_2 := by kernel_rfl
theorem q72_2 : ACalls Tryz.prog (gmap gs) 72 A72_2 (fun v => v = R72_2) := acalls_eq base l72 fun k hk => (m72_2 k).trans hk
def A72_3 : List AV := [a0, x 0, a182]
def R72_3 : AV := .tup [a134, x 0]
theorem m72_3 (k : AV → Bool) : runF c72 200000 72 A72_3 k false = k R72_3 := by kernel_rfl
theorem q72_3 : ACalls Tryz.prog (gmap gs) 72 A72_3 (fun v => v = R72_3) := acalls_eq base l72 fun k hk => (m72_3 k).trans hk
def A72_4 : List AV := [a0, x 0, a185]
def R72_4 : AV := .tup [a187, x 0]
theorem m72_4 (k : AV → Bool) : runF c72 200000 72 A72_4 k false = k R72_4 := by kernel_rfl
theorem q72_4 : ACalls Tryz.prog (gmap gs) 72 A72_4 (fun v => v = R72_4) := acalls_eq base l72 fun k hk => (m72_4 k).trans hk
def M72 : List (Nat × List AV × AV) := [(1063086952629747573, A72_0, R72_0), (820347134620343285, A72_1, R72_1), (577607316610938997, A72_2, R72_2), (334867498601534709, A72_3, R72_3), (357557400510822753, A72_4, R72_4)]
theorem s72 : SumOk Tryz.prog (gmap gs) (72, memoH M72) := memoH_sum (memoH_cons q72_0 (memoH_cons q72_1 (memoH_cons q72_2 (memoH_cons q72_3 (memoH_cons q72_4 memoH_nil)))))
noncomputable abbrev c122 : Cfg := ⟨Tryz.prog, gmap gs, lookS [], fun _ => false, fun _ => none⟩
def A122_0 : List AV := [a0]
def R122_0 : AV := x 7
theorem m122_0 (k : AV → Bool) : runF c122 200000 122 A122_0 k false = k R122_0 := by kernel_rfl
theorem q122_0 : ACalls Tryz.prog (gmap gs) 122 A122_0 (fun v => v = R122_0) := acalls_eq base sums_nil fun k hk => (m122_0 k).trans hk
def M122 : List (Nat × List AV × AV) := [(261679962693091325, A122_0, R122_0)]
theorem s122 : SumOk Tryz.prog (gmap gs) (122, memoH M122) := memoH_sum (memoH_cons q122_0 memoH_nil)
noncomputable abbrev c94 : Cfg := ⟨Tryz.prog, gmap gs, lookS [(122, memoH M122)], fun _ => false, fun _ => none⟩
theorem l94 : ∀ s ∈ ([(122, memoH M122)] : List Sum), SumOk Tryz.prog (gmap gs) s := (sums_cons s122 sums_nil)
def A94_0 : List AV := [a0, a14]
def R94_0 : AV := .bool true
theorem m94_0 (k : AV → Bool) : runF c94 200000 94 A94_0 k false = k R94_0 := by kernel_rfl
theorem q94_0 : ACalls Tryz.prog (gmap gs) 94 A94_0 (fun v => v = R94_0) := acalls_eq base l94 fun k hk => (m94_0 k).trans hk
def A94_1 : List AV := [a0, a20]
def R94_1 : AV := .bool true
theorem m94_1 (k : AV → Bool) : runF c94 200000 94 A94_1 k false = k R94_1 := by kernel_rfl
theorem q94_1 : ACalls Tryz.prog (gmap gs) 94 A94_1 (fun v => v = R94_1) := acalls_eq base l94 fun k hk => (m94_1 k).trans hk
def A94_2 : List AV := [a0, a82]
def R94_2 : AV := .bool true
theorem m94_2 (k : AV → Bool) : runF c94 200000 94 A94_2 k false = k R94_2 := by kernel_rfl
theorem q94_2 : ACalls Tryz.prog (gmap gs) 94 A94_2 (fun v => v = R94_2) := acalls_eq base l94 fun k hk => (m94_2 k).trans hk
def A94_3 : List AV := [a0, a90]
def R94_3 : AV := .bool true
theorem m94_3 (k : AV → Bool) : runF c94 200000 94 A94_3 k false = k R94_3 := by kernel_rfl
theorem q94_3 : ACalls Tryz.prog (gmap gs) 94 A94_3 (fun v => v = R94_3) := acalls_eq base l94 fun k hk => (m94_3 k).trans hk
def A94_4 : List AV := [a0, a99]
def R94_4 : AV := .bool true
theorem m94_4 (k : AV → Bool) : runF c94 200000 94 A94_4 k false = k R94_4 := by kernel_rfl
theorem q94_4 : ACalls Tryz.prog (gmap gs) 94 A94_4 (fun v => v = R94_4) := acalls_eq base l94 fun k hk => (m94_4 k).trans hk
def A94_5 : List AV := [a0, a106]
def R94_5 : AV := .bool true
theorem m94_5 (k : AV → Bool) : runF c94 200000 94 A94_5 k false = k R94_5 := by kernel_rfl
theorem q94_5 : ACalls Tryz.prog (gmap gs) 94 A94_5 (fun v => v = R94_5) := acalls_eq base l94 fun k hk => (m94_5 k).trans hk
def A94_6 : List AV := [a0, a115]
def R94_6 : AV := .bool true
theorem m94_6 (k : AV → Bool) : runF c94 200000 94 A94_6 k false = k R94_6 := by kernel_rfl
theorem q94_6 : ACalls Tryz.prog (gmap gs) 94 A94_6 (fun v => v = R94_6) := acalls_eq base l94 fun k hk => (m94_6 k).trans hk
def A94_7 : List AV := [a0, a154]
def R94_7 : AV := .bool true
theorem m94_7 (k : AV → Bool) : runF c94 200000 94 A94_7 k false = k R94_7 := by kernel_rfl
theorem q94_7 : ACalls Tryz.prog (gmap gs) 94 A94_7 (fun v => v = R94_7) := acalls_eq base l94 fun k hk => (m94_7 k).trans hk
def A94_8 : List AV := [a0, a168]
def R94_8 : AV := .bool false
theorem m94_8 (k : AV → Bool) : runF c94 200000 94 A94_8 k false = k R94_8 := by kernel_rfl
theorem q94_8 : ACalls Tryz.prog (gmap gs) 94 A94_8 (fun v => v = R94_8) := acalls_eq base l94 fun k hk => (m94_8 k).trans hk
def A94_9 : List AV := [a0, .agg [u 1, x 0, u 0, x 0]]
def R94_9 : AV := .bool false
theorem m94_9 (k : AV → Bool) : runF c94 200000 94 A94_9 k false = k R94_9 := by kernel_rfl
theorem q94_9 : ACalls Tryz.prog (gmap gs) 94 A94_9 (fun v => v = R94_9) := acalls_eq base l94 fun k hk => (m94_9 k).trans hk
def A94_10 : List AV := [a0, .agg [u 1, x 0, u 1, x 0]]
def R94_10 : AV := .bool false
theorem m94_10 (k : AV → Bool) : runF c94 200000 94 A94_10 k false = k R94_10 := by kernel_rfl
theorem q94_10 : ACalls Tryz.prog (gmap gs) 94 A94_10 (fun v => v = R94_10) := acalls_eq base l94 fun k hk => (m94_10 k).trans hk
def A94_11 : List AV := [a0, .agg [u 0, x 0, u 1, x 0]]
def R94_11 : AV := .bool false
theorem m94_11 (k : AV → Bool) : runF c94 200000 94 A94_11 k false = k R94_11 := by kernel_rfl
theorem q94_11 : ACalls Tryz.prog (gmap gs) 94 A94_11 (fun v => v = R94_11) := acalls_eq base l94 fun k hk => (m94_11 k).trans hk
def M94 : List (Nat × List AV × AV) := [(758402636004938144, A94_0, R94_0), (758402636004962200, A94_1, R94_1), (758402636004963161, A94_2, R94_2), (758402636004964122, A94_3, R94_3), (758402636004965083, A94_4, R94_4), (758402636004966044, A94_5, R94_5), (758402636004967005, A94_6, R94_6), (758402636004967966, A94_7, R94_7), (758402636004931417, A94_8, R94_8), (758402636004961208, A94_9, R94_9), (758402636004961239, A94_10, R94_10), (758402636004931448, A94_11, R94_11)]
theorem s94 : SumOk Tryz.prog (gmap gs) (94, memoH M94) := memoH_sum (memoH_cons q94_0 (memoH_cons q94_1 (memoH_cons q94_2 (memoH_cons q94_3 (memoH_cons q94_4 (memoH_cons q94_5 (memoH_cons q94_6 (memoH_cons q94_7 (memoH_cons q94_8 (memoH_cons q94_9 (memoH_cons q94_10 (memoH_cons q94_11 memoH_nil))))))))))))
noncomputable abbrev c77 : Cfg := ⟨Tryz.prog, gmap gs, lookS [(14, memoH M14), (94, memoH M94)], fun _ => false, fun _ => none⟩
theorem l77 : ∀ s ∈ ([(14, memoH M14), (94, memoH M94)] : List Sum), SumOk Tryz.prog (gmap gs) s := (sums_cons s14 (sums_cons s94 sums_nil))
def A77_0 : List AV := [a0, a15]
def R77_0 : AV := .tup [a14, x 0]
theorem m77_0 (k : AV → Bool) : runF c77 200000 77 A77_0 k false = k R77_0 := by kernel_rfl
theorem q77_0 : ACalls Tryz.prog (gmap gs) 77 A77_0 (fun v => v = R77_0) := acalls_eq base l77 fun k hk => (m77_0 k).trans hk
def A77_1 : List AV := [a0, a21]
def R77_1 : AV := .tup [a20, x 0]
theorem m77_1 (k : AV → Bool) : runF c77 200000 77 A77_1 k false = k R77_1 := by kernel_rfl
theorem q77_1 : ACalls Tryz.prog (gmap gs) 77 A77_1 (fun v => v = R77_1) := acalls_eq base l77 fun k hk => (m77_1 k).trans hk
def A77_2 : List AV := [a0, a83]
def R77_2 : AV := .tup [a82, x 0]
theorem m77_2 (k : AV → Bool) : runF c77 200000 77 A77_2 k false = k R77_2 := by kernel_rfl
theorem q77_2 : ACalls Tryz.prog (gmap gs) 77 A77_2 (fun v => v = R77_2) := acalls_eq base l77 fun k hk => (m77_2 k).trans hk
def A77_3 : List AV := [a0, a91]
def R77_3 : AV := .tup [a90, x 0]
theorem m77_3 (k : AV → Bool) : runF c77 200000 77 A77_3 k false = k R77_3 := by kernel_rfl
theorem q77_3 : ACalls Tryz.prog (gmap gs) 77 A77_3 (fun v => v = R77_3) := acalls_eq base l77 fun k hk => (m77_3 k).trans hk
def A77_4 : List AV := [a0, a74]
def R77_4 : AV := .tup [a99, x 0]
theorem m77_4 (k : AV → Bool) : runF c77 200000 77 A77_4 k false = k R77_4 := by kernel_rfl
theorem q77_4 : ACalls Tryz.prog (gmap gs) 77 A77_4 (fun v => v = R77_4) := acalls_eq base l77 fun k hk => (m77_4 k).trans hk
def A77_5 : List AV := [a0, a107]
def R77_5 : AV := .tup [a106, x 0]
theorem m77_5 (k : AV → Bool) : runF c77 200000 77 A77_5 k false = k R77_5 := by kernel_rfl
theorem q77_5 : ACalls Tryz.prog (gmap gs) 77 A77_5 (fun v => v = R77_5) := acalls_eq base l77 fun k hk => (m77_5 k).trans hk
def A77_6 : List AV := [a0, a116]
def R77_6 : AV := .tup [a115, x 0]
theorem m77_6 (k : AV → Bool) : runF c77 200000 77 A77_6 k false = k R77_6 := by kernel_rfl
theorem q77_6 : ACalls Tryz.prog (gmap gs) 77 A77_6 (fun v => v = R77_6) := acalls_eq base l77 fun k hk => (m77_6 k).trans hk
def A77_7 : List AV := [a0, a155]
def R77_7 : AV := .tup [a154, x 0]
theorem m77_7 (k : AV → Bool) : runF c77 200000 77 A77_7 k false = k R77_7 := by kernel_rfl
theorem q77_7 : ACalls Tryz.prog (gmap gs) 77 A77_7 (fun v => v = R77_7) := acalls_eq base l77 fun k hk => (m77_7 k).trans hk
def A77_8 : List AV := [a0, a2]
def R77_8 : AV := .tup [a168, x 2]
theorem m77_8 (k : AV → Bool) : runF c77 200000 77 A77_8 k false = k R77_8 := by kernel_rfl
theorem q77_8 : ACalls Tryz.prog (gmap gs) 77 A77_8 (fun v => v = R77_8) := acalls_eq base l77 fun k hk => (m77_8 k).trans hk
def A77_9 : List AV := [a0, a8]
def R77_9 : AV := .tup [a168, x 2]
theorem m77_9 (k : AV → Bool) : runF c77 200000 77 A77_9 k false = k R77_9 := by kernel_rfl
theorem q77_9 : ACalls Tryz.prog (gmap gs) 77 A77_9 (fun v => v = R77_9) := acalls_eq base l77 fun k hk => (m77_9 k).trans hk
def A77_10 : List AV := [a0, a34]
def R77_10 : AV := .tup [a168, x 2]
theorem m77_10 (k : AV → Bool) : runF c77 200000 77 A77_10 k false = k R77_10 := by kernel_rfl
theorem q77_10 : ACalls Tryz.prog (gmap gs) 77 A77_10 (fun v => v = R77_10) := acalls_eq base l77 fun k hk => (m77_10 k).trans hk
def A77_11 : List AV := [a0, a39]
def R77_11 : AV := .tup [a168, x 2]
theorem m77_11 (k : AV → Bool) : runF c77 200000 77 A77_11 k false = k R77_11 := by kernel_rfl
theorem q77_11 : ACalls Tryz.prog (gmap gs) 77 A77_11 (fun v => v = R77_11) := acalls_eq base l77 fun k hk => (m77_11 k).trans hk
def A77_12 : List AV := [a0, a51]
def R77_12 : AV := .tup [a168, x 2]
theorem m77_12 (k : AV → Bool) : runF c77 200000 77 A77_12 k false = k R77_12 := by kernel_rfl
theorem q77_12 : ACalls Tryz.prog (gmap gs) 77 A77_12 (fun v => v = R77_12) := acalls_eq base l77 fun k hk => (m77_12 k).trans hk
def A77_13 : List AV := [a0, .agg [u 65539, u 2, u 1, u 7]]
def R77_13 : AV := .tup [a168, x 2]
theorem m77_13 (k : AV → Bool) : runF c77 200000 77 A77_13 k false = k R77_13 := by kernel_rfl
theorem q77_13 : ACalls Tryz.prog (gmap gs) 77 A77_13 (fun v => v = R77_13) := acalls_eq base l77 fun k hk => (m77_13 k).trans hk
def A77_14 : List AV := [a0, a62]
def R77_14 : AV := .tup [a168, x 2]
theorem m77_14 (k : AV → Bool) : runF c77 200000 77 A77_14 k false = k R77_14 := by kernel_rfl
theorem q77_14 : ACalls Tryz.prog (gmap gs) 77 A77_14 (fun v => v = R77_14) := acalls_eq base l77 fun k hk => (m77_14 k).trans hk
def A77_15 : List AV := [a0, a71]
def R77_15 : AV := .tup [a168, x 2]
theorem m77_15 (k : AV → Bool) : runF c77 200000 77 A77_15 k false = k R77_15 := by kernel_rfl
theorem q77_15 : ACalls Tryz.prog (gmap gs) 77 A77_15 (fun v => v = R77_15) := acalls_eq base l77 fun k hk => (m77_15 k).trans hk
def A77_16 : List AV := [a0, .agg [u 65536, u 1, u 0, u 0]]
def R77_16 : AV := .tup [a168, x 2]
theorem m77_16 (k : AV → Bool) : runF c77 200000 77 A77_16 k false = k R77_16 := by kernel_rfl
theorem q77_16 : ACalls Tryz.prog (gmap gs) 77 A77_16 (fun v => v = R77_16) := acalls_eq base l77 fun k hk => (m77_16 k).trans hk
def A77_17 : List AV := [a0, a161]
def R77_17 : AV := .tup [a168, x 2]
theorem m77_17 (k : AV → Bool) : runF c77 200000 77 A77_17 k false = k R77_17 := by kernel_rfl
theorem q77_17 : ACalls Tryz.prog (gmap gs) 77 A77_17 (fun v => v = R77_17) := acalls_eq base l77 fun k hk => (m77_17 k).trans hk
def A77_18 : List AV := [a0, a188]
def R77_18 : AV := .tup [a168, x 2]
theorem m77_18 (k : AV → Bool) : runF c77 200000 77 A77_18 k false = k R77_18 := by kernel_rfl
theorem q77_18 : ACalls Tryz.prog (gmap gs) 77 A77_18 (fun v => v = R77_18) := acalls_eq base l77 fun k hk => (m77_18 k).trans hk
def M77 : List (Nat × List AV × AV) := [(758402636005139954, A77_0, R77_0), (758402637957345145, A77_1, R77_1), (758402637957374936, A77_2, R77_2), (758402637957404727, A77_3, R77_3), (758402637957434518, A77_4, R77_4), (758402637957464309, A77_5, R77_5), (758402637957494100, A77_6, R77_6), (758402637957523891, A77_7, R77_7), (758402636005216092, A77_8, R77_8), (758402636004931417, A77_9, R77_9), (758402637957314393, A77_10, R77_10), (758403578590639095, A77_11, R77_11), (893652305026099286, A77_12, R77_12), (758402637957405726, A77_13, R77_13), (893652306159770805, A77_14, R77_14), (758402636004961209, A77_15, R77_15), (758402637957315354, A77_16, R77_16), (758402636005245882, A77_17, R77_17), (758402636004932378, A77_18, R77_18)]
theorem s77 : SumOk Tryz.prog (gmap gs) (77, memoH M77) := memoH_sum (memoH_cons q77_0 (memoH_cons q77_1 (memoH_cons q77_2 (memoH_cons q77_3 (memoH_cons q77_4 (memoH_cons q77_5 (memoH_cons q77_6 (memoH_cons q77_7 (memoH_cons q77_8 (memoH_cons q77_9 (memoH_cons q77_10 (memoH_cons q77_11 (memoH_cons q77_12 (memoH_cons q77_13 (memoH_cons q77_14 (memoH_cons q77_15 (memoH_cons q77_16 (memoH_cons q77_17 (memoH_cons q77_18 memoH_nil)))))))))))))))))))
noncomputable abbrev c78 : Cfg := ⟨Tryz.prog, gmap gs, lookS [], fun _ => false, fun _ => none⟩
def A78_0 : List AV := [u 1]
def R78_0 : AV := x 1
theorem m78_0 (k : AV → Bool) : runF c78 200000 78 A78_0 k false = k R78_0 := by kernel_rfl
theorem q78_0 : ACalls Tryz.prog (gmap gs) 78 A78_0 (fun v => v = R78_0) := acalls_eq base sums_nil fun k hk => (m78_0 k).trans hk
def M78 : List (Nat × List AV × AV) := [(8, A78_0, R78_0)]
theorem s78 : SumOk Tryz.prog (gmap gs) (78, memoH M78) := memoH_sum (memoH_cons q78_0 memoH_nil)
noncomputable abbrev c137 : Cfg := ⟨Tryz.prog, gmap gs, lookS [(14, memoH M14), (78, memoH M78)], fun _ => false, fun _ => none⟩
def A137_0 : List AV := [a0, .lst [.bool true] 1, x 0]
def R137_0 : AV := .tup [u 1, x 0, x 0]
theorem m137_0 (k : AV → Bool) : runF c137 200000 137 A137_0 k false = k R137_0 := by kernel_rfl
theorem q137_0 : ACalls Tryz.prog (gmap gs) 137 A137_0 (fun v => v = R137_0) := acalls_eq base (sums_cons s14 (sums_cons s78 sums_nil)) fun k hk => (m137_0 k).trans hk
def M137 : List (Nat × List AV × AV) := [(805475942991897783, A137_0, R137_0)]
theorem s137 : SumOk Tryz.prog (gmap gs) (137, memoH M137) := memoH_sum (memoH_cons q137_0 memoH_nil)
noncomputable abbrev c107 : Cfg := ⟨Tryz.prog, gmap gs, lookS [(14, memoH M14), (122, memoH M122), (94, memoH M94), (137, memoH M137)], fun _ => false, fun _ => none⟩
def A107_0 : List AV := [a0, a14, .lst [.bool true] 1]
def R107_0 : AV := .tup [a20, x 0]
theorem m107_0 (k : AV → Bool) : runF c107 200000 107 A107_0 k false = k R107_0 := by kernel_rfl
theorem q107_0 : ACalls Tryz.prog (gmap gs) 107 A107_0 (fun v => v = R107_0) := acalls_eq base (sums_cons s14 (sums_cons s122 (sums_cons s94 (sums_cons s137 sums_nil)))) fun k hk => (m107_0 k).trans hk
def M107 : List (Nat × List AV × AV) := [(178542289218326672, A107_0, R107_0)]
theorem s107 : SumOk Tryz.prog (gmap gs) (107, memoH M107) := memoH_sum (memoH_cons q107_0 memoH_nil)
noncomputable abbrev c79 : Cfg := ⟨Tryz.prog, gmap gs, lookS [(78, memoH M78)], fun _ => false, fun _ => none⟩
def A79_0 : List AV := [u 1, x 0]
def R79_0 : AV := .tup [x 0, x 0]
theorem m79_0 (k : AV → Bool) : runF c79 200000 79 A79_0 k false = k R79_0 := by kernel_rfl
theorem q79_0 : ACalls Tryz.prog (gmap gs) 79 A79_0 (fun v => v = R79_0) := acalls_eq base (sums_cons s78 sums_nil) fun k hk => (m79_0 k).trans hk
def M79 : List (Nat × List AV × AV) := [(255, A79_0, R79_0)]
theorem s79 : SumOk Tryz.prog (gmap gs) (79, memoH M79) := memoH_sum (memoH_cons q79_0 memoH_nil)
noncomputable abbrev c129 : Cfg := ⟨Tryz.prog, gmap gs, lookS [(14, memoH M14), (94, memoH M94)], fun _ => false, fun _ => none⟩
theorem l129 : ∀ s ∈ ([(14, memoH M14), (94, memoH M94)] : List Sum), SumOk Tryz.prog (gmap gs) s := (sums_cons s14 (sums_cons s94 sums_nil))
def A129_0 : List AV := [a0, a14]
def R129_0 : AV := .tup [.agg [y 5, x 0], x 0]
theorem m129_0 (k : AV → Bool) : runF c129 200000 129 A129_0 k false = k R129_0 := by kernel_rfl
theorem q129_0 : ACalls Tryz.prog (gmap gs) 129 A129_0 (fun v => v = R129_0) := acalls_eq base l129 fun k hk => (m129_0 k).trans hk
def A129_1 : List AV := [a0, a20]
def R129_1 : AV := .tup [.agg [y 1, x 1], x 0]
theorem m129_1 (k : AV → Bool) : runF c129 200000 129 A129_1 k false = k R129_1 := by kernel_rfl
theorem q129_1 : ACalls Tryz.prog (gmap gs) 129 A129_1 (fun v => v = R129_1) := acalls_eq base l129 fun k hk => (m129_1 k).trans hk
def A129_2 : List AV := [a0, a82]
def R129_2 : AV := .tup [.agg [y 2, x 1], x 0]
theorem m129_2 (k : AV → Bool) : runF c129 200000 129 A129_2 k false = k R129_2 := by kernel_rfl
theorem q129_2 : ACalls Tryz.prog (gmap gs) 129 A129_2 (fun v => v = R129_2) := acalls_eq base l129 fun k hk => (m129_2 k).trans hk
def A129_3 : List AV := [a0, a90]
def R129_3 : AV := .tup [.agg [y 3, x 1], x 0]
theorem m129_3 (k : AV → Bool) : runF c129 200000 129 A129_3 k false = k R129_3 := by kernel_rfl
theorem q129_3 : ACalls Tryz.prog (gmap gs) 129 A129_3 (fun v => v = R129_3) := acalls_eq base l129 fun k hk => (m129_3 k).trans hk
def A129_4 : List AV := [a0, a99]
def R129_4 : AV := .tup [.agg [y 4, x 1], x 0]
theorem m129_4 (k : AV → Bool) : runF c129 200000 129 A129_4 k false = k R129_4 := by kernel_rfl
theorem q129_4 : ACalls Tryz.prog (gmap gs) 129 A129_4 (fun v => v = R129_4) := acalls_eq base l129 fun k hk => (m129_4 k).trans hk
def A129_5 : List AV := [a0, a106]
def R129_5 : AV := .tup [.agg [y 3, x 0], x 0]
theorem m129_5 (k : AV → Bool) : runF c129 200000 129 A129_5 k false = k R129_5 := by kernel_rfl
theorem q129_5 : ACalls Tryz.prog (gmap gs) 129 A129_5 (fun v => v = R129_5) := acalls_eq base l129 fun k hk => (m129_5 k).trans hk
def A129_6 : List AV := [a0, a115]
def R129_6 : AV := .tup [.agg [y 1, x 0], x 0]
theorem m129_6 (k : AV → Bool) : runF c129 200000 129 A129_6 k false = k R129_6 := by kernel_rfl
theorem q129_6 : ACalls Tryz.prog (gmap gs) 129 A129_6 (fun v => v = R129_6) := acalls_eq base l129 fun k hk => (m129_6 k).trans hk
def A129_7 : List AV := [a0, a154]
def R129_7 : AV := .tup [.agg [y 5, x 0], x 0]
theorem m129_7 (k : AV → Bool) : runF c129 200000 129 A129_7 k false = k R129_7 := by kernel_rfl
theorem q129_7 : ACalls Tryz.prog (gmap gs) 129 A129_7 (fun v => v = R129_7) := acalls_eq base l129 fun k hk => (m129_7 k).trans hk
def M129 : List (Nat × List AV × AV) := [(758402636004938144, A129_0, R129_0), (758402636004962200, A129_1, R129_1), (758402636004963161, A129_2, R129_2), (758402636004964122, A129_3, R129_3), (758402636004965083, A129_4, R129_4), (758402636004966044, A129_5, R129_5), (758402636004967005, A129_6, R129_6), (758402636004967966, A129_7, R129_7)]
theorem s129 : SumOk Tryz.prog (gmap gs) (129, memoH M129) := memoH_sum (memoH_cons q129_0 (memoH_cons q129_1 (memoH_cons q129_2 (memoH_cons q129_3 (memoH_cons q129_4 (memoH_cons q129_5 (memoH_cons q129_6 (memoH_cons q129_7 memoH_nil))))))))
noncomputable abbrev c154 : Cfg := ⟨Tryz.prog, gmap gs, lookS [], fun _ => false, fun _ => none⟩
theorem l154 : ∀ s ∈ ([] : List Sum), SumOk Tryz.prog (gmap gs) s := sums_nil
def A154_0 : List AV := [a8]
def R154_0 : AV := .agg [u 0, y 0, y 0, y 0, w 0, w 0, y 0, y 0, y 0, y 0, y 0, y 0, w 0, w 0]
theorem m154_0 (k : AV → Bool) : runF c154 200000 154 A154_0 k false = k R154_0 := by kernel_rfl
theorem q154_0 : ACalls Tryz.prog (gmap gs) 154 A154_0 (fun v => v = R154_0) := acalls_eq base l154 fun k hk => (m154_0 k).trans hk
def A154_1 : List AV := [a34]
def R154_1 : AV := .agg [u 65536, y 0, y 0, y 0, w 0, w 0, y 0, y 0, y 0, y 0, y 0, y 0, w 0, w 0]
theorem m154_1 (k : AV → Bool) : runF c154 200000 154 A154_1 k false = k R154_1 := by kernel_rfl
theorem q154_1 : ACalls Tryz.prog (gmap gs) 154 A154_1 (fun v => v = R154_1) := acalls_eq base l154 fun k hk => (m154_1 k).trans hk
def A154_2 : List AV := [a39]
def R154_2 : AV := a38
theorem m154_2 (k : AV → Bool) : runF c154 200000 154 A154_2 k false = k R154_2 := by kernel_rfl
theorem q154_2 : ACalls Tryz.prog (gmap gs) 154 A154_2 (fun v => v = R154_2) := acalls_eq base l154 fun k hk => (m154_2 k).trans hk
def A154_3 : List AV := [a51]
def R154_3 : AV := a50
theorem m154_3 (k : AV → Bool) : runF c154 200000 154 A154_3 k false = k R154_3 := by kernel_rfl
theorem q154_3 : ACalls Tryz.prog (gmap gs) 154 A154_3 (fun v => v = R154_3) := acalls_eq base l154 fun k hk => (m154_3 k).trans hk
def A154_4 : List AV := [a62]
def R154_4 : AV := a61
theorem m154_4 (k : AV → Bool) : runF c154 200000 154 A154_4 k false = k R154_4 := by kernel_rfl
theorem q154_4 : ACalls Tryz.prog (gmap gs) 154 A154_4 (fun v => v = R154_4) := acalls_eq base l154 fun k hk => (m154_4 k).trans hk
def A154_5 : List AV := [a74]
def R154_5 : AV := a73
theorem m154_5 (k : AV → Bool) : runF c154 200000 154 A154_5 k false = k R154_5 := by kernel_rfl
theorem q154_5 : ACalls Tryz.prog (gmap gs) 154 A154_5 (fun v => v = R154_5) := acalls_eq base l154 fun k hk => (m154_5 k).trans hk
def M154 : List (Nat × List AV × AV) := [(215488, A154_0, R154_0), (1952598464, A154_1, R154_1), (942585923166, A154_2, R154_2), (135249669021383357, A154_3, R154_3), (135249670155054876, A154_4, R154_4), (1952718589, A154_5, R154_5)]
theorem s154 : SumOk Tryz.prog (gmap gs) (154, memoH M154) := memoH_sum (memoH_cons q154_0 (memoH_cons q154_1 (memoH_cons q154_2 (memoH_cons q154_3 (memoH_cons q154_4 (memoH_cons q154_5 memoH_nil))))))
noncomputable abbrev c108 : Cfg := ⟨Tryz.prog, gmap gs, lookS [(14, memoH M14), (27, memoH M27), (45, memoH M45), (98, memoH M98), (78, memoH M78), (79, memoH M79), (129, memoH M129), (154, memoH M154)], fun _ => false, fun _ => none⟩
theorem l108 : ∀ s ∈ ([(14, memoH M14), (27, memoH M27), (45, memoH M45), (98, memoH M98), (78, memoH M78), (79, memoH M79), (129, memoH M129), (154, memoH M154)] : List Sum), SumOk Tryz.prog (gmap gs) s := (sums_cons s14 (sums_cons s27 (sums_cons s45 (sums_cons s98 (sums_cons s78 (sums_cons s79 (sums_cons s129 (sums_cons s154 sums_nil))))))))
def A108_0 : List AV := [a0, a20, a8]
def R108_0 : AV := .tup [a27, x 0]
theorem m108_0 (k : AV → Bool) : runF c108 200000 108 A108_0 k false = k R108_0 := by kernel_rfl
theorem q108_0 : ACalls Tryz.prog (gmap gs) 108 A108_0 (fun v => v = R108_0) := acalls_eq base l108 fun k hk => (m108_0 k).trans hk
def A108_1 : List AV := [a0, a20, a34]
def R108_1 : AV := .tup [a35, x 0]
theorem m108_1 (k : AV → Bool) : runF c108 200000 108 A108_1 k false = k R108_1 := by kernel_rfl
theorem q108_1 : ACalls Tryz.prog (gmap gs) 108 A108_1 (fun v => v = R108_1) := acalls_eq base l108 fun k hk => (m108_1 k).trans hk
def A108_2 : List AV := [a0, a20, a39]
def R108_2 : AV := .tup [.agg [y 5, x 10, x 0], x 0]
theorem m108_2 (k : AV → Bool) : runF c108 200000 108 A108_2 k false = k R108_2 := by kernel_rfl
theorem q108_2 : ACalls Tryz.prog (gmap gs) 108 A108_2 (fun v => v = R108_2) := acalls_eq base l108 fun k hk => (m108_2 k).trans hk
def A108_3 : List AV := [a0, a20, a51]
def R108_3 : AV := .tup [.agg [y 6, x 10, x 0], x 0]
theorem m108_3 (k : AV → Bool) : runF c108 200000 108 A108_3 k false = k R108_3 := by kernel_rfl
theorem q108_3 : ACalls Tryz.prog (gmap gs) 108 A108_3 (fun v => v = R108_3) := acalls_eq base l108 fun k hk => (m108_3 k).trans hk
def A108_4 : List AV := [a0, a20, a62]
def R108_4 : AV := .tup [.agg [y 7, x 4, x 0], x 0]
theorem m108_4 (k : AV → Bool) : runF c108 200000 108 A108_4 k false = k R108_4 := by kernel_rfl
theorem q108_4 : ACalls Tryz.prog (gmap gs) 108 A108_4 (fun v => v = R108_4) := acalls_eq base l108 fun k hk => (m108_4 k).trans hk
def A108_5 : List AV := [a0, a20, a74]
def R108_5 : AV := .tup [a12, x 0]
theorem m108_5 (k : AV → Bool) : runF c108 200000 108 A108_5 k false = k R108_5 := by kernel_rfl
theorem q108_5 : ACalls Tryz.prog (gmap gs) 108 A108_5 (fun v => v = R108_5) := acalls_eq base l108 fun k hk => (m108_5 k).trans hk
def A108_6 : List AV := [a0, a115, a8]
def R108_6 : AV := .tup [a27, x 0]
theorem m108_6 (k : AV → Bool) : runF c108 200000 108 A108_6 k false = k R108_6 := by kernel_rfl
theorem q108_6 : ACalls Tryz.prog (gmap gs) 108 A108_6 (fun v => v = R108_6) := acalls_eq base l108 fun k hk => (m108_6 k).trans hk
def A108_7 : List AV := [a0, a115, a34]
def R108_7 : AV := .tup [a35, x 0]
theorem m108_7 (k : AV → Bool) : runF c108 200000 108 A108_7 k false = k R108_7 := by kernel_rfl
theorem q108_7 : ACalls Tryz.prog (gmap gs) 108 A108_7 (fun v => v = R108_7) := acalls_eq base l108 fun k hk => (m108_7 k).trans hk
def A108_8 : List AV := [a0, a115, a39]
def R108_8 : AV := .tup [.agg [y 5, x 8, x 0], x 0]
theorem m108_8 (k : AV → Bool) : runF c108 200000 108 A108_8 k false = k R108_8 := by kernel_rfl
theorem q108_8 : ACalls Tryz.prog (gmap gs) 108 A108_8 (fun v => v = R108_8) := acalls_eq base l108 fun k hk => (m108_8 k).trans hk
def A108_9 : List AV := [a0, a115, a51]
def R108_9 : AV := .tup [.agg [y 6, x 8, x 0], x 0]
theorem m108_9 (k : AV → Bool) : runF c108 200000 108 A108_9 k false = k R108_9 := by kernel_rfl
theorem q108_9 : ACalls Tryz.prog (gmap gs) 108 A108_9 (fun v => v = R108_9) := acalls_eq base l108 fun k hk => (m108_9 k).trans hk
def A108_10 : List AV := [a0, a115, a62]
def R108_10 : AV := .tup [.agg [y 8, x 0, x 0], x 0]
theorem m108_10 (k : AV → Bool) : runF c108 200000 108 A108_10 k false = k R108_10 := by kernel_rfl
theorem q108_10 : ACalls Tryz.prog (gmap gs) 108 A108_10 (fun v => v = R108_10) := acalls_eq base l108 fun k hk => (m108_10 k).trans hk
def A108_11 : List AV := [a0, a115, a74]
def R108_11 : AV := .tup [a12, x 0]
theorem m108_11 (k : AV → Bool) : runF c108 200000 108 A108_11 k false = k R108_11 := by kernel_rfl
theorem q108_11 : ACalls Tryz.prog (gmap gs) 108 A108_11 (fun v => v = R108_11) := acalls_eq base l108 fun k hk => (m108_11 k).trans hk
def M108 : List (Nat × List AV × AV) := [(946757279214699188, A108_0, R108_0), (946757281167082164, A108_1, R108_1), (946758221800406866, A108_2, R108_2), (1082006948235867057, A108_3, R108_3), (1082006949369538576, A108_4, R108_4), (946757281167202289, A108_5, R108_5), (946757283652217593, A108_6, R108_6), (946757285604600569, A108_7, R108_7), (946758226237925271, A108_8, R108_8), (1082006952673385462, A108_9, R108_9), (1082006953807056981, A108_10, R108_10), (946757285604720694, A108_11, R108_11)]
theorem s108 : SumOk Tryz.prog (gmap gs) (108, memoH M108) := memoH_sum (memoH_cons q108_0 (memoH_cons q108_1 (memoH_cons q108_2 (memoH_cons q108_3 (memoH_cons q108_4 (memoH_cons q108_5 (memoH_cons q108_6 (memoH_cons q108_7 (memoH_cons q108_8 (memoH_cons q108_9 (memoH_cons q108_10 (memoH_cons q108_11 memoH_nil))))))))))))
noncomputable abbrev c211 : Cfg := ⟨Tryz.prog, gmap gs, lookS [], fun _ => false, fun _ => none⟩
def A211_0 : List AV := [u 1, u 1, .agg [x 0, w 0, .nils]]
def R211_0 : AV := a71
theorem m211_0 (k : AV → Bool) : runF c211 200000 211 A211_0 k false = k R211_0 := by kernel_rfl
theorem q211_0 : ACalls Tryz.prog (gmap gs) 211 A211_0 (fun v => v = R211_0) := acalls_eq base sums_nil fun k hk => (m211_0 k).trans hk
def M211 : List (Nat × List AV × AV) := [(7633441, A211_0, R211_0)]
theorem s211 : SumOk Tryz.prog (gmap gs) (211, memoH M211) := memoH_sum (memoH_cons q211_0 memoH_nil)
noncomputable abbrev c109 : Cfg := ⟨Tryz.prog, gmap gs, lookS [(14, memoH M14), (27, memoH M27), (45, memoH M45), (98, memoH M98), (78, memoH M78), (79, memoH M79), (129, memoH M129), (154, memoH M154), (211, memoH M211)], fun _ => false, fun _ => none⟩
theorem l109 : ∀ s ∈ ([(14, memoH M14), (27, memoH M27), (45, memoH M45), (98, memoH M98), (78, memoH M78), (79, memoH M79), (129, memoH M129), (154, memoH M154), (211, memoH M211)] : List Sum), SumOk Tryz.prog (gmap gs) s := (sums_cons s14 (sums_cons s27 (sums_cons s45 (sums_cons s98 (sums_cons s78 (sums_cons s79 (sums_cons s129 (sums_cons s154 (sums_cons s211 sums_nil)))))))))
def A109_0 : List AV := [a0, a20, a8, a8]
def R109_0 : AV := .tup [a29, .bool false, x 0]
theorem m109_0 (k : AV → Bool) : runF c109 200000 109 A109_0 k false = k R109_0 := by kernel_rfl
theorem q109_0 : ACalls Tryz.prog (gmap gs) 109 A109_0 (fun v => v = R109_0) := acalls_eq base l109 fun k hk => (m109_0 k).trans hk
def A109_1 : List AV := [a0, a20, a34, a8]
def R109_1 : AV := .tup [a29, .bool false, x 0]
theorem m109_1 (k : AV → Bool) : runF c109 200000 109 A109_1 k false = k R109_1 := by kernel_rfl
theorem q109_1 : ACalls Tryz.prog (gmap gs) 109 A109_1 (fun v => v = R109_1) := acalls_eq base l109 fun k hk => (m109_1 k).trans hk
def A109_2 : List AV := [a0, a20, a34, a2]
def R109_2 : AV := .tup [a29, .bool false, x 0]
theorem m109_2 (k : AV → Bool) : runF c109 200000 109 A109_2 k false = k R109_2 := by kernel_rfl
theorem q109_2 : ACalls Tryz.prog (gmap gs) 109 A109_2 (fun v => v = R109_2) := acalls_eq base l109 fun k hk => (m109_2 k).trans hk
def A109_3 : List AV := [a0, a20, a39, a2]
def R109_3 : AV := .tup [a29, .bool false, x 0]
theorem m109_3 (k : AV → Bool) : runF c109 200000 109 A109_3 k false = k R109_3 := by kernel_rfl
theorem q109_3 : ACalls Tryz.prog (gmap gs) 109 A109_3 (fun v => v = R109_3) := acalls_eq base l109 fun k hk => (m109_3 k).trans hk
def A109_4 : List AV := [a0, a20, a39, a8]
def R109_4 : AV := .tup [a29, .bool false, x 0]
theorem m109_4 (k : AV → Bool) : runF c109 200000 109 A109_4 k false = k R109_4 := by kernel_rfl
theorem q109_4 : ACalls Tryz.prog (gmap gs) 109 A109_4 (fun v => v = R109_4) := acalls_eq base l109 fun k hk => (m109_4 k).trans hk
def A109_5 : List AV := [a0, a20, a51, a8]
def R109_5 : AV := .tup [a59, .bool true, x 0]
theorem m109_5 (k : AV → Bool) : runF c109 200000 109 A109_5 k false = k R109_5 := by kernel_rfl
theorem q109_5 : ACalls Tryz.prog (gmap gs) 109 A109_5 (fun v => v = R109_5) := acalls_eq base l109 fun k hk => (m109_5 k).trans hk
def A109_6 : List AV := [a0, a20, a62, a8]
def R109_6 : AV := .tup [a72, .bool true, x 0]
theorem m109_6 (k : AV → Bool) : runF c109 200000 109 A109_6 k false = k R109_6 := by kernel_rfl
theorem q109_6 : ACalls Tryz.prog (gmap gs) 109 A109_6 (fun v => v = R109_6) := acalls_eq base l109 fun k hk => (m109_6 k).trans hk
def A109_7 : List AV := [a0, a115, a8, a8]
def R109_7 : AV := .tup [a29, .bool false, x 0]
theorem m109_7 (k : AV → Bool) : runF c109 200000 109 A109_7 k false = k R109_7 := by kernel_rfl
theorem q109_7 : ACalls Tryz.prog (gmap gs) 109 A109_7 (fun v => v = R109_7) := acalls_eq base l109 fun k hk => (m109_7 k).trans hk
def A109_8 : List AV := [a0, a115, a34, a8]
def R109_8 : AV := .tup [a29, .bool false, x 0]
theorem m109_8 (k : AV → Bool) : runF c109 200000 109 A109_8 k false = k R109_8 := by kernel_rfl
theorem q109_8 : ACalls Tryz.prog (gmap gs) 109 A109_8 (fun v => v = R109_8) := acalls_eq base l109 fun k hk => (m109_8 k).trans hk
def A109_9 : List AV := [a0, a115, a34, a2]
def R109_9 : AV := .tup [a29, .bool false, x 0]
theorem m109_9 (k : AV → Bool) : runF c109 200000 109 A109_9 k false = k R109_9 := by kernel_rfl
theorem q109_9 : ACalls Tryz.prog (gmap gs) 109 A109_9 (fun v => v = R109_9) := acalls_eq base l109 fun k hk => (m109_9 k).trans hk
def A109_10 : List AV := [a0, a115, a39, a2]
def R109_10 : AV := .tup [a29, .bool false, x 0]
theorem m109_10 (k : AV → Bool) : runF c109 200000 109 A109_10 k false = k R109_10 := by kernel_rfl
theorem q109_10 : ACalls Tryz.prog (gmap gs) 109 A109_10 (fun v => v = R109_10) := acalls_eq base l109 fun k hk => (m109_10 k).trans hk
def A109_11 : List AV := [a0, a115, a39, a8]
def R109_11 : AV := .tup [a29, .bool false, x 0]
theorem m109_11 (k : AV → Bool) : runF c109 200000 109 A109_11 k false = k R109_11 := by kernel_rfl
theorem q109_11 : ACalls Tryz.prog (gmap gs) 109 A109_11 (fun v => v = R109_11) := acalls_eq base l109 fun k hk => (m109_11 k).trans hk
def A109_12 : List AV := [a0, a115, a51, a8]
def R109_12 : AV := .tup [a141, .bool true, x 0]
theorem m109_12 (k : AV → Bool) : runF c109 200000 109 A109_12 k false = k R109_12 := by kernel_rfl
theorem q109_12 : ACalls Tryz.prog (gmap gs) 109 A109_12 (fun v => v = R109_12) := acalls_eq base l109 fun k hk => (m109_12 k).trans hk
def A109_13 : List AV := [a0, a115, a62, a8]
def R109_13 : AV := .tup [a29, .bool false, x 0]
theorem m109_13 (k : AV → Bool) : runF c109 200000 109 A109_13 k false = k R109_13 := by kernel_rfl
theorem q109_13 : ACalls Tryz.prog (gmap gs) 109 A109_13 (fun v => v = R109_13) := acalls_eq base l109 fun k hk => (m109_13 k).trans hk
def M109 : List (Nat × List AV × AV) := [(1077358411490427545, A109_0, R109_0), (1079161478168806041, A109_1, R109_1), (1079161478169090716, A109_2, R109_2), (794934602224359575, A109_3, R109_3), (794934602224074900, A109_4, R109_4), (624054908277516957, A109_5, R109_5), (625101877732415356, A109_6, R109_6), (1081456552925331550, A109_7, R109_7), (1083259619603710046, A109_8, R109_8), (1083259619603994721, A109_9, R109_9), (799032743659263580, A109_10, R109_10), (799032743658978905, A109_11, R109_11), (628153049712420962, A109_12, R109_12), (629200019167319361, A109_13, R109_13)]
theorem s109 : SumOk Tryz.prog (gmap gs) (109, memoH M109) := memoH_sum (memoH_cons q109_0 (memoH_cons q109_1 (memoH_cons q109_2 (memoH_cons q109_3 (memoH_cons q109_4 (memoH_cons q109_5 (memoH_cons q109_6 (memoH_cons q109_7 (memoH_cons q109_8 (memoH_cons q109_9 (memoH_cons q109_10 (memoH_cons q109_11 (memoH_cons q109_12 (memoH_cons q109_13 memoH_nil))))))))))))))
noncomputable abbrev c146 : Cfg := ⟨Tryz.prog, gmap gs, lookS [(14, memoH M14), (44, memoH M44)], fun _ => false, fun _ => none⟩
theorem l146 : ∀ s ∈ ([(14, memoH M14), (44, memoH M44)] : List Sum), SumOk Tryz.prog (gmap gs) s := (sums_cons s14 (sums_cons s44 sums_nil))
def A146_0 : List AV := [a0, a37, a2]
def R146_0 : AV := .tup [a47, x 0]
theorem m146_0 (k : AV → Bool) : runF c146 200000 146 A146_0 k false = k R146_0 := by kernel_rfl
theorem q146_0 : ACalls Tryz.prog (gmap gs) 146 A146_0 (fun v => v = R146_0) := acalls_eq base l146 fun k hk => (m146_0 k).trans hk
def A146_1 : List AV := [a0, a37, a8]
def R146_1 : AV := .tup [a49, x 0]
theorem m146_1 (k : AV → Bool) : runF c146 200000 146 A146_1 k false = k R146_1 := by kernel_rfl
theorem q146_1 : ACalls Tryz.prog (gmap gs) 146 A146_1 (fun v => v = R146_1) := acalls_eq base l146 fun k hk => (m146_1 k).trans hk
def A146_2 : List AV := [a0, a49, a8]
def R146_2 : AV := .tup [a60, x 0]
theorem m146_2 (k : AV → Bool) : runF c146 200000 146 A146_2 k false = k R146_2 := by kernel_rfl
theorem q146_2 : ACalls Tryz.prog (gmap gs) 146 A146_2 (fun v => v = R146_2) := acalls_eq base l146 fun k hk => (m146_2 k).trans hk
def A146_3 : List AV := [a0, a172, a8]
def R146_3 : AV := .tup [a184, x 0]
theorem m146_3 (k : AV → Bool) : runF c146 200000 146 A146_3 k false = k R146_3 := by kernel_rfl
theorem q146_3 : ACalls Tryz.prog (gmap gs) 146 A146_3 (fun v => v = R146_3) := acalls_eq base l146 fun k hk => (m146_3 k).trans hk
def M146 : List (Nat × List AV × AV) := [(1077621721440246895, A146_0, R146_0), (1077621721439962220, A146_1, R146_1), (1128438676120275563, A146_2, R146_2), (26635109633951558, A146_3, R146_3)]
theorem s146 : SumOk Tryz.prog (gmap gs) (146, memoH M146) := memoH_sum (memoH_cons q146_0 (memoH_cons q146_1 (memoH_cons q146_2 (memoH_cons q146_3 memoH_nil))))
noncomputable abbrev c101 : Cfg := ⟨Tryz.prog, gmap gs, lookS [(14, memoH M14), (146, memoH M146)], fun _ => false, fun _ => none⟩
theorem l101 : ∀ s ∈ ([(14, memoH M14), (146, memoH M146)] : List Sum), SumOk Tryz.prog (gmap gs) s := (sums_cons s14 (sums_cons s146 sums_nil))
def A101_0 : List AV := [a0, a37, a2]
def R101_0 : AV := .tup [a47, .agg [u 0, u 0], .bool false, x 0]
theorem m101_0 (k : AV → Bool) : runF c101 200000 101 A101_0 k false = k R101_0 := by kernel_rfl
theorem q101_0 : ACalls Tryz.prog (gmap gs) 101 A101_0 (fun v => v = R101_0) := acalls_eq base l101 fun k hk => (m101_0 k).trans hk
def A101_1 : List AV := [a0, a37, a8]
def R101_1 : AV := .tup [a49, .agg [u 0, u 0], .bool false, x 0]
theorem m101_1 (k : AV → Bool) : runF c101 200000 101 A101_1 k false = k R101_1 := by kernel_rfl
theorem q101_1 : ACalls Tryz.prog (gmap gs) 101 A101_1 (fun v => v = R101_1) := acalls_eq base l101 fun k hk => (m101_1 k).trans hk
def A101_2 : List AV := [a0, a49, a8]
def R101_2 : AV := .tup [a60, .agg [u 0, u 0], .bool false, x 0]
theorem m101_2 (k : AV → Bool) : runF c101 200000 101 A101_2 k false = k R101_2 := by kernel_rfl
theorem q101_2 : ACalls Tryz.prog (gmap gs) 101 A101_2 (fun v => v = R101_2) := acalls_eq base l101 fun k hk => (m101_2 k).trans hk
def A101_3 : List AV := [a0, a172, a8]
def R101_3 : AV := .tup [a184, .agg [u 0, u 0], .bool false, x 0]
theorem m101_3 (k : AV → Bool) : runF c101 200000 101 A101_3 k false = k R101_3 := by kernel_rfl
theorem q101_3 : ACalls Tryz.prog (gmap gs) 101 A101_3 (fun v => v = R101_3) := acalls_eq base l101 fun k hk => (m101_3 k).trans hk
def M101 : List (Nat × List AV × AV) := [(1077621721440246895, A101_0, R101_0), (1077621721439962220, A101_1, R101_1), (1128438676120275563, A101_2, R101_2), (26635109633951558, A101_3, R101_3)]
theorem s101 : SumOk Tryz.prog (gmap gs) (101, memoH M101) := memoH_sum (memoH_cons q101_0 (memoH_cons q101_1 (memoH_cons q101_2 (memoH_cons q101_3 memoH_nil))))
noncomputable abbrev c208 : Cfg := ⟨Tryz.prog, gmap gs, lookS [], fun _ => false, fun _ => none⟩
theorem l208 : ∀ s ∈ ([] : List Sum), SumOk Tryz.prog (gmap gs) s := sums_nil
def A208_0 : List AV := [a8]
def R208_0 : AV := .tup [u 0, .agg [y 0, w 0, w 0, w 0]]
theorem m208_0 (k : AV → Bool) : runF c208 200000 208 A208_0 k false = k R208_0 := by kernel_rfl
theorem q208_0 : ACalls Tryz.prog (gmap gs) 208 A208_0 (fun v => v = R208_0) := acalls_eq base l208 fun k hk => (m208_0 k).trans hk
def A208_1 : List AV := [a2]
def R208_1 : AV := .tup [u 1, a1]
theorem m208_1 (k : AV → Bool) : runF c208 200000 208 A208_1 k false = k R208_1 := by kernel_rfl
theorem q208_1 : ACalls Tryz.prog (gmap gs) 208 A208_1 (fun v => v = R208_1) := acalls_eq base l208 fun k hk => (m208_1 k).trans hk
def M208 : List (Nat × List AV × AV) := [(215488, A208_0, R208_0), (500163, A208_1, R208_1)]
theorem s208 : SumOk Tryz.prog (gmap gs) (208, memoH M208) := memoH_sum (memoH_cons q208_0 (memoH_cons q208_1 memoH_nil))
noncomputable abbrev c226 : Cfg := ⟨Tryz.prog, gmap gs, lookS [(97, memoH M97)], fun _ => false, fun _ => none⟩
theorem l226 : ∀ s ∈ ([(97, memoH M97)] : List Sum), SumOk Tryz.prog (gmap gs) s := (sums_cons s97 sums_nil)
def A226_0 : List AV := [a38]
def R226_0 : AV := .tup [a39, x 0]
theorem m226_0 (k : AV → Bool) : runF c226 200000 226 A226_0 k false = k R226_0 := by kernel_rfl
theorem q226_0 : ACalls Tryz.prog (gmap gs) 226 A226_0 (fun v => v = R226_0) := acalls_eq base l226 fun k hk => (m226_0 k).trans hk
def A226_1 : List AV := [.agg [u 65538, y 0, y 1, y 9, w 1, w 7, y 22, y 0, y 0, y 0, y 0, y 0, w 0, w 2]]
def R226_1 : AV := .tup [.agg [u 65538, u 1478688, u 30064771073, u 8589934592], x 0]
theorem m226_1 (k : AV → Bool) : runF c226 200000 226 A226_1 k false = k R226_1 := by kernel_rfl
theorem q226_1 : ACalls Tryz.prog (gmap gs) 226 A226_1 (fun v => v = R226_1) := acalls_eq base l226 fun k hk => (m226_1 k).trans hk
def A226_2 : List AV := [a50]
def R226_2 : AV := .tup [a51, x 0]
theorem m226_2 (k : AV → Bool) : runF c226 200000 226 A226_2 k false = k R226_2 := by kernel_rfl
theorem q226_2 : ACalls Tryz.prog (gmap gs) 226 A226_2 (fun v => v = R226_2) := acalls_eq base l226 fun k hk => (m226_2 k).trans hk
def A226_3 : List AV := [a61]
def R226_3 : AV := .tup [a62, x 0]
theorem m226_3 (k : AV → Bool) : runF c226 200000 226 A226_3 k false = k R226_3 := by kernel_rfl
theorem q226_3 : ACalls Tryz.prog (gmap gs) 226 A226_3 (fun v => v = R226_3) := acalls_eq base l226 fun k hk => (m226_3 k).trans hk
def A226_4 : List AV := [a73]
def R226_4 : AV := .tup [a74, x 0]
theorem m226_4 (k : AV → Bool) : runF c226 200000 226 A226_4 k false = k R226_4 := by kernel_rfl
theorem q226_4 : ACalls Tryz.prog (gmap gs) 226 A226_4 (fun v => v = R226_4) := acalls_eq base l226 fun k hk => (m226_4 k).trans hk
def M226 : List (Nat × List AV × AV) := [(245223249506599242, A226_0, R226_0), (451418555485367732, A226_1, R226_1), (451418005233086473, A226_2, R226_2), (657613201161398519, A226_3, R226_3), (465731089453421464, A226_4, R226_4)]
theorem s226 : SumOk Tryz.prog (gmap gs) (226, memoH M226) := memoH_sum (memoH_cons q226_0 (memoH_cons q226_1 (memoH_cons q226_2 (memoH_cons q226_3 (memoH_cons q226_4 memoH_nil)))))
noncomputable abbrev c110 : Cfg := ⟨Tryz.prog, gmap gs, lookS [(14, memoH M14), (27, memoH M27), (44, memoH M44), (45, memoH M45), (83, memoH M83), (71, memoH M71), (98, memoH M98), (78, memoH M78), (79, memoH M79), (129, memoH M129), (154, memoH M154), (101, memoH M101), (208, memoH M208), (226, memoH M226)], fun _ => false, fun _ => none⟩
theorem l110 : ∀ s ∈ ([(14, memoH M14), (27, memoH M27), (44, memoH M44), (45, memoH M45), (83, memoH M83), (71, memoH M71), (98, memoH M98), (78, memoH M78), (79, memoH M79), (129, memoH M129), (154, memoH M154), (101, memoH M101), (208, memoH M208), (226, memoH M226)] : List Sum), SumOk Tryz.prog (gmap gs) s := (sums_cons s14 (sums_cons s27 (sums_cons s44 (sums_cons s45 (sums_cons s83 (sums_cons s71 (sums_cons s98 (sums_cons s78 (sums_cons s79 (sums_cons s129 (sums_cons s154 (sums_cons s101 (sums_cons s208 (sums_cons s226 sums_nil))))))))))))))
def A110_0 : List AV := [a0, a20, a8, a8]
def R110_0 : AV := .tup [a30, x 0]
theorem m110_0 (k : AV → Bool) : runF c110 200000 110 A110_0 k false = k R110_0 := by kernel_rfl
theorem q110_0 : ACalls Tryz.prog (gmap gs) 110 A110_0 (fun v => v = R110_0) := acalls_eq base l110 fun k hk => (m110_0 k).trans hk
def A110_1 : List AV := [a0, a20, a34, a8]
def R110_1 : AV := .tup [a29, x 2]
theorem m110_1 (k : AV → Bool) : runF c110 200000 110 A110_1 k false = k R110_1 := by kernel_rfl
theorem q110_1 : ACalls Tryz.prog (gmap gs) 110 A110_1 (fun v => v = R110_1) := acalls_eq base l110 fun k hk => (m110_1 k).trans hk
def A110_2 : List AV := [a0, a20, a34, a2]
def R110_2 : AV := .tup [a40, x 0]
theorem m110_2 (k : AV → Bool) : runF c110 200000 110 A110_2 k false = k R110_2 := by kernel_rfl
theorem q110_2 : ACalls Tryz.prog (gmap gs) 110 A110_2 (fun v => v = R110_2) := acalls_eq base l110 fun k hk => (m110_2 k).trans hk
def A110_3 : List AV := [a0, a20, a39, a2]
def R110_3 : AV := .tup [.agg [y 3, x 9, u 65537, u 36896, u 30064771073, u 8589934592, u 65538, u 1478688, u 30064771073, u 8589934592], x 0]
theorem m110_3 (k : AV → Bool) : runF c110 200000 110 A110_3 k false = k R110_3 := by kernel_rfl
theorem q110_3 : ACalls Tryz.prog (gmap gs) 110 A110_3 (fun v => v = R110_3) := acalls_eq base l110 fun k hk => (m110_3 k).trans hk
def A110_4 : List AV := [a0, a20, a39, a8]
def R110_4 : AV := .tup [a52, x 0]
theorem m110_4 (k : AV → Bool) : runF c110 200000 110 A110_4 k false = k R110_4 := by kernel_rfl
theorem q110_4 : ACalls Tryz.prog (gmap gs) 110 A110_4 (fun v => v = R110_4) := acalls_eq base l110 fun k hk => (m110_4 k).trans hk
def A110_5 : List AV := [a0, a20, a51, a8]
def R110_5 : AV := .tup [a63, x 0]
theorem m110_5 (k : AV → Bool) : runF c110 200000 110 A110_5 k false = k R110_5 := by kernel_rfl
theorem q110_5 : ACalls Tryz.prog (gmap gs) 110 A110_5 (fun v => v = R110_5) := acalls_eq base l110 fun k hk => (m110_5 k).trans hk
def A110_6 : List AV := [a0, a20, a62, a8]
def R110_6 : AV := .tup [a75, x 0]
theorem m110_6 (k : AV → Bool) : runF c110 200000 110 A110_6 k false = k R110_6 := by kernel_rfl
theorem q110_6 : ACalls Tryz.prog (gmap gs) 110 A110_6 (fun v => v = R110_6) := acalls_eq base l110 fun k hk => (m110_6 k).trans hk
def A110_7 : List AV := [a0, a115, a8, a8]
def R110_7 : AV := .tup [a123, x 0]
theorem m110_7 (k : AV → Bool) : runF c110 200000 110 A110_7 k false = k R110_7 := by kernel_rfl
theorem q110_7 : ACalls Tryz.prog (gmap gs) 110 A110_7 (fun v => v = R110_7) := acalls_eq base l110 fun k hk => (m110_7 k).trans hk
def A110_8 : List AV := [a0, a115, a34, a8]
def R110_8 : AV := .tup [a29, x 2]
theorem m110_8 (k : AV → Bool) : runF c110 200000 110 A110_8 k false = k R110_8 := by kernel_rfl
theorem q110_8 : ACalls Tryz.prog (gmap gs) 110 A110_8 (fun v => v = R110_8) := acalls_eq base l110 fun k hk => (m110_8 k).trans hk
def A110_9 : List AV := [a0, a115, a34, a2]
def R110_9 : AV := .tup [a128, x 0]
theorem m110_9 (k : AV → Bool) : runF c110 200000 110 A110_9 k false = k R110_9 := by kernel_rfl
theorem q110_9 : ACalls Tryz.prog (gmap gs) 110 A110_9 (fun v => v = R110_9) := acalls_eq base l110 fun k hk => (m110_9 k).trans hk
def A110_10 : List AV := [a0, a115, a39, a2]
def R110_10 : AV := .tup [.agg [y 3, x 7, u 65537, u 36896, u 30064771073, u 8589934592, u 65538, u 1478688, u 30064771073, u 8589934592], x 0]
theorem m110_10 (k : AV → Bool) : runF c110 200000 110 A110_10 k false = k R110_10 := by kernel_rfl
theorem q110_10 : ACalls Tryz.prog (gmap gs) 110 A110_10 (fun v => v = R110_10) := acalls_eq base l110 fun k hk => (m110_10 k).trans hk
def A110_11 : List AV := [a0, a115, a39, a8]
def R110_11 : AV := .tup [a135, x 0]
theorem m110_11 (k : AV → Bool) : runF c110 200000 110 A110_11 k false = k R110_11 := by kernel_rfl
theorem q110_11 : ACalls Tryz.prog (gmap gs) 110 A110_11 (fun v => v = R110_11) := acalls_eq base l110 fun k hk => (m110_11 k).trans hk
def A110_12 : List AV := [a0, a115, a51, a8]
def R110_12 : AV := .tup [a142, x 0]
theorem m110_12 (k : AV → Bool) : runF c110 200000 110 A110_12 k false = k R110_12 := by kernel_rfl
theorem q110_12 : ACalls Tryz.prog (gmap gs) 110 A110_12 (fun v => v = R110_12) := acalls_eq base l110 fun k hk => (m110_12 k).trans hk
def A110_13 : List AV := [a0, a115, a62, a8]
def R110_13 : AV := .tup [a149, x 0]
theorem m110_13 (k : AV → Bool) : runF c110 200000 110 A110_13 k false = k R110_13 := by kernel_rfl
theorem q110_13 : ACalls Tryz.prog (gmap gs) 110 A110_13 (fun v => v = R110_13) := acalls_eq base l110 fun k hk => (m110_13 k).trans hk
def M110 : List (Nat × List AV × AV) := [(1077358411490427545, A110_0, R110_0), (1079161478168806041, A110_1, R110_1), (1079161478169090716, A110_2, R110_2), (794934602224359575, A110_3, R110_3), (794934602224074900, A110_4, R110_4), (624054908277516957, A110_5, R110_5), (625101877732415356, A110_6, R110_6), (1081456552925331550, A110_7, R110_7), (1083259619603710046, A110_8, R110_8), (1083259619603994721, A110_9, R110_9), (799032743659263580, A110_10, R110_10), (799032743658978905, A110_11, R110_11), (628153049712420962, A110_12, R110_12), (629200019167319361, A110_13, R110_13)]
theorem s110 : SumOk Tryz.prog (gmap gs) (110, memoH M110) := memoH_sum (memoH_cons q110_0 (memoH_cons q110_1 (memoH_cons q110_2 (memoH_cons q110_3 (memoH_cons q110_4 (memoH_cons q110_5 (memoH_cons q110_6 (memoH_cons q110_7 (memoH_cons q110_8 (memoH_cons q110_9 (memoH_cons q110_10 (memoH_cons q110_11 (memoH_cons q110_12 (memoH_cons q110_13 memoH_nil))))))))))))))
noncomputable abbrev c111 : Cfg := ⟨Tryz.prog, gmap gs, lookS [(14, memoH M14), (122, memoH M122), (94, memoH M94)], fun _ => false, fun _ => none⟩
theorem l111 : ∀ s ∈ ([(14, memoH M14), (122, memoH M122), (94, memoH M94)] : List Sum), SumOk Tryz.prog (gmap gs) s := (sums_cons s14 (sums_cons s122 (sums_cons s94 sums_nil)))
def A111_0 : List AV := [a0, a20]
def R111_0 : AV := .tup [a82, x 0]
theorem m111_0 (k : AV → Bool) : runF c111 200000 111 A111_0 k false = k R111_0 := by kernel_rfl
theorem q111_0 : ACalls Tryz.prog (gmap gs) 111 A111_0 (fun v => v = R111_0) := acalls_eq base l111 fun k hk => (m111_0 k).trans hk
def A111_1 : List AV := [a0, a82]
def R111_1 : AV := .tup [a90, x 0]
theorem m111_1 (k : AV → Bool) : runF c111 200000 111 A111_1 k false = k R111_1 := by kernel_rfl
theorem q111_1 : ACalls Tryz.prog (gmap gs) 111 A111_1 (fun v => v = R111_1) := acalls_eq base l111 fun k hk => (m111_1 k).trans hk
def A111_2 : List AV := [a0, a90]
def R111_2 : AV := .tup [a99, x 0]
theorem m111_2 (k : AV → Bool) : runF c111 200000 111 A111_2 k false = k R111_2 := by kernel_rfl
theorem q111_2 : ACalls Tryz.prog (gmap gs) 111 A111_2 (fun v => v = R111_2) := acalls_eq base l111 fun k hk => (m111_2 k).trans hk
def A111_3 : List AV := [a0, a99]
def R111_3 : AV := .tup [a106, x 0]
theorem m111_3 (k : AV → Bool) : runF c111 200000 111 A111_3 k false = k R111_3 := by kernel_rfl
theorem q111_3 : ACalls Tryz.prog (gmap gs) 111 A111_3 (fun v => v = R111_3) := acalls_eq base l111 fun k hk => (m111_3 k).trans hk
def A111_4 : List AV := [a0, a106]
def R111_4 : AV := .tup [a115, x 0]
theorem m111_4 (k : AV → Bool) : runF c111 200000 111 A111_4 k false = k R111_4 := by kernel_rfl
theorem q111_4 : ACalls Tryz.prog (gmap gs) 111 A111_4 (fun v => v = R111_4) := acalls_eq base l111 fun k hk => (m111_4 k).trans hk
def A111_5 : List AV := [a0, a115]
def R111_5 : AV := .tup [a154, x 0]
theorem m111_5 (k : AV → Bool) : runF c111 200000 111 A111_5 k false = k R111_5 := by kernel_rfl
theorem q111_5 : ACalls Tryz.prog (gmap gs) 111 A111_5 (fun v => v = R111_5) := acalls_eq base l111 fun k hk => (m111_5 k).trans hk
def M111 : List (Nat × List AV × AV) := [(758402636004962200, A111_0, R111_0), (758402636004963161, A111_1, R111_1), (758402636004964122, A111_2, R111_2), (758402636004965083, A111_3, R111_3), (758402636004966044, A111_4, R111_4), (758402636004967005, A111_5, R111_5)]
theorem s111 : SumOk Tryz.prog (gmap gs) (111, memoH M111) := memoH_sum (memoH_cons q111_0 (memoH_cons q111_1 (memoH_cons q111_2 (memoH_cons q111_3 (memoH_cons q111_4 (memoH_cons q111_5 memoH_nil))))))
noncomputable abbrev c114 : Cfg := ⟨Tryz.prog, gmap gs, lookS [(14, memoH M14), (27, memoH M27)], fun _ => false, fun _ => none⟩
theorem l114 : ∀ s ∈ ([(14, memoH M14), (27, memoH M27)] : List Sum), SumOk Tryz.prog (gmap gs) s := (sums_cons s14 (sums_cons s27 sums_nil))
def A114_0 : List AV := [a0, x 1, a96]
def R114_0 : AV := .tup [a97, x 0]
theorem m114_0 (k : AV → Bool) : runF c114 200000 114 A114_0 k false = k R114_0 := by kernel_rfl
theorem q114_0 : ACalls Tryz.prog (gmap gs) 114 A114_0 (fun v => v = R114_0) := acalls_eq base l114 fun k hk => (m114_0 k).trans hk
def A114_1 : List AV := [a0, x 0, a112]
def R114_1 : AV := .tup [a113, x 0]
theorem m114_1 (k : AV → Bool) : runF c114 200000 114 A114_1 k false = k R114_1 := by kernel_rfl
theorem q114_1 : ACalls Tryz.prog (gmap gs) 114 A114_1 (fun v => v = R114_1) := acalls_eq base l114 fun k hk => (m114_1 k).trans hk
def M114 : List (Nat × List AV × AV) := [(758402636067944187, A114_0, R114_0), (758402636067916318, A114_1, R114_1)]
theorem s114 : SumOk Tryz.prog (gmap gs) (114, memoH M114) := memoH_sum (memoH_cons q114_0 (memoH_cons q114_1 memoH_nil))
noncomputable abbrev c132 : Cfg := ⟨Tryz.prog, gmap gs, lookS [(14, memoH M14)], fun _ => false, fun _ => none⟩
def A132_0 : List AV := [a0]
def R132_0 : AV := .tup [x 1, x 0]
theorem m132_0 (k : AV → Bool) : runF c132 200000 132 A132_0 k false = k R132_0 := by kernel_rfl
theorem q132_0 : ACalls Tryz.prog (gmap gs) 132 A132_0 (fun v => v = R132_0) := acalls_eq base (sums_cons s14 sums_nil) fun k hk => (m132_0 k).trans hk
def M132 : List (Nat × List AV × AV) := [(261679962693091325, A132_0, R132_0)]
theorem s132 : SumOk Tryz.prog (gmap gs) (132, memoH M132) := memoH_sum (memoH_cons q132_0 memoH_nil)
noncomputable abbrev c135 : Cfg := ⟨Tryz.prog, gmap gs, lookS [(14, memoH M14), (94, memoH M94)], fun _ => false, fun _ => none⟩
theorem l135 : ∀ s ∈ ([(14, memoH M14), (94, memoH M94)] : List Sum), SumOk Tryz.prog (gmap gs) s := (sums_cons s14 (sums_cons s94 sums_nil))
def A135_0 : List AV := [a0, a20]
def R135_0 : AV := .tup [a21, x 0]
theorem m135_0 (k : AV → Bool) : runF c135 200000 135 A135_0 k false = k R135_0 := by kernel_rfl
theorem q135_0 : ACalls Tryz.prog (gmap gs) 135 A135_0 (fun v => v = R135_0) := acalls_eq base l135 fun k hk => (m135_0 k).trans hk
def A135_1 : List AV := [a0, a82]
def R135_1 : AV := .tup [a83, x 0]
theorem m135_1 (k : AV → Bool) : runF c135 200000 135 A135_1 k false = k R135_1 := by kernel_rfl
theorem q135_1 : ACalls Tryz.prog (gmap gs) 135 A135_1 (fun v => v = R135_1) := acalls_eq base l135 fun k hk => (m135_1 k).trans hk
def A135_2 : List AV := [a0, a90]
def R135_2 : AV := .tup [a91, x 0]
theorem m135_2 (k : AV → Bool) : runF c135 200000 135 A135_2 k false = k R135_2 := by kernel_rfl
theorem q135_2 : ACalls Tryz.prog (gmap gs) 135 A135_2 (fun v => v = R135_2) := acalls_eq base l135 fun k hk => (m135_2 k).trans hk
def A135_3 : List AV := [a0, a99]
def R135_3 : AV := .tup [a74, x 0]
theorem m135_3 (k : AV → Bool) : runF c135 200000 135 A135_3 k false = k R135_3 := by kernel_rfl
theorem q135_3 : ACalls Tryz.prog (gmap gs) 135 A135_3 (fun v => v = R135_3) := acalls_eq base l135 fun k hk => (m135_3 k).trans hk
def A135_4 : List AV := [a0, a106]
def R135_4 : AV := .tup [a107, x 0]
theorem m135_4 (k : AV → Bool) : runF c135 200000 135 A135_4 k false = k R135_4 := by kernel_rfl
theorem q135_4 : ACalls Tryz.prog (gmap gs) 135 A135_4 (fun v => v = R135_4) := acalls_eq base l135 fun k hk => (m135_4 k).trans hk
def A135_5 : List AV := [a0, a115]
def R135_5 : AV := .tup [a116, x 0]
theorem m135_5 (k : AV → Bool) : runF c135 200000 135 A135_5 k false = k R135_5 := by kernel_rfl
theorem q135_5 : ACalls Tryz.prog (gmap gs) 135 A135_5 (fun v => v = R135_5) := acalls_eq base l135 fun k hk => (m135_5 k).trans hk
def A135_6 : List AV := [a0, a154]
def R135_6 : AV := .tup [a155, x 0]
theorem m135_6 (k : AV → Bool) : runF c135 200000 135 A135_6 k false = k R135_6 := by kernel_rfl
theorem q135_6 : ACalls Tryz.prog (gmap gs) 135 A135_6 (fun v => v = R135_6) := acalls_eq base l135 fun k hk => (m135_6 k).trans hk
def M135 : List (Nat × List AV × AV) := [(758402636004962200, A135_0, R135_0), (758402636004963161, A135_1, R135_1), (758402636004964122, A135_2, R135_2), (758402636004965083, A135_3, R135_3), (758402636004966044, A135_4, R135_4), (758402636004967005, A135_5, R135_5), (758402636004967966, A135_6, R135_6)]
theorem s135 : SumOk Tryz.prog (gmap gs) (135, memoH M135) := memoH_sum (memoH_cons q135_0 (memoH_cons q135_1 (memoH_cons q135_2 (memoH_cons q135_3 (memoH_cons q135_4 (memoH_cons q135_5 (memoH_cons q135_6 memoH_nil)))))))
noncomputable abbrev c74 : Cfg := ⟨Tryz.prog, gmap gs, lookS [(14, memoH M14), (27, memoH M27), (70, memoH M70), (77, memoH M77), (107, memoH M107), (129, memoH M129), (108, memoH M108), (109, memoH M109), (110, memoH M110), (111, memoH M111), (114, memoH M114), (132, memoH M132), (135, memoH M135)], fun _ => false, fun _ => none⟩
theorem l74 : ∀ s ∈ ([(14, memoH M14), (27, memoH M27), (70, memoH M70), (77, memoH M77), (107, memoH M107), (129, memoH M129), (108, memoH M108), (109, memoH M109), (110, memoH M110), (111, memoH M111), (114, memoH M114), (132, memoH M132), (135, memoH M135)] : List Sum), SumOk Tryz.prog (gmap gs) s := (sums_cons s14 (sums_cons s27 (sums_cons s70 (sums_cons s77 (sums_cons s107 (sums_cons s129 (sums_cons s108 (sums_cons s109 (sums_cons s110 (sums_cons s111 (sums_cons s114 (sums_cons s132 (sums_cons s135 sums_nil)))))))))))))
def A74_0 : List AV := [a0, x 0, a4]
def R74_0 : AV := .tup [a3, x 0]
theorem m74_0 (k : AV → Bool) : runF c74 200000 74 A74_0 k false = k R74_0 := by kernel_rfl
theorem q74_0 : ACalls Tryz.prog (gmap gs) 74 A74_0 (fun v => v = R74_0) := acalls_eq base l74 fun k hk => (m74_0 k).trans hk
def A74_1 : List AV := [a0, x 0, .agg [y 2, u 1, y 9, w 1, w 7, w 2, .bool false, x 0, w 0, .nils, u 0, u 0, u 0, u 0, u 0, u 0, u 0, u 0, u 0, u 0, u 0, u 0, u 0, .nils, u 0, x 0, u 0]]
def R74_1 : AV := .tup [a10, x 0]
theorem m74_1 (k : AV → Bool) : runF c74 200000 74 A74_1 k false = k R74_1 := by kernel_rfl
theorem q74_1 : ACalls Tryz.prog (gmap gs) 74 A74_1 (fun v => v = R74_1) := acalls_eq base l74 fun k hk => (m74_1 k).trans hk
def A74_2 : List AV := [a0, x 0, .agg [y 3, u 1, y 9, w 1, w 7, w 2, .bool false, x 0, w 0, .nils, u 0, u 0, u 0, u 0, u 0, u 0, u 0, u 0, u 0, u 0, u 0, u 0, u 0, .nils, u 0, x 0, u 0]]
def R74_2 : AV := .tup [a13, x 0]
theorem m74_2 (k : AV → Bool) : runF c74 200000 74 A74_2 k false = k R74_2 := by kernel_rfl
theorem q74_2 : ACalls Tryz.prog (gmap gs) 74 A74_2 (fun v => v = R74_2) := acalls_eq base l74 fun k hk => (m74_2 k).trans hk
def A74_3 : List AV := [a0, x 0, .agg [y 4, u 1, y 9, w 1, w 7, w 2, .bool false, x 0, w 0, .nils, u 0, u 7, u 0, u 0, u 0, u 0, u 0, u 0, u 0, u 0, u 0, u 0, u 0, .nils, u 0, x 0, u 0]]
def R74_3 : AV := .tup [a17, x 0]
theorem m74_3 (k : AV → Bool) : runF c74 200000 74 A74_3 k false = k R74_3 := by kernel_rfl
theorem q74_3 : ACalls Tryz.prog (gmap gs) 74 A74_3 (fun v => v = R74_3) := acalls_eq base l74 fun k hk => (m74_3 k).trans hk
def A74_4 : List AV := [a0, x 0, .agg [y 5, u 1, y 9, w 1, w 7, w 2, .bool false, x 0, w 0, .nils, u 0, u 7, u 0, u 0, u 0, u 0, u 0, u 0, u 0, u 1, u 265, u 7, u 2, .nils, u 0, x 0, u 0]]
def R74_4 : AV := .tup [a10, x 0]
theorem m74_4 (k : AV → Bool) : runF c74 200000 74 A74_4 k false = k R74_4 := by kernel_rfl
theorem q74_4 : ACalls Tryz.prog (gmap gs) 74 A74_4 (fun v => v = R74_4) := acalls_eq base l74 fun k hk => (m74_4 k).trans hk
def A74_5 : List AV := [a0, x 0, .agg [y 6, u 1, y 9, w 1, w 7, w 2, .bool false, x 0, w 0, .nils, u 0, u 7, u 0, u 0, u 0, u 0, u 0, u 0, u 0, u 1, u 265, u 7, u 2, .lst [.bool true] 1, u 0, x 0, u 0]]
def R74_5 : AV := .tup [a22, x 0]
theorem m74_5 (k : AV → Bool) : runF c74 200000 74 A74_5 k false = k R74_5 := by kernel_rfl
theorem q74_5 : ACalls Tryz.prog (gmap gs) 74 A74_5 (fun v => v = R74_5) := acalls_eq base l74 fun k hk => (m74_5 k).trans hk
def A74_6 : List AV := [a0, x 0, .agg [y 2, u 1, y 9, w 1, w 7, w 2, .bool false, x 0, w 0, .nils, u 0, u 7, u 0, u 0, u 0, u 0, u 0, u 0, u 0, u 1, u 265, u 7, u 2, .lst [.bool true] 1, u 0, x 0, u 0]]
def R74_6 : AV := .tup [a10, x 0]
theorem m74_6 (k : AV → Bool) : runF c74 200000 74 A74_6 k false = k R74_6 := by kernel_rfl
theorem q74_6 : ACalls Tryz.prog (gmap gs) 74 A74_6 (fun v => v = R74_6) := acalls_eq base l74 fun k hk => (m74_6 k).trans hk
def A74_7 : List AV := [a0, x 0, .agg [y 3, u 1, y 9, w 1, w 7, w 2, .bool false, x 0, w 0, .nils, u 0, u 7, u 0, u 0, u 0, u 0, u 0, u 0, u 0, u 1, u 265, u 7, u 2, .lst [.bool true] 1, u 0, x 0, u 0]]
def R74_7 : AV := .tup [a13, x 0]
theorem m74_7 (k : AV → Bool) : runF c74 200000 74 A74_7 k false = k R74_7 := by kernel_rfl
theorem q74_7 : ACalls Tryz.prog (gmap gs) 74 A74_7 (fun v => v = R74_7) := acalls_eq base l74 fun k hk => (m74_7 k).trans hk
def A74_8 : List AV := [a0, x 0, .agg [y 7, u 1, y 9, w 1, w 7, w 2, .bool false, x 0, w 0, .nils, u 0, u 65537, u 1, u 0, u 0, u 0, u 0, u 0, u 0, u 1, u 265, u 7, u 2, .lst [.bool true] 1, u 0, x 0, u 0]]
def R74_8 : AV := .tup [a26, x 0]
theorem m74_8 (k : AV → Bool) : runF c74 200000 74 A74_8 k false = k R74_8 := by kernel_rfl
theorem q74_8 : ACalls Tryz.prog (gmap gs) 74 A74_8 (fun v => v = R74_8) := acalls_eq base l74 fun k hk => (m74_8 k).trans hk
def A74_9 : List AV := [a0, x 0, .agg [y 10, u 1, y 9, w 1, w 7, w 2, .bool false, x 0, w 0, .nils, u 0, u 65537, u 1, u 0, u 0, u 0, u 0, u 0, u 0, u 0, u 0, u 0, u 0, .lst [.bool true] 1, u 0, x 0, u 0]]
def R74_9 : AV := .tup [a30, x 0]
theorem m74_9 (k : AV → Bool) : runF c74 200000 74 A74_9 k false = k R74_9 := by kernel_rfl
theorem q74_9 : ACalls Tryz.prog (gmap gs) 74 A74_9 (fun v => v = R74_9) := acalls_eq base l74 fun k hk => (m74_9 k).trans hk
def A74_10 : List AV := [a0, x 0, .agg [y 2, u 1, y 9, w 1, w 7, w 2, .bool false, x 0, w 0, .nils, u 0, u 65537, u 1, u 0, u 0, u 0, u 0, u 0, u 0, u 0, u 0, u 0, u 0, .lst [.bool true] 1, u 0, x 0, u 0]]
def R74_10 : AV := .tup [a10, x 0]
theorem m74_10 (k : AV → Bool) : runF c74 200000 74 A74_10 k false = k R74_10 := by kernel_rfl
theorem q74_10 : ACalls Tryz.prog (gmap gs) 74 A74_10 (fun v => v = R74_10) := acalls_eq base l74 fun k hk => (m74_10 k).trans hk
def A74_11 : List AV := [a0, x 0, .agg [y 3, u 1, y 9, w 1, w 7, w 2, .bool false, x 0, w 0, .nils, u 0, u 65537, u 1, u 0, u 0, u 0, u 0, u 0, u 0, u 0, u 0, u 0, u 0, .lst [.bool true] 1, u 0, x 0, u 0]]
def R74_11 : AV := .tup [a13, x 0]
theorem m74_11 (k : AV → Bool) : runF c74 200000 74 A74_11 k false = k R74_11 := by kernel_rfl
theorem q74_11 : ACalls Tryz.prog (gmap gs) 74 A74_11 (fun v => v = R74_11) := acalls_eq base l74 fun k hk => (m74_11 k).trans hk
def A74_12 : List AV := [a0, x 0, .agg [y 7, u 1, y 9, w 1, w 7, w 2, .bool false, x 0, w 0, .nils, u 0, u 65537, u 1, u 0, u 0, u 0, u 0, u 0, u 0, u 0, u 0, u 0, u 0, .lst [.bool true] 1, u 0, x 0, u 0]]
def R74_12 : AV := .tup [a26, x 0]
theorem m74_12 (k : AV → Bool) : runF c74 200000 74 A74_12 k false = k R74_12 := by kernel_rfl
theorem q74_12 : ACalls Tryz.prog (gmap gs) 74 A74_12 (fun v => v = R74_12) := acalls_eq base l74 fun k hk => (m74_12 k).trans hk
def A74_13 : List AV := [a0, x 0, .agg [y 8, u 1, y 9, w 1, w 7, w 2, .bool false, x 0, w 0, .nils, u 0, u 65537, u 1, u 0, u 0, u 65536, u 0, u 0, u 0, u 0, u 0, u 0, u 0, .lst [.bool true] 1, u 0, x 0, u 0]]
def R74_13 : AV := .tup [a17, x 0]
theorem m74_13 (k : AV → Bool) : runF c74 200000 74 A74_13 k false = k R74_13 := by kernel_rfl
theorem q74_13 : ACalls Tryz.prog (gmap gs) 74 A74_13 (fun v => v = R74_13) := acalls_eq base l74 fun k hk => (m74_13 k).trans hk
def A74_14 : List AV := [a0, x 0, .agg [y 10, u 1, y 9, w 1, w 7, w 2, .bool false, x 0, w 0, .nils, u 0, u 65537, u 1, u 0, u 0, u 65536, u 0, u 0, u 0, u 1, u 265, u 7, u 2, .lst [.bool true] 1, u 0, x 0, u 0]]
def R74_14 : AV := .tup [a40, x 0]
theorem m74_14 (k : AV → Bool) : runF c74 200000 74 A74_14 k false = k R74_14 := by kernel_rfl
theorem q74_14 : ACalls Tryz.prog (gmap gs) 74 A74_14 (fun v => v = R74_14) := acalls_eq base l74 fun k hk => (m74_14 k).trans hk
def A74_15 : List AV := [a0, x 0, .agg [y 2, u 1, y 9, w 1, w 7, w 2, .bool false, x 0, w 0, .nils, u 0, u 65537, u 1, u 0, u 0, u 65536, u 0, u 0, u 0, u 1, u 265, u 7, u 2, .lst [.bool true] 1, u 0, x 0, u 0]]
def R74_15 : AV := .tup [a10, x 0]
theorem m74_15 (k : AV → Bool) : runF c74 200000 74 A74_15 k false = k R74_15 := by kernel_rfl
theorem q74_15 : ACalls Tryz.prog (gmap gs) 74 A74_15 (fun v => v = R74_15) := acalls_eq base l74 fun k hk => (m74_15 k).trans hk
def A74_16 : List AV := [a0, x 0, .agg [y 3, u 1, y 9, w 1, w 7, w 2, .bool false, x 0, w 0, .nils, u 0, u 65537, u 1, u 0, u 0, u 65536, u 0, u 0, u 0, u 1, u 265, u 7, u 2, .lst [.bool true] 1, u 0, x 0, u 0]]
def R74_16 : AV := .tup [a13, x 0]
theorem m74_16 (k : AV → Bool) : runF c74 200000 74 A74_16 k false = k R74_16 := by kernel_rfl
theorem q74_16 : ACalls Tryz.prog (gmap gs) 74 A74_16 (fun v => v = R74_16) := acalls_eq base l74 fun k hk => (m74_16 k).trans hk
def A74_17 : List AV := [a0, x 0, .agg [y 7, u 1, y 9, w 1, w 7, w 2, .bool false, x 0, w 0, .nils, u 0, u 65537, u 1, u 0, u 0, u 65536, u 0, u 0, u 0, u 1, u 265, u 7, u 2, .lst [.bool true] 1, u 0, x 0, u 0]]
def R74_17 : AV := .tup [a26, x 0]
theorem m74_17 (k : AV → Bool) : runF c74 200000 74 A74_17 k false = k R74_17 := by kernel_rfl
theorem q74_17 : ACalls Tryz.prog (gmap gs) 74 A74_17 (fun v => v = R74_17) := acalls_eq base l74 fun k hk => (m74_17 k).trans hk
def A74_18 : List AV := [a0, x 0, .agg [y 8, u 1, y 9, w 1, w 7, w 2, .bool false, x 0, w 0, .nils, u 0, u 65537, u 1, u 0, u 0, u 65537, u 36896, u 30064771073, u 8589934592, u 1, u 265, u 7, u 2, .lst [.bool true] 1, u 0, x 0, u 0]]
def R74_18 : AV := .tup [a48, x 0]
theorem m74_18 (k : AV → Bool) : runF c74 200000 74 A74_18 k false = k R74_18 := by kernel_rfl
theorem q74_18 : ACalls Tryz.prog (gmap gs) 74 A74_18 (fun v => v = R74_18) := acalls_eq base l74 fun k hk => (m74_18 k).trans hk
def A74_19 : List AV := [a0, x 0, .agg [y 10, u 1, y 9, w 1, w 7, w 2, .bool false, x 0, w 0, .nils, u 0, u 65537, u 1, u 0, u 0, u 65537, u 36896, u 30064771073, u 8589934592, u 0, u 0, u 0, u 0, .lst [.bool true] 1, u 0, x 0, u 0]]
def R74_19 : AV := .tup [a52, x 0]
theorem m74_19 (k : AV → Bool) : runF c74 200000 74 A74_19 k false = k R74_19 := by kernel_rfl
theorem q74_19 : ACalls Tryz.prog (gmap gs) 74 A74_19 (fun v => v = R74_19) := acalls_eq base l74 fun k hk => (m74_19 k).trans hk
def A74_20 : List AV := [a0, x 0, .agg [y 2, u 1, y 9, w 1, w 7, w 2, .bool false, x 0, w 0, .nils, u 0, u 65537, u 1, u 0, u 0, u 65537, u 36896, u 30064771073, u 8589934592, u 0, u 0, u 0, u 0, .lst [.bool true] 1, u 0, x 0, u 0]]
def R74_20 : AV := .tup [a10, x 0]
theorem m74_20 (k : AV → Bool) : runF c74 200000 74 A74_20 k false = k R74_20 := by kernel_rfl
theorem q74_20 : ACalls Tryz.prog (gmap gs) 74 A74_20 (fun v => v = R74_20) := acalls_eq base l74 fun k hk => (m74_20 k).trans hk
def A74_21 : List AV := [a0, x 0, .agg [y 3, u 1, y 9, w 1, w 7, w 2, .bool false, x 0, w 0, .nils, u 0, u 65537, u 1, u 0, u 0, u 65537, u 36896, u 30064771073, u 8589934592, u 0, u 0, u 0, u 0, .lst [.bool true] 1, u 0, x 0, u 0]]
def R74_21 : AV := .tup [a13, x 0]
theorem m74_21 (k : AV → Bool) : runF c74 200000 74 A74_21 k false = k R74_21 := by kernel_rfl
theorem q74_21 : ACalls Tryz.prog (gmap gs) 74 A74_21 (fun v => v = R74_21) := acalls_eq base l74 fun k hk => (m74_21 k).trans hk
def A74_22 : List AV := [a0, x 0, .agg [y 7, u 1, y 9, w 1, w 7, w 2, .bool false, x 0, w 0, .nils, u 0, u 65537, u 1, u 0, u 0, u 65537, u 36896, u 30064771073, u 8589934592, u 0, u 0, u 0, u 0, .lst [.bool true] 1, u 0, x 0, u 0]]
def R74_22 : AV := .tup [a26, x 0]
theorem m74_22 (k : AV → Bool) : runF c74 200000 74 A74_22 k false = k R74_22 := by kernel_rfl
theorem q74_22 : ACalls Tryz.prog (gmap gs) 74 A74_22 (fun v => v = R74_22) := acalls_eq base l74 fun k hk => (m74_22 k).trans hk
def A74_23 : List AV := [a0, x 0, .agg [y 8, u 1, y 9, w 1, w 7, w 2, .bool false, x 0, w 0, .nils, u 0, u 65537, u 1, u 0, u 0, u 65538, u 140737488523296, u 30064771073, u 8589934592, u 0, u 0, u 0, u 0, .lst [.bool true] 1, u 0, x 0, u 0]]
def R74_23 : AV := .tup [a48, x 0]
theorem m74_23 (k : AV → Bool) : runF c74 200000 74 A74_23 k false = k R74_23 := by kernel_rfl
theorem q74_23 : ACalls Tryz.prog (gmap gs) 74 A74_23 (fun v => v = R74_23) := acalls_eq base l74 fun k hk => (m74_23 k).trans hk
def A74_24 : List AV := [a0, x 0, .agg [y 9, u 1, y 9, w 1, w 7, w 2, .bool false, x 0, w 0, .nils, u 0, u 65537, u 1, u 0, u 0, u 65538, u 140737488523296, u 30064771073, u 8589934592, u 0, u 0, u 0, u 0, .lst [.bool true] 1, u 0, x 0, u 0]]
def R74_24 : AV := .tup [a59, x 0]
theorem m74_24 (k : AV → Bool) : runF c74 200000 74 A74_24 k false = k R74_24 := by kernel_rfl
theorem q74_24 : ACalls Tryz.prog (gmap gs) 74 A74_24 (fun v => v = R74_24) := acalls_eq base l74 fun k hk => (m74_24 k).trans hk
def A74_25 : List AV := [a0, x 0, .agg [y 10, u 1, y 9, w 1, w 7, w 2, .bool false, x 0, w 0, .nils, u 0, u 65537, u 1, u 0, u 0, u 65538, u 140737488523296, u 30064771073, u 8589934592, u 0, u 0, u 0, u 0, .lst [.bool true] 1, u 0, x 0, u 0]]
def R74_25 : AV := .tup [a63, x 0]
theorem m74_25 (k : AV → Bool) : runF c74 200000 74 A74_25 k false = k R74_25 := by kernel_rfl
theorem q74_25 : ACalls Tryz.prog (gmap gs) 74 A74_25 (fun v => v = R74_25) := acalls_eq base l74 fun k hk => (m74_25 k).trans hk
def A74_26 : List AV := [a0, x 0, .agg [y 2, u 1, y 9, w 1, w 7, w 2, .bool false, x 0, w 0, .nils, u 0, u 65537, u 1, u 0, u 0, u 65538, u 140737488523296, u 30064771073, u 8589934592, u 0, u 0, u 0, u 0, .lst [.bool true] 1, u 0, x 0, u 0]]
def R74_26 : AV := .tup [a10, x 0]
theorem m74_26 (k : AV → Bool) : runF c74 200000 74 A74_26 k false = k R74_26 := by kernel_rfl
theorem q74_26 : ACalls Tryz.prog (gmap gs) 74 A74_26 (fun v => v = R74_26) := acalls_eq base l74 fun k hk => (m74_26 k).trans hk
def A74_27 : List AV := [a0, x 0, .agg [y 3, u 1, y 9, w 1, w 7, w 2, .bool false, x 0, w 0, .nils, u 0, u 65537, u 1, u 0, u 0, u 65538, u 140737488523296, u 30064771073, u 8589934592, u 0, u 0, u 0, u 0, .lst [.bool true] 1, u 0, x 0, u 0]]
def R74_27 : AV := .tup [a13, x 0]
theorem m74_27 (k : AV → Bool) : runF c74 200000 74 A74_27 k false = k R74_27 := by kernel_rfl
theorem q74_27 : ACalls Tryz.prog (gmap gs) 74 A74_27 (fun v => v = R74_27) := acalls_eq base l74 fun k hk => (m74_27 k).trans hk
def A74_28 : List AV := [a0, x 0, .agg [y 7, u 1, y 9, w 1, w 7, w 2, .bool false, x 0, w 0, .nils, u 0, u 65537, u 1, u 0, u 0, u 65538, u 140737488523296, u 30064771073, u 8589934592, u 0, u 0, u 0, u 0, .lst [.bool true] 1, u 0, x 0, u 0]]
def R74_28 : AV := .tup [a26, x 0]
theorem m74_28 (k : AV → Bool) : runF c74 200000 74 A74_28 k false = k R74_28 := by kernel_rfl
theorem q74_28 : ACalls Tryz.prog (gmap gs) 74 A74_28 (fun v => v = R74_28) := acalls_eq base l74 fun k hk => (m74_28 k).trans hk
def A74_29 : List AV := [a0, x 0, .agg [y 8, u 1, y 9, w 1, w 7, w 2, .bool false, x 0, w 0, .nils, u 0, u 65537, u 1, u 0, u 0, u 65539, u 140737489702944, u 30064771073, u 8589934592, u 0, u 0, u 0, u 0, .lst [.bool true] 1, u 0, x 0, u 0]]
def R74_29 : AV := .tup [a10, x 0]
theorem m74_29 (k : AV → Bool) : runF c74 200000 74 A74_29 k false = k R74_29 := by kernel_rfl
theorem q74_29 : ACalls Tryz.prog (gmap gs) 74 A74_29 (fun v => v = R74_29) := acalls_eq base l74 fun k hk => (m74_29 k).trans hk
def A74_30 : List AV := [a0, x 0, .agg [y 9, u 1, y 9, w 1, w 7, w 2, .bool false, x 0, w 0, .nils, u 0, u 65537, u 1, u 0, u 0, u 65539, u 140737489702944, u 30064771073, u 8589934592, u 0, u 0, u 0, u 0, .lst [.bool true] 1, u 0, x 0, u 0]]
def R74_30 : AV := .tup [a72, x 0]
theorem m74_30 (k : AV → Bool) : runF c74 200000 74 A74_30 k false = k R74_30 := by kernel_rfl
theorem q74_30 : ACalls Tryz.prog (gmap gs) 74 A74_30 (fun v => v = R74_30) := acalls_eq base l74 fun k hk => (m74_30 k).trans hk
def A74_31 : List AV := [a0, x 0, .agg [y 10, u 1, y 9, w 1, w 7, w 2, .bool false, x 0, w 0, .nils, u 0, u 65537, u 1, u 0, u 0, u 65539, u 140737489702944, u 30064771073, u 8589934592, u 0, u 0, u 0, u 0, .lst [.bool true] 1, u 0, x 0, u 0]]
def R74_31 : AV := .tup [a75, x 0]
theorem m74_31 (k : AV → Bool) : runF c74 200000 74 A74_31 k false = k R74_31 := by kernel_rfl
theorem q74_31 : ACalls Tryz.prog (gmap gs) 74 A74_31 (fun v => v = R74_31) := acalls_eq base l74 fun k hk => (m74_31 k).trans hk
def A74_32 : List AV := [a0, x 0, .agg [y 2, u 1, y 9, w 1, w 7, w 2, .bool false, x 0, w 0, .nils, u 0, u 65537, u 1, u 0, u 0, u 65539, u 140737489702944, u 30064771073, u 8589934592, u 0, u 0, u 0, u 0, .lst [.bool true] 1, u 0, x 0, u 0]]
def R74_32 : AV := .tup [a10, x 0]
theorem m74_32 (k : AV → Bool) : runF c74 200000 74 A74_32 k false = k R74_32 := by kernel_rfl
theorem q74_32 : ACalls Tryz.prog (gmap gs) 74 A74_32 (fun v => v = R74_32) := acalls_eq base l74 fun k hk => (m74_32 k).trans hk
def A74_33 : List AV := [a0, x 0, .agg [y 3, u 1, y 9, w 1, w 7, w 2, .bool true, x 0, w 0, .nils, u 1, u 65537, u 1, u 0, u 0, u 65539, u 140737489702944, u 30064771073, u 8589934592, u 0, u 0, u 0, u 0, .lst [.bool true] 1, u 0, x 0, u 0]]
def R74_33 : AV := .tup [a13, x 0]
theorem m74_33 (k : AV → Bool) : runF c74 200000 74 A74_33 k false = k R74_33 := by kernel_rfl
theorem q74_33 : ACalls Tryz.prog (gmap gs) 74 A74_33 (fun v => v = R74_33) := acalls_eq base l74 fun k hk => (m74_33 k).trans hk
def A74_34 : List AV := [a0, x 0, .agg [y 7, u 1, y 9, w 1, w 7, w 2, .bool true, x 0, w 0, .nils, u 1, u 65537, u 1, u 0, u 0, u 65539, u 140737489702944, u 30064771073, u 8589934592, u 0, u 0, u 0, u 0, .lst [.bool true] 1, u 0, x 0, u 0]]
def R74_34 : AV := .tup [a26, x 0]
theorem m74_34 (k : AV → Bool) : runF c74 200000 74 A74_34 k false = k R74_34 := by kernel_rfl
theorem q74_34 : ACalls Tryz.prog (gmap gs) 74 A74_34 (fun v => v = R74_34) := acalls_eq base l74 fun k hk => (m74_34 k).trans hk
def A74_35 : List AV := [a0, x 0, .agg [y 11, u 1, y 9, w 1, w 7, w 2, .bool true, x 0, w 0, .nils, u 1, u 65537, u 1, u 0, u 0, u 65540, u 1, u 0, u 0, u 0, u 0, u 0, u 0, .lst [.bool true] 1, u 0, x 0, u 0]]
def R74_35 : AV := .tup [a84, x 0]
theorem m74_35 (k : AV → Bool) : runF c74 200000 74 A74_35 k false = k R74_35 := by kernel_rfl
theorem q74_35 : ACalls Tryz.prog (gmap gs) 74 A74_35 (fun v => v = R74_35) := acalls_eq base l74 fun k hk => (m74_35 k).trans hk
def A74_36 : List AV := [a0, x 0, .agg [y 2, u 1, y 9, w 1, w 7, w 2, .bool true, x 0, w 0, .nils, u 1, u 65537, u 1, u 0, u 0, u 65540, u 1, u 0, u 0, u 0, u 0, u 0, u 0, .lst [.bool true] 1, u 0, x 0, u 0]]
def R74_36 : AV := .tup [a10, x 0]
theorem m74_36 (k : AV → Bool) : runF c74 200000 74 A74_36 k false = k R74_36 := by kernel_rfl
theorem q74_36 : ACalls Tryz.prog (gmap gs) 74 A74_36 (fun v => v = R74_36) := acalls_eq base l74 fun k hk => (m74_36 k).trans hk
def A74_37 : List AV := [a0, x 0, .agg [y 3, u 1, y 9, w 1, w 7, w 2, .bool true, x 0, w 0, .nils, u 1, u 65537, u 1, u 0, u 0, u 65540, u 1, u 0, u 0, u 0, u 0, u 0, u 0, .lst [.bool true] 1, u 0, x 0, u 0]]
def R74_37 : AV := .tup [a13, x 0]
theorem m74_37 (k : AV → Bool) : runF c74 200000 74 A74_37 k false = k R74_37 := by kernel_rfl
theorem q74_37 : ACalls Tryz.prog (gmap gs) 74 A74_37 (fun v => v = R74_37) := acalls_eq base l74 fun k hk => (m74_37 k).trans hk
def A74_38 : List AV := [a0, x 0, .agg [y 12, u 1, y 9, w 1, w 7, w 2, .bool true, x 0, w 0, .nils, u 1, u 65538, u 1, u 0, u 0, u 65540, u 1, u 0, u 0, u 0, u 0, u 0, u 0, .lst [.bool true] 1, u 0, x 0, u 0]]
def R74_38 : AV := .tup [a88, x 0]
theorem m74_38 (k : AV → Bool) : runF c74 200000 74 A74_38 k false = k R74_38 := by kernel_rfl
theorem q74_38 : ACalls Tryz.prog (gmap gs) 74 A74_38 (fun v => v = R74_38) := acalls_eq base l74 fun k hk => (m74_38 k).trans hk
def A74_39 : List AV := [a0, x 0, .agg [y 11, u 1, y 9, w 1, w 7, w 2, .bool true, x 0, w 0, .nils, u 1, u 65538, u 1, u 0, u 0, u 65540, u 1, u 0, u 0, u 0, u 0, u 0, u 0, .lst [.bool true] 1, u 0, x 0, u 0]]
def R74_39 : AV := .tup [a92, x 0]
theorem m74_39 (k : AV → Bool) : runF c74 200000 74 A74_39 k false = k R74_39 := by kernel_rfl
theorem q74_39 : ACalls Tryz.prog (gmap gs) 74 A74_39 (fun v => v = R74_39) := acalls_eq base l74 fun k hk => (m74_39 k).trans hk
def A74_40 : List AV := [a0, x 0, .agg [y 2, u 1, y 9, w 1, w 7, w 2, .bool true, x 0, w 0, .nils, u 1, u 65538, u 1, u 0, u 0, u 65540, u 1, u 0, u 0, u 0, u 0, u 0, u 0, .lst [.bool true] 1, u 0, x 0, u 0]]
def R74_40 : AV := .tup [a10, x 0]
theorem m74_40 (k : AV → Bool) : runF c74 200000 74 A74_40 k false = k R74_40 := by kernel_rfl
theorem q74_40 : ACalls Tryz.prog (gmap gs) 74 A74_40 (fun v => v = R74_40) := acalls_eq base l74 fun k hk => (m74_40 k).trans hk
def A74_41 : List AV := [a0, x 0, .agg [y 3, u 1, y 9, w 1, w 7, w 2, .bool true, x 0, w 0, .nils, u 1, u 65538, u 1, u 0, u 0, u 65540, u 1, u 0, u 0, u 0, u 0, u 0, u 0, .lst [.bool true] 1, u 0, x 0, u 0]]
def R74_41 : AV := .tup [a13, x 0]
theorem m74_41 (k : AV → Bool) : runF c74 200000 74 A74_41 k false = k R74_41 := by kernel_rfl
theorem q74_41 : ACalls Tryz.prog (gmap gs) 74 A74_41 (fun v => v = R74_41) := acalls_eq base l74 fun k hk => (m74_41 k).trans hk
def A74_42 : List AV := [a0, x 0, .agg [y 14, u 1, y 9, w 1, w 7, w 2, .bool true, x 0, w 0, .nils, u 1, u 65539, u 1, u 0, u 0, u 65540, u 1, u 0, u 0, u 0, u 0, u 0, u 0, .lst [.bool true] 1, u 65539, x 0, u 0]]
def R74_42 : AV := .tup [a97, x 0]
theorem m74_42 (k : AV → Bool) : runF c74 200000 74 A74_42 k false = k R74_42 := by kernel_rfl
theorem q74_42 : ACalls Tryz.prog (gmap gs) 74 A74_42 (fun v => v = R74_42) := acalls_eq base l74 fun k hk => (m74_42 k).trans hk
def A74_43 : List AV := [a0, x 0, .agg [y 11, u 1, y 9, w 1, w 7, w 2, .bool true, x 0, w 0, .nils, u 1, u 65539, u 1, u 0, u 0, u 65540, u 1, u 0, u 0, u 0, u 0, u 0, u 0, .lst [.bool true] 1, u 65539, x 1, u 0]]
def R74_43 : AV := .tup [a100, x 0]
theorem m74_43 (k : AV → Bool) : runF c74 200000 74 A74_43 k false = k R74_43 := by kernel_rfl
theorem q74_43 : ACalls Tryz.prog (gmap gs) 74 A74_43 (fun v => v = R74_43) := acalls_eq base l74 fun k hk => (m74_43 k).trans hk
def A74_44 : List AV := [a0, x 0, .agg [y 2, u 1, y 9, w 1, w 7, w 2, .bool true, x 0, w 0, .nils, u 1, u 65539, u 1, u 0, u 0, u 65540, u 1, u 0, u 0, u 0, u 0, u 0, u 0, .lst [.bool true] 1, u 65539, x 1, u 0]]
def R74_44 : AV := .tup [a10, x 0]
theorem m74_44 (k : AV → Bool) : runF c74 200000 74 A74_44 k false = k R74_44 := by kernel_rfl
theorem q74_44 : ACalls Tryz.prog (gmap gs) 74 A74_44 (fun v => v = R74_44) := acalls_eq base l74 fun k hk => (m74_44 k).trans hk
def A74_45 : List AV := [a0, x 0, .agg [y 3, u 1, y 9, w 1, w 7, w 2, .bool true, x 0, w 0, .nils, u 1, u 65539, u 1, u 0, u 0, u 65540, u 1, u 0, u 0, u 0, u 0, u 0, u 0, .lst [.bool true] 1, u 65539, x 1, u 0]]
def R74_45 : AV := .tup [a13, x 0]
theorem m74_45 (k : AV → Bool) : runF c74 200000 74 A74_45 k false = k R74_45 := by kernel_rfl
theorem q74_45 : ACalls Tryz.prog (gmap gs) 74 A74_45 (fun v => v = R74_45) := acalls_eq base l74 fun k hk => (m74_45 k).trans hk
end Go.Proofs.YtfbmlbocgeabgabGreatDoor.ghostNames
