/- What the package-level variables hold. No conditions. -/
import Derived.Test.YtehfcbppcfpjoaaGreatDoorRows
import Derived.Test.YtehfcbppcfpjoaaGreatDoorCards
import Derived.Test.YtehfcbppcfpjoaaGreatDoorTie
import Derived.SevenTiedAt
import Derived.Test.YtehfcbppcfpjoaaGreatDoorBasNMm
namespace Go.Proofs.YtehfcbppcfpjoaaGreatDoor.aloneNames
open Go.ChangeShapes Go.WideShapes Go.ChangeAt Go.RowKit Go.Bas
set_option linter.unusedVariables false
theorem base : Base Tryz.prog := ⟨by kernel_rfl, by kernel_rfl⟩
def vals1 : List Value := [.int .i64 1, .int .i64 2, .int .i64 4, .int .i64 8, .int .i64 16, .int .i64 1, .int .i64 3, .int .i64 9, .int .i64 27, .int .i64 81, .int .i64 1, .int .i64 4, .int .i64 16, .int .i64 64, .int .i64 256]
def cells1 : List AV := [.int .i64 1, .int .i64 2, .int .i64 4, .int .i64 8, .int .i64 16, .int .i64 1, .int .i64 3, .int .i64 9, .int .i64 27, .int .i64 81, .int .i64 1, .int .i64 4, .int .i64 16, .int .i64 64, .int .i64 256]
def vals0 : List Value := [.int .u8 0, .int .u8 1, .int .u8 1, .int .u8 1, .int .u8 2, .int .u8 2, .int .u8 2, .int .u8 2, .int .u8 2, .int .u8 3, .int .u8 3, .int .u8 3, .int .u8 4, .int .u8 4, .int .u8 4]
def cells0 : List AV := [.int .u8 0, .int .u8 1, .int .u8 1, .int .u8 1, .int .u8 2, .int .u8 2, .int .u8 2, .int .u8 2, .int .u8 2, .int .u8 3, .int .u8 3, .int .u8 3, .int .u8 4, .int .u8 4, .int .u8 4]
def gs : List (Nat × List AV) := [(1, cells1), (0, cells0)]
def x (n : Int) : AV := .int .i64 n
def y (n : Int) : AV := .int .u8 n
def w (n : Int) : AV := .int .u32 n
def u (n : Int) : AV := .int .u64 n
end Go.Proofs.YtehfcbppcfpjoaaGreatDoor.aloneNames
