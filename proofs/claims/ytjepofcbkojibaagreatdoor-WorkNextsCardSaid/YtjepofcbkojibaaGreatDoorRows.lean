/-
  NARROWER THAN 'FOR EVERY INPUT', by the rows' own cells (each row's printed sentence says how): ReadBegins: laid · WorkNexts: laid · WorkMoves: laid · WriteBegins: laid · ThreadBegins: laid · ThreadRefuses: laid.
  DERIVED. THE GIVEN ROWS OF THIS SEAT. 6 by the template 'for every input the law returns true; each argument reads behind the call as it read before'; 0 by the template 'total and deterministic' (their statements: YtjepofcbkojibaaGreatDoorTotals.lean).
  GIVEN WITH THE SEED: the statements are not yours to turn. If you find one false, say at which input.
  Laid BY PROGRAM, IN A SANDBOX (cutbox-rows.mjs): the forced cells as the released guide's own fill.sh prints them over the translation df1577aaa4d5a76b… (all of the seat's roots in one cut). By AI agents, Wed Nov 11 2026. No macro, syntax, notation, axiom, sorry.
-/
import Derived.Test.YtjepofcbkojibaaGreatDoorChecked
import GoSem.Claim
import GoSem.ClaimJoined
import GoSem.ClaimMapViews
import Derived.JoinedTies
import Derived.KernelRfl
namespace Go.Proofs.YtjepofcbkojibaaGreatDoor
/- THE CELL 'sum', in the pinned program and in every row, IS THE sha256 OF THE DUMP (.gsa) THAT YtjepofcbkojibaaGreatDoorProg.lean LOADS. Nothing in Lean hashes anything: it is a label: what it is worth is what the hold of that sum in a sandbox is worth. -/
noncomputable def Tryz.pinned : Pinned := { name := "ytjepofcbkojibaagreatdoor", sum := "df1577aaa4d5a76bba41859ec036b1a0ef7f17739e8cbfcd0b5abb5223aee71c", checked := Tryz.checked }
namespace Rows
def none {H : Type} : Left H := { results := [], args := [] }

/- WHAT THE LISTED PACKAGE-LEVEL VARIABLES READ AS WHEN THE CALL BEGINS. Each datum BY PROGRAM (the guide's laid-datum.mjs) off the statement by which the dump's own 'gosem.cut.vars' lays the variable. In a bare row this is a premise. The card (YtjepofcbkojibaaGreatDoorCards.lean) ties it to the program's text. -/
def laid_bascule_rank_powers {H : Type} : DataW H := .agg [.agg [.lit (.int .i64 1), .lit (.int .i64 2), .lit (.int .i64 4), .lit (.int .i64 8), .lit (.int .i64 16)], .agg [.lit (.int .i64 1), .lit (.int .i64 3), .lit (.int .i64 9), .lit (.int .i64 27), .lit (.int .i64 81)], .agg [.lit (.int .i64 1), .lit (.int .i64 4), .lit (.int .i64 16), .lit (.int .i64 64), .lit (.int .i64 256)]]
def laid_bascule_op_objects {H : Type} : DataW H := .agg [.lit (.int .u8 0), .lit (.int .u8 1), .lit (.int .u8 1), .lit (.int .u8 1), .lit (.int .u8 2), .lit (.int .u8 2), .lit (.int .u8 2), .lit (.int .u8 2), .lit (.int .u8 2), .lit (.int .u8 3), .lit (.int .u8 3), .lit (.int .u8 3), .lit (.int .u8 4), .lit (.int .u8 4), .lit (.int .u8 4)]
def laid_bascule_op_writers {H : Type} : DataW H := .agg [.lit (.bool false), .lit (.bool true), .lit (.bool true), .lit (.bool false), .lit (.bool true), .lit (.bool true), .lit (.bool false), .lit (.bool false), .lit (.bool false), .lit (.bool true), .lit (.bool true), .lit (.bool false), .lit (.bool true), .lit (.bool true), .lit (.bool false)]
def laid_math_bits_deBruijn64tab {H : Type} : DataW H := .agg [.lit (.int .u8 0), .lit (.int .u8 1), .lit (.int .u8 56), .lit (.int .u8 2), .lit (.int .u8 57), .lit (.int .u8 49), .lit (.int .u8 28), .lit (.int .u8 3), .lit (.int .u8 61), .lit (.int .u8 58), .lit (.int .u8 42), .lit (.int .u8 50), .lit (.int .u8 38), .lit (.int .u8 29), .lit (.int .u8 17), .lit (.int .u8 4), .lit (.int .u8 62), .lit (.int .u8 47), .lit (.int .u8 59), .lit (.int .u8 36), .lit (.int .u8 45), .lit (.int .u8 43), .lit (.int .u8 51), .lit (.int .u8 22), .lit (.int .u8 53), .lit (.int .u8 39), .lit (.int .u8 33), .lit (.int .u8 30), .lit (.int .u8 24), .lit (.int .u8 18), .lit (.int .u8 12), .lit (.int .u8 5), .lit (.int .u8 63), .lit (.int .u8 55), .lit (.int .u8 48), .lit (.int .u8 27), .lit (.int .u8 60), .lit (.int .u8 41), .lit (.int .u8 37), .lit (.int .u8 16), .lit (.int .u8 46), .lit (.int .u8 35), .lit (.int .u8 44), .lit (.int .u8 21), .lit (.int .u8 52), .lit (.int .u8 32), .lit (.int .u8 23), .lit (.int .u8 11), .lit (.int .u8 54), .lit (.int .u8 26), .lit (.int .u8 40), .lit (.int .u8 15), .lit (.int .u8 34), .lit (.int .u8 20), .lit (.int .u8 31), .lit (.int .u8 10), .lit (.int .u8 25), .lit (.int .u8 14), .lit (.int .u8 19), .lit (.int .u8 9), .lit (.int .u8 13), .lit (.int .u8 8), .lit (.int .u8 7), .lit (.int .u8 6)]

/-- 'basculelaw26.ReadBegins': WHATEVER THE INPUT: true; the input reads as it did. -/
def readBeginsSpec : ChangeSpec := { name := "readBegins", fn := fun _ => fun
  | [d1, d2, d3, d4] => { results := [.lit (.bool true)], args := [d1, d2, d3, d4] }
  | _ => none }
def readBeginsRow : OpenClaim := { program := "ytjepofcbkojibaagreatdoor", sum := "df1577aaa4d5a76bba41859ec036b1a0ef7f17739e8cbfcd0b5abb5223aee71c", func := "bascule/basculelaw26.ReadBegins", spec := "readBegins", unfollowed := true, recurses := true, named := ["bascule/op.objects", "bascule/op.writers", "bascule/rank.powers"], apart := false, laid := [("bascule/rank.powers", laid_bascule_rank_powers), ("bascule/op.objects", laid_bascule_op_objects), ("bascule/op.writers", laid_bascule_op_writers)] }
def ReadBeginsSaid : Prop := readBeginsRow.holds Tryz.pinned (OpenSpec.ofChange readBeginsSpec)

/-- ITS FALSE NEIGHBOUR: 'it returns false'. Refute it at one input. -/
def readBeginsWrong : ChangeSpec := { name := "readBegins", fn := fun _ => fun
  | [d1, d2, d3, d4] => { results := [.lit (.bool false)], args := [d1, d2, d3, d4] }
  | _ => none }
def ReadBeginsWrongFalsely : Prop := readBeginsRow.holds Tryz.pinned (OpenSpec.ofChange readBeginsWrong)

/-- 'basculelaw25.WorkNexts': WHATEVER THE INPUT: true; the input reads as it did. -/
def workNextsSpec : ChangeSpec := { name := "workNexts", fn := fun _ => fun
  | [d1, d2, d3] => { results := [.lit (.bool true)], args := [d1, d2, d3] }
  | _ => none }
def workNextsRow : OpenClaim := { program := "ytjepofcbkojibaagreatdoor", sum := "df1577aaa4d5a76bba41859ec036b1a0ef7f17739e8cbfcd0b5abb5223aee71c", func := "bascule/basculelaw25.WorkNexts", spec := "workNexts", unfollowed := true, recurses := true, named := ["bascule/rank.powers", "math/bits.deBruijn64tab", "bascule/op.writers", "bascule/op.objects"], apart := false, laid := [("math/bits.deBruijn64tab", laid_math_bits_deBruijn64tab), ("bascule/rank.powers", laid_bascule_rank_powers), ("bascule/op.objects", laid_bascule_op_objects), ("bascule/op.writers", laid_bascule_op_writers)] }
def WorkNextsSaid : Prop := workNextsRow.holds Tryz.pinned (OpenSpec.ofChange workNextsSpec)

/-- ITS FALSE NEIGHBOUR: 'it returns false'. Refute it at one input. -/
def workNextsWrong : ChangeSpec := { name := "workNexts", fn := fun _ => fun
  | [d1, d2, d3] => { results := [.lit (.bool false)], args := [d1, d2, d3] }
  | _ => none }
def WorkNextsWrongFalsely : Prop := workNextsRow.holds Tryz.pinned (OpenSpec.ofChange workNextsWrong)

/-- 'basculelaw25.WorkMoves': WHATEVER THE INPUT: true; the input reads as it did. -/
def workMovesSpec : ChangeSpec := { name := "workMoves", fn := fun _ => fun
  | [d1, d2, d3, d4] => { results := [.lit (.bool true)], args := [d1, d2, d3, d4] }
  | _ => none }
def workMovesRow : OpenClaim := { program := "ytjepofcbkojibaagreatdoor", sum := "df1577aaa4d5a76bba41859ec036b1a0ef7f17739e8cbfcd0b5abb5223aee71c", func := "bascule/basculelaw25.WorkMoves", spec := "workMoves", unfollowed := true, recurses := true, named := ["bascule/rank.powers", "math/bits.deBruijn64tab", "bascule/op.writers", "bascule/op.objects"], apart := false, laid := [("math/bits.deBruijn64tab", laid_math_bits_deBruijn64tab), ("bascule/rank.powers", laid_bascule_rank_powers), ("bascule/op.objects", laid_bascule_op_objects), ("bascule/op.writers", laid_bascule_op_writers)] }
def WorkMovesSaid : Prop := workMovesRow.holds Tryz.pinned (OpenSpec.ofChange workMovesSpec)

/-- ITS FALSE NEIGHBOUR: 'it returns false'. Refute it at one input. -/
def workMovesWrong : ChangeSpec := { name := "workMoves", fn := fun _ => fun
  | [d1, d2, d3, d4] => { results := [.lit (.bool false)], args := [d1, d2, d3, d4] }
  | _ => none }
def WorkMovesWrongFalsely : Prop := workMovesRow.holds Tryz.pinned (OpenSpec.ofChange workMovesWrong)

/-- 'basculelaw27.WriteBegins': WHATEVER THE INPUT: true; the input reads as it did. -/
def writeBeginsSpec : ChangeSpec := { name := "writeBegins", fn := fun _ => fun
  | [d1, d2, d3, d4, d5] => { results := [.lit (.bool true)], args := [d1, d2, d3, d4, d5] }
  | _ => none }
def writeBeginsRow : OpenClaim := { program := "ytjepofcbkojibaagreatdoor", sum := "df1577aaa4d5a76bba41859ec036b1a0ef7f17739e8cbfcd0b5abb5223aee71c", func := "bascule/basculelaw27.WriteBegins", spec := "writeBegins", unfollowed := true, recurses := true, named := ["bascule/rank.powers", "bascule/op.objects", "bascule/op.writers", "math/bits.deBruijn64tab"], apart := false, laid := [("math/bits.deBruijn64tab", laid_math_bits_deBruijn64tab), ("bascule/rank.powers", laid_bascule_rank_powers), ("bascule/op.objects", laid_bascule_op_objects), ("bascule/op.writers", laid_bascule_op_writers)] }
def WriteBeginsSaid : Prop := writeBeginsRow.holds Tryz.pinned (OpenSpec.ofChange writeBeginsSpec)

/-- ITS FALSE NEIGHBOUR: 'it returns false'. Refute it at one input. -/
def writeBeginsWrong : ChangeSpec := { name := "writeBegins", fn := fun _ => fun
  | [d1, d2, d3, d4, d5] => { results := [.lit (.bool false)], args := [d1, d2, d3, d4, d5] }
  | _ => none }
def WriteBeginsWrongFalsely : Prop := writeBeginsRow.holds Tryz.pinned (OpenSpec.ofChange writeBeginsWrong)

/-- 'basculelaw28.ThreadBegins': WHATEVER THE INPUT: true; the input reads as it did. -/
def threadBeginsSpec : ChangeSpec := { name := "threadBegins", fn := fun _ => fun
  | [d1, d2, d3, d4] => { results := [.lit (.bool true)], args := [d1, d2, d3, d4] }
  | _ => none }
def threadBeginsRow : OpenClaim := { program := "ytjepofcbkojibaagreatdoor", sum := "df1577aaa4d5a76bba41859ec036b1a0ef7f17739e8cbfcd0b5abb5223aee71c", func := "bascule/basculelaw28.ThreadBegins", spec := "threadBegins", unfollowed := true, recurses := true, named := ["bascule/op.objects", "bascule/rank.powers", "bascule/op.writers", "math/bits.deBruijn64tab"], apart := false, laid := [("math/bits.deBruijn64tab", laid_math_bits_deBruijn64tab), ("bascule/rank.powers", laid_bascule_rank_powers), ("bascule/op.objects", laid_bascule_op_objects), ("bascule/op.writers", laid_bascule_op_writers)] }
def ThreadBeginsSaid : Prop := threadBeginsRow.holds Tryz.pinned (OpenSpec.ofChange threadBeginsSpec)

/-- ITS FALSE NEIGHBOUR: 'it returns false'. Refute it at one input. -/
def threadBeginsWrong : ChangeSpec := { name := "threadBegins", fn := fun _ => fun
  | [d1, d2, d3, d4] => { results := [.lit (.bool false)], args := [d1, d2, d3, d4] }
  | _ => none }
def ThreadBeginsWrongFalsely : Prop := threadBeginsRow.holds Tryz.pinned (OpenSpec.ofChange threadBeginsWrong)

/-- 'basculelaw28.ThreadRefuses': WHATEVER THE INPUT: true; the input reads as it did. -/
def threadRefusesSpec : ChangeSpec := { name := "threadRefuses", fn := fun _ => fun
  | [d1, d2, d3, d4] => { results := [.lit (.bool true)], args := [d1, d2, d3, d4] }
  | _ => none }
def threadRefusesRow : OpenClaim := { program := "ytjepofcbkojibaagreatdoor", sum := "df1577aaa4d5a76bba41859ec036b1a0ef7f17739e8cbfcd0b5abb5223aee71c", func := "bascule/basculelaw28.ThreadRefuses", spec := "threadRefuses", unfollowed := true, recurses := true, named := ["bascule/rank.powers", "bascule/op.objects", "bascule/op.writers", "math/bits.deBruijn64tab"], apart := false, laid := [("math/bits.deBruijn64tab", laid_math_bits_deBruijn64tab), ("bascule/rank.powers", laid_bascule_rank_powers), ("bascule/op.objects", laid_bascule_op_objects), ("bascule/op.writers", laid_bascule_op_writers)] }
def ThreadRefusesSaid : Prop := threadRefusesRow.holds Tryz.pinned (OpenSpec.ofChange threadRefusesSpec)

/-- ITS FALSE NEIGHBOUR: 'it returns false'. Refute it at one input. -/
def threadRefusesWrong : ChangeSpec := { name := "threadRefuses", fn := fun _ => fun
  | [d1, d2, d3, d4] => { results := [.lit (.bool false)], args := [d1, d2, d3, d4] }
  | _ => none }
def ThreadRefusesWrongFalsely : Prop := threadRefusesRow.holds Tryz.pinned (OpenSpec.ofChange threadRefusesWrong)

/- THE SECOND FORM. 'bulk': how many values and letters a reading holds, each counted each time it is reached (what is shared counts as often as it is met; a slice's spare places count too). A statement '..UptoSaid' is the law's where the arguments, and the package variables that the reading takes, are together of bulk at most 1048576: NARROWER than '..Said'. Prove '..Said' where nothing that the law and all that it calls make is longer than what came in: it says more and counts as full. Else prove '..UptoSaid'. A law counts once. -/
mutual
def uptoBulk {H : Type} : DataW H → Nat
  | .lit (.string bytes) => bytes.length + 1
  | .lit _ => 1
  | .nil => 1
  | .ptr d => uptoBulk d + 1
  | .slice elems spare => uptoBulkAll elems + uptoBulkAll spare + 1
  | .agg parts => uptoBulkAll parts + 1
  | .iface _ d => uptoBulk d + 1
  | .map entries => uptoBulkEntries entries + 1
  | .held _ => 1
def uptoBulkAll {H : Type} : List (DataW H) → Nat
  | [] => 0
  | d :: r => uptoBulk d + uptoBulkAll r
def uptoBulkEntries {H : Type} : List (Lit × DataW H) → Nat
  | [] => 0
  | x :: r => uptoBulkEntry x + uptoBulkEntries r
def uptoBulkEntry {H : Type} : Lit × DataW H → Nat
  | (.string bytes, d) => bytes.length + uptoBulk d + 1
  | (_, d) => uptoBulk d + 1
 end
def uptoSmall : (H : Type) → List (DataW H) → Bool := fun _ ds => decide (uptoBulkAll ds ≤ 1048576)
def OpenSpec.upto (s : _root_.Go.ChangeSpec) : _root_.Go.OpenSpec := { _root_.Go.OpenSpec.ofChange s with cond := some uptoSmall }

/-- 'basculelaw26.ReadBegins', WHERE WHAT IT READS IS OF BULK AT MOST 1048576: true; the input reads as it did. -/
def readBeginsUptoRow : OpenClaim := { program := "ytjepofcbkojibaagreatdoor", sum := "df1577aaa4d5a76bba41859ec036b1a0ef7f17739e8cbfcd0b5abb5223aee71c", func := "bascule/basculelaw26.ReadBegins", spec := "readBegins", unfollowed := true, recurses := true, named := ["bascule/op.objects", "bascule/op.writers", "bascule/rank.powers"], apart := false, laid := [("bascule/rank.powers", laid_bascule_rank_powers), ("bascule/op.objects", laid_bascule_op_objects), ("bascule/op.writers", laid_bascule_op_writers)], narrowed := true }
def ReadBeginsUptoSaid : Prop := readBeginsUptoRow.holds Tryz.pinned (OpenSpec.upto readBeginsSpec)

/-- 'basculelaw25.WorkNexts', WHERE WHAT IT READS IS OF BULK AT MOST 1048576: true; the input reads as it did. -/
def workNextsUptoRow : OpenClaim := { program := "ytjepofcbkojibaagreatdoor", sum := "df1577aaa4d5a76bba41859ec036b1a0ef7f17739e8cbfcd0b5abb5223aee71c", func := "bascule/basculelaw25.WorkNexts", spec := "workNexts", unfollowed := true, recurses := true, named := ["bascule/rank.powers", "math/bits.deBruijn64tab", "bascule/op.writers", "bascule/op.objects"], apart := false, laid := [("math/bits.deBruijn64tab", laid_math_bits_deBruijn64tab), ("bascule/rank.powers", laid_bascule_rank_powers), ("bascule/op.objects", laid_bascule_op_objects), ("bascule/op.writers", laid_bascule_op_writers)], narrowed := true }
def WorkNextsUptoSaid : Prop := workNextsUptoRow.holds Tryz.pinned (OpenSpec.upto workNextsSpec)

/-- 'basculelaw25.WorkMoves', WHERE WHAT IT READS IS OF BULK AT MOST 1048576: true; the input reads as it did. -/
def workMovesUptoRow : OpenClaim := { program := "ytjepofcbkojibaagreatdoor", sum := "df1577aaa4d5a76bba41859ec036b1a0ef7f17739e8cbfcd0b5abb5223aee71c", func := "bascule/basculelaw25.WorkMoves", spec := "workMoves", unfollowed := true, recurses := true, named := ["bascule/rank.powers", "math/bits.deBruijn64tab", "bascule/op.writers", "bascule/op.objects"], apart := false, laid := [("math/bits.deBruijn64tab", laid_math_bits_deBruijn64tab), ("bascule/rank.powers", laid_bascule_rank_powers), ("bascule/op.objects", laid_bascule_op_objects), ("bascule/op.writers", laid_bascule_op_writers)], narrowed := true }
def WorkMovesUptoSaid : Prop := workMovesUptoRow.holds Tryz.pinned (OpenSpec.upto workMovesSpec)

/-- 'basculelaw27.WriteBegins', WHERE WHAT IT READS IS OF BULK AT MOST 1048576: true; the input reads as it did. -/
def writeBeginsUptoRow : OpenClaim := { program := "ytjepofcbkojibaagreatdoor", sum := "df1577aaa4d5a76bba41859ec036b1a0ef7f17739e8cbfcd0b5abb5223aee71c", func := "bascule/basculelaw27.WriteBegins", spec := "writeBegins", unfollowed := true, recurses := true, named := ["bascule/rank.powers", "bascule/op.objects", "bascule/op.writers", "math/bits.deBruijn64tab"], apart := false, laid := [("math/bits.deBruijn64tab", laid_math_bits_deBruijn64tab), ("bascule/rank.powers", laid_bascule_rank_powers), ("bascule/op.objects", laid_bascule_op_objects), ("bascule/op.writers", laid_bascule_op_writers)], narrowed := true }
def WriteBeginsUptoSaid : Prop := writeBeginsUptoRow.holds Tryz.pinned (OpenSpec.upto writeBeginsSpec)

/-- 'basculelaw28.ThreadBegins', WHERE WHAT IT READS IS OF BULK AT MOST 1048576: true; the input reads as it did. -/
def threadBeginsUptoRow : OpenClaim := { program := "ytjepofcbkojibaagreatdoor", sum := "df1577aaa4d5a76bba41859ec036b1a0ef7f17739e8cbfcd0b5abb5223aee71c", func := "bascule/basculelaw28.ThreadBegins", spec := "threadBegins", unfollowed := true, recurses := true, named := ["bascule/op.objects", "bascule/rank.powers", "bascule/op.writers", "math/bits.deBruijn64tab"], apart := false, laid := [("math/bits.deBruijn64tab", laid_math_bits_deBruijn64tab), ("bascule/rank.powers", laid_bascule_rank_powers), ("bascule/op.objects", laid_bascule_op_objects), ("bascule/op.writers", laid_bascule_op_writers)], narrowed := true }
def ThreadBeginsUptoSaid : Prop := threadBeginsUptoRow.holds Tryz.pinned (OpenSpec.upto threadBeginsSpec)

/-- 'basculelaw28.ThreadRefuses', WHERE WHAT IT READS IS OF BULK AT MOST 1048576: true; the input reads as it did. -/
def threadRefusesUptoRow : OpenClaim := { program := "ytjepofcbkojibaagreatdoor", sum := "df1577aaa4d5a76bba41859ec036b1a0ef7f17739e8cbfcd0b5abb5223aee71c", func := "bascule/basculelaw28.ThreadRefuses", spec := "threadRefuses", unfollowed := true, recurses := true, named := ["bascule/rank.powers", "bascule/op.objects", "bascule/op.writers", "math/bits.deBruijn64tab"], apart := false, laid := [("math/bits.deBruijn64tab", laid_math_bits_deBruijn64tab), ("bascule/rank.powers", laid_bascule_rank_powers), ("bascule/op.objects", laid_bascule_op_objects), ("bascule/op.writers", laid_bascule_op_writers)], narrowed := true }
def ThreadRefusesUptoSaid : Prop := threadRefusesUptoRow.holds Tryz.pinned (OpenSpec.upto threadRefusesSpec)

end Rows
end Go.Proofs.YtjepofcbkojibaaGreatDoor
