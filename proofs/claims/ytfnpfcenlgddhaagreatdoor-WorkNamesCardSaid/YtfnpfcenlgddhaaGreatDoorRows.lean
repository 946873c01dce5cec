/-
  NARROWER THAN 'FOR EVERY INPUT', by the rows' own cells (each row's printed sentence says how): ReadBegins: laid · ReadNames: laid · WorkNexts: laid · WorkMoves: laid · WorkNames: laid · WorkRises: laid · ReadEnds: laid.
  DERIVED. THE GIVEN ROWS OF THIS SEAT. 7 by the template 'for every input the law returns true; each argument reads behind the call as it read before'; 0 by the template 'total and deterministic' (their statements: YtfnpfcenlgddhaaGreatDoorTotals.lean).
  GIVEN WITH THE SEED: the statements are not yours to turn. If you find one false, say at which input.
  Laid BY PROGRAM, IN A SANDBOX (cutbox-rows.mjs): the forced cells as the released guide's own fill.sh prints them over the translation 0416eaed5cae1544… (all of the seat's roots in one cut). By AI agents, Wed Nov 11 2026. No macro, syntax, notation, axiom, sorry.
-/
import Derived.Test.YtfnpfcenlgddhaaGreatDoorChecked
import GoSem.Claim
import GoSem.ClaimJoined
import GoSem.ClaimMapViews
import Derived.JoinedTies
import Derived.KernelRfl
namespace Go.Proofs.YtfnpfcenlgddhaaGreatDoor
/- THE CELL 'sum', in the pinned program and in every row, IS THE sha256 OF THE DUMP (.gsa) THAT YtfnpfcenlgddhaaGreatDoorProg.lean LOADS. Nothing in Lean hashes anything: it is a label: what it is worth is what the hold of that sum in a sandbox is worth. -/
noncomputable def Tryz.pinned : Pinned := { name := "ytfnpfcenlgddhaagreatdoor", sum := "0416eaed5cae154496f286970a52aa625f1f74d408c503e70ea1bb1fd695d9b0", checked := Tryz.checked }
namespace Rows
def none {H : Type} : Left H := { results := [], args := [] }

/- WHAT THE LISTED PACKAGE-LEVEL VARIABLES READ AS WHEN THE CALL BEGINS. Each datum BY PROGRAM (the guide's laid-datum.mjs) off the statement by which the dump's own 'gosem.cut.vars' lays the variable. In a bare row this is a premise. The card (YtfnpfcenlgddhaaGreatDoorCards.lean) ties it to the program's text. -/
def laid_bascule_rank_powers {H : Type} : DataW H := .agg [.agg [.lit (.int .i64 1), .lit (.int .i64 2), .lit (.int .i64 4), .lit (.int .i64 8), .lit (.int .i64 16)], .agg [.lit (.int .i64 1), .lit (.int .i64 3), .lit (.int .i64 9), .lit (.int .i64 27), .lit (.int .i64 81)], .agg [.lit (.int .i64 1), .lit (.int .i64 4), .lit (.int .i64 16), .lit (.int .i64 64), .lit (.int .i64 256)]]
def laid_bascule_op_objects {H : Type} : DataW H := .agg [.lit (.int .u8 0), .lit (.int .u8 1), .lit (.int .u8 1), .lit (.int .u8 1), .lit (.int .u8 2), .lit (.int .u8 2), .lit (.int .u8 2), .lit (.int .u8 2), .lit (.int .u8 2), .lit (.int .u8 3), .lit (.int .u8 3), .lit (.int .u8 3), .lit (.int .u8 4), .lit (.int .u8 4), .lit (.int .u8 4)]
def laid_bascule_op_writers {H : Type} : DataW H := .agg [.lit (.bool false), .lit (.bool true), .lit (.bool true), .lit (.bool false), .lit (.bool true), .lit (.bool true), .lit (.bool false), .lit (.bool false), .lit (.bool false), .lit (.bool true), .lit (.bool true), .lit (.bool false), .lit (.bool true), .lit (.bool true), .lit (.bool false)]
def laid_math_bits_deBruijn64tab {H : Type} : DataW H := .agg [.lit (.int .u8 0), .lit (.int .u8 1), .lit (.int .u8 56), .lit (.int .u8 2), .lit (.int .u8 57), .lit (.int .u8 49), .lit (.int .u8 28), .lit (.int .u8 3), .lit (.int .u8 61), .lit (.int .u8 58), .lit (.int .u8 42), .lit (.int .u8 50), .lit (.int .u8 38), .lit (.int .u8 29), .lit (.int .u8 17), .lit (.int .u8 4), .lit (.int .u8 62), .lit (.int .u8 47), .lit (.int .u8 59), .lit (.int .u8 36), .lit (.int .u8 45), .lit (.int .u8 43), .lit (.int .u8 51), .lit (.int .u8 22), .lit (.int .u8 53), .lit (.int .u8 39), .lit (.int .u8 33), .lit (.int .u8 30), .lit (.int .u8 24), .lit (.int .u8 18), .lit (.int .u8 12), .lit (.int .u8 5), .lit (.int .u8 63), .lit (.int .u8 55), .lit (.int .u8 48), .lit (.int .u8 27), .lit (.int .u8 60), .lit (.int .u8 41), .lit (.int .u8 37), .lit (.int .u8 16), .lit (.int .u8 46), .lit (.int .u8 35), .lit (.int .u8 44), .lit (.int .u8 21), .lit (.int .u8 52), .lit (.int .u8 32), .lit (.int .u8 23), .lit (.int .u8 11), .lit (.int .u8 54), .lit (.int .u8 26), .lit (.int .u8 40), .lit (.int .u8 15), .lit (.int .u8 34), .lit (.int .u8 20), .lit (.int .u8 31), .lit (.int .u8 10), .lit (.int .u8 25), .lit (.int .u8 14), .lit (.int .u8 19), .lit (.int .u8 9), .lit (.int .u8 13), .lit (.int .u8 8), .lit (.int .u8 7), .lit (.int .u8 6)]

/-- 'basculelaw26.ReadBegins': WHATEVER THE INPUT: true; the input reads as it did. -/
def readBeginsSpec : ChangeSpec := { name := "readBegins", fn := fun _ => fun
  | [d1, d2, d3, d4] => { results := [.lit (.bool true)], args := [d1, d2, d3, d4] }
  | _ => none }
def readBeginsRow : OpenClaim := { program := "ytfnpfcenlgddhaagreatdoor", sum := "0416eaed5cae154496f286970a52aa625f1f74d408c503e70ea1bb1fd695d9b0", func := "bascule/basculelaw26.ReadBegins", spec := "readBegins", unfollowed := true, recurses := true, named := ["bascule/op.objects", "bascule/op.writers", "bascule/rank.powers"], apart := false, laid := [("bascule/rank.powers", laid_bascule_rank_powers), ("bascule/op.objects", laid_bascule_op_objects), ("bascule/op.writers", laid_bascule_op_writers)] }
def ReadBeginsSaid : Prop := readBeginsRow.holds Tryz.pinned (OpenSpec.ofChange readBeginsSpec)

/-- ITS FALSE NEIGHBOUR: 'it returns false'. Refute it at one input. -/
def readBeginsWrong : ChangeSpec := { name := "readBegins", fn := fun _ => fun
  | [d1, d2, d3, d4] => { results := [.lit (.bool false)], args := [d1, d2, d3, d4] }
  | _ => none }
def ReadBeginsWrongFalsely : Prop := readBeginsRow.holds Tryz.pinned (OpenSpec.ofChange readBeginsWrong)

/-- 'basculelaw26.ReadNames': WHATEVER THE INPUT: true; the input reads as it did. -/
def readNamesSpec : ChangeSpec := { name := "readNames", fn := fun _ => fun
  | [] => { results := [.lit (.bool true)], args := [] }
  | _ => none }
def readNamesRow : OpenClaim := { program := "ytfnpfcenlgddhaagreatdoor", sum := "0416eaed5cae154496f286970a52aa625f1f74d408c503e70ea1bb1fd695d9b0", func := "bascule/basculelaw26.ReadNames", spec := "readNames", unfollowed := true, recurses := true, named := ["bascule/op.objects", "bascule/op.writers", "bascule/rank.powers"], apart := false, laid := [("bascule/rank.powers", laid_bascule_rank_powers), ("bascule/op.objects", laid_bascule_op_objects), ("bascule/op.writers", laid_bascule_op_writers)] }
def ReadNamesSaid : Prop := readNamesRow.holds Tryz.pinned (OpenSpec.ofChange readNamesSpec)

/-- ITS FALSE NEIGHBOUR: 'it returns false'. Refute it at one input. -/
def readNamesWrong : ChangeSpec := { name := "readNames", fn := fun _ => fun
  | [] => { results := [.lit (.bool false)], args := [] }
  | _ => none }
def ReadNamesWrongFalsely : Prop := readNamesRow.holds Tryz.pinned (OpenSpec.ofChange readNamesWrong)

/-- 'basculelaw25.WorkNexts': WHATEVER THE INPUT: true; the input reads as it did. -/
def workNextsSpec : ChangeSpec := { name := "workNexts", fn := fun _ => fun
  | [d1, d2, d3] => { results := [.lit (.bool true)], args := [d1, d2, d3] }
  | _ => none }
def workNextsRow : OpenClaim := { program := "ytfnpfcenlgddhaagreatdoor", sum := "0416eaed5cae154496f286970a52aa625f1f74d408c503e70ea1bb1fd695d9b0", func := "bascule/basculelaw25.WorkNexts", spec := "workNexts", unfollowed := true, recurses := true, named := ["bascule/rank.powers", "math/bits.deBruijn64tab", "bascule/op.writers", "bascule/op.objects"], apart := false, laid := [("math/bits.deBruijn64tab", laid_math_bits_deBruijn64tab), ("bascule/rank.powers", laid_bascule_rank_powers), ("bascule/op.objects", laid_bascule_op_objects), ("bascule/op.writers", laid_bascule_op_writers)] }
def WorkNextsSaid : Prop := workNextsRow.holds Tryz.pinned (OpenSpec.ofChange workNextsSpec)

/-- ITS FALSE NEIGHBOUR: 'it returns false'. Refute it at one input. -/
def workNextsWrong : ChangeSpec := { name := "workNexts", fn := fun _ => fun
  | [d1, d2, d3] => { results := [.lit (.bool false)], args := [d1, d2, d3] }
  | _ => none }
def WorkNextsWrongFalsely : Prop := workNextsRow.holds Tryz.pinned (OpenSpec.ofChange workNextsWrong)

/-- 'basculelaw25.WorkMoves': WHATEVER THE INPUT: true; the input reads as it did. -/
def workMovesSpec : ChangeSpec := { name := "workMoves", fn := fun _ => fun
  | [d1, d2, d3, d4] => { results := [.lit (.bool true)], args := [d1, d2, d3, d4] }
  | _ => none }
def workMovesRow : OpenClaim := { program := "ytfnpfcenlgddhaagreatdoor", sum := "0416eaed5cae154496f286970a52aa625f1f74d408c503e70ea1bb1fd695d9b0", func := "bascule/basculelaw25.WorkMoves", spec := "workMoves", unfollowed := true, recurses := true, named := ["bascule/rank.powers", "math/bits.deBruijn64tab", "bascule/op.writers", "bascule/op.objects"], apart := false, laid := [("math/bits.deBruijn64tab", laid_math_bits_deBruijn64tab), ("bascule/rank.powers", laid_bascule_rank_powers), ("bascule/op.objects", laid_bascule_op_objects), ("bascule/op.writers", laid_bascule_op_writers)] }
def WorkMovesSaid : Prop := workMovesRow.holds Tryz.pinned (OpenSpec.ofChange workMovesSpec)

/-- ITS FALSE NEIGHBOUR: 'it returns false'. Refute it at one input. -/
def workMovesWrong : ChangeSpec := { name := "workMoves", fn := fun _ => fun
  | [d1, d2, d3, d4] => { results := [.lit (.bool false)], args := [d1, d2, d3, d4] }
  | _ => none }
def WorkMovesWrongFalsely : Prop := workMovesRow.holds Tryz.pinned (OpenSpec.ofChange workMovesWrong)

/-- 'basculelaw25.WorkNames': WHATEVER THE INPUT: true; the input reads as it did. -/
def workNamesSpec : ChangeSpec := { name := "workNames", fn := fun _ => fun
  | [] => { results := [.lit (.bool true)], args := [] }
  | _ => none }
def workNamesRow : OpenClaim := { program := "ytfnpfcenlgddhaagreatdoor", sum := "0416eaed5cae154496f286970a52aa625f1f74d408c503e70ea1bb1fd695d9b0", func := "bascule/basculelaw25.WorkNames", spec := "workNames", unfollowed := true, recurses := true, named := ["bascule/rank.powers", "math/bits.deBruijn64tab", "bascule/op.writers", "bascule/op.objects"], apart := false, laid := [("math/bits.deBruijn64tab", laid_math_bits_deBruijn64tab), ("bascule/rank.powers", laid_bascule_rank_powers), ("bascule/op.objects", laid_bascule_op_objects), ("bascule/op.writers", laid_bascule_op_writers)] }
def WorkNamesSaid : Prop := workNamesRow.holds Tryz.pinned (OpenSpec.ofChange workNamesSpec)

/-- ITS FALSE NEIGHBOUR: 'it returns false'. Refute it at one input. -/
def workNamesWrong : ChangeSpec := { name := "workNames", fn := fun _ => fun
  | [] => { results := [.lit (.bool false)], args := [] }
  | _ => none }
def WorkNamesWrongFalsely : Prop := workNamesRow.holds Tryz.pinned (OpenSpec.ofChange workNamesWrong)

/-- 'basculelaw25.WorkRises': WHATEVER THE INPUT: true; the input reads as it did. -/
def workRisesSpec : ChangeSpec := { name := "workRises", fn := fun _ => fun
  | [d1, d2, d3, d4] => { results := [.lit (.bool true)], args := [d1, d2, d3, d4] }
  | _ => none }
def workRisesRow : OpenClaim := { program := "ytfnpfcenlgddhaagreatdoor", sum := "0416eaed5cae154496f286970a52aa625f1f74d408c503e70ea1bb1fd695d9b0", func := "bascule/basculelaw25.WorkRises", spec := "workRises", unfollowed := true, recurses := true, named := ["bascule/rank.powers", "math/bits.deBruijn64tab", "bascule/op.writers", "bascule/op.objects"], apart := false, laid := [("math/bits.deBruijn64tab", laid_math_bits_deBruijn64tab), ("bascule/rank.powers", laid_bascule_rank_powers), ("bascule/op.objects", laid_bascule_op_objects), ("bascule/op.writers", laid_bascule_op_writers)] }
def WorkRisesSaid : Prop := workRisesRow.holds Tryz.pinned (OpenSpec.ofChange workRisesSpec)

/-- ITS FALSE NEIGHBOUR: 'it returns false'. Refute it at one input. -/
def workRisesWrong : ChangeSpec := { name := "workRises", fn := fun _ => fun
  | [d1, d2, d3, d4] => { results := [.lit (.bool false)], args := [d1, d2, d3, d4] }
  | _ => none }
def WorkRisesWrongFalsely : Prop := workRisesRow.holds Tryz.pinned (OpenSpec.ofChange workRisesWrong)

/-- 'basculelaw26.ReadEnds': WHATEVER THE INPUT: true; the input reads as it did. -/
def readEndsSpec : ChangeSpec := { name := "readEnds", fn := fun _ => fun
  | [d1, d2, d3, d4] => { results := [.lit (.bool true)], args := [d1, d2, d3, d4] }
  | _ => none }
def readEndsRow : OpenClaim := { program := "ytfnpfcenlgddhaagreatdoor", sum := "0416eaed5cae154496f286970a52aa625f1f74d408c503e70ea1bb1fd695d9b0", func := "bascule/basculelaw26.ReadEnds", spec := "readEnds", unfollowed := true, recurses := true, named := ["bascule/rank.powers", "bascule/op.objects", "bascule/op.writers"], apart := false, laid := [("bascule/rank.powers", laid_bascule_rank_powers), ("bascule/op.objects", laid_bascule_op_objects), ("bascule/op.writers", laid_bascule_op_writers)] }
def ReadEndsSaid : Prop := readEndsRow.holds Tryz.pinned (OpenSpec.ofChange readEndsSpec)

/-- ITS FALSE NEIGHBOUR: 'it returns false'. Refute it at one input. -/
def readEndsWrong : ChangeSpec := { name := "readEnds", fn := fun _ => fun
  | [d1, d2, d3, d4] => { results := [.lit (.bool false)], args := [d1, d2, d3, d4] }
  | _ => none }
def ReadEndsWrongFalsely : Prop := readEndsRow.holds Tryz.pinned (OpenSpec.ofChange readEndsWrong)

/- THE SECOND FORM. 'bulk': how many values and letters a reading holds, each counted each time it is reached (what is shared counts as often as it is met; a slice's spare places count too). A statement '..UptoSaid' is the law's where the arguments, and the package variables that the reading takes, are together of bulk at most 1048576: NARROWER than '..Said'. Prove '..Said' where nothing that the law and all that it calls make is longer than what came in: it says more and counts as full. Else prove '..UptoSaid'. A law counts once. -/
mutual
def uptoBulk {H : Type} : DataW H → Nat
  | .lit (.string bytes) => bytes.length + 1
  | .lit _ => 1
  | .nil => 1
  | .ptr d => uptoBulk d + 1
  | .slice elems spare => uptoBulkAll elems + uptoBulkAll spare + 1
  | .agg parts => uptoBulkAll parts + 1
  | .iface _ d => uptoBulk d + 1
  | .map entries => uptoBulkEntries entries + 1
  | .held _ => 1
def uptoBulkAll {H : Type} : List (DataW H) → Nat
  | [] => 0
  | d :: r => uptoBulk d + uptoBulkAll r
def uptoBulkEntries {H : Type} : List (Lit × DataW H) → Nat
  | [] => 0
  | x :: r => uptoBulkEntry x + uptoBulkEntries r
def uptoBulkEntry {H : Type} : Lit × DataW H → Nat
  | (.string bytes, d) => bytes.length + uptoBulk d + 1
  | (_, d) => uptoBulk d + 1
 end
def uptoSmall : (H : Type) → List (DataW H) → Bool := fun _ ds => decide (uptoBulkAll ds ≤ 1048576)
def OpenSpec.upto (s : _root_.Go.ChangeSpec) : _root_.Go.OpenSpec := { _root_.Go.OpenSpec.ofChange s with cond := some uptoSmall }

/-- 'basculelaw26.ReadBegins', WHERE WHAT IT READS IS OF BULK AT MOST 1048576: true; the input reads as it did. -/
def readBeginsUptoRow : OpenClaim := { program := "ytfnpfcenlgddhaagreatdoor", sum := "0416eaed5cae154496f286970a52aa625f1f74d408c503e70ea1bb1fd695d9b0", func := "bascule/basculelaw26.ReadBegins", spec := "readBegins", unfollowed := true, recurses := true, named := ["bascule/op.objects", "bascule/op.writers", "bascule/rank.powers"], apart := false, laid := [("bascule/rank.powers", laid_bascule_rank_powers), ("bascule/op.objects", laid_bascule_op_objects), ("bascule/op.writers", laid_bascule_op_writers)], narrowed := true }
def ReadBeginsUptoSaid : Prop := readBeginsUptoRow.holds Tryz.pinned (OpenSpec.upto readBeginsSpec)

/-- 'basculelaw26.ReadNames', WHERE WHAT IT READS IS OF BULK AT MOST 1048576: true; the input reads as it did. -/
def readNamesUptoRow : OpenClaim := { program := "ytfnpfcenlgddhaagreatdoor", sum := "0416eaed5cae154496f286970a52aa625f1f74d408c503e70ea1bb1fd695d9b0", func := "bascule/basculelaw26.ReadNames", spec := "readNames", unfollowed := true, recurses := true, named := ["bascule/op.objects", "bascule/op.writers", "bascule/rank.powers"], apart := false, laid := [("bascule/rank.powers", laid_bascule_rank_powers), ("bascule/op.objects", laid_bascule_op_objects), ("bascule/op.writers", laid_bascule_op_writers)], narrowed := true }
def ReadNamesUptoSaid : Prop := readNamesUptoRow.holds Tryz.pinned (OpenSpec.upto readNamesSpec)

/-- 'basculelaw25.WorkNexts', WHERE WHAT IT READS IS OF BULK AT MOST 1048576: true; the input reads as it did. -/
def workNextsUptoRow : OpenClaim := { program := "ytfnpfcenlgddhaagreatdoor", sum := "0416eaed5cae154496f286970a52aa625f1f74d408c503e70ea1bb1fd695d9b0", func := "bascule/basculelaw25.WorkNexts", spec := "workNexts", unfollowed := true, recurses := true, named := ["bascule/rank.powers", "math/bits.deBruijn64tab", "bascule/op.writers", "bascule/op.objects"], apart := false, laid := [("math/bits.deBruijn64tab", laid_math_bits_deBruijn64tab), ("bascule/rank.powers", laid_bascule_rank_powers), ("bascule/op.objects", laid_bascule_op_objects), ("bascule/op.writers", laid_bascule_op_writers)], narrowed := true }
def WorkNextsUptoSaid : Prop := workNextsUptoRow.holds Tryz.pinned (OpenSpec.upto workNextsSpec)

/-- 'basculelaw25.WorkMoves', WHERE WHAT IT READS IS OF BULK AT MOST 1048576: true; the input reads as it did. -/
def workMovesUptoRow : OpenClaim := { program := "ytfnpfcenlgddhaagreatdoor", sum := "0416eaed5cae154496f286970a52aa625f1f74d408c503e70ea1bb1fd695d9b0", func := "bascule/basculelaw25.WorkMoves", spec := "workMoves", unfollowed := true, recurses := true, named := ["bascule/rank.powers", "math/bits.deBruijn64tab", "bascule/op.writers", "bascule/op.objects"], apart := false, laid := [("math/bits.deBruijn64tab", laid_math_bits_deBruijn64tab), ("bascule/rank.powers", laid_bascule_rank_powers), ("bascule/op.objects", laid_bascule_op_objects), ("bascule/op.writers", laid_bascule_op_writers)], narrowed := true }
def WorkMovesUptoSaid : Prop := workMovesUptoRow.holds Tryz.pinned (OpenSpec.upto workMovesSpec)

/-- 'basculelaw25.WorkNames', WHERE WHAT IT READS IS OF BULK AT MOST 1048576: true; the input reads as it did. -/
def workNamesUptoRow : OpenClaim := { program := "ytfnpfcenlgddhaagreatdoor", sum := "0416eaed5cae154496f286970a52aa625f1f74d408c503e70ea1bb1fd695d9b0", func := "bascule/basculelaw25.WorkNames", spec := "workNames", unfollowed := true, recurses := true, named := ["bascule/rank.powers", "math/bits.deBruijn64tab", "bascule/op.writers", "bascule/op.objects"], apart := false, laid := [("math/bits.deBruijn64tab", laid_math_bits_deBruijn64tab), ("bascule/rank.powers", laid_bascule_rank_powers), ("bascule/op.objects", laid_bascule_op_objects), ("bascule/op.writers", laid_bascule_op_writers)], narrowed := true }
def WorkNamesUptoSaid : Prop := workNamesUptoRow.holds Tryz.pinned (OpenSpec.upto workNamesSpec)

/-- 'basculelaw25.WorkRises', WHERE WHAT IT READS IS OF BULK AT MOST 1048576: true; the input reads as it did. -/
def workRisesUptoRow : OpenClaim := { program := "ytfnpfcenlgddhaagreatdoor", sum := "0416eaed5cae154496f286970a52aa625f1f74d408c503e70ea1bb1fd695d9b0", func := "bascule/basculelaw25.WorkRises", spec := "workRises", unfollowed := true, recurses := true, named := ["bascule/rank.powers", "math/bits.deBruijn64tab", "bascule/op.writers", "bascule/op.objects"], apart := false, laid := [("math/bits.deBruijn64tab", laid_math_bits_deBruijn64tab), ("bascule/rank.powers", laid_bascule_rank_powers), ("bascule/op.objects", laid_bascule_op_objects), ("bascule/op.writers", laid_bascule_op_writers)], narrowed := true }
def WorkRisesUptoSaid : Prop := workRisesUptoRow.holds Tryz.pinned (OpenSpec.upto workRisesSpec)

/-- 'basculelaw26.ReadEnds', WHERE WHAT IT READS IS OF BULK AT MOST 1048576: true; the input reads as it did. -/
def readEndsUptoRow : OpenClaim := { program := "ytfnpfcenlgddhaagreatdoor", sum := "0416eaed5cae154496f286970a52aa625f1f74d408c503e70ea1bb1fd695d9b0", func := "bascule/basculelaw26.ReadEnds", spec := "readEnds", unfollowed := true, recurses := true, named := ["bascule/rank.powers", "bascule/op.objects", "bascule/op.writers"], apart := false, laid := [("bascule/rank.powers", laid_bascule_rank_powers), ("bascule/op.objects", laid_bascule_op_objects), ("bascule/op.writers", laid_bascule_op_writers)], narrowed := true }
def ReadEndsUptoSaid : Prop := readEndsUptoRow.holds Tryz.pinned (OpenSpec.upto readEndsSpec)

end Rows
end Go.Proofs.YtfnpfcenlgddhaaGreatDoor
