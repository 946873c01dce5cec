/-
  NARROWER THAN 'FOR EVERY INPUT', by the rows' own cells (each row's printed sentence says how): BatchCounts: laid · BatchNames: laid · BatchFair: laid · BatchOrder: laid · BatchServes: laid · CostSays: laid · CostBounds: laid · CostNames: laid · CostAlone: laid · CostFits: laid.
  DERIVED. THE GIVEN ROWS OF THIS SEAT. 10 by the template 'for every input the law returns true; each argument reads behind the call as it read before'; 0 by the template 'total and deterministic' (their statements: YtakdfjdpjggdkaaDoorTotals.lean).
  GIVEN WITH THE SEED: the statements are not yours to turn. If you find one false, say at which input.
  Laid BY PROGRAM, IN A SANDBOX (cutbox-rows.mjs): the forced cells as the released guide's own fill.sh prints them over the translation 73d3567f3891b90b… (all of the seat's roots in one cut). By AI agents, Wed Nov 11 2026. No macro, syntax, notation, axiom, sorry.
-/
import Derived.Test.YtakdfjdpjggdkaaDoorChecked
import GoSem.Claim
import GoSem.ClaimJoined
import GoSem.ClaimMapViews
import Derived.JoinedTies
import Derived.KernelRfl
namespace Go.Proofs.YtakdfjdpjggdkaaDoor
/- THE CELL 'sum', in the pinned program and in every row, IS THE sha256 OF THE DUMP (.gsa) THAT YtakdfjdpjggdkaaDoorProg.lean LOADS. Nothing in Lean hashes anything: it is a label: what it is worth is what the hold of that sum in a sandbox is worth. -/
noncomputable def Tryd.pinned : Pinned := { name := "ytakdfjdpjggdkaadoor", sum := "73d3567f3891b90b6357fb80fbd4ad7a10fc269eb756fe17cb336e4bf9d023a5", checked := Tryd.checked }
namespace Rows
def none {H : Type} : Left H := { results := [], args := [] }

/- WHAT THE LISTED PACKAGE-LEVEL VARIABLES READ AS WHEN THE CALL BEGINS. Each datum BY PROGRAM (the guide's laid-datum.mjs) off the statement by which the dump's own 'gosem.cut.vars' lays the variable. In a bare row this is a premise. The card (YtakdfjdpjggdkaaDoorCards.lean) ties it to the program's text. -/
def laid_math_bits_deBruijn64tab {H : Type} : DataW H := .agg [.lit (.int .u8 0), .lit (.int .u8 1), .lit (.int .u8 56), .lit (.int .u8 2), .lit (.int .u8 57), .lit (.int .u8 49), .lit (.int .u8 28), .lit (.int .u8 3), .lit (.int .u8 61), .lit (.int .u8 58), .lit (.int .u8 42), .lit (.int .u8 50), .lit (.int .u8 38), .lit (.int .u8 29), .lit (.int .u8 17), .lit (.int .u8 4), .lit (.int .u8 62), .lit (.int .u8 47), .lit (.int .u8 59), .lit (.int .u8 36), .lit (.int .u8 45), .lit (.int .u8 43), .lit (.int .u8 51), .lit (.int .u8 22), .lit (.int .u8 53), .lit (.int .u8 39), .lit (.int .u8 33), .lit (.int .u8 30), .lit (.int .u8 24), .lit (.int .u8 18), .lit (.int .u8 12), .lit (.int .u8 5), .lit (.int .u8 63), .lit (.int .u8 55), .lit (.int .u8 48), .lit (.int .u8 27), .lit (.int .u8 60), .lit (.int .u8 41), .lit (.int .u8 37), .lit (.int .u8 16), .lit (.int .u8 46), .lit (.int .u8 35), .lit (.int .u8 44), .lit (.int .u8 21), .lit (.int .u8 52), .lit (.int .u8 32), .lit (.int .u8 23), .lit (.int .u8 11), .lit (.int .u8 54), .lit (.int .u8 26), .lit (.int .u8 40), .lit (.int .u8 15), .lit (.int .u8 34), .lit (.int .u8 20), .lit (.int .u8 31), .lit (.int .u8 10), .lit (.int .u8 25), .lit (.int .u8 14), .lit (.int .u8 19), .lit (.int .u8 9), .lit (.int .u8 13), .lit (.int .u8 8), .lit (.int .u8 7), .lit (.int .u8 6)]
def laid_bascule_rank_powers {H : Type} : DataW H := .agg [.agg [.lit (.int .i64 1), .lit (.int .i64 2), .lit (.int .i64 4), .lit (.int .i64 8), .lit (.int .i64 16)], .agg [.lit (.int .i64 1), .lit (.int .i64 3), .lit (.int .i64 9), .lit (.int .i64 27), .lit (.int .i64 81)], .agg [.lit (.int .i64 1), .lit (.int .i64 4), .lit (.int .i64 16), .lit (.int .i64 64), .lit (.int .i64 256)]]
def laid_bascule_op_objects {H : Type} : DataW H := .agg [.lit (.int .u8 0), .lit (.int .u8 1), .lit (.int .u8 1), .lit (.int .u8 1), .lit (.int .u8 2), .lit (.int .u8 2), .lit (.int .u8 2), .lit (.int .u8 2), .lit (.int .u8 2), .lit (.int .u8 3), .lit (.int .u8 3), .lit (.int .u8 3), .lit (.int .u8 4), .lit (.int .u8 4), .lit (.int .u8 4)]
def laid_bascule_op_writers {H : Type} : DataW H := .agg [.lit (.bool false), .lit (.bool true), .lit (.bool true), .lit (.bool false), .lit (.bool true), .lit (.bool true), .lit (.bool false), .lit (.bool false), .lit (.bool false), .lit (.bool true), .lit (.bool true), .lit (.bool false), .lit (.bool true), .lit (.bool true), .lit (.bool false)]

/-- 'basculelaw23.BatchCounts': WHATEVER THE INPUT: true; the input reads as it did. -/
def batchCountsSpec : ChangeSpec := { name := "batchCounts", fn := fun _ => fun
  | [d1, d2] => { results := [.lit (.bool true)], args := [d1, d2] }
  | _ => none }
def batchCountsRow : OpenClaim := { program := "ytakdfjdpjggdkaadoor", sum := "73d3567f3891b90b6357fb80fbd4ad7a10fc269eb756fe17cb336e4bf9d023a5", func := "bascule/basculelaw23.BatchCounts", spec := "batchCounts", named := ["math/bits.deBruijn64tab"], apart := false, laid := [("math/bits.deBruijn64tab", laid_math_bits_deBruijn64tab)] }
def BatchCountsSaid : Prop := batchCountsRow.holds Tryd.pinned (OpenSpec.ofChange batchCountsSpec)

/-- ITS FALSE NEIGHBOUR: 'it returns false'. Refute it at one input. -/
def batchCountsWrong : ChangeSpec := { name := "batchCounts", fn := fun _ => fun
  | [d1, d2] => { results := [.lit (.bool false)], args := [d1, d2] }
  | _ => none }
def BatchCountsWrongFalsely : Prop := batchCountsRow.holds Tryd.pinned (OpenSpec.ofChange batchCountsWrong)

/-- 'basculelaw23.BatchNames': WHATEVER THE INPUT: true; the input reads as it did. -/
def batchNamesSpec : ChangeSpec := { name := "batchNames", fn := fun _ => fun
  | [] => { results := [.lit (.bool true)], args := [] }
  | _ => none }
def batchNamesRow : OpenClaim := { program := "ytakdfjdpjggdkaadoor", sum := "73d3567f3891b90b6357fb80fbd4ad7a10fc269eb756fe17cb336e4bf9d023a5", func := "bascule/basculelaw23.BatchNames", spec := "batchNames", unfollowed := true, recurses := true, named := ["math/bits.deBruijn64tab"], apart := false, laid := [("math/bits.deBruijn64tab", laid_math_bits_deBruijn64tab)] }
def BatchNamesSaid : Prop := batchNamesRow.holds Tryd.pinned (OpenSpec.ofChange batchNamesSpec)

/-- ITS FALSE NEIGHBOUR: 'it returns false'. Refute it at one input. -/
def batchNamesWrong : ChangeSpec := { name := "batchNames", fn := fun _ => fun
  | [] => { results := [.lit (.bool false)], args := [] }
  | _ => none }
def BatchNamesWrongFalsely : Prop := batchNamesRow.holds Tryd.pinned (OpenSpec.ofChange batchNamesWrong)

/-- 'basculelaw23.BatchFair': WHATEVER THE INPUT: true; the input reads as it did. -/
def batchFairSpec : ChangeSpec := { name := "batchFair", fn := fun _ => fun
  | [d1, d2, d3] => { results := [.lit (.bool true)], args := [d1, d2, d3] }
  | _ => none }
def batchFairRow : OpenClaim := { program := "ytakdfjdpjggdkaadoor", sum := "73d3567f3891b90b6357fb80fbd4ad7a10fc269eb756fe17cb336e4bf9d023a5", func := "bascule/basculelaw23.BatchFair", spec := "batchFair", unfollowed := true, recurses := true, named := ["math/bits.deBruijn64tab"], apart := false, laid := [("math/bits.deBruijn64tab", laid_math_bits_deBruijn64tab)] }
def BatchFairSaid : Prop := batchFairRow.holds Tryd.pinned (OpenSpec.ofChange batchFairSpec)

/-- ITS FALSE NEIGHBOUR: 'it returns false'. Refute it at one input. -/
def batchFairWrong : ChangeSpec := { name := "batchFair", fn := fun _ => fun
  | [d1, d2, d3] => { results := [.lit (.bool false)], args := [d1, d2, d3] }
  | _ => none }
def BatchFairWrongFalsely : Prop := batchFairRow.holds Tryd.pinned (OpenSpec.ofChange batchFairWrong)

/-- 'basculelaw23.BatchOrder': WHATEVER THE INPUT: true; the input reads as it did. -/
def batchOrderSpec : ChangeSpec := { name := "batchOrder", fn := fun _ => fun
  | [d] => { results := [.lit (.bool true)], args := [d] }
  | _ => none }
def batchOrderRow : OpenClaim := { program := "ytakdfjdpjggdkaadoor", sum := "73d3567f3891b90b6357fb80fbd4ad7a10fc269eb756fe17cb336e4bf9d023a5", func := "bascule/basculelaw23.BatchOrder", spec := "batchOrder", unfollowed := true, recurses := true, named := ["math/bits.deBruijn64tab"], apart := false, laid := [("math/bits.deBruijn64tab", laid_math_bits_deBruijn64tab)] }
def BatchOrderSaid : Prop := batchOrderRow.holds Tryd.pinned (OpenSpec.ofChange batchOrderSpec)

/-- ITS FALSE NEIGHBOUR: 'it returns false'. Refute it at one input. -/
def batchOrderWrong : ChangeSpec := { name := "batchOrder", fn := fun _ => fun
  | [d] => { results := [.lit (.bool false)], args := [d] }
  | _ => none }
def BatchOrderWrongFalsely : Prop := batchOrderRow.holds Tryd.pinned (OpenSpec.ofChange batchOrderWrong)

/-- 'basculelaw23.BatchServes': WHATEVER THE INPUT: true; the input reads as it did. -/
def batchServesSpec : ChangeSpec := { name := "batchServes", fn := fun _ => fun
  | [d1, d2, d3, d4] => { results := [.lit (.bool true)], args := [d1, d2, d3, d4] }
  | _ => none }
def batchServesRow : OpenClaim := { program := "ytakdfjdpjggdkaadoor", sum := "73d3567f3891b90b6357fb80fbd4ad7a10fc269eb756fe17cb336e4bf9d023a5", func := "bascule/basculelaw23.BatchServes", spec := "batchServes", unfollowed := true, recurses := true, named := ["math/bits.deBruijn64tab"], apart := false, laid := [("math/bits.deBruijn64tab", laid_math_bits_deBruijn64tab)] }
def BatchServesSaid : Prop := batchServesRow.holds Tryd.pinned (OpenSpec.ofChange batchServesSpec)

/-- ITS FALSE NEIGHBOUR: 'it returns false'. Refute it at one input. -/
def batchServesWrong : ChangeSpec := { name := "batchServes", fn := fun _ => fun
  | [d1, d2, d3, d4] => { results := [.lit (.bool false)], args := [d1, d2, d3, d4] }
  | _ => none }
def BatchServesWrongFalsely : Prop := batchServesRow.holds Tryd.pinned (OpenSpec.ofChange batchServesWrong)

/-- 'basculelaw18.CostSays': WHATEVER THE INPUT: true; the input reads as it did. -/
def costSaysSpec : ChangeSpec := { name := "costSays", fn := fun _ => fun
  | [d1, d2] => { results := [.lit (.bool true)], args := [d1, d2] }
  | _ => none }
def costSaysRow : OpenClaim := { program := "ytakdfjdpjggdkaadoor", sum := "73d3567f3891b90b6357fb80fbd4ad7a10fc269eb756fe17cb336e4bf9d023a5", func := "bascule/basculelaw18.CostSays", spec := "costSays", unfollowed := true, recurses := true, named := ["bascule/op.objects", "bascule/rank.powers", "bascule/op.writers"], apart := false, laid := [("bascule/rank.powers", laid_bascule_rank_powers), ("bascule/op.objects", laid_bascule_op_objects), ("bascule/op.writers", laid_bascule_op_writers)] }
def CostSaysSaid : Prop := costSaysRow.holds Tryd.pinned (OpenSpec.ofChange costSaysSpec)

/-- ITS FALSE NEIGHBOUR: 'it returns false'. Refute it at one input. -/
def costSaysWrong : ChangeSpec := { name := "costSays", fn := fun _ => fun
  | [d1, d2] => { results := [.lit (.bool false)], args := [d1, d2] }
  | _ => none }
def CostSaysWrongFalsely : Prop := costSaysRow.holds Tryd.pinned (OpenSpec.ofChange costSaysWrong)

/-- 'basculelaw18.CostBounds': WHATEVER THE INPUT: true; the input reads as it did. -/
def costBoundsSpec : ChangeSpec := { name := "costBounds", fn := fun _ => fun
  | [d1, d2] => { results := [.lit (.bool true)], args := [d1, d2] }
  | _ => none }
def costBoundsRow : OpenClaim := { program := "ytakdfjdpjggdkaadoor", sum := "73d3567f3891b90b6357fb80fbd4ad7a10fc269eb756fe17cb336e4bf9d023a5", func := "bascule/basculelaw18.CostBounds", spec := "costBounds", unfollowed := true, recurses := true, named := ["bascule/op.objects", "bascule/op.writers", "bascule/rank.powers"], apart := false, laid := [("bascule/rank.powers", laid_bascule_rank_powers), ("bascule/op.objects", laid_bascule_op_objects), ("bascule/op.writers", laid_bascule_op_writers)] }
def CostBoundsSaid : Prop := costBoundsRow.holds Tryd.pinned (OpenSpec.ofChange costBoundsSpec)

/-- ITS FALSE NEIGHBOUR: 'it returns false'. Refute it at one input. -/
def costBoundsWrong : ChangeSpec := { name := "costBounds", fn := fun _ => fun
  | [d1, d2] => { results := [.lit (.bool false)], args := [d1, d2] }
  | _ => none }
def CostBoundsWrongFalsely : Prop := costBoundsRow.holds Tryd.pinned (OpenSpec.ofChange costBoundsWrong)

/-- 'basculelaw18.CostNames': WHATEVER THE INPUT: true; the input reads as it did. -/
def costNamesSpec : ChangeSpec := { name := "costNames", fn := fun _ => fun
  | [] => { results := [.lit (.bool true)], args := [] }
  | _ => none }
def costNamesRow : OpenClaim := { program := "ytakdfjdpjggdkaadoor", sum := "73d3567f3891b90b6357fb80fbd4ad7a10fc269eb756fe17cb336e4bf9d023a5", func := "bascule/basculelaw18.CostNames", spec := "costNames", unfollowed := true, recurses := true, named := ["bascule/op.objects", "bascule/rank.powers", "bascule/op.writers"], apart := false, laid := [("bascule/rank.powers", laid_bascule_rank_powers), ("bascule/op.objects", laid_bascule_op_objects), ("bascule/op.writers", laid_bascule_op_writers)] }
def CostNamesSaid : Prop := costNamesRow.holds Tryd.pinned (OpenSpec.ofChange costNamesSpec)

/-- ITS FALSE NEIGHBOUR: 'it returns false'. Refute it at one input. -/
def costNamesWrong : ChangeSpec := { name := "costNames", fn := fun _ => fun
  | [] => { results := [.lit (.bool false)], args := [] }
  | _ => none }
def CostNamesWrongFalsely : Prop := costNamesRow.holds Tryd.pinned (OpenSpec.ofChange costNamesWrong)

/-- 'basculelaw18.CostAlone': WHATEVER THE INPUT: true; the input reads as it did. -/
def costAloneSpec : ChangeSpec := { name := "costAlone", fn := fun _ => fun
  | [d1, d2, d3] => { results := [.lit (.bool true)], args := [d1, d2, d3] }
  | _ => none }
def costAloneRow : OpenClaim := { program := "ytakdfjdpjggdkaadoor", sum := "73d3567f3891b90b6357fb80fbd4ad7a10fc269eb756fe17cb336e4bf9d023a5", func := "bascule/basculelaw18.CostAlone", spec := "costAlone", unfollowed := true, recurses := true, named := ["bascule/op.objects", "bascule/rank.powers", "bascule/op.writers"], apart := false, laid := [("bascule/rank.powers", laid_bascule_rank_powers), ("bascule/op.objects", laid_bascule_op_objects), ("bascule/op.writers", laid_bascule_op_writers)] }
def CostAloneSaid : Prop := costAloneRow.holds Tryd.pinned (OpenSpec.ofChange costAloneSpec)

/-- ITS FALSE NEIGHBOUR: 'it returns false'. Refute it at one input. -/
def costAloneWrong : ChangeSpec := { name := "costAlone", fn := fun _ => fun
  | [d1, d2, d3] => { results := [.lit (.bool false)], args := [d1, d2, d3] }
  | _ => none }
def CostAloneWrongFalsely : Prop := costAloneRow.holds Tryd.pinned (OpenSpec.ofChange costAloneWrong)

/-- 'basculelaw18.CostFits': WHATEVER THE INPUT: true; the input reads as it did. -/
def costFitsSpec : ChangeSpec := { name := "costFits", fn := fun _ => fun
  | [d1, d2, d3] => { results := [.lit (.bool true)], args := [d1, d2, d3] }
  | _ => none }
def costFitsRow : OpenClaim := { program := "ytakdfjdpjggdkaadoor", sum := "73d3567f3891b90b6357fb80fbd4ad7a10fc269eb756fe17cb336e4bf9d023a5", func := "bascule/basculelaw18.CostFits", spec := "costFits", unfollowed := true, recurses := true, named := ["bascule/op.objects", "bascule/rank.powers", "bascule/op.writers"], apart := false, laid := [("bascule/rank.powers", laid_bascule_rank_powers), ("bascule/op.objects", laid_bascule_op_objects), ("bascule/op.writers", laid_bascule_op_writers)] }
def CostFitsSaid : Prop := costFitsRow.holds Tryd.pinned (OpenSpec.ofChange costFitsSpec)

/-- ITS FALSE NEIGHBOUR: 'it returns false'. Refute it at one input. -/
def costFitsWrong : ChangeSpec := { name := "costFits", fn := fun _ => fun
  | [d1, d2, d3] => { results := [.lit (.bool false)], args := [d1, d2, d3] }
  | _ => none }
def CostFitsWrongFalsely : Prop := costFitsRow.holds Tryd.pinned (OpenSpec.ofChange costFitsWrong)

/- THE SECOND FORM. 'bulk': how many values and letters a reading holds, each counted each time it is reached (what is shared counts as often as it is met; a slice's spare places count too). A statement '..UptoSaid' is the law's where the arguments, and the package variables that the reading takes, are together of bulk at most 1048576: NARROWER than '..Said'. Prove '..Said' where nothing that the law and all that it calls make is longer than what came in: it says more and counts as full. Else prove '..UptoSaid'. A law counts once. -/
mutual
def uptoBulk {H : Type} : DataW H → Nat
  | .lit (.string bytes) => bytes.length + 1
  | .lit _ => 1
  | .nil => 1
  | .ptr d => uptoBulk d + 1
  | .slice elems spare => uptoBulkAll elems + uptoBulkAll spare + 1
  | .agg parts => uptoBulkAll parts + 1
  | .iface _ d => uptoBulk d + 1
  | .map entries => uptoBulkEntries entries + 1
  | .held _ => 1
def uptoBulkAll {H : Type} : List (DataW H) → Nat
  | [] => 0
  | d :: r => uptoBulk d + uptoBulkAll r
def uptoBulkEntries {H : Type} : List (Lit × DataW H) → Nat
  | [] => 0
  | x :: r => uptoBulkEntry x + uptoBulkEntries r
def uptoBulkEntry {H : Type} : Lit × DataW H → Nat
  | (.string bytes, d) => bytes.length + uptoBulk d + 1
  | (_, d) => uptoBulk d + 1
 end
def uptoSmall : (H : Type) → List (DataW H) → Bool := fun _ ds => decide (uptoBulkAll ds ≤ 1048576)
def OpenSpec.upto (s : _root_.Go.ChangeSpec) : _root_.Go.OpenSpec := { _root_.Go.OpenSpec.ofChange s with cond := some uptoSmall }

/-- 'basculelaw23.BatchCounts', WHERE WHAT IT READS IS OF BULK AT MOST 1048576: true; the input reads as it did. -/
def batchCountsUptoRow : OpenClaim := { program := "ytakdfjdpjggdkaadoor", sum := "73d3567f3891b90b6357fb80fbd4ad7a10fc269eb756fe17cb336e4bf9d023a5", func := "bascule/basculelaw23.BatchCounts", spec := "batchCounts", named := ["math/bits.deBruijn64tab"], apart := false, laid := [("math/bits.deBruijn64tab", laid_math_bits_deBruijn64tab)], narrowed := true }
def BatchCountsUptoSaid : Prop := batchCountsUptoRow.holds Tryd.pinned (OpenSpec.upto batchCountsSpec)

/-- 'basculelaw23.BatchNames', WHERE WHAT IT READS IS OF BULK AT MOST 1048576: true; the input reads as it did. -/
def batchNamesUptoRow : OpenClaim := { program := "ytakdfjdpjggdkaadoor", sum := "73d3567f3891b90b6357fb80fbd4ad7a10fc269eb756fe17cb336e4bf9d023a5", func := "bascule/basculelaw23.BatchNames", spec := "batchNames", unfollowed := true, recurses := true, named := ["math/bits.deBruijn64tab"], apart := false, laid := [("math/bits.deBruijn64tab", laid_math_bits_deBruijn64tab)], narrowed := true }
def BatchNamesUptoSaid : Prop := batchNamesUptoRow.holds Tryd.pinned (OpenSpec.upto batchNamesSpec)

/-- 'basculelaw23.BatchFair', WHERE WHAT IT READS IS OF BULK AT MOST 1048576: true; the input reads as it did. -/
def batchFairUptoRow : OpenClaim := { program := "ytakdfjdpjggdkaadoor", sum := "73d3567f3891b90b6357fb80fbd4ad7a10fc269eb756fe17cb336e4bf9d023a5", func := "bascule/basculelaw23.BatchFair", spec := "batchFair", unfollowed := true, recurses := true, named := ["math/bits.deBruijn64tab"], apart := false, laid := [("math/bits.deBruijn64tab", laid_math_bits_deBruijn64tab)], narrowed := true }
def BatchFairUptoSaid : Prop := batchFairUptoRow.holds Tryd.pinned (OpenSpec.upto batchFairSpec)

/-- 'basculelaw23.BatchOrder', WHERE WHAT IT READS IS OF BULK AT MOST 1048576: true; the input reads as it did. -/
def batchOrderUptoRow : OpenClaim := { program := "ytakdfjdpjggdkaadoor", sum := "73d3567f3891b90b6357fb80fbd4ad7a10fc269eb756fe17cb336e4bf9d023a5", func := "bascule/basculelaw23.BatchOrder", spec := "batchOrder", unfollowed := true, recurses := true, named := ["math/bits.deBruijn64tab"], apart := false, laid := [("math/bits.deBruijn64tab", laid_math_bits_deBruijn64tab)], narrowed := true }
def BatchOrderUptoSaid : Prop := batchOrderUptoRow.holds Tryd.pinned (OpenSpec.upto batchOrderSpec)

/-- 'basculelaw23.BatchServes', WHERE WHAT IT READS IS OF BULK AT MOST 1048576: true; the input reads as it did. -/
def batchServesUptoRow : OpenClaim := { program := "ytakdfjdpjggdkaadoor", sum := "73d3567f3891b90b6357fb80fbd4ad7a10fc269eb756fe17cb336e4bf9d023a5", func := "bascule/basculelaw23.BatchServes", spec := "batchServes", unfollowed := true, recurses := true, named := ["math/bits.deBruijn64tab"], apart := false, laid := [("math/bits.deBruijn64tab", laid_math_bits_deBruijn64tab)], narrowed := true }
def BatchServesUptoSaid : Prop := batchServesUptoRow.holds Tryd.pinned (OpenSpec.upto batchServesSpec)

/-- 'basculelaw18.CostSays', WHERE WHAT IT READS IS OF BULK AT MOST 1048576: true; the input reads as it did. -/
def costSaysUptoRow : OpenClaim := { program := "ytakdfjdpjggdkaadoor", sum := "73d3567f3891b90b6357fb80fbd4ad7a10fc269eb756fe17cb336e4bf9d023a5", func := "bascule/basculelaw18.CostSays", spec := "costSays", unfollowed := true, recurses := true, named := ["bascule/op.objects", "bascule/rank.powers", "bascule/op.writers"], apart := false, laid := [("bascule/rank.powers", laid_bascule_rank_powers), ("bascule/op.objects", laid_bascule_op_objects), ("bascule/op.writers", laid_bascule_op_writers)], narrowed := true }
def CostSaysUptoSaid : Prop := costSaysUptoRow.holds Tryd.pinned (OpenSpec.upto costSaysSpec)

/-- 'basculelaw18.CostBounds', WHERE WHAT IT READS IS OF BULK AT MOST 1048576: true; the input reads as it did. -/
def costBoundsUptoRow : OpenClaim := { program := "ytakdfjdpjggdkaadoor", sum := "73d3567f3891b90b6357fb80fbd4ad7a10fc269eb756fe17cb336e4bf9d023a5", func := "bascule/basculelaw18.CostBounds", spec := "costBounds", unfollowed := true, recurses := true, named := ["bascule/op.objects", "bascule/op.writers", "bascule/rank.powers"], apart := false, laid := [("bascule/rank.powers", laid_bascule_rank_powers), ("bascule/op.objects", laid_bascule_op_objects), ("bascule/op.writers", laid_bascule_op_writers)], narrowed := true }
def CostBoundsUptoSaid : Prop := costBoundsUptoRow.holds Tryd.pinned (OpenSpec.upto costBoundsSpec)

/-- 'basculelaw18.CostNames', WHERE WHAT IT READS IS OF BULK AT MOST 1048576: true; the input reads as it did. -/
def costNamesUptoRow : OpenClaim := { program := "ytakdfjdpjggdkaadoor", sum := "73d3567f3891b90b6357fb80fbd4ad7a10fc269eb756fe17cb336e4bf9d023a5", func := "bascule/basculelaw18.CostNames", spec := "costNames", unfollowed := true, recurses := true, named := ["bascule/op.objects", "bascule/rank.powers", "bascule/op.writers"], apart := false, laid := [("bascule/rank.powers", laid_bascule_rank_powers), ("bascule/op.objects", laid_bascule_op_objects), ("bascule/op.writers", laid_bascule_op_writers)], narrowed := true }
def CostNamesUptoSaid : Prop := costNamesUptoRow.holds Tryd.pinned (OpenSpec.upto costNamesSpec)

/-- 'basculelaw18.CostAlone', WHERE WHAT IT READS IS OF BULK AT MOST 1048576: true; the input reads as it did. -/
def costAloneUptoRow : OpenClaim := { program := "ytakdfjdpjggdkaadoor", sum := "73d3567f3891b90b6357fb80fbd4ad7a10fc269eb756fe17cb336e4bf9d023a5", func := "bascule/basculelaw18.CostAlone", spec := "costAlone", unfollowed := true, recurses := true, named := ["bascule/op.objects", "bascule/rank.powers", "bascule/op.writers"], apart := false, laid := [("bascule/rank.powers", laid_bascule_rank_powers), ("bascule/op.objects", laid_bascule_op_objects), ("bascule/op.writers", laid_bascule_op_writers)], narrowed := true }
def CostAloneUptoSaid : Prop := costAloneUptoRow.holds Tryd.pinned (OpenSpec.upto costAloneSpec)

/-- 'basculelaw18.CostFits', WHERE WHAT IT READS IS OF BULK AT MOST 1048576: true; the input reads as it did. -/
def costFitsUptoRow : OpenClaim := { program := "ytakdfjdpjggdkaadoor", sum := "73d3567f3891b90b6357fb80fbd4ad7a10fc269eb756fe17cb336e4bf9d023a5", func := "bascule/basculelaw18.CostFits", spec := "costFits", unfollowed := true, recurses := true, named := ["bascule/op.objects", "bascule/rank.powers", "bascule/op.writers"], apart := false, laid := [("bascule/rank.powers", laid_bascule_rank_powers), ("bascule/op.objects", laid_bascule_op_objects), ("bascule/op.writers", laid_bascule_op_writers)], narrowed := true }
def CostFitsUptoSaid : Prop := costFitsUptoRow.holds Tryd.pinned (OpenSpec.upto costFitsSpec)

end Rows
end Go.Proofs.YtakdfjdpjggdkaaDoor
