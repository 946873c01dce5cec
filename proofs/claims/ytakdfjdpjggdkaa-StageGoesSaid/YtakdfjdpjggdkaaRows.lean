/-
  No cell of these rows narrows 'for every input' (looked for: loops, veiled, ifaces, maps, wideKeys, modest, calm, conditions, laid).
  DERIVED. THE GIVEN ROWS OF THIS SEAT. 7 by the template 'for every input the law returns true; each argument reads behind the call as it read before'; 0 by the template 'total and deterministic' (their statements: YtakdfjdpjggdkaaTotals.lean).
  GIVEN WITH THE SEED: the statements are not yours to turn. If you find one false, say at which input.
  Laid BY PROGRAM, IN A SANDBOX (cutbox-rows.mjs): the forced cells as the released guide's own fill.sh prints them over the translation 88506260487c1fbe… (all of the seat's roots in one cut). By AI agents, Wed Nov 11 2026. No macro, syntax, notation, axiom, sorry.
-/
import Derived.Test.YtakdfjdpjggdkaaChecked
import GoSem.Claim
import GoSem.ClaimJoined
import GoSem.ClaimMapViews
import Derived.JoinedTies
import Derived.KernelRfl
namespace Go.Proofs.Ytakdfjdpjggdkaa
/- THE CELL 'sum', in the pinned program and in every row, IS THE sha256 OF THE DUMP (.gsa) THAT YtakdfjdpjggdkaaProg.lean LOADS. Nothing in Lean hashes anything: it is a label: what it is worth is what the hold of that sum in a sandbox is worth. -/
noncomputable def Try.pinned : Pinned := { name := "ytakdfjdpjggdkaa", sum := "88506260487c1fbe9ead1f23b18d3c712713484055b1be1d05bbb8f93430745b", checked := Try.checked }
namespace Rows
def none {H : Type} : Left H := { results := [], args := [] }

/-- 'basculelaw24.StageLays': WHATEVER THE INPUT: true; the input reads as it did. -/
def stageLaysSpec : ChangeSpec := { name := "stageLays", fn := fun _ => fun
  | [d1, d2, d3] => { results := [.lit (.bool true)], args := [d1, d2, d3] }
  | _ => none }
def stageLaysRow : OpenClaim := { program := "ytakdfjdpjggdkaa", sum := "88506260487c1fbe9ead1f23b18d3c712713484055b1be1d05bbb8f93430745b", func := "bascule/basculelaw24.StageLays", spec := "stageLays", apart := false }
def StageLaysSaid : Prop := stageLaysRow.holds Try.pinned (OpenSpec.ofChange stageLaysSpec)

/-- ITS FALSE NEIGHBOUR: 'it returns false'. Refute it at one input. -/
def stageLaysWrong : ChangeSpec := { name := "stageLays", fn := fun _ => fun
  | [d1, d2, d3] => { results := [.lit (.bool false)], args := [d1, d2, d3] }
  | _ => none }
def StageLaysWrongFalsely : Prop := stageLaysRow.holds Try.pinned (OpenSpec.ofChange stageLaysWrong)

/-- 'basculelaw23.BatchChooses': WHATEVER THE INPUT: true; the input reads as it did. -/
def batchChoosesSpec : ChangeSpec := { name := "batchChooses", fn := fun _ => fun
  | [d1, d2, d3] => { results := [.lit (.bool true)], args := [d1, d2, d3] }
  | _ => none }
def batchChoosesRow : OpenClaim := { program := "ytakdfjdpjggdkaa", sum := "88506260487c1fbe9ead1f23b18d3c712713484055b1be1d05bbb8f93430745b", func := "bascule/basculelaw23.BatchChooses", spec := "batchChooses", unfollowed := true, recurses := true, apart := false }
def BatchChoosesSaid : Prop := batchChoosesRow.holds Try.pinned (OpenSpec.ofChange batchChoosesSpec)

/-- ITS FALSE NEIGHBOUR: 'it returns false'. Refute it at one input. -/
def batchChoosesWrong : ChangeSpec := { name := "batchChooses", fn := fun _ => fun
  | [d1, d2, d3] => { results := [.lit (.bool false)], args := [d1, d2, d3] }
  | _ => none }
def BatchChoosesWrongFalsely : Prop := batchChoosesRow.holds Try.pinned (OpenSpec.ofChange batchChoosesWrong)

/-- 'basculelaw24.StageGoes': WHATEVER THE INPUT: true; the input reads as it did. -/
def stageGoesSpec : ChangeSpec := { name := "stageGoes", fn := fun _ => fun
  | [d1, d2, d3] => { results := [.lit (.bool true)], args := [d1, d2, d3] }
  | _ => none }
def stageGoesRow : OpenClaim := { program := "ytakdfjdpjggdkaa", sum := "88506260487c1fbe9ead1f23b18d3c712713484055b1be1d05bbb8f93430745b", func := "bascule/basculelaw24.StageGoes", spec := "stageGoes", unfollowed := true, recurses := true, apart := false }
def StageGoesSaid : Prop := stageGoesRow.holds Try.pinned (OpenSpec.ofChange stageGoesSpec)

/-- ITS FALSE NEIGHBOUR: 'it returns false'. Refute it at one input. -/
def stageGoesWrong : ChangeSpec := { name := "stageGoes", fn := fun _ => fun
  | [d1, d2, d3] => { results := [.lit (.bool false)], args := [d1, d2, d3] }
  | _ => none }
def StageGoesWrongFalsely : Prop := stageGoesRow.holds Try.pinned (OpenSpec.ofChange stageGoesWrong)

/-- 'basculelaw24.StageNames': WHATEVER THE INPUT: true; the input reads as it did. -/
def stageNamesSpec : ChangeSpec := { name := "stageNames", fn := fun _ => fun
  | [] => { results := [.lit (.bool true)], args := [] }
  | _ => none }
def stageNamesRow : OpenClaim := { program := "ytakdfjdpjggdkaa", sum := "88506260487c1fbe9ead1f23b18d3c712713484055b1be1d05bbb8f93430745b", func := "bascule/basculelaw24.StageNames", spec := "stageNames", unfollowed := true, recurses := true, apart := false }
def StageNamesSaid : Prop := stageNamesRow.holds Try.pinned (OpenSpec.ofChange stageNamesSpec)

/-- ITS FALSE NEIGHBOUR: 'it returns false'. Refute it at one input. -/
def stageNamesWrong : ChangeSpec := { name := "stageNames", fn := fun _ => fun
  | [] => { results := [.lit (.bool false)], args := [] }
  | _ => none }
def StageNamesWrongFalsely : Prop := stageNamesRow.holds Try.pinned (OpenSpec.ofChange stageNamesWrong)

/-- 'basculelaw24.StageBack': WHATEVER THE INPUT: true; the input reads as it did. -/
def stageBackSpec : ChangeSpec := { name := "stageBack", fn := fun _ => fun
  | [d1, d2, d3] => { results := [.lit (.bool true)], args := [d1, d2, d3] }
  | _ => none }
def stageBackRow : OpenClaim := { program := "ytakdfjdpjggdkaa", sum := "88506260487c1fbe9ead1f23b18d3c712713484055b1be1d05bbb8f93430745b", func := "bascule/basculelaw24.StageBack", spec := "stageBack", unfollowed := true, recurses := true, apart := false }
def StageBackSaid : Prop := stageBackRow.holds Try.pinned (OpenSpec.ofChange stageBackSpec)

/-- ITS FALSE NEIGHBOUR: 'it returns false'. Refute it at one input. -/
def stageBackWrong : ChangeSpec := { name := "stageBack", fn := fun _ => fun
  | [d1, d2, d3] => { results := [.lit (.bool false)], args := [d1, d2, d3] }
  | _ => none }
def StageBackWrongFalsely : Prop := stageBackRow.holds Try.pinned (OpenSpec.ofChange stageBackWrong)

/-- 'basculelaw24.StageRises': WHATEVER THE INPUT: true; the input reads as it did. -/
def stageRisesSpec : ChangeSpec := { name := "stageRises", fn := fun _ => fun
  | [d1, d2, d3] => { results := [.lit (.bool true)], args := [d1, d2, d3] }
  | _ => none }
def stageRisesRow : OpenClaim := { program := "ytakdfjdpjggdkaa", sum := "88506260487c1fbe9ead1f23b18d3c712713484055b1be1d05bbb8f93430745b", func := "bascule/basculelaw24.StageRises", spec := "stageRises", unfollowed := true, recurses := true, apart := false }
def StageRisesSaid : Prop := stageRisesRow.holds Try.pinned (OpenSpec.ofChange stageRisesSpec)

/-- ITS FALSE NEIGHBOUR: 'it returns false'. Refute it at one input. -/
def stageRisesWrong : ChangeSpec := { name := "stageRises", fn := fun _ => fun
  | [d1, d2, d3] => { results := [.lit (.bool false)], args := [d1, d2, d3] }
  | _ => none }
def StageRisesWrongFalsely : Prop := stageRisesRow.holds Try.pinned (OpenSpec.ofChange stageRisesWrong)

/-- 'basculelaw24.StageOnce': WHATEVER THE INPUT: true; the input reads as it did. -/
def stageOnceSpec : ChangeSpec := { name := "stageOnce", fn := fun _ => fun
  | [d1, d2, d3, d4] => { results := [.lit (.bool true)], args := [d1, d2, d3, d4] }
  | _ => none }
def stageOnceRow : OpenClaim := { program := "ytakdfjdpjggdkaa", sum := "88506260487c1fbe9ead1f23b18d3c712713484055b1be1d05bbb8f93430745b", func := "bascule/basculelaw24.StageOnce", spec := "stageOnce", unfollowed := true, recurses := true, apart := false }
def StageOnceSaid : Prop := stageOnceRow.holds Try.pinned (OpenSpec.ofChange stageOnceSpec)

/-- ITS FALSE NEIGHBOUR: 'it returns false'. Refute it at one input. -/
def stageOnceWrong : ChangeSpec := { name := "stageOnce", fn := fun _ => fun
  | [d1, d2, d3, d4] => { results := [.lit (.bool false)], args := [d1, d2, d3, d4] }
  | _ => none }
def StageOnceWrongFalsely : Prop := stageOnceRow.holds Try.pinned (OpenSpec.ofChange stageOnceWrong)

/- THE SECOND FORM. 'bulk': how many values and letters a reading holds, each counted each time it is reached (what is shared counts as often as it is met; a slice's spare places count too). A statement '..UptoSaid' is the law's where the arguments, and the package variables that the reading takes, are together of bulk at most 1048576: NARROWER than '..Said'. Prove '..Said' where nothing that the law and all that it calls make is longer than what came in: it says more and counts as full. Else prove '..UptoSaid'. A law counts once. -/
mutual
def uptoBulk {H : Type} : DataW H → Nat
  | .lit (.string bytes) => bytes.length + 1
  | .lit _ => 1
  | .nil => 1
  | .ptr d => uptoBulk d + 1
  | .slice elems spare => uptoBulkAll elems + uptoBulkAll spare + 1
  | .agg parts => uptoBulkAll parts + 1
  | .iface _ d => uptoBulk d + 1
  | .map entries => uptoBulkEntries entries + 1
  | .held _ => 1
def uptoBulkAll {H : Type} : List (DataW H) → Nat
  | [] => 0
  | d :: r => uptoBulk d + uptoBulkAll r
def uptoBulkEntries {H : Type} : List (Lit × DataW H) → Nat
  | [] => 0
  | x :: r => uptoBulkEntry x + uptoBulkEntries r
def uptoBulkEntry {H : Type} : Lit × DataW H → Nat
  | (.string bytes, d) => bytes.length + uptoBulk d + 1
  | (_, d) => uptoBulk d + 1
 end
def uptoSmall : (H : Type) → List (DataW H) → Bool := fun _ ds => decide (uptoBulkAll ds ≤ 1048576)
def OpenSpec.upto (s : _root_.Go.ChangeSpec) : _root_.Go.OpenSpec := { _root_.Go.OpenSpec.ofChange s with cond := some uptoSmall }

/-- 'basculelaw24.StageLays', WHERE WHAT IT READS IS OF BULK AT MOST 1048576: true; the input reads as it did. -/
def stageLaysUptoRow : OpenClaim := { program := "ytakdfjdpjggdkaa", sum := "88506260487c1fbe9ead1f23b18d3c712713484055b1be1d05bbb8f93430745b", func := "bascule/basculelaw24.StageLays", spec := "stageLays", apart := false, narrowed := true }
def StageLaysUptoSaid : Prop := stageLaysUptoRow.holds Try.pinned (OpenSpec.upto stageLaysSpec)

/-- 'basculelaw23.BatchChooses', WHERE WHAT IT READS IS OF BULK AT MOST 1048576: true; the input reads as it did. -/
def batchChoosesUptoRow : OpenClaim := { program := "ytakdfjdpjggdkaa", sum := "88506260487c1fbe9ead1f23b18d3c712713484055b1be1d05bbb8f93430745b", func := "bascule/basculelaw23.BatchChooses", spec := "batchChooses", unfollowed := true, recurses := true, apart := false, narrowed := true }
def BatchChoosesUptoSaid : Prop := batchChoosesUptoRow.holds Try.pinned (OpenSpec.upto batchChoosesSpec)

/-- 'basculelaw24.StageGoes', WHERE WHAT IT READS IS OF BULK AT MOST 1048576: true; the input reads as it did. -/
def stageGoesUptoRow : OpenClaim := { program := "ytakdfjdpjggdkaa", sum := "88506260487c1fbe9ead1f23b18d3c712713484055b1be1d05bbb8f93430745b", func := "bascule/basculelaw24.StageGoes", spec := "stageGoes", unfollowed := true, recurses := true, apart := false, narrowed := true }
def StageGoesUptoSaid : Prop := stageGoesUptoRow.holds Try.pinned (OpenSpec.upto stageGoesSpec)

/-- 'basculelaw24.StageNames', WHERE WHAT IT READS IS OF BULK AT MOST 1048576: true; the input reads as it did. -/
def stageNamesUptoRow : OpenClaim := { program := "ytakdfjdpjggdkaa", sum := "88506260487c1fbe9ead1f23b18d3c712713484055b1be1d05bbb8f93430745b", func := "bascule/basculelaw24.StageNames", spec := "stageNames", unfollowed := true, recurses := true, apart := false, narrowed := true }
def StageNamesUptoSaid : Prop := stageNamesUptoRow.holds Try.pinned (OpenSpec.upto stageNamesSpec)

/-- 'basculelaw24.StageBack', WHERE WHAT IT READS IS OF BULK AT MOST 1048576: true; the input reads as it did. -/
def stageBackUptoRow : OpenClaim := { program := "ytakdfjdpjggdkaa", sum := "88506260487c1fbe9ead1f23b18d3c712713484055b1be1d05bbb8f93430745b", func := "bascule/basculelaw24.StageBack", spec := "stageBack", unfollowed := true, recurses := true, apart := false, narrowed := true }
def StageBackUptoSaid : Prop := stageBackUptoRow.holds Try.pinned (OpenSpec.upto stageBackSpec)

/-- 'basculelaw24.StageRises', WHERE WHAT IT READS IS OF BULK AT MOST 1048576: true; the input reads as it did. -/
def stageRisesUptoRow : OpenClaim := { program := "ytakdfjdpjggdkaa", sum := "88506260487c1fbe9ead1f23b18d3c712713484055b1be1d05bbb8f93430745b", func := "bascule/basculelaw24.StageRises", spec := "stageRises", unfollowed := true, recurses := true, apart := false, narrowed := true }
def StageRisesUptoSaid : Prop := stageRisesUptoRow.holds Try.pinned (OpenSpec.upto stageRisesSpec)

/-- 'basculelaw24.StageOnce', WHERE WHAT IT READS IS OF BULK AT MOST 1048576: true; the input reads as it did. -/
def stageOnceUptoRow : OpenClaim := { program := "ytakdfjdpjggdkaa", sum := "88506260487c1fbe9ead1f23b18d3c712713484055b1be1d05bbb8f93430745b", func := "bascule/basculelaw24.StageOnce", spec := "stageOnce", unfollowed := true, recurses := true, apart := false, narrowed := true }
def StageOnceUptoSaid : Prop := stageOnceUptoRow.holds Try.pinned (OpenSpec.upto stageOnceSpec)

end Rows
end Go.Proofs.Ytakdfjdpjggdkaa
