/-
  No cell of these rows narrows 'for every input' (looked for: loops, veiled, ifaces, maps, wideKeys, modest, calm, conditions, laid).
  DERIVED. THE GIVEN ROWS OF THIS SEAT. 11 by the template 'for every input the law returns true; each argument reads behind the call as it read before'; 0 by the template 'total and deterministic' (their statements: YtgljmljmljccgaaTotals.lean).
  GIVEN WITH THE SEED: the statements are not yours to turn. If you find one false, say at which input.
  Laid BY PROGRAM, IN A SANDBOX (cutbox-rows.mjs): the forced cells as the released guide's own fill.sh prints them over the translation 96aebce7f77ea892… (all of the seat's roots in one cut). By AI agents, Wed Nov 11 2026. No macro, syntax, notation, axiom, sorry.
-/
import Derived.Test.YtgljmljmljccgaaChecked
import GoSem.Claim
import GoSem.ClaimJoined
import GoSem.ClaimMapViews
import Derived.JoinedTies
import Derived.KernelRfl
namespace Go.Proofs.Ytgljmljmljccgaa
/- THE CELL 'sum', in the pinned program and in every row, IS THE sha256 OF THE DUMP (.gsa) THAT YtgljmljmljccgaaProg.lean LOADS. Nothing in Lean hashes anything: it is a label: what it is worth is what the hold of that sum in a sandbox is worth. -/
noncomputable def Try.pinned : Pinned := { name := "ytgljmljmljccgaa", sum := "96aebce7f77ea892da36ee016de505aa20d20caec6af0d86ef4277b28aa77b23", checked := Try.checked }
namespace Rows
def none {H : Type} : Left H := { results := [], args := [] }

/-- 'droverlaw22.TableGets': WHATEVER THE INPUT: true; the input reads as it did. -/
def tableGetsSpec : ChangeSpec := { name := "tableGets", fn := fun _ => fun
  | [d] => { results := [.lit (.bool true)], args := [d] }
  | _ => none }
def tableGetsRow : OpenClaim := { program := "ytgljmljmljccgaa", sum := "96aebce7f77ea892da36ee016de505aa20d20caec6af0d86ef4277b28aa77b23", func := "drover/droverlaw22.TableGets", spec := "tableGets", inPlace := ["internal/bytealg.abigen_runtime_cmpstring", "slices.overlaps[drover/api.Account]", "slices.overlaps[drover/api.Pair]"], unfollowed := true, recurses := true, apart := false }
def TableGetsSaid : Prop := tableGetsRow.holds Try.pinned (OpenSpec.ofChange tableGetsSpec)

/-- ITS FALSE NEIGHBOUR: 'it returns false'. Refute it at one input. -/
def tableGetsWrong : ChangeSpec := { name := "tableGets", fn := fun _ => fun
  | [d] => { results := [.lit (.bool false)], args := [d] }
  | _ => none }
def TableGetsWrongFalsely : Prop := tableGetsRow.holds Try.pinned (OpenSpec.ofChange tableGetsWrong)

/-- 'droverlaw22.TableOnce': WHATEVER THE INPUT: true; the input reads as it did. -/
def tableOnceSpec : ChangeSpec := { name := "tableOnce", fn := fun _ => fun
  | [d] => { results := [.lit (.bool true)], args := [d] }
  | _ => none }
def tableOnceRow : OpenClaim := { program := "ytgljmljmljccgaa", sum := "96aebce7f77ea892da36ee016de505aa20d20caec6af0d86ef4277b28aa77b23", func := "drover/droverlaw22.TableOnce", spec := "tableOnce", inPlace := ["internal/bytealg.abigen_runtime_cmpstring", "slices.overlaps[drover/api.Account]", "slices.overlaps[drover/api.Pair]"], unfollowed := true, recurses := true, apart := false }
def TableOnceSaid : Prop := tableOnceRow.holds Try.pinned (OpenSpec.ofChange tableOnceSpec)

/-- ITS FALSE NEIGHBOUR: 'it returns false'. Refute it at one input. -/
def tableOnceWrong : ChangeSpec := { name := "tableOnce", fn := fun _ => fun
  | [d] => { results := [.lit (.bool false)], args := [d] }
  | _ => none }
def TableOnceWrongFalsely : Prop := tableOnceRow.holds Try.pinned (OpenSpec.ofChange tableOnceWrong)

/-- 'droverlaw22.TableNumbers': WHATEVER THE INPUT: true; the input reads as it did. -/
def tableNumbersSpec : ChangeSpec := { name := "tableNumbers", fn := fun _ => fun
  | [d] => { results := [.lit (.bool true)], args := [d] }
  | _ => none }
def tableNumbersRow : OpenClaim := { program := "ytgljmljmljccgaa", sum := "96aebce7f77ea892da36ee016de505aa20d20caec6af0d86ef4277b28aa77b23", func := "drover/droverlaw22.TableNumbers", spec := "tableNumbers", inPlace := ["internal/bytealg.abigen_runtime_cmpstring", "slices.overlaps[drover/api.Account]", "slices.overlaps[drover/api.Pair]"], unfollowed := true, recurses := true, apart := false }
def TableNumbersSaid : Prop := tableNumbersRow.holds Try.pinned (OpenSpec.ofChange tableNumbersSpec)

/-- ITS FALSE NEIGHBOUR: 'it returns false'. Refute it at one input. -/
def tableNumbersWrong : ChangeSpec := { name := "tableNumbers", fn := fun _ => fun
  | [d] => { results := [.lit (.bool false)], args := [d] }
  | _ => none }
def TableNumbersWrongFalsely : Prop := tableNumbersRow.holds Try.pinned (OpenSpec.ofChange tableNumbersWrong)

/-- 'droverlaw22.TableApplies': WHATEVER THE INPUT: true; the input reads as it did. -/
def tableAppliesSpec : ChangeSpec := { name := "tableApplies", fn := fun _ => fun
  | [d] => { results := [.lit (.bool true)], args := [d] }
  | _ => none }
def tableAppliesRow : OpenClaim := { program := "ytgljmljmljccgaa", sum := "96aebce7f77ea892da36ee016de505aa20d20caec6af0d86ef4277b28aa77b23", func := "drover/droverlaw22.TableApplies", spec := "tableApplies", inPlace := ["internal/bytealg.abigen_runtime_cmpstring", "slices.overlaps[drover/api.Account]", "slices.overlaps[drover/api.Pair]"], unfollowed := true, recurses := true, apart := false }
def TableAppliesSaid : Prop := tableAppliesRow.holds Try.pinned (OpenSpec.ofChange tableAppliesSpec)

/-- ITS FALSE NEIGHBOUR: 'it returns false'. Refute it at one input. -/
def tableAppliesWrong : ChangeSpec := { name := "tableApplies", fn := fun _ => fun
  | [d] => { results := [.lit (.bool false)], args := [d] }
  | _ => none }
def TableAppliesWrongFalsely : Prop := tableAppliesRow.holds Try.pinned (OpenSpec.ofChange tableAppliesWrong)

/-- 'droverlaw22.TableBatches': WHATEVER THE INPUT: true; the input reads as it did. -/
def tableBatchesSpec : ChangeSpec := { name := "tableBatches", fn := fun _ => fun
  | [d] => { results := [.lit (.bool true)], args := [d] }
  | _ => none }
def tableBatchesRow : OpenClaim := { program := "ytgljmljmljccgaa", sum := "96aebce7f77ea892da36ee016de505aa20d20caec6af0d86ef4277b28aa77b23", func := "drover/droverlaw22.TableBatches", spec := "tableBatches", inPlace := ["internal/bytealg.abigen_runtime_cmpstring", "slices.overlaps[drover/api.Account]", "slices.overlaps[drover/api.Pair]"], unfollowed := true, recurses := true, apart := false }
def TableBatchesSaid : Prop := tableBatchesRow.holds Try.pinned (OpenSpec.ofChange tableBatchesSpec)

/-- ITS FALSE NEIGHBOUR: 'it returns false'. Refute it at one input. -/
def tableBatchesWrong : ChangeSpec := { name := "tableBatches", fn := fun _ => fun
  | [d] => { results := [.lit (.bool false)], args := [d] }
  | _ => none }
def TableBatchesWrongFalsely : Prop := tableBatchesRow.holds Try.pinned (OpenSpec.ofChange tableBatchesWrong)

/-- 'droverlaw22.TableParts': WHATEVER THE INPUT: true; the input reads as it did. -/
def tablePartsSpec : ChangeSpec := { name := "tableParts", fn := fun _ => fun
  | [d] => { results := [.lit (.bool true)], args := [d] }
  | _ => none }
def tablePartsRow : OpenClaim := { program := "ytgljmljmljccgaa", sum := "96aebce7f77ea892da36ee016de505aa20d20caec6af0d86ef4277b28aa77b23", func := "drover/droverlaw22.TableParts", spec := "tableParts", inPlace := ["internal/bytealg.abigen_runtime_cmpstring", "slices.overlaps[drover/api.Account]", "slices.overlaps[drover/api.Pair]"], unfollowed := true, recurses := true, apart := false }
def TablePartsSaid : Prop := tablePartsRow.holds Try.pinned (OpenSpec.ofChange tablePartsSpec)

/-- ITS FALSE NEIGHBOUR: 'it returns false'. Refute it at one input. -/
def tablePartsWrong : ChangeSpec := { name := "tableParts", fn := fun _ => fun
  | [d] => { results := [.lit (.bool false)], args := [d] }
  | _ => none }
def TablePartsWrongFalsely : Prop := tablePartsRow.holds Try.pinned (OpenSpec.ofChange tablePartsWrong)

/-- 'droverlaw23.ExecTwice': WHATEVER THE INPUT: true; the input reads as it did. -/
def execTwiceSpec : ChangeSpec := { name := "execTwice", fn := fun _ => fun
  | [d] => { results := [.lit (.bool true)], args := [d] }
  | _ => none }
def execTwiceRow : OpenClaim := { program := "ytgljmljmljccgaa", sum := "96aebce7f77ea892da36ee016de505aa20d20caec6af0d86ef4277b28aa77b23", func := "drover/droverlaw23.ExecTwice", spec := "execTwice", inPlace := ["internal/bytealg.abigen_runtime_cmpstring", "slices.overlaps[drover/api.Account]", "slices.overlaps[drover/api.Pair]"], unfollowed := true, recurses := true, apart := false }
def ExecTwiceSaid : Prop := execTwiceRow.holds Try.pinned (OpenSpec.ofChange execTwiceSpec)

/-- ITS FALSE NEIGHBOUR: 'it returns false'. Refute it at one input. -/
def execTwiceWrong : ChangeSpec := { name := "execTwice", fn := fun _ => fun
  | [d] => { results := [.lit (.bool false)], args := [d] }
  | _ => none }
def ExecTwiceWrongFalsely : Prop := execTwiceRow.holds Try.pinned (OpenSpec.ofChange execTwiceWrong)

/-- 'droverlaw23.ExecPushes': WHATEVER THE INPUT: true; the input reads as it did. -/
def execPushesSpec : ChangeSpec := { name := "execPushes", fn := fun _ => fun
  | [d] => { results := [.lit (.bool true)], args := [d] }
  | _ => none }
def execPushesRow : OpenClaim := { program := "ytgljmljmljccgaa", sum := "96aebce7f77ea892da36ee016de505aa20d20caec6af0d86ef4277b28aa77b23", func := "drover/droverlaw23.ExecPushes", spec := "execPushes", inPlace := ["internal/bytealg.abigen_runtime_cmpstring", "slices.overlaps[drover/api.Account]", "slices.overlaps[drover/api.Pair]"], unfollowed := true, recurses := true, apart := false }
def ExecPushesSaid : Prop := execPushesRow.holds Try.pinned (OpenSpec.ofChange execPushesSpec)

/-- ITS FALSE NEIGHBOUR: 'it returns false'. Refute it at one input. -/
def execPushesWrong : ChangeSpec := { name := "execPushes", fn := fun _ => fun
  | [d] => { results := [.lit (.bool false)], args := [d] }
  | _ => none }
def ExecPushesWrongFalsely : Prop := execPushesRow.holds Try.pinned (OpenSpec.ofChange execPushesWrong)

/-- 'droverlaw23.ExecSteps': WHATEVER THE INPUT: true; the input reads as it did. -/
def execStepsSpec : ChangeSpec := { name := "execSteps", fn := fun _ => fun
  | [d] => { results := [.lit (.bool true)], args := [d] }
  | _ => none }
def execStepsRow : OpenClaim := { program := "ytgljmljmljccgaa", sum := "96aebce7f77ea892da36ee016de505aa20d20caec6af0d86ef4277b28aa77b23", func := "drover/droverlaw23.ExecSteps", spec := "execSteps", inPlace := ["internal/bytealg.abigen_runtime_cmpstring", "slices.overlaps[drover/api.Account]", "slices.overlaps[drover/api.Pair]"], unfollowed := true, recurses := true, apart := false }
def ExecStepsSaid : Prop := execStepsRow.holds Try.pinned (OpenSpec.ofChange execStepsSpec)

/-- ITS FALSE NEIGHBOUR: 'it returns false'. Refute it at one input. -/
def execStepsWrong : ChangeSpec := { name := "execSteps", fn := fun _ => fun
  | [d] => { results := [.lit (.bool false)], args := [d] }
  | _ => none }
def ExecStepsWrongFalsely : Prop := execStepsRow.holds Try.pinned (OpenSpec.ofChange execStepsWrong)

/-- 'droverlaw23.ExecLacks': WHATEVER THE INPUT: true; the input reads as it did. -/
def execLacksSpec : ChangeSpec := { name := "execLacks", fn := fun _ => fun
  | [d] => { results := [.lit (.bool true)], args := [d] }
  | _ => none }
def execLacksRow : OpenClaim := { program := "ytgljmljmljccgaa", sum := "96aebce7f77ea892da36ee016de505aa20d20caec6af0d86ef4277b28aa77b23", func := "drover/droverlaw23.ExecLacks", spec := "execLacks", inPlace := ["internal/bytealg.abigen_runtime_cmpstring", "slices.overlaps[drover/api.Account]", "slices.overlaps[drover/api.Pair]"], unfollowed := true, recurses := true, apart := false }
def ExecLacksSaid : Prop := execLacksRow.holds Try.pinned (OpenSpec.ofChange execLacksSpec)

/-- ITS FALSE NEIGHBOUR: 'it returns false'. Refute it at one input. -/
def execLacksWrong : ChangeSpec := { name := "execLacks", fn := fun _ => fun
  | [d] => { results := [.lit (.bool false)], args := [d] }
  | _ => none }
def ExecLacksWrongFalsely : Prop := execLacksRow.holds Try.pinned (OpenSpec.ofChange execLacksWrong)

/-- 'droverlaw23.ExecFold': WHATEVER THE INPUT: true; the input reads as it did. -/
def execFoldSpec : ChangeSpec := { name := "execFold", fn := fun _ => fun
  | [d] => { results := [.lit (.bool true)], args := [d] }
  | _ => none }
def execFoldRow : OpenClaim := { program := "ytgljmljmljccgaa", sum := "96aebce7f77ea892da36ee016de505aa20d20caec6af0d86ef4277b28aa77b23", func := "drover/droverlaw23.ExecFold", spec := "execFold", inPlace := ["internal/bytealg.abigen_runtime_cmpstring", "slices.overlaps[drover/api.Account]", "slices.overlaps[drover/api.Pair]"], unfollowed := true, recurses := true, apart := false }
def ExecFoldSaid : Prop := execFoldRow.holds Try.pinned (OpenSpec.ofChange execFoldSpec)

/-- ITS FALSE NEIGHBOUR: 'it returns false'. Refute it at one input. -/
def execFoldWrong : ChangeSpec := { name := "execFold", fn := fun _ => fun
  | [d] => { results := [.lit (.bool false)], args := [d] }
  | _ => none }
def ExecFoldWrongFalsely : Prop := execFoldRow.holds Try.pinned (OpenSpec.ofChange execFoldWrong)

/- THE SECOND FORM. 'bulk': how many values and letters a reading holds, each counted each time it is reached (what is shared counts as often as it is met; a slice's spare places count too). A statement '..UptoSaid' is the law's where the arguments, and the package variables that the reading takes, are together of bulk at most 1048576: NARROWER than '..Said'. Prove '..Said' where nothing that the law and all that it calls make is longer than what came in: it says more and counts as full. Else prove '..UptoSaid'. A law counts once. -/
mutual
def uptoBulk {H : Type} : DataW H → Nat
  | .lit (.string bytes) => bytes.length + 1
  | .lit _ => 1
  | .nil => 1
  | .ptr d => uptoBulk d + 1
  | .slice elems spare => uptoBulkAll elems + uptoBulkAll spare + 1
  | .agg parts => uptoBulkAll parts + 1
  | .iface _ d => uptoBulk d + 1
  | .map entries => uptoBulkEntries entries + 1
  | .held _ => 1
def uptoBulkAll {H : Type} : List (DataW H) → Nat
  | [] => 0
  | d :: r => uptoBulk d + uptoBulkAll r
def uptoBulkEntries {H : Type} : List (Lit × DataW H) → Nat
  | [] => 0
  | x :: r => uptoBulkEntry x + uptoBulkEntries r
def uptoBulkEntry {H : Type} : Lit × DataW H → Nat
  | (.string bytes, d) => bytes.length + uptoBulk d + 1
  | (_, d) => uptoBulk d + 1
 end
def uptoSmall : (H : Type) → List (DataW H) → Bool := fun _ ds => decide (uptoBulkAll ds ≤ 1048576)
def OpenSpec.upto (s : _root_.Go.ChangeSpec) : _root_.Go.OpenSpec := { _root_.Go.OpenSpec.ofChange s with cond := some uptoSmall }

/-- 'droverlaw22.TableGets', WHERE WHAT IT READS IS OF BULK AT MOST 1048576: true; the input reads as it did. -/
def tableGetsUptoRow : OpenClaim := { program := "ytgljmljmljccgaa", sum := "96aebce7f77ea892da36ee016de505aa20d20caec6af0d86ef4277b28aa77b23", func := "drover/droverlaw22.TableGets", spec := "tableGets", inPlace := ["internal/bytealg.abigen_runtime_cmpstring", "slices.overlaps[drover/api.Account]", "slices.overlaps[drover/api.Pair]"], unfollowed := true, recurses := true, apart := false, narrowed := true }
def TableGetsUptoSaid : Prop := tableGetsUptoRow.holds Try.pinned (OpenSpec.upto tableGetsSpec)

/-- 'droverlaw22.TableOnce', WHERE WHAT IT READS IS OF BULK AT MOST 1048576: true; the input reads as it did. -/
def tableOnceUptoRow : OpenClaim := { program := "ytgljmljmljccgaa", sum := "96aebce7f77ea892da36ee016de505aa20d20caec6af0d86ef4277b28aa77b23", func := "drover/droverlaw22.TableOnce", spec := "tableOnce", inPlace := ["internal/bytealg.abigen_runtime_cmpstring", "slices.overlaps[drover/api.Account]", "slices.overlaps[drover/api.Pair]"], unfollowed := true, recurses := true, apart := false, narrowed := true }
def TableOnceUptoSaid : Prop := tableOnceUptoRow.holds Try.pinned (OpenSpec.upto tableOnceSpec)

/-- 'droverlaw22.TableNumbers', WHERE WHAT IT READS IS OF BULK AT MOST 1048576: true; the input reads as it did. -/
def tableNumbersUptoRow : OpenClaim := { program := "ytgljmljmljccgaa", sum := "96aebce7f77ea892da36ee016de505aa20d20caec6af0d86ef4277b28aa77b23", func := "drover/droverlaw22.TableNumbers", spec := "tableNumbers", inPlace := ["internal/bytealg.abigen_runtime_cmpstring", "slices.overlaps[drover/api.Account]", "slices.overlaps[drover/api.Pair]"], unfollowed := true, recurses := true, apart := false, narrowed := true }
def TableNumbersUptoSaid : Prop := tableNumbersUptoRow.holds Try.pinned (OpenSpec.upto tableNumbersSpec)

/-- 'droverlaw22.TableApplies', WHERE WHAT IT READS IS OF BULK AT MOST 1048576: true; the input reads as it did. -/
def tableAppliesUptoRow : OpenClaim := { program := "ytgljmljmljccgaa", sum := "96aebce7f77ea892da36ee016de505aa20d20caec6af0d86ef4277b28aa77b23", func := "drover/droverlaw22.TableApplies", spec := "tableApplies", inPlace := ["internal/bytealg.abigen_runtime_cmpstring", "slices.overlaps[drover/api.Account]", "slices.overlaps[drover/api.Pair]"], unfollowed := true, recurses := true, apart := false, narrowed := true }
def TableAppliesUptoSaid : Prop := tableAppliesUptoRow.holds Try.pinned (OpenSpec.upto tableAppliesSpec)

/-- 'droverlaw22.TableBatches', WHERE WHAT IT READS IS OF BULK AT MOST 1048576: true; the input reads as it did. -/
def tableBatchesUptoRow : OpenClaim := { program := "ytgljmljmljccgaa", sum := "96aebce7f77ea892da36ee016de505aa20d20caec6af0d86ef4277b28aa77b23", func := "drover/droverlaw22.TableBatches", spec := "tableBatches", inPlace := ["internal/bytealg.abigen_runtime_cmpstring", "slices.overlaps[drover/api.Account]", "slices.overlaps[drover/api.Pair]"], unfollowed := true, recurses := true, apart := false, narrowed := true }
def TableBatchesUptoSaid : Prop := tableBatchesUptoRow.holds Try.pinned (OpenSpec.upto tableBatchesSpec)

/-- 'droverlaw22.TableParts', WHERE WHAT IT READS IS OF BULK AT MOST 1048576: true; the input reads as it did. -/
def tablePartsUptoRow : OpenClaim := { program := "ytgljmljmljccgaa", sum := "96aebce7f77ea892da36ee016de505aa20d20caec6af0d86ef4277b28aa77b23", func := "drover/droverlaw22.TableParts", spec := "tableParts", inPlace := ["internal/bytealg.abigen_runtime_cmpstring", "slices.overlaps[drover/api.Account]", "slices.overlaps[drover/api.Pair]"], unfollowed := true, recurses := true, apart := false, narrowed := true }
def TablePartsUptoSaid : Prop := tablePartsUptoRow.holds Try.pinned (OpenSpec.upto tablePartsSpec)

/-- 'droverlaw23.ExecTwice', WHERE WHAT IT READS IS OF BULK AT MOST 1048576: true; the input reads as it did. -/
def execTwiceUptoRow : OpenClaim := { program := "ytgljmljmljccgaa", sum := "96aebce7f77ea892da36ee016de505aa20d20caec6af0d86ef4277b28aa77b23", func := "drover/droverlaw23.ExecTwice", spec := "execTwice", inPlace := ["internal/bytealg.abigen_runtime_cmpstring", "slices.overlaps[drover/api.Account]", "slices.overlaps[drover/api.Pair]"], unfollowed := true, recurses := true, apart := false, narrowed := true }
def ExecTwiceUptoSaid : Prop := execTwiceUptoRow.holds Try.pinned (OpenSpec.upto execTwiceSpec)

/-- 'droverlaw23.ExecPushes', WHERE WHAT IT READS IS OF BULK AT MOST 1048576: true; the input reads as it did. -/
def execPushesUptoRow : OpenClaim := { program := "ytgljmljmljccgaa", sum := "96aebce7f77ea892da36ee016de505aa20d20caec6af0d86ef4277b28aa77b23", func := "drover/droverlaw23.ExecPushes", spec := "execPushes", inPlace := ["internal/bytealg.abigen_runtime_cmpstring", "slices.overlaps[drover/api.Account]", "slices.overlaps[drover/api.Pair]"], unfollowed := true, recurses := true, apart := false, narrowed := true }
def ExecPushesUptoSaid : Prop := execPushesUptoRow.holds Try.pinned (OpenSpec.upto execPushesSpec)

/-- 'droverlaw23.ExecSteps', WHERE WHAT IT READS IS OF BULK AT MOST 1048576: true; the input reads as it did. -/
def execStepsUptoRow : OpenClaim := { program := "ytgljmljmljccgaa", sum := "96aebce7f77ea892da36ee016de505aa20d20caec6af0d86ef4277b28aa77b23", func := "drover/droverlaw23.ExecSteps", spec := "execSteps", inPlace := ["internal/bytealg.abigen_runtime_cmpstring", "slices.overlaps[drover/api.Account]", "slices.overlaps[drover/api.Pair]"], unfollowed := true, recurses := true, apart := false, narrowed := true }
def ExecStepsUptoSaid : Prop := execStepsUptoRow.holds Try.pinned (OpenSpec.upto execStepsSpec)

/-- 'droverlaw23.ExecLacks', WHERE WHAT IT READS IS OF BULK AT MOST 1048576: true; the input reads as it did. -/
def execLacksUptoRow : OpenClaim := { program := "ytgljmljmljccgaa", sum := "96aebce7f77ea892da36ee016de505aa20d20caec6af0d86ef4277b28aa77b23", func := "drover/droverlaw23.ExecLacks", spec := "execLacks", inPlace := ["internal/bytealg.abigen_runtime_cmpstring", "slices.overlaps[drover/api.Account]", "slices.overlaps[drover/api.Pair]"], unfollowed := true, recurses := true, apart := false, narrowed := true }
def ExecLacksUptoSaid : Prop := execLacksUptoRow.holds Try.pinned (OpenSpec.upto execLacksSpec)

/-- 'droverlaw23.ExecFold', WHERE WHAT IT READS IS OF BULK AT MOST 1048576: true; the input reads as it did. -/
def execFoldUptoRow : OpenClaim := { program := "ytgljmljmljccgaa", sum := "96aebce7f77ea892da36ee016de505aa20d20caec6af0d86ef4277b28aa77b23", func := "drover/droverlaw23.ExecFold", spec := "execFold", inPlace := ["internal/bytealg.abigen_runtime_cmpstring", "slices.overlaps[drover/api.Account]", "slices.overlaps[drover/api.Pair]"], unfollowed := true, recurses := true, apart := false, narrowed := true }
def ExecFoldUptoSaid : Prop := execFoldUptoRow.holds Try.pinned (OpenSpec.upto execFoldSpec)

end Rows
end Go.Proofs.Ytgljmljmljccgaa
