/-
  No cell of these rows narrows 'for every input' (looked for: loops, veiled, ifaces, maps, wideKeys, modest, calm, conditions, laid).
  DERIVED. THE GIVEN ROWS OF THIS SEAT. 11 by the template 'for every input the law returns true; each argument reads behind the call as it read before'; 0 by the template 'total and deterministic' (their statements: YtffoglofijffpaaTotals.lean).
  GIVEN WITH THE SEED: the statements are not yours to turn. If you find one false, say at which input.
  Laid BY PROGRAM, IN A SANDBOX (cutbox-rows.mjs): the forced cells as the released guide's own fill.sh prints them over the translation b46580b9113d7d17… (all of the seat's roots in one cut). By AI agents, Wed Nov 11 2026. No macro, syntax, notation, axiom, sorry.
-/
import Derived.Test.YtffoglofijffpaaChecked
import GoSem.Claim
import GoSem.ClaimJoined
import GoSem.ClaimMapViews
import Derived.JoinedTies
import Derived.KernelRfl
namespace Go.Proofs.Ytffoglofijffpaa
/- THE CELL 'sum', in the pinned program and in every row, IS THE sha256 OF THE DUMP (.gsa) THAT YtffoglofijffpaaProg.lean LOADS. Nothing in Lean hashes anything: it is a label: what it is worth is what the hold of that sum in a sandbox is worth. -/
noncomputable def Try.pinned : Pinned := { name := "ytffoglofijffpaa", sum := "b46580b9113d7d17f1439b73676ba0d83a3ca31f1b5e3ac7d431221185c1ede5", checked := Try.checked }
namespace Rows
def none {H : Type} : Left H := { results := [], args := [] }

/-- 'droverlaw22.TableGets': WHATEVER THE INPUT: true; the input reads as it did. -/
def tableGetsSpec : ChangeSpec := { name := "tableGets", fn := fun _ => fun
  | [d] => { results := [.lit (.bool true)], args := [d] }
  | _ => none }
def tableGetsRow : OpenClaim := { program := "ytffoglofijffpaa", sum := "b46580b9113d7d17f1439b73676ba0d83a3ca31f1b5e3ac7d431221185c1ede5", func := "drover/droverlaw22.TableGets", spec := "tableGets", inPlace := ["internal/bytealg.abigen_runtime_cmpstring", "slices.overlaps[drover/api.Account]", "slices.overlaps[drover/api.Pair]"], unfollowed := true, recurses := true, apart := false }
def TableGetsSaid : Prop := tableGetsRow.holds Try.pinned (OpenSpec.ofChange tableGetsSpec)

/-- ITS FALSE NEIGHBOUR: 'it returns false'. Refute it at one input. -/
def tableGetsWrong : ChangeSpec := { name := "tableGets", fn := fun _ => fun
  | [d] => { results := [.lit (.bool false)], args := [d] }
  | _ => none }
def TableGetsWrongFalsely : Prop := tableGetsRow.holds Try.pinned (OpenSpec.ofChange tableGetsWrong)

/-- 'droverlaw22.TableOnce': WHATEVER THE INPUT: true; the input reads as it did. -/
def tableOnceSpec : ChangeSpec := { name := "tableOnce", fn := fun _ => fun
  | [d] => { results := [.lit (.bool true)], args := [d] }
  | _ => none }
def tableOnceRow : OpenClaim := { program := "ytffoglofijffpaa", sum := "b46580b9113d7d17f1439b73676ba0d83a3ca31f1b5e3ac7d431221185c1ede5", func := "drover/droverlaw22.TableOnce", spec := "tableOnce", inPlace := ["internal/bytealg.abigen_runtime_cmpstring", "slices.overlaps[drover/api.Account]", "slices.overlaps[drover/api.Pair]"], unfollowed := true, recurses := true, apart := false }
def TableOnceSaid : Prop := tableOnceRow.holds Try.pinned (OpenSpec.ofChange tableOnceSpec)

/-- ITS FALSE NEIGHBOUR: 'it returns false'. Refute it at one input. -/
def tableOnceWrong : ChangeSpec := { name := "tableOnce", fn := fun _ => fun
  | [d] => { results := [.lit (.bool false)], args := [d] }
  | _ => none }
def TableOnceWrongFalsely : Prop := tableOnceRow.holds Try.pinned (OpenSpec.ofChange tableOnceWrong)

/-- 'droverlaw22.TableNumbers': WHATEVER THE INPUT: true; the input reads as it did. -/
def tableNumbersSpec : ChangeSpec := { name := "tableNumbers", fn := fun _ => fun
  | [d] => { results := [.lit (.bool true)], args := [d] }
  | _ => none }
def tableNumbersRow : OpenClaim := { program := "ytffoglofijffpaa", sum := "b46580b9113d7d17f1439b73676ba0d83a3ca31f1b5e3ac7d431221185c1ede5", func := "drover/droverlaw22.TableNumbers", spec := "tableNumbers", inPlace := ["internal/bytealg.abigen_runtime_cmpstring", "slices.overlaps[drover/api.Account]", "slices.overlaps[drover/api.Pair]"], unfollowed := true, recurses := true, apart := false }
def TableNumbersSaid : Prop := tableNumbersRow.holds Try.pinned (OpenSpec.ofChange tableNumbersSpec)

/-- ITS FALSE NEIGHBOUR: 'it returns false'. Refute it at one input. -/
def tableNumbersWrong : ChangeSpec := { name := "tableNumbers", fn := fun _ => fun
  | [d] => { results := [.lit (.bool false)], args := [d] }
  | _ => none }
def TableNumbersWrongFalsely : Prop := tableNumbersRow.holds Try.pinned (OpenSpec.ofChange tableNumbersWrong)

/-- 'droverlaw19.VoteHas': WHATEVER THE INPUT: true; the input reads as it did. -/
def voteHasSpec : ChangeSpec := { name := "voteHas", fn := fun _ => fun
  | [d] => { results := [.lit (.bool true)], args := [d] }
  | _ => none }
def voteHasRow : OpenClaim := { program := "ytffoglofijffpaa", sum := "b46580b9113d7d17f1439b73676ba0d83a3ca31f1b5e3ac7d431221185c1ede5", func := "drover/droverlaw19.VoteHas", spec := "voteHas", inPlace := ["slices.overlaps[drover/api.Vote]"], unfollowed := true, recurses := true, apart := false }
def VoteHasSaid : Prop := voteHasRow.holds Try.pinned (OpenSpec.ofChange voteHasSpec)

/-- ITS FALSE NEIGHBOUR: 'it returns false'. Refute it at one input. -/
def voteHasWrong : ChangeSpec := { name := "voteHas", fn := fun _ => fun
  | [d] => { results := [.lit (.bool false)], args := [d] }
  | _ => none }
def VoteHasWrongFalsely : Prop := voteHasRow.holds Try.pinned (OpenSpec.ofChange voteHasWrong)

/-- 'droverlaw19.VoteOnce': WHATEVER THE INPUT: true; the input reads as it did. -/
def voteOnceSpec : ChangeSpec := { name := "voteOnce", fn := fun _ => fun
  | [d] => { results := [.lit (.bool true)], args := [d] }
  | _ => none }
def voteOnceRow : OpenClaim := { program := "ytffoglofijffpaa", sum := "b46580b9113d7d17f1439b73676ba0d83a3ca31f1b5e3ac7d431221185c1ede5", func := "drover/droverlaw19.VoteOnce", spec := "voteOnce", inPlace := ["slices.overlaps[drover/api.Vote]"], unfollowed := true, recurses := true, apart := false }
def VoteOnceSaid : Prop := voteOnceRow.holds Try.pinned (OpenSpec.ofChange voteOnceSpec)

/-- ITS FALSE NEIGHBOUR: 'it returns false'. Refute it at one input. -/
def voteOnceWrong : ChangeSpec := { name := "voteOnce", fn := fun _ => fun
  | [d] => { results := [.lit (.bool false)], args := [d] }
  | _ => none }
def VoteOnceWrongFalsely : Prop := voteOnceRow.holds Try.pinned (OpenSpec.ofChange voteOnceWrong)

/-- 'droverlaw22.TableApplies': WHATEVER THE INPUT: true; the input reads as it did. -/
def tableAppliesSpec : ChangeSpec := { name := "tableApplies", fn := fun _ => fun
  | [d] => { results := [.lit (.bool true)], args := [d] }
  | _ => none }
def tableAppliesRow : OpenClaim := { program := "ytffoglofijffpaa", sum := "b46580b9113d7d17f1439b73676ba0d83a3ca31f1b5e3ac7d431221185c1ede5", func := "drover/droverlaw22.TableApplies", spec := "tableApplies", inPlace := ["internal/bytealg.abigen_runtime_cmpstring", "slices.overlaps[drover/api.Account]", "slices.overlaps[drover/api.Pair]"], unfollowed := true, recurses := true, apart := false }
def TableAppliesSaid : Prop := tableAppliesRow.holds Try.pinned (OpenSpec.ofChange tableAppliesSpec)

/-- ITS FALSE NEIGHBOUR: 'it returns false'. Refute it at one input. -/
def tableAppliesWrong : ChangeSpec := { name := "tableApplies", fn := fun _ => fun
  | [d] => { results := [.lit (.bool false)], args := [d] }
  | _ => none }
def TableAppliesWrongFalsely : Prop := tableAppliesRow.holds Try.pinned (OpenSpec.ofChange tableAppliesWrong)

/-- 'droverlaw19.VoteGives': WHATEVER THE INPUT: true; the input reads as it did. -/
def voteGivesSpec : ChangeSpec := { name := "voteGives", fn := fun _ => fun
  | [d] => { results := [.lit (.bool true)], args := [d] }
  | _ => none }
def voteGivesRow : OpenClaim := { program := "ytffoglofijffpaa", sum := "b46580b9113d7d17f1439b73676ba0d83a3ca31f1b5e3ac7d431221185c1ede5", func := "drover/droverlaw19.VoteGives", spec := "voteGives", inPlace := ["slices.overlaps[drover/api.Vote]"], unfollowed := true, recurses := true, apart := false }
def VoteGivesSaid : Prop := voteGivesRow.holds Try.pinned (OpenSpec.ofChange voteGivesSpec)

/-- ITS FALSE NEIGHBOUR: 'it returns false'. Refute it at one input. -/
def voteGivesWrong : ChangeSpec := { name := "voteGives", fn := fun _ => fun
  | [d] => { results := [.lit (.bool false)], args := [d] }
  | _ => none }
def VoteGivesWrongFalsely : Prop := voteGivesRow.holds Try.pinned (OpenSpec.ofChange voteGivesWrong)

/-- 'droverlaw22.TableBatches': WHATEVER THE INPUT: true; the input reads as it did. -/
def tableBatchesSpec : ChangeSpec := { name := "tableBatches", fn := fun _ => fun
  | [d] => { results := [.lit (.bool true)], args := [d] }
  | _ => none }
def tableBatchesRow : OpenClaim := { program := "ytffoglofijffpaa", sum := "b46580b9113d7d17f1439b73676ba0d83a3ca31f1b5e3ac7d431221185c1ede5", func := "drover/droverlaw22.TableBatches", spec := "tableBatches", inPlace := ["internal/bytealg.abigen_runtime_cmpstring", "slices.overlaps[drover/api.Account]", "slices.overlaps[drover/api.Pair]"], unfollowed := true, recurses := true, apart := false }
def TableBatchesSaid : Prop := tableBatchesRow.holds Try.pinned (OpenSpec.ofChange tableBatchesSpec)

/-- ITS FALSE NEIGHBOUR: 'it returns false'. Refute it at one input. -/
def tableBatchesWrong : ChangeSpec := { name := "tableBatches", fn := fun _ => fun
  | [d] => { results := [.lit (.bool false)], args := [d] }
  | _ => none }
def TableBatchesWrongFalsely : Prop := tableBatchesRow.holds Try.pinned (OpenSpec.ofChange tableBatchesWrong)

/-- 'droverlaw19.VoteTrims': WHATEVER THE INPUT: true; the input reads as it did. -/
def voteTrimsSpec : ChangeSpec := { name := "voteTrims", fn := fun _ => fun
  | [d] => { results := [.lit (.bool true)], args := [d] }
  | _ => none }
def voteTrimsRow : OpenClaim := { program := "ytffoglofijffpaa", sum := "b46580b9113d7d17f1439b73676ba0d83a3ca31f1b5e3ac7d431221185c1ede5", func := "drover/droverlaw19.VoteTrims", spec := "voteTrims", inPlace := ["slices.overlaps[drover/api.Vote]"], unfollowed := true, recurses := true, apart := false }
def VoteTrimsSaid : Prop := voteTrimsRow.holds Try.pinned (OpenSpec.ofChange voteTrimsSpec)

/-- ITS FALSE NEIGHBOUR: 'it returns false'. Refute it at one input. -/
def voteTrimsWrong : ChangeSpec := { name := "voteTrims", fn := fun _ => fun
  | [d] => { results := [.lit (.bool false)], args := [d] }
  | _ => none }
def VoteTrimsWrongFalsely : Prop := voteTrimsRow.holds Try.pinned (OpenSpec.ofChange voteTrimsWrong)

/-- 'droverlaw22.TableParts': WHATEVER THE INPUT: true; the input reads as it did. -/
def tablePartsSpec : ChangeSpec := { name := "tableParts", fn := fun _ => fun
  | [d] => { results := [.lit (.bool true)], args := [d] }
  | _ => none }
def tablePartsRow : OpenClaim := { program := "ytffoglofijffpaa", sum := "b46580b9113d7d17f1439b73676ba0d83a3ca31f1b5e3ac7d431221185c1ede5", func := "drover/droverlaw22.TableParts", spec := "tableParts", inPlace := ["internal/bytealg.abigen_runtime_cmpstring", "slices.overlaps[drover/api.Account]", "slices.overlaps[drover/api.Pair]"], unfollowed := true, recurses := true, apart := false }
def TablePartsSaid : Prop := tablePartsRow.holds Try.pinned (OpenSpec.ofChange tablePartsSpec)

/-- ITS FALSE NEIGHBOUR: 'it returns false'. Refute it at one input. -/
def tablePartsWrong : ChangeSpec := { name := "tableParts", fn := fun _ => fun
  | [d] => { results := [.lit (.bool false)], args := [d] }
  | _ => none }
def TablePartsWrongFalsely : Prop := tablePartsRow.holds Try.pinned (OpenSpec.ofChange tablePartsWrong)

/-- 'droverlaw19.VotePlaces': WHATEVER THE INPUT: true; the input reads as it did. -/
def votePlacesSpec : ChangeSpec := { name := "votePlaces", fn := fun _ => fun
  | [d] => { results := [.lit (.bool true)], args := [d] }
  | _ => none }
def votePlacesRow : OpenClaim := { program := "ytffoglofijffpaa", sum := "b46580b9113d7d17f1439b73676ba0d83a3ca31f1b5e3ac7d431221185c1ede5", func := "drover/droverlaw19.VotePlaces", spec := "votePlaces", inPlace := ["slices.overlaps[drover/api.Vote]"], unfollowed := true, recurses := true, apart := false }
def VotePlacesSaid : Prop := votePlacesRow.holds Try.pinned (OpenSpec.ofChange votePlacesSpec)

/-- ITS FALSE NEIGHBOUR: 'it returns false'. Refute it at one input. -/
def votePlacesWrong : ChangeSpec := { name := "votePlaces", fn := fun _ => fun
  | [d] => { results := [.lit (.bool false)], args := [d] }
  | _ => none }
def VotePlacesWrongFalsely : Prop := votePlacesRow.holds Try.pinned (OpenSpec.ofChange votePlacesWrong)

/- THE SECOND FORM. 'bulk': how many values and letters a reading holds, each counted each time it is reached (what is shared counts as often as it is met; a slice's spare places count too). A statement '..UptoSaid' is the law's where the arguments, and the package variables that the reading takes, are together of bulk at most 1048576: NARROWER than '..Said'. Prove '..Said' where nothing that the law and all that it calls make is longer than what came in: it says more and counts as full. Else prove '..UptoSaid'. A law counts once. -/
mutual
def uptoBulk {H : Type} : DataW H → Nat
  | .lit (.string bytes) => bytes.length + 1
  | .lit _ => 1
  | .nil => 1
  | .ptr d => uptoBulk d + 1
  | .slice elems spare => uptoBulkAll elems + uptoBulkAll spare + 1
  | .agg parts => uptoBulkAll parts + 1
  | .iface _ d => uptoBulk d + 1
  | .map entries => uptoBulkEntries entries + 1
  | .held _ => 1
def uptoBulkAll {H : Type} : List (DataW H) → Nat
  | [] => 0
  | d :: r => uptoBulk d + uptoBulkAll r
def uptoBulkEntries {H : Type} : List (Lit × DataW H) → Nat
  | [] => 0
  | x :: r => uptoBulkEntry x + uptoBulkEntries r
def uptoBulkEntry {H : Type} : Lit × DataW H → Nat
  | (.string bytes, d) => bytes.length + uptoBulk d + 1
  | (_, d) => uptoBulk d + 1
 end
def uptoSmall : (H : Type) → List (DataW H) → Bool := fun _ ds => decide (uptoBulkAll ds ≤ 1048576)
def OpenSpec.upto (s : _root_.Go.ChangeSpec) : _root_.Go.OpenSpec := { _root_.Go.OpenSpec.ofChange s with cond := some uptoSmall }

/-- 'droverlaw22.TableGets', WHERE WHAT IT READS IS OF BULK AT MOST 1048576: true; the input reads as it did. -/
def tableGetsUptoRow : OpenClaim := { program := "ytffoglofijffpaa", sum := "b46580b9113d7d17f1439b73676ba0d83a3ca31f1b5e3ac7d431221185c1ede5", func := "drover/droverlaw22.TableGets", spec := "tableGets", inPlace := ["internal/bytealg.abigen_runtime_cmpstring", "slices.overlaps[drover/api.Account]", "slices.overlaps[drover/api.Pair]"], unfollowed := true, recurses := true, apart := false, narrowed := true }
def TableGetsUptoSaid : Prop := tableGetsUptoRow.holds Try.pinned (OpenSpec.upto tableGetsSpec)

/-- 'droverlaw22.TableOnce', WHERE WHAT IT READS IS OF BULK AT MOST 1048576: true; the input reads as it did. -/
def tableOnceUptoRow : OpenClaim := { program := "ytffoglofijffpaa", sum := "b46580b9113d7d17f1439b73676ba0d83a3ca31f1b5e3ac7d431221185c1ede5", func := "drover/droverlaw22.TableOnce", spec := "tableOnce", inPlace := ["internal/bytealg.abigen_runtime_cmpstring", "slices.overlaps[drover/api.Account]", "slices.overlaps[drover/api.Pair]"], unfollowed := true, recurses := true, apart := false, narrowed := true }
def TableOnceUptoSaid : Prop := tableOnceUptoRow.holds Try.pinned (OpenSpec.upto tableOnceSpec)

/-- 'droverlaw22.TableNumbers', WHERE WHAT IT READS IS OF BULK AT MOST 1048576: true; the input reads as it did. -/
def tableNumbersUptoRow : OpenClaim := { program := "ytffoglofijffpaa", sum := "b46580b9113d7d17f1439b73676ba0d83a3ca31f1b5e3ac7d431221185c1ede5", func := "drover/droverlaw22.TableNumbers", spec := "tableNumbers", inPlace := ["internal/bytealg.abigen_runtime_cmpstring", "slices.overlaps[drover/api.Account]", "slices.overlaps[drover/api.Pair]"], unfollowed := true, recurses := true, apart := false, narrowed := true }
def TableNumbersUptoSaid : Prop := tableNumbersUptoRow.holds Try.pinned (OpenSpec.upto tableNumbersSpec)

/-- 'droverlaw19.VoteHas', WHERE WHAT IT READS IS OF BULK AT MOST 1048576: true; the input reads as it did. -/
def voteHasUptoRow : OpenClaim := { program := "ytffoglofijffpaa", sum := "b46580b9113d7d17f1439b73676ba0d83a3ca31f1b5e3ac7d431221185c1ede5", func := "drover/droverlaw19.VoteHas", spec := "voteHas", inPlace := ["slices.overlaps[drover/api.Vote]"], unfollowed := true, recurses := true, apart := false, narrowed := true }
def VoteHasUptoSaid : Prop := voteHasUptoRow.holds Try.pinned (OpenSpec.upto voteHasSpec)

/-- 'droverlaw19.VoteOnce', WHERE WHAT IT READS IS OF BULK AT MOST 1048576: true; the input reads as it did. -/
def voteOnceUptoRow : OpenClaim := { program := "ytffoglofijffpaa", sum := "b46580b9113d7d17f1439b73676ba0d83a3ca31f1b5e3ac7d431221185c1ede5", func := "drover/droverlaw19.VoteOnce", spec := "voteOnce", inPlace := ["slices.overlaps[drover/api.Vote]"], unfollowed := true, recurses := true, apart := false, narrowed := true }
def VoteOnceUptoSaid : Prop := voteOnceUptoRow.holds Try.pinned (OpenSpec.upto voteOnceSpec)

/-- 'droverlaw22.TableApplies', WHERE WHAT IT READS IS OF BULK AT MOST 1048576: true; the input reads as it did. -/
def tableAppliesUptoRow : OpenClaim := { program := "ytffoglofijffpaa", sum := "b46580b9113d7d17f1439b73676ba0d83a3ca31f1b5e3ac7d431221185c1ede5", func := "drover/droverlaw22.TableApplies", spec := "tableApplies", inPlace := ["internal/bytealg.abigen_runtime_cmpstring", "slices.overlaps[drover/api.Account]", "slices.overlaps[drover/api.Pair]"], unfollowed := true, recurses := true, apart := false, narrowed := true }
def TableAppliesUptoSaid : Prop := tableAppliesUptoRow.holds Try.pinned (OpenSpec.upto tableAppliesSpec)

/-- 'droverlaw19.VoteGives', WHERE WHAT IT READS IS OF BULK AT MOST 1048576: true; the input reads as it did. -/
def voteGivesUptoRow : OpenClaim := { program := "ytffoglofijffpaa", sum := "b46580b9113d7d17f1439b73676ba0d83a3ca31f1b5e3ac7d431221185c1ede5", func := "drover/droverlaw19.VoteGives", spec := "voteGives", inPlace := ["slices.overlaps[drover/api.Vote]"], unfollowed := true, recurses := true, apart := false, narrowed := true }
def VoteGivesUptoSaid : Prop := voteGivesUptoRow.holds Try.pinned (OpenSpec.upto voteGivesSpec)

/-- 'droverlaw22.TableBatches', WHERE WHAT IT READS IS OF BULK AT MOST 1048576: true; the input reads as it did. -/
def tableBatchesUptoRow : OpenClaim := { program := "ytffoglofijffpaa", sum := "b46580b9113d7d17f1439b73676ba0d83a3ca31f1b5e3ac7d431221185c1ede5", func := "drover/droverlaw22.TableBatches", spec := "tableBatches", inPlace := ["internal/bytealg.abigen_runtime_cmpstring", "slices.overlaps[drover/api.Account]", "slices.overlaps[drover/api.Pair]"], unfollowed := true, recurses := true, apart := false, narrowed := true }
def TableBatchesUptoSaid : Prop := tableBatchesUptoRow.holds Try.pinned (OpenSpec.upto tableBatchesSpec)

/-- 'droverlaw19.VoteTrims', WHERE WHAT IT READS IS OF BULK AT MOST 1048576: true; the input reads as it did. -/
def voteTrimsUptoRow : OpenClaim := { program := "ytffoglofijffpaa", sum := "b46580b9113d7d17f1439b73676ba0d83a3ca31f1b5e3ac7d431221185c1ede5", func := "drover/droverlaw19.VoteTrims", spec := "voteTrims", inPlace := ["slices.overlaps[drover/api.Vote]"], unfollowed := true, recurses := true, apart := false, narrowed := true }
def VoteTrimsUptoSaid : Prop := voteTrimsUptoRow.holds Try.pinned (OpenSpec.upto voteTrimsSpec)

/-- 'droverlaw22.TableParts', WHERE WHAT IT READS IS OF BULK AT MOST 1048576: true; the input reads as it did. -/
def tablePartsUptoRow : OpenClaim := { program := "ytffoglofijffpaa", sum := "b46580b9113d7d17f1439b73676ba0d83a3ca31f1b5e3ac7d431221185c1ede5", func := "drover/droverlaw22.TableParts", spec := "tableParts", inPlace := ["internal/bytealg.abigen_runtime_cmpstring", "slices.overlaps[drover/api.Account]", "slices.overlaps[drover/api.Pair]"], unfollowed := true, recurses := true, apart := false, narrowed := true }
def TablePartsUptoSaid : Prop := tablePartsUptoRow.holds Try.pinned (OpenSpec.upto tablePartsSpec)

/-- 'droverlaw19.VotePlaces', WHERE WHAT IT READS IS OF BULK AT MOST 1048576: true; the input reads as it did. -/
def votePlacesUptoRow : OpenClaim := { program := "ytffoglofijffpaa", sum := "b46580b9113d7d17f1439b73676ba0d83a3ca31f1b5e3ac7d431221185c1ede5", func := "drover/droverlaw19.VotePlaces", spec := "votePlaces", inPlace := ["slices.overlaps[drover/api.Vote]"], unfollowed := true, recurses := true, apart := false, narrowed := true }
def VotePlacesUptoSaid : Prop := votePlacesUptoRow.holds Try.pinned (OpenSpec.upto votePlacesSpec)

end Rows
end Go.Proofs.Ytffoglofijffpaa
