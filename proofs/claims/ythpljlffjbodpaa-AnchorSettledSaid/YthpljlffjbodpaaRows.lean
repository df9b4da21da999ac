/-
  No cell of these rows narrows 'for every input' (looked for: loops, veiled, ifaces, maps, wideKeys, modest, calm, conditions, laid).
  DERIVED. THE GIVEN ROWS OF THIS SEAT. 12 by the template 'for every input the law returns true; each argument reads behind the call as it read before'; 0 by the template 'total and deterministic' (their statements: YthpljlffjbodpaaTotals.lean).
  GIVEN WITH THE SEED: the statements are not yours to turn. If you find one false, say at which input.
  Laid BY PROGRAM, IN A SANDBOX (cutbox-rows.mjs): the forced cells as the released guide's own fill.sh prints them over the translation 59cd4af13292d5e1… (all of the seat's roots in one cut). By AI agents, Wed Nov 11 2026. No macro, syntax, notation, axiom, sorry.
-/
import Derived.Test.YthpljlffjbodpaaChecked
import GoSem.Claim
import GoSem.ClaimJoined
import GoSem.ClaimMapViews
import Derived.JoinedTies
import Derived.KernelRfl
namespace Go.Proofs.Ythpljlffjbodpaa
/- THE CELL 'sum', in the pinned program and in every row, IS THE sha256 OF THE DUMP (.gsa) THAT YthpljlffjbodpaaProg.lean LOADS. Nothing in Lean hashes anything: it is a label: what it is worth is what the hold of that sum in a sandbox is worth. -/
noncomputable def Try.pinned : Pinned := { name := "ythpljlffjbodpaa", sum := "59cd4af13292d5e1011d613bcadf27553c0335e1802c669cc044fd62399eb839", checked := Try.checked }
namespace Rows
def none {H : Type} : Left H := { results := [], args := [] }

/-- 'droverlaw15.PathReaches': WHATEVER THE INPUT: true; the input reads as it did. -/
def pathReachesSpec : ChangeSpec := { name := "pathReaches", fn := fun _ => fun
  | [d] => { results := [.lit (.bool true)], args := [d] }
  | _ => none }
def pathReachesRow : OpenClaim := { program := "ythpljlffjbodpaa", sum := "59cd4af13292d5e1011d613bcadf27553c0335e1802c669cc044fd62399eb839", func := "drover/droverlaw15.PathReaches", spec := "pathReaches", unfollowed := true, recurses := true, apart := false }
def PathReachesSaid : Prop := pathReachesRow.holds Try.pinned (OpenSpec.ofChange pathReachesSpec)

/-- ITS FALSE NEIGHBOUR: 'it returns false'. Refute it at one input. -/
def pathReachesWrong : ChangeSpec := { name := "pathReaches", fn := fun _ => fun
  | [d] => { results := [.lit (.bool false)], args := [d] }
  | _ => none }
def PathReachesWrongFalsely : Prop := pathReachesRow.holds Try.pinned (OpenSpec.ofChange pathReachesWrong)

/-- 'droverlaw15.PathBelows': WHATEVER THE INPUT: true; the input reads as it did. -/
def pathBelowsSpec : ChangeSpec := { name := "pathBelows", fn := fun _ => fun
  | [d] => { results := [.lit (.bool true)], args := [d] }
  | _ => none }
def pathBelowsRow : OpenClaim := { program := "ythpljlffjbodpaa", sum := "59cd4af13292d5e1011d613bcadf27553c0335e1802c669cc044fd62399eb839", func := "drover/droverlaw15.PathBelows", spec := "pathBelows", unfollowed := true, recurses := true, apart := false }
def PathBelowsSaid : Prop := pathBelowsRow.holds Try.pinned (OpenSpec.ofChange pathBelowsSpec)

/-- ITS FALSE NEIGHBOUR: 'it returns false'. Refute it at one input. -/
def pathBelowsWrong : ChangeSpec := { name := "pathBelows", fn := fun _ => fun
  | [d] => { results := [.lit (.bool false)], args := [d] }
  | _ => none }
def PathBelowsWrongFalsely : Prop := pathBelowsRow.holds Try.pinned (OpenSpec.ofChange pathBelowsWrong)

/-- 'droverlaw15.PathGoes': WHATEVER THE INPUT: true; the input reads as it did. -/
def pathGoesSpec : ChangeSpec := { name := "pathGoes", fn := fun _ => fun
  | [d] => { results := [.lit (.bool true)], args := [d] }
  | _ => none }
def pathGoesRow : OpenClaim := { program := "ythpljlffjbodpaa", sum := "59cd4af13292d5e1011d613bcadf27553c0335e1802c669cc044fd62399eb839", func := "drover/droverlaw15.PathGoes", spec := "pathGoes", unfollowed := true, recurses := true, apart := false }
def PathGoesSaid : Prop := pathGoesRow.holds Try.pinned (OpenSpec.ofChange pathGoesSpec)

/-- ITS FALSE NEIGHBOUR: 'it returns false'. Refute it at one input. -/
def pathGoesWrong : ChangeSpec := { name := "pathGoes", fn := fun _ => fun
  | [d] => { results := [.lit (.bool false)], args := [d] }
  | _ => none }
def PathGoesWrongFalsely : Prop := pathGoesRow.holds Try.pinned (OpenSpec.ofChange pathGoesWrong)

/-- 'droverlaw15.PathLows': WHATEVER THE INPUT: true; the input reads as it did. -/
def pathLowsSpec : ChangeSpec := { name := "pathLows", fn := fun _ => fun
  | [d] => { results := [.lit (.bool true)], args := [d] }
  | _ => none }
def pathLowsRow : OpenClaim := { program := "ythpljlffjbodpaa", sum := "59cd4af13292d5e1011d613bcadf27553c0335e1802c669cc044fd62399eb839", func := "drover/droverlaw15.PathLows", spec := "pathLows", unfollowed := true, recurses := true, apart := false }
def PathLowsSaid : Prop := pathLowsRow.holds Try.pinned (OpenSpec.ofChange pathLowsSpec)

/-- ITS FALSE NEIGHBOUR: 'it returns false'. Refute it at one input. -/
def pathLowsWrong : ChangeSpec := { name := "pathLows", fn := fun _ => fun
  | [d] => { results := [.lit (.bool false)], args := [d] }
  | _ => none }
def PathLowsWrongFalsely : Prop := pathLowsRow.holds Try.pinned (OpenSpec.ofChange pathLowsWrong)

/-- 'droverlaw17.OrderExact': WHATEVER THE INPUT: true; the input reads as it did. -/
def orderExactSpec : ChangeSpec := { name := "orderExact", fn := fun _ => fun
  | [d] => { results := [.lit (.bool true)], args := [d] }
  | _ => none }
def orderExactRow : OpenClaim := { program := "ythpljlffjbodpaa", sum := "59cd4af13292d5e1011d613bcadf27553c0335e1802c669cc044fd62399eb839", func := "drover/droverlaw17.OrderExact", spec := "orderExact", unfollowed := true, recurses := true, apart := false }
def OrderExactSaid : Prop := orderExactRow.holds Try.pinned (OpenSpec.ofChange orderExactSpec)

/-- ITS FALSE NEIGHBOUR: 'it returns false'. Refute it at one input. -/
def orderExactWrong : ChangeSpec := { name := "orderExact", fn := fun _ => fun
  | [d] => { results := [.lit (.bool false)], args := [d] }
  | _ => none }
def OrderExactWrongFalsely : Prop := orderExactRow.holds Try.pinned (OpenSpec.ofChange orderExactWrong)

/-- 'droverlaw17.OrderParents': WHATEVER THE INPUT: true; the input reads as it did. -/
def orderParentsSpec : ChangeSpec := { name := "orderParents", fn := fun _ => fun
  | [d] => { results := [.lit (.bool true)], args := [d] }
  | _ => none }
def orderParentsRow : OpenClaim := { program := "ythpljlffjbodpaa", sum := "59cd4af13292d5e1011d613bcadf27553c0335e1802c669cc044fd62399eb839", func := "drover/droverlaw17.OrderParents", spec := "orderParents", unfollowed := true, recurses := true, apart := false }
def OrderParentsSaid : Prop := orderParentsRow.holds Try.pinned (OpenSpec.ofChange orderParentsSpec)

/-- ITS FALSE NEIGHBOUR: 'it returns false'. Refute it at one input. -/
def orderParentsWrong : ChangeSpec := { name := "orderParents", fn := fun _ => fun
  | [d] => { results := [.lit (.bool false)], args := [d] }
  | _ => none }
def OrderParentsWrongFalsely : Prop := orderParentsRow.holds Try.pinned (OpenSpec.ofChange orderParentsWrong)

/-- 'droverlaw17.OrderDone': WHATEVER THE INPUT: true; the input reads as it did. -/
def orderDoneSpec : ChangeSpec := { name := "orderDone", fn := fun _ => fun
  | [d] => { results := [.lit (.bool true)], args := [d] }
  | _ => none }
def orderDoneRow : OpenClaim := { program := "ythpljlffjbodpaa", sum := "59cd4af13292d5e1011d613bcadf27553c0335e1802c669cc044fd62399eb839", func := "drover/droverlaw17.OrderDone", spec := "orderDone", unfollowed := true, recurses := true, apart := false }
def OrderDoneSaid : Prop := orderDoneRow.holds Try.pinned (OpenSpec.ofChange orderDoneSpec)

/-- ITS FALSE NEIGHBOUR: 'it returns false'. Refute it at one input. -/
def orderDoneWrong : ChangeSpec := { name := "orderDone", fn := fun _ => fun
  | [d] => { results := [.lit (.bool false)], args := [d] }
  | _ => none }
def OrderDoneWrongFalsely : Prop := orderDoneRow.holds Try.pinned (OpenSpec.ofChange orderDoneWrong)

/-- 'droverlaw16.AnchorVotes': WHATEVER THE INPUT: true; the input reads as it did. -/
def anchorVotesSpec : ChangeSpec := { name := "anchorVotes", fn := fun _ => fun
  | [d] => { results := [.lit (.bool true)], args := [d] }
  | _ => none }
def anchorVotesRow : OpenClaim := { program := "ythpljlffjbodpaa", sum := "59cd4af13292d5e1011d613bcadf27553c0335e1802c669cc044fd62399eb839", func := "drover/droverlaw16.AnchorVotes", spec := "anchorVotes", unfollowed := true, recurses := true, apart := false }
def AnchorVotesSaid : Prop := anchorVotesRow.holds Try.pinned (OpenSpec.ofChange anchorVotesSpec)

/-- ITS FALSE NEIGHBOUR: 'it returns false'. Refute it at one input. -/
def anchorVotesWrong : ChangeSpec := { name := "anchorVotes", fn := fun _ => fun
  | [d] => { results := [.lit (.bool false)], args := [d] }
  | _ => none }
def AnchorVotesWrongFalsely : Prop := anchorVotesRow.holds Try.pinned (OpenSpec.ofChange anchorVotesWrong)

/-- 'droverlaw16.AnchorFinds': WHATEVER THE INPUT: true; the input reads as it did. -/
def anchorFindsSpec : ChangeSpec := { name := "anchorFinds", fn := fun _ => fun
  | [d] => { results := [.lit (.bool true)], args := [d] }
  | _ => none }
def anchorFindsRow : OpenClaim := { program := "ythpljlffjbodpaa", sum := "59cd4af13292d5e1011d613bcadf27553c0335e1802c669cc044fd62399eb839", func := "drover/droverlaw16.AnchorFinds", spec := "anchorFinds", unfollowed := true, recurses := true, apart := false }
def AnchorFindsSaid : Prop := anchorFindsRow.holds Try.pinned (OpenSpec.ofChange anchorFindsSpec)

/-- ITS FALSE NEIGHBOUR: 'it returns false'. Refute it at one input. -/
def anchorFindsWrong : ChangeSpec := { name := "anchorFinds", fn := fun _ => fun
  | [d] => { results := [.lit (.bool false)], args := [d] }
  | _ => none }
def AnchorFindsWrongFalsely : Prop := anchorFindsRow.holds Try.pinned (OpenSpec.ofChange anchorFindsWrong)

/-- 'droverlaw16.AnchorChains': WHATEVER THE INPUT: true; the input reads as it did. -/
def anchorChainsSpec : ChangeSpec := { name := "anchorChains", fn := fun _ => fun
  | [d] => { results := [.lit (.bool true)], args := [d] }
  | _ => none }
def anchorChainsRow : OpenClaim := { program := "ythpljlffjbodpaa", sum := "59cd4af13292d5e1011d613bcadf27553c0335e1802c669cc044fd62399eb839", func := "drover/droverlaw16.AnchorChains", spec := "anchorChains", unfollowed := true, recurses := true, apart := false }
def AnchorChainsSaid : Prop := anchorChainsRow.holds Try.pinned (OpenSpec.ofChange anchorChainsSpec)

/-- ITS FALSE NEIGHBOUR: 'it returns false'. Refute it at one input. -/
def anchorChainsWrong : ChangeSpec := { name := "anchorChains", fn := fun _ => fun
  | [d] => { results := [.lit (.bool false)], args := [d] }
  | _ => none }
def AnchorChainsWrongFalsely : Prop := anchorChainsRow.holds Try.pinned (OpenSpec.ofChange anchorChainsWrong)

/-- 'droverlaw16.AnchorSettled': WHATEVER THE INPUT: true; the input reads as it did. -/
def anchorSettledSpec : ChangeSpec := { name := "anchorSettled", fn := fun _ => fun
  | [d] => { results := [.lit (.bool true)], args := [d] }
  | _ => none }
def anchorSettledRow : OpenClaim := { program := "ythpljlffjbodpaa", sum := "59cd4af13292d5e1011d613bcadf27553c0335e1802c669cc044fd62399eb839", func := "drover/droverlaw16.AnchorSettled", spec := "anchorSettled", unfollowed := true, recurses := true, apart := false }
def AnchorSettledSaid : Prop := anchorSettledRow.holds Try.pinned (OpenSpec.ofChange anchorSettledSpec)

/-- ITS FALSE NEIGHBOUR: 'it returns false'. Refute it at one input. -/
def anchorSettledWrong : ChangeSpec := { name := "anchorSettled", fn := fun _ => fun
  | [d] => { results := [.lit (.bool false)], args := [d] }
  | _ => none }
def AnchorSettledWrongFalsely : Prop := anchorSettledRow.holds Try.pinned (OpenSpec.ofChange anchorSettledWrong)

/-- 'droverlaw16.AnchorRises': WHATEVER THE INPUT: true; the input reads as it did. -/
def anchorRisesSpec : ChangeSpec := { name := "anchorRises", fn := fun _ => fun
  | [d] => { results := [.lit (.bool true)], args := [d] }
  | _ => none }
def anchorRisesRow : OpenClaim := { program := "ythpljlffjbodpaa", sum := "59cd4af13292d5e1011d613bcadf27553c0335e1802c669cc044fd62399eb839", func := "drover/droverlaw16.AnchorRises", spec := "anchorRises", unfollowed := true, recurses := true, apart := false }
def AnchorRisesSaid : Prop := anchorRisesRow.holds Try.pinned (OpenSpec.ofChange anchorRisesSpec)

/-- ITS FALSE NEIGHBOUR: 'it returns false'. Refute it at one input. -/
def anchorRisesWrong : ChangeSpec := { name := "anchorRises", fn := fun _ => fun
  | [d] => { results := [.lit (.bool false)], args := [d] }
  | _ => none }
def AnchorRisesWrongFalsely : Prop := anchorRisesRow.holds Try.pinned (OpenSpec.ofChange anchorRisesWrong)

/- THE SECOND FORM. 'bulk': how many values and letters a reading holds, each counted each time it is reached (what is shared counts as often as it is met; a slice's spare places count too). A statement '..UptoSaid' is the law's where the arguments, and the package variables that the reading takes, are together of bulk at most 1048576: NARROWER than '..Said'. Prove '..Said' where nothing that the law and all that it calls make is longer than what came in: it says more and counts as full. Else prove '..UptoSaid'. A law counts once. -/
mutual
def uptoBulk {H : Type} : DataW H → Nat
  | .lit (.string bytes) => bytes.length + 1
  | .lit _ => 1
  | .nil => 1
  | .ptr d => uptoBulk d + 1
  | .slice elems spare => uptoBulkAll elems + uptoBulkAll spare + 1
  | .agg parts => uptoBulkAll parts + 1
  | .iface _ d => uptoBulk d + 1
  | .map entries => uptoBulkEntries entries + 1
  | .held _ => 1
def uptoBulkAll {H : Type} : List (DataW H) → Nat
  | [] => 0
  | d :: r => uptoBulk d + uptoBulkAll r
def uptoBulkEntries {H : Type} : List (Lit × DataW H) → Nat
  | [] => 0
  | x :: r => uptoBulkEntry x + uptoBulkEntries r
def uptoBulkEntry {H : Type} : Lit × DataW H → Nat
  | (.string bytes, d) => bytes.length + uptoBulk d + 1
  | (_, d) => uptoBulk d + 1
 end
def uptoSmall : (H : Type) → List (DataW H) → Bool := fun _ ds => decide (uptoBulkAll ds ≤ 1048576)
def OpenSpec.upto (s : _root_.Go.ChangeSpec) : _root_.Go.OpenSpec := { _root_.Go.OpenSpec.ofChange s with cond := some uptoSmall }

/-- 'droverlaw15.PathReaches', WHERE WHAT IT READS IS OF BULK AT MOST 1048576: true; the input reads as it did. -/
def pathReachesUptoRow : OpenClaim := { program := "ythpljlffjbodpaa", sum := "59cd4af13292d5e1011d613bcadf27553c0335e1802c669cc044fd62399eb839", func := "drover/droverlaw15.PathReaches", spec := "pathReaches", unfollowed := true, recurses := true, apart := false, narrowed := true }
def PathReachesUptoSaid : Prop := pathReachesUptoRow.holds Try.pinned (OpenSpec.upto pathReachesSpec)

/-- 'droverlaw15.PathBelows', WHERE WHAT IT READS IS OF BULK AT MOST 1048576: true; the input reads as it did. -/
def pathBelowsUptoRow : OpenClaim := { program := "ythpljlffjbodpaa", sum := "59cd4af13292d5e1011d613bcadf27553c0335e1802c669cc044fd62399eb839", func := "drover/droverlaw15.PathBelows", spec := "pathBelows", unfollowed := true, recurses := true, apart := false, narrowed := true }
def PathBelowsUptoSaid : Prop := pathBelowsUptoRow.holds Try.pinned (OpenSpec.upto pathBelowsSpec)

/-- 'droverlaw15.PathGoes', WHERE WHAT IT READS IS OF BULK AT MOST 1048576: true; the input reads as it did. -/
def pathGoesUptoRow : OpenClaim := { program := "ythpljlffjbodpaa", sum := "59cd4af13292d5e1011d613bcadf27553c0335e1802c669cc044fd62399eb839", func := "drover/droverlaw15.PathGoes", spec := "pathGoes", unfollowed := true, recurses := true, apart := false, narrowed := true }
def PathGoesUptoSaid : Prop := pathGoesUptoRow.holds Try.pinned (OpenSpec.upto pathGoesSpec)

/-- 'droverlaw15.PathLows', WHERE WHAT IT READS IS OF BULK AT MOST 1048576: true; the input reads as it did. -/
def pathLowsUptoRow : OpenClaim := { program := "ythpljlffjbodpaa", sum := "59cd4af13292d5e1011d613bcadf27553c0335e1802c669cc044fd62399eb839", func := "drover/droverlaw15.PathLows", spec := "pathLows", unfollowed := true, recurses := true, apart := false, narrowed := true }
def PathLowsUptoSaid : Prop := pathLowsUptoRow.holds Try.pinned (OpenSpec.upto pathLowsSpec)

/-- 'droverlaw17.OrderExact', WHERE WHAT IT READS IS OF BULK AT MOST 1048576: true; the input reads as it did. -/
def orderExactUptoRow : OpenClaim := { program := "ythpljlffjbodpaa", sum := "59cd4af13292d5e1011d613bcadf27553c0335e1802c669cc044fd62399eb839", func := "drover/droverlaw17.OrderExact", spec := "orderExact", unfollowed := true, recurses := true, apart := false, narrowed := true }
def OrderExactUptoSaid : Prop := orderExactUptoRow.holds Try.pinned (OpenSpec.upto orderExactSpec)

/-- 'droverlaw17.OrderParents', WHERE WHAT IT READS IS OF BULK AT MOST 1048576: true; the input reads as it did. -/
def orderParentsUptoRow : OpenClaim := { program := "ythpljlffjbodpaa", sum := "59cd4af13292d5e1011d613bcadf27553c0335e1802c669cc044fd62399eb839", func := "drover/droverlaw17.OrderParents", spec := "orderParents", unfollowed := true, recurses := true, apart := false, narrowed := true }
def OrderParentsUptoSaid : Prop := orderParentsUptoRow.holds Try.pinned (OpenSpec.upto orderParentsSpec)

/-- 'droverlaw17.OrderDone', WHERE WHAT IT READS IS OF BULK AT MOST 1048576: true; the input reads as it did. -/
def orderDoneUptoRow : OpenClaim := { program := "ythpljlffjbodpaa", sum := "59cd4af13292d5e1011d613bcadf27553c0335e1802c669cc044fd62399eb839", func := "drover/droverlaw17.OrderDone", spec := "orderDone", unfollowed := true, recurses := true, apart := false, narrowed := true }
def OrderDoneUptoSaid : Prop := orderDoneUptoRow.holds Try.pinned (OpenSpec.upto orderDoneSpec)

/-- 'droverlaw16.AnchorVotes', WHERE WHAT IT READS IS OF BULK AT MOST 1048576: true; the input reads as it did. -/
def anchorVotesUptoRow : OpenClaim := { program := "ythpljlffjbodpaa", sum := "59cd4af13292d5e1011d613bcadf27553c0335e1802c669cc044fd62399eb839", func := "drover/droverlaw16.AnchorVotes", spec := "anchorVotes", unfollowed := true, recurses := true, apart := false, narrowed := true }
def AnchorVotesUptoSaid : Prop := anchorVotesUptoRow.holds Try.pinned (OpenSpec.upto anchorVotesSpec)

/-- 'droverlaw16.AnchorFinds', WHERE WHAT IT READS IS OF BULK AT MOST 1048576: true; the input reads as it did. -/
def anchorFindsUptoRow : OpenClaim := { program := "ythpljlffjbodpaa", sum := "59cd4af13292d5e1011d613bcadf27553c0335e1802c669cc044fd62399eb839", func := "drover/droverlaw16.AnchorFinds", spec := "anchorFinds", unfollowed := true, recurses := true, apart := false, narrowed := true }
def AnchorFindsUptoSaid : Prop := anchorFindsUptoRow.holds Try.pinned (OpenSpec.upto anchorFindsSpec)

/-- 'droverlaw16.AnchorChains', WHERE WHAT IT READS IS OF BULK AT MOST 1048576: true; the input reads as it did. -/
def anchorChainsUptoRow : OpenClaim := { program := "ythpljlffjbodpaa", sum := "59cd4af13292d5e1011d613bcadf27553c0335e1802c669cc044fd62399eb839", func := "drover/droverlaw16.AnchorChains", spec := "anchorChains", unfollowed := true, recurses := true, apart := false, narrowed := true }
def AnchorChainsUptoSaid : Prop := anchorChainsUptoRow.holds Try.pinned (OpenSpec.upto anchorChainsSpec)

/-- 'droverlaw16.AnchorSettled', WHERE WHAT IT READS IS OF BULK AT MOST 1048576: true; the input reads as it did. -/
def anchorSettledUptoRow : OpenClaim := { program := "ythpljlffjbodpaa", sum := "59cd4af13292d5e1011d613bcadf27553c0335e1802c669cc044fd62399eb839", func := "drover/droverlaw16.AnchorSettled", spec := "anchorSettled", unfollowed := true, recurses := true, apart := false, narrowed := true }
def AnchorSettledUptoSaid : Prop := anchorSettledUptoRow.holds Try.pinned (OpenSpec.upto anchorSettledSpec)

/-- 'droverlaw16.AnchorRises', WHERE WHAT IT READS IS OF BULK AT MOST 1048576: true; the input reads as it did. -/
def anchorRisesUptoRow : OpenClaim := { program := "ythpljlffjbodpaa", sum := "59cd4af13292d5e1011d613bcadf27553c0335e1802c669cc044fd62399eb839", func := "drover/droverlaw16.AnchorRises", spec := "anchorRises", unfollowed := true, recurses := true, apart := false, narrowed := true }
def AnchorRisesUptoSaid : Prop := anchorRisesUptoRow.holds Try.pinned (OpenSpec.upto anchorRisesSpec)

end Rows
end Go.Proofs.Ythpljlffjbodpaa
