/-
  No cell of these rows narrows 'for every input' (looked for: loops, veiled, ifaces, maps, wideKeys, modest, calm, conditions, laid).
  DERIVED. THE GIVEN ROWS OF THIS SEAT. 2 by the template 'for every input the law returns true; each argument reads behind the call as it read before'; 0 by the template 'total and deterministic' (their statements: YtgfakefcmbpboaaTotals.lean).
  GIVEN WITH THE SEED: the statements are not yours to turn. If you find one false, say at which input.
  Laid BY PROGRAM, IN A SANDBOX (cutbox-rows.mjs): the forced cells as the released guide's own fill.sh prints them over the translation dd254fe79d45bcfb… (all of the seat's roots in one cut). By AI agents, Wed Nov 11 2026. No macro, syntax, notation, axiom, sorry.
-/
import Derived.Test.YtgfakefcmbpboaaChecked
import GoSem.Claim
import GoSem.ClaimJoined
import GoSem.ClaimMapViews
import Derived.JoinedTies
import Derived.KernelRfl
namespace Go.Proofs.Ytgfakefcmbpboaa
/- THE CELL 'sum', in the pinned program and in every row, IS THE sha256 OF THE DUMP (.gsa) THAT YtgfakefcmbpboaaProg.lean LOADS. Nothing in Lean hashes anything: it is a label: what it is worth is what the hold of that sum in a sandbox is worth. -/
noncomputable def Try.pinned : Pinned := { name := "ytgfakefcmbpboaa", sum := "dd254fe79d45bcfb2a008fa326614e44131312f79f3a92e27027e37c8e8b3bfd", checked := Try.checked }
namespace Rows
def none {H : Type} : Left H := { results := [], args := [] }

/-- 'droverlaw13.WorkerQuorum': WHATEVER THE INPUT: true; the input reads as it did. -/
def workerQuorumSpec : ChangeSpec := { name := "workerQuorum", fn := fun _ => fun
  | [d] => { results := [.lit (.bool true)], args := [d] }
  | _ => none }
def workerQuorumRow : OpenClaim := { program := "ytgfakefcmbpboaa", sum := "dd254fe79d45bcfb2a008fa326614e44131312f79f3a92e27027e37c8e8b3bfd", func := "drover/droverlaw13.WorkerQuorum", spec := "workerQuorum", inPlace := ["slices.overlaps[drover/api.Held]", "slices.overlaps[drover/api.Wait]", "slices.overlaps[int]"], unfollowed := true, recurses := true, apart := false }
def WorkerQuorumSaid : Prop := workerQuorumRow.holds Try.pinned (OpenSpec.ofChange workerQuorumSpec)

/-- ITS FALSE NEIGHBOUR: 'it returns false'. Refute it at one input. -/
def workerQuorumWrong : ChangeSpec := { name := "workerQuorum", fn := fun _ => fun
  | [d] => { results := [.lit (.bool false)], args := [d] }
  | _ => none }
def WorkerQuorumWrongFalsely : Prop := workerQuorumRow.holds Try.pinned (OpenSpec.ofChange workerQuorumWrong)

/-- 'droverlaw13.WorkerWorld': WHATEVER THE INPUT: true; the input reads as it did. -/
def workerWorldSpec : ChangeSpec := { name := "workerWorld", fn := fun _ => fun
  | [d] => { results := [.lit (.bool true)], args := [d] }
  | _ => none }
def workerWorldRow : OpenClaim := { program := "ytgfakefcmbpboaa", sum := "dd254fe79d45bcfb2a008fa326614e44131312f79f3a92e27027e37c8e8b3bfd", func := "drover/droverlaw13.WorkerWorld", spec := "workerWorld", inPlace := ["slices.overlaps[drover/api.Held]", "slices.overlaps[int]", "slices.overlaps[drover/api.Wait]"], unfollowed := true, recurses := true, apart := false }
def WorkerWorldSaid : Prop := workerWorldRow.holds Try.pinned (OpenSpec.ofChange workerWorldSpec)

/-- ITS FALSE NEIGHBOUR: 'it returns false'. Refute it at one input. -/
def workerWorldWrong : ChangeSpec := { name := "workerWorld", fn := fun _ => fun
  | [d] => { results := [.lit (.bool false)], args := [d] }
  | _ => none }
def WorkerWorldWrongFalsely : Prop := workerWorldRow.holds Try.pinned (OpenSpec.ofChange workerWorldWrong)

/- THE SECOND FORM. 'bulk': how many values and letters a reading holds, each counted each time it is reached (what is shared counts as often as it is met; a slice's spare places count too). A statement '..UptoSaid' is the law's where the arguments, and the package variables that the reading takes, are together of bulk at most 1048576: NARROWER than '..Said'. Prove '..Said' where nothing that the law and all that it calls make is longer than what came in: it says more and counts as full. Else prove '..UptoSaid'. A law counts once. -/
mutual
def uptoBulk {H : Type} : DataW H → Nat
  | .lit (.string bytes) => bytes.length + 1
  | .lit _ => 1
  | .nil => 1
  | .ptr d => uptoBulk d + 1
  | .slice elems spare => uptoBulkAll elems + uptoBulkAll spare + 1
  | .agg parts => uptoBulkAll parts + 1
  | .iface _ d => uptoBulk d + 1
  | .map entries => uptoBulkEntries entries + 1
  | .held _ => 1
def uptoBulkAll {H : Type} : List (DataW H) → Nat
  | [] => 0
  | d :: r => uptoBulk d + uptoBulkAll r
def uptoBulkEntries {H : Type} : List (Lit × DataW H) → Nat
  | [] => 0
  | x :: r => uptoBulkEntry x + uptoBulkEntries r
def uptoBulkEntry {H : Type} : Lit × DataW H → Nat
  | (.string bytes, d) => bytes.length + uptoBulk d + 1
  | (_, d) => uptoBulk d + 1
 end
def uptoSmall : (H : Type) → List (DataW H) → Bool := fun _ ds => decide (uptoBulkAll ds ≤ 1048576)
def OpenSpec.upto (s : _root_.Go.ChangeSpec) : _root_.Go.OpenSpec := { _root_.Go.OpenSpec.ofChange s with cond := some uptoSmall }

/-- 'droverlaw13.WorkerQuorum', WHERE WHAT IT READS IS OF BULK AT MOST 1048576: true; the input reads as it did. -/
def workerQuorumUptoRow : OpenClaim := { program := "ytgfakefcmbpboaa", sum := "dd254fe79d45bcfb2a008fa326614e44131312f79f3a92e27027e37c8e8b3bfd", func := "drover/droverlaw13.WorkerQuorum", spec := "workerQuorum", inPlace := ["slices.overlaps[drover/api.Held]", "slices.overlaps[drover/api.Wait]", "slices.overlaps[int]"], unfollowed := true, recurses := true, apart := false, narrowed := true }
def WorkerQuorumUptoSaid : Prop := workerQuorumUptoRow.holds Try.pinned (OpenSpec.upto workerQuorumSpec)

/-- 'droverlaw13.WorkerWorld', WHERE WHAT IT READS IS OF BULK AT MOST 1048576: true; the input reads as it did. -/
def workerWorldUptoRow : OpenClaim := { program := "ytgfakefcmbpboaa", sum := "dd254fe79d45bcfb2a008fa326614e44131312f79f3a92e27027e37c8e8b3bfd", func := "drover/droverlaw13.WorkerWorld", spec := "workerWorld", inPlace := ["slices.overlaps[drover/api.Held]", "slices.overlaps[int]", "slices.overlaps[drover/api.Wait]"], unfollowed := true, recurses := true, apart := false, narrowed := true }
def WorkerWorldUptoSaid : Prop := workerWorldUptoRow.holds Try.pinned (OpenSpec.upto workerWorldSpec)

end Rows
end Go.Proofs.Ytgfakefcmbpboaa
