/-
  No cell of these rows narrows 'for every input' (looked for: loops, veiled, ifaces, maps, wideKeys, modest, calm, conditions, laid).
  DERIVED. THE GIVEN ROWS OF THIS SEAT. 11 by the template 'for every input the law returns true; each argument reads behind the call as it read before'; 0 by the template 'total and deterministic' (their statements: YtgfakefcmbpboaaGreatTotals.lean).
  GIVEN WITH THE SEED: the statements are not yours to turn. If you find one false, say at which input.
  Laid BY PROGRAM, IN A SANDBOX (cutbox-rows.mjs): the forced cells as the released guide's own fill.sh prints them over the translation c4d762f36707ff82… (all of the seat's roots in one cut). By AI agents, Wed Nov 11 2026. No macro, syntax, notation, axiom, sorry.
-/
import Derived.Test.YtgfakefcmbpboaaGreatChecked
import GoSem.Claim
import GoSem.ClaimJoined
import GoSem.ClaimMapViews
import Derived.JoinedTies
import Derived.KernelRfl
namespace Go.Proofs.YtgfakefcmbpboaaGreat
/- THE CELL 'sum', in the pinned program and in every row, IS THE sha256 OF THE DUMP (.gsa) THAT YtgfakefcmbpboaaGreatProg.lean LOADS. Nothing in Lean hashes anything: it is a label: what it is worth is what the hold of that sum in a sandbox is worth. -/
noncomputable def Tryz.pinned : Pinned := { name := "ytgfakefcmbpboaagreat", sum := "c4d762f36707ff824c7f14d15d1253eb06e022718fe2377963df69af1faf51c4", checked := Tryz.checked }
namespace Rows
def none {H : Type} : Left H := { results := [], args := [] }

/-- 'droverlaw13.WorkerAdds': WHATEVER THE INPUT: true; the input reads as it did. -/
def workerAddsSpec : ChangeSpec := { name := "workerAdds", fn := fun _ => fun
  | [d] => { results := [.lit (.bool true)], args := [d] }
  | _ => none }
def workerAddsRow : OpenClaim := { program := "ytgfakefcmbpboaagreat", sum := "c4d762f36707ff824c7f14d15d1253eb06e022718fe2377963df69af1faf51c4", func := "drover/droverlaw13.WorkerAdds", spec := "workerAdds", inPlace := ["slices.overlaps[drover/api.Held]", "slices.overlaps[drover/api.Wait]", "slices.overlaps[int]"], unfollowed := true, recurses := true, apart := false }
def WorkerAddsSaid : Prop := workerAddsRow.holds Tryz.pinned (OpenSpec.ofChange workerAddsSpec)

/-- ITS FALSE NEIGHBOUR: 'it returns false'. Refute it at one input. -/
def workerAddsWrong : ChangeSpec := { name := "workerAdds", fn := fun _ => fun
  | [d] => { results := [.lit (.bool false)], args := [d] }
  | _ => none }
def WorkerAddsWrongFalsely : Prop := workerAddsRow.holds Tryz.pinned (OpenSpec.ofChange workerAddsWrong)

/-- 'droverlaw13.WorkerMakes': WHATEVER THE INPUT: true; the input reads as it did. -/
def workerMakesSpec : ChangeSpec := { name := "workerMakes", fn := fun _ => fun
  | [d] => { results := [.lit (.bool true)], args := [d] }
  | _ => none }
def workerMakesRow : OpenClaim := { program := "ytgfakefcmbpboaagreat", sum := "c4d762f36707ff824c7f14d15d1253eb06e022718fe2377963df69af1faf51c4", func := "drover/droverlaw13.WorkerMakes", spec := "workerMakes", inPlace := ["slices.overlaps[drover/api.Held]", "slices.overlaps[drover/api.Wait]", "slices.overlaps[int]"], unfollowed := true, recurses := true, apart := false }
def WorkerMakesSaid : Prop := workerMakesRow.holds Tryz.pinned (OpenSpec.ofChange workerMakesSpec)

/-- ITS FALSE NEIGHBOUR: 'it returns false'. Refute it at one input. -/
def workerMakesWrong : ChangeSpec := { name := "workerMakes", fn := fun _ => fun
  | [d] => { results := [.lit (.bool false)], args := [d] }
  | _ => none }
def WorkerMakesWrongFalsely : Prop := workerMakesRow.holds Tryz.pinned (OpenSpec.ofChange workerMakesWrong)

/-- 'droverlaw13.WorkerSeals': WHATEVER THE INPUT: true; the input reads as it did. -/
def workerSealsSpec : ChangeSpec := { name := "workerSeals", fn := fun _ => fun
  | [d] => { results := [.lit (.bool true)], args := [d] }
  | _ => none }
def workerSealsRow : OpenClaim := { program := "ytgfakefcmbpboaagreat", sum := "c4d762f36707ff824c7f14d15d1253eb06e022718fe2377963df69af1faf51c4", func := "drover/droverlaw13.WorkerSeals", spec := "workerSeals", inPlace := ["slices.overlaps[drover/api.Held]", "slices.overlaps[drover/api.Wait]", "slices.overlaps[int]"], unfollowed := true, recurses := true, apart := false }
def WorkerSealsSaid : Prop := workerSealsRow.holds Tryz.pinned (OpenSpec.ofChange workerSealsSpec)

/-- ITS FALSE NEIGHBOUR: 'it returns false'. Refute it at one input. -/
def workerSealsWrong : ChangeSpec := { name := "workerSeals", fn := fun _ => fun
  | [d] => { results := [.lit (.bool false)], args := [d] }
  | _ => none }
def WorkerSealsWrongFalsely : Prop := workerSealsRow.holds Tryz.pinned (OpenSpec.ofChange workerSealsWrong)

/-- 'droverlaw13.WorkerTicks': WHATEVER THE INPUT: true; the input reads as it did. -/
def workerTicksSpec : ChangeSpec := { name := "workerTicks", fn := fun _ => fun
  | [d] => { results := [.lit (.bool true)], args := [d] }
  | _ => none }
def workerTicksRow : OpenClaim := { program := "ytgfakefcmbpboaagreat", sum := "c4d762f36707ff824c7f14d15d1253eb06e022718fe2377963df69af1faf51c4", func := "drover/droverlaw13.WorkerTicks", spec := "workerTicks", inPlace := ["slices.overlaps[drover/api.Held]", "slices.overlaps[drover/api.Wait]", "slices.overlaps[int]"], unfollowed := true, recurses := true, apart := false }
def WorkerTicksSaid : Prop := workerTicksRow.holds Tryz.pinned (OpenSpec.ofChange workerTicksSpec)

/-- ITS FALSE NEIGHBOUR: 'it returns false'. Refute it at one input. -/
def workerTicksWrong : ChangeSpec := { name := "workerTicks", fn := fun _ => fun
  | [d] => { results := [.lit (.bool false)], args := [d] }
  | _ => none }
def WorkerTicksWrongFalsely : Prop := workerTicksRow.holds Tryz.pinned (OpenSpec.ofChange workerTicksWrong)

/-- 'droverlaw13.WorkerTooks': WHATEVER THE INPUT: true; the input reads as it did. -/
def workerTooksSpec : ChangeSpec := { name := "workerTooks", fn := fun _ => fun
  | [d] => { results := [.lit (.bool true)], args := [d] }
  | _ => none }
def workerTooksRow : OpenClaim := { program := "ytgfakefcmbpboaagreat", sum := "c4d762f36707ff824c7f14d15d1253eb06e022718fe2377963df69af1faf51c4", func := "drover/droverlaw13.WorkerTooks", spec := "workerTooks", inPlace := ["slices.overlaps[drover/api.Held]", "slices.overlaps[drover/api.Wait]", "slices.overlaps[int]"], unfollowed := true, recurses := true, apart := false }
def WorkerTooksSaid : Prop := workerTooksRow.holds Tryz.pinned (OpenSpec.ofChange workerTooksSpec)

/-- ITS FALSE NEIGHBOUR: 'it returns false'. Refute it at one input. -/
def workerTooksWrong : ChangeSpec := { name := "workerTooks", fn := fun _ => fun
  | [d] => { results := [.lit (.bool false)], args := [d] }
  | _ => none }
def WorkerTooksWrongFalsely : Prop := workerTooksRow.holds Tryz.pinned (OpenSpec.ofChange workerTooksWrong)

/-- 'droverlaw13.WorkerBacks': WHATEVER THE INPUT: true; the input reads as it did. -/
def workerBacksSpec : ChangeSpec := { name := "workerBacks", fn := fun _ => fun
  | [d] => { results := [.lit (.bool true)], args := [d] }
  | _ => none }
def workerBacksRow : OpenClaim := { program := "ytgfakefcmbpboaagreat", sum := "c4d762f36707ff824c7f14d15d1253eb06e022718fe2377963df69af1faf51c4", func := "drover/droverlaw13.WorkerBacks", spec := "workerBacks", inPlace := ["slices.overlaps[drover/api.Held]", "slices.overlaps[drover/api.Wait]", "slices.overlaps[int]"], unfollowed := true, recurses := true, apart := false }
def WorkerBacksSaid : Prop := workerBacksRow.holds Tryz.pinned (OpenSpec.ofChange workerBacksSpec)

/-- ITS FALSE NEIGHBOUR: 'it returns false'. Refute it at one input. -/
def workerBacksWrong : ChangeSpec := { name := "workerBacks", fn := fun _ => fun
  | [d] => { results := [.lit (.bool false)], args := [d] }
  | _ => none }
def WorkerBacksWrongFalsely : Prop := workerBacksRow.holds Tryz.pinned (OpenSpec.ofChange workerBacksWrong)

/-- 'droverlaw13.WorkerAsked': WHATEVER THE INPUT: true; the input reads as it did. -/
def workerAskedSpec : ChangeSpec := { name := "workerAsked", fn := fun _ => fun
  | [d] => { results := [.lit (.bool true)], args := [d] }
  | _ => none }
def workerAskedRow : OpenClaim := { program := "ytgfakefcmbpboaagreat", sum := "c4d762f36707ff824c7f14d15d1253eb06e022718fe2377963df69af1faf51c4", func := "drover/droverlaw13.WorkerAsked", spec := "workerAsked", inPlace := ["slices.overlaps[drover/api.Held]", "slices.overlaps[drover/api.Wait]", "slices.overlaps[int]"], unfollowed := true, recurses := true, apart := false }
def WorkerAskedSaid : Prop := workerAskedRow.holds Tryz.pinned (OpenSpec.ofChange workerAskedSpec)

/-- ITS FALSE NEIGHBOUR: 'it returns false'. Refute it at one input. -/
def workerAskedWrong : ChangeSpec := { name := "workerAsked", fn := fun _ => fun
  | [d] => { results := [.lit (.bool false)], args := [d] }
  | _ => none }
def WorkerAskedWrongFalsely : Prop := workerAskedRow.holds Tryz.pinned (OpenSpec.ofChange workerAskedWrong)

/-- 'droverlaw13.WorkerGiven': WHATEVER THE INPUT: true; the input reads as it did. -/
def workerGivenSpec : ChangeSpec := { name := "workerGiven", fn := fun _ => fun
  | [d] => { results := [.lit (.bool true)], args := [d] }
  | _ => none }
def workerGivenRow : OpenClaim := { program := "ytgfakefcmbpboaagreat", sum := "c4d762f36707ff824c7f14d15d1253eb06e022718fe2377963df69af1faf51c4", func := "drover/droverlaw13.WorkerGiven", spec := "workerGiven", inPlace := ["slices.overlaps[drover/api.Held]", "slices.overlaps[drover/api.Wait]", "slices.overlaps[int]"], unfollowed := true, recurses := true, apart := false }
def WorkerGivenSaid : Prop := workerGivenRow.holds Tryz.pinned (OpenSpec.ofChange workerGivenSpec)

/-- ITS FALSE NEIGHBOUR: 'it returns false'. Refute it at one input. -/
def workerGivenWrong : ChangeSpec := { name := "workerGiven", fn := fun _ => fun
  | [d] => { results := [.lit (.bool false)], args := [d] }
  | _ => none }
def WorkerGivenWrongFalsely : Prop := workerGivenRow.holds Tryz.pinned (OpenSpec.ofChange workerGivenWrong)

/-- 'droverlaw13.WorkerTold': WHATEVER THE INPUT: true; the input reads as it did. -/
def workerToldSpec : ChangeSpec := { name := "workerTold", fn := fun _ => fun
  | [d] => { results := [.lit (.bool true)], args := [d] }
  | _ => none }
def workerToldRow : OpenClaim := { program := "ytgfakefcmbpboaagreat", sum := "c4d762f36707ff824c7f14d15d1253eb06e022718fe2377963df69af1faf51c4", func := "drover/droverlaw13.WorkerTold", spec := "workerTold", inPlace := ["slices.overlaps[drover/api.Held]", "slices.overlaps[drover/api.Wait]", "slices.overlaps[int]"], unfollowed := true, recurses := true, apart := false }
def WorkerToldSaid : Prop := workerToldRow.holds Tryz.pinned (OpenSpec.ofChange workerToldSpec)

/-- ITS FALSE NEIGHBOUR: 'it returns false'. Refute it at one input. -/
def workerToldWrong : ChangeSpec := { name := "workerTold", fn := fun _ => fun
  | [d] => { results := [.lit (.bool false)], args := [d] }
  | _ => none }
def WorkerToldWrongFalsely : Prop := workerToldRow.holds Tryz.pinned (OpenSpec.ofChange workerToldWrong)

/-- 'droverlaw13.WorkerWanted': WHATEVER THE INPUT: true; the input reads as it did. -/
def workerWantedSpec : ChangeSpec := { name := "workerWanted", fn := fun _ => fun
  | [d] => { results := [.lit (.bool true)], args := [d] }
  | _ => none }
def workerWantedRow : OpenClaim := { program := "ytgfakefcmbpboaagreat", sum := "c4d762f36707ff824c7f14d15d1253eb06e022718fe2377963df69af1faf51c4", func := "drover/droverlaw13.WorkerWanted", spec := "workerWanted", inPlace := ["slices.overlaps[drover/api.Held]", "slices.overlaps[drover/api.Wait]", "slices.overlaps[int]"], unfollowed := true, recurses := true, apart := false }
def WorkerWantedSaid : Prop := workerWantedRow.holds Tryz.pinned (OpenSpec.ofChange workerWantedSpec)

/-- ITS FALSE NEIGHBOUR: 'it returns false'. Refute it at one input. -/
def workerWantedWrong : ChangeSpec := { name := "workerWanted", fn := fun _ => fun
  | [d] => { results := [.lit (.bool false)], args := [d] }
  | _ => none }
def WorkerWantedWrongFalsely : Prop := workerWantedRow.holds Tryz.pinned (OpenSpec.ofChange workerWantedWrong)

/-- 'droverlaw13.WorkerExact': WHATEVER THE INPUT: true; the input reads as it did. -/
def workerExactSpec : ChangeSpec := { name := "workerExact", fn := fun _ => fun
  | [d] => { results := [.lit (.bool true)], args := [d] }
  | _ => none }
def workerExactRow : OpenClaim := { program := "ytgfakefcmbpboaagreat", sum := "c4d762f36707ff824c7f14d15d1253eb06e022718fe2377963df69af1faf51c4", func := "drover/droverlaw13.WorkerExact", spec := "workerExact", inPlace := ["slices.overlaps[drover/api.Held]", "slices.overlaps[drover/api.Wait]", "slices.overlaps[int]"], unfollowed := true, recurses := true, apart := false }
def WorkerExactSaid : Prop := workerExactRow.holds Tryz.pinned (OpenSpec.ofChange workerExactSpec)

/-- ITS FALSE NEIGHBOUR: 'it returns false'. Refute it at one input. -/
def workerExactWrong : ChangeSpec := { name := "workerExact", fn := fun _ => fun
  | [d] => { results := [.lit (.bool false)], args := [d] }
  | _ => none }
def WorkerExactWrongFalsely : Prop := workerExactRow.holds Tryz.pinned (OpenSpec.ofChange workerExactWrong)

/- THE SECOND FORM. 'bulk': how many values and letters a reading holds, each counted each time it is reached (what is shared counts as often as it is met; a slice's spare places count too). A statement '..UptoSaid' is the law's where the arguments, and the package variables that the reading takes, are together of bulk at most 1048576: NARROWER than '..Said'. Prove '..Said' where nothing that the law and all that it calls make is longer than what came in: it says more and counts as full. Else prove '..UptoSaid'. A law counts once. -/
mutual
def uptoBulk {H : Type} : DataW H → Nat
  | .lit (.string bytes) => bytes.length + 1
  | .lit _ => 1
  | .nil => 1
  | .ptr d => uptoBulk d + 1
  | .slice elems spare => uptoBulkAll elems + uptoBulkAll spare + 1
  | .agg parts => uptoBulkAll parts + 1
  | .iface _ d => uptoBulk d + 1
  | .map entries => uptoBulkEntries entries + 1
  | .held _ => 1
def uptoBulkAll {H : Type} : List (DataW H) → Nat
  | [] => 0
  | d :: r => uptoBulk d + uptoBulkAll r
def uptoBulkEntries {H : Type} : List (Lit × DataW H) → Nat
  | [] => 0
  | x :: r => uptoBulkEntry x + uptoBulkEntries r
def uptoBulkEntry {H : Type} : Lit × DataW H → Nat
  | (.string bytes, d) => bytes.length + uptoBulk d + 1
  | (_, d) => uptoBulk d + 1
 end
def uptoSmall : (H : Type) → List (DataW H) → Bool := fun _ ds => decide (uptoBulkAll ds ≤ 1048576)
def OpenSpec.upto (s : _root_.Go.ChangeSpec) : _root_.Go.OpenSpec := { _root_.Go.OpenSpec.ofChange s with cond := some uptoSmall }

/-- 'droverlaw13.WorkerAdds', WHERE WHAT IT READS IS OF BULK AT MOST 1048576: true; the input reads as it did. -/
def workerAddsUptoRow : OpenClaim := { program := "ytgfakefcmbpboaagreat", sum := "c4d762f36707ff824c7f14d15d1253eb06e022718fe2377963df69af1faf51c4", func := "drover/droverlaw13.WorkerAdds", spec := "workerAdds", inPlace := ["slices.overlaps[drover/api.Held]", "slices.overlaps[drover/api.Wait]", "slices.overlaps[int]"], unfollowed := true, recurses := true, apart := false, narrowed := true }
def WorkerAddsUptoSaid : Prop := workerAddsUptoRow.holds Tryz.pinned (OpenSpec.upto workerAddsSpec)

/-- 'droverlaw13.WorkerMakes', WHERE WHAT IT READS IS OF BULK AT MOST 1048576: true; the input reads as it did. -/
def workerMakesUptoRow : OpenClaim := { program := "ytgfakefcmbpboaagreat", sum := "c4d762f36707ff824c7f14d15d1253eb06e022718fe2377963df69af1faf51c4", func := "drover/droverlaw13.WorkerMakes", spec := "workerMakes", inPlace := ["slices.overlaps[drover/api.Held]", "slices.overlaps[drover/api.Wait]", "slices.overlaps[int]"], unfollowed := true, recurses := true, apart := false, narrowed := true }
def WorkerMakesUptoSaid : Prop := workerMakesUptoRow.holds Tryz.pinned (OpenSpec.upto workerMakesSpec)

/-- 'droverlaw13.WorkerSeals', WHERE WHAT IT READS IS OF BULK AT MOST 1048576: true; the input reads as it did. -/
def workerSealsUptoRow : OpenClaim := { program := "ytgfakefcmbpboaagreat", sum := "c4d762f36707ff824c7f14d15d1253eb06e022718fe2377963df69af1faf51c4", func := "drover/droverlaw13.WorkerSeals", spec := "workerSeals", inPlace := ["slices.overlaps[drover/api.Held]", "slices.overlaps[drover/api.Wait]", "slices.overlaps[int]"], unfollowed := true, recurses := true, apart := false, narrowed := true }
def WorkerSealsUptoSaid : Prop := workerSealsUptoRow.holds Tryz.pinned (OpenSpec.upto workerSealsSpec)

/-- 'droverlaw13.WorkerTicks', WHERE WHAT IT READS IS OF BULK AT MOST 1048576: true; the input reads as it did. -/
def workerTicksUptoRow : OpenClaim := { program := "ytgfakefcmbpboaagreat", sum := "c4d762f36707ff824c7f14d15d1253eb06e022718fe2377963df69af1faf51c4", func := "drover/droverlaw13.WorkerTicks", spec := "workerTicks", inPlace := ["slices.overlaps[drover/api.Held]", "slices.overlaps[drover/api.Wait]", "slices.overlaps[int]"], unfollowed := true, recurses := true, apart := false, narrowed := true }
def WorkerTicksUptoSaid : Prop := workerTicksUptoRow.holds Tryz.pinned (OpenSpec.upto workerTicksSpec)

/-- 'droverlaw13.WorkerTooks', WHERE WHAT IT READS IS OF BULK AT MOST 1048576: true; the input reads as it did. -/
def workerTooksUptoRow : OpenClaim := { program := "ytgfakefcmbpboaagreat", sum := "c4d762f36707ff824c7f14d15d1253eb06e022718fe2377963df69af1faf51c4", func := "drover/droverlaw13.WorkerTooks", spec := "workerTooks", inPlace := ["slices.overlaps[drover/api.Held]", "slices.overlaps[drover/api.Wait]", "slices.overlaps[int]"], unfollowed := true, recurses := true, apart := false, narrowed := true }
def WorkerTooksUptoSaid : Prop := workerTooksUptoRow.holds Tryz.pinned (OpenSpec.upto workerTooksSpec)

/-- 'droverlaw13.WorkerBacks', WHERE WHAT IT READS IS OF BULK AT MOST 1048576: true; the input reads as it did. -/
def workerBacksUptoRow : OpenClaim := { program := "ytgfakefcmbpboaagreat", sum := "c4d762f36707ff824c7f14d15d1253eb06e022718fe2377963df69af1faf51c4", func := "drover/droverlaw13.WorkerBacks", spec := "workerBacks", inPlace := ["slices.overlaps[drover/api.Held]", "slices.overlaps[drover/api.Wait]", "slices.overlaps[int]"], unfollowed := true, recurses := true, apart := false, narrowed := true }
def WorkerBacksUptoSaid : Prop := workerBacksUptoRow.holds Tryz.pinned (OpenSpec.upto workerBacksSpec)

/-- 'droverlaw13.WorkerAsked', WHERE WHAT IT READS IS OF BULK AT MOST 1048576: true; the input reads as it did. -/
def workerAskedUptoRow : OpenClaim := { program := "ytgfakefcmbpboaagreat", sum := "c4d762f36707ff824c7f14d15d1253eb06e022718fe2377963df69af1faf51c4", func := "drover/droverlaw13.WorkerAsked", spec := "workerAsked", inPlace := ["slices.overlaps[drover/api.Held]", "slices.overlaps[drover/api.Wait]", "slices.overlaps[int]"], unfollowed := true, recurses := true, apart := false, narrowed := true }
def WorkerAskedUptoSaid : Prop := workerAskedUptoRow.holds Tryz.pinned (OpenSpec.upto workerAskedSpec)

/-- 'droverlaw13.WorkerGiven', WHERE WHAT IT READS IS OF BULK AT MOST 1048576: true; the input reads as it did. -/
def workerGivenUptoRow : OpenClaim := { program := "ytgfakefcmbpboaagreat", sum := "c4d762f36707ff824c7f14d15d1253eb06e022718fe2377963df69af1faf51c4", func := "drover/droverlaw13.WorkerGiven", spec := "workerGiven", inPlace := ["slices.overlaps[drover/api.Held]", "slices.overlaps[drover/api.Wait]", "slices.overlaps[int]"], unfollowed := true, recurses := true, apart := false, narrowed := true }
def WorkerGivenUptoSaid : Prop := workerGivenUptoRow.holds Tryz.pinned (OpenSpec.upto workerGivenSpec)

/-- 'droverlaw13.WorkerTold', WHERE WHAT IT READS IS OF BULK AT MOST 1048576: true; the input reads as it did. -/
def workerToldUptoRow : OpenClaim := { program := "ytgfakefcmbpboaagreat", sum := "c4d762f36707ff824c7f14d15d1253eb06e022718fe2377963df69af1faf51c4", func := "drover/droverlaw13.WorkerTold", spec := "workerTold", inPlace := ["slices.overlaps[drover/api.Held]", "slices.overlaps[drover/api.Wait]", "slices.overlaps[int]"], unfollowed := true, recurses := true, apart := false, narrowed := true }
def WorkerToldUptoSaid : Prop := workerToldUptoRow.holds Tryz.pinned (OpenSpec.upto workerToldSpec)

/-- 'droverlaw13.WorkerWanted', WHERE WHAT IT READS IS OF BULK AT MOST 1048576: true; the input reads as it did. -/
def workerWantedUptoRow : OpenClaim := { program := "ytgfakefcmbpboaagreat", sum := "c4d762f36707ff824c7f14d15d1253eb06e022718fe2377963df69af1faf51c4", func := "drover/droverlaw13.WorkerWanted", spec := "workerWanted", inPlace := ["slices.overlaps[drover/api.Held]", "slices.overlaps[drover/api.Wait]", "slices.overlaps[int]"], unfollowed := true, recurses := true, apart := false, narrowed := true }
def WorkerWantedUptoSaid : Prop := workerWantedUptoRow.holds Tryz.pinned (OpenSpec.upto workerWantedSpec)

/-- 'droverlaw13.WorkerExact', WHERE WHAT IT READS IS OF BULK AT MOST 1048576: true; the input reads as it did. -/
def workerExactUptoRow : OpenClaim := { program := "ytgfakefcmbpboaagreat", sum := "c4d762f36707ff824c7f14d15d1253eb06e022718fe2377963df69af1faf51c4", func := "drover/droverlaw13.WorkerExact", spec := "workerExact", inPlace := ["slices.overlaps[drover/api.Held]", "slices.overlaps[drover/api.Wait]", "slices.overlaps[int]"], unfollowed := true, recurses := true, apart := false, narrowed := true }
def WorkerExactUptoSaid : Prop := workerExactUptoRow.holds Tryz.pinned (OpenSpec.upto workerExactSpec)

end Rows
end Go.Proofs.YtgfakefcmbpboaaGreat
