/-
  No cell of these rows narrows 'for every input' (looked for: loops, veiled, ifaces, maps, wideKeys, modest, calm, conditions, laid).
  DERIVED. THE GIVEN ROWS OF THIS SEAT. 7 by the template 'for every input the law returns true; each argument reads behind the call as it read before'; 0 by the template 'total and deterministic' (their statements: YtcbjfnkeieeecaaTotals.lean).
  GIVEN WITH THE SEED: the statements are not yours to turn. If you find one false, say at which input.
  Laid BY PROGRAM, IN A SANDBOX (cutbox-rows.mjs): the forced cells as the released guide's own fill.sh prints them over the translation ef22b767981e7fff… (all of the seat's roots in one cut). By AI agents, Wed Nov 11 2026. No macro, syntax, notation, axiom, sorry.
-/
import Derived.Test.YtcbjfnkeieeecaaChecked
import GoSem.Claim
import GoSem.ClaimJoined
import GoSem.ClaimMapViews
import Derived.JoinedTies
import Derived.KernelRfl
namespace Go.Proofs.Ytcbjfnkeieeecaa
/- THE CELL 'sum', in the pinned program and in every row, IS THE sha256 OF THE DUMP (.gsa) THAT YtcbjfnkeieeecaaProg.lean LOADS. Nothing in Lean hashes anything: it is a label: what it is worth is what the hold of that sum in a sandbox is worth. -/
noncomputable def Try.pinned : Pinned := { name := "ytcbjfnkeieeecaa", sum := "ef22b767981e7fff9bd1e2c4fe11da5ecc158fbf338deebd709ef2a19be32a16", checked := Try.checked }
namespace Rows
def none {H : Type} : Left H := { results := [], args := [] }

/-- 'laws.FnExactOnWay': WHATEVER THE INPUT: true; the input reads as it did. -/
def fnExactOnWaySpec : ChangeSpec := { name := "fnExactOnWay", fn := fun _ => fun
  | [d1, d2, d3] => { results := [.lit (.bool true)], args := [d1, d2, d3] }
  | _ => none }
def fnExactOnWayRow : OpenClaim := { program := "ytcbjfnkeieeecaa", sum := "ef22b767981e7fff9bd1e2c4fe11da5ecc158fbf338deebd709ef2a19be32a16", func := "loop.example/g00451/laws.FnExactOnWay", spec := "fnExactOnWay", apart := false }
def FnExactOnWaySaid : Prop := fnExactOnWayRow.holds Try.pinned (OpenSpec.ofChange fnExactOnWaySpec)

/-- ITS FALSE NEIGHBOUR: 'it returns false'. Refute it at one input. -/
def fnExactOnWayWrong : ChangeSpec := { name := "fnExactOnWay", fn := fun _ => fun
  | [d1, d2, d3] => { results := [.lit (.bool false)], args := [d1, d2, d3] }
  | _ => none }
def FnExactOnWayWrongFalsely : Prop := fnExactOnWayRow.holds Try.pinned (OpenSpec.ofChange fnExactOnWayWrong)

/-- 'laws.FnExactWayBetween': WHATEVER THE INPUT: true; the input reads as it did. -/
def fnExactWayBetweenSpec : ChangeSpec := { name := "fnExactWayBetween", fn := fun _ => fun
  | [d1, d2] => { results := [.lit (.bool true)], args := [d1, d2] }
  | _ => none }
def fnExactWayBetweenRow : OpenClaim := { program := "ytcbjfnkeieeecaa", sum := "ef22b767981e7fff9bd1e2c4fe11da5ecc158fbf338deebd709ef2a19be32a16", func := "loop.example/g00451/laws.FnExactWayBetween", spec := "fnExactWayBetween", apart := false }
def FnExactWayBetweenSaid : Prop := fnExactWayBetweenRow.holds Try.pinned (OpenSpec.ofChange fnExactWayBetweenSpec)

/-- ITS FALSE NEIGHBOUR: 'it returns false'. Refute it at one input. -/
def fnExactWayBetweenWrong : ChangeSpec := { name := "fnExactWayBetween", fn := fun _ => fun
  | [d1, d2] => { results := [.lit (.bool false)], args := [d1, d2] }
  | _ => none }
def FnExactWayBetweenWrongFalsely : Prop := fnExactWayBetweenRow.holds Try.pinned (OpenSpec.ofChange fnExactWayBetweenWrong)

/-- 'laws.FnExactGoodStops': WHATEVER THE INPUT: true; the input reads as it did. -/
def fnExactGoodStopsSpec : ChangeSpec := { name := "fnExactGoodStops", fn := fun _ => fun
  | [d] => { results := [.lit (.bool true)], args := [d] }
  | _ => none }
def fnExactGoodStopsRow : OpenClaim := { program := "ytcbjfnkeieeecaa", sum := "ef22b767981e7fff9bd1e2c4fe11da5ecc158fbf338deebd709ef2a19be32a16", func := "loop.example/g00451/laws.FnExactGoodStops", spec := "fnExactGoodStops", unfollowed := true, recurses := true, apart := false }
def FnExactGoodStopsSaid : Prop := fnExactGoodStopsRow.holds Try.pinned (OpenSpec.ofChange fnExactGoodStopsSpec)

/-- ITS FALSE NEIGHBOUR: 'it returns false'. Refute it at one input. -/
def fnExactGoodStopsWrong : ChangeSpec := { name := "fnExactGoodStops", fn := fun _ => fun
  | [d] => { results := [.lit (.bool false)], args := [d] }
  | _ => none }
def FnExactGoodStopsWrongFalsely : Prop := fnExactGoodStopsRow.holds Try.pinned (OpenSpec.ofChange fnExactGoodStopsWrong)

/-- 'laws.FnExactTourCost': WHATEVER THE INPUT: true; the input reads as it did. -/
def fnExactTourCostSpec : ChangeSpec := { name := "fnExactTourCost", fn := fun _ => fun
  | [d1, d2] => { results := [.lit (.bool true)], args := [d1, d2] }
  | _ => none }
def fnExactTourCostRow : OpenClaim := { program := "ytcbjfnkeieeecaa", sum := "ef22b767981e7fff9bd1e2c4fe11da5ecc158fbf338deebd709ef2a19be32a16", func := "loop.example/g00451/laws.FnExactTourCost", spec := "fnExactTourCost", unfollowed := true, recurses := true, apart := false }
def FnExactTourCostSaid : Prop := fnExactTourCostRow.holds Try.pinned (OpenSpec.ofChange fnExactTourCostSpec)

/-- ITS FALSE NEIGHBOUR: 'it returns false'. Refute it at one input. -/
def fnExactTourCostWrong : ChangeSpec := { name := "fnExactTourCost", fn := fun _ => fun
  | [d1, d2] => { results := [.lit (.bool false)], args := [d1, d2] }
  | _ => none }
def FnExactTourCostWrongFalsely : Prop := fnExactTourCostRow.holds Try.pinned (OpenSpec.ofChange fnExactTourCostWrong)

/-- 'laws.FnExactBestTour': WHATEVER THE INPUT: true; the input reads as it did. -/
def fnExactBestTourSpec : ChangeSpec := { name := "fnExactBestTour", fn := fun _ => fun
  | [d] => { results := [.lit (.bool true)], args := [d] }
  | _ => none }
def fnExactBestTourRow : OpenClaim := { program := "ytcbjfnkeieeecaa", sum := "ef22b767981e7fff9bd1e2c4fe11da5ecc158fbf338deebd709ef2a19be32a16", func := "loop.example/g00451/laws.FnExactBestTour", spec := "fnExactBestTour", unfollowed := true, recurses := true, apart := false }
def FnExactBestTourSaid : Prop := fnExactBestTourRow.holds Try.pinned (OpenSpec.ofChange fnExactBestTourSpec)

/-- ITS FALSE NEIGHBOUR: 'it returns false'. Refute it at one input. -/
def fnExactBestTourWrong : ChangeSpec := { name := "fnExactBestTour", fn := fun _ => fun
  | [d] => { results := [.lit (.bool false)], args := [d] }
  | _ => none }
def FnExactBestTourWrongFalsely : Prop := fnExactBestTourRow.holds Try.pinned (OpenSpec.ofChange fnExactBestTourWrong)

/-- 'laws.FnExactTreeOf': WHATEVER THE INPUT: true; the input reads as it did. -/
def fnExactTreeOfSpec : ChangeSpec := { name := "fnExactTreeOf", fn := fun _ => fun
  | [d] => { results := [.lit (.bool true)], args := [d] }
  | _ => none }
def fnExactTreeOfRow : OpenClaim := { program := "ytcbjfnkeieeecaa", sum := "ef22b767981e7fff9bd1e2c4fe11da5ecc158fbf338deebd709ef2a19be32a16", func := "loop.example/g00451/laws.FnExactTreeOf", spec := "fnExactTreeOf", unfollowed := true, recurses := true, apart := false }
def FnExactTreeOfSaid : Prop := fnExactTreeOfRow.holds Try.pinned (OpenSpec.ofChange fnExactTreeOfSpec)

/-- ITS FALSE NEIGHBOUR: 'it returns false'. Refute it at one input. -/
def fnExactTreeOfWrong : ChangeSpec := { name := "fnExactTreeOf", fn := fun _ => fun
  | [d] => { results := [.lit (.bool false)], args := [d] }
  | _ => none }
def FnExactTreeOfWrongFalsely : Prop := fnExactTreeOfRow.holds Try.pinned (OpenSpec.ofChange fnExactTreeOfWrong)

/-- 'laws.FnExactTreeTour': WHATEVER THE INPUT: true; the input reads as it did. -/
def fnExactTreeTourSpec : ChangeSpec := { name := "fnExactTreeTour", fn := fun _ => fun
  | [d] => { results := [.lit (.bool true)], args := [d] }
  | _ => none }
def fnExactTreeTourRow : OpenClaim := { program := "ytcbjfnkeieeecaa", sum := "ef22b767981e7fff9bd1e2c4fe11da5ecc158fbf338deebd709ef2a19be32a16", func := "loop.example/g00451/laws.FnExactTreeTour", spec := "fnExactTreeTour", unfollowed := true, recurses := true, apart := false }
def FnExactTreeTourSaid : Prop := fnExactTreeTourRow.holds Try.pinned (OpenSpec.ofChange fnExactTreeTourSpec)

/-- ITS FALSE NEIGHBOUR: 'it returns false'. Refute it at one input. -/
def fnExactTreeTourWrong : ChangeSpec := { name := "fnExactTreeTour", fn := fun _ => fun
  | [d] => { results := [.lit (.bool false)], args := [d] }
  | _ => none }
def FnExactTreeTourWrongFalsely : Prop := fnExactTreeTourRow.holds Try.pinned (OpenSpec.ofChange fnExactTreeTourWrong)

/- THE SECOND FORM. 'bulk': how many values and letters a reading holds, each counted each time it is reached (what is shared counts as often as it is met; a slice's spare places count too). A statement '..UptoSaid' is the law's where the arguments, and the package variables that the reading takes, are together of bulk at most 1048576: NARROWER than '..Said'. Prove '..Said' where nothing that the law and all that it calls make is longer than what came in: it says more and counts as full. Else prove '..UptoSaid'. A law counts once. -/
mutual
def uptoBulk {H : Type} : DataW H → Nat
  | .lit (.string bytes) => bytes.length + 1
  | .lit _ => 1
  | .nil => 1
  | .ptr d => uptoBulk d + 1
  | .slice elems spare => uptoBulkAll elems + uptoBulkAll spare + 1
  | .agg parts => uptoBulkAll parts + 1
  | .iface _ d => uptoBulk d + 1
  | .map entries => uptoBulkEntries entries + 1
  | .held _ => 1
def uptoBulkAll {H : Type} : List (DataW H) → Nat
  | [] => 0
  | d :: r => uptoBulk d + uptoBulkAll r
def uptoBulkEntries {H : Type} : List (Lit × DataW H) → Nat
  | [] => 0
  | x :: r => uptoBulkEntry x + uptoBulkEntries r
def uptoBulkEntry {H : Type} : Lit × DataW H → Nat
  | (.string bytes, d) => bytes.length + uptoBulk d + 1
  | (_, d) => uptoBulk d + 1
 end
def uptoSmall : (H : Type) → List (DataW H) → Bool := fun _ ds => decide (uptoBulkAll ds ≤ 1048576)
def OpenSpec.upto (s : _root_.Go.ChangeSpec) : _root_.Go.OpenSpec := { _root_.Go.OpenSpec.ofChange s with cond := some uptoSmall }

/-- 'laws.FnExactOnWay', WHERE WHAT IT READS IS OF BULK AT MOST 1048576: true; the input reads as it did. -/
def fnExactOnWayUptoRow : OpenClaim := { program := "ytcbjfnkeieeecaa", sum := "ef22b767981e7fff9bd1e2c4fe11da5ecc158fbf338deebd709ef2a19be32a16", func := "loop.example/g00451/laws.FnExactOnWay", spec := "fnExactOnWay", apart := false, narrowed := true }
def FnExactOnWayUptoSaid : Prop := fnExactOnWayUptoRow.holds Try.pinned (OpenSpec.upto fnExactOnWaySpec)

/-- 'laws.FnExactWayBetween', WHERE WHAT IT READS IS OF BULK AT MOST 1048576: true; the input reads as it did. -/
def fnExactWayBetweenUptoRow : OpenClaim := { program := "ytcbjfnkeieeecaa", sum := "ef22b767981e7fff9bd1e2c4fe11da5ecc158fbf338deebd709ef2a19be32a16", func := "loop.example/g00451/laws.FnExactWayBetween", spec := "fnExactWayBetween", apart := false, narrowed := true }
def FnExactWayBetweenUptoSaid : Prop := fnExactWayBetweenUptoRow.holds Try.pinned (OpenSpec.upto fnExactWayBetweenSpec)

/-- 'laws.FnExactGoodStops', WHERE WHAT IT READS IS OF BULK AT MOST 1048576: true; the input reads as it did. -/
def fnExactGoodStopsUptoRow : OpenClaim := { program := "ytcbjfnkeieeecaa", sum := "ef22b767981e7fff9bd1e2c4fe11da5ecc158fbf338deebd709ef2a19be32a16", func := "loop.example/g00451/laws.FnExactGoodStops", spec := "fnExactGoodStops", unfollowed := true, recurses := true, apart := false, narrowed := true }
def FnExactGoodStopsUptoSaid : Prop := fnExactGoodStopsUptoRow.holds Try.pinned (OpenSpec.upto fnExactGoodStopsSpec)

/-- 'laws.FnExactTourCost', WHERE WHAT IT READS IS OF BULK AT MOST 1048576: true; the input reads as it did. -/
def fnExactTourCostUptoRow : OpenClaim := { program := "ytcbjfnkeieeecaa", sum := "ef22b767981e7fff9bd1e2c4fe11da5ecc158fbf338deebd709ef2a19be32a16", func := "loop.example/g00451/laws.FnExactTourCost", spec := "fnExactTourCost", unfollowed := true, recurses := true, apart := false, narrowed := true }
def FnExactTourCostUptoSaid : Prop := fnExactTourCostUptoRow.holds Try.pinned (OpenSpec.upto fnExactTourCostSpec)

/-- 'laws.FnExactBestTour', WHERE WHAT IT READS IS OF BULK AT MOST 1048576: true; the input reads as it did. -/
def fnExactBestTourUptoRow : OpenClaim := { program := "ytcbjfnkeieeecaa", sum := "ef22b767981e7fff9bd1e2c4fe11da5ecc158fbf338deebd709ef2a19be32a16", func := "loop.example/g00451/laws.FnExactBestTour", spec := "fnExactBestTour", unfollowed := true, recurses := true, apart := false, narrowed := true }
def FnExactBestTourUptoSaid : Prop := fnExactBestTourUptoRow.holds Try.pinned (OpenSpec.upto fnExactBestTourSpec)

/-- 'laws.FnExactTreeOf', WHERE WHAT IT READS IS OF BULK AT MOST 1048576: true; the input reads as it did. -/
def fnExactTreeOfUptoRow : OpenClaim := { program := "ytcbjfnkeieeecaa", sum := "ef22b767981e7fff9bd1e2c4fe11da5ecc158fbf338deebd709ef2a19be32a16", func := "loop.example/g00451/laws.FnExactTreeOf", spec := "fnExactTreeOf", unfollowed := true, recurses := true, apart := false, narrowed := true }
def FnExactTreeOfUptoSaid : Prop := fnExactTreeOfUptoRow.holds Try.pinned (OpenSpec.upto fnExactTreeOfSpec)

/-- 'laws.FnExactTreeTour', WHERE WHAT IT READS IS OF BULK AT MOST 1048576: true; the input reads as it did. -/
def fnExactTreeTourUptoRow : OpenClaim := { program := "ytcbjfnkeieeecaa", sum := "ef22b767981e7fff9bd1e2c4fe11da5ecc158fbf338deebd709ef2a19be32a16", func := "loop.example/g00451/laws.FnExactTreeTour", spec := "fnExactTreeTour", unfollowed := true, recurses := true, apart := false, narrowed := true }
def FnExactTreeTourUptoSaid : Prop := fnExactTreeTourUptoRow.holds Try.pinned (OpenSpec.upto fnExactTreeTourSpec)

end Rows
end Go.Proofs.Ytcbjfnkeieeecaa
