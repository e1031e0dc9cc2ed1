/-
  No cell of these rows narrows 'for every input' (looked for: loops, veiled, ifaces, maps, wideKeys, modest, calm, conditions, laid).
  DERIVED. THE GIVEN ROWS OF THIS SEAT. 6 by the template 'for every input the law returns true; each argument reads behind the call as it read before'; 0 by the template 'total and deterministic' (their statements: YtopnbfifbccegaaTotals.lean).
  GIVEN WITH THE SEED: the statements are not yours to turn. If you find one false, say at which input.
  Laid BY PROGRAM, IN A SANDBOX (cutbox-rows.mjs): the forced cells as the released guide's own fill.sh prints them over the translation 5cb4c529a9a09b97… (all of the seat's roots in one cut). By AI agents, Wed Nov 11 2026. No macro, syntax, notation, axiom, sorry.
-/
import Derived.Test.YtopnbfifbccegaaChecked
import GoSem.Claim
import GoSem.ClaimJoined
import GoSem.ClaimMapViews
import Derived.JoinedTies
import Derived.KernelRfl
namespace Go.Proofs.Ytopnbfifbccegaa
/- THE CELL 'sum', in the pinned program and in every row, IS THE sha256 OF THE DUMP (.gsa) THAT YtopnbfifbccegaaProg.lean LOADS. Nothing in Lean hashes anything: it is a label: what it is worth is what the hold of that sum in a sandbox is worth. -/
noncomputable def Try.pinned : Pinned := { name := "ytopnbfifbccegaa", sum := "5cb4c529a9a09b972359da3e6e7bd5cd57b3e77d490b8be99b49009a36f7308b", checked := Try.checked }
namespace Rows
def none {H : Type} : Left H := { results := [], args := [] }

/-- 'laws.FnExactGoodItems': WHATEVER THE INPUT: true; the input reads as it did. -/
def fnExactGoodItemsSpec : ChangeSpec := { name := "fnExactGoodItems", fn := fun _ => fun
  | [d] => { results := [.lit (.bool true)], args := [d] }
  | _ => none }
def fnExactGoodItemsRow : OpenClaim := { program := "ytopnbfifbccegaa", sum := "5cb4c529a9a09b972359da3e6e7bd5cd57b3e77d490b8be99b49009a36f7308b", func := "loop.example/g00451/laws.FnExactGoodItems", spec := "fnExactGoodItems", unfollowed := true, recurses := true, apart := false }
def FnExactGoodItemsSaid : Prop := fnExactGoodItemsRow.holds Try.pinned (OpenSpec.ofChange fnExactGoodItemsSpec)

/-- ITS FALSE NEIGHBOUR: 'it returns false'. Refute it at one input. -/
def fnExactGoodItemsWrong : ChangeSpec := { name := "fnExactGoodItems", fn := fun _ => fun
  | [d] => { results := [.lit (.bool false)], args := [d] }
  | _ => none }
def FnExactGoodItemsWrongFalsely : Prop := fnExactGoodItemsRow.holds Try.pinned (OpenSpec.ofChange fnExactGoodItemsWrong)

/-- 'laws.FnExactOnWay': WHATEVER THE INPUT: true; the input reads as it did. -/
def fnExactOnWaySpec : ChangeSpec := { name := "fnExactOnWay", fn := fun _ => fun
  | [d1, d2, d3] => { results := [.lit (.bool true)], args := [d1, d2, d3] }
  | _ => none }
def fnExactOnWayRow : OpenClaim := { program := "ytopnbfifbccegaa", sum := "5cb4c529a9a09b972359da3e6e7bd5cd57b3e77d490b8be99b49009a36f7308b", func := "loop.example/g00451/laws.FnExactOnWay", spec := "fnExactOnWay", apart := false }
def FnExactOnWaySaid : Prop := fnExactOnWayRow.holds Try.pinned (OpenSpec.ofChange fnExactOnWaySpec)

/-- ITS FALSE NEIGHBOUR: 'it returns false'. Refute it at one input. -/
def fnExactOnWayWrong : ChangeSpec := { name := "fnExactOnWay", fn := fun _ => fun
  | [d1, d2, d3] => { results := [.lit (.bool false)], args := [d1, d2, d3] }
  | _ => none }
def FnExactOnWayWrongFalsely : Prop := fnExactOnWayRow.holds Try.pinned (OpenSpec.ofChange fnExactOnWayWrong)

/-- 'laws.FnExactWayBetween': WHATEVER THE INPUT: true; the input reads as it did. -/
def fnExactWayBetweenSpec : ChangeSpec := { name := "fnExactWayBetween", fn := fun _ => fun
  | [d1, d2] => { results := [.lit (.bool true)], args := [d1, d2] }
  | _ => none }
def fnExactWayBetweenRow : OpenClaim := { program := "ytopnbfifbccegaa", sum := "5cb4c529a9a09b972359da3e6e7bd5cd57b3e77d490b8be99b49009a36f7308b", func := "loop.example/g00451/laws.FnExactWayBetween", spec := "fnExactWayBetween", apart := false }
def FnExactWayBetweenSaid : Prop := fnExactWayBetweenRow.holds Try.pinned (OpenSpec.ofChange fnExactWayBetweenSpec)

/-- ITS FALSE NEIGHBOUR: 'it returns false'. Refute it at one input. -/
def fnExactWayBetweenWrong : ChangeSpec := { name := "fnExactWayBetween", fn := fun _ => fun
  | [d1, d2] => { results := [.lit (.bool false)], args := [d1, d2] }
  | _ => none }
def FnExactWayBetweenWrongFalsely : Prop := fnExactWayBetweenRow.holds Try.pinned (OpenSpec.ofChange fnExactWayBetweenWrong)

/-- 'laws.FnExactGoodStops': WHATEVER THE INPUT: true; the input reads as it did. -/
def fnExactGoodStopsSpec : ChangeSpec := { name := "fnExactGoodStops", fn := fun _ => fun
  | [d] => { results := [.lit (.bool true)], args := [d] }
  | _ => none }
def fnExactGoodStopsRow : OpenClaim := { program := "ytopnbfifbccegaa", sum := "5cb4c529a9a09b972359da3e6e7bd5cd57b3e77d490b8be99b49009a36f7308b", func := "loop.example/g00451/laws.FnExactGoodStops", spec := "fnExactGoodStops", unfollowed := true, recurses := true, apart := false }
def FnExactGoodStopsSaid : Prop := fnExactGoodStopsRow.holds Try.pinned (OpenSpec.ofChange fnExactGoodStopsSpec)

/-- ITS FALSE NEIGHBOUR: 'it returns false'. Refute it at one input. -/
def fnExactGoodStopsWrong : ChangeSpec := { name := "fnExactGoodStops", fn := fun _ => fun
  | [d] => { results := [.lit (.bool false)], args := [d] }
  | _ => none }
def FnExactGoodStopsWrongFalsely : Prop := fnExactGoodStopsRow.holds Try.pinned (OpenSpec.ofChange fnExactGoodStopsWrong)

/-- 'laws.FnExactLeastBoxes': WHATEVER THE INPUT: true; the input reads as it did. -/
def fnExactLeastBoxesSpec : ChangeSpec := { name := "fnExactLeastBoxes", fn := fun _ => fun
  | [d] => { results := [.lit (.bool true)], args := [d] }
  | _ => none }
def fnExactLeastBoxesRow : OpenClaim := { program := "ytopnbfifbccegaa", sum := "5cb4c529a9a09b972359da3e6e7bd5cd57b3e77d490b8be99b49009a36f7308b", func := "loop.example/g00451/laws.FnExactLeastBoxes", spec := "fnExactLeastBoxes", unfollowed := true, recurses := true, apart := false }
def FnExactLeastBoxesSaid : Prop := fnExactLeastBoxesRow.holds Try.pinned (OpenSpec.ofChange fnExactLeastBoxesSpec)

/-- ITS FALSE NEIGHBOUR: 'it returns false'. Refute it at one input. -/
def fnExactLeastBoxesWrong : ChangeSpec := { name := "fnExactLeastBoxes", fn := fun _ => fun
  | [d] => { results := [.lit (.bool false)], args := [d] }
  | _ => none }
def FnExactLeastBoxesWrongFalsely : Prop := fnExactLeastBoxesRow.holds Try.pinned (OpenSpec.ofChange fnExactLeastBoxesWrong)

/-- 'laws.FnExactGoodSpots': WHATEVER THE INPUT: true; the input reads as it did. -/
def fnExactGoodSpotsSpec : ChangeSpec := { name := "fnExactGoodSpots", fn := fun _ => fun
  | [d] => { results := [.lit (.bool true)], args := [d] }
  | _ => none }
def fnExactGoodSpotsRow : OpenClaim := { program := "ytopnbfifbccegaa", sum := "5cb4c529a9a09b972359da3e6e7bd5cd57b3e77d490b8be99b49009a36f7308b", func := "loop.example/g00451/laws.FnExactGoodSpots", spec := "fnExactGoodSpots", unfollowed := true, recurses := true, apart := false }
def FnExactGoodSpotsSaid : Prop := fnExactGoodSpotsRow.holds Try.pinned (OpenSpec.ofChange fnExactGoodSpotsSpec)

/-- ITS FALSE NEIGHBOUR: 'it returns false'. Refute it at one input. -/
def fnExactGoodSpotsWrong : ChangeSpec := { name := "fnExactGoodSpots", fn := fun _ => fun
  | [d] => { results := [.lit (.bool false)], args := [d] }
  | _ => none }
def FnExactGoodSpotsWrongFalsely : Prop := fnExactGoodSpotsRow.holds Try.pinned (OpenSpec.ofChange fnExactGoodSpotsWrong)

/- THE SECOND FORM. 'bulk': how many values and letters a reading holds, each counted each time it is reached (what is shared counts as often as it is met; a slice's spare places count too). A statement '..UptoSaid' is the law's where the arguments, and the package variables that the reading takes, are together of bulk at most 1048576: NARROWER than '..Said'. Prove '..Said' where nothing that the law and all that it calls make is longer than what came in: it says more and counts as full. Else prove '..UptoSaid'. A law counts once. -/
mutual
def uptoBulk {H : Type} : DataW H → Nat
  | .lit (.string bytes) => bytes.length + 1
  | .lit _ => 1
  | .nil => 1
  | .ptr d => uptoBulk d + 1
  | .slice elems spare => uptoBulkAll elems + uptoBulkAll spare + 1
  | .agg parts => uptoBulkAll parts + 1
  | .iface _ d => uptoBulk d + 1
  | .map entries => uptoBulkEntries entries + 1
  | .held _ => 1
def uptoBulkAll {H : Type} : List (DataW H) → Nat
  | [] => 0
  | d :: r => uptoBulk d + uptoBulkAll r
def uptoBulkEntries {H : Type} : List (Lit × DataW H) → Nat
  | [] => 0
  | x :: r => uptoBulkEntry x + uptoBulkEntries r
def uptoBulkEntry {H : Type} : Lit × DataW H → Nat
  | (.string bytes, d) => bytes.length + uptoBulk d + 1
  | (_, d) => uptoBulk d + 1
 end
def uptoSmall : (H : Type) → List (DataW H) → Bool := fun _ ds => decide (uptoBulkAll ds ≤ 1048576)
def OpenSpec.upto (s : _root_.Go.ChangeSpec) : _root_.Go.OpenSpec := { _root_.Go.OpenSpec.ofChange s with cond := some uptoSmall }

/-- 'laws.FnExactGoodItems', WHERE WHAT IT READS IS OF BULK AT MOST 1048576: true; the input reads as it did. -/
def fnExactGoodItemsUptoRow : OpenClaim := { program := "ytopnbfifbccegaa", sum := "5cb4c529a9a09b972359da3e6e7bd5cd57b3e77d490b8be99b49009a36f7308b", func := "loop.example/g00451/laws.FnExactGoodItems", spec := "fnExactGoodItems", unfollowed := true, recurses := true, apart := false, narrowed := true }
def FnExactGoodItemsUptoSaid : Prop := fnExactGoodItemsUptoRow.holds Try.pinned (OpenSpec.upto fnExactGoodItemsSpec)

/-- 'laws.FnExactOnWay', WHERE WHAT IT READS IS OF BULK AT MOST 1048576: true; the input reads as it did. -/
def fnExactOnWayUptoRow : OpenClaim := { program := "ytopnbfifbccegaa", sum := "5cb4c529a9a09b972359da3e6e7bd5cd57b3e77d490b8be99b49009a36f7308b", func := "loop.example/g00451/laws.FnExactOnWay", spec := "fnExactOnWay", apart := false, narrowed := true }
def FnExactOnWayUptoSaid : Prop := fnExactOnWayUptoRow.holds Try.pinned (OpenSpec.upto fnExactOnWaySpec)

/-- 'laws.FnExactWayBetween', WHERE WHAT IT READS IS OF BULK AT MOST 1048576: true; the input reads as it did. -/
def fnExactWayBetweenUptoRow : OpenClaim := { program := "ytopnbfifbccegaa", sum := "5cb4c529a9a09b972359da3e6e7bd5cd57b3e77d490b8be99b49009a36f7308b", func := "loop.example/g00451/laws.FnExactWayBetween", spec := "fnExactWayBetween", apart := false, narrowed := true }
def FnExactWayBetweenUptoSaid : Prop := fnExactWayBetweenUptoRow.holds Try.pinned (OpenSpec.upto fnExactWayBetweenSpec)

/-- 'laws.FnExactGoodStops', WHERE WHAT IT READS IS OF BULK AT MOST 1048576: true; the input reads as it did. -/
def fnExactGoodStopsUptoRow : OpenClaim := { program := "ytopnbfifbccegaa", sum := "5cb4c529a9a09b972359da3e6e7bd5cd57b3e77d490b8be99b49009a36f7308b", func := "loop.example/g00451/laws.FnExactGoodStops", spec := "fnExactGoodStops", unfollowed := true, recurses := true, apart := false, narrowed := true }
def FnExactGoodStopsUptoSaid : Prop := fnExactGoodStopsUptoRow.holds Try.pinned (OpenSpec.upto fnExactGoodStopsSpec)

/-- 'laws.FnExactLeastBoxes', WHERE WHAT IT READS IS OF BULK AT MOST 1048576: true; the input reads as it did. -/
def fnExactLeastBoxesUptoRow : OpenClaim := { program := "ytopnbfifbccegaa", sum := "5cb4c529a9a09b972359da3e6e7bd5cd57b3e77d490b8be99b49009a36f7308b", func := "loop.example/g00451/laws.FnExactLeastBoxes", spec := "fnExactLeastBoxes", unfollowed := true, recurses := true, apart := false, narrowed := true }
def FnExactLeastBoxesUptoSaid : Prop := fnExactLeastBoxesUptoRow.holds Try.pinned (OpenSpec.upto fnExactLeastBoxesSpec)

/-- 'laws.FnExactGoodSpots', WHERE WHAT IT READS IS OF BULK AT MOST 1048576: true; the input reads as it did. -/
def fnExactGoodSpotsUptoRow : OpenClaim := { program := "ytopnbfifbccegaa", sum := "5cb4c529a9a09b972359da3e6e7bd5cd57b3e77d490b8be99b49009a36f7308b", func := "loop.example/g00451/laws.FnExactGoodSpots", spec := "fnExactGoodSpots", unfollowed := true, recurses := true, apart := false, narrowed := true }
def FnExactGoodSpotsUptoSaid : Prop := fnExactGoodSpotsUptoRow.holds Try.pinned (OpenSpec.upto fnExactGoodSpotsSpec)

end Rows
end Go.Proofs.Ytopnbfifbccegaa
