/-
  No cell of these rows narrows 'for every input' (looked for: loops, veiled, ifaces, maps, wideKeys, modest, calm, conditions, laid).
  DERIVED. THE GIVEN ROWS OF THIS SEAT. 7 by the template 'for every input the law returns true; each argument reads behind the call as it read before'; 0 by the template 'total and deterministic' (their statements: YtgeapkhhfmjpaaaTotals.lean).
  GIVEN WITH THE SEED: the statements are not yours to turn. If you find one false, say at which input.
  Laid BY PROGRAM, IN A SANDBOX (cutbox-rows.mjs): the forced cells as the released guide's own fill.sh prints them over the translation 3715a7954af38c39… (all of the seat's roots in one cut). By AI agents, Wed Nov 11 2026. No macro, syntax, notation, axiom, sorry.
-/
import Derived.Test.YtgeapkhhfmjpaaaChecked
import GoSem.Claim
import GoSem.ClaimJoined
import GoSem.ClaimMapViews
import Derived.JoinedTies
import Derived.KernelRfl
namespace Go.Proofs.Ytgeapkhhfmjpaaa
/- THE CELL 'sum', in the pinned program and in every row, IS THE sha256 OF THE DUMP (.gsa) THAT YtgeapkhhfmjpaaaProg.lean LOADS. Nothing in Lean hashes anything: it is a label: what it is worth is what the hold of that sum in a sandbox is worth. -/
noncomputable def Try.pinned : Pinned := { name := "ytgeapkhhfmjpaaa", sum := "3715a7954af38c39ee8b211ad536ee3fa3c4105cde81dd55dfa8e6f61ef1e264", checked := Try.checked }
namespace Rows
def none {H : Type} : Left H := { results := [], args := [] }

/-- 'laws.FnExactOwnersFit': WHATEVER THE INPUT: true; the input reads as it did. -/
def fnExactOwnersFitSpec : ChangeSpec := { name := "fnExactOwnersFit", fn := fun _ => fun
  | [d1, d2] => { results := [.lit (.bool true)], args := [d1, d2] }
  | _ => none }
def fnExactOwnersFitRow : OpenClaim := { program := "ytgeapkhhfmjpaaa", sum := "3715a7954af38c39ee8b211ad536ee3fa3c4105cde81dd55dfa8e6f61ef1e264", func := "loop.example/g00451/laws.FnExactOwnersFit", spec := "fnExactOwnersFit", unfollowed := true, recurses := true, apart := false }
def FnExactOwnersFitSaid : Prop := fnExactOwnersFitRow.holds Try.pinned (OpenSpec.ofChange fnExactOwnersFitSpec)

/-- ITS FALSE NEIGHBOUR: 'it returns false'. Refute it at one input. -/
def fnExactOwnersFitWrong : ChangeSpec := { name := "fnExactOwnersFit", fn := fun _ => fun
  | [d1, d2] => { results := [.lit (.bool false)], args := [d1, d2] }
  | _ => none }
def FnExactOwnersFitWrongFalsely : Prop := fnExactOwnersFitRow.holds Try.pinned (OpenSpec.ofChange fnExactOwnersFitWrong)

/-- 'laws.FnExactGoodHouse': WHATEVER THE INPUT: true; the input reads as it did. -/
def fnExactGoodHouseSpec : ChangeSpec := { name := "fnExactGoodHouse", fn := fun _ => fun
  | [d] => { results := [.lit (.bool true)], args := [d] }
  | _ => none }
def fnExactGoodHouseRow : OpenClaim := { program := "ytgeapkhhfmjpaaa", sum := "3715a7954af38c39ee8b211ad536ee3fa3c4105cde81dd55dfa8e6f61ef1e264", func := "loop.example/g00451/laws.FnExactGoodHouse", spec := "fnExactGoodHouse", unfollowed := true, recurses := true, apart := false }
def FnExactGoodHouseSaid : Prop := fnExactGoodHouseRow.holds Try.pinned (OpenSpec.ofChange fnExactGoodHouseSpec)

/-- ITS FALSE NEIGHBOUR: 'it returns false'. Refute it at one input. -/
def fnExactGoodHouseWrong : ChangeSpec := { name := "fnExactGoodHouse", fn := fun _ => fun
  | [d] => { results := [.lit (.bool false)], args := [d] }
  | _ => none }
def FnExactGoodHouseWrongFalsely : Prop := fnExactGoodHouseRow.holds Try.pinned (OpenSpec.ofChange fnExactGoodHouseWrong)

/-- 'laws.FnExactNearestOf': WHATEVER THE INPUT: true; the input reads as it did. -/
def fnExactNearestOfSpec : ChangeSpec := { name := "fnExactNearestOf", fn := fun _ => fun
  | [d1, d2] => { results := [.lit (.bool true)], args := [d1, d2] }
  | _ => none }
def fnExactNearestOfRow : OpenClaim := { program := "ytgeapkhhfmjpaaa", sum := "3715a7954af38c39ee8b211ad536ee3fa3c4105cde81dd55dfa8e6f61ef1e264", func := "loop.example/g00451/laws.FnExactNearestOf", spec := "fnExactNearestOf", unfollowed := true, recurses := true, apart := false }
def FnExactNearestOfSaid : Prop := fnExactNearestOfRow.holds Try.pinned (OpenSpec.ofChange fnExactNearestOfSpec)

/-- ITS FALSE NEIGHBOUR: 'it returns false'. Refute it at one input. -/
def fnExactNearestOfWrong : ChangeSpec := { name := "fnExactNearestOf", fn := fun _ => fun
  | [d1, d2] => { results := [.lit (.bool false)], args := [d1, d2] }
  | _ => none }
def FnExactNearestOfWrongFalsely : Prop := fnExactNearestOfRow.holds Try.pinned (OpenSpec.ofChange fnExactNearestOfWrong)

/-- 'laws.FnExactTravelOf': WHATEVER THE INPUT: true; the input reads as it did. -/
def fnExactTravelOfSpec : ChangeSpec := { name := "fnExactTravelOf", fn := fun _ => fun
  | [d1, d2, d3, d4] => { results := [.lit (.bool true)], args := [d1, d2, d3, d4] }
  | _ => none }
def fnExactTravelOfRow : OpenClaim := { program := "ytgeapkhhfmjpaaa", sum := "3715a7954af38c39ee8b211ad536ee3fa3c4105cde81dd55dfa8e6f61ef1e264", func := "loop.example/g00451/laws.FnExactTravelOf", spec := "fnExactTravelOf", unfollowed := true, recurses := true, apart := false }
def FnExactTravelOfSaid : Prop := fnExactTravelOfRow.holds Try.pinned (OpenSpec.ofChange fnExactTravelOfSpec)

/-- ITS FALSE NEIGHBOUR: 'it returns false'. Refute it at one input. -/
def fnExactTravelOfWrong : ChangeSpec := { name := "fnExactTravelOf", fn := fun _ => fun
  | [d1, d2, d3, d4] => { results := [.lit (.bool false)], args := [d1, d2, d3, d4] }
  | _ => none }
def FnExactTravelOfWrongFalsely : Prop := fnExactTravelOfRow.holds Try.pinned (OpenSpec.ofChange fnExactTravelOfWrong)

/-- 'laws.FnExactGoodTrade': WHATEVER THE INPUT: true; the input reads as it did. -/
def fnExactGoodTradeSpec : ChangeSpec := { name := "fnExactGoodTrade", fn := fun _ => fun
  | [d] => { results := [.lit (.bool true)], args := [d] }
  | _ => none }
def fnExactGoodTradeRow : OpenClaim := { program := "ytgeapkhhfmjpaaa", sum := "3715a7954af38c39ee8b211ad536ee3fa3c4105cde81dd55dfa8e6f61ef1e264", func := "loop.example/g00451/laws.FnExactGoodTrade", spec := "fnExactGoodTrade", unfollowed := true, recurses := true, apart := false }
def FnExactGoodTradeSaid : Prop := fnExactGoodTradeRow.holds Try.pinned (OpenSpec.ofChange fnExactGoodTradeSpec)

/-- ITS FALSE NEIGHBOUR: 'it returns false'. Refute it at one input. -/
def fnExactGoodTradeWrong : ChangeSpec := { name := "fnExactGoodTrade", fn := fun _ => fun
  | [d] => { results := [.lit (.bool false)], args := [d] }
  | _ => none }
def FnExactGoodTradeWrongFalsely : Prop := fnExactGoodTradeRow.holds Try.pinned (OpenSpec.ofChange fnExactGoodTradeWrong)

/-- 'laws.FnExactEachDay': WHATEVER THE INPUT: true; the input reads as it did. -/
def fnExactEachDaySpec : ChangeSpec := { name := "fnExactEachDay", fn := fun _ => fun
  | [d] => { results := [.lit (.bool true)], args := [d] }
  | _ => none }
def fnExactEachDayRow : OpenClaim := { program := "ytgeapkhhfmjpaaa", sum := "3715a7954af38c39ee8b211ad536ee3fa3c4105cde81dd55dfa8e6f61ef1e264", func := "loop.example/g00451/laws.FnExactEachDay", spec := "fnExactEachDay", unfollowed := true, recurses := true, apart := false }
def FnExactEachDaySaid : Prop := fnExactEachDayRow.holds Try.pinned (OpenSpec.ofChange fnExactEachDaySpec)

/-- ITS FALSE NEIGHBOUR: 'it returns false'. Refute it at one input. -/
def fnExactEachDayWrong : ChangeSpec := { name := "fnExactEachDay", fn := fun _ => fun
  | [d] => { results := [.lit (.bool false)], args := [d] }
  | _ => none }
def FnExactEachDayWrongFalsely : Prop := fnExactEachDayRow.holds Try.pinned (OpenSpec.ofChange fnExactEachDayWrong)

/-- 'laws.FnExactLotsFor': WHATEVER THE INPUT: true; the input reads as it did. -/
def fnExactLotsForSpec : ChangeSpec := { name := "fnExactLotsFor", fn := fun _ => fun
  | [d1, d2] => { results := [.lit (.bool true)], args := [d1, d2] }
  | _ => none }
def fnExactLotsForRow : OpenClaim := { program := "ytgeapkhhfmjpaaa", sum := "3715a7954af38c39ee8b211ad536ee3fa3c4105cde81dd55dfa8e6f61ef1e264", func := "loop.example/g00451/laws.FnExactLotsFor", spec := "fnExactLotsFor", unfollowed := true, recurses := true, apart := false }
def FnExactLotsForSaid : Prop := fnExactLotsForRow.holds Try.pinned (OpenSpec.ofChange fnExactLotsForSpec)

/-- ITS FALSE NEIGHBOUR: 'it returns false'. Refute it at one input. -/
def fnExactLotsForWrong : ChangeSpec := { name := "fnExactLotsFor", fn := fun _ => fun
  | [d1, d2] => { results := [.lit (.bool false)], args := [d1, d2] }
  | _ => none }
def FnExactLotsForWrongFalsely : Prop := fnExactLotsForRow.holds Try.pinned (OpenSpec.ofChange fnExactLotsForWrong)

/- THE SECOND FORM. 'bulk': how many values and letters a reading holds, each counted each time it is reached (what is shared counts as often as it is met; a slice's spare places count too). A statement '..UptoSaid' is the law's where the arguments, and the package variables that the reading takes, are together of bulk at most 1048576: NARROWER than '..Said'. Prove '..Said' where nothing that the law and all that it calls make is longer than what came in: it says more and counts as full. Else prove '..UptoSaid'. A law counts once. -/
mutual
def uptoBulk {H : Type} : DataW H → Nat
  | .lit (.string bytes) => bytes.length + 1
  | .lit _ => 1
  | .nil => 1
  | .ptr d => uptoBulk d + 1
  | .slice elems spare => uptoBulkAll elems + uptoBulkAll spare + 1
  | .agg parts => uptoBulkAll parts + 1
  | .iface _ d => uptoBulk d + 1
  | .map entries => uptoBulkEntries entries + 1
  | .held _ => 1
def uptoBulkAll {H : Type} : List (DataW H) → Nat
  | [] => 0
  | d :: r => uptoBulk d + uptoBulkAll r
def uptoBulkEntries {H : Type} : List (Lit × DataW H) → Nat
  | [] => 0
  | x :: r => uptoBulkEntry x + uptoBulkEntries r
def uptoBulkEntry {H : Type} : Lit × DataW H → Nat
  | (.string bytes, d) => bytes.length + uptoBulk d + 1
  | (_, d) => uptoBulk d + 1
 end
def uptoSmall : (H : Type) → List (DataW H) → Bool := fun _ ds => decide (uptoBulkAll ds ≤ 1048576)
def OpenSpec.upto (s : _root_.Go.ChangeSpec) : _root_.Go.OpenSpec := { _root_.Go.OpenSpec.ofChange s with cond := some uptoSmall }

/-- 'laws.FnExactOwnersFit', WHERE WHAT IT READS IS OF BULK AT MOST 1048576: true; the input reads as it did. -/
def fnExactOwnersFitUptoRow : OpenClaim := { program := "ytgeapkhhfmjpaaa", sum := "3715a7954af38c39ee8b211ad536ee3fa3c4105cde81dd55dfa8e6f61ef1e264", func := "loop.example/g00451/laws.FnExactOwnersFit", spec := "fnExactOwnersFit", unfollowed := true, recurses := true, apart := false, narrowed := true }
def FnExactOwnersFitUptoSaid : Prop := fnExactOwnersFitUptoRow.holds Try.pinned (OpenSpec.upto fnExactOwnersFitSpec)

/-- 'laws.FnExactGoodHouse', WHERE WHAT IT READS IS OF BULK AT MOST 1048576: true; the input reads as it did. -/
def fnExactGoodHouseUptoRow : OpenClaim := { program := "ytgeapkhhfmjpaaa", sum := "3715a7954af38c39ee8b211ad536ee3fa3c4105cde81dd55dfa8e6f61ef1e264", func := "loop.example/g00451/laws.FnExactGoodHouse", spec := "fnExactGoodHouse", unfollowed := true, recurses := true, apart := false, narrowed := true }
def FnExactGoodHouseUptoSaid : Prop := fnExactGoodHouseUptoRow.holds Try.pinned (OpenSpec.upto fnExactGoodHouseSpec)

/-- 'laws.FnExactNearestOf', WHERE WHAT IT READS IS OF BULK AT MOST 1048576: true; the input reads as it did. -/
def fnExactNearestOfUptoRow : OpenClaim := { program := "ytgeapkhhfmjpaaa", sum := "3715a7954af38c39ee8b211ad536ee3fa3c4105cde81dd55dfa8e6f61ef1e264", func := "loop.example/g00451/laws.FnExactNearestOf", spec := "fnExactNearestOf", unfollowed := true, recurses := true, apart := false, narrowed := true }
def FnExactNearestOfUptoSaid : Prop := fnExactNearestOfUptoRow.holds Try.pinned (OpenSpec.upto fnExactNearestOfSpec)

/-- 'laws.FnExactTravelOf', WHERE WHAT IT READS IS OF BULK AT MOST 1048576: true; the input reads as it did. -/
def fnExactTravelOfUptoRow : OpenClaim := { program := "ytgeapkhhfmjpaaa", sum := "3715a7954af38c39ee8b211ad536ee3fa3c4105cde81dd55dfa8e6f61ef1e264", func := "loop.example/g00451/laws.FnExactTravelOf", spec := "fnExactTravelOf", unfollowed := true, recurses := true, apart := false, narrowed := true }
def FnExactTravelOfUptoSaid : Prop := fnExactTravelOfUptoRow.holds Try.pinned (OpenSpec.upto fnExactTravelOfSpec)

/-- 'laws.FnExactGoodTrade', WHERE WHAT IT READS IS OF BULK AT MOST 1048576: true; the input reads as it did. -/
def fnExactGoodTradeUptoRow : OpenClaim := { program := "ytgeapkhhfmjpaaa", sum := "3715a7954af38c39ee8b211ad536ee3fa3c4105cde81dd55dfa8e6f61ef1e264", func := "loop.example/g00451/laws.FnExactGoodTrade", spec := "fnExactGoodTrade", unfollowed := true, recurses := true, apart := false, narrowed := true }
def FnExactGoodTradeUptoSaid : Prop := fnExactGoodTradeUptoRow.holds Try.pinned (OpenSpec.upto fnExactGoodTradeSpec)

/-- 'laws.FnExactEachDay', WHERE WHAT IT READS IS OF BULK AT MOST 1048576: true; the input reads as it did. -/
def fnExactEachDayUptoRow : OpenClaim := { program := "ytgeapkhhfmjpaaa", sum := "3715a7954af38c39ee8b211ad536ee3fa3c4105cde81dd55dfa8e6f61ef1e264", func := "loop.example/g00451/laws.FnExactEachDay", spec := "fnExactEachDay", unfollowed := true, recurses := true, apart := false, narrowed := true }
def FnExactEachDayUptoSaid : Prop := fnExactEachDayUptoRow.holds Try.pinned (OpenSpec.upto fnExactEachDaySpec)

/-- 'laws.FnExactLotsFor', WHERE WHAT IT READS IS OF BULK AT MOST 1048576: true; the input reads as it did. -/
def fnExactLotsForUptoRow : OpenClaim := { program := "ytgeapkhhfmjpaaa", sum := "3715a7954af38c39ee8b211ad536ee3fa3c4105cde81dd55dfa8e6f61ef1e264", func := "loop.example/g00451/laws.FnExactLotsFor", spec := "fnExactLotsFor", unfollowed := true, recurses := true, apart := false, narrowed := true }
def FnExactLotsForUptoSaid : Prop := fnExactLotsForUptoRow.holds Try.pinned (OpenSpec.upto fnExactLotsForSpec)

end Rows
end Go.Proofs.Ytgeapkhhfmjpaaa
