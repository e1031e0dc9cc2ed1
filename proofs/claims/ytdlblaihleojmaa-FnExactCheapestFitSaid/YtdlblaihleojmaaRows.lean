/-
  No cell of these rows narrows 'for every input' (looked for: loops, veiled, ifaces, maps, wideKeys, modest, calm, conditions, laid).
  DERIVED. THE GIVEN ROWS OF THIS SEAT. 8 by the template 'for every input the law returns true; each argument reads behind the call as it read before'; 0 by the template 'total and deterministic' (their statements: YtdlblaihleojmaaTotals.lean).
  GIVEN WITH THE SEED: the statements are not yours to turn. If you find one false, say at which input.
  Laid BY PROGRAM, IN A SANDBOX (cutbox-rows.mjs): the forced cells as the released guide's own fill.sh prints them over the translation 70417125466dad05… (all of the seat's roots in one cut). By AI agents, Wed Nov 11 2026. No macro, syntax, notation, axiom, sorry.
-/
import Derived.Test.YtdlblaihleojmaaChecked
import GoSem.Claim
import GoSem.ClaimJoined
import GoSem.ClaimMapViews
import Derived.JoinedTies
import Derived.KernelRfl
namespace Go.Proofs.Ytdlblaihleojmaa
/- THE CELL 'sum', in the pinned program and in every row, IS THE sha256 OF THE DUMP (.gsa) THAT YtdlblaihleojmaaProg.lean LOADS. Nothing in Lean hashes anything: it is a label: what it is worth is what the hold of that sum in a sandbox is worth. -/
noncomputable def Try.pinned : Pinned := { name := "ytdlblaihleojmaa", sum := "70417125466dad05ab7bf8f0a321cbfb21a0266114786c73acb36dac571a7a0c", checked := Try.checked }
namespace Rows
def none {H : Type} : Left H := { results := [], args := [] }

/-- 'laws.FnExactGoodCosts': WHATEVER THE INPUT: true; the input reads as it did. -/
def fnExactGoodCostsSpec : ChangeSpec := { name := "fnExactGoodCosts", fn := fun _ => fun
  | [d] => { results := [.lit (.bool true)], args := [d] }
  | _ => none }
def fnExactGoodCostsRow : OpenClaim := { program := "ytdlblaihleojmaa", sum := "70417125466dad05ab7bf8f0a321cbfb21a0266114786c73acb36dac571a7a0c", func := "loop.example/g00451/laws.FnExactGoodCosts", spec := "fnExactGoodCosts", unfollowed := true, recurses := true, apart := false }
def FnExactGoodCostsSaid : Prop := fnExactGoodCostsRow.holds Try.pinned (OpenSpec.ofChange fnExactGoodCostsSpec)

/-- ITS FALSE NEIGHBOUR: 'it returns false'. Refute it at one input. -/
def fnExactGoodCostsWrong : ChangeSpec := { name := "fnExactGoodCosts", fn := fun _ => fun
  | [d] => { results := [.lit (.bool false)], args := [d] }
  | _ => none }
def FnExactGoodCostsWrongFalsely : Prop := fnExactGoodCostsRow.holds Try.pinned (OpenSpec.ofChange fnExactGoodCostsWrong)

/-- 'laws.FnExactPriceSum': WHATEVER THE INPUT: true; the input reads as it did. -/
def fnExactPriceSumSpec : ChangeSpec := { name := "fnExactPriceSum", fn := fun _ => fun
  | [d] => { results := [.lit (.bool true)], args := [d] }
  | _ => none }
def fnExactPriceSumRow : OpenClaim := { program := "ytdlblaihleojmaa", sum := "70417125466dad05ab7bf8f0a321cbfb21a0266114786c73acb36dac571a7a0c", func := "loop.example/g00451/laws.FnExactPriceSum", spec := "fnExactPriceSum", unfollowed := true, recurses := true, apart := false }
def FnExactPriceSumSaid : Prop := fnExactPriceSumRow.holds Try.pinned (OpenSpec.ofChange fnExactPriceSumSpec)

/-- ITS FALSE NEIGHBOUR: 'it returns false'. Refute it at one input. -/
def fnExactPriceSumWrong : ChangeSpec := { name := "fnExactPriceSum", fn := fun _ => fun
  | [d] => { results := [.lit (.bool false)], args := [d] }
  | _ => none }
def FnExactPriceSumWrongFalsely : Prop := fnExactPriceSumRow.holds Try.pinned (OpenSpec.ofChange fnExactPriceSumWrong)

/-- 'laws.FnExactPricesHold': WHATEVER THE INPUT: true; the input reads as it did. -/
def fnExactPricesHoldSpec : ChangeSpec := { name := "fnExactPricesHold", fn := fun _ => fun
  | [d1, d2] => { results := [.lit (.bool true)], args := [d1, d2] }
  | _ => none }
def fnExactPricesHoldRow : OpenClaim := { program := "ytdlblaihleojmaa", sum := "70417125466dad05ab7bf8f0a321cbfb21a0266114786c73acb36dac571a7a0c", func := "loop.example/g00451/laws.FnExactPricesHold", spec := "fnExactPricesHold", unfollowed := true, recurses := true, apart := false }
def FnExactPricesHoldSaid : Prop := fnExactPricesHoldRow.holds Try.pinned (OpenSpec.ofChange fnExactPricesHoldSpec)

/-- ITS FALSE NEIGHBOUR: 'it returns false'. Refute it at one input. -/
def fnExactPricesHoldWrong : ChangeSpec := { name := "fnExactPricesHold", fn := fun _ => fun
  | [d1, d2] => { results := [.lit (.bool false)], args := [d1, d2] }
  | _ => none }
def FnExactPricesHoldWrongFalsely : Prop := fnExactPricesHoldRow.holds Try.pinned (OpenSpec.ofChange fnExactPricesHoldWrong)

/-- 'laws.FnExactReduceRows': WHATEVER THE INPUT: true; the input reads as it did. -/
def fnExactReduceRowsSpec : ChangeSpec := { name := "fnExactReduceRows", fn := fun _ => fun
  | [d] => { results := [.lit (.bool true)], args := [d] }
  | _ => none }
def fnExactReduceRowsRow : OpenClaim := { program := "ytdlblaihleojmaa", sum := "70417125466dad05ab7bf8f0a321cbfb21a0266114786c73acb36dac571a7a0c", func := "loop.example/g00451/laws.FnExactReduceRows", spec := "fnExactReduceRows", unfollowed := true, recurses := true, apart := false }
def FnExactReduceRowsSaid : Prop := fnExactReduceRowsRow.holds Try.pinned (OpenSpec.ofChange fnExactReduceRowsSpec)

/-- ITS FALSE NEIGHBOUR: 'it returns false'. Refute it at one input. -/
def fnExactReduceRowsWrong : ChangeSpec := { name := "fnExactReduceRows", fn := fun _ => fun
  | [d] => { results := [.lit (.bool false)], args := [d] }
  | _ => none }
def FnExactReduceRowsWrongFalsely : Prop := fnExactReduceRowsRow.holds Try.pinned (OpenSpec.ofChange fnExactReduceRowsWrong)

/-- 'laws.FnExactTightAt': WHATEVER THE INPUT: true; the input reads as it did. -/
def fnExactTightAtSpec : ChangeSpec := { name := "fnExactTightAt", fn := fun _ => fun
  | [d1, d2] => { results := [.lit (.bool true)], args := [d1, d2] }
  | _ => none }
def fnExactTightAtRow : OpenClaim := { program := "ytdlblaihleojmaa", sum := "70417125466dad05ab7bf8f0a321cbfb21a0266114786c73acb36dac571a7a0c", func := "loop.example/g00451/laws.FnExactTightAt", spec := "fnExactTightAt", unfollowed := true, recurses := true, apart := false }
def FnExactTightAtSaid : Prop := fnExactTightAtRow.holds Try.pinned (OpenSpec.ofChange fnExactTightAtSpec)

/-- ITS FALSE NEIGHBOUR: 'it returns false'. Refute it at one input. -/
def fnExactTightAtWrong : ChangeSpec := { name := "fnExactTightAt", fn := fun _ => fun
  | [d1, d2] => { results := [.lit (.bool false)], args := [d1, d2] }
  | _ => none }
def FnExactTightAtWrongFalsely : Prop := fnExactTightAtRow.holds Try.pinned (OpenSpec.ofChange fnExactTightAtWrong)

/-- 'laws.FnExactCheapestFit': WHATEVER THE INPUT: true; the input reads as it did. -/
def fnExactCheapestFitSpec : ChangeSpec := { name := "fnExactCheapestFit", fn := fun _ => fun
  | [d] => { results := [.lit (.bool true)], args := [d] }
  | _ => none }
def fnExactCheapestFitRow : OpenClaim := { program := "ytdlblaihleojmaa", sum := "70417125466dad05ab7bf8f0a321cbfb21a0266114786c73acb36dac571a7a0c", func := "loop.example/g00451/laws.FnExactCheapestFit", spec := "fnExactCheapestFit", unfollowed := true, recurses := true, apart := false }
def FnExactCheapestFitSaid : Prop := fnExactCheapestFitRow.holds Try.pinned (OpenSpec.ofChange fnExactCheapestFitSpec)

/-- ITS FALSE NEIGHBOUR: 'it returns false'. Refute it at one input. -/
def fnExactCheapestFitWrong : ChangeSpec := { name := "fnExactCheapestFit", fn := fun _ => fun
  | [d] => { results := [.lit (.bool false)], args := [d] }
  | _ => none }
def FnExactCheapestFitWrongFalsely : Prop := fnExactCheapestFitRow.holds Try.pinned (OpenSpec.ofChange fnExactCheapestFitWrong)

/-- 'laws.FnExactFitCost': WHATEVER THE INPUT: true; the input reads as it did. -/
def fnExactFitCostSpec : ChangeSpec := { name := "fnExactFitCost", fn := fun _ => fun
  | [d1, d2] => { results := [.lit (.bool true)], args := [d1, d2] }
  | _ => none }
def fnExactFitCostRow : OpenClaim := { program := "ytdlblaihleojmaa", sum := "70417125466dad05ab7bf8f0a321cbfb21a0266114786c73acb36dac571a7a0c", func := "loop.example/g00451/laws.FnExactFitCost", spec := "fnExactFitCost", unfollowed := true, recurses := true, apart := false }
def FnExactFitCostSaid : Prop := fnExactFitCostRow.holds Try.pinned (OpenSpec.ofChange fnExactFitCostSpec)

/-- ITS FALSE NEIGHBOUR: 'it returns false'. Refute it at one input. -/
def fnExactFitCostWrong : ChangeSpec := { name := "fnExactFitCost", fn := fun _ => fun
  | [d1, d2] => { results := [.lit (.bool false)], args := [d1, d2] }
  | _ => none }
def FnExactFitCostWrongFalsely : Prop := fnExactFitCostRow.holds Try.pinned (OpenSpec.ofChange fnExactFitCostWrong)

/-- 'laws.FnExactIsCover': WHATEVER THE INPUT: true; the input reads as it did. -/
def fnExactIsCoverSpec : ChangeSpec := { name := "fnExactIsCover", fn := fun _ => fun
  | [d1, d2, d3] => { results := [.lit (.bool true)], args := [d1, d2, d3] }
  | _ => none }
def fnExactIsCoverRow : OpenClaim := { program := "ytdlblaihleojmaa", sum := "70417125466dad05ab7bf8f0a321cbfb21a0266114786c73acb36dac571a7a0c", func := "loop.example/g00451/laws.FnExactIsCover", spec := "fnExactIsCover", unfollowed := true, recurses := true, apart := false }
def FnExactIsCoverSaid : Prop := fnExactIsCoverRow.holds Try.pinned (OpenSpec.ofChange fnExactIsCoverSpec)

/-- ITS FALSE NEIGHBOUR: 'it returns false'. Refute it at one input. -/
def fnExactIsCoverWrong : ChangeSpec := { name := "fnExactIsCover", fn := fun _ => fun
  | [d1, d2, d3] => { results := [.lit (.bool false)], args := [d1, d2, d3] }
  | _ => none }
def FnExactIsCoverWrongFalsely : Prop := fnExactIsCoverRow.holds Try.pinned (OpenSpec.ofChange fnExactIsCoverWrong)

/- THE SECOND FORM. 'bulk': how many values and letters a reading holds, each counted each time it is reached (what is shared counts as often as it is met; a slice's spare places count too). A statement '..UptoSaid' is the law's where the arguments, and the package variables that the reading takes, are together of bulk at most 1048576: NARROWER than '..Said'. Prove '..Said' where nothing that the law and all that it calls make is longer than what came in: it says more and counts as full. Else prove '..UptoSaid'. A law counts once. -/
mutual
def uptoBulk {H : Type} : DataW H → Nat
  | .lit (.string bytes) => bytes.length + 1
  | .lit _ => 1
  | .nil => 1
  | .ptr d => uptoBulk d + 1
  | .slice elems spare => uptoBulkAll elems + uptoBulkAll spare + 1
  | .agg parts => uptoBulkAll parts + 1
  | .iface _ d => uptoBulk d + 1
  | .map entries => uptoBulkEntries entries + 1
  | .held _ => 1
def uptoBulkAll {H : Type} : List (DataW H) → Nat
  | [] => 0
  | d :: r => uptoBulk d + uptoBulkAll r
def uptoBulkEntries {H : Type} : List (Lit × DataW H) → Nat
  | [] => 0
  | x :: r => uptoBulkEntry x + uptoBulkEntries r
def uptoBulkEntry {H : Type} : Lit × DataW H → Nat
  | (.string bytes, d) => bytes.length + uptoBulk d + 1
  | (_, d) => uptoBulk d + 1
 end
def uptoSmall : (H : Type) → List (DataW H) → Bool := fun _ ds => decide (uptoBulkAll ds ≤ 1048576)
def OpenSpec.upto (s : _root_.Go.ChangeSpec) : _root_.Go.OpenSpec := { _root_.Go.OpenSpec.ofChange s with cond := some uptoSmall }

/-- 'laws.FnExactGoodCosts', WHERE WHAT IT READS IS OF BULK AT MOST 1048576: true; the input reads as it did. -/
def fnExactGoodCostsUptoRow : OpenClaim := { program := "ytdlblaihleojmaa", sum := "70417125466dad05ab7bf8f0a321cbfb21a0266114786c73acb36dac571a7a0c", func := "loop.example/g00451/laws.FnExactGoodCosts", spec := "fnExactGoodCosts", unfollowed := true, recurses := true, apart := false, narrowed := true }
def FnExactGoodCostsUptoSaid : Prop := fnExactGoodCostsUptoRow.holds Try.pinned (OpenSpec.upto fnExactGoodCostsSpec)

/-- 'laws.FnExactPriceSum', WHERE WHAT IT READS IS OF BULK AT MOST 1048576: true; the input reads as it did. -/
def fnExactPriceSumUptoRow : OpenClaim := { program := "ytdlblaihleojmaa", sum := "70417125466dad05ab7bf8f0a321cbfb21a0266114786c73acb36dac571a7a0c", func := "loop.example/g00451/laws.FnExactPriceSum", spec := "fnExactPriceSum", unfollowed := true, recurses := true, apart := false, narrowed := true }
def FnExactPriceSumUptoSaid : Prop := fnExactPriceSumUptoRow.holds Try.pinned (OpenSpec.upto fnExactPriceSumSpec)

/-- 'laws.FnExactPricesHold', WHERE WHAT IT READS IS OF BULK AT MOST 1048576: true; the input reads as it did. -/
def fnExactPricesHoldUptoRow : OpenClaim := { program := "ytdlblaihleojmaa", sum := "70417125466dad05ab7bf8f0a321cbfb21a0266114786c73acb36dac571a7a0c", func := "loop.example/g00451/laws.FnExactPricesHold", spec := "fnExactPricesHold", unfollowed := true, recurses := true, apart := false, narrowed := true }
def FnExactPricesHoldUptoSaid : Prop := fnExactPricesHoldUptoRow.holds Try.pinned (OpenSpec.upto fnExactPricesHoldSpec)

/-- 'laws.FnExactReduceRows', WHERE WHAT IT READS IS OF BULK AT MOST 1048576: true; the input reads as it did. -/
def fnExactReduceRowsUptoRow : OpenClaim := { program := "ytdlblaihleojmaa", sum := "70417125466dad05ab7bf8f0a321cbfb21a0266114786c73acb36dac571a7a0c", func := "loop.example/g00451/laws.FnExactReduceRows", spec := "fnExactReduceRows", unfollowed := true, recurses := true, apart := false, narrowed := true }
def FnExactReduceRowsUptoSaid : Prop := fnExactReduceRowsUptoRow.holds Try.pinned (OpenSpec.upto fnExactReduceRowsSpec)

/-- 'laws.FnExactTightAt', WHERE WHAT IT READS IS OF BULK AT MOST 1048576: true; the input reads as it did. -/
def fnExactTightAtUptoRow : OpenClaim := { program := "ytdlblaihleojmaa", sum := "70417125466dad05ab7bf8f0a321cbfb21a0266114786c73acb36dac571a7a0c", func := "loop.example/g00451/laws.FnExactTightAt", spec := "fnExactTightAt", unfollowed := true, recurses := true, apart := false, narrowed := true }
def FnExactTightAtUptoSaid : Prop := fnExactTightAtUptoRow.holds Try.pinned (OpenSpec.upto fnExactTightAtSpec)

/-- 'laws.FnExactCheapestFit', WHERE WHAT IT READS IS OF BULK AT MOST 1048576: true; the input reads as it did. -/
def fnExactCheapestFitUptoRow : OpenClaim := { program := "ytdlblaihleojmaa", sum := "70417125466dad05ab7bf8f0a321cbfb21a0266114786c73acb36dac571a7a0c", func := "loop.example/g00451/laws.FnExactCheapestFit", spec := "fnExactCheapestFit", unfollowed := true, recurses := true, apart := false, narrowed := true }
def FnExactCheapestFitUptoSaid : Prop := fnExactCheapestFitUptoRow.holds Try.pinned (OpenSpec.upto fnExactCheapestFitSpec)

/-- 'laws.FnExactFitCost', WHERE WHAT IT READS IS OF BULK AT MOST 1048576: true; the input reads as it did. -/
def fnExactFitCostUptoRow : OpenClaim := { program := "ytdlblaihleojmaa", sum := "70417125466dad05ab7bf8f0a321cbfb21a0266114786c73acb36dac571a7a0c", func := "loop.example/g00451/laws.FnExactFitCost", spec := "fnExactFitCost", unfollowed := true, recurses := true, apart := false, narrowed := true }
def FnExactFitCostUptoSaid : Prop := fnExactFitCostUptoRow.holds Try.pinned (OpenSpec.upto fnExactFitCostSpec)

/-- 'laws.FnExactIsCover', WHERE WHAT IT READS IS OF BULK AT MOST 1048576: true; the input reads as it did. -/
def fnExactIsCoverUptoRow : OpenClaim := { program := "ytdlblaihleojmaa", sum := "70417125466dad05ab7bf8f0a321cbfb21a0266114786c73acb36dac571a7a0c", func := "loop.example/g00451/laws.FnExactIsCover", spec := "fnExactIsCover", unfollowed := true, recurses := true, apart := false, narrowed := true }
def FnExactIsCoverUptoSaid : Prop := fnExactIsCoverUptoRow.holds Try.pinned (OpenSpec.upto fnExactIsCoverSpec)

end Rows
end Go.Proofs.Ytdlblaihleojmaa
