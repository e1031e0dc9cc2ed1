/-
  No cell of these rows narrows 'for every input' (looked for: loops, veiled, ifaces, maps, wideKeys, modest, calm, conditions, laid).
  DERIVED. THE GIVEN ROWS OF THIS SEAT. 8 by the template 'for every input the law returns true; each argument reads behind the call as it read before'; 0 by the template 'total and deterministic' (their statements: YtdbepjnapjjlcaaTotals.lean).
  GIVEN WITH THE SEED: the statements are not yours to turn. If you find one false, say at which input.
  Laid BY PROGRAM, IN A SANDBOX (cutbox-rows.mjs): the forced cells as the released guide's own fill.sh prints them over the translation 1d439af6891e100f… (all of the seat's roots in one cut). By AI agents, Wed Nov 11 2026. No macro, syntax, notation, axiom, sorry.
-/
import Derived.Test.YtdbepjnapjjlcaaChecked
import GoSem.Claim
import GoSem.ClaimJoined
import GoSem.ClaimMapViews
import Derived.JoinedTies
import Derived.KernelRfl
namespace Go.Proofs.Ytdbepjnapjjlcaa
/- THE CELL 'sum', in the pinned program and in every row, IS THE sha256 OF THE DUMP (.gsa) THAT YtdbepjnapjjlcaaProg.lean LOADS. Nothing in Lean hashes anything: it is a label: what it is worth is what the hold of that sum in a sandbox is worth. -/
noncomputable def Try.pinned : Pinned := { name := "ytdbepjnapjjlcaa", sum := "1d439af6891e100feb5f201861e68fbdd5e068283152ae9d3014998f1ea570c1", checked := Try.checked }
namespace Rows
def none {H : Type} : Left H := { results := [], args := [] }

/-- 'laws.FnExactGoodNet': WHATEVER THE INPUT: true; the input reads as it did. -/
def fnExactGoodNetSpec : ChangeSpec := { name := "fnExactGoodNet", fn := fun _ => fun
  | [d] => { results := [.lit (.bool true)], args := [d] }
  | _ => none }
def fnExactGoodNetRow : OpenClaim := { program := "ytdbepjnapjjlcaa", sum := "1d439af6891e100feb5f201861e68fbdd5e068283152ae9d3014998f1ea570c1", func := "loop.example/g00451/laws.FnExactGoodNet", spec := "fnExactGoodNet", unfollowed := true, recurses := true, apart := false }
def FnExactGoodNetSaid : Prop := fnExactGoodNetRow.holds Try.pinned (OpenSpec.ofChange fnExactGoodNetSpec)

/-- ITS FALSE NEIGHBOUR: 'it returns false'. Refute it at one input. -/
def fnExactGoodNetWrong : ChangeSpec := { name := "fnExactGoodNet", fn := fun _ => fun
  | [d] => { results := [.lit (.bool false)], args := [d] }
  | _ => none }
def FnExactGoodNetWrongFalsely : Prop := fnExactGoodNetRow.holds Try.pinned (OpenSpec.ofChange fnExactGoodNetWrong)

/-- 'laws.FnExactFlowValue': WHATEVER THE INPUT: true; the input reads as it did. -/
def fnExactFlowValueSpec : ChangeSpec := { name := "fnExactFlowValue", fn := fun _ => fun
  | [d] => { results := [.lit (.bool true)], args := [d] }
  | _ => none }
def fnExactFlowValueRow : OpenClaim := { program := "ytdbepjnapjjlcaa", sum := "1d439af6891e100feb5f201861e68fbdd5e068283152ae9d3014998f1ea570c1", func := "loop.example/g00451/laws.FnExactFlowValue", spec := "fnExactFlowValue", unfollowed := true, recurses := true, apart := false }
def FnExactFlowValueSaid : Prop := fnExactFlowValueRow.holds Try.pinned (OpenSpec.ofChange fnExactFlowValueSpec)

/-- ITS FALSE NEIGHBOUR: 'it returns false'. Refute it at one input. -/
def fnExactFlowValueWrong : ChangeSpec := { name := "fnExactFlowValue", fn := fun _ => fun
  | [d] => { results := [.lit (.bool false)], args := [d] }
  | _ => none }
def FnExactFlowValueWrongFalsely : Prop := fnExactFlowValueRow.holds Try.pinned (OpenSpec.ofChange fnExactFlowValueWrong)

/-- 'laws.FnExactIsFlow': WHATEVER THE INPUT: true; the input reads as it did. -/
def fnExactIsFlowSpec : ChangeSpec := { name := "fnExactIsFlow", fn := fun _ => fun
  | [d1, d2] => { results := [.lit (.bool true)], args := [d1, d2] }
  | _ => none }
def fnExactIsFlowRow : OpenClaim := { program := "ytdbepjnapjjlcaa", sum := "1d439af6891e100feb5f201861e68fbdd5e068283152ae9d3014998f1ea570c1", func := "loop.example/g00451/laws.FnExactIsFlow", spec := "fnExactIsFlow", unfollowed := true, recurses := true, apart := false }
def FnExactIsFlowSaid : Prop := fnExactIsFlowRow.holds Try.pinned (OpenSpec.ofChange fnExactIsFlowSpec)

/-- ITS FALSE NEIGHBOUR: 'it returns false'. Refute it at one input. -/
def fnExactIsFlowWrong : ChangeSpec := { name := "fnExactIsFlow", fn := fun _ => fun
  | [d1, d2] => { results := [.lit (.bool false)], args := [d1, d2] }
  | _ => none }
def FnExactIsFlowWrongFalsely : Prop := fnExactIsFlowRow.holds Try.pinned (OpenSpec.ofChange fnExactIsFlowWrong)

/-- 'laws.FnExactCutWidth': WHATEVER THE INPUT: true; the input reads as it did. -/
def fnExactCutWidthSpec : ChangeSpec := { name := "fnExactCutWidth", fn := fun _ => fun
  | [d1, d2] => { results := [.lit (.bool true)], args := [d1, d2] }
  | _ => none }
def fnExactCutWidthRow : OpenClaim := { program := "ytdbepjnapjjlcaa", sum := "1d439af6891e100feb5f201861e68fbdd5e068283152ae9d3014998f1ea570c1", func := "loop.example/g00451/laws.FnExactCutWidth", spec := "fnExactCutWidth", unfollowed := true, recurses := true, apart := false }
def FnExactCutWidthSaid : Prop := fnExactCutWidthRow.holds Try.pinned (OpenSpec.ofChange fnExactCutWidthSpec)

/-- ITS FALSE NEIGHBOUR: 'it returns false'. Refute it at one input. -/
def fnExactCutWidthWrong : ChangeSpec := { name := "fnExactCutWidth", fn := fun _ => fun
  | [d1, d2] => { results := [.lit (.bool false)], args := [d1, d2] }
  | _ => none }
def FnExactCutWidthWrongFalsely : Prop := fnExactCutWidthRow.holds Try.pinned (OpenSpec.ofChange fnExactCutWidthWrong)

/-- 'laws.FnExactPushWay': WHATEVER THE INPUT: true; the input reads as it did. -/
def fnExactPushWaySpec : ChangeSpec := { name := "fnExactPushWay", fn := fun _ => fun
  | [d1, d2, d3] => { results := [.lit (.bool true)], args := [d1, d2, d3] }
  | _ => none }
def fnExactPushWayRow : OpenClaim := { program := "ytdbepjnapjjlcaa", sum := "1d439af6891e100feb5f201861e68fbdd5e068283152ae9d3014998f1ea570c1", func := "loop.example/g00451/laws.FnExactPushWay", spec := "fnExactPushWay", unfollowed := true, recurses := true, apart := false }
def FnExactPushWaySaid : Prop := fnExactPushWayRow.holds Try.pinned (OpenSpec.ofChange fnExactPushWaySpec)

/-- ITS FALSE NEIGHBOUR: 'it returns false'. Refute it at one input. -/
def fnExactPushWayWrong : ChangeSpec := { name := "fnExactPushWay", fn := fun _ => fun
  | [d1, d2, d3] => { results := [.lit (.bool false)], args := [d1, d2, d3] }
  | _ => none }
def FnExactPushWayWrongFalsely : Prop := fnExactPushWayRow.holds Try.pinned (OpenSpec.ofChange fnExactPushWayWrong)

/-- 'laws.FnExactNextWay': WHATEVER THE INPUT: true; the input reads as it did. -/
def fnExactNextWaySpec : ChangeSpec := { name := "fnExactNextWay", fn := fun _ => fun
  | [d1, d2] => { results := [.lit (.bool true)], args := [d1, d2] }
  | _ => none }
def fnExactNextWayRow : OpenClaim := { program := "ytdbepjnapjjlcaa", sum := "1d439af6891e100feb5f201861e68fbdd5e068283152ae9d3014998f1ea570c1", func := "loop.example/g00451/laws.FnExactNextWay", spec := "fnExactNextWay", unfollowed := true, recurses := true, apart := false }
def FnExactNextWaySaid : Prop := fnExactNextWayRow.holds Try.pinned (OpenSpec.ofChange fnExactNextWaySpec)

/-- ITS FALSE NEIGHBOUR: 'it returns false'. Refute it at one input. -/
def fnExactNextWayWrong : ChangeSpec := { name := "fnExactNextWay", fn := fun _ => fun
  | [d1, d2] => { results := [.lit (.bool false)], args := [d1, d2] }
  | _ => none }
def FnExactNextWayWrongFalsely : Prop := fnExactNextWayRow.holds Try.pinned (OpenSpec.ofChange fnExactNextWayWrong)

/-- 'laws.FnExactCutOf': WHATEVER THE INPUT: true; the input reads as it did. -/
def fnExactCutOfSpec : ChangeSpec := { name := "fnExactCutOf", fn := fun _ => fun
  | [d] => { results := [.lit (.bool true)], args := [d] }
  | _ => none }
def fnExactCutOfRow : OpenClaim := { program := "ytdbepjnapjjlcaa", sum := "1d439af6891e100feb5f201861e68fbdd5e068283152ae9d3014998f1ea570c1", func := "loop.example/g00451/laws.FnExactCutOf", spec := "fnExactCutOf", unfollowed := true, recurses := true, apart := false }
def FnExactCutOfSaid : Prop := fnExactCutOfRow.holds Try.pinned (OpenSpec.ofChange fnExactCutOfSpec)

/-- ITS FALSE NEIGHBOUR: 'it returns false'. Refute it at one input. -/
def fnExactCutOfWrong : ChangeSpec := { name := "fnExactCutOf", fn := fun _ => fun
  | [d] => { results := [.lit (.bool false)], args := [d] }
  | _ => none }
def FnExactCutOfWrongFalsely : Prop := fnExactCutOfRow.holds Try.pinned (OpenSpec.ofChange fnExactCutOfWrong)

/-- 'laws.FnExactMostFlow': WHATEVER THE INPUT: true; the input reads as it did. -/
def fnExactMostFlowSpec : ChangeSpec := { name := "fnExactMostFlow", fn := fun _ => fun
  | [d] => { results := [.lit (.bool true)], args := [d] }
  | _ => none }
def fnExactMostFlowRow : OpenClaim := { program := "ytdbepjnapjjlcaa", sum := "1d439af6891e100feb5f201861e68fbdd5e068283152ae9d3014998f1ea570c1", func := "loop.example/g00451/laws.FnExactMostFlow", spec := "fnExactMostFlow", unfollowed := true, recurses := true, apart := false }
def FnExactMostFlowSaid : Prop := fnExactMostFlowRow.holds Try.pinned (OpenSpec.ofChange fnExactMostFlowSpec)

/-- ITS FALSE NEIGHBOUR: 'it returns false'. Refute it at one input. -/
def fnExactMostFlowWrong : ChangeSpec := { name := "fnExactMostFlow", fn := fun _ => fun
  | [d] => { results := [.lit (.bool false)], args := [d] }
  | _ => none }
def FnExactMostFlowWrongFalsely : Prop := fnExactMostFlowRow.holds Try.pinned (OpenSpec.ofChange fnExactMostFlowWrong)

/- THE SECOND FORM. 'bulk': how many values and letters a reading holds, each counted each time it is reached (what is shared counts as often as it is met; a slice's spare places count too). A statement '..UptoSaid' is the law's where the arguments, and the package variables that the reading takes, are together of bulk at most 1048576: NARROWER than '..Said'. Prove '..Said' where nothing that the law and all that it calls make is longer than what came in: it says more and counts as full. Else prove '..UptoSaid'. A law counts once. -/
mutual
def uptoBulk {H : Type} : DataW H → Nat
  | .lit (.string bytes) => bytes.length + 1
  | .lit _ => 1
  | .nil => 1
  | .ptr d => uptoBulk d + 1
  | .slice elems spare => uptoBulkAll elems + uptoBulkAll spare + 1
  | .agg parts => uptoBulkAll parts + 1
  | .iface _ d => uptoBulk d + 1
  | .map entries => uptoBulkEntries entries + 1
  | .held _ => 1
def uptoBulkAll {H : Type} : List (DataW H) → Nat
  | [] => 0
  | d :: r => uptoBulk d + uptoBulkAll r
def uptoBulkEntries {H : Type} : List (Lit × DataW H) → Nat
  | [] => 0
  | x :: r => uptoBulkEntry x + uptoBulkEntries r
def uptoBulkEntry {H : Type} : Lit × DataW H → Nat
  | (.string bytes, d) => bytes.length + uptoBulk d + 1
  | (_, d) => uptoBulk d + 1
 end
def uptoSmall : (H : Type) → List (DataW H) → Bool := fun _ ds => decide (uptoBulkAll ds ≤ 1048576)
def OpenSpec.upto (s : _root_.Go.ChangeSpec) : _root_.Go.OpenSpec := { _root_.Go.OpenSpec.ofChange s with cond := some uptoSmall }

/-- 'laws.FnExactGoodNet', WHERE WHAT IT READS IS OF BULK AT MOST 1048576: true; the input reads as it did. -/
def fnExactGoodNetUptoRow : OpenClaim := { program := "ytdbepjnapjjlcaa", sum := "1d439af6891e100feb5f201861e68fbdd5e068283152ae9d3014998f1ea570c1", func := "loop.example/g00451/laws.FnExactGoodNet", spec := "fnExactGoodNet", unfollowed := true, recurses := true, apart := false, narrowed := true }
def FnExactGoodNetUptoSaid : Prop := fnExactGoodNetUptoRow.holds Try.pinned (OpenSpec.upto fnExactGoodNetSpec)

/-- 'laws.FnExactFlowValue', WHERE WHAT IT READS IS OF BULK AT MOST 1048576: true; the input reads as it did. -/
def fnExactFlowValueUptoRow : OpenClaim := { program := "ytdbepjnapjjlcaa", sum := "1d439af6891e100feb5f201861e68fbdd5e068283152ae9d3014998f1ea570c1", func := "loop.example/g00451/laws.FnExactFlowValue", spec := "fnExactFlowValue", unfollowed := true, recurses := true, apart := false, narrowed := true }
def FnExactFlowValueUptoSaid : Prop := fnExactFlowValueUptoRow.holds Try.pinned (OpenSpec.upto fnExactFlowValueSpec)

/-- 'laws.FnExactIsFlow', WHERE WHAT IT READS IS OF BULK AT MOST 1048576: true; the input reads as it did. -/
def fnExactIsFlowUptoRow : OpenClaim := { program := "ytdbepjnapjjlcaa", sum := "1d439af6891e100feb5f201861e68fbdd5e068283152ae9d3014998f1ea570c1", func := "loop.example/g00451/laws.FnExactIsFlow", spec := "fnExactIsFlow", unfollowed := true, recurses := true, apart := false, narrowed := true }
def FnExactIsFlowUptoSaid : Prop := fnExactIsFlowUptoRow.holds Try.pinned (OpenSpec.upto fnExactIsFlowSpec)

/-- 'laws.FnExactCutWidth', WHERE WHAT IT READS IS OF BULK AT MOST 1048576: true; the input reads as it did. -/
def fnExactCutWidthUptoRow : OpenClaim := { program := "ytdbepjnapjjlcaa", sum := "1d439af6891e100feb5f201861e68fbdd5e068283152ae9d3014998f1ea570c1", func := "loop.example/g00451/laws.FnExactCutWidth", spec := "fnExactCutWidth", unfollowed := true, recurses := true, apart := false, narrowed := true }
def FnExactCutWidthUptoSaid : Prop := fnExactCutWidthUptoRow.holds Try.pinned (OpenSpec.upto fnExactCutWidthSpec)

/-- 'laws.FnExactPushWay', WHERE WHAT IT READS IS OF BULK AT MOST 1048576: true; the input reads as it did. -/
def fnExactPushWayUptoRow : OpenClaim := { program := "ytdbepjnapjjlcaa", sum := "1d439af6891e100feb5f201861e68fbdd5e068283152ae9d3014998f1ea570c1", func := "loop.example/g00451/laws.FnExactPushWay", spec := "fnExactPushWay", unfollowed := true, recurses := true, apart := false, narrowed := true }
def FnExactPushWayUptoSaid : Prop := fnExactPushWayUptoRow.holds Try.pinned (OpenSpec.upto fnExactPushWaySpec)

/-- 'laws.FnExactNextWay', WHERE WHAT IT READS IS OF BULK AT MOST 1048576: true; the input reads as it did. -/
def fnExactNextWayUptoRow : OpenClaim := { program := "ytdbepjnapjjlcaa", sum := "1d439af6891e100feb5f201861e68fbdd5e068283152ae9d3014998f1ea570c1", func := "loop.example/g00451/laws.FnExactNextWay", spec := "fnExactNextWay", unfollowed := true, recurses := true, apart := false, narrowed := true }
def FnExactNextWayUptoSaid : Prop := fnExactNextWayUptoRow.holds Try.pinned (OpenSpec.upto fnExactNextWaySpec)

/-- 'laws.FnExactCutOf', WHERE WHAT IT READS IS OF BULK AT MOST 1048576: true; the input reads as it did. -/
def fnExactCutOfUptoRow : OpenClaim := { program := "ytdbepjnapjjlcaa", sum := "1d439af6891e100feb5f201861e68fbdd5e068283152ae9d3014998f1ea570c1", func := "loop.example/g00451/laws.FnExactCutOf", spec := "fnExactCutOf", unfollowed := true, recurses := true, apart := false, narrowed := true }
def FnExactCutOfUptoSaid : Prop := fnExactCutOfUptoRow.holds Try.pinned (OpenSpec.upto fnExactCutOfSpec)

/-- 'laws.FnExactMostFlow', WHERE WHAT IT READS IS OF BULK AT MOST 1048576: true; the input reads as it did. -/
def fnExactMostFlowUptoRow : OpenClaim := { program := "ytdbepjnapjjlcaa", sum := "1d439af6891e100feb5f201861e68fbdd5e068283152ae9d3014998f1ea570c1", func := "loop.example/g00451/laws.FnExactMostFlow", spec := "fnExactMostFlow", unfollowed := true, recurses := true, apart := false, narrowed := true }
def FnExactMostFlowUptoSaid : Prop := fnExactMostFlowUptoRow.holds Try.pinned (OpenSpec.upto fnExactMostFlowSpec)

end Rows
end Go.Proofs.Ytdbepjnapjjlcaa
