/-
  No cell of these rows narrows 'for every input' (looked for: loops, veiled, ifaces, maps, wideKeys, modest, calm, conditions, laid).
  DERIVED. THE GIVEN ROWS OF THIS SEAT. 12 by the template 'for every input the law returns true; each argument reads behind the call as it read before'; 0 by the template 'total and deterministic' (their statements: YtccnpnlmihcmlaaTotals.lean).
  GIVEN WITH THE SEED: the statements are not yours to turn. If you find one false, say at which input.
  Laid BY PROGRAM, IN A SANDBOX (cutbox-rows.mjs): the forced cells as the released guide's own fill.sh prints them over the translation aa9463651226663a… (all of the seat's roots in one cut). By AI agents, Wed Nov 11 2026. No macro, syntax, notation, axiom, sorry.
-/
import Derived.Test.YtccnpnlmihcmlaaChecked
import GoSem.Claim
import GoSem.ClaimJoined
import GoSem.ClaimMapViews
import Derived.JoinedTies
import Derived.KernelRfl
namespace Go.Proofs.Ytccnpnlmihcmlaa
/- THE CELL 'sum', in the pinned program and in every row, IS THE sha256 OF THE DUMP (.gsa) THAT YtccnpnlmihcmlaaProg.lean LOADS. Nothing in Lean hashes anything: it is a label: what it is worth is what the hold of that sum in a sandbox is worth. -/
noncomputable def Try.pinned : Pinned := { name := "ytccnpnlmihcmlaa", sum := "aa9463651226663a0a27355bc0890963e7b27bdf7e28b0b49e5c146dc5a77752", checked := Try.checked }
namespace Rows
def none {H : Type} : Left H := { results := [], args := [] }

/-- 'laws.FnExactGoodSpots': WHATEVER THE INPUT: true; the input reads as it did. -/
def fnExactGoodSpotsSpec : ChangeSpec := { name := "fnExactGoodSpots", fn := fun _ => fun
  | [d] => { results := [.lit (.bool true)], args := [d] }
  | _ => none }
def fnExactGoodSpotsRow : OpenClaim := { program := "ytccnpnlmihcmlaa", sum := "aa9463651226663a0a27355bc0890963e7b27bdf7e28b0b49e5c146dc5a77752", func := "loop.example/g00451/laws.FnExactGoodSpots", spec := "fnExactGoodSpots", unfollowed := true, recurses := true, apart := false }
def FnExactGoodSpotsSaid : Prop := fnExactGoodSpotsRow.holds Try.pinned (OpenSpec.ofChange fnExactGoodSpotsSpec)

/-- ITS FALSE NEIGHBOUR: 'it returns false'. Refute it at one input. -/
def fnExactGoodSpotsWrong : ChangeSpec := { name := "fnExactGoodSpots", fn := fun _ => fun
  | [d] => { results := [.lit (.bool false)], args := [d] }
  | _ => none }
def FnExactGoodSpotsWrongFalsely : Prop := fnExactGoodSpotsRow.holds Try.pinned (OpenSpec.ofChange fnExactGoodSpotsWrong)

/-- 'laws.FnExactBackMoves': WHATEVER THE INPUT: true; the input reads as it did. -/
def fnExactBackMovesSpec : ChangeSpec := { name := "fnExactBackMoves", fn := fun _ => fun
  | [d] => { results := [.lit (.bool true)], args := [d] }
  | _ => none }
def fnExactBackMovesRow : OpenClaim := { program := "ytccnpnlmihcmlaa", sum := "aa9463651226663a0a27355bc0890963e7b27bdf7e28b0b49e5c146dc5a77752", func := "loop.example/g00451/laws.FnExactBackMoves", spec := "fnExactBackMoves", unfollowed := true, recurses := true, apart := false }
def FnExactBackMovesSaid : Prop := fnExactBackMovesRow.holds Try.pinned (OpenSpec.ofChange fnExactBackMovesSpec)

/-- ITS FALSE NEIGHBOUR: 'it returns false'. Refute it at one input. -/
def fnExactBackMovesWrong : ChangeSpec := { name := "fnExactBackMoves", fn := fun _ => fun
  | [d] => { results := [.lit (.bool false)], args := [d] }
  | _ => none }
def FnExactBackMovesWrongFalsely : Prop := fnExactBackMovesRow.holds Try.pinned (OpenSpec.ofChange fnExactBackMovesWrong)

/-- 'laws.FnExactDoMove': WHATEVER THE INPUT: true; the input reads as it did. -/
def fnExactDoMoveSpec : ChangeSpec := { name := "fnExactDoMove", fn := fun _ => fun
  | [d1, d2] => { results := [.lit (.bool true)], args := [d1, d2] }
  | _ => none }
def fnExactDoMoveRow : OpenClaim := { program := "ytccnpnlmihcmlaa", sum := "aa9463651226663a0a27355bc0890963e7b27bdf7e28b0b49e5c146dc5a77752", func := "loop.example/g00451/laws.FnExactDoMove", spec := "fnExactDoMove", unfollowed := true, recurses := true, apart := false }
def FnExactDoMoveSaid : Prop := fnExactDoMoveRow.holds Try.pinned (OpenSpec.ofChange fnExactDoMoveSpec)

/-- ITS FALSE NEIGHBOUR: 'it returns false'. Refute it at one input. -/
def fnExactDoMoveWrong : ChangeSpec := { name := "fnExactDoMove", fn := fun _ => fun
  | [d1, d2] => { results := [.lit (.bool false)], args := [d1, d2] }
  | _ => none }
def FnExactDoMoveWrongFalsely : Prop := fnExactDoMoveRow.holds Try.pinned (OpenSpec.ofChange fnExactDoMoveWrong)

/-- 'laws.FnExactDoMoves': WHATEVER THE INPUT: true; the input reads as it did. -/
def fnExactDoMovesSpec : ChangeSpec := { name := "fnExactDoMoves", fn := fun _ => fun
  | [d1, d2] => { results := [.lit (.bool true)], args := [d1, d2] }
  | _ => none }
def fnExactDoMovesRow : OpenClaim := { program := "ytccnpnlmihcmlaa", sum := "aa9463651226663a0a27355bc0890963e7b27bdf7e28b0b49e5c146dc5a77752", func := "loop.example/g00451/laws.FnExactDoMoves", spec := "fnExactDoMoves", unfollowed := true, recurses := true, apart := false }
def FnExactDoMovesSaid : Prop := fnExactDoMovesRow.holds Try.pinned (OpenSpec.ofChange fnExactDoMovesSpec)

/-- ITS FALSE NEIGHBOUR: 'it returns false'. Refute it at one input. -/
def fnExactDoMovesWrong : ChangeSpec := { name := "fnExactDoMoves", fn := fun _ => fun
  | [d1, d2] => { results := [.lit (.bool false)], args := [d1, d2] }
  | _ => none }
def FnExactDoMovesWrongFalsely : Prop := fnExactDoMovesRow.holds Try.pinned (OpenSpec.ofChange fnExactDoMovesWrong)

/-- 'laws.FnExactRingsOf': WHATEVER THE INPUT: true; the input reads as it did. -/
def fnExactRingsOfSpec : ChangeSpec := { name := "fnExactRingsOf", fn := fun _ => fun
  | [d1, d2] => { results := [.lit (.bool true)], args := [d1, d2] }
  | _ => none }
def fnExactRingsOfRow : OpenClaim := { program := "ytccnpnlmihcmlaa", sum := "aa9463651226663a0a27355bc0890963e7b27bdf7e28b0b49e5c146dc5a77752", func := "loop.example/g00451/laws.FnExactRingsOf", spec := "fnExactRingsOf", unfollowed := true, recurses := true, apart := false }
def FnExactRingsOfSaid : Prop := fnExactRingsOfRow.holds Try.pinned (OpenSpec.ofChange fnExactRingsOfSpec)

/-- ITS FALSE NEIGHBOUR: 'it returns false'. Refute it at one input. -/
def fnExactRingsOfWrong : ChangeSpec := { name := "fnExactRingsOf", fn := fun _ => fun
  | [d1, d2] => { results := [.lit (.bool false)], args := [d1, d2] }
  | _ => none }
def FnExactRingsOfWrongFalsely : Prop := fnExactRingsOfRow.holds Try.pinned (OpenSpec.ofChange fnExactRingsOfWrong)

/-- 'laws.FnExactMovesNeeded': WHATEVER THE INPUT: true; the input reads as it did. -/
def fnExactMovesNeededSpec : ChangeSpec := { name := "fnExactMovesNeeded", fn := fun _ => fun
  | [d1, d2] => { results := [.lit (.bool true)], args := [d1, d2] }
  | _ => none }
def fnExactMovesNeededRow : OpenClaim := { program := "ytccnpnlmihcmlaa", sum := "aa9463651226663a0a27355bc0890963e7b27bdf7e28b0b49e5c146dc5a77752", func := "loop.example/g00451/laws.FnExactMovesNeeded", spec := "fnExactMovesNeeded", unfollowed := true, recurses := true, apart := false }
def FnExactMovesNeededSaid : Prop := fnExactMovesNeededRow.holds Try.pinned (OpenSpec.ofChange fnExactMovesNeededSpec)

/-- ITS FALSE NEIGHBOUR: 'it returns false'. Refute it at one input. -/
def fnExactMovesNeededWrong : ChangeSpec := { name := "fnExactMovesNeeded", fn := fun _ => fun
  | [d1, d2] => { results := [.lit (.bool false)], args := [d1, d2] }
  | _ => none }
def FnExactMovesNeededWrongFalsely : Prop := fnExactMovesNeededRow.holds Try.pinned (OpenSpec.ofChange fnExactMovesNeededWrong)

/-- 'laws.FnExactPlanMoves': WHATEVER THE INPUT: true; the input reads as it did. -/
def fnExactPlanMovesSpec : ChangeSpec := { name := "fnExactPlanMoves", fn := fun _ => fun
  | [d1, d2] => { results := [.lit (.bool true)], args := [d1, d2] }
  | _ => none }
def fnExactPlanMovesRow : OpenClaim := { program := "ytccnpnlmihcmlaa", sum := "aa9463651226663a0a27355bc0890963e7b27bdf7e28b0b49e5c146dc5a77752", func := "loop.example/g00451/laws.FnExactPlanMoves", spec := "fnExactPlanMoves", unfollowed := true, recurses := true, apart := false }
def FnExactPlanMovesSaid : Prop := fnExactPlanMovesRow.holds Try.pinned (OpenSpec.ofChange fnExactPlanMovesSpec)

/-- ITS FALSE NEIGHBOUR: 'it returns false'. Refute it at one input. -/
def fnExactPlanMovesWrong : ChangeSpec := { name := "fnExactPlanMoves", fn := fun _ => fun
  | [d1, d2] => { results := [.lit (.bool false)], args := [d1, d2] }
  | _ => none }
def FnExactPlanMovesWrongFalsely : Prop := fnExactPlanMovesRow.holds Try.pinned (OpenSpec.ofChange fnExactPlanMovesWrong)

/-- 'laws.FnExactGoodJob': WHATEVER THE INPUT: true; the input reads as it did. -/
def fnExactGoodJobSpec : ChangeSpec := { name := "fnExactGoodJob", fn := fun _ => fun
  | [d] => { results := [.lit (.bool true)], args := [d] }
  | _ => none }
def fnExactGoodJobRow : OpenClaim := { program := "ytccnpnlmihcmlaa", sum := "aa9463651226663a0a27355bc0890963e7b27bdf7e28b0b49e5c146dc5a77752", func := "loop.example/g00451/laws.FnExactGoodJob", spec := "fnExactGoodJob", unfollowed := true, recurses := true, apart := false }
def FnExactGoodJobSaid : Prop := fnExactGoodJobRow.holds Try.pinned (OpenSpec.ofChange fnExactGoodJobSpec)

/-- ITS FALSE NEIGHBOUR: 'it returns false'. Refute it at one input. -/
def fnExactGoodJobWrong : ChangeSpec := { name := "fnExactGoodJob", fn := fun _ => fun
  | [d] => { results := [.lit (.bool false)], args := [d] }
  | _ => none }
def FnExactGoodJobWrongFalsely : Prop := fnExactGoodJobRow.holds Try.pinned (OpenSpec.ofChange fnExactGoodJobWrong)

/-- 'laws.FnExactNewJob': WHATEVER THE INPUT: true; the input reads as it did. -/
def fnExactNewJobSpec : ChangeSpec := { name := "fnExactNewJob", fn := fun _ => fun
  | [d1, d2] => { results := [.lit (.bool true)], args := [d1, d2] }
  | _ => none }
def fnExactNewJobRow : OpenClaim := { program := "ytccnpnlmihcmlaa", sum := "aa9463651226663a0a27355bc0890963e7b27bdf7e28b0b49e5c146dc5a77752", func := "loop.example/g00451/laws.FnExactNewJob", spec := "fnExactNewJob", unfollowed := true, recurses := true, apart := false }
def FnExactNewJobSaid : Prop := fnExactNewJobRow.holds Try.pinned (OpenSpec.ofChange fnExactNewJobSpec)

/-- ITS FALSE NEIGHBOUR: 'it returns false'. Refute it at one input. -/
def fnExactNewJobWrong : ChangeSpec := { name := "fnExactNewJob", fn := fun _ => fun
  | [d1, d2] => { results := [.lit (.bool false)], args := [d1, d2] }
  | _ => none }
def FnExactNewJobWrongFalsely : Prop := fnExactNewJobRow.holds Try.pinned (OpenSpec.ofChange fnExactNewJobWrong)

/-- 'laws.FnExactNextMove': WHATEVER THE INPUT: true; the input reads as it did. -/
def fnExactNextMoveSpec : ChangeSpec := { name := "fnExactNextMove", fn := fun _ => fun
  | [d] => { results := [.lit (.bool true)], args := [d] }
  | _ => none }
def fnExactNextMoveRow : OpenClaim := { program := "ytccnpnlmihcmlaa", sum := "aa9463651226663a0a27355bc0890963e7b27bdf7e28b0b49e5c146dc5a77752", func := "loop.example/g00451/laws.FnExactNextMove", spec := "fnExactNextMove", unfollowed := true, recurses := true, apart := false }
def FnExactNextMoveSaid : Prop := fnExactNextMoveRow.holds Try.pinned (OpenSpec.ofChange fnExactNextMoveSpec)

/-- ITS FALSE NEIGHBOUR: 'it returns false'. Refute it at one input. -/
def fnExactNextMoveWrong : ChangeSpec := { name := "fnExactNextMove", fn := fun _ => fun
  | [d] => { results := [.lit (.bool false)], args := [d] }
  | _ => none }
def FnExactNextMoveWrongFalsely : Prop := fnExactNextMoveRow.holds Try.pinned (OpenSpec.ofChange fnExactNextMoveWrong)

/-- 'laws.FnExactStartOf': WHATEVER THE INPUT: true; the input reads as it did. -/
def fnExactStartOfSpec : ChangeSpec := { name := "fnExactStartOf", fn := fun _ => fun
  | [d] => { results := [.lit (.bool true)], args := [d] }
  | _ => none }
def fnExactStartOfRow : OpenClaim := { program := "ytccnpnlmihcmlaa", sum := "aa9463651226663a0a27355bc0890963e7b27bdf7e28b0b49e5c146dc5a77752", func := "loop.example/g00451/laws.FnExactStartOf", spec := "fnExactStartOf", unfollowed := true, recurses := true, apart := false }
def FnExactStartOfSaid : Prop := fnExactStartOfRow.holds Try.pinned (OpenSpec.ofChange fnExactStartOfSpec)

/-- ITS FALSE NEIGHBOUR: 'it returns false'. Refute it at one input. -/
def fnExactStartOfWrong : ChangeSpec := { name := "fnExactStartOf", fn := fun _ => fun
  | [d] => { results := [.lit (.bool false)], args := [d] }
  | _ => none }
def FnExactStartOfWrongFalsely : Prop := fnExactStartOfRow.holds Try.pinned (OpenSpec.ofChange fnExactStartOfWrong)

/-- 'laws.FnExactDistanceLeft': WHATEVER THE INPUT: true; the input reads as it did. -/
def fnExactDistanceLeftSpec : ChangeSpec := { name := "fnExactDistanceLeft", fn := fun _ => fun
  | [d] => { results := [.lit (.bool true)], args := [d] }
  | _ => none }
def fnExactDistanceLeftRow : OpenClaim := { program := "ytccnpnlmihcmlaa", sum := "aa9463651226663a0a27355bc0890963e7b27bdf7e28b0b49e5c146dc5a77752", func := "loop.example/g00451/laws.FnExactDistanceLeft", spec := "fnExactDistanceLeft", unfollowed := true, recurses := true, apart := false }
def FnExactDistanceLeftSaid : Prop := fnExactDistanceLeftRow.holds Try.pinned (OpenSpec.ofChange fnExactDistanceLeftSpec)

/-- ITS FALSE NEIGHBOUR: 'it returns false'. Refute it at one input. -/
def fnExactDistanceLeftWrong : ChangeSpec := { name := "fnExactDistanceLeft", fn := fun _ => fun
  | [d] => { results := [.lit (.bool false)], args := [d] }
  | _ => none }
def FnExactDistanceLeftWrongFalsely : Prop := fnExactDistanceLeftRow.holds Try.pinned (OpenSpec.ofChange fnExactDistanceLeftWrong)

/- THE SECOND FORM. 'bulk': how many values and letters a reading holds, each counted each time it is reached (what is shared counts as often as it is met; a slice's spare places count too). A statement '..UptoSaid' is the law's where the arguments, and the package variables that the reading takes, are together of bulk at most 1048576: NARROWER than '..Said'. Prove '..Said' where nothing that the law and all that it calls make is longer than what came in: it says more and counts as full. Else prove '..UptoSaid'. A law counts once. -/
mutual
def uptoBulk {H : Type} : DataW H → Nat
  | .lit (.string bytes) => bytes.length + 1
  | .lit _ => 1
  | .nil => 1
  | .ptr d => uptoBulk d + 1
  | .slice elems spare => uptoBulkAll elems + uptoBulkAll spare + 1
  | .agg parts => uptoBulkAll parts + 1
  | .iface _ d => uptoBulk d + 1
  | .map entries => uptoBulkEntries entries + 1
  | .held _ => 1
def uptoBulkAll {H : Type} : List (DataW H) → Nat
  | [] => 0
  | d :: r => uptoBulk d + uptoBulkAll r
def uptoBulkEntries {H : Type} : List (Lit × DataW H) → Nat
  | [] => 0
  | x :: r => uptoBulkEntry x + uptoBulkEntries r
def uptoBulkEntry {H : Type} : Lit × DataW H → Nat
  | (.string bytes, d) => bytes.length + uptoBulk d + 1
  | (_, d) => uptoBulk d + 1
 end
def uptoSmall : (H : Type) → List (DataW H) → Bool := fun _ ds => decide (uptoBulkAll ds ≤ 1048576)
def OpenSpec.upto (s : _root_.Go.ChangeSpec) : _root_.Go.OpenSpec := { _root_.Go.OpenSpec.ofChange s with cond := some uptoSmall }

/-- 'laws.FnExactGoodSpots', WHERE WHAT IT READS IS OF BULK AT MOST 1048576: true; the input reads as it did. -/
def fnExactGoodSpotsUptoRow : OpenClaim := { program := "ytccnpnlmihcmlaa", sum := "aa9463651226663a0a27355bc0890963e7b27bdf7e28b0b49e5c146dc5a77752", func := "loop.example/g00451/laws.FnExactGoodSpots", spec := "fnExactGoodSpots", unfollowed := true, recurses := true, apart := false, narrowed := true }
def FnExactGoodSpotsUptoSaid : Prop := fnExactGoodSpotsUptoRow.holds Try.pinned (OpenSpec.upto fnExactGoodSpotsSpec)

/-- 'laws.FnExactBackMoves', WHERE WHAT IT READS IS OF BULK AT MOST 1048576: true; the input reads as it did. -/
def fnExactBackMovesUptoRow : OpenClaim := { program := "ytccnpnlmihcmlaa", sum := "aa9463651226663a0a27355bc0890963e7b27bdf7e28b0b49e5c146dc5a77752", func := "loop.example/g00451/laws.FnExactBackMoves", spec := "fnExactBackMoves", unfollowed := true, recurses := true, apart := false, narrowed := true }
def FnExactBackMovesUptoSaid : Prop := fnExactBackMovesUptoRow.holds Try.pinned (OpenSpec.upto fnExactBackMovesSpec)

/-- 'laws.FnExactDoMove', WHERE WHAT IT READS IS OF BULK AT MOST 1048576: true; the input reads as it did. -/
def fnExactDoMoveUptoRow : OpenClaim := { program := "ytccnpnlmihcmlaa", sum := "aa9463651226663a0a27355bc0890963e7b27bdf7e28b0b49e5c146dc5a77752", func := "loop.example/g00451/laws.FnExactDoMove", spec := "fnExactDoMove", unfollowed := true, recurses := true, apart := false, narrowed := true }
def FnExactDoMoveUptoSaid : Prop := fnExactDoMoveUptoRow.holds Try.pinned (OpenSpec.upto fnExactDoMoveSpec)

/-- 'laws.FnExactDoMoves', WHERE WHAT IT READS IS OF BULK AT MOST 1048576: true; the input reads as it did. -/
def fnExactDoMovesUptoRow : OpenClaim := { program := "ytccnpnlmihcmlaa", sum := "aa9463651226663a0a27355bc0890963e7b27bdf7e28b0b49e5c146dc5a77752", func := "loop.example/g00451/laws.FnExactDoMoves", spec := "fnExactDoMoves", unfollowed := true, recurses := true, apart := false, narrowed := true }
def FnExactDoMovesUptoSaid : Prop := fnExactDoMovesUptoRow.holds Try.pinned (OpenSpec.upto fnExactDoMovesSpec)

/-- 'laws.FnExactRingsOf', WHERE WHAT IT READS IS OF BULK AT MOST 1048576: true; the input reads as it did. -/
def fnExactRingsOfUptoRow : OpenClaim := { program := "ytccnpnlmihcmlaa", sum := "aa9463651226663a0a27355bc0890963e7b27bdf7e28b0b49e5c146dc5a77752", func := "loop.example/g00451/laws.FnExactRingsOf", spec := "fnExactRingsOf", unfollowed := true, recurses := true, apart := false, narrowed := true }
def FnExactRingsOfUptoSaid : Prop := fnExactRingsOfUptoRow.holds Try.pinned (OpenSpec.upto fnExactRingsOfSpec)

/-- 'laws.FnExactMovesNeeded', WHERE WHAT IT READS IS OF BULK AT MOST 1048576: true; the input reads as it did. -/
def fnExactMovesNeededUptoRow : OpenClaim := { program := "ytccnpnlmihcmlaa", sum := "aa9463651226663a0a27355bc0890963e7b27bdf7e28b0b49e5c146dc5a77752", func := "loop.example/g00451/laws.FnExactMovesNeeded", spec := "fnExactMovesNeeded", unfollowed := true, recurses := true, apart := false, narrowed := true }
def FnExactMovesNeededUptoSaid : Prop := fnExactMovesNeededUptoRow.holds Try.pinned (OpenSpec.upto fnExactMovesNeededSpec)

/-- 'laws.FnExactPlanMoves', WHERE WHAT IT READS IS OF BULK AT MOST 1048576: true; the input reads as it did. -/
def fnExactPlanMovesUptoRow : OpenClaim := { program := "ytccnpnlmihcmlaa", sum := "aa9463651226663a0a27355bc0890963e7b27bdf7e28b0b49e5c146dc5a77752", func := "loop.example/g00451/laws.FnExactPlanMoves", spec := "fnExactPlanMoves", unfollowed := true, recurses := true, apart := false, narrowed := true }
def FnExactPlanMovesUptoSaid : Prop := fnExactPlanMovesUptoRow.holds Try.pinned (OpenSpec.upto fnExactPlanMovesSpec)

/-- 'laws.FnExactGoodJob', WHERE WHAT IT READS IS OF BULK AT MOST 1048576: true; the input reads as it did. -/
def fnExactGoodJobUptoRow : OpenClaim := { program := "ytccnpnlmihcmlaa", sum := "aa9463651226663a0a27355bc0890963e7b27bdf7e28b0b49e5c146dc5a77752", func := "loop.example/g00451/laws.FnExactGoodJob", spec := "fnExactGoodJob", unfollowed := true, recurses := true, apart := false, narrowed := true }
def FnExactGoodJobUptoSaid : Prop := fnExactGoodJobUptoRow.holds Try.pinned (OpenSpec.upto fnExactGoodJobSpec)

/-- 'laws.FnExactNewJob', WHERE WHAT IT READS IS OF BULK AT MOST 1048576: true; the input reads as it did. -/
def fnExactNewJobUptoRow : OpenClaim := { program := "ytccnpnlmihcmlaa", sum := "aa9463651226663a0a27355bc0890963e7b27bdf7e28b0b49e5c146dc5a77752", func := "loop.example/g00451/laws.FnExactNewJob", spec := "fnExactNewJob", unfollowed := true, recurses := true, apart := false, narrowed := true }
def FnExactNewJobUptoSaid : Prop := fnExactNewJobUptoRow.holds Try.pinned (OpenSpec.upto fnExactNewJobSpec)

/-- 'laws.FnExactNextMove', WHERE WHAT IT READS IS OF BULK AT MOST 1048576: true; the input reads as it did. -/
def fnExactNextMoveUptoRow : OpenClaim := { program := "ytccnpnlmihcmlaa", sum := "aa9463651226663a0a27355bc0890963e7b27bdf7e28b0b49e5c146dc5a77752", func := "loop.example/g00451/laws.FnExactNextMove", spec := "fnExactNextMove", unfollowed := true, recurses := true, apart := false, narrowed := true }
def FnExactNextMoveUptoSaid : Prop := fnExactNextMoveUptoRow.holds Try.pinned (OpenSpec.upto fnExactNextMoveSpec)

/-- 'laws.FnExactStartOf', WHERE WHAT IT READS IS OF BULK AT MOST 1048576: true; the input reads as it did. -/
def fnExactStartOfUptoRow : OpenClaim := { program := "ytccnpnlmihcmlaa", sum := "aa9463651226663a0a27355bc0890963e7b27bdf7e28b0b49e5c146dc5a77752", func := "loop.example/g00451/laws.FnExactStartOf", spec := "fnExactStartOf", unfollowed := true, recurses := true, apart := false, narrowed := true }
def FnExactStartOfUptoSaid : Prop := fnExactStartOfUptoRow.holds Try.pinned (OpenSpec.upto fnExactStartOfSpec)

/-- 'laws.FnExactDistanceLeft', WHERE WHAT IT READS IS OF BULK AT MOST 1048576: true; the input reads as it did. -/
def fnExactDistanceLeftUptoRow : OpenClaim := { program := "ytccnpnlmihcmlaa", sum := "aa9463651226663a0a27355bc0890963e7b27bdf7e28b0b49e5c146dc5a77752", func := "loop.example/g00451/laws.FnExactDistanceLeft", spec := "fnExactDistanceLeft", unfollowed := true, recurses := true, apart := false, narrowed := true }
def FnExactDistanceLeftUptoSaid : Prop := fnExactDistanceLeftUptoRow.holds Try.pinned (OpenSpec.upto fnExactDistanceLeftSpec)

end Rows
end Go.Proofs.Ytccnpnlmihcmlaa
