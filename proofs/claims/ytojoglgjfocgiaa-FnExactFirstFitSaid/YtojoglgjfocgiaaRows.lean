/-
  No cell of these rows narrows 'for every input' (looked for: loops, veiled, ifaces, maps, wideKeys, modest, calm, conditions, laid).
  DERIVED. THE GIVEN ROWS OF THIS SEAT. 7 by the template 'for every input the law returns true; each argument reads behind the call as it read before'; 0 by the template 'total and deterministic' (their statements: YtojoglgjfocgiaaTotals.lean).
  GIVEN WITH THE SEED: the statements are not yours to turn. If you find one false, say at which input.
  Laid BY PROGRAM, IN A SANDBOX (cutbox-rows.mjs): the forced cells as the released guide's own fill.sh prints them over the translation 23b5719214b7ec06… (all of the seat's roots in one cut). By AI agents, Wed Nov 11 2026. No macro, syntax, notation, axiom, sorry.
-/
import Derived.Test.YtojoglgjfocgiaaChecked
import GoSem.Claim
import GoSem.ClaimJoined
import GoSem.ClaimMapViews
import Derived.JoinedTies
import Derived.KernelRfl
namespace Go.Proofs.Ytojoglgjfocgiaa
/- THE CELL 'sum', in the pinned program and in every row, IS THE sha256 OF THE DUMP (.gsa) THAT YtojoglgjfocgiaaProg.lean LOADS. Nothing in Lean hashes anything: it is a label: what it is worth is what the hold of that sum in a sandbox is worth. -/
noncomputable def Try.pinned : Pinned := { name := "ytojoglgjfocgiaa", sum := "23b5719214b7ec064fd4fcbcf853d6e0bb9db38b736f27259086c1891b48a236", checked := Try.checked }
namespace Rows
def none {H : Type} : Left H := { results := [], args := [] }

/-- 'laws.FnExactGoodItems': WHATEVER THE INPUT: true; the input reads as it did. -/
def fnExactGoodItemsSpec : ChangeSpec := { name := "fnExactGoodItems", fn := fun _ => fun
  | [d] => { results := [.lit (.bool true)], args := [d] }
  | _ => none }
def fnExactGoodItemsRow : OpenClaim := { program := "ytojoglgjfocgiaa", sum := "23b5719214b7ec064fd4fcbcf853d6e0bb9db38b736f27259086c1891b48a236", func := "loop.example/g00451/laws.FnExactGoodItems", spec := "fnExactGoodItems", unfollowed := true, recurses := true, apart := false }
def FnExactGoodItemsSaid : Prop := fnExactGoodItemsRow.holds Try.pinned (OpenSpec.ofChange fnExactGoodItemsSpec)

/-- ITS FALSE NEIGHBOUR: 'it returns false'. Refute it at one input. -/
def fnExactGoodItemsWrong : ChangeSpec := { name := "fnExactGoodItems", fn := fun _ => fun
  | [d] => { results := [.lit (.bool false)], args := [d] }
  | _ => none }
def FnExactGoodItemsWrongFalsely : Prop := fnExactGoodItemsRow.holds Try.pinned (OpenSpec.ofChange fnExactGoodItemsWrong)

/-- 'laws.FnExactLeastBoxes': WHATEVER THE INPUT: true; the input reads as it did. -/
def fnExactLeastBoxesSpec : ChangeSpec := { name := "fnExactLeastBoxes", fn := fun _ => fun
  | [d] => { results := [.lit (.bool true)], args := [d] }
  | _ => none }
def fnExactLeastBoxesRow : OpenClaim := { program := "ytojoglgjfocgiaa", sum := "23b5719214b7ec064fd4fcbcf853d6e0bb9db38b736f27259086c1891b48a236", func := "loop.example/g00451/laws.FnExactLeastBoxes", spec := "fnExactLeastBoxes", unfollowed := true, recurses := true, apart := false }
def FnExactLeastBoxesSaid : Prop := fnExactLeastBoxesRow.holds Try.pinned (OpenSpec.ofChange fnExactLeastBoxesSpec)

/-- ITS FALSE NEIGHBOUR: 'it returns false'. Refute it at one input. -/
def fnExactLeastBoxesWrong : ChangeSpec := { name := "fnExactLeastBoxes", fn := fun _ => fun
  | [d] => { results := [.lit (.bool false)], args := [d] }
  | _ => none }
def FnExactLeastBoxesWrongFalsely : Prop := fnExactLeastBoxesRow.holds Try.pinned (OpenSpec.ofChange fnExactLeastBoxesWrong)

/-- 'laws.FnExactFewestBoxes': WHATEVER THE INPUT: true; the input reads as it did. -/
def fnExactFewestBoxesSpec : ChangeSpec := { name := "fnExactFewestBoxes", fn := fun _ => fun
  | [d] => { results := [.lit (.bool true)], args := [d] }
  | _ => none }
def fnExactFewestBoxesRow : OpenClaim := { program := "ytojoglgjfocgiaa", sum := "23b5719214b7ec064fd4fcbcf853d6e0bb9db38b736f27259086c1891b48a236", func := "loop.example/g00451/laws.FnExactFewestBoxes", spec := "fnExactFewestBoxes", unfollowed := true, recurses := true, apart := false }
def FnExactFewestBoxesSaid : Prop := fnExactFewestBoxesRow.holds Try.pinned (OpenSpec.ofChange fnExactFewestBoxesSpec)

/-- ITS FALSE NEIGHBOUR: 'it returns false'. Refute it at one input. -/
def fnExactFewestBoxesWrong : ChangeSpec := { name := "fnExactFewestBoxes", fn := fun _ => fun
  | [d] => { results := [.lit (.bool false)], args := [d] }
  | _ => none }
def FnExactFewestBoxesWrongFalsely : Prop := fnExactFewestBoxesRow.holds Try.pinned (OpenSpec.ofChange fnExactFewestBoxesWrong)

/-- 'laws.FnExactFirstFit': WHATEVER THE INPUT: true; the input reads as it did. -/
def fnExactFirstFitSpec : ChangeSpec := { name := "fnExactFirstFit", fn := fun _ => fun
  | [d] => { results := [.lit (.bool true)], args := [d] }
  | _ => none }
def fnExactFirstFitRow : OpenClaim := { program := "ytojoglgjfocgiaa", sum := "23b5719214b7ec064fd4fcbcf853d6e0bb9db38b736f27259086c1891b48a236", func := "loop.example/g00451/laws.FnExactFirstFit", spec := "fnExactFirstFit", unfollowed := true, recurses := true, apart := false }
def FnExactFirstFitSaid : Prop := fnExactFirstFitRow.holds Try.pinned (OpenSpec.ofChange fnExactFirstFitSpec)

/-- ITS FALSE NEIGHBOUR: 'it returns false'. Refute it at one input. -/
def fnExactFirstFitWrong : ChangeSpec := { name := "fnExactFirstFit", fn := fun _ => fun
  | [d] => { results := [.lit (.bool false)], args := [d] }
  | _ => none }
def FnExactFirstFitWrongFalsely : Prop := fnExactFirstFitRow.holds Try.pinned (OpenSpec.ofChange fnExactFirstFitWrong)

/-- 'laws.FnExactFitSorted': WHATEVER THE INPUT: true; the input reads as it did. -/
def fnExactFitSortedSpec : ChangeSpec := { name := "fnExactFitSorted", fn := fun _ => fun
  | [d] => { results := [.lit (.bool true)], args := [d] }
  | _ => none }
def fnExactFitSortedRow : OpenClaim := { program := "ytojoglgjfocgiaa", sum := "23b5719214b7ec064fd4fcbcf853d6e0bb9db38b736f27259086c1891b48a236", func := "loop.example/g00451/laws.FnExactFitSorted", spec := "fnExactFitSorted", unfollowed := true, recurses := true, apart := false }
def FnExactFitSortedSaid : Prop := fnExactFitSortedRow.holds Try.pinned (OpenSpec.ofChange fnExactFitSortedSpec)

/-- ITS FALSE NEIGHBOUR: 'it returns false'. Refute it at one input. -/
def fnExactFitSortedWrong : ChangeSpec := { name := "fnExactFitSorted", fn := fun _ => fun
  | [d] => { results := [.lit (.bool false)], args := [d] }
  | _ => none }
def FnExactFitSortedWrongFalsely : Prop := fnExactFitSortedRow.holds Try.pinned (OpenSpec.ofChange fnExactFitSortedWrong)

/-- 'laws.FnExactIsPacking': WHATEVER THE INPUT: true; the input reads as it did. -/
def fnExactIsPackingSpec : ChangeSpec := { name := "fnExactIsPacking", fn := fun _ => fun
  | [d1, d2] => { results := [.lit (.bool true)], args := [d1, d2] }
  | _ => none }
def fnExactIsPackingRow : OpenClaim := { program := "ytojoglgjfocgiaa", sum := "23b5719214b7ec064fd4fcbcf853d6e0bb9db38b736f27259086c1891b48a236", func := "loop.example/g00451/laws.FnExactIsPacking", spec := "fnExactIsPacking", unfollowed := true, recurses := true, apart := false }
def FnExactIsPackingSaid : Prop := fnExactIsPackingRow.holds Try.pinned (OpenSpec.ofChange fnExactIsPackingSpec)

/-- ITS FALSE NEIGHBOUR: 'it returns false'. Refute it at one input. -/
def fnExactIsPackingWrong : ChangeSpec := { name := "fnExactIsPacking", fn := fun _ => fun
  | [d1, d2] => { results := [.lit (.bool false)], args := [d1, d2] }
  | _ => none }
def FnExactIsPackingWrongFalsely : Prop := fnExactIsPackingRow.holds Try.pinned (OpenSpec.ofChange fnExactIsPackingWrong)

/-- 'laws.FnExactWasteOf': WHATEVER THE INPUT: true; the input reads as it did. -/
def fnExactWasteOfSpec : ChangeSpec := { name := "fnExactWasteOf", fn := fun _ => fun
  | [d1, d2] => { results := [.lit (.bool true)], args := [d1, d2] }
  | _ => none }
def fnExactWasteOfRow : OpenClaim := { program := "ytojoglgjfocgiaa", sum := "23b5719214b7ec064fd4fcbcf853d6e0bb9db38b736f27259086c1891b48a236", func := "loop.example/g00451/laws.FnExactWasteOf", spec := "fnExactWasteOf", unfollowed := true, recurses := true, apart := false }
def FnExactWasteOfSaid : Prop := fnExactWasteOfRow.holds Try.pinned (OpenSpec.ofChange fnExactWasteOfSpec)

/-- ITS FALSE NEIGHBOUR: 'it returns false'. Refute it at one input. -/
def fnExactWasteOfWrong : ChangeSpec := { name := "fnExactWasteOf", fn := fun _ => fun
  | [d1, d2] => { results := [.lit (.bool false)], args := [d1, d2] }
  | _ => none }
def FnExactWasteOfWrongFalsely : Prop := fnExactWasteOfRow.holds Try.pinned (OpenSpec.ofChange fnExactWasteOfWrong)

/- THE SECOND FORM. 'bulk': how many values and letters a reading holds, each counted each time it is reached (what is shared counts as often as it is met; a slice's spare places count too). A statement '..UptoSaid' is the law's where the arguments, and the package variables that the reading takes, are together of bulk at most 1048576: NARROWER than '..Said'. Prove '..Said' where nothing that the law and all that it calls make is longer than what came in: it says more and counts as full. Else prove '..UptoSaid'. A law counts once. -/
mutual
def uptoBulk {H : Type} : DataW H → Nat
  | .lit (.string bytes) => bytes.length + 1
  | .lit _ => 1
  | .nil => 1
  | .ptr d => uptoBulk d + 1
  | .slice elems spare => uptoBulkAll elems + uptoBulkAll spare + 1
  | .agg parts => uptoBulkAll parts + 1
  | .iface _ d => uptoBulk d + 1
  | .map entries => uptoBulkEntries entries + 1
  | .held _ => 1
def uptoBulkAll {H : Type} : List (DataW H) → Nat
  | [] => 0
  | d :: r => uptoBulk d + uptoBulkAll r
def uptoBulkEntries {H : Type} : List (Lit × DataW H) → Nat
  | [] => 0
  | x :: r => uptoBulkEntry x + uptoBulkEntries r
def uptoBulkEntry {H : Type} : Lit × DataW H → Nat
  | (.string bytes, d) => bytes.length + uptoBulk d + 1
  | (_, d) => uptoBulk d + 1
 end
def uptoSmall : (H : Type) → List (DataW H) → Bool := fun _ ds => decide (uptoBulkAll ds ≤ 1048576)
def OpenSpec.upto (s : _root_.Go.ChangeSpec) : _root_.Go.OpenSpec := { _root_.Go.OpenSpec.ofChange s with cond := some uptoSmall }

/-- 'laws.FnExactGoodItems', WHERE WHAT IT READS IS OF BULK AT MOST 1048576: true; the input reads as it did. -/
def fnExactGoodItemsUptoRow : OpenClaim := { program := "ytojoglgjfocgiaa", sum := "23b5719214b7ec064fd4fcbcf853d6e0bb9db38b736f27259086c1891b48a236", func := "loop.example/g00451/laws.FnExactGoodItems", spec := "fnExactGoodItems", unfollowed := true, recurses := true, apart := false, narrowed := true }
def FnExactGoodItemsUptoSaid : Prop := fnExactGoodItemsUptoRow.holds Try.pinned (OpenSpec.upto fnExactGoodItemsSpec)

/-- 'laws.FnExactLeastBoxes', WHERE WHAT IT READS IS OF BULK AT MOST 1048576: true; the input reads as it did. -/
def fnExactLeastBoxesUptoRow : OpenClaim := { program := "ytojoglgjfocgiaa", sum := "23b5719214b7ec064fd4fcbcf853d6e0bb9db38b736f27259086c1891b48a236", func := "loop.example/g00451/laws.FnExactLeastBoxes", spec := "fnExactLeastBoxes", unfollowed := true, recurses := true, apart := false, narrowed := true }
def FnExactLeastBoxesUptoSaid : Prop := fnExactLeastBoxesUptoRow.holds Try.pinned (OpenSpec.upto fnExactLeastBoxesSpec)

/-- 'laws.FnExactFewestBoxes', WHERE WHAT IT READS IS OF BULK AT MOST 1048576: true; the input reads as it did. -/
def fnExactFewestBoxesUptoRow : OpenClaim := { program := "ytojoglgjfocgiaa", sum := "23b5719214b7ec064fd4fcbcf853d6e0bb9db38b736f27259086c1891b48a236", func := "loop.example/g00451/laws.FnExactFewestBoxes", spec := "fnExactFewestBoxes", unfollowed := true, recurses := true, apart := false, narrowed := true }
def FnExactFewestBoxesUptoSaid : Prop := fnExactFewestBoxesUptoRow.holds Try.pinned (OpenSpec.upto fnExactFewestBoxesSpec)

/-- 'laws.FnExactFirstFit', WHERE WHAT IT READS IS OF BULK AT MOST 1048576: true; the input reads as it did. -/
def fnExactFirstFitUptoRow : OpenClaim := { program := "ytojoglgjfocgiaa", sum := "23b5719214b7ec064fd4fcbcf853d6e0bb9db38b736f27259086c1891b48a236", func := "loop.example/g00451/laws.FnExactFirstFit", spec := "fnExactFirstFit", unfollowed := true, recurses := true, apart := false, narrowed := true }
def FnExactFirstFitUptoSaid : Prop := fnExactFirstFitUptoRow.holds Try.pinned (OpenSpec.upto fnExactFirstFitSpec)

/-- 'laws.FnExactFitSorted', WHERE WHAT IT READS IS OF BULK AT MOST 1048576: true; the input reads as it did. -/
def fnExactFitSortedUptoRow : OpenClaim := { program := "ytojoglgjfocgiaa", sum := "23b5719214b7ec064fd4fcbcf853d6e0bb9db38b736f27259086c1891b48a236", func := "loop.example/g00451/laws.FnExactFitSorted", spec := "fnExactFitSorted", unfollowed := true, recurses := true, apart := false, narrowed := true }
def FnExactFitSortedUptoSaid : Prop := fnExactFitSortedUptoRow.holds Try.pinned (OpenSpec.upto fnExactFitSortedSpec)

/-- 'laws.FnExactIsPacking', WHERE WHAT IT READS IS OF BULK AT MOST 1048576: true; the input reads as it did. -/
def fnExactIsPackingUptoRow : OpenClaim := { program := "ytojoglgjfocgiaa", sum := "23b5719214b7ec064fd4fcbcf853d6e0bb9db38b736f27259086c1891b48a236", func := "loop.example/g00451/laws.FnExactIsPacking", spec := "fnExactIsPacking", unfollowed := true, recurses := true, apart := false, narrowed := true }
def FnExactIsPackingUptoSaid : Prop := fnExactIsPackingUptoRow.holds Try.pinned (OpenSpec.upto fnExactIsPackingSpec)

/-- 'laws.FnExactWasteOf', WHERE WHAT IT READS IS OF BULK AT MOST 1048576: true; the input reads as it did. -/
def fnExactWasteOfUptoRow : OpenClaim := { program := "ytojoglgjfocgiaa", sum := "23b5719214b7ec064fd4fcbcf853d6e0bb9db38b736f27259086c1891b48a236", func := "loop.example/g00451/laws.FnExactWasteOf", spec := "fnExactWasteOf", unfollowed := true, recurses := true, apart := false, narrowed := true }
def FnExactWasteOfUptoSaid : Prop := fnExactWasteOfUptoRow.holds Try.pinned (OpenSpec.upto fnExactWasteOfSpec)

end Rows
end Go.Proofs.Ytojoglgjfocgiaa
