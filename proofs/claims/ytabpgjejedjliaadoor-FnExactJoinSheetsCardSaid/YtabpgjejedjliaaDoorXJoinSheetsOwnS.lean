-- The print's words that FnExactJoinSheets needs (prunewords.py). Not trusted: Lean checks it.
import Derived.Test.YtabpgjejedjliaaDoorXJoinSheetsMore
import Derived.Shelf.SlIterI.Sorted
import Derived.Shelf.SortM.Plain
import Derived.Shelf.SortM.SortNone
import Derived.RangeFuncLeaves
import Derived.RangeFuncBox
import Derived.RangeFuncNested
import Derived.RangeFuncCalls
import Derived.Maps.AppendAt
import Derived.LoopNIn
import Derived.LoopIn
import Derived.Deep.AppendSrc
import Derived.WalkKit
import Derived.OwnWalkIn
import Derived.TacticsInMore
namespace Go.Proofs.YtabpgjejedjliaaDoorW.PrintOwn
open Go Go.RowKit Go.Maps Go.Sort Go.Shelf Go.Proofs Go.Proofs.YtabpgjejedjliaaDoorW.PrintWords
set_option linter.unusedVariables false
variable {P : Program} {ρ : Ren}
theorem need_of {α : Type} {c : Prop} [Decidable c] {x : Option α} {r : α} (h : (if c then x else none) = some r) : c ∧ x = some r := by
  by_cases hc : c
  · rw [if_pos hc] at h; exact ⟨hc, h⟩
  · rw [if_neg hc] at h; cases h
theorem below_next {w X W' : World} {N : Nat} (h : Below w.heap.size w X) (hN : N ≤ X.heap.size) (hw : w.heap.size ≤ N) (hb : Below X.heap.size X W') : Below w.heap.size w W' := h.trans (hb.mono (by omega))
theorem fresh_pts {X W' : World} {N : Nat} (hb : Below X.heap.size X W') (hN : N ≤ X.heap.size) : ∃ lo hi, (N ≤ lo ∧ lo ≤ hi ∧ hi ≤ W'.heap.size) ∧ (lo = X.heap.size ∧ hi = W'.heap.size) := ⟨X.heap.size, W'.heap.size, ⟨hN, hb.size, Nat.le_refl _⟩, rfl, rfl⟩
theorem R_in {α : Type} {d : Kd α} {e : Nat} {X W' : World} {B lo hi : Nat} {ok : Nat → Prop} {v : Value} {xs : List α} (h : d.R e W' X.heap.size ok v xs) (g : lo = X.heap.size ∧ hi = W'.heap.size) (hB : B ≤ lo) : d.R e W' B (fun k => (lo ≤ k ∧ k < hi) ∧ ok k) v xs := by
  obtain ⟨rfl, rfl⟩ := g
  exact Kd.R_lower (Kd.R_mono (Kd.R_bound h) (fun k hk => ⟨⟨hk.2.1, hk.2.2.1⟩, hk.1⟩)) hB
end Go.Proofs.YtabpgjejedjliaaDoorW.PrintOwn
