import Derived.Test.YtopnbfifbccegaaGA1
import Derived.Test.YtopnbfifbccegaaGA8
import Derived.Test.YtopnbfifbccegaaCom
namespace Go.Proofs.Ytopnbfifbccegaa.Pure
open Go.RowKit Go.Proofs.Ytopnbfifbccegaa.GA Go.Proofs.YtopnbfifbccegaaW.PrintWords Go.Proofs.YtopnbfifbccegaaW.PrintLast Go.Proofs.YtopnbfifbccegaaW.PrintMore Go.Proofs.YtopnbfifbccegaaW.PrintOwn
set_option linter.unusedVariables false
set_option linter.unusedSimpArgs false
/-! items -/

def goodItems (l : List Int) : Bool := decide ((l.length : Int) ≤ 9) && allIn l 1 20
theorem ev_GoodItems (l : List Int) (hn : l.length ≤ 9223372036854775807) : Ev (fun k => spec_GoodItems.f k l) (goodItems l) := by
  unfold spec_GoodItems.f
  by_cases h : (l.length : Int) ≤ 9
  · refine Ev.ite_pos h (Ev.bind (ev_l1All l 1 20 hn) (Ev.cast (Ev.now _) ?_))
    simp [goodItems, h]
  · refine Ev.ite_neg h (Ev.cast (Ev.now _) ?_)
    simp [goodItems, h]

theorem implGoodItems (l : List Int) : impl_GoodItems.f l = some (goodItems l) := by
  unfold impl_GoodItems.f
  by_cases h : (l.length : Int) ≤ 9
  · rw [if_pos h, allWithin_eq]
    simp [goodItems, h]
  · rw [if_neg h]
    simp [goodItems, h]
theorem goodItems_iff {l : List Int} (h : goodItems l = true) : l.length ≤ 9 ∧ ∀ x ∈ l, 1 ≤ x ∧ x ≤ 20 := by
  unfold goodItems at h
  rw [Bool.and_eq_true, decide_eq_true_iff, allIn_iff] at h
  exact ⟨by omega, h.2⟩

/- FnExactLeastBoxes: at every list of ints at most 1048576 long the program's LeastBoxes answers as the reference's, and leaves its argument as it was. -/
theorem FnExactLeastBoxes : laws_FnExactLeastBoxes.Pure := by
  intro l0 ⟨hm, hw⟩
  apply Ev.rounds
  unfold laws_FnExactLeastBoxes.f
  by_cases h : (l0.length : Int) > 1048576
  · exact Ev.ite_pos h (Ev.now _)
  refine Ev.ite_neg h ?_
  have ht := ev_toIntS l0 (by omega)
  obtain ⟨r, hs, hi⟩ : ∃ r : Int × Bool, Ev (fun k => spec_LeastBoxes.f k l0) r ∧ Ev (fun k => impl_LeastBoxes.f k l0) r := by
    unfold spec_LeastBoxes.f impl_LeastBoxes.f
    cases hg : goodItems l0 with
    | true =>
      exact ⟨_, Ev.bind (ev_GoodItems l0 (by omega)) (Ev.ite_pos hg (Ev.bind (ev_l3Sum l0 (by omega)) (Ev.now _))), Ev.bindc (implGoodItems l0) (Ev.ite_pos hg (Ev.bind (ev_sum l0 (by omega)) (Ev.now _)))⟩
    | false =>
      exact ⟨_, Ev.bind (ev_GoodItems l0 (by omega)) (Ev.ite_neg (by simp [hg]) (Ev.now _)), Ev.bindc (implGoodItems l0) (Ev.ite_neg (by simp [hg]) (Ev.now _))⟩
  refine Ev.bind ht (Ev.bind hs (Ev.bind ht (Ev.bind hi ?_)))
  refine Ev.ite_pos rfl (Ev.round (fun k => by simp only [laws_FnExactLeastBoxes.j0]; rfl) (Ev.ite_neg (by simp) (Ev.bind ht (Ev.bind (ev_eqIntS l0 l0 (by omega)) ?_))))
  exact Ev.ite_pos (by simp) (Ev.now _)

end Go.Proofs.Ytopnbfifbccegaa.Pure
