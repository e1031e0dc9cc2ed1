/- FnExactWasteOf: at all items and boxes the program's WasteOf answers as the reference's, and leaves its arguments as they were. -/
import Derived.Test.YtojoglgjfocgiaaGLWasteOf2
import Derived.Test.YtojoglgjfocgiaaGLWasteOf4
import Derived.Test.YtojoglgjfocgiaaComWasteOf
namespace Go.Proofs.Ytojoglgjfocgiaa.Pure
open Go.RowKit Go.Proofs.Ytojoglgjfocgiaa.GLWasteOf Go.Proofs.YtojoglgjfocgiaaW.PrintWords Go.Proofs.YtojoglgjfocgiaaW.PrintLast Go.Proofs.YtojoglgjfocgiaaW.PrintMore Go.Proofs.YtojoglgjfocgiaaW.PrintOwn
set_option linter.unusedVariables false
set_option linter.unusedSimpArgs false
theorem FnExactWasteOf : laws_FnExactWasteOf.Pure := by
  intro o l ⟨hm2, hw2⟩ ⟨hm, hw⟩
  have hx : ∀ x ∈ l, x.length ≤ 9223372036854775807 := fun x hx => by have := (hw x hx).1; unfold maxLen at this; omega
  unfold maxLen at hm hm2
  apply Ev.rounds
  unfold laws_FnExactWasteOf.f
  by_cases h0 : (o.length : Int) > 1048576
  · exact Ev.ite_pos h0 (Ev.now _)
  refine Ev.ite_neg h0 (Ev.bind (ev_szIntSS l 1048576 (by omega)) ?_)
  by_cases h : szRows l 1048576 < 0
  · exact Ev.ite_pos h (Ev.now _)
  refine Ev.ite_neg h ?_
  obtain ⟨h1, h2, h3⟩ := szRows_ok (by omega) (by omega) (by omega) hx h
  have hf := szRows_flat (by omega) (by omega) (by omega) hx h
  have ht := ev_toIntSS l (by omega) (fun x hx => by have := h2 x hx; omega)
  have hto := ev_toIntS o (by omega)
  have hx1 : ∀ x ∈ l, x.length ≤ 1048576 := fun x hx => by have := h2 x hx; omega
  obtain ⟨⟨c, v⟩, hs, hi⟩ : ∃ r : Int × Bool, Ev (fun k => spec_WasteOf.f k o l) r ∧ Ev (fun k => impl_WasteOf.f k o l) r := by
    unfold spec_WasteOf.f impl_WasteOf.f
    cases hg : goodItems o with
    | true =>
      cases hp : packB o l with
      | true =>
        exact ⟨_, Ev.bind (ev_GoodItems o (by omega)) (Ev.ite_pos hg (Ev.bind (ev_packing o l (by omega) hx1 (by omega) (goodItems_iff hg).1) (Ev.ite_pos hp (Ev.bind (ev_l3Sum o (by omega)) (Ev.now _))))), Ev.bindc (implGoodItems o) (Ev.ite_pos hg (Ev.bindc (isPacking_eq o l (by omega) (by omega) hx1) (Ev.ite_pos hp (Ev.bind (ev_sum o (by omega)) (Ev.now _)))))⟩
      | false =>
        exact ⟨_, Ev.bind (ev_GoodItems o (by omega)) (Ev.ite_pos hg (Ev.bind (ev_packing o l (by omega) hx1 (by omega) (goodItems_iff hg).1) (Ev.ite_neg (by simp [hp]) (Ev.now _)))), Ev.bindc (implGoodItems o) (Ev.ite_pos hg (Ev.bindc (isPacking_eq o l (by omega) (by omega) hx1) (Ev.ite_neg (by simp [hp]) (Ev.now _))))⟩
    | false =>
      exact ⟨_, Ev.bind (ev_GoodItems o (by omega)) (Ev.ite_neg (by simp [hg]) (Ev.now _)), Ev.bindc (implGoodItems o) (Ev.ite_neg (by simp [hg]) (Ev.now _))⟩
  have hll := ev_eqIntSS l l (by omega) hx
  have hoo := ev_eqIntS o o (by omega)
  refine Ev.bind hto (Ev.bind ht (Ev.bind hs (Ev.bind hto (Ev.bind ht (Ev.bind hi (Ev.ite_pos rfl ?_))))))
  refine Ev.round (fun k => by simp only [laws_FnExactWasteOf.j0]; rw [if_neg (by simp)]) ?_
  exact Ev.bind hto (Ev.bind hoo (Ev.ite_pos (by simp) (Ev.bind ht (Ev.bind hll (Ev.ite_pos (by simp) (Ev.now _))))))

end Go.Proofs.Ytojoglgjfocgiaa.Pure
