/- FnExactGoodCosts: at all rows of at most 1048576 cells the program's GoodCosts answers as the reference's, and leaves its argument as it was. -/
import Derived.Test.YtdlblaihleojmaaGLGoodCosts2
import Derived.Test.YtdlblaihleojmaaComGoodCosts
namespace Go.Proofs.Ytdlblaihleojmaa.Pure
open Go.RowKit Go.Proofs.Ytdlblaihleojmaa.GLGoodCosts Go.Proofs.YtdlblaihleojmaaW.PrintWords Go.Proofs.YtdlblaihleojmaaW.PrintLast Go.Proofs.YtdlblaihleojmaaW.PrintMore Go.Proofs.YtdlblaihleojmaaW.PrintOwn
set_option linter.unusedVariables false
set_option linter.unusedSimpArgs false
theorem FnExactGoodCosts : laws_FnExactGoodCosts.Pure := by
  intro l0 ⟨hm, hw⟩
  have hx : ∀ x ∈ l0, x.length ≤ 9223372036854775807 := fun x hx => by have := (hw x hx).1; unfold maxLen at this; omega
  unfold maxLen at hm
  apply Ev.rounds
  unfold laws_FnExactGoodCosts.f
  refine Ev.bind (ev_szIntSS l0 1048576 (by omega)) ?_
  by_cases h : szRows l0 1048576 < 0
  · exact Ev.ite_pos h (Ev.now _)
  refine Ev.ite_neg h ?_
  obtain ⟨h1, h2, _⟩ := szRows_ok (by omega) (by omega) (by omega) hx h
  have ht := ev_toIntSS l0 (by omega) (fun x hx => by have := h2 x hx; omega)
  refine Ev.bind ht (Ev.bind (ev_GoodCosts l0 (by omega) hx) (Ev.bind ht (Ev.bindc (goodCosts_eq l0) ?_)))
  refine Ev.ite_neg (by simp) (Ev.bind ht (Ev.bind (ev_eqIntSS l0 l0 (by omega) hx) ?_))
  exact Ev.ite_pos (by simp) (Ev.now _)

end Go.Proofs.Ytdlblaihleojmaa.Pure
