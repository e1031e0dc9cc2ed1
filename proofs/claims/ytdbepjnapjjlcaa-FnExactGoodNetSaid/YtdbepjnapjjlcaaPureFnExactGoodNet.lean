/- FnExactGoodNet: at all rows of at most 1048576 cells the program's GoodNet answers as the reference's, and leaves its argument as it was. -/
import Derived.Test.YtdbepjnapjjlcaaGLGoodNet3
import Derived.Test.YtdbepjnapjjlcaaComGoodNet
namespace Go.Proofs.Ytdbepjnapjjlcaa.Pure
open Go.RowKit Go.Proofs.Ytdbepjnapjjlcaa.GLGoodNet Go.Proofs.YtdbepjnapjjlcaaW.PrintWords Go.Proofs.YtdbepjnapjjlcaaW.PrintLast Go.Proofs.YtdbepjnapjjlcaaW.PrintMore Go.Proofs.YtdbepjnapjjlcaaW.PrintOwn
set_option linter.unusedVariables false
set_option linter.unusedSimpArgs false
theorem FnExactGoodNet : laws_FnExactGoodNet.Pure := by
  intro l0 ⟨hm, hw⟩
  have hx : ∀ x ∈ l0, x.length ≤ 9223372036854775807 := fun x hx => by have := (hw x hx).1; unfold maxLen at this; omega
  unfold maxLen at hm
  apply Ev.rounds
  unfold laws_FnExactGoodNet.f
  refine Ev.bind (ev_szIntSS l0 1048576 (by omega)) ?_
  by_cases h : szRows l0 1048576 < 0
  · exact Ev.ite_pos h (Ev.now _)
  refine Ev.ite_neg h ?_
  obtain ⟨h1, h2, _⟩ := szRows_ok (by omega) (by omega) (by omega) hx h
  have ht := ev_toIntSS l0 (by omega) (fun x hx => by have := h2 x hx; omega)
  refine Ev.bind ht (Ev.bind (ev_GoodNet l0 (by omega) hx) (Ev.bind ht (Ev.bind (ev_implGoodNet l0) ?_)))
  refine Ev.ite_neg (by simp) (Ev.bind ht (Ev.bind (ev_eqIntSS l0 l0 (by omega) hx) ?_))
  exact Ev.ite_pos (by simp) (Ev.now _)

end Go.Proofs.Ytdbepjnapjjlcaa.Pure
