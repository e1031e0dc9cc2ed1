/- FnExactIsFlow: at all nets and flows of at most 1048576 cells the program's IsFlow answers as the reference's, and leaves its arguments as they were. -/
import Derived.Test.YtdbepjnapjjlcaaGLIsFlow1
import Derived.Test.YtdbepjnapjjlcaaGLIsFlow4
import Derived.Test.YtdbepjnapjjlcaaComIsFlow
namespace Go.Proofs.Ytdbepjnapjjlcaa.Pure
open Go.RowKit Go.Proofs.Ytdbepjnapjjlcaa.GLIsFlow Go.Proofs.YtdbepjnapjjlcaaW.PrintWords Go.Proofs.YtdbepjnapjjlcaaW.PrintLast Go.Proofs.YtdbepjnapjjlcaaW.PrintMore Go.Proofs.YtdbepjnapjjlcaaW.PrintOwn
set_option linter.unusedVariables false
set_option linter.unusedSimpArgs false
theorem FnExactIsFlow : laws_FnExactIsFlow.Pure := by
  intro n l ⟨hm, hw⟩ ⟨hm', hw'⟩
  have hx : ∀ x ∈ n, x.length ≤ 9223372036854775807 := fun x hx => by have := (hw x hx).1; unfold maxLen at this; omega
  have hx' : ∀ x ∈ l, x.length ≤ 9223372036854775807 := fun x hx => by have := (hw' x hx).1; unfold maxLen at this; omega
  unfold maxLen at hm hm'
  apply Ev.rounds
  unfold laws_FnExactIsFlow.f
  refine Ev.bind (ev_szIntSS n 1048576 (by omega)) ?_
  by_cases h : szRows n 1048576 < 0
  · exact Ev.ite_pos h (Ev.now _)
  refine Ev.ite_neg h ?_
  obtain ⟨h1, h2, h3⟩ := szRows_ok (by omega) (by omega) (by omega) hx h
  refine Ev.bind (ev_szIntSS l _ (by omega)) ?_
  by_cases h' : szRows l (szRows n 1048576) < 0
  · exact Ev.ite_pos h' (Ev.now _)
  refine Ev.ite_neg h' ?_
  obtain ⟨h1', h2', h3'⟩ := szRows_ok (by omega) (by omega) (by omega) hx' h'
  have ht := ev_toIntSS n (by omega) (fun x hx => by have := h2 x hx; omega)
  have ht' := ev_toIntSS l (by omega) (fun x hx => by have := h2' x hx; omega)
  obtain ⟨r, p, q⟩ := same_IsFlow n l (by omega) hx (by omega) hx'
  refine Ev.bind ht (Ev.bind ht' (Ev.bind p (Ev.bind ht (Ev.bind ht' (Ev.bind q ?_)))))
  refine Ev.ite_neg (by simp) ?_
  refine Ev.round (f := fun k => (laws_toIntSS.f k n).bind fun t211 => ((laws_eqIntSS.f k n t211).bind fun t214 => (if t214 = true then ((laws_toIntSS.f k l).bind fun t215 => ((laws_eqIntSS.f k l t215).bind fun t218 => (if t218 = true then (some true) else (some false)))) else (some false)))) (fun k => ?_) ?_
  · simp only [laws_FnExactIsFlow.j0]
    rw [if_neg (by simp)]
  · refine Ev.bind ht (Ev.bind (ev_eqIntSS n n (by omega) hx) (Ev.ite_pos (by simp) ?_))
    refine Ev.bind ht' (Ev.bind (ev_eqIntSS l l (by omega) hx') ?_)
    exact Ev.ite_pos (by simp) (Ev.now _)

end Go.Proofs.Ytdbepjnapjjlcaa.Pure
