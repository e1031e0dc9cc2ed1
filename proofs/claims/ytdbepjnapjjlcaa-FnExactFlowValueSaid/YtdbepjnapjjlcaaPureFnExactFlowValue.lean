/- FnExactFlowValue: at all rows of at most 1048576 cells the program's FlowValue answers as the reference's, and leaves its argument as it was. -/
import Derived.Test.YtdbepjnapjjlcaaGLFlowValue1
import Derived.Test.YtdbepjnapjjlcaaGLFlowValue3
import Derived.Test.YtdbepjnapjjlcaaComFlowValue
namespace Go.Proofs.Ytdbepjnapjjlcaa.Pure
open Go.RowKit Go.Proofs.Ytdbepjnapjjlcaa.GLFlowValue Go.Proofs.YtdbepjnapjjlcaaW.PrintWords Go.Proofs.YtdbepjnapjjlcaaW.PrintLast Go.Proofs.YtdbepjnapjjlcaaW.PrintMore Go.Proofs.YtdbepjnapjjlcaaW.PrintOwn
set_option linter.unusedVariables false
set_option linter.unusedSimpArgs false
theorem FnExactFlowValue : laws_FnExactFlowValue.Pure := by
  intro l ⟨hm, hw⟩
  have hx : ∀ x ∈ l, x.length ≤ 9223372036854775807 := fun x hx => by have := (hw x hx).1; unfold maxLen at this; omega
  unfold maxLen at hm
  apply Ev.rounds
  unfold laws_FnExactFlowValue.f
  refine Ev.bind (ev_szIntSS l 1048576 (by omega)) ?_
  by_cases h : szRows l 1048576 < 0
  · exact Ev.ite_pos h (Ev.now _)
  refine Ev.ite_neg h ?_
  obtain ⟨h1, h2, h3⟩ := szRows_ok (by omega) (by omega) (by omega) hx h
  have ht := ev_toIntSS l (by omega) (fun x hx => by have := h2 x hx; omega)
  refine Ev.bind ht (Ev.bind (ev_FlowValue l (by omega) hx) (Ev.bind ht (Ev.bind (ev_implFlowValue l) ?_)))
  refine Ev.ite_pos rfl ?_
  refine Ev.round (f := fun k => (laws_toIntSS.f k l).bind fun t168 => ((laws_eqIntSS.f k l t168).bind fun t171 => (if t171 = true then (some true) else (some false)))) (fun k => ?_) ?_
  · simp only [laws_FnExactFlowValue.j0]
    rw [if_neg (by simp)]
  · refine Ev.bind ht (Ev.bind (ev_eqIntSS l l (by omega) hx) ?_)
    exact Ev.ite_pos (by simp) (Ev.now _)

end Go.Proofs.Ytdbepjnapjjlcaa.Pure
