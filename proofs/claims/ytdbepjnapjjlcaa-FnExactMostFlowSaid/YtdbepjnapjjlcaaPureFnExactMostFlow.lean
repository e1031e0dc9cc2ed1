/- FnExactMostFlow: at all nets the program's MostFlow answers as the reference's; its answer owns its memory, and its argument stays as it was. -/
import Derived.Test.YtdbepjnapjjlcaaGLMostFlow8
import Derived.Test.YtdbepjnapjjlcaaComMostFlow
namespace Go.Proofs.Ytdbepjnapjjlcaa.Pure
open Go.RowKit Go.Proofs.Ytdbepjnapjjlcaa.GLMostFlow Go.Proofs.YtdbepjnapjjlcaaW.PrintWords Go.Proofs.YtdbepjnapjjlcaaW.PrintLast Go.Proofs.YtdbepjnapjjlcaaW.PrintMore Go.Proofs.YtdbepjnapjjlcaaW.PrintOwn
set_option linter.unusedVariables false
set_option linter.unusedSimpArgs false
theorem FnExactMostFlow : laws_FnExactMostFlow.Pure := by
  intro W ⟨hm, hw⟩
  have hx : ∀ x ∈ W, x.length ≤ 9223372036854775807 := fun x hx => by have := (hw x hx).1; unfold maxLen at this; omega
  unfold maxLen at hm
  apply Ev.rounds
  unfold laws_FnExactMostFlow.f
  refine Ev.bind (ev_szIntSS W 1048576 (by omega)) ?_
  by_cases h : szRows W 1048576 < 0
  · exact Ev.ite_pos h (Ev.now _)
  refine Ev.ite_neg h ?_
  obtain ⟨h1, h2, h3⟩ := szRows_ok (by omega) (by omega) (by omega) hx h
  have hf := szRows_flat (by omega) (by omega) (by omega) hx h
  have ht := ev_toIntSS W (by omega) (fun x hx => by have := h2 x hx; omega)
  obtain ⟨r, v, b, ⟨hr, hrx⟩, hs, hi⟩ := same_MostFlow W (by omega) hx
  have hrr := ev_eqIntSS r r (by omega) (fun x hx => by have := hrx x hx; omega)
  have hWW := ev_eqIntSS W W (by omega) hx
  rw [decide_eq_true rfl] at hrr hWW
  have hfl := flat_le hrx
  refine Ev.bind ht (Ev.bind hs ?_)
  refine Ev.need hi (Ev.need hrr (Ev.need hWW (Ev.bindc (markSS_eq W 1 (by omega) (by omega)) (Ev.ite_pos (by omega) (Ev.bindc (markSS_eq r 1 (by omega) (by omega)) (Ev.need (ev_heldIntSS r 1 (by omega) (by omega) (by omega)) (Ev.ite_pos (by omega) (Ev.now _))))))))

end Go.Proofs.Ytdbepjnapjjlcaa.Pure
