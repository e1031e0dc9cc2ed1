/- FnExactCutOf: at all nets the program's CutOf answers as the reference's; its answer owns its memory, and its argument stays as it was. -/
import Derived.Test.YtdbepjnapjjlcaaGLCutOf8
import Derived.Test.YtdbepjnapjjlcaaComCutOf
namespace Go.Proofs.Ytdbepjnapjjlcaa.Pure
open Go.RowKit Go.Proofs.Ytdbepjnapjjlcaa.GLCutOf Go.Proofs.YtdbepjnapjjlcaaW.PrintWords Go.Proofs.YtdbepjnapjjlcaaW.PrintLast Go.Proofs.YtdbepjnapjjlcaaW.PrintMore Go.Proofs.YtdbepjnapjjlcaaW.PrintOwn
set_option linter.unusedVariables false
set_option linter.unusedSimpArgs false
theorem FnExactCutOf : laws_FnExactCutOf.Pure := by
  intro W ⟨hm, hw⟩
  have hx : ∀ x ∈ W, x.length ≤ 9223372036854775807 := fun x hx => by have := (hw x hx).1; unfold maxLen at this; omega
  unfold maxLen at hm
  apply Ev.rounds
  unfold laws_FnExactCutOf.f
  refine Ev.bind (ev_szIntSS W 1048576 (by omega)) ?_
  by_cases h : szRows W 1048576 < 0
  · exact Ev.ite_pos h (Ev.now _)
  refine Ev.ite_neg h ?_
  obtain ⟨h1, h2, h3⟩ := szRows_ok (by omega) (by omega) (by omega) hx h
  have hf := szRows_flat (by omega) (by omega) (by omega) hx h
  have ht := ev_toIntSS W (by omega) (fun x hx => by have := h2 x hx; omega)
  obtain ⟨r, b, hr, hs, hi⟩ := same_CutOf W (by omega) hx
  have hrr := ev_eqIntS r r (by omega)
  have hWW := ev_eqIntSS W W (by omega) hx
  rw [decide_eq_true rfl] at hrr hWW
  refine Ev.bind ht (Ev.bind hs ?_)
  refine Ev.need hi (Ev.need hrr (Ev.need hWW (Ev.bindc (markSS_eq W 1 (by omega) (by omega)) (Ev.ite_pos (by omega) (Ev.bind (ev_markIntS r 1 (by omega) (by omega)) (Ev.need (ev_heldIntS 1 r.length (by omega) (by omega)) (Ev.ite_pos (by omega) (Ev.now _))))))))

end Go.Proofs.Ytdbepjnapjjlcaa.Pure
