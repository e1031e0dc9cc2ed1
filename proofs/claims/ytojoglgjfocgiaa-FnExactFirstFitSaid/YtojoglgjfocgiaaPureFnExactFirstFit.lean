/- FnExactFirstFit: at all items the program's FirstFit answers as the reference's; its answer owns its memory, and its argument stays as it was. -/
import Derived.Test.YtojoglgjfocgiaaGLFirstFit5
import Derived.Test.YtojoglgjfocgiaaComFirstFit
namespace Go.Proofs.Ytojoglgjfocgiaa.Pure
open Go.RowKit Go.Proofs.Ytojoglgjfocgiaa.GLFirstFit Go.Proofs.YtojoglgjfocgiaaW.PrintWords Go.Proofs.YtojoglgjfocgiaaW.PrintLast Go.Proofs.YtojoglgjfocgiaaW.PrintMore Go.Proofs.YtojoglgjfocgiaaW.PrintOwn
set_option linter.unusedVariables false
set_option linter.unusedSimpArgs false
theorem FnExactFirstFit : laws_FnExactFirstFit.Pure := by
  intro l ⟨hm, hw⟩
  unfold maxLen at hm
  apply Ev.rounds
  unfold laws_FnExactFirstFit.f
  by_cases hy : (l.length : Int) > 1048576
  · exact Ev.ite_pos hy (Ev.now _)
  refine Ev.ite_neg hy ?_
  obtain ⟨r, b, ⟨hr, hrx⟩, hs, hi⟩ := same_FirstFit l (by omega)
  have hrr := ev_eqIntSS r r (by omega) (fun x hx => by have := hrx x hx; omega)
  have hll := ev_eqIntS l l (by omega)
  rw [decide_eq_true rfl] at hrr hll
  have hfl := flat_le hrx
  refine Ev.bind (ev_toIntS l (by omega)) (Ev.bind hs ?_)
  refine Ev.need hi (Ev.need hrr (Ev.need hll (Ev.bind (ev_markIntS l 1 (by omega) (by omega)) (Ev.ite_pos (by omega) (Ev.bindc (markSS_eq r 1 (by omega) (by omega)) (Ev.need (ev_heldIntSS r 1 (by omega) (by omega) (by omega)) (Ev.ite_pos (by omega) (Ev.now _))))))))

end Go.Proofs.Ytojoglgjfocgiaa.Pure
