/- FnExactNextWay: at all nets and flows the program's NextWay answers as the reference's; its answer owns its memory, and its arguments stay as they were. -/
import Derived.Test.YtdbepjnapjjlcaaGLNextWay8
import Derived.Test.YtdbepjnapjjlcaaComNextWay
namespace Go.Proofs.Ytdbepjnapjjlcaa.Pure
open Go.RowKit Go.Proofs.Ytdbepjnapjjlcaa.GLNextWay Go.Proofs.YtdbepjnapjjlcaaW.PrintWords Go.Proofs.YtdbepjnapjjlcaaW.PrintLast Go.Proofs.YtdbepjnapjjlcaaW.PrintMore Go.Proofs.YtdbepjnapjjlcaaW.PrintOwn
set_option linter.unusedVariables false
set_option linter.unusedSimpArgs false
theorem FnExactNextWay : laws_FnExactNextWay.Pure := by
  intro W F ⟨hm, hw⟩ ⟨hm2, hw2⟩
  have hx : ∀ x ∈ W, x.length ≤ 9223372036854775807 := fun x hx => by have := (hw x hx).1; unfold maxLen at this; omega
  have hx2 : ∀ x ∈ F, x.length ≤ 9223372036854775807 := fun x hx => by have := (hw2 x hx).1; unfold maxLen at this; omega
  unfold maxLen at hm hm2
  apply Ev.rounds
  unfold laws_FnExactNextWay.f
  refine Ev.bind (ev_szIntSS W 1048576 (by omega)) ?_
  by_cases h : szRows W 1048576 < 0
  · exact Ev.ite_pos h (Ev.now _)
  refine Ev.ite_neg h ?_
  obtain ⟨h1, h2, h3⟩ := szRows_ok (by omega) (by omega) (by omega) hx h
  have hf := szRows_flat (by omega) (by omega) (by omega) hx h
  refine Ev.bind (ev_szIntSS F _ (by omega)) ?_
  by_cases h' : szRows F (szRows W 1048576) < 0
  · exact Ev.ite_pos h' (Ev.now _)
  refine Ev.ite_neg h' ?_
  obtain ⟨h1', h2', h3'⟩ := szRows_ok (by omega) (by omega) (by omega) hx2 h'
  have hf' := szRows_flat (by omega) (by omega) (by omega) hx2 h'
  have ht := ev_toIntSS W (by omega) (fun x hx => by have := h2 x hx; omega)
  have ht' := ev_toIntSS F (by omega) (fun x hx => by have := h2' x hx; omega)
  obtain ⟨r, b, c, hr, hs, hi⟩ := same_NextWay W F (by omega) hx (by omega) hx2
  have hrr := ev_eqIntS r r (by omega)
  have hWW := ev_eqIntSS W W (by omega) hx
  have hFF := ev_eqIntSS F F (by omega) hx2
  rw [decide_eq_true rfl] at hrr hWW hFF
  refine Ev.bind ht (Ev.bind ht' (Ev.bind hs ?_))
  refine Ev.need hi (Ev.need hrr (Ev.need hWW (Ev.need hFF (Ev.bindc (markSS_eq W 1 (by omega) (by omega)) (Ev.bindc (markSS_eq F _ (by omega) (by omega)) (Ev.ite_pos (by omega) (Ev.bind (ev_markIntS r 1 (by omega) (by omega)) (Ev.need (ev_heldIntS 1 r.length (by omega) (by omega)) (Ev.ite_pos (by omega) (Ev.now _))))))))))

end Go.Proofs.Ytdbepjnapjjlcaa.Pure
