/- FnExactPushWay: at all nets, flows and ways the program's PushWay answers as the reference's; its answer owns its memory, and its arguments stay as they were. -/
import Derived.Test.YtdbepjnapjjlcaaGLPushWay8
import Derived.Test.YtdbepjnapjjlcaaComPushWay
namespace Go.Proofs.Ytdbepjnapjjlcaa.Pure
open Go.RowKit Go.Proofs.Ytdbepjnapjjlcaa.GLPushWay Go.Proofs.YtdbepjnapjjlcaaW.PrintWords Go.Proofs.YtdbepjnapjjlcaaW.PrintLast Go.Proofs.YtdbepjnapjjlcaaW.PrintMore Go.Proofs.YtdbepjnapjjlcaaW.PrintOwn
set_option linter.unusedVariables false
set_option linter.unusedSimpArgs false
theorem FnExactPushWay : laws_FnExactPushWay.Pure := by
  intro W F Y ⟨hm, hw⟩ ⟨hm2, hw2⟩ ⟨hm3, hw3⟩
  have hx : ∀ x ∈ W, x.length ≤ 9223372036854775807 := fun x hx => by have := (hw x hx).1; unfold maxLen at this; omega
  have hx2 : ∀ x ∈ F, x.length ≤ 9223372036854775807 := fun x hx => by have := (hw2 x hx).1; unfold maxLen at this; omega
  unfold maxLen at hm hm2 hm3
  apply Ev.rounds
  unfold laws_FnExactPushWay.f
  by_cases hy : (Y.length : Int) > 1048576
  · exact Ev.ite_pos hy (Ev.now _)
  refine Ev.ite_neg hy ?_
  refine Ev.bind (ev_szIntSS W 1048576 (by omega)) ?_
  by_cases h : szRows W 1048576 < 0
  · exact Ev.ite_pos h (Ev.now _)
  refine Ev.ite_neg h ?_
  obtain ⟨h1, h2, h3⟩ := szRows_ok (by omega) (by omega) (by omega) hx h
  have hf := szRows_flat (by omega) (by omega) (by omega) hx h
  refine Ev.bind (ev_szIntSS F _ (by omega)) ?_
  by_cases h' : szRows F (szRows W 1048576) < 0
  · exact Ev.ite_pos h' (Ev.now _)
  refine Ev.ite_neg h' ?_
  obtain ⟨h1', h2', h3'⟩ := szRows_ok (by omega) (by omega) (by omega) hx2 h'
  have hf' := szRows_flat (by omega) (by omega) (by omega) hx2 h'
  have ht := ev_toIntSS W (by omega) (fun x hx => by have := h2 x hx; omega)
  have ht' := ev_toIntSS F (by omega) (fun x hx => by have := h2' x hx; omega)
  have ht'' := ev_toIntS Y (by omega)
  obtain ⟨r, mu, b, ⟨hr, hrx⟩, hs, hi⟩ := same_PushWay W F Y (by omega) hx (by omega) hx2 (by omega)
  have hrr := ev_eqIntSS r r (by omega) (fun x hx => by have := hrx x hx; omega)
  have hWW := ev_eqIntSS W W (by omega) hx
  have hFF := ev_eqIntSS F F (by omega) hx2
  have hYY := ev_eqIntS Y Y (by omega)
  rw [decide_eq_true rfl] at hrr hWW hFF hYY
  have hfl := flat_le hrx
  refine Ev.bind ht (Ev.bind ht' (Ev.bind ht'' (Ev.bind hs ?_)))
  refine Ev.need hi (Ev.need hrr (Ev.need hWW (Ev.need hFF (Ev.need hYY (Ev.bindc (markSS_eq W 1 (by omega) (by omega)) (Ev.bindc (markSS_eq F _ (by omega) (by omega)) (Ev.bind (ev_markIntS Y _ (by omega) (by omega)) (Ev.ite_pos (by omega) (Ev.bindc (markSS_eq r 1 (by omega) (by omega)) (Ev.need (ev_heldIntSS r 1 (by omega) (by omega) (by omega)) (Ev.ite_pos (by omega) (Ev.now _))))))))))))

end Go.Proofs.Ytdbepjnapjjlcaa.Pure
