/- FnExactStartOf: at all jobs the program's StartOf answers as the reference's, leaves its argument as it was, and its answer is memory of its own. -/
import Derived.Test.YtccnpnlmihcmlaaGLStartOf0
import Derived.Test.YtccnpnlmihcmlaaGLStartOf5
import Derived.Test.YtccnpnlmihcmlaaGLStartOf8
import Derived.Test.YtccnpnlmihcmlaaGLStartOf9
import Derived.Test.YtccnpnlmihcmlaaComStartOf
namespace Go.Proofs.Ytccnpnlmihcmlaa.Pure
open Go.RowKit Go.Proofs.Ytccnpnlmihcmlaa.GLStartOf Go.Proofs.YtccnpnlmihcmlaaW.PrintWords Go.Proofs.YtccnpnlmihcmlaaW.PrintLast Go.Proofs.YtccnpnlmihcmlaaW.PrintMore Go.Proofs.YtccnpnlmihcmlaaW.PrintOwn
set_option linter.unusedVariables false
set_option linter.unusedSimpArgs false
theorem same_StartOf (a b : List Int) (lf mv : List S39) (n : Int) (ha : a.length ≤ 1048576) (hb : b.length ≤ 1048576) (hl : lf.length ≤ 1048576) (hm : mv.length ≤ 1048576) : ∃ r : List Int × Bool, r.1.length ≤ 1048576 ∧ Ev (fun k => spec_StartOf.f k a b lf mv n) r ∧ Ev (fun k => impl_StartOf.f k a b lf mv n) r := by
  unfold spec_StartOf.f impl_StartOf.f
  by_cases h : jobB a b lf mv n = true
  · refine ⟨startZ a mv, Nat.le_trans (startZ_length a mv) ha, Ev.bind (ev_specGoodJob a b lf mv n ha hb hl hm) (Ev.ite_pos h (Ev.bind (ev_l16Start a mv ha hm) (Ev.now _))), Ev.bind (ev_implGoodJob a b lf mv n ha hb hl hm) (Ev.ite_pos h (Ev.bindc (impl_start_eq a mv ha) (Ev.now _)))⟩
  · exact ⟨([], false), by simp, Ev.bind (ev_specGoodJob a b lf mv n ha hb hl hm) (Ev.ite_neg h (Ev.now _)), Ev.bind (ev_implGoodJob a b lf mv n ha hb hl hm) (Ev.ite_neg h (Ev.now _))⟩
theorem FnExactStartOf : laws_FnExactStartOf.Pure := by
  intro a b lf mv n ⟨ha, _⟩ ⟨hb, _⟩ ⟨hl, _⟩ ⟨hm, _⟩ _
  unfold maxLen at ha hb hl hm
  apply Ev.rounds
  unfold laws_FnExactStartOf.f
  obtain ⟨z, hz, hs⟩ := szJob_eq a b lf mv n (by omega) (by omega) (by omega) (by omega)
  refine Ev.bindc hz ?_
  by_cases hn : z < 0
  · exact Ev.ite_pos hn (Ev.now _)
  refine Ev.ite_neg hn ?_
  obtain ⟨ha, hb, hl, hm, _⟩ : a.length ≤ 1048576 ∧ b.length ≤ 1048576 ∧ lf.length ≤ 1048576 ∧ mv.length ≤ 1048576 ∧ (a.length : Int) + b.length + lf.length + mv.length ≤ 1048576 := hs.resolve_left hn
  have ht := ev_toJob a b lf mv n ha hb hl hm
  have hl' : (lf.map toM).length ≤ 1048576 := by simpa using hl
  have hm' : (mv.map toM).length ≤ 1048576 := by simpa using hm
  have he := ev_eqJob a b (lf.map toM) (mv.map toM) n ha hb hl' hm'
  obtain ⟨⟨g, v⟩, hgl, hs, hi⟩ := same_StartOf a b (lf.map toM) (mv.map toM) n ha hb hl' hm'
  replace hgl : g.length ≤ 1048576 := hgl
  have hgg := ev_eqIntS g g (by omega)
  obtain ⟨x, ys, hx, hmk⟩ := ev_markJob a b (lf.map toM) (mv.map toM) n ha hb hl' hm'
  have hmg := ev_markIntS g 1 (by omega) (by omega)
  have hhg := ev_heldIntS 1 g.length (by omega) (by omega)
  refine Ev.bind ht (Ev.bind hs (Ev.bind ht (Ev.bind hi (Ev.bind hgg (Ev.ite_pos (by simp) ?_)))))
  refine Ev.round (fun k => by simp only [laws_FnExactStartOf.j0]; rw [if_neg (by simp)]) ?_
  refine Ev.bind ht (Ev.bind he (Ev.ite_pos rfl (Ev.bind hmk (Ev.ite_neg (by simp; omega) (Ev.bind hgg (Ev.ite_pos (by simp) ?_))))))
  refine Ev.round (fun k => by simp only [laws_FnExactStartOf.j1]; rw [if_neg (by simp)]) ?_
  refine Ev.bind hmg (Ev.bind hhg (Ev.ite_neg (by omega) (Ev.ite_pos rfl (Ev.bind ht (Ev.bind hi (Ev.bind hgg (Ev.ite_pos (by simp) ?_)))))))
  refine Ev.round (fun k => by simp only [laws_FnExactStartOf.j2]; rw [if_neg (by simp)]) ?_
  exact Ev.bind hhg (Ev.ite_neg (by omega) (Ev.ite_pos rfl (Ev.now _)))

end Go.Proofs.Ytccnpnlmihcmlaa.Pure
