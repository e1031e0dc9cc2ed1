/- FnExactDistanceLeft: at all jobs the program's DistanceLeft answers as the reference's, and leaves its argument as it was. -/
import Derived.Test.YtccnpnlmihcmlaaGLDistanceLeft0
import Derived.Test.YtccnpnlmihcmlaaGLDistanceLeft10
import Derived.Test.YtccnpnlmihcmlaaGLDistanceLeft11
import Derived.Test.YtccnpnlmihcmlaaGLDistanceLeft6
import Derived.Test.YtccnpnlmihcmlaaGLDistanceLeft9
import Derived.Test.YtccnpnlmihcmlaaComDistanceLeft
namespace Go.Proofs.Ytccnpnlmihcmlaa.Pure
open Go.RowKit Go.Proofs.Ytccnpnlmihcmlaa.GLDistanceLeft Go.Proofs.YtccnpnlmihcmlaaW.PrintWords Go.Proofs.YtccnpnlmihcmlaaW.PrintLast Go.Proofs.YtccnpnlmihcmlaaW.PrintMore Go.Proofs.YtccnpnlmihcmlaaW.PrintOwn
set_option linter.unusedVariables false
set_option linter.unusedSimpArgs false
theorem same_DistanceLeft (a b : List Int) (lf mv : List S39) (n : Int) (ha : a.length ≤ 1048576) (hb : b.length ≤ 1048576) (hl : lf.length ≤ 1048576) (hm : mv.length ≤ 1048576) : ∃ r : Int × Bool, Ev (fun k => spec_DistanceLeft.f k a b lf mv n) r ∧ Ev (fun k => impl_DistanceLeft.f k a b lf mv n) r := by
  unfold spec_DistanceLeft.f impl_DistanceLeft.f
  by_cases h : jobB a b lf mv n = true
  · have h2 : alikeB a b = true := by unfold jobB at h; rw [Bool.and_eq_true] at h; exact h.1
    obtain ⟨r, e1, e2⟩ := rings_same a b h2
    have e3 : Ev (fun k => impl_MovesNeeded.f k a b) (wrap64 (r.1 + r.2), true) := by
      unfold impl_MovesNeeded.f
      exact Ev.bind e2 (Ev.now _)
    exact ⟨(wrap64 (r.1 + r.2), true), Ev.bind (ev_specGoodJob a b lf mv n ha hb hl hm) (Ev.ite_pos h (Ev.bind e1 (Ev.now _))), Ev.bind (ev_implGoodJob a b lf mv n ha hb hl hm) (Ev.ite_pos h (Ev.bind e3 (Ev.now _)))⟩
  · exact ⟨(0, false), Ev.bind (ev_specGoodJob a b lf mv n ha hb hl hm) (Ev.ite_neg h (Ev.now _)), Ev.bind (ev_implGoodJob a b lf mv n ha hb hl hm) (Ev.ite_neg h (Ev.now _))⟩
theorem FnExactDistanceLeft : laws_FnExactDistanceLeft.Pure := by
  intro a b lf mv n ⟨ha, _⟩ ⟨hb, _⟩ ⟨hl, _⟩ ⟨hm, _⟩ _
  unfold maxLen at ha hb hl hm
  apply Ev.rounds
  unfold laws_FnExactDistanceLeft.f
  obtain ⟨z, hz, hs⟩ := szJob_eq a b lf mv n (by omega) (by omega) (by omega) (by omega)
  refine Ev.bindc hz ?_
  by_cases hn : z < 0
  · exact Ev.ite_pos hn (Ev.now _)
  refine Ev.ite_neg hn ?_
  obtain ⟨ha, hb, hl, hm, _⟩ : a.length ≤ 1048576 ∧ b.length ≤ 1048576 ∧ lf.length ≤ 1048576 ∧ mv.length ≤ 1048576 ∧ (a.length : Int) + b.length + lf.length + mv.length ≤ 1048576 := hs.resolve_left hn
  have ht := ev_toJob a b lf mv n ha hb hl hm
  have hl' : (lf.map toM).length ≤ 1048576 := by simpa using hl
  have hm' : (mv.map toM).length ≤ 1048576 := by simpa using hm
  have he := ev_eqJob a b (lf.map toM) (mv.map toM) n ha hb hl' hm'
  obtain ⟨⟨x, v⟩, hs, hi⟩ := same_DistanceLeft a b (lf.map toM) (mv.map toM) n ha hb hl' hm'
  refine Ev.bind ht (Ev.bind hs (Ev.bind ht (Ev.bind hi (Ev.ite_pos rfl ?_))))
  refine Ev.round (fun k => by simp only [laws_FnExactDistanceLeft.j0]; rw [if_neg (by simp)]) ?_
  exact Ev.bind ht (Ev.bind he (Ev.ite_pos rfl (Ev.now _)))

end Go.Proofs.Ytccnpnlmihcmlaa.Pure
