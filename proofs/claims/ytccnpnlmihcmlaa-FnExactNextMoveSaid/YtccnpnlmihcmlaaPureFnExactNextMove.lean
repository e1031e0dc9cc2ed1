/- FnExactNextMove: at all jobs the program's NextMove answers as the reference's, and leaves its argument as it was. -/
import Derived.Test.YtccnpnlmihcmlaaGLNextMove0
import Derived.Test.YtccnpnlmihcmlaaGLNextMove1
import Derived.Test.YtccnpnlmihcmlaaGLNextMove5
import Derived.Test.YtccnpnlmihcmlaaGLNextMove8
import Derived.Test.YtccnpnlmihcmlaaComNextMove
namespace Go.Proofs.Ytccnpnlmihcmlaa.Pure
open Go.RowKit Go.Proofs.Ytccnpnlmihcmlaa.GLNextMove Go.Proofs.YtccnpnlmihcmlaaW.PrintWords Go.Proofs.YtccnpnlmihcmlaaW.PrintLast Go.Proofs.YtccnpnlmihcmlaaW.PrintMore Go.Proofs.YtccnpnlmihcmlaaW.PrintOwn
set_option linter.unusedVariables false
set_option linter.unusedSimpArgs false
def nextZ (a b : List Int) (lf mv : List S39) (n : Int) : Int × Int × Bool := if jobB a b lf mv n = true then (if (lf.length : Int) = 0 then (0, 0, false) else ((rd_T39 lf 0).f0, (rd_T39 lf 0).f1, true)) else (0, 0, false)
theorem ev_nextS (a b : List Int) (lf mv : List S39) (n : Int) (ha : a.length ≤ 1048576) (hb : b.length ≤ 1048576) (hl : lf.length ≤ 1048576) (hm : mv.length ≤ 1048576) : Ev (fun k => spec_NextMove.f k a b lf mv n) (nextZ a b lf mv n) := by
  unfold spec_NextMove.f
  refine Ev.bind (ev_specGoodJob a b lf mv n ha hb hl hm) ?_
  by_cases h : jobB a b lf mv n = true
  · refine Ev.ite_pos h ?_
    by_cases h2 : (lf.length : Int) = 0
    · exact Ev.ite_pos h2 (Ev.cast (Ev.now _) (by unfold nextZ; rw [if_pos h, if_pos h2]))
    · exact Ev.ite_neg h2 (Ev.ite_pos (by omega) (Ev.cast (Ev.now _) (by unfold nextZ; rw [if_pos h, if_neg h2])))
  · exact Ev.ite_neg h (Ev.cast (Ev.now _) (by unfold nextZ; rw [if_neg h]))
theorem ev_nextI (a b : List Int) (lf mv : List S39) (n : Int) (ha : a.length ≤ 1048576) (hb : b.length ≤ 1048576) (hl : lf.length ≤ 1048576) (hm : mv.length ≤ 1048576) : Ev (fun k => impl_NextMove.f k a b lf mv n) (nextZ a b lf mv n) := by
  unfold impl_NextMove.f
  refine Ev.bind (ev_implGoodJob a b lf mv n ha hb hl hm) ?_
  by_cases h : jobB a b lf mv n = true
  · refine Ev.ite_pos h ?_
    by_cases h2 : (lf.length : Int) = 0
    · exact Ev.ite_pos h2 (Ev.cast (Ev.now _) (by unfold nextZ; rw [if_pos h, if_pos h2]))
    · exact Ev.ite_neg h2 (Ev.ite_pos (by omega) (Ev.cast (Ev.now _) (by unfold nextZ; rw [if_pos h, if_neg h2])))
  · exact Ev.ite_neg h (Ev.cast (Ev.now _) (by unfold nextZ; rw [if_neg h]))
theorem FnExactNextMove : laws_FnExactNextMove.Pure := by
  intro a b lf mv n ⟨ha, _⟩ ⟨hb, _⟩ ⟨hl, _⟩ ⟨hm, _⟩ _
  unfold maxLen at ha hb hl hm
  apply Ev.rounds
  unfold laws_FnExactNextMove.f
  obtain ⟨z, hz, hs⟩ := szJob_eq a b lf mv n (by omega) (by omega) (by omega) (by omega)
  refine Ev.bindc hz ?_
  by_cases hn : z < 0
  · exact Ev.ite_pos hn (Ev.now _)
  refine Ev.ite_neg hn ?_
  obtain ⟨ha, hb, hl, hm, _⟩ : a.length ≤ 1048576 ∧ b.length ≤ 1048576 ∧ lf.length ≤ 1048576 ∧ mv.length ≤ 1048576 ∧ (a.length : Int) + b.length + lf.length + mv.length ≤ 1048576 := hs.resolve_left hn
  have ht := ev_toJob a b lf mv n ha hb hl hm
  have hl' : (lf.map toM).length ≤ 1048576 := by simpa using hl
  have hm' : (mv.map toM).length ≤ 1048576 := by simpa using hm
  have he := ev_eqJob a b (lf.map toM) (mv.map toM) n ha hb hl' hm'
  have hs := ev_nextS a b (lf.map toM) (mv.map toM) n ha hb hl' hm'
  have hi := ev_nextI a b (lf.map toM) (mv.map toM) n ha hb hl' hm'
  generalize nextZ a b (lf.map toM) (mv.map toM) n = r at hs hi
  obtain ⟨x, y, v⟩ := r
  have hq : laws_eqMove.f x y x y = some true := by unfold laws_eqMove.f; rw [if_pos rfl, if_pos rfl]
  refine Ev.bind ht (Ev.bind hs (Ev.bind ht (Ev.bind hi (Ev.bindc hq (Ev.ite_pos rfl ?_)))))
  refine Ev.round (fun k => by simp only [laws_FnExactNextMove.j0]; rw [if_neg (by simp)]) ?_
  exact Ev.bind ht (Ev.bind he (Ev.ite_pos rfl (Ev.now _)))

end Go.Proofs.Ytccnpnlmihcmlaa.Pure
