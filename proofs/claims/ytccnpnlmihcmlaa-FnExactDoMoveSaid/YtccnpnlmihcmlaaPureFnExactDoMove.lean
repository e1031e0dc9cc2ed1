/- FnExactDoMove: at all places and moves the program's DoMove answers as the reference's, leaves its argument as it was, and its answer is memory of its own. -/
import Derived.Test.YtccnpnlmihcmlaaGLDoMove1
import Derived.Test.YtccnpnlmihcmlaaGLDoMove2
import Derived.Test.YtccnpnlmihcmlaaGLDoMove3
import Derived.Test.YtccnpnlmihcmlaaGLDoMove4
import Derived.Test.YtccnpnlmihcmlaaComDoMove
namespace Go.Proofs.Ytccnpnlmihcmlaa.Pure
open Go.RowKit Go.Proofs.Ytccnpnlmihcmlaa.GLDoMove Go.Proofs.YtccnpnlmihcmlaaW.PrintWords Go.Proofs.YtccnpnlmihcmlaaW.PrintLast Go.Proofs.YtccnpnlmihcmlaaW.PrintMore Go.Proofs.YtccnpnlmihcmlaaW.PrintOwn
set_option linter.unusedVariables false
set_option linter.unusedSimpArgs false
theorem FnExactDoMove : laws_FnExactDoMove.Pure := by
  intro l a b ⟨hm, _⟩ _ _
  apply Ev.rounds
  unfold laws_FnExactDoMove.f
  by_cases h : (l.length : Int) > 1048576
  · exact Ev.ite_pos h (Ev.now _)
  refine Ev.ite_neg h ?_
  have ht := ev_toIntS l (by omega)
  have hs := ev_specDoMove l a b (by omega)
  have hi := ev_implDoMove l a b (by omega)
  have hlen := movesZ_length l [⟨a, b⟩]
  generalize movesZ l [⟨a, b⟩] = r at hs hi hlen
  obtain ⟨g, v⟩ := r
  have hg : g.length ≤ 9 := hlen
  have htm : laws_toMove.f a b = some (a, b) := rfl
  have hgg := ev_eqIntS g g (by omega)
  have hll := ev_eqIntS l l (by omega)
  have hml := ev_markIntS l 1 (by omega) (by omega)
  have hmg := ev_markIntS g 1 (by omega) (by omega)
  have hhg := ev_heldIntS 1 g.length (by omega) (by omega)
  refine Ev.bind ht (Ev.bindc htm (Ev.bind hs (Ev.bind ht (Ev.bindc htm (Ev.bind hi (Ev.bind hgg (Ev.ite_pos (by simp) ?_)))))))
  refine Ev.round (f := fun k => (laws_toIntS.f k l).bind fun t181 => ((laws_eqIntS.f k l t181).bind fun t184 => (if t184 = true then ((laws_markIntS.f k l 1).bind fun bt185 => (if bt185.1 < 0 then (laws_FnExactDoMove.j1 k l g v g true a b) else ((laws_eqIntS.f k g g).bind fun t187 => (if t187 = true then (laws_FnExactDoMove.j1 k l g v g (v != v) a b) else (laws_FnExactDoMove.j1 k l g v g true a b))))) else (some false)))) (fun k => ?_) ?_
  · simp only [laws_FnExactDoMove.j0]
    rw [if_neg (by simp)]
  refine Ev.bind ht (Ev.bind hll (Ev.ite_pos (by simp) (Ev.bind hml (Ev.ite_neg (by simp; omega) (Ev.bind hgg (Ev.ite_pos (by simp) ?_))))))
  refine Ev.round (f := fun k => (laws_markIntS.f k g 1).bind fun bt188 => ((laws_heldIntS.f k bt188.2 1).bind fun t190 => (if t190 < 0 then (some false) else (if t190 = bt188.1 then ((laws_toIntS.f k l).bind fun t191 => ((laws_toMove.f a b).bind fun bt194 => ((impl_DoMove.f k t191 bt194.1 bt194.2).bind fun bt196 => ((laws_eqIntS.f k bt196.1 g).bind fun t200 => (if t200 = true then (laws_FnExactDoMove.j2 k bt188.2 bt188.1 (bt196.2 != v)) else (laws_FnExactDoMove.j2 k bt188.2 bt188.1 true)))))) else (some false))))) (fun k => ?_) ?_
  · simp only [laws_FnExactDoMove.j1]
    rw [if_neg (by simp)]
  refine Ev.bind hmg (Ev.bind hhg (Ev.ite_neg (by omega) (Ev.ite_pos rfl (Ev.bind ht (Ev.bindc htm (Ev.bind hi (Ev.bind hgg (Ev.ite_pos (by simp) ?_))))))))
  refine Ev.round (f := fun k => (laws_heldIntS.f k (upFrom 1 g.length) 1).bind fun t201 => (if t201 < 0 then (some false) else (if t201 = 1 + (g.length : Int) then (some true) else (some false)))) (fun k => ?_) ?_
  · simp only [laws_FnExactDoMove.j2]
    rw [if_neg (by simp)]
  exact Ev.bind hhg (Ev.ite_neg (by omega) (Ev.ite_pos rfl (Ev.now _)))

end Go.Proofs.Ytccnpnlmihcmlaa.Pure
