/- FnExactDoMoves: at all places and moves the program's DoMoves answers as the reference's, leaves its argument as it was, and its answer is memory of its own. -/
import Derived.Test.YtccnpnlmihcmlaaGLDoMoves1
import Derived.Test.YtccnpnlmihcmlaaGLDoMoves2
import Derived.Test.YtccnpnlmihcmlaaGLDoMoves4
import Derived.Test.YtccnpnlmihcmlaaGLDoMoves5
import Derived.Test.YtccnpnlmihcmlaaComDoMoves
namespace Go.Proofs.Ytccnpnlmihcmlaa.Pure
open Go.RowKit Go.Proofs.Ytccnpnlmihcmlaa.GLDoMoves Go.Proofs.YtccnpnlmihcmlaaW.PrintWords Go.Proofs.YtccnpnlmihcmlaaW.PrintLast Go.Proofs.YtccnpnlmihcmlaaW.PrintMore Go.Proofs.YtccnpnlmihcmlaaW.PrintOwn
set_option linter.unusedVariables false
set_option linter.unusedSimpArgs false
theorem FnExactDoMoves : laws_FnExactDoMoves.Pure := by
  intro l ms ⟨hm, _⟩ ⟨hm', _⟩
  unfold maxLen at hm hm'
  apply Ev.rounds
  unfold laws_FnExactDoMoves.f
  by_cases h : (l.length : Int) > 1048576
  · exact Ev.ite_pos h (Ev.now _)
  refine Ev.ite_neg h ?_
  have hw : wrap64 (1048576 - (ms.length : Int)) = 1048576 - (ms.length : Int) := by unfold wrap64; omega
  obtain ⟨z, hz, hz2⟩ : ∃ z, laws_szMoveS.f ms 1048576 = some z ∧ (z < 0 ∨ ms.length ≤ 1048576) := by
    unfold laws_szMoveS.f
    rw [hw]
    by_cases c : 1048576 - (ms.length : Int) < 0
    · rw [if_pos c]; exact ⟨_, rfl, Or.inl (by omega)⟩
    · rw [if_neg c]; exact ⟨_, rfl, Or.inr (by omega)⟩
  refine Ev.bindc hz ?_
  by_cases hzn : z < 0
  · exact Ev.ite_pos hzn (Ev.now _)
  refine Ev.ite_neg hzn ?_
  have hl : ms.length ≤ 1048576 := by omega
  have ht := ev_toIntS l (by omega)
  have htm := ev_toMoveS ms (by omega)
  have hs := ev_specDoMoves l (ms.map toM) (by omega) (by simp; omega)
  have hi := ev_implDoMoves l (ms.map toM) (by omega) (by simp; omega)
  have hlen := movesZ_length l (ms.map toM)
  have hmm := ev_eqMoveS (ms.map toM) (by simp; omega)
  have hml := ev_markIntS l 1 (by omega) (by omega)
  obtain ⟨l', hmv⟩ := ev_markMoveS (ms.map toM) (1 + (l.length : Int)) (by simpa using hl) (by omega) (by omega)
  generalize movesZ l (ms.map toM) = r at hs hi hlen
  obtain ⟨g, v⟩ := r
  have hg : g.length ≤ 9 := hlen
  have hgg := ev_eqIntS g g (by omega)
  have hll := ev_eqIntS l l (by omega)
  have hmg := ev_markIntS g 1 (by omega) (by omega)
  have hhg := ev_heldIntS 1 g.length (by omega) (by omega)
  generalize ms.map toM = ns at htm hs hi hmm hmv
  refine Ev.bind ht (Ev.bind htm (Ev.bind hs (Ev.bind ht (Ev.bind htm (Ev.bind hi (Ev.bind hgg (Ev.ite_pos (by simp) ?_)))))))
  refine Ev.round (f := fun k => (laws_toIntS.f k l).bind fun t248 => ((laws_eqIntS.f k l t248).bind fun t251 => (if t251 = true then ((laws_toMoveS.f k ms).bind fun t252 => ((laws_eqMoveS.f k ns t252).bind fun t255 => (if t255 = true then ((laws_markIntS.f k l 1).bind fun bt256 => ((laws_markMoveS.f k ns bt256.1).bind fun bt258 => (if bt258.1 < 0 then (laws_FnExactDoMoves.j1 k l ms g v g true) else ((laws_eqIntS.f k g g).bind fun t260 => (if t260 = true then (laws_FnExactDoMoves.j1 k l ms g v g (v != v)) else (laws_FnExactDoMoves.j1 k l ms g v g true)))))) else (some false)))) else (some false)))) (fun k => ?_) ?_
  · simp only [laws_FnExactDoMoves.j0]
    rw [if_neg (by simp)]
  refine Ev.bind ht (Ev.bind hll (Ev.ite_pos (by simp) (Ev.bind htm (Ev.bind hmm (Ev.ite_pos rfl ?_)))))
  refine Ev.bind hml (Ev.bind hmv (Ev.ite_neg (by simp; omega) (Ev.bind hgg (Ev.ite_pos (by simp) ?_))))
  refine Ev.round (f := fun k => (laws_markIntS.f k g 1).bind fun bt261 => ((laws_heldIntS.f k bt261.2 1).bind fun t263 => (if t263 < 0 then (some false) else (if t263 = bt261.1 then ((laws_toIntS.f k l).bind fun t264 => ((laws_toMoveS.f k ms).bind fun t267 => ((impl_DoMoves.f k t264 t267).bind fun bt270 => ((laws_eqIntS.f k bt270.1 g).bind fun t274 => (if t274 = true then (laws_FnExactDoMoves.j2 k bt261.2 bt261.1 (bt270.2 != v)) else (laws_FnExactDoMoves.j2 k bt261.2 bt261.1 true)))))) else (some false))))) (fun k => ?_) ?_
  · simp only [laws_FnExactDoMoves.j1]
    rw [if_neg (by simp)]
  refine Ev.bind hmg (Ev.bind hhg (Ev.ite_neg (by omega) (Ev.ite_pos rfl (Ev.bind ht (Ev.bind htm (Ev.bind hi (Ev.bind hgg (Ev.ite_pos (by simp) ?_))))))))
  refine Ev.round (f := fun k => (laws_heldIntS.f k (upFrom 1 g.length) 1).bind fun t275 => (if t275 < 0 then (some false) else (if t275 = 1 + (g.length : Int) then (some true) else (some false)))) (fun k => ?_) ?_
  · simp only [laws_FnExactDoMoves.j2]
    rw [if_neg (by simp)]
  exact Ev.bind hhg (Ev.ite_neg (by omega) (Ev.ite_pos rfl (Ev.now _)))

end Go.Proofs.Ytccnpnlmihcmlaa.Pure
