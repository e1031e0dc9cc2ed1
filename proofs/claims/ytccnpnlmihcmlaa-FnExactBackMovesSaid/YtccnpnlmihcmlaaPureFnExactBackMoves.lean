/- FnExactBackMoves: at all lists of moves the program's BackMoves answers as the reference's, leaves its argument as it was, and its answer is memory of its own. -/
import Derived.Test.YtccnpnlmihcmlaaGLBackMoves0
import Derived.Test.YtccnpnlmihcmlaaGLBackMoves1
import Derived.Test.YtccnpnlmihcmlaaGLBackMoves3
import Derived.Test.YtccnpnlmihcmlaaComBackMoves
namespace Go.Proofs.Ytccnpnlmihcmlaa.Pure
open Go.RowKit Go.Proofs.Ytccnpnlmihcmlaa.GLBackMoves Go.Proofs.YtccnpnlmihcmlaaW.PrintWords Go.Proofs.YtccnpnlmihcmlaaW.PrintLast Go.Proofs.YtccnpnlmihcmlaaW.PrintMore Go.Proofs.YtccnpnlmihcmlaaW.PrintOwn
set_option linter.unusedVariables false
set_option linter.unusedSimpArgs false
theorem ev_specBack_l (ms : List S39) (hn : ms.length ≤ 1048576) : ∀ (m : Nat) (b : List S39), m ≤ ms.length → b.length + m ≤ 1048576 → Ev (fun k => spec_BackMoves.l0 k ms b ((m : Int) - 1)) (if (ms.take m).all impl_BackMoves.ok = true then (if ms.length ≤ 20 then (b ++ (ms.take m).reverse.map fun x => (⟨x.f1, x.f0⟩ : S39), true) else ([], false)) else ([], false))
  | 0, b, hm, hb => by
    refine Ev.round (fun k => by simp only [spec_BackMoves.l0]; rw [if_neg (show ¬ ((0 : Nat) : Int) - 1 ≥ 0 by omega)]) ?_
    rw [List.take_zero, List.all_nil, if_pos rfl]
    by_cases h : ms.length ≤ 20
    · rw [if_pos h]
      exact Ev.ite_neg (by omega) (Ev.cast (Ev.now _) (by simp))
    · rw [if_neg h]
      exact Ev.ite_pos (by omega) (Ev.now _)
  | m + 1, b, hm, hb => by
    have hw : wrap64 (((m + 1 : Nat) : Int) - 1 - 1) = (m : Int) - 1 := by unfold wrap64; omega
    have hx : rd_T39 ms (m : Int) = ms[m] := by
      unfold rd_T39
      rw [Int.toNat_natCast, List.getD_eq_getElem?_getD, List.getElem?_eq_getElem (by omega)]
      rfl
    have ih := ev_specBack_l ms hn m (b ++ [⟨(rd_T39 ms (m : Int)).f1, (rd_T39 ms (m : Int)).f0⟩]) (by omega) (by simp; omega)
    rw [List.take_succ_eq_append_getElem (by omega), List.all_append, List.reverse_append, List.reverse_singleton, List.map_append, List.all_cons, List.all_nil, Bool.and_true, ← hx]
    refine Ev.round (fun k => by simp only [spec_BackMoves.l0]; rw [if_pos (show ((m + 1 : Nat) : Int) - 1 ≥ 0 by omega), hw]) ?_
    rw [show ((m + 1 : Nat) : Int) - 1 = (m : Int) by omega]
    refine Ev.ite_pos (by omega) (Ev.ite_pos (by omega) (Ev.bindc (in_eq _ _ _) ?_))
    generalize hv : rd_T39 ms (m : Int) = v at ih ⊢
    have hok : impl_BackMoves.ok v = ((decide (0 ≤ v.f0) && decide (v.f0 ≤ 8)) && (decide (0 ≤ v.f1) && decide (v.f1 ≤ 8))) := rfl
    rw [hok]
    cases c1 : (decide (0 ≤ v.f0) && decide (v.f0 ≤ 8)) with
    | false => exact Ev.ite_neg (by decide) (Ev.cast (Ev.now _) (by rw [Bool.false_and, Bool.and_false, if_neg (by decide)]))
    | true =>
      refine Ev.ite_pos rfl (Ev.bindc (in_eq _ _ _) ?_)
      cases c2 : (decide (0 ≤ v.f1) && decide (v.f1 ≤ 8)) with
      | false => exact Ev.ite_neg (by decide) (Ev.cast (Ev.now _) (by rw [Bool.and_false, Bool.and_false, if_neg (by decide)]))
      | true =>
        refine Ev.ite_pos rfl (Ev.ite_pos (by omega) (Ev.cast ih ?_))
        rw [Bool.and_true, Bool.and_true]
        simp only [List.map_cons, List.map_nil, List.append_assoc]
theorem ev_specBack (ms : List S39) (hn : ms.length ≤ 1048576) : ∃ r : List S39 × Bool, r.1.length ≤ 1048576 ∧ Ev (fun k => spec_BackMoves.f k ms) r ∧ impl_BackMoves.f ms = some r := by
  have h := ev_specBack_l ms hn ms.length [] (Nat.le_refl _) (by simpa using hn)
  rw [List.take_length, List.nil_append] at h
  have hs : Ev (fun k => spec_BackMoves.f k ms) (if ms.all impl_BackMoves.ok = true then (if ms.length ≤ 20 then (ms.reverse.map fun x => (⟨x.f1, x.f0⟩ : S39), true) else ([], false)) else ([], false)) := by
    unfold spec_BackMoves.f
    rw [show wrap64 ((ms.length : Int) - 1) = (ms.length : Int) - 1 by unfold wrap64; omega]
    exact h
  unfold impl_BackMoves.f
  by_cases h1 : ms.length ≤ 20
  · by_cases h2 : ms.all impl_BackMoves.ok = true
    · rw [if_pos h2, if_pos h1] at hs
      rw [if_pos ⟨h1, h2⟩]
      exact ⟨_, by simpa using hn, hs, rfl⟩
    · rw [if_neg h2] at hs
      rw [if_neg (fun h => h2 h.2)]
      exact ⟨_, by simp, hs, rfl⟩
  · rw [if_neg (fun h => h1 h.1)]
    refine ⟨([], false), by simp, ?_, rfl⟩
    refine Ev.cast hs ?_
    rw [if_neg h1]
    split <;> rfl
theorem FnExactBackMoves : laws_FnExactBackMoves.Pure := by
  intro l ⟨hm, _⟩
  unfold maxLen at hm
  apply Ev.rounds
  unfold laws_FnExactBackMoves.f
  have hw : wrap64 (1048576 - (l.length : Int)) = 1048576 - (l.length : Int) := by unfold wrap64; omega
  unfold laws_szMoveS.f
  rw [hw]
  by_cases h : 1048576 - (l.length : Int) < 0
  · rw [if_pos h]
    exact Ev.bindc rfl (Ev.ite_pos (by decide) (Ev.now _))
  rw [if_neg h]
  refine Ev.bindc rfl (Ev.ite_neg h ?_)
  have ht := ev_toMoveS l (by omega)
  have hl : (l.map toM).length ≤ 1048576 := by simp; omega
  generalize l.map toM = L at ht hl
  obtain ⟨⟨g, v⟩, hgl, hs, hi⟩ := ev_specBack L hl
  replace hgl : g.length ≤ 1048576 := hgl
  have hll := ev_eqMoveS L (by omega)
  have hgg := ev_eqMoveS g (by omega)
  have hml := ev_markMoveT L 1 (by omega) (by omega)
  have hmg := ev_markMoveT g 1 (by omega) (by omega)
  have hhg := ev_heldMoveT 1 g.length (by omega) (by omega)
  refine Ev.bind ht (Ev.bind hs (Ev.bind ht (Ev.bindc hi (Ev.bind hgg (Ev.ite_pos rfl ?_)))))
  refine Ev.round (fun k => by simp only [laws_FnExactBackMoves.j0]; rw [if_neg (by simp)]) ?_
  refine Ev.bind ht (Ev.bind hll (Ev.ite_pos rfl (Ev.bind hml (Ev.ite_neg (by simp; omega) (Ev.bind hgg (Ev.ite_pos rfl ?_))))))
  refine Ev.round (fun k => by simp only [laws_FnExactBackMoves.j1]; rw [if_neg (by simp)]) ?_
  refine Ev.bind hmg (Ev.bind hhg (Ev.ite_neg (by omega) (Ev.ite_pos rfl (Ev.bind ht (Ev.bindc hi (Ev.bind hgg (Ev.ite_pos rfl ?_)))))))
  refine Ev.round (fun k => by simp only [laws_FnExactBackMoves.j2]; rw [if_neg (by simp)]) ?_
  exact Ev.bind hhg (Ev.ite_neg (by omega) (Ev.ite_pos rfl (Ev.now _)))

end Go.Proofs.Ytccnpnlmihcmlaa.Pure
