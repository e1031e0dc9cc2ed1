/- FnExactSheetProfile: at every sheet the program's SheetProfile answers as the reference's, its answer owns its memory, and its argument stays as it was. -/
import Derived.Test.YtabpgjejedjliaaDoorGLSheetProfile9
import Derived.Test.YtabpgjejedjliaaDoorComSheetProfile
namespace Go.Proofs.YtabpgjejedjliaaDoor.Pure
open Go.RowKit Go.Proofs.YtabpgjejedjliaaDoor.GLSheetProfile Go.Proofs.YtabpgjejedjliaaDoorW.PrintWords Go.Proofs.YtabpgjejedjliaaDoorW.PrintLast Go.Proofs.YtabpgjejedjliaaDoorW.PrintMore Go.Proofs.YtabpgjejedjliaaDoorW.PrintOwn
set_option linter.unusedVariables false
set_option linter.unusedSimpArgs false
theorem FnExactSheetProfile : laws_FnExactSheetProfile.Pure := by
  intro G L ⟨hG, hGw⟩ ⟨hL, _⟩
  have hx : ∀ g ∈ G, g.f0.size ≤ 9223372036854775807 := fun g hg => by have := (hGw g hg).1; unfold maxLen at this; omega
  unfold maxLen at hG hL
  apply Ev.rounds
  unfold laws_FnExactSheetProfile.f
  obtain ⟨t, ht, hh⟩ := ev_szSheet G L (by omega) (by omega) hx
  refine Ev.bind ht ?_
  by_cases c : t < 0
  · exact Ev.ite_pos c (Ev.now _)
  refine Ev.ite_neg c ?_
  obtain ⟨h1, h2, h3⟩ := hh c
  have hto := ev_toSheet G L h1 h2
  have hG1 : (G.map goodOf).length ≤ 1048576 := by simpa using h1
  have hL1 : (L.map lineOf).length ≤ 1048576 := by simpa using h2
  have hsz : ∀ g ∈ G.map goodOf, g.f0.size ≤ 4611686018427387904 := fun g hg => by
    obtain ⟨y, hy, rfl⟩ := List.mem_map.1 hg
    have := h3 y hy
    show y.f0.size ≤ _
    omega
  have hs := ev_specSheetProfile (G.map goodOf) hG1 hsz (L.map lineOf) hL1
  have hi := ev_implSheetProfile (G.map goodOf) hG1 (L.map lineOf) hL1
  have he := ev_eqSheet (G.map goodOf) (L.map lineOf) hG1 hL1
  obtain ⟨l1, l2⟩ := profB_len (G.map goodOf) (L.map lineOf)
  obtain ⟨m1, m2, _, _, hm⟩ := ev_markSheet (G.map goodOf) (L.map lineOf) 1 (by omega) (by omega) hG1 hL1
  generalize profB (G.map goodOf) (L.map lineOf) = r at hs hi l1 l2
  obtain ⟨p, q, b⟩ := r
  have hpq := ev_eqProfile p q (by simp only at l1; omega) (by simp only at l2; omega)
  have hmp := ev_markProfile p q (by simp only at l1; omega) (by simp only at l2; omega)
  have hhp := ev_heldProfile p.length q.length (by simp only at l1; omega) (by simp only at l2; omega)
  have hb : (b != b) = false := by simp
  have j2 : Ev (fun k => laws_FnExactSheetProfile.j2 k (1 + (p.length : Int) + q.length) false (upFrom 1 p.length) (upFrom (1 + p.length) q.length)) true := by
    refine Ev.round (fun k => by simp only [laws_FnExactSheetProfile.j2]; rw [if_neg (by decide)]) ?_
    exact Ev.bind hhp (Ev.ite_neg (by omega) (Ev.ite_pos rfl (Ev.now _)))
  have j1 : Ev (fun k => laws_FnExactSheetProfile.j1 k b false G L p q p q) true := by
    refine Ev.round (fun k => by simp only [laws_FnExactSheetProfile.j1]; rw [if_neg (by decide)]) ?_
    refine Ev.bind hmp (Ev.bind hhp (Ev.ite_neg (by omega) (Ev.ite_pos rfl (Ev.bind hto (Ev.bind hi (Ev.bind hpq (Ev.ite_pos rfl ?_)))))))
    simp only [hb]
    exact j2
  refine Ev.bind hto (Ev.bind hs (Ev.bind hto (Ev.bind hi (Ev.bind hpq (Ev.ite_pos rfl ?_)))))
  simp only [hb]
  refine Ev.round (fun k => by simp only [laws_FnExactSheetProfile.j0]; rw [if_neg (by decide)]) ?_
  refine Ev.bind hto (Ev.bind he (Ev.ite_pos rfl (Ev.bind hm (Ev.ite_neg (by omega) (Ev.bind hpq (Ev.ite_pos rfl ?_))))))
  simp only [hb]
  exact j1

end Go.Proofs.YtabpgjejedjliaaDoor.Pure
