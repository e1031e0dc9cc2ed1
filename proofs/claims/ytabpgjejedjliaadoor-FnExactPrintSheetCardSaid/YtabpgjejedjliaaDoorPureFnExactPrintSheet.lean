/- FnExactPrintSheet: at every sheet the program's PrintSheet answers as the reference's, and leaves its argument as it was. -/
import Derived.Test.YtabpgjejedjliaaDoorGLPrintSheet9
import Derived.Test.YtabpgjejedjliaaDoorComPrintSheet
namespace Go.Proofs.YtabpgjejedjliaaDoor.Pure
open Go.RowKit Go.Proofs.YtabpgjejedjliaaDoor.GLPrintSheet Go.Proofs.YtabpgjejedjliaaDoorW.PrintWords Go.Proofs.YtabpgjejedjliaaDoorW.PrintLast Go.Proofs.YtabpgjejedjliaaDoorW.PrintMore Go.Proofs.YtabpgjejedjliaaDoorW.PrintOwn
set_option linter.unusedVariables false
set_option linter.unusedSimpArgs false
theorem FnExactPrintSheet : laws_FnExactPrintSheet.Pure := by
  intro G L ⟨hG, hGw⟩ ⟨hL, _⟩
  have hx : ∀ g ∈ G, g.f0.size ≤ 9223372036854775807 := fun g hg => by have := (hGw g hg).1; unfold maxLen at this; omega
  unfold maxLen at hG hL
  apply Ev.rounds
  unfold laws_FnExactPrintSheet.f
  obtain ⟨t, ht, hh⟩ := ev_szSheet G L (by omega) (by omega) hx
  refine Ev.bind ht ?_
  by_cases c : t < 0
  · exact Ev.ite_pos c (Ev.now _)
  refine Ev.ite_neg c ?_
  obtain ⟨h1, h2, h3⟩ := hh c
  have hto := ev_toSheet G L h1 h2
  have hG1 : (G.map goodOf).length ≤ 1048576 := by simpa using h1
  have hL1 : (L.map lineOf).length ≤ 1048576 := by simpa using h2
  have hsz : ∀ g ∈ G.map goodOf, g.f0.size ≤ 4611686018427387904 := fun g hg => by
    obtain ⟨y, hy, rfl⟩ := List.mem_map.1 hg
    have := h3 y hy
    show y.f0.size ≤ _
    omega
  obtain ⟨s, b, hs, hi⟩ := same_Print (G.map goodOf) hG1 hsz (L.map lineOf) hL1
  have he := ev_eqSheet (G.map goodOf) (L.map lineOf) hG1 hL1
  refine Ev.bind hto (Ev.bind hs (Ev.bind hto (Ev.bind hi (Ev.ite_pos rfl ?_))))
  simp only [show (b != b) = false by simp]
  refine Ev.round (fun k => by simp only [laws_FnExactPrintSheet.j0]; rw [if_neg (by decide)]) ?_
  exact Ev.bind hto (Ev.bind he (Ev.ite_pos rfl (Ev.now _)))

end Go.Proofs.YtabpgjejedjliaaDoor.Pure
