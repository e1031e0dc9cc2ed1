/- FnExactGoodSheet: at every sheet the program's GoodSheet answers as the reference's, and leaves its argument as it was. -/
import Derived.Test.YtabpgjejedjliaaDoorGLGoodSheet6
import Derived.Test.YtabpgjejedjliaaDoorComGoodSheet
namespace Go.Proofs.YtabpgjejedjliaaDoor.Pure
open Go.RowKit Go.Proofs.YtabpgjejedjliaaDoor.GLGoodSheet Go.Proofs.YtabpgjejedjliaaDoorW.PrintWords Go.Proofs.YtabpgjejedjliaaDoorW.PrintLast Go.Proofs.YtabpgjejedjliaaDoorW.PrintMore Go.Proofs.YtabpgjejedjliaaDoorW.PrintOwn
set_option linter.unusedVariables false
set_option linter.unusedSimpArgs false
theorem FnExactGoodSheet : laws_FnExactGoodSheet.Pure := by
  intro G L ⟨hG, hGw⟩ ⟨hL, _⟩
  have hx : ∀ g ∈ G, g.f0.size ≤ 9223372036854775807 := fun g hg => by have := (hGw g hg).1; unfold maxLen at this; omega
  unfold maxLen at hG hL
  apply Ev.rounds
  unfold laws_FnExactGoodSheet.f
  obtain ⟨t, ht, hh⟩ := ev_szSheet G L (by omega) (by omega) hx
  refine Ev.bind ht ?_
  by_cases c : t < 0
  · exact Ev.ite_pos c (Ev.now _)
  refine Ev.ite_neg c ?_
  obtain ⟨h1, h2, h3⟩ := hh c
  have hto := ev_toSheet G L h1 h2
  have hsz : ∀ g ∈ G.map goodOf, g.f0.size ≤ 4611686018427387904 := fun g hg => by
    obtain ⟨y, hy, rfl⟩ := List.mem_map.1 hg
    have := h3 y hy
    show y.f0.size ≤ _
    omega
  have hs := ev_GoodSheet (G.map goodOf) (by simpa using h1) hsz (L.map lineOf) (by simpa using h2)
  have hi := ev_implGoodSheet (G.map goodOf) (by simpa using h1) (L.map lineOf) (by simpa using h2)
  have he := ev_eqSheet (G.map goodOf) (L.map lineOf) (by simpa using h1) (by simpa using h2)
  exact Ev.bind hto (Ev.bind hs (Ev.bind hto (Ev.bind hi (Ev.ite_neg (by simp) (Ev.bind hto (Ev.bind he (Ev.ite_pos rfl (Ev.now _))))))))

end Go.Proofs.YtabpgjejedjliaaDoor.Pure
