/- FnExactJoinSheets: at every two sheets the program's JoinSheets answers as the reference's, leaves its arguments as they were, and its answer is memory of its own. -/
import Derived.Test.YtabpgjejedjliaaDoorGLJoinSheets11
import Derived.Test.YtabpgjejedjliaaDoorComJoinSheets
namespace Go.Proofs.YtabpgjejedjliaaDoor.Pure
open Go.RowKit Go.Proofs.YtabpgjejedjliaaDoor.GLJoinSheets Go.Proofs.YtabpgjejedjliaaDoorW.PrintWords Go.Proofs.YtabpgjejedjliaaDoorW.PrintLast Go.Proofs.YtabpgjejedjliaaDoorW.PrintMore Go.Proofs.YtabpgjejedjliaaDoorW.PrintOwn
set_option linter.unusedVariables false
set_option linter.unusedSimpArgs false
theorem FnExactJoinSheets : laws_FnExactJoinSheets.Pure := by
  intro G L G2 L2 ⟨hG, hGw⟩ ⟨hL, _⟩ ⟨hG2, hGw2⟩ ⟨hL2, _⟩
  have hx : ∀ g ∈ G, g.f0.size ≤ 9223372036854775807 := fun g hg => by have := (hGw g hg).1; unfold maxLen at this; omega
  have hx2 : ∀ g ∈ G2, g.f0.size ≤ 9223372036854775807 := fun g hg => by have := (hGw2 g hg).1; unfold maxLen at this; omega
  unfold maxLen at hG hL hG2 hL2
  apply Ev.rounds
  unfold laws_FnExactJoinSheets.f
  obtain ⟨t, ht0, ht, hh⟩ := ev_szSheet2 G L 1048576 (by omega) (by omega) (by omega) (by omega) hx
  refine Ev.bind ht ?_
  by_cases c : t < 0
  · exact Ev.ite_pos c (Ev.now _)
  refine Ev.ite_neg c ?_
  obtain ⟨h1, h2, h3⟩ := hh c
  obtain ⟨t2, ht20, ht2, hh2⟩ := ev_szSheet2 G2 L2 t (by omega) ht0 (by omega) (by omega) hx2
  refine Ev.bind ht2 ?_
  by_cases c2 : t2 < 0
  · exact Ev.ite_pos c2 (Ev.now _)
  refine Ev.ite_neg c2 ?_
  obtain ⟨h4, h5, h6⟩ := hh2 c2
  have hto := ev_toSheet G L h1 h2
  have hto2 := ev_toSheet G2 L2 h4 h5
  have hG1 : (G.map goodOf).length ≤ 1048576 := by simpa using h1
  have hL1 : (L.map lineOf).length ≤ 1048576 := by simpa using h2
  have hG3 : (G2.map goodOf).length ≤ 1048576 := by simpa using h4
  have hL3 : (L2.map lineOf).length ≤ 1048576 := by simpa using h5
  have hsz : ∀ g ∈ G.map goodOf, g.f0.size ≤ 4611686018427387904 := fun g hg => by
    obtain ⟨y, hy, rfl⟩ := List.mem_map.1 hg
    have := h3 y hy
    show y.f0.size ≤ _
    omega
  have hsz2 : ∀ g ∈ G2.map goodOf, g.f0.size ≤ 4611686018427387904 := fun g hg => by
    obtain ⟨y, hy, rfl⟩ := List.mem_map.1 hg
    have := h6 y hy
    show y.f0.size ≤ _
    omega
  generalize G.map goodOf = A at hto hG1 hsz
  generalize L.map lineOf = B at hto hL1
  generalize G2.map goodOf = A2 at hto2 hG3 hsz2
  generalize L2.map lineOf = B2 at hto2 hL3
  obtain ⟨a, b, r, ha, hb, hs, hi⟩ := same_Join A B A2 B2 hG1 hL1 hsz hG3 hL3 hsz2
  have m1 := ev_markSheet A B 1 (by omega) (by omega) hG1 hL1
  have m2 := ev_markSheet A2 B2 (1 + 2 * A.length + 2 * B.length) (by omega) (by omega) hG3 hL3
  have m3 := ev_markSheet a b 1 (by omega) (by omega) ha hb
  have m4 := ev_heldSheet a.length b.length 1 (by omega) (by omega) ha hb
  refine Ev.bind hto ?_
  refine Ev.bind hto2 ?_
  refine Ev.bind hs ?_
  refine Ev.need hi (Ev.need (ev_eqSheet a b ha hb) (Ev.need (ev_eqSheet A B hG1 hL1) (Ev.need (ev_eqSheet A2 B2 hG3 hL3) ?_)))
  refine Ev.bind m1 ?_
  refine Ev.bind m2 ?_
  refine Ev.ite_pos (by omega) ?_
  refine Ev.bind m3 ?_
  exact Ev.need m4 (Ev.ite_pos (by omega) (Ev.now _))

end Go.Proofs.YtabpgjejedjliaaDoor.Pure
