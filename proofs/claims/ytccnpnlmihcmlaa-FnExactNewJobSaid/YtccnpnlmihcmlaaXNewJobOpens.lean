-- The print's words that FnExactNewJob needs (prunewords.py). Not trusted: Lean checks it.
import Derived.Test.YtccnpnlmihcmlaaXNewJobMore
import Derived.Below
import Derived.ProofKit
import Derived.Lib.SmallJoins
import Derived.ChangeOld
namespace Go.Proofs.YtccnpnlmihcmlaaW.PrintOpens
open Go.RowKit Go.Proofs.YtccnpnlmihcmlaaW.PrintWords Go.ChangeShapes Go.WideShapes Go.Joins Go.Deep
set_option linter.unusedVariables false
def Opens {α : Type} (P : Program) (t : TypeId) (d : Kd α) (wf : α → Prop) : Prop :=
  P.cellsOf t = d.sz ∧ ∀ {H : Type} (enc : TypeId × Value → H) (w : World) (sp : Nat → Bool) (hd : Bool) (fuel : Nat) (cs : List Value) (x : DataW H × List MemPlace), DataW.trod enc P w 0 sp hd fuel t cs = some x → ∃ a : α, d.K w a cs ∧ wf a
theorem opens_int {P : Program} {t : TypeId} {k : IntKind} (ht : P.underlying t = some (.int k)) (hc : P.cellsOf t = 1) : Opens P t (Kd.int k) (fun n => (Lit.int k n).wf = true) :=
  ⟨hc, fun _ _ _ _ _ _ _ h => by
    obtain ⟨n, e, _, hw⟩ := DataW.trod_int ht h
    exact ⟨n, e, hw⟩⟩
theorem all_of {α β : Type} {R : α → β → Prop} : ∀ {n : Nat} {g : Nat → Option β}, (∀ i, i < n → ∃ b, g i = some b ∧ ∃ a, R a b) →
    ∃ xs : List α, xs.length = n ∧ ∀ i x, xs[i]? = some x → ∃ b, g i = some b ∧ R x b
  | 0, _, _ => ⟨[], rfl, fun i x h => by simp at h⟩
  | n + 1, g, h => by
    obtain ⟨xs, hl, hx⟩ := all_of (n := n) (g := g) (fun i hi => h i (by omega))
    obtain ⟨b, hb, a, ha⟩ := h n (by omega)
    refine ⟨xs ++ [a], by simp [hl], fun i x hi => ?_⟩
    by_cases e : i < n
    · rw [List.getElem?_append_left (by omega)] at hi
      exact hx i x hi
    · have : i < (xs ++ [a]).length := (List.getElem?_eq_some_iff.1 hi).1
      have e' : i = n := by simp [hl] at this; omega
      subst e'
      rw [List.getElem?_append_right (by omega), hl] at hi
      simp at hi
      subst hi
      exact ⟨b, hb, ha⟩
theorem opens_slice {α : Type} {P : Program} {t e : TypeId} {d : Kd α} {wf : α → Prop} (ht : P.underlying t = some (.slice e)) (hc : P.cellsOf t = 1) (ho : Opens P e d wf) :
    Opens P t (Kd.slice e d) (fun xs => xs.length ≤ maxLen ∧ ∀ x ∈ xs, wf x) :=
  ⟨hc, fun enc w sp hd fuel cs x h => by
    rcases DataW.trod_slice ht h with ⟨rfl, _⟩ | ⟨a, len, cap, elems, rest, n, _, rfl, _, _, hl, hm, hlen, hel, _, _⟩
    · exact ⟨[], ⟨none, 0, rfl, Nat.le_refl _, Kd.C_nil d w⟩, by simp, by simp⟩
    · obtain ⟨hs, ho⟩ := ho
      obtain ⟨xs, hxl, hxs⟩ := all_of (R := fun (a : α) cs' => d.K w a cs' ∧ wf a) (n := len) (g := fun i => w.cells? 0 (a.add (i * P.cellsOf e)) (P.cellsOf e)) (fun i hi => by
        have h1 := hel i hi
        rw [List.getElem?_eq_getElem (by omega)] at h1
        obtain ⟨cs', h2, h3⟩ := Option.bind_eq_some_iff.1 h1
        obtain ⟨x, hx⟩ := ho enc w sp hd n cs' _ h3
        exact ⟨cs', h2, x, hx⟩)
      refine ⟨xs, ⟨some a, cap, by rw [hxl], by omega, rfl, by rw [hxl]; unfold maxLen at hm; omega, fun _ => ⟨a, rfl, fun j p hj => ?_⟩⟩, by rw [hxl]; omega, fun x hx => ?_⟩
      · obtain ⟨b, hb, hK, _⟩ := hxs j p hj
        refine ⟨b, d.K_len hK, hK, fun i u hu => ?_⟩
        obtain ⟨_, hbl, hcell⟩ := World.cells?_some hb
        have hi : i < P.cellsOf e := by rw [← hbl]; exact (List.getElem?_eq_some_iff.1 hu).1
        have h4 := hcell i hi
        rw [Go.Deep.add_add, hs] at h4
        rw [h4, hu]
      · obtain ⟨i, hi⟩ := List.mem_iff_getElem?.1 hx
        obtain ⟨_, _, _, hw⟩ := hxs i x hi
        exact hw⟩
section
variable {H : Type} {enc : TypeId × Value → H} {P : Program} {w : World} {sp : Nat → Bool} {hd : Bool}
theorem arg_slice {α : Type} {r : Reach} {b0 : Nat} {t e : TypeId} {d : Kd α} {wf' : List α → Prop} (ht : P.underlying t = some (.slice e)) (ho : Opens P t (Kd.slice e d) wf') {v : Value} {dd : DataW H} {p : List MemPlace}
    (hv : Value.okWide P w r b0 t v) (h : DataW.Trod enc P w 0 sp hd t v dd p) : ∃ (A : Option Addr) (c : Nat) (xs : List α), v = .slice A xs.length c ∧ d.C w A xs.length xs ∧ xs.length ≤ c ∧ wf' xs := by
  obtain ⟨a, len, cap, rfl⟩ := okWide_slice ht hv
  obtain ⟨fuel, hf⟩ := h
  obtain ⟨xs, ⟨A, c, e, hl, hC⟩, hw⟩ := ho.2 enc w sp hd fuel _ _ hf
  have e' : (.slice a len cap : Value) = .slice A xs.length c := by simpa [Value.cells] using e
  exact ⟨A, c, xs, e', hC, hl, hw⟩
end
end Go.Proofs.YtccnpnlmihcmlaaW.PrintOpens
