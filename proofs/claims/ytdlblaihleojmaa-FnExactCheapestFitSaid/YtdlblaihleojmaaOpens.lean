/- Words of this session: how a law's argument, read as data, is told kind by kind. -/
import Derived.Test.YtdlblaihleojmaaWMore
import Derived.Below
import Derived.ProofKit
import Derived.Lib.SmallJoins
import Derived.ChangeOld
namespace Go.Proofs.YtdlblaihleojmaaW.PrintOpens
open Go.RowKit Go.Proofs.YtdlblaihleojmaaW.PrintWords Go.ChangeShapes Go.WideShapes Go.Joins Go.Deep
set_option linter.unusedVariables false

/-- What reads as data at type t is told by d, and is as wf says. -/
def Opens {α : Type} (P : Program) (t : TypeId) (d : Kd α) (wf : α → Prop) : Prop :=
  P.cellsOf t = d.sz ∧ ∀ {H : Type} (enc : TypeId × Value → H) (w : World) (sp : Nat → Bool) (hd : Bool) (fuel : Nat) (cs : List Value) (x : DataW H × List MemPlace), DataW.trod enc P w 0 sp hd fuel t cs = some x → ∃ a : α, d.K w a cs ∧ wf a

theorem opens_int {P : Program} {t : TypeId} {k : IntKind} (ht : P.underlying t = some (.int k)) (hc : P.cellsOf t = 1) : Opens P t (Kd.int k) (fun n => (Lit.int k n).wf = true) :=
  ⟨hc, fun _ _ _ _ _ _ _ h => by
    obtain ⟨n, e, _, hw⟩ := DataW.trod_int ht h
    exact ⟨n, e, hw⟩⟩
theorem opens_bool {P : Program} {t : TypeId} (ht : P.underlying t = some .bool) (hc : P.cellsOf t = 1) : Opens P t Kd.bool (fun _ => True) :=
  ⟨hc, fun _ _ _ _ _ _ _ h => by
    obtain ⟨n, e, _⟩ := DataW.trod_bool ht h
    exact ⟨n, e, trivial⟩⟩
theorem opens_string {P : Program} {t : TypeId} (ht : P.underlying t = some .string) (hc : P.cellsOf t = 1) : Opens P t Kd.string (fun s => s.size ≤ maxLen) :=
  ⟨hc, fun _ _ _ _ _ _ _ h => by
    obtain ⟨n, e, _, hw⟩ := DataW.trod_string ht h
    exact ⟨n, e, hw⟩⟩

theorem all_of {α β : Type} {R : α → β → Prop} : ∀ {n : Nat} {g : Nat → Option β}, (∀ i, i < n → ∃ b, g i = some b ∧ ∃ a, R a b) →
    ∃ xs : List α, xs.length = n ∧ ∀ i x, xs[i]? = some x → ∃ b, g i = some b ∧ R x b
  | 0, _, _ => ⟨[], rfl, fun i x h => by simp at h⟩
  | n + 1, g, h => by
    obtain ⟨xs, hl, hx⟩ := all_of (n := n) (g := g) (fun i hi => h i (by omega))
    obtain ⟨b, hb, a, ha⟩ := h n (by omega)
    refine ⟨xs ++ [a], by simp [hl], fun i x hi => ?_⟩
    by_cases e : i < n
    · rw [List.getElem?_append_left (by omega)] at hi
      exact hx i x hi
    · have : i < (xs ++ [a]).length := (List.getElem?_eq_some_iff.1 hi).1
      have e' : i = n := by simp [hl] at this; omega
      subst e'
      rw [List.getElem?_append_right (by omega), hl] at hi
      simp at hi
      subst hi
      exact ⟨b, hb, ha⟩

theorem opens_slice {α : Type} {P : Program} {t e : TypeId} {d : Kd α} {wf : α → Prop} (ht : P.underlying t = some (.slice e)) (hc : P.cellsOf t = 1) (ho : Opens P e d wf) :
    Opens P t (Kd.slice e d) (fun xs => xs.length ≤ maxLen ∧ ∀ x ∈ xs, wf x) :=
  ⟨hc, fun enc w sp hd fuel cs x h => by
    rcases DataW.trod_slice ht h with ⟨rfl, _⟩ | ⟨a, len, cap, elems, rest, n, _, rfl, _, _, hl, hm, hlen, hel, _, _⟩
    · exact ⟨[], ⟨none, 0, rfl, Nat.le_refl _, Kd.C_nil d w⟩, by simp, by simp⟩
    · obtain ⟨hs, ho⟩ := ho
      obtain ⟨xs, hxl, hxs⟩ := all_of (R := fun (a : α) cs' => d.K w a cs' ∧ wf a) (n := len) (g := fun i => w.cells? 0 (a.add (i * P.cellsOf e)) (P.cellsOf e)) (fun i hi => by
        have h1 := hel i hi
        rw [List.getElem?_eq_getElem (by omega)] at h1
        obtain ⟨cs', h2, h3⟩ := Option.bind_eq_some_iff.1 h1
        obtain ⟨x, hx⟩ := ho enc w sp hd n cs' _ h3
        exact ⟨cs', h2, x, hx⟩)
      refine ⟨xs, ⟨some a, cap, by rw [hxl], by omega, rfl, by rw [hxl]; unfold maxLen at hm; omega, fun _ => ⟨a, rfl, fun j p hj => ?_⟩⟩, by rw [hxl]; omega, fun x hx => ?_⟩
      · obtain ⟨b, hb, hK, _⟩ := hxs j p hj
        refine ⟨b, d.K_len hK, hK, fun i u hu => ?_⟩
        obtain ⟨_, hbl, hcell⟩ := World.cells?_some hb
        have hi : i < P.cellsOf e := by rw [← hbl]; exact (List.getElem?_eq_some_iff.1 hu).1
        have h4 := hcell i hi
        rw [Go.Deep.add_add, hs] at h4
        rw [h4, hu]
      · obtain ⟨i, hi⟩ := List.mem_iff_getElem?.1 hx
        obtain ⟨_, _, _, hw⟩ := hxs i x hi
        exact hw⟩

theorem opens_pair {α β γ : Type} {P : Program} {t : TypeId} {f0 f1 : Field} {d0 : Kd α} {d1 : Kd β} {w0 : α → Prop} {w1 : β → Prop} (mk : α → β → γ) (out : γ → α × β) (hmk : ∀ a b, out (mk a b) = (a, b))
    (ht : P.underlying t = some (.struct #[f0, f1])) (hc : P.cellsOf t = d0.sz + d1.sz) (ho0 : f0.offset = 0) (ho1 : f1.offset = d0.sz) (h0 : Opens P f0.type d0 w0) (h1 : Opens P f1.type d1 w1) :
    Opens P t (Kd.iso (Kd.pair d0 d1) out) (fun g => w0 (out g).1 ∧ w1 (out g).2) :=
  ⟨hc, fun enc w sp hd fuel cs x h => by
    obtain ⟨y0, y1, n, _, hl, k0, k1⟩ := trod_struct2 ht h
    rw [ho0, h0.1] at k0
    rw [ho1, h1.1] at k1
    obtain ⟨a, ha, wa⟩ := h0.2 enc w sp hd n _ _ k0
    obtain ⟨b, hb, wb⟩ := h1.2 enc w sp hd n _ _ k1
    refine ⟨mk a b, ?_, by show w0 (out (mk a b)).1 ∧ w1 (out (mk a b)).2; rw [hmk]; exact ⟨wa, wb⟩⟩
    show (Kd.pair d0 d1).K w (out (mk a b)) cs
    rw [hmk]
    refine ⟨_, _, ?_, ha, hb⟩
    rw [List.drop_zero, List.take_of_length_le (l := cs.drop d0.sz) (by rw [List.length_drop, hl, hc]; omega), List.take_append_drop]⟩

section
variable {H : Type} {enc : TypeId × Value → H} {P : Program} {w : World} {sp : Nat → Bool} {hd : Bool}
/-- A slice that came in. -/
theorem arg_slice {α : Type} {r : Reach} {b0 : Nat} {t e : TypeId} {d : Kd α} {wf' : List α → Prop} (ht : P.underlying t = some (.slice e)) (ho : Opens P t (Kd.slice e d) wf') {v : Value} {dd : DataW H} {p : List MemPlace}
    (hv : Value.okWide P w r b0 t v) (h : DataW.Trod enc P w 0 sp hd t v dd p) : ∃ (A : Option Addr) (c : Nat) (xs : List α), v = .slice A xs.length c ∧ d.C w A xs.length xs ∧ xs.length ≤ c ∧ wf' xs := by
  obtain ⟨a, len, cap, rfl⟩ := okWide_slice ht hv
  obtain ⟨fuel, hf⟩ := h
  obtain ⟨xs, ⟨A, c, e, hl, hC⟩, hw⟩ := ho.2 enc w sp hd fuel _ _ hf
  have e' : (.slice a len cap : Value) = .slice A xs.length c := by simpa [Value.cells] using e
  exact ⟨A, c, xs, e', hC, hl, hw⟩
/-- A cell that is a slice. -/
theorem cell_slice {α : Type} {t e : TypeId} {d : Kd α} {wf' : List α → Prop} (ho : Opens P t (Kd.slice e d) wf') {v : Value} {n : Nat} {y : DataW H × List MemPlace}
    (h : DataW.trod enc P w 0 sp hd n t [v] = some y) : ∃ (A : Option Addr) (c : Nat) (xs : List α), v = .slice A xs.length c ∧ d.C w A xs.length xs ∧ xs.length ≤ c ∧ wf' xs := by
  obtain ⟨xs, ⟨A, c, e, hl, hC⟩, hw⟩ := ho.2 enc w sp hd n _ _ h
  have e' : v = .slice A xs.length c := by simpa using e
  exact ⟨A, c, xs, e', hC, hl, hw⟩
theorem cell_int {t : TypeId} {k : IntKind} {wf : Int → Prop} (ho : Opens P t (Kd.int k) wf) {v : Value} {n : Nat} {y : DataW H × List MemPlace}
    (h : DataW.trod enc P w 0 sp hd n t [v] = some y) : ∃ a : Int, v = .int k a ∧ wf a := by
  obtain ⟨x, e, hw⟩ := ho.2 enc w sp hd n _ _ h
  have e' : [v] = [Value.int k x] := e
  exact ⟨x, by simpa using e', hw⟩
theorem cell_string {t : TypeId} {wf : ByteArray → Prop} (ho : Opens P t Kd.string wf) {v : Value} {n : Nat} {y : DataW H × List MemPlace}
    (h : DataW.trod enc P w 0 sp hd n t [v] = some y) : ∃ a : ByteArray, v = .string a ∧ wf a := by
  obtain ⟨x, e, hw⟩ := ho.2 enc w sp hd n _ _ h
  have e' : [v] = [Value.string x] := e
  exact ⟨x, by simpa using e', hw⟩
theorem array5 {α : Type} {cs : Array α} (h : cs.size = 5) : ∃ c0 c1 c2 c3 c4, cs = #[c0, c1, c2, c3, c4] := by
  obtain ⟨l⟩ := cs
  match l, h with
  | [c0, c1, c2, c3, c4], _ => exact ⟨c0, c1, c2, c3, c4, rfl⟩
theorem trod_struct5 {t : TypeId} {f0 f1 f2 f3 f4 : Field} {fuel : Nat} {cs : List Value} {x : DataW H × List MemPlace} (ht : P.underlying t = some (.struct #[f0, f1, f2, f3, f4])) (h : DataW.trod enc P w 0 sp hd fuel t cs = some x) :
    ∃ y0 y1 y2 y3 y4 n, DataW.trod enc P w 0 sp hd n f0.type ((cs.drop f0.offset).take (P.cellsOf f0.type)) = some y0 ∧
      DataW.trod enc P w 0 sp hd n f1.type ((cs.drop f1.offset).take (P.cellsOf f1.type)) = some y1 ∧ DataW.trod enc P w 0 sp hd n f2.type ((cs.drop f2.offset).take (P.cellsOf f2.type)) = some y2 ∧
      DataW.trod enc P w 0 sp hd n f3.type ((cs.drop f3.offset).take (P.cellsOf f3.type)) = some y3 ∧ DataW.trod enc P w 0 sp hd n f4.type ((cs.drop f4.offset).take (P.cellsOf f4.type)) = some y4 := by
  obtain ⟨xs, n, _, rfl, hl, hlen, hf⟩ := DataW.trod_struct ht h
  match xs, hlen with
  | [y0, y1, y2, y3, y4], _ => exact ⟨y0, y1, y2, y3, y4, n, by simpa using hf 0 f0 rfl, by simpa using hf 1 f1 rfl, by simpa using hf 2 f2 rfl, by simpa using hf 3 f3 rfl, by simpa using hf 4 f4 rfl⟩
theorem open_agg5 {r : Reach} {b0 : Nat} {t : TypeId} {f0 f1 f2 f3 f4 : Field} {v : Value} {d : DataW H} {p : List MemPlace} (hs : P.underlying t = some (.struct #[f0, f1, f2, f3, f4])) (hone : oneCellFields P #[f0, f1, f2, f3, f4] = true) (hC : P.cellsOf t = 5)
    (hv : Value.okWide P w r b0 t v) (h : DataW.Trod enc P w 0 sp hd t v d p) :
    ∃ (v0 v1 v2 v3 v4 : Value) (y0 y1 y2 y3 y4 : DataW H × List MemPlace) (n : Nat), v = .agg #[v0, v1, v2, v3, v4] ∧
      DataW.trod enc P w 0 sp hd n f0.type [v0] = some y0 ∧ DataW.trod enc P w 0 sp hd n f1.type [v1] = some y1 ∧ DataW.trod enc P w 0 sp hd n f2.type [v2] = some y2 ∧ DataW.trod enc P w 0 sp hd n f3.type [v3] = some y3 ∧ DataW.trod enc P w 0 sp hd n f4.type [v4] = some y4 := by
  obtain ⟨cs, rfl, hsz⟩ := okWide_struct hs hv
  obtain ⟨c0, c1, c2, c3, c4, rfl⟩ := array5 (hsz.trans hC)
  obtain ⟨fuel, hf⟩ := h
  obtain ⟨y0, y1, y2, y3, y4, n, h0, h1, h2, h3, h4⟩ := trod_struct5 hs hf
  obtain ⟨o0, k0⟩ := hone_of hone 0 f0 rfl
  obtain ⟨o1, k1⟩ := hone_of hone 1 f1 rfl
  obtain ⟨o2, k2⟩ := hone_of hone 2 f2 rfl
  obtain ⟨o3, k3⟩ := hone_of hone 3 f3 rfl
  obtain ⟨o4, k4⟩ := hone_of hone 4 f4 rfl
  exact ⟨c0, c1, c2, c3, c4, y0, y1, y2, y3, y4, n, rfl, by simpa [Value.cells, o0, k0] using h0, by simpa [Value.cells, o1, k1] using h1, by simpa [Value.cells, o2, k2] using h2, by simpa [Value.cells, o3, k3] using h3, by simpa [Value.cells, o4, k4] using h4⟩
end
end Go.Proofs.YtdlblaihleojmaaW.PrintOpens
