/- Words of this session: slices.Sorted over an iterator that reads memory (slices.Values): the kit's worked proofs of slices.AppendSeq, Collect, Sorted, turned: the iterator is told, too, that what lay before the call lies still. -/
import Derived.Test.YtdlblaihleojmaaWMore
import Derived.Shelf.SlIterI.Sorted
import Derived.Shelf.SortM.Plain
import Derived.Shelf.SortM.SortNone
import Derived.RangeFuncLeaves
import Derived.RangeFuncBox
import Derived.RangeFuncNested
import Derived.RangeFuncCalls
import Derived.Maps.AppendAt
import Derived.LoopNIn
import Derived.LoopIn
import Derived.Deep.AppendSrc
import Derived.WalkKit
import Derived.OwnWalkIn
import Derived.TacticsInMore
namespace Go.Proofs.YtdlblaihleojmaaW.PrintOwn
open Go Go.RowKit Go.Maps Go.Sort Go.Shelf Go.Proofs Go.Proofs.YtdlblaihleojmaaW.PrintWords
set_option linter.unusedVariables false
variable {P : Program} {ρ : Ren}
/-- As SeqGives; the caller's invariant says, too, that what lay in w lies still. -/
def SeqGivesB {α : Type} (F : Fence) (n : Nat) (P : Program) (g : Nat) (lb : Array Value) (enc : α → Value) (S : List α → Prop) (N : Nat) (w : World) : Prop :=
  ∀ (l : Nat) (J : List α → World → Prop) (W : World), Below w.heap.size w W → AbidesFrom W.heap.size J → (∀ pre W1, J pre W1 → Below w.heap.size w W1) →
    (∀ pre x W1, J pre W1 → pre.length < N → YieldAt F (n - 1) P l #[enc x] W1 fun e W' => e = .returned (.bool true) ∧ J (pre ++ [x]) W' ∧ KeepsWalks W1 W') →
    J [] W →
    CallsIn F n P g (#[.func (.yield l) #[] #[]] ++ lb) W fun e W' => (∃ v, e = .returned v) ∧ ∃ xs, S xs ∧ J xs W'
set_option maxRecDepth 100000 in
set_option maxHeartbeats 2000000 in
/-- slices.AppendSeq(nil, seq). -/
theorem appendSeqB (L : SlLaysZI.n11 P ρ) (F : Fence) (n : Nat) (h11 : F.fn (ρ.f 11)) (hro : F.round = none) (hn : 2 ≤ n) (g : Nat) (lb : Array Value) (hFg : F.fn g) (eg : ∀ args w, (callFunc g args).run P w = .ok (.enter g args) w)
    (S : List Int → Prop) (N : Nat) (hN : N ≤ maxLen) (hNb : N * 8 ≤ 140737488355328) (w : World) (hseq : SeqGivesB F (n - 1) P g lb encZ S N w) :
    CallsIn F n P (ρ.f 11) #[.slice none 0 0, .func (.func g) #[] lb] w fun e w' => ∃ (v : Value) (ss : List Int), e = .returned v ∧ S ss ∧ w'.ownsRow w.heap.size (ρ.t 26) 1 v ss.length (ss.map encZ) ∧ (v = .slice none 0 0 ↔ ss = []) ∧ Below w.heap.size w w' := by
  have h1 : 1 ≤ n := by omega
  have mixed := L.mixed; have t0 := L.t0; have a0 := L.a0; have z0 := L.z0; have v0 := L.v0; have t24 := L.t24; have a24 := L.a24; have z24 := L.z24; have v24 := L.v24; have t26 := L.t26; have a26 := L.a26; have z26 := L.z26; have v26 := L.v26; have t28 := L.t28; have a28 := L.a28; have z28 := L.z28; have v28 := L.v28
  have hne : ρ.t 24 ≠ ρ.t 26 := fun e => by have h := L.t24; rw [e, L.t26] at h; cases h
  have u0 := run_underlying L.t0; have u24 := run_underlying L.t24; have u26 := run_underlying L.t26; have u28 := run_underlying L.t28
  obtain ⟨_, _, FG⟩ := L.f11
  refine callsIn_of_wp_marks FG rfl h11 ?_ hro
  simp only [SlBodyZ.n11_ntmps ρ, List.size_toArray, List.length_cons, List.length_nil, Nat.reduceAdd, Nat.reduceSub, Array.replicate_succ, Array.replicate_zero, List.push_toArray, List.append_toArray, List.nil_append, List.cons_append]
  gi_wp2
  refine wpIn_rangeFunc ?_
  intro fn hfn
  rw [hro]
  obtain ⟨W0, hW0⟩ : ∃ W0, w.alloc (.cells #[.slice none 0 0] (ρ.t 24)) = W0 := ⟨_, rfl⟩
  have hs0 : W0.heap.size = w.heap.size + 1 := by rw [← hW0]; simp
  have hv0 : W0.heap[w.heap.size]? = some (.cells #[.slice none 0 0] (ρ.t 24) (0, 0)) := by rw [← hW0]; exact World.alloc_heap_new w _
  have hb0 : Below w.heap.size w W0 := by rw [← hW0]; exact (Below.refl _ w).alloc (Nat.le_refl _) _
  rw [hW0]
  obtain ⟨W1, hW1⟩ : ∃ W1, (W0.alloc (.deferred (some []))).alloc (.loop (AnyZI.apRec ρ fn (.func (.func g) #[] lb) w.heap.size W0.heap.size .ready none)) = W1 := ⟨_, rfl⟩
  have hold : ∀ k, k < W0.heap.size → W1.heap[k]? = W0.heap[k]? := fun k hk => by
    rw [← hW1]; exact (Below.heap_alloc _ _ k (by simp; omega)).trans (Below.heap_alloc _ _ k hk)
  have hb1 : Below w.heap.size w W1 := by rw [← hW1]; exact (hb0.alloc hb0.size _).alloc (by have := hb0.size; simp; omega) _
  have hs1 : W1.heap.size = W0.heap.size + 2 := by rw [← hW1]; simp
  have hM : AnyZI.ApAt ρ w fn (.func (.func g) #[] lb) w.heap.size (W0.heap.size + 1) W0.heap.size [] W1 :=
    ⟨⟨_, (hold w.heap.size (by omega)).trans hv0, ⟨rfl, .inl ⟨rfl, rfl⟩⟩, by simp⟩,
     by rw [← hW1]; have := World.alloc_heap_new (W0.alloc (.deferred (some []))) (.loop (AnyZI.apRec ρ fn (.func (.func g) #[] lb) w.heap.size W0.heap.size .ready none)); rwa [World.size_alloc] at this,
     by rw [← hW1]; exact (Below.heap_alloc _ _ _ (by simp)).trans (World.alloc_heap_new W0 _), hb1⟩
  refine ⟨W0.heap.size + 1, [{ target := .collected W0.heap.size, args := #[] }], W1, { target := .fn (.func g) lb, args := #[.func (.yield (W0.heap.size + 1)) #[] #[]] }, W1, g,
    #[.func (.yield (W0.heap.size + 1)) #[] #[]] ++ lb, W1, ?_, ?_, ?_, ?_, fun _ => h1, ?_⟩
  · rw [← hW1]; exact run_enterLoop_outer _ _ _ _ _
  · simp [resolve, go_sem]
  · intro f' hf'; simp [Target.leads] at hf'; subst hf'; exact hFg
  · simp [invoke, go_sem, eg]
  · refine (hseq (W0.heap.size + 1) (AnyZI.ApAt ρ w fn (.func (.func g) #[] lb) w.heap.size (W0.heap.size + 1) W0.heap.size) W1 hb1 (AnyZI.ap_abides ρ _ _ _ _ _ _ _ hb1.size) (fun pre W h => h.below)
      (fun pre x W hJ hl => AnyZI.apYield { L with } F (n - 1 - 1) w fn hfn _ w.heap.size (W0.heap.size + 1) W0.heap.size (by omega) (by omega) (by omega) (Nat.le_refl _) (by omega) N hN hNb pre x W hJ hl) hM).mono ?_
    rintro e W2 ⟨⟨v0, rfl⟩, ss, hS, h2⟩
    obtain ⟨v, hv, hrow, hnil⟩ := h2.box
    have hend := run_endLoop (P := P) h2.L (by simp [AnyZI.apRec])
    obtain ⟨W3, hW3⟩ : ∃ W3, W2.putObj (W0.heap.size + 1) (.loop { AnyZI.apRec ρ fn (.func (.func g) #[] lb) w.heap.size W0.heap.size .ready none with state := .exhausted }) = W3 := ⟨_, rfl⟩
    rw [hW3] at hend
    have hg3 : W2.grownBy W3 (some (W0.heap.size + 1)) := by rw [← hW3]; exact grownBy_putObj_a _ _ _
    have hv3 : W3.heap[w.heap.size]? = some (.cells #[v] (ρ.t 24) (0, 0)) := by rw [← hW3]; exact (World.putObj_heap_other (by omega)).trans hv
    have hK3 : W3.heap[W0.heap.size]? = some (.deferred (some [])) := by rw [← hW3]; exact (World.putObj_heap_other (by omega)).trans h2.K
    have hrow3 := hrow.kept hg3 (ownsRow_ne_a hrow h2.L (fun cur e => by first | cases e | exact hne (Obj.cells.inj e).2.1))
    have hb3 : Below w.heap.size w W3 := h2.below.grown hg3 h2.below.size (fun k e => by cases e; omega)
    obtain ⟨hc3, hf3⟩ := cell_of_box_a hv3
    clear hW3
    refine ⟨none, W3, hend, ?_⟩
    gi_wp2
    rw [← hs0]
    refine ⟨by simp, .inl ⟨_, _, rfl, run_takeDeferred hK3, ?_⟩⟩
    exact ⟨_, results_tmp rfl _ _ _, v, ss, rfl, hS, hrow3.kept (grownBy_putObj_a _ _ _) (ownsRow_ne_a hrow3 hK3 (fun cur e => by first | cases e | exact hne (Obj.cells.inj e).2.1)), hnil, hb3.grown (grownBy_putObj_a _ _ _) hb3.size (fun k e => by cases e; omega)⟩
set_option maxHeartbeats 1000000 in
/-- slices.Collect(seq). -/
theorem collectB (L : SlLaysZI.n8 P ρ) (F : Fence) (n : Nat) (h8 : F.fn (ρ.f 8)) (h11 : F.fn (ρ.f 11)) (hro : F.round = none) (hn : 3 ≤ n) (g : Nat) (lb : Array Value) (hFg : F.fn g) (eg : ∀ args w, (callFunc g args).run P w = .ok (.enter g args) w)
    (S : List Int → Prop) (N : Nat) (hN : N ≤ maxLen) (hNb : N * 8 ≤ 140737488355328) (w : World) (hseq : SeqGivesB F (n - 1 - 1) P g lb encZ S N w) :
    CallsIn F n P (ρ.f 8) #[.func (.func g) #[] lb] w fun e w' => ∃ (v : Value) (ss : List Int), e = .returned v ∧ S ss ∧ w'.ownsRow w.heap.size (ρ.t 26) 1 v ss.length (ss.map encZ) ∧ (v = .slice none 0 0 ↔ ss = []) ∧ Below w.heap.size w w' := by
  have h1 : 1 ≤ n := by omega
  have e11 : ∀ args w, (callFunc (ρ.f 11) args).run P w = .ok (.enter (ρ.f 11) args) w := L.f11.enters rfl
  have mixed := L.mixed; have t0 := L.t0; have a0 := L.a0; have z0 := L.z0; have v0 := L.v0; have t24 := L.t24; have a24 := L.a24; have z24 := L.z24; have v24 := L.v24; have t26 := L.t26; have a26 := L.a26; have z26 := L.z26; have v26 := L.v26; have t28 := L.t28; have a28 := L.a28; have z28 := L.z28; have v28 := L.v28
  have u0 := run_underlying L.t0; have u24 := run_underlying L.t24; have u26 := run_underlying L.t26; have u28 := run_underlying L.t28
  obtain ⟨_, _, FG⟩ := L.f8
  refine callsIn_of_wp FG rfl h8 ?_ hro
  simp only [SlBodyZ.n8_ntmps ρ, List.size_toArray, List.length_cons, List.length_nil, Nat.reduceAdd, Nat.reduceSub, Array.replicate_succ, Array.replicate_zero, List.push_toArray, List.append_toArray, List.nil_append, List.cons_append]
  gi_wp2_with (gi_at_fn (ρ.f 11); refine (appendSeqB { L with } F (n - 1) h11 hro (by omega) g lb hFg eg S N hN hNb _ hseq).mono ?_; rintro e w' ⟨v, ss, rfl, hS, hrow, hnil, hb⟩)
  go_ret
  exact ⟨v, ss, rfl, hS, hrow, hnil, hb⟩
set_option maxRecDepth 100000 in
set_option maxHeartbeats 2000000 in
/-- slices.Sorted(seq). -/
theorem sortedB (L : SlLaysZI.n6 P ρ) (F : Fence) (n : Nat) (h6 : F.fn (ρ.f 6)) (h8 : F.fn (ρ.f 8)) (h9 : F.fn (ρ.f 9)) (h11 : F.fn (ρ.f 11)) (hro : F.round = none) (hn : 4 ≤ n) (hsort : AnyZI.SortsIn P ρ F (n - 1)) (e9 : ∀ args w, (callFunc (ρ.f 9) args).run P w = .ok (.enter (ρ.f 9) args) w) (g : Nat) (lb : Array Value) (hFg : F.fn g) (eg : ∀ args w, (callFunc g args).run P w = .ok (.enter g args) w)
    (l : List Int) (hN : l.length ≤ maxLen) (hNb : l.length * 8 ≤ 140737488355328) (w : World) (hseq : SeqGivesB F (n - 1 - 1 - 1) P g lb encZ (fun ss => ss = l) l.length w) :
    CallsIn F n P (ρ.f 6) #[.func (.func g) #[] lb] w fun e w' => ∃ (v : Value) (ss : List Int), e = .returned v ∧ ss = l ∧
      w'.ownsRow w.heap.size (ρ.t 26) 1 v ss.length ((ss.mergeSort (fun x y => decide (x ≤ y))).map encZ) ∧ (v = .slice none 0 0 ↔ ss = []) ∧ Below w.heap.size w w' := by
  have h1 : 1 ≤ n := by omega
  have e8 : ∀ args w, (callFunc (ρ.f 8) args).run P w = .ok (.enter (ρ.f 8) args) w := L.f8.enters rfl
  have mixed := L.mixed; have t0 := L.t0; have a0 := L.a0; have z0 := L.z0; have v0 := L.v0; have t24 := L.t24; have a24 := L.a24; have z24 := L.z24; have v24 := L.v24; have t26 := L.t26; have a26 := L.a26; have z26 := L.z26; have v26 := L.v26; have t28 := L.t28; have a28 := L.a28; have z28 := L.z28; have v28 := L.v28
  have u0 := run_underlying L.t0; have u24 := run_underlying L.t24; have u26 := run_underlying L.t26; have u28 := run_underlying L.t28
  obtain ⟨_, _, FG⟩ := L.f6
  refine callsIn_of_wp FG rfl h6 ?_ hro
  simp only [SlBodyZ.n6_ntmps ρ, List.size_toArray, List.length_cons, List.length_nil, Nat.reduceAdd, Nat.reduceSub, Array.replicate_succ, Array.replicate_zero, List.push_toArray, List.append_toArray, List.nil_append, List.cons_append]
  gi_wp2_with (gi_at_fn (ρ.f 8); refine (collectB { L with } F (n - 1) h8 h11 hro (by omega) g lb hFg eg _ l.length hN hNb _ hseq).mono ?_; rintro e W ⟨v, ss, rfl, hS, hrow, hnil, hb⟩)
  subst hS
  have hlen : ss.length ≤ maxLen := hN
  rcases hrow.2 with ⟨rfl, hz⟩ | ⟨gb, cap, cur, rfl, hbase, hgb, r1, r2, r3, r4⟩
  · -- nothing came: the nil slice is sorted and handed back
    have hss : ss = [] := List.eq_nil_of_length_eq_zero hz
    subst hss
    gi_wp2_with (gi_at_fn (ρ.f 9); refine (hsort.2 none 0 W).mono ?_; rintro e w' ⟨rfl, rfl⟩)
    go_ret
    exact ⟨.slice none 0 0, [], rfl, rfl, by simpa using hrow, by simp, hb⟩
  · have hH : Holds encZ W gb 0 ss.toArray := holds_of_block_i hgb (by simpa using r4)
    have hgl : gb < W.heap.size := (Array.getElem?_eq_some_iff.1 hgb).1
    have hsz : ss.length < 4611686018427387904 := by unfold maxLen at *; omega
    have cS := hsort.1 gb 0 cap ss W hH hgl hsz
    gi_wp2_with (gi_at_fn (ρ.f 9); refine cS.mono ?_; rintro e w' ⟨rfl, nn, os, rfl⟩)
    go_ret
    exact ⟨_, ss, rfl, rfl, ownsRow_sorted_i (by simp) hbase hgb r1 r2 r3, hnil, hb.grown (grownBy_sorted_i _) hb.size (fun j hj => by cases hj; exact hbase)⟩
/-- Numbers in order. -/
def sortI (l : List Int) : List Int := l.mergeSort fun x y => decide (x ≤ y)
theorem R_sortI {w : World} {base : Nat} {e : TypeId} {v : Value} {l : List Int} (ho : w.ownsRow base e 1 v l.length ((l.mergeSort (fun x y => decide (x ≤ y))).map encZ)) : Kd.R (Kd.int .i64) e w base (fun _ => True) v (sortI l) := by
  refine Kd.R_of_own (enc := Value.int .i64) (h1 := fun _ => rfl) ?_ (fun _ _ => trivial)
  have hl : (sortI l).length = l.length := List.length_mergeSort _
  rw [hl]
  exact ho
/-- i, i + 1, .. -/
def upI : List Int → Int → Bool
  | [], _ => true
  | x :: l, i => decide (x = i) && upI l (i + 1)
theorem upI_at {l : List Int} {k : Nat} (h : k < l.length) (i : Int) : upI (l.drop k) i = (decide (l.getD k 0 = i) && upI (l.drop (k + 1)) (i + 1)) := by
  rw [List.drop_eq_getElem_cons h, upI, List.getD_eq_getElem?_getD, List.getElem?_eq_getElem h]
  rfl
theorem sortI_length (l : List Int) : (sortI l).length = l.length := List.length_mergeSort _
/-- What has come when k rounds are over. -/
theorem take_up {l : List Int} {k : Nat} (h : k < l.length) : l.take (k + 1) = l.take k ++ [l.getD k 0] := by
  rw [List.take_succ_eq_append_getElem h, List.getD_eq_getElem?_getD, List.getElem?_eq_getElem h]
  rfl
/-- The elements from the last one down, each with its number. -/
def backs {α : Type} (ms : List α) : List (Int × α) := ms.reverse.zipIdx.map fun p => ((ms.length : Int) - 1 - (p.2 : Int), p.1)
theorem backs_length {α : Type} (ms : List α) : (backs ms).length = ms.length := by simp [backs]
theorem backs_snd {α : Type} (ms : List α) : (backs ms).map Prod.snd = ms.reverse := by
  unfold backs
  rw [List.map_map]
  exact List.zipIdx_map_fst 0 ms.reverse
theorem backs_step {α : Type} (d : α) (ms : List α) {x : Int} (h0 : 0 ≤ x) (h1 : x < (ms.length : Int)) :
    (backs ms).take ((ms.length : Int) - 1 - (x - 1)).toNat = (backs ms).take ((ms.length : Int) - 1 - x).toNat ++ [(x, ms.getD x.toNat d)] := by
  have e : ((ms.length : Int) - 1 - (x - 1)).toNat = ((ms.length : Int) - 1 - x).toNat + 1 := by omega
  unfold backs
  rw [e, List.take_succ_eq_append_getElem (by simp; omega)]
  congr 2
  rw [List.getElem_map, List.getElem_zipIdx, List.getElem_reverse, List.getD_eq_getElem?_getD, List.getElem?_eq_getElem (by omega)]
  refine Prod.ext (by simp; omega) ?_
  simp only [Option.getD_some]
  congr 1
  omega
/-- A row of one's own is cells: it abides whatever turns no cells. -/
theorem R_ownFrom {β α : Type} (B : Nat) {d : Kd α} {e base : Nat} {ok : Nat → Prop} {v : Value} {xs : List α} : OwnFrom B (fun (_ : β) W => d.R e W base ok v xs) := fun _ X Y row hs hg hr =>
  Kd.R_mono (Kd.R_move (Kd.R_bound hs) (fun k hk => hg.block k hk.2.2.1 (fun er => by
    obtain ⟨_, o, ho, hc⟩ := hr k er.symm
    obtain ⟨_, _, _, q, _, cells, hcells⟩ := hk
    rw [hcells] at ho
    cases ho
    cases hc))) (fun _ hk => hk.1)
theorem keeps_below {B : Nat} {W W' : World} (h : Below W.heap.size W W') : KeepsFrom B W W' := ⟨h.size, fun k o _ hk _ => (h.block k (Array.getElem?_eq_some_iff.1 hk).1).trans hk⟩
/-- Two results in boxes of one cell each. -/
theorem results_cells2 {fn : Func} {p q : Tmp} {tp tq : TypeId} (h : fn.results = #[.cell p tp, .cell q tq]) (tmps : Array Value) (w : World) (B C : Addr) (u v : Value)
    (hp : tmps.getD p undef = .pointer (some B)) (hq : tmps.getD q undef = .pointer (some C)) (cp : w.cell? B = some u) (cq : w.cell? C = some v)
    (ap : ∀ w, (isAgg tp).run P w = .ok false w) (aq : ∀ w, (isAgg tq).run P w = .ok false w) : (results fn tmps).run P w = .ok (.tuple #[u, v]) w := by
  have h1 : tmps[p]?.getD undef = .pointer (some B) := by simpa using hp
  have h2 : tmps[q]?.getD undef = .pointer (some C) := by simpa using hq
  simp [results, h, h1, h2, asAddr, loadVar, ap, aq, go_sem, cp, cq]
/-- A literal of two numbers, read. -/
theorem C_two (W : World) (e : TypeId) (x y : Int) : Kd.C (Kd.int .i64) (W.alloc (.cells #[.int .i64 x, .int .i64 y] e)) (some ⟨W.heap.size, 0, none⟩) 2 [x, y] := by
  refine ⟨rfl, by decide, fun _ => ⟨_, rfl, fun j p hj => ?_⟩⟩
  match j, hj with
  | 0, hj =>
    obtain rfl : x = p := by simpa using hj
    refine ⟨[.int .i64 x], rfl, rfl, fun i u hu => ?_⟩
    match i, hu with
    | 0, hu =>
      obtain rfl : Value.int .i64 x = u := by simpa using hu
      exact (blk_cell (World.alloc_heap_new W (.cells #[.int .i64 x, .int .i64 y] e)) 0).trans rfl
    | i + 1, hu => simp at hu
  | 1, hj =>
    obtain rfl : y = p := by simpa using hj
    refine ⟨[.int .i64 y], rfl, rfl, fun i u hu => ?_⟩
    match i, hu with
    | 0, hu =>
      obtain rfl : Value.int .i64 y = u := by simpa using hu
      exact (blk_cell (World.alloc_heap_new W (.cells #[.int .i64 x, .int .i64 y] e)) 1).trans rfl
    | i + 1, hu => simp at hu
  | j + 2, hj => simp at hj
theorem cell_two_new (w : World) (x y : Value) (t : TypeId) : ∀ j u, [x, y][j]? = some u → (w.alloc (.cells #[x, y] t)).cell? ((⟨w.heap.size, 0, none⟩ : Addr).add j) = some u := by
  intro j u hj
  match j, hj with
  | 0, hj =>
    obtain rfl : x = u := by simpa using hj
    exact (blk_cell (World.alloc_heap_new w (.cells #[x, y] t)) 0).trans rfl
  | 1, hj =>
    obtain rfl : y = u := by simpa using hj
    exact (blk_cell (World.alloc_heap_new w (.cells #[x, y] t)) 1).trans rfl
  | j + 2, hj => simp at hj
/-! ### what a law's walk holds: each value's blocks lie between two numbers -/
theorem need_of {α : Type} {c : Prop} [Decidable c] {x : Option α} {r : α} (h : (if c then x else none) = some r) : c ∧ x = some r := by
  by_cases hc : c
  · rw [if_pos hc] at h; exact ⟨hc, h⟩
  · rw [if_neg hc] at h; cases h
theorem below_next {w X W' : World} {N : Nat} (h : Below w.heap.size w X) (hN : N ≤ X.heap.size) (hw : w.heap.size ≤ N) (hb : Below X.heap.size X W') : Below w.heap.size w W' := h.trans (hb.mono (by omega))
theorem fresh_pts {X W' : World} {N : Nat} (hb : Below X.heap.size X W') (hN : N ≤ X.heap.size) : ∃ lo hi, (N ≤ lo ∧ lo ≤ hi ∧ hi ≤ W'.heap.size) ∧ (lo = X.heap.size ∧ hi = W'.heap.size) := ⟨X.heap.size, W'.heap.size, ⟨hN, hb.size, Nat.le_refl _⟩, rfl, rfl⟩
theorem S_in {α : Type} {d : Kd α} {e : Nat} {X W' : World} {B lo hi : Nat} {ok : Nat → Prop} {v : Value} {xs : List α} (h : Kd.S d e W' X.heap.size ok v xs) (g : lo = X.heap.size ∧ hi = W'.heap.size) (hB : B ≤ lo) : Kd.S d e W' B (fun k => (lo ≤ k ∧ k < hi) ∧ ok k) v xs := by
  obtain ⟨rfl, rfl⟩ := g
  exact Kd.S_lower (Kd.S_mono (Kd.S_bound h) (fun k hk => ⟨⟨hk.2.1, hk.2.2.1⟩, hk.1⟩)) hB
theorem R_in {α : Type} {d : Kd α} {e : Nat} {X W' : World} {B lo hi : Nat} {ok : Nat → Prop} {v : Value} {xs : List α} (h : d.R e W' X.heap.size ok v xs) (g : lo = X.heap.size ∧ hi = W'.heap.size) (hB : B ≤ lo) : d.R e W' B (fun k => (lo ≤ k ∧ k < hi) ∧ ok k) v xs := by
  obtain ⟨rfl, rfl⟩ := g
  exact Kd.R_lower (Kd.R_mono (Kd.R_bound h) (fun k hk => ⟨⟨hk.2.1, hk.2.2.1⟩, hk.1⟩)) hB
/-! ### append(xs[:n:n], x), n the length: a new row -/
theorem I_full_run {P : Program} {W : World} (t ty e : TypeId) (z : Value) (bytes : Nat) (ht : P.underlying t = some (.slice e)) (hinfo : (P.info? e).map (fun i => (i.zero, i.size, i.bytes)) = some (some z, 1, bytes)) (hz : z.cells.size = 1) (hb0 : 0 < bytes)
    (A : Option Addr) (xs : List Int) (p : Int) (base : Nat) (ok : Nat → Prop) (hfresh : ∀ k, W.heap.size ≤ k → ok k)
    (HC : Kd.C (Kd.int .i64) W A xs.length xs) (hbase : base ≤ W.heap.size) (hl : (xs.length + 1) * bytes ≤ 140737488355328) :
    ∃ v1 w1, (Builtin.append_ #[t, t] ty #[.slice A xs.length xs.length, .slice (some ⟨W.heap.size, 0, none⟩) 1 1]).run P (W.alloc (.cells #[.int .i64 p] e)) = .ok v1 w1 ∧ (Kd.int .i64).R e w1 base ok v1 (xs ++ [p]) ∧ Below W.heap.size W w1 := by
  obtain ⟨i0, hi, hzz⟩ := Option.map_eq_some_iff.1 hinfo
  simp only [Prod.mk.injEq] at hzz
  obtain ⟨hz0, hz1, hz2⟩ := hzz
  have hlen : xs.length + 1 ≤ 140737488355328 := Nat.le_trans (Nat.le_mul_of_pos_right _ hb0) hl
  have hC1 := Kd.C_alloc HC (.cells #[.int .i64 p] e)
  have hold : (Builtin.firstCells i0.size xs.length (.slice A xs.length xs.length)).run P (W.alloc (.cells #[.int .i64 p] e)).drew = .ok (xs.map (Value.int .i64)).toArray (W.alloc (.cells #[.int .i64 p] e)).drew := by
    cases A with
    | none =>
      have e0 : xs = [] := by
        cases xs with
        | nil => rfl
        | cons y l =>
          obtain ⟨ad, e, _⟩ := HC.2.2 (by simp)
          cases e
      subst e0
      exact (Src.ofNil (size := i0.size) (W.alloc (.cells #[.int .i64 p] e)) ht 0).cellsD
    | some ad =>
      refine (Src.ofSlice (size := i0.size) (W.alloc (.cells #[.int .i64 p] e)) ht ad xs.length xs.length (xs.map (Value.int .i64)) (by rw [hz1]; simp) (fun j u hu => ?_) (fun u hu => by obtain ⟨y, _, rfl⟩ := List.mem_map.1 hu; rfl)).cellsD
      rw [List.getElem?_map] at hu
      obtain ⟨y, hy, rfl⟩ := Option.map_eq_some_iff.1 hu
      have hj : j < xs.length := (List.getElem?_eq_some_iff.1 hy).1
      obtain ⟨ad', e', hc⟩ := Kd.at_int hC1 (j : Int) (by omega) (by omega)
      cases e'
      rw [Int.toNat_natCast] at hc
      rw [hc]
      congr 2
      show xs.getD (j : Int).toNat 0 = y
      rw [Int.toNat_natCast, List.getD_eq_getElem?_getD, hy]
      rfl
  have hsx : Src P i0.size t (.slice (some ⟨W.heap.size, 0, none⟩) 1 1) 1 [.int .i64 p] (W.alloc (.cells #[.int .i64 p] e)) := Src.ofSlice (size := i0.size) (W.alloc (.cells #[.int .i64 p] e)) ht ⟨W.heap.size, 0, none⟩ 1 1 [.int .i64 p] (by rw [hz1]; simp) (by simpa using World.news_of_block (cs := #[.int .i64 p]) (t := e) (fr := (0, 0)) (heap_alloc_new W (.cells #[.int .i64 p] e))) (fun u hu => by rw [List.mem_singleton.1 hu]; rfl)
  have hrun := run_append_grow_src (P := P) (W.alloc (.cells #[.int .i64 p] e)) t t ty e i0 z ht hi hz0 A xs.length xs.length (xs.map (Value.int .i64)) hold _ 1 [.int .i64 p] hsx (by omega) (by omega) (growslice_fits (by omega) (by rw [hz2]; exact hl))
  have hcg := grownCap_ge (W.alloc (.cells #[.int .i64 p] e)) (xs.length + 1) xs.length e
  have hcm := grownCap_le_maxLen (W.alloc (.cells #[.int .i64 p] e)) (xs.length + 1) xs.length e (by unfold maxLen; omega)
  generalize grownCap (W.alloc (.cells #[.int .i64 p] e)) (xs.length + 1) xs.length e = cap at hrun hcg hcm
  refine ⟨_, _, hrun, ?_, ?_⟩
  · refine Kd.R_of_own ⟨by simp [encs], Or.inr ⟨(W.alloc (.cells #[.int .i64 p] e)).heap.size, cap, _, by simp, by simp; omega, heap_alloc_new _ _, by simpa using hcg, hcm, ?_, ?_⟩⟩ (fun k hk => hfresh k ?_)
    · simp [size_zeroCells, hz]
      omega
    · simp [encs]
      rw [List.append_cons, List.take_append_of_le_length (by simp), List.take_of_length_le (by simp)]
    · have : (W.alloc (.cells #[.int .i64 p] e)).heap.size = k := by simpa [Value.ownBlock] using hk
      rw [← this]
      simp
  · exact ((Below.refl _ W).alloc (Nat.le_refl _) _).trans ((below_alloc (below_drew (Below.refl _ _)) _).mono (by simp))
theorem I_append_full {P : Program} {ops : Array Oper} {o : Oper} {a : Act} {Q : Exit → Act → World → Prop} {rest : List Oper} {W : World} (hgd : o.guard = none) (s x : Operand) (t e : TypeId) (z : Value) (bytes : Nat)
    (ho : o.op = .call { callee := .builtin .append, args := #[s, x], argTypes := #[t, t] }) (ht : P.underlying t = some (.slice e)) (hinfo : (P.info? e).map (fun i => (i.zero, i.size, i.bytes)) = some (some z, 1, bytes)) (hz : z.cells.size = 1) (hb0 : 0 < bytes)
    (A : Option Addr) (xs : List Int) (p : Int) (base : Nat) (ok : Nat → Prop) (hs : a.eval s = .slice A xs.length xs.length) (hx : a.eval x = .slice (some ⟨W.heap.size, 0, none⟩) 1 1) (hfresh : ∀ k, W.heap.size ≤ k → ok k)
    (HC : Kd.C (Kd.int .i64) W A xs.length xs) (hbase : base ≤ W.heap.size) (hl : (xs.length + 1) * bytes ≤ 140737488355328)
    (h : ∀ v1 w1, (Kd.int .i64).R e w1 base ok v1 (xs ++ [p]) → Below W.heap.size W w1 → wpList P ops Q rest (a.put o.dst v1) w1) :
    wpList P ops Q (o :: rest) a (W.alloc (.cells #[.int .i64 p] e)) := by
  obtain ⟨v1, w1, hrun, hR, hb⟩ := I_full_run (P := P) (W := W) t o.type e z bytes ht hinfo hz hb0 A xs p base ok hfresh HC hbase hl
  refine wpList_plain hgd fun K hK => ?_
  unfold Oper.wp execOp
  simp only [ho, resolve, invoke, builtin, Sem.run_bind, Sem.run_pure, Result.andThen_ok, List.map_toArray, List.map_cons, List.map_nil, hs, hx, hrun]
  exact hK _ _ (h _ _ hR hb)
theorem I_append_full_step {P : Program} {ops : Array Oper} {o : Oper} {a : Act} {Q : Exit → Act → World → Prop} {Kc : Act → World → Prop} {W : World} (hw : Region.wanted o (yielded ops a.tmps) = true) (s x : Operand) (t e : TypeId) (z : Value) (bytes : Nat)
    (ho : o.op = .call { callee := .builtin .append, args := #[s, x], argTypes := #[t, t] }) (ht : P.underlying t = some (.slice e)) (hinfo : (P.info? e).map (fun i => (i.zero, i.size, i.bytes)) = some (some z, 1, bytes)) (hz : z.cells.size = 1) (hb0 : 0 < bytes)
    (A : Option Addr) (xs : List Int) (p : Int) (base : Nat) (ok : Nat → Prop) (hs : a.eval s = .slice A xs.length xs.length) (hx : a.eval x = .slice (some ⟨W.heap.size, 0, none⟩) 1 1) (hfresh : ∀ k, W.heap.size ≤ k → ok k)
    (HC : Kd.C (Kd.int .i64) W A xs.length xs) (hbase : base ≤ W.heap.size) (hl : (xs.length + 1) * bytes ≤ 140737488355328)
    (h : ∀ v1 w1, (Kd.int .i64).R e w1 base ok v1 (xs ++ [p]) → Below W.heap.size W w1 → Kc (a.put o.dst v1) w1) :
    if Region.wanted o (yielded ops a.tmps) = true then Oper.wp P o a (W.alloc (.cells #[.int .i64 p] e)) Kc Q else Kc (a.put o.dst undef) (W.alloc (.cells #[.int .i64 p] e)) := by
  obtain ⟨v1, w1, hrun, hR, hb⟩ := I_full_run (P := P) (W := W) t o.type e z bytes ht hinfo hz hb0 A xs p base ok hfresh HC hbase hl
  rw [if_pos hw]
  unfold Oper.wp execOp
  simp only [ho, resolve, invoke, builtin, Sem.run_bind, Sem.run_pure, Result.andThen_ok, List.map_toArray, List.map_cons, List.map_nil, hs, hx, hrun]
  exact h _ _ hR hb
end Go.Proofs.YtdlblaihleojmaaW.PrintOwn
