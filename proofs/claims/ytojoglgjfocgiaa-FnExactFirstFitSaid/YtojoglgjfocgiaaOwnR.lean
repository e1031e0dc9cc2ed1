-- Words of this session for texts: a row sorted in place. Not trusted: Lean checks it.
import Derived.Test.YtojoglgjfocgiaaWMore
import Derived.Test.YtojoglgjfocgiaaWFoot
import Derived.Shelf.SlSortCmp.Insertion
import Derived.Ground.SlsfProg
namespace Go.Proofs.YtojoglgjfocgiaaW.PrintOwn
open Go.RowKit Go.Shelf Go.Sort Go.Proofs.YtojoglgjfocgiaaW.PrintWords Go.Proofs.YtojoglgjfocgiaaW.PrintMore
/-- A whole number as a value. -/
def encF {α : Type} (f : α → Int) : α → Value := fun x => .int .i64 (f x)
section
variable {α : Type} [Inhabited α] {f : α → Int} {W w : World} {g n cap base e : Nat} {ok : Nat → Prop}
/-- What a row laid over a row of the call's own says. -/
structure RowAt (f : α → Int) (e : Nat) (W w : World) (g n cap base : Nat) (ok : Nat → Prop) (d : Array α) : Prop where
  row : Kd.R (Kd.int .i64) e (putRow (encF f) W g 0 d) base ok (.slice (some ⟨g, 0, none⟩) n cap) (d.toList.map f)
  below : Below w.heap.size w (putRow (encF f) W g 0 d)
  keep : KeepBut W (putRow (encF f) W g 0 d) g none
theorem RowAt.set {d : Array α} (h : RowAt f e W w g n cap base ok d) (hg : w.heap.size ≤ g) (i : Nat) (hi : i < d.size) (x : α) : RowAt f e W w g n cap base ok (d.setIfInBounds i x) := by
  have hs := putRow_set (encF f) W g 0 d i x hi
  rw [Nat.zero_add] at hs
  refine ⟨?_, ?_, ?_⟩
  · have h1 := (Kd.R_putg h.row (i : Int) (f x)).1
    rw [Int.toNat_natCast] at h1
    rw [← hs, Array.toList_setIfInBounds, List.map_set]
    exact h1
  · rw [← hs]; exact below_set h.below hg
  · rw [← hs]; exact h.keep.set_ _ _
theorem RowAt.all {d d' : Array α} (h : RowAt f e W w g n cap base ok d) (hg : w.heap.size ≤ g) (hd : d'.size = d.size) : RowAt f e W w g n cap base ok d' := by
  have key : ∀ k, k ≤ d.size → RowAt f e W w g n cap base ok (d'.toList.take k ++ d.toList.drop k).toArray := by
    intro k
    induction k with
    | zero => intro _; simpa using h
    | succ k ih =>
      intro hk
      have h1 := ih (by omega)
      have h2 := h1.set hg k (by simp; omega) (d'[k]'(by omega))
      have e1 : ((d'.toList.take k ++ d.toList.drop k).toArray.setIfInBounds k (d'[k]'(by omega))) = (d'.toList.take (k + 1) ++ d.toList.drop (k + 1)).toArray := by
        apply Array.ext'
        rw [Array.toList_setIfInBounds]
        have hl : (d'.toList.take k).length = k := by simp; omega
        show (d'.toList.take k ++ d.toList.drop k).set k _ = d'.toList.take (k + 1) ++ d.toList.drop (k + 1)
        rw [List.drop_eq_getElem_cons (show k < d.toList.length by rw [Array.length_toList]; omega), List.set_append_right _ _ (by omega), hl, Nat.sub_self, List.set_cons_zero, List.take_add_one, List.getElem?_eq_getElem (show k < d'.toList.length by simp; omega)]
        simp
      rw [e1] at h2
      exact h2
  have := key d.size (Nat.le_refl _)
  have e2 : (d'.toList.take d.size ++ d.toList.drop d.size).toArray = d' := by
    apply Array.ext'
    rw [List.drop_of_length_le (by simp), List.take_of_length_le (by simp; omega)]
    simp
  rwa [e2] at this
theorem RowAt.start {d : Array α} (hH : Holds (encF f) W g 0 d) (hR : Kd.R (Kd.int .i64) e W base ok (.slice (some ⟨g, 0, none⟩) n cap) (d.toList.map f)) (hb : Below w.heap.size w W) : RowAt f e W w g n cap base ok d := by
  have hs := putRow_self (encF f) W g 0 d hH
  exact ⟨by rw [hs]; exact hR, by rw [hs]; exact hb, by rw [hs]; exact KeepBut.refl _ _ _⟩
/-- The worlds that the sort passes through keep all other blocks. -/
theorem RowAt.world {d : Array α} (h : RowAt f e W w g n cap base ok d) (hg : w.heap.size ≤ g) (m : Nat) (dk : Array α) (os : Array Obj) (hk : dk.size = d.size) : KeepBut W (sortWorld (encF f) W g 0 m dk os) g none := by
  have h1 := (h.all hg hk).keep
  unfold sortWorld
  rw [putRow_ahead]
  refine ⟨by rw [size_grow]; exact Nat.le_trans h1.1 (Nat.le_add_right _ _), fun i hi hne hr => ?_⟩
  exact (heap_grow_old (Sort.ahead (putRow (encF f) W g 0 dk) m) os (show i < (putRow (encF f) W g 0 dk).heap.size from Nat.lt_of_lt_of_le hi h1.1)).trans (h1.2 i hi hne hr)
end
theorem below_grown (X : World) (n : Nat) (os : Array Obj) : Below X.heap.size X (grow (Sort.ahead X n) os) := by
  have h1 : ∀ os : List Obj, ∀ Y : World, Below X.heap.size X Y → Below X.heap.size X (grow Y os.toArray) := by
    intro os
    induction os with
    | nil => intro Y h; simpa using h
    | cons o os ih =>
      intro Y h
      have := ih (Y.alloc o) (below_alloc h o)
      rw [alloc_eq_grow, grow_grow] at this
      simpa using this
  have h2 := h1 os.toList (Sort.ahead X n) (by
    show Below X.heap.size X (Sort.ahead X n)
    exact pw_below_drewN (Below.refl _ _) n)
  simpa using h2
theorem cell_keep {W W' : World} {g : Nat} {a : Addr} (h : KeepBut W W' g none) (hl : a.block < W.heap.size) (hn : a.block ≠ g) : W'.cell? a = W.cell? a := by
  simp only [World.cell?, h.2 a.block hl hn (by simp)]
theorem holds_of_R {α : Type} [Inhabited α] {f : α → Int} {e base g n cap : Nat} {ok : Nat → Prop} {W : World} {d : Array α} (h : Kd.R (Kd.int .i64) e W base ok (.slice (some ⟨g, 0, none⟩) n cap) (d.toList.map f)) : Holds (encF f) W g 0 d := fun j hj => by
  obtain ⟨hn, _⟩ := Kd.R_reads' h
  rw [List.length_map, Array.length_toList] at hn
  obtain ⟨h1, h2⟩ := Kd.R_celln 0 h (j : Int) (by omega) (by omega)
  rw [Int.toNat_natCast] at h1 h2
  rw [Nat.zero_add]
  refine ⟨h1.trans ?_, h2⟩
  show some (Value.int .i64 ((d.toList.map f).getD (j : Int).toNat 0)) = some (Value.int .i64 (f d[j]!))
  rw [Int.toNat_natCast, List.getD_eq_getElem?_getD, List.getElem?_map, List.getElem?_eq_getElem (by simpa using hj)]
  simp [getElem!_pos d j hj]
theorem size_insInner' {α : Type} [Inhabited α] (lt : α → α → Bool) (a : Nat) : ∀ (j : Nat) (d : Array α), (Sort.insInner lt a j d).size = d.size
  | 0, d => rfl
  | j + 1, d => by
    rw [Sort.insInner]
    split
    · rw [size_insInner' lt a j]; simp [Sort.swp]
    · rfl
theorem size_insOuter' {α : Type} [Inhabited α] (lt : α → α → Bool) (a b : Nat) : ∀ (m i : Nat) (d : Array α), b - i ≤ m → (Sort.insOuter lt a b i d).size = d.size
  | 0, i, d, h => by
    rw [Sort.insOuter, if_neg (by omega)]
  | m + 1, i, d, h => by
    rw [Sort.insOuter]
    split
    · rw [size_insOuter' lt a b m (i + 1) _ (by omega), size_insInner']
    · rfl
theorem size_insSort {α : Type} [Inhabited α] (lt : α → α → Bool) (d : Array α) (a b : Nat) : (Sort.insertionSort lt d a b).size = d.size := size_insOuter' lt a b _ _ _ (Nat.le_refl _)
end Go.Proofs.YtojoglgjfocgiaaW.PrintOwn
