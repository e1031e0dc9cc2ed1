-- Words of this session for texts: names of small letters. Not trusted: Lean checks it.
import Derived.Test.YtabpgjejedjliaaDoorWMore
import Derived.Shelf.Strings.SlTrimAscii
namespace Go.Proofs.YtabpgjejedjliaaDoorW.PrintOwn
open Go.RowKit Go.Proofs.YtabpgjejedjliaaDoorW.PrintWords
/-- Short names, for long texts. -/
theorem bA_ {w : World} {g : Nat} {o : Obj} (h : w.heap[g]? = some o) (o' : Obj) : (w.alloc o').heap[g]? = some o := blk_alloc h o'
theorem bD_ {w : World} {g : Nat} {o : Obj} (h : w.heap[g]? = some o) : w.drew.heap[g]? = some o := h
theorem bN_ {w : World} {g : Nat} {o : Obj} (h : w.heap[g]? = some o) (n : Nat) : (w.drewN n).heap[g]? = some o := h
theorem lA_ {w W : World} (h : Below w.heap.size w W) (o : Obj) : Below w.heap.size w (W.alloc o) := below_alloc h o
theorem lN_ {B : Nat} {w W : World} (h : Below B w W) (n : Nat) : Below B w (W.drewN n) := pw_below_drewN h n
theorem lD_ {base : Nat} {w W : World} (h : Below base w W) : Below base w W.drew := below_drew1 h
theorem lS_ {w W : World} {g j : Nat} {v : Value} (h : Below w.heap.size w W) (hg : w.heap.size ≤ g) : Below w.heap.size w (W.setCell ⟨g, j, none⟩ v) := below_set h hg
theorem lT_ {w W : World} {g j : Nat} {v : Value} (h : Below w.heap.size w W) (hg : Aside0 (w.heap.size ≤ g)) : Below w.heap.size w (W.setCell ⟨g, j, none⟩ v) := below_set h hg.out
theorem zb_ {w X : World} {g : Nat} {o : Obj} (h : w.heap[g]? = some o) (f : w.heap[g]? = some o → X.heap[g]? = some o := by intro h_; (with_reducible repeat (first | apply bN_ | apply bD_ | apply bA_)); exact h_) : X.heap[g]? = some o := f h
theorem zl_ {w W X : World} (h : Below w.heap.size w W) (f : Below w.heap.size w W → Below w.heap.size w X := by intro h_; repeat (first | (with_reducible first | exact h_ | apply lA_ | apply lN_ | apply lD_ | refine lT_ ?_ ‹_›) | exact h_)) : Below w.heap.size w X := f h
section
variable {α : Type} {d : Kd α} {e base : Nat} {ok : Nat → Prop} {w : World} {v : Value} {xs : List α}
theorem cD_ {A : Option Addr} {n : Nat} (h : d.C w A n xs) : d.C w.drew A n xs := Kd.C_drew h
theorem cN_ {A : Option Addr} {n : Nat} (h : d.C w A n xs) (m : Nat) : d.C (w.drewN m) A n xs := Kd.C_drewN h m
theorem rA_ (h : d.R e w base ok v xs) (o : Obj) : d.R e (w.alloc o) base ok v xs := Kd.R_alloc h o
theorem rD_ (h : d.R e w base ok v xs) : d.R e w.drew base ok v xs := Kd.R_drew h
theorem rN_ (h : d.R e w base ok v xs) (m : Nat) : d.R e (w.drewN m) base ok v xs := Kd.R_drewN h m
theorem zr_ {X : World} (h : d.R e w base ok v xs) (f : d.R e w base ok v xs → d.R e X base ok v xs := by intro h_; (with_reducible repeat (first | apply rA_ | apply rN_ | apply rD_)); exact h_) : d.R e X base ok v xs := f h
theorem zc_ {X : World} {A : Option Addr} {n : Nat} (h : d.C w A n xs) (f : d.C w A n xs → d.C X A n xs := by intro h_; (with_reducible repeat (first | apply cN_ | apply cD_)); exact h_) : d.C X A n xs := f h
end
theorem sI_ {α : Type} (l : List α) (i : Nat) (a : α) : l.toArray.setIfInBounds i a = (l.set i a).toArray := by simp
theorem sZ_ {α : Type} (x : α) (l : List α) (a : α) : (x :: l).set 0 a = a :: l := rfl
theorem sS_ {α : Type} (x : α) (l : List α) (i : Nat) (a : α) : (x :: l).set (i + 1) a = x :: l.set i a := rfl
theorem A_ {p : Prop} (h : p) : Aside0 p := ⟨h⟩
/-- The small letters. -/
def azCut : List UInt8 := [97, 98, 99, 100, 101, 102, 103, 104, 105, 106, 107, 108, 109, 110, 111, 112, 113, 114, 115, 116, 117, 118, 119, 120, 121, 122]
/-- A text of small letters alone, one to eight of them. -/
def nameB (a : ByteArray) : Bool := (decide (1 ≤ (a.size : Int)) && decide ((a.size : Int) ≤ 8)) && (Lib.trimS a.data.toList azCut).isEmpty
end Go.Proofs.YtabpgjejedjliaaDoorW.PrintOwn
