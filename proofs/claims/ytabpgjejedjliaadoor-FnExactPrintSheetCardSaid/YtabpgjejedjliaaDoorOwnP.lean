-- Words of this session for a text that fills a strings.Builder. Not trusted: Lean checks it.
import Derived.Test.YtabpgjejedjliaaDoorWMore
import Derived.Shelf.Strings.Builder1
import Derived.Shelf.Strconv.Itoa3
import Derived.Lib.SmallJoins
import Derived.Lib.AppendIntMem
namespace Go.Proofs.YtabpgjejedjliaaDoorW.PrintOwn
open Go.RowKit Go.Proofs.YtabpgjejedjliaaDoorW.PrintWords
/-- A builder stays one while new blocks come behind it. -/
theorem ib_below {T e : TypeId} {B b : Nat} {bs : List Value} {w w' : World} (h : Lib.IsBuilder T e B b bs w) (hb : Below w.heap.size w w') : Lib.IsBuilder T e B b bs w' := by
  have ho : ∀ {v : Value}, w.ownsRow B e 1 v bs.length bs → w'.ownsRow B e 1 v bs.length bs := fun {v} h2 => h2.kept (row := none) ⟨hb.os, hb.tape, hb.output, hb.size, fun j hj _ => hb.block j hj⟩ (by cases hv : v.ownBlock <;> simp)
  rcases h with ⟨hB, v, h1, h2, h3⟩ | ⟨hB, v, h1, h2, h3⟩
  · exact Or.inl ⟨hB, v, blk_below h1 hb, ho h2, h3⟩
  · exact Or.inr ⟨hB, v, blk_below h1 hb, ho h2, h3⟩
theorem ib_start {T e : TypeId} {w : World} {b : Nat} (hb : w.heap[b]? = some (.cells #[.pointer none, .slice none 0 0] T (0, 0))) : Lib.IsBuilder T e b b [] w :=
  Or.inl ⟨Nat.le_refl _, .slice none 0 0, hb, World.ownsRow_nil _ _ _ _, by simp [Value.ownBlock]⟩
theorem ib_drew {T e : TypeId} {B b : Nat} {bs : List Value} {w : World} (h : Lib.IsBuilder T e B b bs w) : Lib.IsBuilder T e B b bs w.drew := ib_below h (below_drew1 (Below.refl _ _))
theorem tab_below_ {P : Program} {w w' : World} {g : Nat} {n : String} {k : IntKind} {zs : List Int} (hg : P.globalNamed n = some g) (h : Lib.TabIs P w n k zs) (hb : Below w.heap.size w w') : Lib.TabIs P w' n k zs := Joins.tab_stays hg h hb (Nat.le_refl _)
theorem cells_str (s : ByteArray) : Lib.strCells s = Lib.byteCells s.data.toList := rfl
theorem cells_app (a b : List UInt8) : Lib.byteCells a ++ Lib.byteCells b = Lib.byteCells (a ++ b) := by simp [Lib.byteCells]
end Go.Proofs.YtabpgjejedjliaaDoorW.PrintOwn
