-- Words of this session for texts: names of small letters. Not trusted: Lean checks it.
import Derived.Test.YtabpgjejedjliaaDoorWMore
import Derived.Shelf.Strings.SlTrimAscii
namespace Go.Proofs.YtabpgjejedjliaaDoorW.PrintOwn
open Go.RowKit
/-- The small letters. -/
def azCut : List UInt8 := [97, 98, 99, 100, 101, 102, 103, 104, 105, 106, 107, 108, 109, 110, 111, 112, 113, 114, 115, 116, 117, 118, 119, 120, 121, 122]
/-- A text of small letters alone, one to eight of them. -/
def nameB (a : ByteArray) : Bool := (decide (1 ≤ (a.size : Int)) && decide ((a.size : Int) ≤ 8)) && (Lib.trimS a.data.toList azCut).isEmpty
end Go.Proofs.YtabpgjejedjliaaDoorW.PrintOwn
