-- The print's words that FnExactJoinSheets needs (prunewords.py). Not trusted: Lean checks it.
import Derived.Test.YtabpgjejedjliaaDoorXJoinSheetsWords
namespace Go.Proofs.YtabpgjejedjliaaDoorW.PrintWords
open Go.RowKit
namespace Kd
end Kd
end Go.Proofs.YtabpgjejedjliaaDoorW.PrintWords
