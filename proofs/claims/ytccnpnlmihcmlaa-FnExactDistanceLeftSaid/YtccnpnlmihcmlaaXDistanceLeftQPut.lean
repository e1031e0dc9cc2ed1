-- The print's words that FnExactDistanceLeft needs (prunewords.py). Not trusted: Lean checks it.
import Derived.Test.YtccnpnlmihcmlaaXDistanceLeftWords
import Derived.Test.YtccnpnlmihcmlaaXDistanceLeftLast
namespace Go.Proofs.YtccnpnlmihcmlaaW.PrintWords
open Go.RowKit
namespace Kd
end Kd
end Go.Proofs.YtccnpnlmihcmlaaW.PrintWords
