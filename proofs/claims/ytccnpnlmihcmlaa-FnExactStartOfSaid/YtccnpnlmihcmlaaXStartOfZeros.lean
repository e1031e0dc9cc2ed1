-- The print's words that FnExactStartOf needs (prunewords.py). Not trusted: Lean checks it.
import Derived.Test.YtccnpnlmihcmlaaXStartOfApart
import Derived.Test.YtccnpnlmihcmlaaXStartOfArr
namespace Go.Proofs.YtccnpnlmihcmlaaW.PrintWords
open Go.RowKit
namespace Kd
end Kd
end Go.Proofs.YtccnpnlmihcmlaaW.PrintWords
