-- The print's words that FnExactStartOf needs (prunewords.py). Not trusted: Lean checks it.
import Derived.Test.YtccnpnlmihcmlaaXStartOfWords
import Derived.Test.YtccnpnlmihcmlaaXStartOfLast
namespace Go.Proofs.YtccnpnlmihcmlaaW.PrintWords
open Go.RowKit
namespace Kd
end Kd
end Go.Proofs.YtccnpnlmihcmlaaW.PrintWords
