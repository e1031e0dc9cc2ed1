-- The print's words that FnExactNewJob needs (prunewords.py). Not trusted: Lean checks it.
import Derived.Test.YtccnpnlmihcmlaaXNewJobN
namespace Go.Proofs.YtccnpnlmihcmlaaW.PrintWords
open Go.RowKit
namespace Kd
end Kd
end Go.Proofs.YtccnpnlmihcmlaaW.PrintWords
