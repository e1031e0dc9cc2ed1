-- The print's words that FnExactNewJob needs (prunewords.py). Not trusted: Lean checks it.
import Derived.Test.YtccnpnlmihcmlaaXNewJobInv
import Derived.Test.YtccnpnlmihcmlaaXNewJobFootNe
namespace Go.Proofs.YtccnpnlmihcmlaaW.PrintWords
open Go.RowKit
end Go.Proofs.YtccnpnlmihcmlaaW.PrintWords
namespace Go.Proofs.YtccnpnlmihcmlaaW.PrintLast
section
variable {ops : Array Oper} {a : Act} {o og : Oper} {g : Nat} {t : Tmp} {u : Bool}
theorem eval_of {v : Value} (h : a.tmps[t]? = some v) : a.eval (.tmp t) = v := by simp [Act.eval, h]
end
end Go.Proofs.YtccnpnlmihcmlaaW.PrintLast
