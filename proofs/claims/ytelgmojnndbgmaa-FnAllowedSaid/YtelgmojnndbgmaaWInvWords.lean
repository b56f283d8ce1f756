-- The print's words for this seat, cut by wip/print/trim.py to what this seat's texts reach.
import Derived.Test.YtelgmojnndbgmaaWInv
import Derived.Test.YtelgmojnndbgmaaWFootNe
namespace Go.Proofs.YtelgmojnndbgmaaW.PrintWords
open Go.RowKit
end Go.Proofs.YtelgmojnndbgmaaW.PrintWords
namespace Go.Proofs.YtelgmojnndbgmaaW.PrintLast
section
variable {ops : Array Oper} {a : Act} {o og : Oper} {g : Nat} {t : Tmp} {u : Bool}
end
end Go.Proofs.YtelgmojnndbgmaaW.PrintLast
