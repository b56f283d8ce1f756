-- The print's words for this seat, cut by wip/print/trim.py to what this seat's texts reach.
import Derived.Test.YtadnngaaobgdgaaWInv
import Derived.Test.YtadnngaaobgdgaaWFootNe
namespace Go.Proofs.YtadnngaaobgdgaaW.PrintWords
open Go.RowKit
end Go.Proofs.YtadnngaaobgdgaaW.PrintWords
namespace Go.Proofs.YtadnngaaobgdgaaW.PrintLast
section
variable {ops : Array Oper} {a : Act} {o og : Oper} {g : Nat} {t : Tmp} {u : Bool}
end
end Go.Proofs.YtadnngaaobgdgaaW.PrintLast
