-- The print's words for this seat, cut by wip/print/trim.py to what this seat's texts reach.
import Derived.Test.YtgnnpgallnafcaaDoorWInv
import Derived.Test.YtgnnpgallnafcaaDoorWFootNe
namespace Go.Proofs.YtgnnpgallnafcaaDoorW.PrintWords
open Go.RowKit
end Go.Proofs.YtgnnpgallnafcaaDoorW.PrintWords
namespace Go.Proofs.YtgnnpgallnafcaaDoorW.PrintLast
section
variable {ops : Array Oper} {a : Act} {o og : Oper} {g : Nat} {t : Tmp} {u : Bool}
end
end Go.Proofs.YtgnnpgallnafcaaDoorW.PrintLast
