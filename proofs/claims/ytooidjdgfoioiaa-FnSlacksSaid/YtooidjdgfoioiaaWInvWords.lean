-- The print's words for this seat, cut by wip/print/trim.py to what this seat's texts reach.
import Derived.Test.YtooidjdgfoioiaaWInv
import Derived.Test.YtooidjdgfoioiaaWFootNe
namespace Go.Proofs.YtooidjdgfoioiaaW.PrintWords
open Go.RowKit
end Go.Proofs.YtooidjdgfoioiaaW.PrintWords
namespace Go.Proofs.YtooidjdgfoioiaaW.PrintLast
section
variable {ops : Array Oper} {a : Act} {o og : Oper} {g : Nat} {t : Tmp} {u : Bool}
end
end Go.Proofs.YtooidjdgfoioiaaW.PrintLast
