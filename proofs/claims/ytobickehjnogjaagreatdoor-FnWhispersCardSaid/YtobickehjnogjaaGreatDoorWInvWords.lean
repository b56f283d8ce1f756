-- The print's words for this seat, cut by wip/print/trim.py to what this seat's texts reach.
import Derived.Test.YtobickehjnogjaaGreatDoorWInv
import Derived.Test.YtobickehjnogjaaGreatDoorWFootNe
namespace Go.Proofs.YtobickehjnogjaaGreatDoorW.PrintWords
open Go.RowKit
end Go.Proofs.YtobickehjnogjaaGreatDoorW.PrintWords
namespace Go.Proofs.YtobickehjnogjaaGreatDoorW.PrintLast
section
variable {ops : Array Oper} {a : Act} {o og : Oper} {g : Nat} {t : Tmp} {u : Bool}
end
end Go.Proofs.YtobickehjnogjaaGreatDoorW.PrintLast
