-- The print's words for this seat, cut by wip/print/trim.py to what this seat's texts reach.
import Derived.Test.YtcgbnbblojkglaaWInv
import Derived.Test.YtcgbnbblojkglaaWFootNe
namespace Go.Proofs.YtcgbnbblojkglaaW.PrintWords
open Go.RowKit
end Go.Proofs.YtcgbnbblojkglaaW.PrintWords
namespace Go.Proofs.YtcgbnbblojkglaaW.PrintLast
section
variable {ops : Array Oper} {a : Act} {o og : Oper} {g : Nat} {t : Tmp} {u : Bool}
end
end Go.Proofs.YtcgbnbblojkglaaW.PrintLast
