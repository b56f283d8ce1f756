-- The print's words for this seat, cut by wip/print/trim.py to what this seat's texts reach.
import Derived.Test.YtcjchobajjbhkaaWInv
import Derived.Test.YtcjchobajjbhkaaWFootNe
namespace Go.Proofs.YtcjchobajjbhkaaW.PrintWords
open Go.RowKit
end Go.Proofs.YtcjchobajjbhkaaW.PrintWords
namespace Go.Proofs.YtcjchobajjbhkaaW.PrintLast
section
variable {ops : Array Oper} {a : Act} {o og : Oper} {g : Nat} {t : Tmp} {u : Bool}
end
end Go.Proofs.YtcjchobajjbhkaaW.PrintLast
