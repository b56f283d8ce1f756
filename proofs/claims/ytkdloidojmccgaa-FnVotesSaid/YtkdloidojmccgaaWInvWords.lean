-- The print's words for this seat, cut by wip/print/trim.py to what this seat's texts reach.
import Derived.Test.YtkdloidojmccgaaWInv
import Derived.Test.YtkdloidojmccgaaWFootNe
namespace Go.Proofs.YtkdloidojmccgaaW.PrintWords
open Go.RowKit
end Go.Proofs.YtkdloidojmccgaaW.PrintWords
namespace Go.Proofs.YtkdloidojmccgaaW.PrintLast
section
variable {ops : Array Oper} {a : Act} {o og : Oper} {g : Nat} {t : Tmp} {u : Bool}
end
end Go.Proofs.YtkdloidojmccgaaW.PrintLast
