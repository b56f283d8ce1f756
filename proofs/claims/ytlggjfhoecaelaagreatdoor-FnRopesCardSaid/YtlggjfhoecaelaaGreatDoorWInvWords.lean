-- The print's words for this seat, cut by wip/print/trim.py to what this seat's texts reach.
import Derived.Test.YtlggjfhoecaelaaGreatDoorWInv
import Derived.Test.YtlggjfhoecaelaaGreatDoorWFootNe
namespace Go.Proofs.YtlggjfhoecaelaaGreatDoorW.PrintWords
open Go.RowKit
end Go.Proofs.YtlggjfhoecaelaaGreatDoorW.PrintWords
namespace Go.Proofs.YtlggjfhoecaelaaGreatDoorW.PrintLast
section
variable {ops : Array Oper} {a : Act} {o og : Oper} {g : Nat} {t : Tmp} {u : Bool}
end
end Go.Proofs.YtlggjfhoecaelaaGreatDoorW.PrintLast
