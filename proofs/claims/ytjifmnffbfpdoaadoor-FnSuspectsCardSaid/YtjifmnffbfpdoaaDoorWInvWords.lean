-- The print's words for this seat, cut by wip/print/trim.py to what this seat's texts reach.
import Derived.Test.YtjifmnffbfpdoaaDoorWInv
import Derived.Test.YtjifmnffbfpdoaaDoorWFootNe
namespace Go.Proofs.YtjifmnffbfpdoaaDoorW.PrintWords
open Go.RowKit
end Go.Proofs.YtjifmnffbfpdoaaDoorW.PrintWords
namespace Go.Proofs.YtjifmnffbfpdoaaDoorW.PrintLast
section
variable {ops : Array Oper} {a : Act} {o og : Oper} {g : Nat} {t : Tmp} {u : Bool}
end
end Go.Proofs.YtjifmnffbfpdoaaDoorW.PrintLast
