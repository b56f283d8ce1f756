-- The library's contract of slices.SortFunc at structs, laid for this seat's program.
import Derived.Test.YtbhgjengdkofaaaProg
import Derived.Shelf.SlSortCmp.WholeK
import Derived.Shelf.Lay
import Derived.Ground.SlsfProg
import Derived.Ground.NamesProg
namespace Go.Proofs
open Go.Shelf Go.RowKit Go.Lib Go.Sort
shelf_lay_g SlLaysF0.n6 Slsf 6 at Try 26 as Try.sortRow
end Go.Proofs
