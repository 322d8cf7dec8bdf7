/- slices.Sort over a row of texts of the call's own (the shelf's contract, in the print's words); and what it makes of two lists that rise. -/
import Derived.Shelf.Sort.Plain
import Derived.Shelf.Slices.In.SortNone
import Derived.Sort.Walk0
import Derived.Test.YtccekjebfafgcaaDoorCShelfNobodyMRow
import Derived.Test.YtccekjebfafgcaaDoorCShelfNobodyMSorted
import Derived.Test.YtccekjebfafgcaaDoorCShelfNobodyWKept
namespace Go.Proofs.YtccekjebfafgcaaDoor.M
open Go.RowKit Go.Shelf Go.Sort Go.Proofs Go.Proofs.YtccekjebfafgcaaDoorW.PrintWords

variable {P : Program} {ρ : Ren}
end Go.Proofs.YtccekjebfafgcaaDoor.M
