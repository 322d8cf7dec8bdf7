/- Rows of texts of the call's own, and the library's Clone, Insert, Delete over them: one contract each, over any program (the shelf's contracts joined). -/
import Derived.Shelf.Slices.Clone
import Derived.Shelf.Slices.Delete
import Derived.Shelf.Spec.SlicesInsert
import Derived.Shelf.Spec.SlicesInsertGrow
import Derived.Sort.OwnSorted
import Derived.Test.YtccekjebfafgcaaDoorCShelfNobodyWWords
namespace Go.Proofs.YtccekjebfafgcaaDoor.M
open Go.RowKit Go.Shelf Go.Sort Go.Proofs Go.Proofs.YtccekjebfafgcaaDoorW.PrintWords
variable {P : Program} {ρ : Ren}

section
variable {α : Type} {d : Kd α} {w w1 : World} {v : Value} {xs : List α}
end
end Go.Proofs.YtccekjebfafgcaaDoor.M
