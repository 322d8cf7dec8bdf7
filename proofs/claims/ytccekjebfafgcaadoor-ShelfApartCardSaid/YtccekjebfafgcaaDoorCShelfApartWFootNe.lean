-- Cut by this session's own program (wip/tools/cut.py) out of words that print.sh laid for the seat: no longer as printed; Lean checks it.
import Derived.Test.YtccekjebfafgcaaDoorCShelfApartWN
/-! ### 52. A row that stays read whatever happens to a block (a set of blocks) doesn't lie there -/
namespace Go.Proofs.YtccekjebfafgcaaDoorW.PrintWords
open Go.RowKit
namespace Kd
section
variable {α : Type} {d : Kd α} {W : World} {g n : Nat} {S ok : Nat → Prop} {A : Option Addr} {ad : Addr} {xs : List α}
end
end Kd
end Go.Proofs.YtccekjebfafgcaaDoorW.PrintWords
