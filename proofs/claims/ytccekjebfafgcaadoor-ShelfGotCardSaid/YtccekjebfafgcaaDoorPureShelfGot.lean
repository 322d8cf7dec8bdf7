/- The law ShelfGot. No further condition: what the walk shows is the law itself. -/
import Derived.Test.YtccekjebfafgcaaDoorEShelfGotx6
namespace Go.Proofs.YtccekjebfafgcaaDoor.Pure
open Go.RowKit Go.Proofs.YtccekjebfafgcaaDoor.EShelfGot Go.Proofs.YtccekjebfafgcaaDoorW.PrintWords Go.Proofs.YtccekjebfafgcaaDoorW.PrintLast Go.Proofs.YtccekjebfafgcaaDoorW.PrintMore
theorem ShelfGot : pleachlaw16_ShelfGot.Pure := by intro l _; rfl
end Go.Proofs.YtccekjebfafgcaaDoor.Pure
