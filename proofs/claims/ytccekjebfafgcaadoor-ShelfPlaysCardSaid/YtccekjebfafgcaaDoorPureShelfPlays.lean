/- The law ShelfPlays. No further condition: what the walk shows is the law itself. -/
import Derived.Test.YtccekjebfafgcaaDoorEShelfPlaysx10
namespace Go.Proofs.YtccekjebfafgcaaDoor.Pure
open Go.RowKit Go.Proofs.YtccekjebfafgcaaDoor.EShelfPlays Go.Proofs.YtccekjebfafgcaaDoorW.PrintWords Go.Proofs.YtccekjebfafgcaaDoorW.PrintLast Go.Proofs.YtccekjebfafgcaaDoorW.PrintMore
theorem ShelfPlays : pleachlaw16_ShelfPlays.Pure := by intro _ _ _; intros; rfl
end Go.Proofs.YtccekjebfafgcaaDoor.Pure
