/- The law ShelfNobody. No further condition: what the walk shows is the law itself. -/
import Derived.Test.YtccekjebfafgcaaDoorEShelfNobodyx5
namespace Go.Proofs.YtccekjebfafgcaaDoor.Pure
open Go.RowKit Go.Proofs.YtccekjebfafgcaaDoor.EShelfNobody Go.Proofs.YtccekjebfafgcaaDoorW.PrintWords Go.Proofs.YtccekjebfafgcaaDoorW.PrintLast Go.Proofs.YtccekjebfafgcaaDoorW.PrintMore
theorem ShelfNobody : pleachlaw16_ShelfNobody.Pure := by intro _ _ _; intros; rfl
end Go.Proofs.YtccekjebfafgcaaDoor.Pure
