/- The law ShelfApart. No further condition: what the walk shows is the law itself. -/
import Derived.Test.YtccekjebfafgcaaDoorEShelfApartx10
namespace Go.Proofs.YtccekjebfafgcaaDoor.Pure
open Go.RowKit Go.Proofs.YtccekjebfafgcaaDoor.EShelfApart Go.Proofs.YtccekjebfafgcaaDoorW.PrintWords Go.Proofs.YtccekjebfafgcaaDoorW.PrintLast Go.Proofs.YtccekjebfafgcaaDoorW.PrintMore
theorem ShelfApart : pleachlaw16_ShelfApart.Pure := by intro _ _ _ _; intros; rfl
end Go.Proofs.YtccekjebfafgcaaDoor.Pure
