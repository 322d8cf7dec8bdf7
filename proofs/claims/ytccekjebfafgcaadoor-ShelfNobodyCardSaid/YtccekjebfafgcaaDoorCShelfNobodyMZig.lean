/- Numbers of either sign as numbers (P1.2). No program in sight. -/
import Derived.Test.YtccekjebfafgcaaDoorCShelfNobodyMVarint
namespace Go.Proofs.YtccekjebfafgcaaDoor.M
open Go.RowKit Go.Proofs.YtccekjebfafgcaaDoorW.PrintWords Go.Proofs.YtccekjebfafgcaaDoorW.PrintMore

end Go.Proofs.YtccekjebfafgcaaDoor.M
