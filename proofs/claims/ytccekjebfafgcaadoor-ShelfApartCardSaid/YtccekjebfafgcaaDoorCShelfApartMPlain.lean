/- Plain helpers of the statements: how many bytes texts have, whether two lists are the same. No program in sight. -/
import Derived.Test.YtccekjebfafgcaaDoorCShelfApartMBytes
namespace Go.Proofs.YtccekjebfafgcaaDoor.M
open Go.RowKit Go.Proofs.YtccekjebfafgcaaDoorW.PrintWords Go.Proofs.YtccekjebfafgcaaDoorW.PrintMore

end Go.Proofs.YtccekjebfafgcaaDoor.M
