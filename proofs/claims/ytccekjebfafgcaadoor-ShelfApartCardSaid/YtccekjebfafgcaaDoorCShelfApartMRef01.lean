/- What the references of layer 1 compute: digits, their bytes, the number at the front. No program in sight. -/
import Derived.Test.YtccekjebfafgcaaDoorCShelfApartMZig
namespace Go.Proofs.YtccekjebfafgcaaDoor.M
open Go.RowKit Go.Proofs.YtccekjebfafgcaaDoorW.PrintWords Go.Proofs.YtccekjebfafgcaaDoorW.PrintMore

end Go.Proofs.YtccekjebfafgcaaDoor.M
