/- What stands between two places of a text, and what is read there (layer 4). No program in sight. -/
import Derived.Test.YtccekjebfafgcaaDoorCShelfApartMScan
namespace Go.Proofs.YtccekjebfafgcaaDoor.M
open Go.RowKit Go.Proofs.YtccekjebfafgcaaDoorW.PrintWords Go.Proofs.YtccekjebfafgcaaDoorW.PrintMore

end Go.Proofs.YtccekjebfafgcaaDoor.M
