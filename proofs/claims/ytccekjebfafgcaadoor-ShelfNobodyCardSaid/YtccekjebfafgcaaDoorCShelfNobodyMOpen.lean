/- Arguments of whatever kind, as they are read before a call, are rows, records and texts that the printed contracts take. No program in sight. -/
import Derived.Test.YtccekjebfafgcaaDoorCShelfNobodyMBytes
import Derived.ChangeArms
import Derived.Deep.Slices
import Derived.WideShapes
import Derived.OpenShut
namespace Go.Proofs.YtccekjebfafgcaaDoor.M
open Go.RowKit Go.ChangeShapes Go.WideShapes Go.Proofs.YtccekjebfafgcaaDoorW.PrintWords Go.Proofs.YtccekjebfafgcaaDoorW.PrintMore

end Go.Proofs.YtccekjebfafgcaaDoor.M
