/- Numbers of either sign as numbers (P1.2). No program in sight. -/
import Derived.Test.YtccekjebfafgcaaDoorCShelfApartMVarint
namespace Go.Proofs.YtccekjebfafgcaaDoor.M
open Go.RowKit Go.Proofs.YtccekjebfafgcaaDoorW.PrintWords Go.Proofs.YtccekjebfafgcaaDoorW.PrintMore

def zag (u : Int) : Int := if u % 2 = 0 then u / 2 else -1 - u / 2
end Go.Proofs.YtccekjebfafgcaaDoor.M
