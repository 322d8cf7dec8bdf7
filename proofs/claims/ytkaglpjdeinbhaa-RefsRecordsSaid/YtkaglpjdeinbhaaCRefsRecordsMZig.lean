/- Numbers of either sign as numbers (P1.2). No program in sight. -/
import Derived.Test.YtkaglpjdeinbhaaCRefsRecordsMVarint
namespace Go.Proofs.Ytkaglpjdeinbhaa.M
open Go.RowKit Go.Proofs.YtkaglpjdeinbhaaW.PrintWords Go.Proofs.YtkaglpjdeinbhaaW.PrintMore

def zag (u : Int) : Int := if u % 2 = 0 then u / 2 else -1 - u / 2
end Go.Proofs.Ytkaglpjdeinbhaa.M
