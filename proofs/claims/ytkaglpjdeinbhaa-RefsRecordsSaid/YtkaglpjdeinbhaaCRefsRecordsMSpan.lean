/- What stands between two places of a text, and what is read there (layer 4). No program in sight. -/
import Derived.Test.YtkaglpjdeinbhaaCRefsRecordsMScan
namespace Go.Proofs.Ytkaglpjdeinbhaa.M
open Go.RowKit Go.Proofs.YtkaglpjdeinbhaaW.PrintWords Go.Proofs.YtkaglpjdeinbhaaW.PrintMore

end Go.Proofs.Ytkaglpjdeinbhaa.M
