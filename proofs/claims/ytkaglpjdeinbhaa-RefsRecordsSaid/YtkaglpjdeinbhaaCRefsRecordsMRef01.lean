/- What the references of layer 1 compute: digits, their bytes, the number at the front. No program in sight. -/
import Derived.Test.YtkaglpjdeinbhaaCRefsRecordsMZig
namespace Go.Proofs.Ytkaglpjdeinbhaa.M
open Go.RowKit Go.Proofs.YtkaglpjdeinbhaaW.PrintWords Go.Proofs.YtkaglpjdeinbhaaW.PrintMore

end Go.Proofs.Ytkaglpjdeinbhaa.M
