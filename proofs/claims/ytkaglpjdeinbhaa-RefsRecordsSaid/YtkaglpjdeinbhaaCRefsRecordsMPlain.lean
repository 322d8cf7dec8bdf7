/- Plain helpers of the statements: how many bytes texts have, whether two lists are the same. No program in sight. -/
import Derived.Test.YtkaglpjdeinbhaaCRefsRecordsMBytes
namespace Go.Proofs.Ytkaglpjdeinbhaa.M
open Go.RowKit Go.Proofs.YtkaglpjdeinbhaaW.PrintWords Go.Proofs.YtkaglpjdeinbhaaW.PrintMore

end Go.Proofs.Ytkaglpjdeinbhaa.M
