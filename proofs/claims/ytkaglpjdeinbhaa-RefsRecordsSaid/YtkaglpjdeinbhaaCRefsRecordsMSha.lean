/- SHA-256 on whole numbers, as layer 3 has it. No program in sight. -/
import Derived.Test.YtkaglpjdeinbhaaCRefsRecordsMCrc
namespace Go.Proofs.Ytkaglpjdeinbhaa.M
open Go.RowKit Go.Proofs.YtkaglpjdeinbhaaW.PrintWords Go.Proofs.YtkaglpjdeinbhaaW.PrintMore

end Go.Proofs.Ytkaglpjdeinbhaa.M
