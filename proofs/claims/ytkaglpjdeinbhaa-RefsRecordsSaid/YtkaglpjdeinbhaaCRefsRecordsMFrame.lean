/- Frames (layer 14), one behind the other, and what is taken of bytes. No program in sight. -/
import Derived.Test.YtkaglpjdeinbhaaCRefsRecordsMCrc
import Derived.Test.YtkaglpjdeinbhaaCRefsRecordsMSpan
namespace Go.Proofs.Ytkaglpjdeinbhaa.M
open Go.RowKit Go.Proofs.YtkaglpjdeinbhaaW.PrintWords Go.Proofs.YtkaglpjdeinbhaaW.PrintMore

end Go.Proofs.Ytkaglpjdeinbhaa.M
