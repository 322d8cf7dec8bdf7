/- Sums of 32 bits (layer 2): by a table, four bits at a time; by definition, bit by bit. No program in sight. -/
import Derived.Test.YtkaglpjdeinbhaaCRefsRecordsMBytes
set_option linter.unusedSimpArgs false
namespace Go.Proofs.Ytkaglpjdeinbhaa.M
open Go.RowKit Go.Proofs.YtkaglpjdeinbhaaW.PrintWords Go.Proofs.YtkaglpjdeinbhaaW.PrintMore

end Go.Proofs.Ytkaglpjdeinbhaa.M
