/- Frames (layer 14), one behind the other, and what is taken of bytes. No program in sight. -/
import Derived.Test.YtccekjebfafgcaaDoorCShelfApartMCrc
import Derived.Test.YtccekjebfafgcaaDoorCShelfApartMSpan
namespace Go.Proofs.YtccekjebfafgcaaDoor.M
open Go.RowKit Go.Proofs.YtccekjebfafgcaaDoorW.PrintWords Go.Proofs.YtccekjebfafgcaaDoorW.PrintMore

end Go.Proofs.YtccekjebfafgcaaDoor.M
