/- Frames (layer 14), one behind the other, and what is taken of bytes. No program in sight. -/
import Derived.Test.YtikdbklmhjlfoaaDoorCCommitPutsMCrc
import Derived.Test.YtikdbklmhjlfoaaDoorCCommitPutsMSpan
namespace Go.Proofs.YtikdbklmhjlfoaaDoor.M
open Go.RowKit Go.Proofs.YtikdbklmhjlfoaaDoorW.PrintWords Go.Proofs.YtikdbklmhjlfoaaDoorW.PrintMore

end Go.Proofs.YtikdbklmhjlfoaaDoor.M
