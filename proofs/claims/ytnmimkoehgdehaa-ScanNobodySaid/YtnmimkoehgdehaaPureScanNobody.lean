/- The law ScanNobody: of a Scan that no call made nothing is read. No further condition. -/
import Derived.Test.YtnmimkoehgdehaaEScanNobodyx2
namespace Go.Proofs.Ytnmimkoehgdehaa.Pure
open Go.RowKit Go.Proofs.Ytnmimkoehgdehaa.EScanNobody Go.Proofs.YtnmimkoehgdehaaW.PrintWords Go.Proofs.YtnmimkoehgdehaaW.PrintLast Go.Proofs.YtnmimkoehgdehaaW.PrintMore
theorem ScanNobody : pleachlaw04_ScanNobody.Pure := by
  intro n b _
  rfl
end Go.Proofs.Ytnmimkoehgdehaa.Pure
