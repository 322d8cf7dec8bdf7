/- The law CommitPuts. No further condition: what the walk shows is the law itself. -/
import Derived.Test.YtikdbklmhjlfoaaDoorECommitPutsx10
namespace Go.Proofs.YtikdbklmhjlfoaaDoor.Pure
open Go.RowKit Go.Proofs.YtikdbklmhjlfoaaDoor.ECommitPuts Go.Proofs.YtikdbklmhjlfoaaDoorW.PrintWords Go.Proofs.YtikdbklmhjlfoaaDoorW.PrintLast Go.Proofs.YtikdbklmhjlfoaaDoorW.PrintMore
theorem CommitPuts : pleachlaw35_CommitPuts.Pure := fun _ _ _ _ _ _ _ _ => rfl
end Go.Proofs.YtikdbklmhjlfoaaDoor.Pure
