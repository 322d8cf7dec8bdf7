/- The law FanFinds. No further condition: what the walk shows is the law itself. -/
import Derived.Test.YtbjcpdeinmlbhaaEFanFindsx3
namespace Go.Proofs.Ytbjcpdeinmlbhaa.Pure
open Go.RowKit Go.Proofs.Ytbjcpdeinmlbhaa.EFanFinds Go.Proofs.YtbjcpdeinmlbhaaW.PrintWords Go.Proofs.YtbjcpdeinmlbhaaW.PrintLast Go.Proofs.YtbjcpdeinmlbhaaW.PrintMore
theorem FanFinds : pleachlaw12_FanFinds.Pure := by intro l s _ _; rfl
end Go.Proofs.Ytbjcpdeinmlbhaa.Pure
