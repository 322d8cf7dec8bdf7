/- The law FanAny. No further condition: what the walk shows is the law itself. -/
import Derived.Test.YtbjcpdeinmlbhaaEFanAnyx3
namespace Go.Proofs.Ytbjcpdeinmlbhaa.Pure
open Go.RowKit Go.Proofs.Ytbjcpdeinmlbhaa.EFanAny Go.Proofs.YtbjcpdeinmlbhaaW.PrintWords Go.Proofs.YtbjcpdeinmlbhaaW.PrintLast Go.Proofs.YtbjcpdeinmlbhaaW.PrintMore
theorem FanAny : pleachlaw12_FanAny.Pure := by
  intro xs l s hx _ _
  unfold pleachlaw12_FanAny.f
  exact if_pos hx.1
end Go.Proofs.Ytbjcpdeinmlbhaa.Pure
