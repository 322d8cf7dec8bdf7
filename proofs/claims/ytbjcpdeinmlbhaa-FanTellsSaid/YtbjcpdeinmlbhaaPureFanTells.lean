/- The law FanTells. No further condition: what the walk shows is the law itself. -/
import Derived.Test.YtbjcpdeinmlbhaaEFanTellsx3
namespace Go.Proofs.Ytbjcpdeinmlbhaa.Pure
open Go.RowKit Go.Proofs.Ytbjcpdeinmlbhaa.EFanTells Go.Proofs.YtbjcpdeinmlbhaaW.PrintWords Go.Proofs.YtbjcpdeinmlbhaaW.PrintLast Go.Proofs.YtbjcpdeinmlbhaaW.PrintMore
theorem FanTells : pleachlaw12_FanTells.Pure := by
  intro l k _ hk
  unfold pleachlaw12_FanTells.f
  exact if_pos (M.wf_i64 hk)
end Go.Proofs.Ytbjcpdeinmlbhaa.Pure
