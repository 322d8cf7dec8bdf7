/- The law VarintSigns: any number of either sign stands where the document says, and comes back; its bytes, and the number of either sign with which any bytes begin, are the document's. For every number and every text. No further condition. -/
import Derived.Test.YtaooolfledfhoaaEVarintSignsx3
namespace Go.Proofs.Ytaooolfledfhoaa.Pure
open Go.RowKit Go.Proofs.Ytaooolfledfhoaa.EVarintSigns Go.Proofs.YtaooolfledfhoaaW.PrintWords Go.Proofs.YtaooolfledfhoaaW.PrintLast Go.Proofs.YtaooolfledfhoaaW.PrintMore

theorem VarintSigns : pleachlaw01_VarintSigns.Pure := by
  intro a0 a1 a2 w0 w1 hs
  have hn := M.wf_i64 w0
  have hu := M.wf_u64 w1
  have hz := M.zig_range hn.1 hn.2
  have hy := M.zag_range hu.1 hu.2
  have hr := M.vget_range a2
  have e1 : varint_Zig.f a0 = some (M.zig a0) := by unfold varint_Zig.f; rw [if_pos hn]
  have e2 : pleachref01_Zig.f a0 = some (M.zig a0) := by unfold pleachref01_Zig.f; rw [if_pos hn]
  have e3 : varint_Zag.f a1 = some (M.zag a1) := by unfold varint_Zag.f; rw [if_pos hu]
  have e4 : pleachref01_Zag.f a1 = some (M.zag a1) := by unfold pleachref01_Zag.f; rw [if_pos hu]
  have e5 : varint_Zag.f (M.zig a0) = some a0 := by unfold varint_Zag.f; rw [if_pos hz, M.zag_zig]
  have e6 : varint_Zig.f (M.zag a1) = some a1 := by unfold varint_Zig.f; rw [if_pos hy, M.zig_zag hu.1]
  have e7 : varint_Int.f a0 = some (M.sb (M.vb (M.zig a0).toNat)) := by unfold varint_Int.f; rw [if_pos hn]
  have e8 : pleachref01_Put.f (M.zig a0) = some (M.sb (M.vb (M.zig a0).toNat)) := by unfold pleachref01_Put.f; rw [if_pos hz]
  generalize M.sb (M.vb (M.zig a0).toNat) = p at e7 e8
  obtain ⟨g, hg⟩ : ∃ g, g = M.vget a2 := ⟨_, rfl⟩
  have h1 : pleachref01_Get.f a2 = some g := by unfold pleachref01_Get.f; rw [if_pos (by omega), hg]
  have h0 : varint_GetInt.f a2 = some (M.zag g.1, g.2.1, g.2.2) := by rw [hg]; rfl
  rw [← hg] at hr
  have e9 : pleachref01_Zag.f g.1 = some (M.zag g.1) := by unfold pleachref01_Zag.f; rw [if_pos ⟨hr.1, hr.2.1⟩]
  refine ⟨1, ?_⟩
  unfold pleachlaw01_VarintSigns.f
  split
  · rfl
  · rw [h0, Option.bind_some, h1, Option.bind_some, e1, Option.bind_some, e2, Option.bind_some, if_pos rfl, e3, Option.bind_some, e4, Option.bind_some, if_pos rfl, e5, Option.bind_some, if_pos rfl, e6, Option.bind_some]
    rw [show (a1 != a1) = false from by simp]
    simp only [pleachlaw01_VarintSigns.j0]
    rw [if_neg (by simp), e7, Option.bind_some, e2, Option.bind_some, e8, Option.bind_some, if_pos rfl, e9, Option.bind_some, if_pos rfl, if_pos trivial, if_pos (by simp)]
    rfl

end Go.Proofs.Ytaooolfledfhoaa.Pure
