/- The law VarintPuts: any number's bytes are the document's, and so many as it has digits to the base 128; the number with which any bytes begin is the document's, or none is. For every number of 64 bits and every text. No further condition. -/
import Derived.Test.YtaooolfledfhoaaEVarintPutsx3
namespace Go.Proofs.Ytaooolfledfhoaa.Pure
open Go.RowKit Go.Proofs.Ytaooolfledfhoaa.EVarintPuts Go.Proofs.YtaooolfledfhoaaW.PrintWords Go.Proofs.YtaooolfledfhoaaW.PrintLast Go.Proofs.YtaooolfledfhoaaW.PrintMore

theorem VarintPuts : pleachlaw01_VarintPuts.Pure := by
  intro a0 a1 w0 hs
  have hw := M.wf_u64 w0
  have h1 : pleachref01_Get.f a1 = some (M.vget a1) := by unfold pleachref01_Get.f; rw [if_pos (by omega)]
  have h2 : varint_Put.f a0 = some (M.sb (M.vb a0.toNat)) := by unfold varint_Put.f; rw [if_pos hw]
  have h3 : pleachref01_Put.f a0 = some (M.sb (M.vb a0.toNat)) := by unfold pleachref01_Put.f; rw [if_pos hw]
  have h4 : varint_Size.f a0 = some ((M.vb a0.toNat).length : Int) := by unfold varint_Size.f; rw [if_pos hw]
  have h5 : pleachref01_Digits.f a0 = some (M.vdig a0.toNat) := by unfold pleachref01_Digits.f; rw [if_pos hw]
  generalize M.sb (M.vb a0.toNat) = p at h2 h3
  obtain ⟨g, hg⟩ : ∃ g, g = M.vget a1 := ⟨_, rfl⟩
  have h0 : varint_Get.f a1 = some g := by rw [hg]; rfl
  rw [← hg] at h1
  unfold pleachlaw01_VarintPuts.f
  split
  · rfl
  · rw [h0, Option.bind_some, h1, Option.bind_some, h2, Option.bind_some, h3, Option.bind_some, if_pos rfl, h4, Option.bind_some, h5, Option.bind_some, M.vdig_length, if_pos rfl, if_pos rfl, if_pos rfl, if_pos (by simp)]
    rfl

end Go.Proofs.Ytaooolfledfhoaa.Pure
