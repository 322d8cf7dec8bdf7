/- The law FrameTakes: the text whose frame any bytes begin with, and all that stand at their front, are the document's. No further condition. -/
import Derived.Test.YtacjpkfpniolmaaDoorEFrameTakesx8
namespace Go.Proofs.YtacjpkfpniolmaaDoor.Pure
open Go.RowKit Go.Proofs.YtacjpkfpniolmaaDoor.EFrameTakes Go.Proofs.YtacjpkfpniolmaaDoorW.PrintWords Go.Proofs.YtacjpkfpniolmaaDoorW.PrintLast Go.Proofs.YtacjpkfpniolmaaDoorW.PrintMore
theorem awake : pleachlaw14_awake.f = some true := by
  have hw : M.fwrong (⟨#[97]⟩ : ByteArray) = 0 := by decide
  have hl : (M.frm (⟨#[97]⟩ : ByteArray)).length = 6 := by
    rw [M.frm_length]
    show (M.vb 5).length + 1 + 4 = 6
    rw [M.vb_low (by decide)]; rfl
  have hz : (M.sb (M.frm (⟨#[97]⟩ : ByteArray))).size = 6 := by rw [M.size_sb, hl]
  have ht := M.ftake_here (s := M.sb (M.frm (⟨#[97]⟩ : ByteArray)) ++ (⟨#[120]⟩ : ByteArray)) (t := ⟨#[97]⟩) (r := [120]) (by rw [M.bs_append, M.bs_sb]; rfl) hw
  rw [hl] at ht
  have hs : M.fsize [(⟨#[97]⟩ : ByteArray)] = 6 := by simp [M.fsize, hl]
  have e1 : frame_Put.f (⟨#[97]⟩ : ByteArray) = some (M.sb (M.frm (⟨#[97]⟩ : ByteArray)), 0) := by unfold frame_Put.f; rw [if_pos hw]
  have e2 : frame_Take.f (M.sb (M.frm (⟨#[97]⟩ : ByteArray)) ++ (⟨#[120]⟩ : ByteArray)) = some (⟨#[97]⟩, ((6 : Nat) : Int), 0) := by
    unfold frame_Take.f; rw [if_pos (by rw [M.size_append, hz]; decide), ht]
  have e3 : frame_Size.f [(⟨#[97]⟩ : ByteArray)] = some ((6 : Nat) : Int) := by
    unfold frame_Size.f; rw [if_pos ⟨by decide, by intro s h; rw [List.mem_singleton.1 h]; decide⟩, hs]
  have e4 : (⟨#[97]⟩ : ByteArray).toList = [97] := by rw [M.toList_bs]; rfl
  unfold pleachlaw14_awake.f
  rw [e1, Option.bind_some]
  simp only
  rw [hz, if_pos (by decide), e2, Option.bind_some]
  simp only
  rw [if_pos (by decide), if_pos trivial, if_pos e4, if_pos (by decide), if_pos trivial, e3]; rfl
theorem fwholeF_len : ∀ (k : Nat) (s : ByteArray) (a : Nat), (M.fwholeF k s a).1.length ≤ k
  | 0, _, _ => Nat.le_refl _
  | k + 1, s, a => by
    rw [M.fwholeF]
    have := fwholeF_len k s (a + (M.ftake (s.extract a s.size)).2.1.toNat)
    split
    · split
      · simp only [List.length_cons]; omega
      · exact Nat.zero_le _
    · exact Nat.zero_le _
theorem fread_err {s : ByteArray} (h : (M.fread s 0 0).2.2 ≠ 0) : (M.fread s 0 0).1 = M.sb [] := by
  unfold M.fread at h ⊢
  split at h
  · rename_i c
    rw [if_pos c]
    split at h
    · exact absurd rfl h
    · rename_i c2
      rw [if_neg c2]
  · rename_i c
    rw [if_neg c]
theorem FrameTakes : pleachlaw14_FrameTakes.Pure := by
  intro s _
  refine ⟨2, ?_⟩
  unfold pleachlaw14_FrameTakes.f
  by_cases hs : (s.size : Int) > 5000
  · rw [if_pos hs, awake]; rfl
  · rw [if_neg hs]
    have h0 : M.sok s 0 := ⟨by decide, by omega, by omega⟩
    have hlen := fwholeF_len (s.size + 1) s 0
    have g3 : pleachplain_Texts.f (M.fwhole s).1 (M.fwhole s).1 = some true := by unfold pleachplain_Texts.f; rw [if_pos (by unfold M.fwhole; omega), decide_eq_true rfl]
    have hj : pleachlaw14_FrameTakes.j0 2 s false = some true := by
      rw [pleachlaw14_FrameTakes.j0, if_neg (by simp)]
      unfold frame_Whole.f pleachref14_Whole.f frame_All.f
      have hz : s.size ≤ 1000000000000 := by omega
      simp only [if_pos hz, Option.bind_some]
      rw [g3, Option.bind_some, if_pos rfl, bne_self_eq_false, pleachlaw14_FrameTakes.j1, if_neg (by simp)]
      by_cases hn : (M.fwhole s).2 < s.size
      · rw [if_pos (by omega), if_pos hn]
        simp only
        rw [if_pos (by simp), if_pos trivial, awake]; rfl
      · rw [if_neg (by omega), if_neg hn]
        simp only
        rw [g3, Option.bind_some, if_pos rfl, if_pos trivial, awake]; rfl
    have e1 : frame_Read.f s 0 0 true = some ((M.fread s 0 0).1, s, (M.fread s 0 0).2.1, (M.fread s 0 0).2.2, true) := by unfold frame_Read.f; rw [if_pos ⟨rfl, h0, by omega⟩]
    have e2 : pleachref14_Read.f s 0 0 = some (s, (M.fread s 0 0).2.1, (M.fread s 0 0).2.2, (M.fread s 0 0).1) := by unfold pleachref14_Read.f; rw [if_pos ⟨h0, by omega⟩]
    have e3 : frame_Take.f s = some (M.ftake s) := by unfold frame_Take.f; rw [if_pos (by omega)]
    unfold scan_New.f
    rw [Option.bind_some]
    simp only
    rw [e1, Option.bind_some, e2, Option.bind_some, e3, Option.bind_some]
    unfold scan_Scan_Err.f scan_Scan_At.f
    simp only [if_true, Option.bind_some]
    by_cases he : (M.fread s 0 0).2.2 = 0
    · have hf : M.ftake s = ((M.fread s 0 0).1, (M.fread s 0 0).2.1, 0) := by unfold M.ftake; rw [if_pos he]
      rw [hf, he]
      simp only [if_true]
      rw [if_neg (by decide)]
      exact hj
    · have hf : M.ftake s = (M.sb [], 0, 3) := by unfold M.ftake; rw [if_neg he]
      have hx := fread_err he
      have hq : ((M.fread s 0 0).2.2 == 0) = false := beq_eq_false_iff_ne.2 he
      rw [hf, hx, hq]
      simp only [if_true]
      rw [if_neg (by decide), if_neg (by decide)]
      exact hj
end Go.Proofs.YtacjpkfpniolmaaDoor.Pure
