/- The law FrameBack: what was framed is taken, all of it, in its order; whatever is behind, it stands at the front. No further condition. -/
import Derived.Test.YtacjpkfpniolmaaDoorEFrameBackx4
namespace Go.Proofs.YtacjpkfpniolmaaDoor.Pure
open Go.RowKit Go.Proofs.YtacjpkfpniolmaaDoor.EFrameBack Go.Proofs.YtacjpkfpniolmaaDoorW.PrintWords Go.Proofs.YtacjpkfpniolmaaDoorW.PrintLast Go.Proofs.YtacjpkfpniolmaaDoorW.PrintMore
theorem awake : pleachlaw14_awake.f = some true := by
  have hw : M.fwrong (⟨#[97]⟩ : ByteArray) = 0 := by decide
  have hl : (M.frm (⟨#[97]⟩ : ByteArray)).length = 6 := by
    rw [M.frm_length]
    show (M.vb 5).length + 1 + 4 = 6
    rw [M.vb_low (by decide)]; rfl
  have hz : (M.sb (M.frm (⟨#[97]⟩ : ByteArray))).size = 6 := by rw [M.size_sb, hl]
  have ht := M.ftake_here (s := M.sb (M.frm (⟨#[97]⟩ : ByteArray)) ++ (⟨#[120]⟩ : ByteArray)) (t := ⟨#[97]⟩) (r := [120]) (by rw [M.bs_append, M.bs_sb]; rfl) hw
  rw [hl] at ht
  have hs : M.fsize [(⟨#[97]⟩ : ByteArray)] = 6 := by simp [M.fsize, hl]
  have e1 : frame_Put.f (⟨#[97]⟩ : ByteArray) = some (M.sb (M.frm (⟨#[97]⟩ : ByteArray)), 0) := by unfold frame_Put.f; rw [if_pos hw]
  have e2 : frame_Take.f (M.sb (M.frm (⟨#[97]⟩ : ByteArray)) ++ (⟨#[120]⟩ : ByteArray)) = some (⟨#[97]⟩, ((6 : Nat) : Int), 0) := by
    unfold frame_Take.f; rw [if_pos (by rw [M.size_append, hz]; decide), ht]
  have e3 : frame_Size.f [(⟨#[97]⟩ : ByteArray)] = some ((6 : Nat) : Int) := by
    unfold frame_Size.f; rw [if_pos ⟨by decide, by intro s h; rw [List.mem_singleton.1 h]; decide⟩, hs]
  have e4 : (⟨#[97]⟩ : ByteArray).toList = [97] := by rw [M.toList_bs]; rfl
  unfold pleachlaw14_awake.f
  rw [e1, Option.bind_some]
  simp only
  rw [hz, if_pos (by decide), e2, Option.bind_some]
  simp only
  rw [if_pos (by decide), if_pos trivial, if_pos e4, if_pos (by decide), if_pos trivial, e3]; rfl
theorem few (l : List ByteArray) : ∃ b, pleachlaw14_few.f l = some b ∧ (b = true → l.length ≤ 60 ∧ ∀ s ∈ l, s.size ≤ 5000) := by
  unfold pleachlaw14_few.f
  by_cases h : (l.length : Int) ≤ 60
  · unfold pleachplain_Bytes.f
    rw [if_pos h, if_pos (by omega), Option.bind_some]
    refine ⟨_, rfl, fun hb => ⟨by omega, fun s hs => ?_⟩⟩
    have hb := of_decide_eq_true hb
    have := M.bytesN_each l 0 (by omega) s hs
    omega
  · rw [if_neg h]
    exact ⟨_, rfl, fun z => by cases z⟩
theorem row_size (l : List ByteArray) (h : ∀ s ∈ l, s.size ≤ 5000) : (l.flatMap M.frm).length ≤ l.length * 5100 ∧ M.fsize l ≤ l.length * 5100 := by
  induction l with
  | nil => exact ⟨Nat.le_refl _, Nat.le_refl _⟩
  | cons s l ih =>
    obtain ⟨h1, h2⟩ := ih (fun x hx => h x (List.mem_cons_of_mem _ hx))
    have hz := h s List.mem_cons_self
    have hf := M.frm_length s
    have hv := M.vb_le (s.size + 4) (by omega)
    unfold M.fsize at h2 ⊢
    rw [List.flatMap_cons, List.length_append, List.map_cons, List.sum_cons, List.length_cons]
    omega
theorem FrameBack : pleachlaw14_FrameBack.Pure := by
  intro l s _ _
  obtain ⟨b, hb, hb2⟩ := few l
  refine ⟨1, ?_⟩
  have ha : pleachlaw14_FrameBack.j0 1 l s true = some true := by rw [pleachlaw14_FrameBack.j0, if_pos rfl, awake]; rfl
  unfold pleachlaw14_FrameBack.f
  rw [hb, Option.bind_some]
  cases b with
  | false => rw [if_neg (by simp)]; exact ha
  | true =>
    obtain ⟨hl, hs⟩ := hb2 rfl
    rw [if_pos rfl]
    by_cases hz : (s.size : Int) > 1000
    · rw [decide_eq_true hz]; exact ha
    · rw [decide_eq_false hz, pleachlaw14_FrameBack.j0, if_neg (by simp)]
      unfold frame_Row.f
      rw [if_pos (by omega), Option.bind_some]
      by_cases he : (M.frow l).2 = 0
      · obtain ⟨hw, hf⟩ := M.frowF_ok l [] he
        have hf : M.frow l = (M.sb (l.flatMap M.frm), 0) := hf
        have hsz := (row_size l hs).1
        obtain ⟨t, ht⟩ : ∃ t, t = M.sb (l.flatMap M.frm) := ⟨_, rfl⟩
        have htb : M.bs t = l.flatMap M.frm := by rw [ht, M.bs_sb]
        have htz : t.size = (l.flatMap M.frm).length := by rw [← M.bs_length, htb]
        obtain ⟨m1, n1, e1, _, e3⟩ := M.fwhole_here l (t.size + 1) t 0 [] hw (by omega) (by rw [List.drop_zero, htb, List.append_nil]) (Nat.zero_le _)
        obtain ⟨rfl, rfl⟩ := e3 rfl
        rw [List.append_nil] at e1
        obtain ⟨m2, n2, f1, f2, _⟩ := M.fwhole_here l ((t ++ s).size + 1) (t ++ s) 0 (M.bs s) hw (by omega) (by rw [List.drop_zero, M.bs_append, htb]) (Nat.zero_le _)
        have g1 : frame_All.f t = some (l, 0) := by
          unfold frame_All.f M.fwhole
          rw [if_pos (by omega), e1]
          simp only
          rw [if_neg (by omega)]
        have g2 : frame_Whole.f (t ++ s) = some (l ++ m2, (n2 : Int)) := by
          unfold frame_Whole.f M.fwhole
          rw [if_pos (by rw [M.size_append]; omega), f1]
        have g3 : pleachplain_Texts.f l l = some true := by unfold pleachplain_Texts.f; rw [if_pos (by omega), decide_eq_true rfl]
        have hm : mn (l.length : Int) ((l ++ m2).length : Int) = (l.length : Int) := M.mn_le (by rw [List.length_append]; omega)
        rw [hf]
        simp only
        rw [if_pos trivial, ← ht, g1, Option.bind_some, if_pos (by omega), g2, Option.bind_some]
        simp only
        rw [g3, Option.bind_some, if_pos rfl, if_pos trivial, if_pos (by omega), if_pos (by rw [List.length_append]; omega), hm, if_pos (by omega), if_pos (by rw [List.length_append]; omega), Int.toNat_natCast, List.take_left' rfl, g3, Option.bind_some, if_pos rfl, awake]; rfl
      · have hx := M.frowF_err l [] he
        have hx : (M.frow l).1 = M.sb [] := hx
        rw [if_neg he, hx, if_pos (by rw [M.toList_bs, M.bs_sb]), awake]; rfl
end Go.Proofs.YtacjpkfpniolmaaDoor.Pure
