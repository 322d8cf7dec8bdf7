/- The law FramePuts: any texts' frames are the document's, or why there are none, and how long they are. No further condition. -/
import Derived.Test.YtacjpkfpniolmaaDoorEFramePutsx5
namespace Go.Proofs.YtacjpkfpniolmaaDoor.Pure
open Go.RowKit Go.Proofs.YtacjpkfpniolmaaDoor.EFramePuts Go.Proofs.YtacjpkfpniolmaaDoorW.PrintWords Go.Proofs.YtacjpkfpniolmaaDoorW.PrintLast Go.Proofs.YtacjpkfpniolmaaDoorW.PrintMore
theorem awake : pleachlaw14_awake.f = some true := by
  have hw : M.fwrong (⟨#[97]⟩ : ByteArray) = 0 := by decide
  have hl : (M.frm (⟨#[97]⟩ : ByteArray)).length = 6 := by
    rw [M.frm_length]
    show (M.vb 5).length + 1 + 4 = 6
    rw [M.vb_low (by decide)]; rfl
  have hz : (M.sb (M.frm (⟨#[97]⟩ : ByteArray))).size = 6 := by rw [M.size_sb, hl]
  have ht := M.ftake_here (s := M.sb (M.frm (⟨#[97]⟩ : ByteArray)) ++ (⟨#[120]⟩ : ByteArray)) (t := ⟨#[97]⟩) (r := [120]) (by rw [M.bs_append, M.bs_sb]; rfl) hw
  rw [hl] at ht
  have hs : M.fsize [(⟨#[97]⟩ : ByteArray)] = 6 := by simp [M.fsize, hl]
  have e1 : frame_Put.f (⟨#[97]⟩ : ByteArray) = some (M.sb (M.frm (⟨#[97]⟩ : ByteArray)), 0) := by unfold frame_Put.f; rw [if_pos hw]
  have e2 : frame_Take.f (M.sb (M.frm (⟨#[97]⟩ : ByteArray)) ++ (⟨#[120]⟩ : ByteArray)) = some (⟨#[97]⟩, ((6 : Nat) : Int), 0) := by
    unfold frame_Take.f; rw [if_pos (by rw [M.size_append, hz]; decide), ht]
  have e3 : frame_Size.f [(⟨#[97]⟩ : ByteArray)] = some ((6 : Nat) : Int) := by
    unfold frame_Size.f; rw [if_pos ⟨by decide, by intro s h; rw [List.mem_singleton.1 h]; decide⟩, hs]
  have e4 : (⟨#[97]⟩ : ByteArray).toList = [97] := by rw [M.toList_bs]; rfl
  unfold pleachlaw14_awake.f
  rw [e1, Option.bind_some]
  simp only
  rw [hz, if_pos (by decide), e2, Option.bind_some]
  simp only
  rw [if_pos (by decide), if_pos trivial, if_pos e4, if_pos (by decide), if_pos trivial, e3]; rfl
theorem few (l : List ByteArray) : ∃ b, pleachlaw14_few.f l = some b ∧ (b = true → l.length ≤ 60 ∧ ∀ s ∈ l, s.size ≤ 5000) := by
  unfold pleachlaw14_few.f
  by_cases h : (l.length : Int) ≤ 60
  · unfold pleachplain_Bytes.f
    rw [if_pos h, if_pos (by omega), Option.bind_some]
    refine ⟨_, rfl, fun hb => ⟨by omega, fun s hs => ?_⟩⟩
    have hb := of_decide_eq_true hb
    have := M.bytesN_each l 0 (by omega) s hs
    omega
  · rw [if_neg h]
    exact ⟨_, rfl, fun z => by cases z⟩
theorem row_size (l : List ByteArray) (h : ∀ s ∈ l, s.size ≤ 5000) : (l.flatMap M.frm).length ≤ l.length * 5100 ∧ M.fsize l ≤ l.length * 5100 := by
  induction l with
  | nil => exact ⟨Nat.le_refl _, Nat.le_refl _⟩
  | cons s l ih =>
    obtain ⟨h1, h2⟩ := ih (fun x hx => h x (List.mem_cons_of_mem _ hx))
    have hz := h s List.mem_cons_self
    have hf := M.frm_length s
    have hv := M.vb_le (s.size + 4) (by omega)
    unfold M.fsize at h2 ⊢
    rw [List.flatMap_cons, List.length_append, List.map_cons, List.sum_cons, List.length_cons]
    omega
theorem loop (l : List ByteArray) (hl : l.length ≤ 60) (hs : ∀ s ∈ l, s.size ≤ 5000) (x3 : ByteArray) (x4 : Int) (d : Nat) : ∀ (i n : Nat), i + d = l.length → n + M.fsize (l.drop i) = M.fsize l →
    pleachlaw14_FramePuts.l0 (d + 1) l x3 x4 x3 x4 (n : Int) l (l.length : Int) (i : Int) = some true := by
  have hb := (row_size l hs).2
  induction d with
  | zero =>
    intro i n hi hn
    rw [List.drop_of_length_le (by omega)] at hn
    have hn : n = M.fsize l := by simpa [M.fsize] using hn
    unfold pleachlaw14_FramePuts.l0 frame_Size.f
    rw [if_neg (by omega), if_pos rfl, if_pos rfl, if_pos ⟨by omega, fun s h => by have := hs s h; omega⟩, Option.bind_some, hn, if_pos rfl, awake]; rfl
  | succ d ih =>
    intro i n hi hn
    have hlt : i < l.length := by omega
    have hrd : rdOf ByteArray.empty l (i : Int) = l[i] := by simp [rdOf, List.getD, hlt]
    have hz := hs _ (List.getElem_mem hlt)
    have hd : M.fsize (l.drop i) = (M.frm l[i]).length + M.fsize (l.drop (i + 1)) := by rw [List.drop_eq_getElem_cons hlt]; unfold M.fsize; rw [List.map_cons, List.sum_cons]
    have hnx := ih (i + 1) (n + (M.frm l[i]).length) (by omega) (by omega)
    unfold pleachlaw14_FramePuts.l0
    rw [if_pos (by omega), if_pos (by omega), if_pos (by omega), hrd]
    have e7 : wrap64 ((n : Int) + ((M.sb (M.frm l[i])).size : Int)) = ((n + (M.frm l[i]).length : Nat) : Int) := by rw [M.size_sb, M.wrap64_id (by omega) (by omega)]; omega
    have e8 : wrap64 ((i : Int) + 1) = ((i + 1 : Nat) : Int) := by rw [M.wrap64_id (by omega) (by omega)]; omega
    generalize l[i] = s at hz e7 hnx ⊢
    have f1 : pleachref14_Put.f s = some (M.sb (M.frm s)) := by unfold pleachref14_Put.f; rw [if_pos (by omega)]
    rw [f1, Option.bind_some, e7, e8]
    unfold frame_Put.f pleachref14_Wrong.f frame_Check.f
    simp only [Option.bind_some]
    by_cases hw : M.fwrong s = 0
    · rw [hw]
      simp only [if_true]
      exact hnx
    · simp only [if_neg hw]
      rw [if_pos trivial, if_pos trivial, if_pos (by rw [M.toList_bs, M.bs_sb])]
      exact hnx
theorem FramePuts : pleachlaw14_FramePuts.Pure := by
  intro l _
  obtain ⟨b, hb, hb2⟩ := few l
  refine ⟨l.length + 1, ?_⟩
  unfold pleachlaw14_FramePuts.f
  rw [hb, Option.bind_some]
  cases b with
  | false => rw [if_neg (by simp), awake]; rfl
  | true =>
    obtain ⟨hl, hs⟩ := hb2 rfl
    unfold frame_Row.f pleachref14_Row.f
    rw [if_pos rfl, if_pos (by omega), Option.bind_some, Option.bind_some]
    have := loop l hl hs (M.frow l).1 (M.frow l).2 l.length 0 0 (by omega) (by rw [List.drop_zero]; omega)
    exact this
end Go.Proofs.YtacjpkfpniolmaaDoor.Pure
