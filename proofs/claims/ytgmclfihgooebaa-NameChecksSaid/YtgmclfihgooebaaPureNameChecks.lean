/- The law NameChecks: whether any text is a name, and any list a row, is told as the document says. No further condition. -/
import Derived.Test.YtgmclfihgooebaaENameChecksx4
namespace Go.Proofs.Ytgmclfihgooebaa.Pure
open Go.RowKit Go.Proofs.Ytgmclfihgooebaa.ENameChecks Go.Proofs.YtgmclfihgooebaaW.PrintWords Go.Proofs.YtgmclfihgooebaaW.PrintLast Go.Proofs.YtgmclfihgooebaaW.PrintMore
theorem few (l : List ByteArray) : ∃ b, pleachlaw05_few.f l = some b ∧ (b = true → l.length ≤ 60 ∧ ∀ s ∈ l, s.size ≤ 3000) := by
  unfold pleachlaw05_few.f
  by_cases h : (l.length : Int) ≤ 60
  · unfold pleachplain_Bytes.f
    rw [if_pos h, if_pos (by omega), Option.bind_some]
    refine ⟨_, rfl, fun hb => ⟨by omega, fun s hs => ?_⟩⟩
    have hb := of_decide_eq_true hb
    have := M.bytesN_each l 0 (by omega) s hs
    omega
  · rw [if_neg h]
    exact ⟨_, rfl, fun z => by cases z⟩
theorem awake : pleachlaw05_awake.f = some true := by
  have ltd : ∀ a b : ByteArray, Op.bytesLess (M.bs a) (M.bs b) = true → M.lt a b := by
    intro a b h
    unfold M.lt
    rw [M.toList_bs, M.toList_bs]; exact h
  have nltd : ∀ a b : ByteArray, Op.bytesLess (M.bs a) (M.bs b) = false → ¬ M.lt a b := by
    intro a b h
    unfold M.lt
    rw [M.toList_bs, M.toList_bs, h]; simp
  have h1 : M.rises [(⟨#[97]⟩ : ByteArray), ⟨#[99]⟩] := (M.rises_cons2 _ _ _).2 ⟨ltd _ _ (by decide), List.pairwise_singleton _ _⟩
  have h2 : ¬ (⟨#[98]⟩ : ByteArray) ∈ [(⟨#[97]⟩ : ByteArray), ⟨#[99]⟩] := by decide
  have h3 : M.ins [(⟨#[97]⟩ : ByteArray), ⟨#[99]⟩] ⟨#[98]⟩ = [(⟨#[97]⟩ : ByteArray), ⟨#[98]⟩, ⟨#[99]⟩] := by
    have hc : M.cnt [(⟨#[97]⟩ : ByteArray), ⟨#[99]⟩] ⟨#[98]⟩ = 1 := M.cnt_at (by simp)
      (fun t h ht => by obtain rfl : t = 0 := by omega
                        exact ltd ⟨#[97]⟩ ⟨#[98]⟩ (by decide))
      (fun t h ht => by obtain rfl : t = 1 := by simp at h; omega
                        exact nltd ⟨#[99]⟩ ⟨#[98]⟩ (by decide))
    unfold M.ins
    rw [hc]; rfl
  have h4 : M.isName ⟨#[65]⟩ = false := by decide
  unfold pleachlaw05_awake.f name_With.f
  rw [if_pos ⟨h1, by decide⟩, Option.bind_some, if_neg h2, if_pos rfl, h3]
  unfold pleachplain_Texts.f name_Check.f
  rw [if_pos (by decide), Option.bind_some, if_pos (by rw [decide_eq_true rfl]), if_pos (by decide), Option.bind_some, h4]
  rfl
theorem NameChecks : pleachlaw05_NameChecks.Pure := by
  intro s l _ _
  refine ⟨1, ?_⟩
  unfold pleachlaw05_NameChecks.f
  by_cases hs : (s.size : Int) > 1000
  · rw [if_pos hs, pleachlaw05_NameChecks.j0, if_pos rfl, awake]; rfl
  · rw [if_neg hs]
    obtain ⟨b, hb, hb2⟩ := few l
    rw [hb, Option.bind_some, pleachlaw05_NameChecks.j0]
    cases b with
    | false => rw [if_pos (by simp), awake]; rfl
    | true =>
      obtain ⟨hl, hx⟩ := hb2 rfl
      have e1 : name_Check.f s = some (if M.isName s = true then 0 else 2) := by unfold name_Check.f; rw [if_pos (by omega)]
      have e2 : pleachref05_Is.f s = some (M.isName s) := by unfold pleachref05_Is.f; rw [if_pos (by omega)]
      have e3 : name_Row.f l = some (M.rowE none l) := by unfold name_Row.f; rw [if_pos ⟨by omega, fun x h => by have := hx x h; omega⟩]
      have e4 : pleachref05_Row.f l = some (M.rowE none l) := by unfold pleachref05_Row.f; rw [if_pos ⟨by omega, fun x h => by have := hx x h; omega⟩]
      rw [if_neg (by simp), e1, e2, e3, e4]
      simp only [Option.bind_some]
      cases M.isName s with
      | true => simp [awake]
      | false => simp [awake]
end Go.Proofs.Ytgmclfihgooebaa.Pure
