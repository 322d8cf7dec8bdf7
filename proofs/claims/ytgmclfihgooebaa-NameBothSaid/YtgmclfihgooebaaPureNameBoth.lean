/- The law NameBoth: what is in one of two lists that rise alone, and in either, is the document's. No further condition. -/
import Derived.Test.YtgmclfihgooebaaENameBothx5
namespace Go.Proofs.Ytgmclfihgooebaa.Pure
open Go.RowKit Go.Proofs.Ytgmclfihgooebaa.ENameBoth Go.Proofs.YtgmclfihgooebaaW.PrintWords Go.Proofs.YtgmclfihgooebaaW.PrintLast Go.Proofs.YtgmclfihgooebaaW.PrintMore
theorem few (l : List ByteArray) : ∃ b, pleachlaw05_few.f l = some b ∧ (b = true → l.length ≤ 60 ∧ ∀ s ∈ l, s.size ≤ 3000) := by
  unfold pleachlaw05_few.f
  by_cases h : (l.length : Int) ≤ 60
  · unfold pleachplain_Bytes.f
    rw [if_pos h, if_pos (by omega), Option.bind_some]
    refine ⟨_, rfl, fun hb => ⟨by omega, fun s hs => ?_⟩⟩
    have hb := of_decide_eq_true hb
    have := M.bytesN_each l 0 (by omega) s hs
    omega
  · rw [if_neg h]
    exact ⟨_, rfl, fun z => by cases z⟩
theorem awake : pleachlaw05_awake.f = some true := by
  have ltd : ∀ a b : ByteArray, Op.bytesLess (M.bs a) (M.bs b) = true → M.lt a b := by
    intro a b h
    unfold M.lt
    rw [M.toList_bs, M.toList_bs]; exact h
  have nltd : ∀ a b : ByteArray, Op.bytesLess (M.bs a) (M.bs b) = false → ¬ M.lt a b := by
    intro a b h
    unfold M.lt
    rw [M.toList_bs, M.toList_bs, h]; simp
  have h1 : M.rises [(⟨#[97]⟩ : ByteArray), ⟨#[99]⟩] := (M.rises_cons2 _ _ _).2 ⟨ltd _ _ (by decide), List.pairwise_singleton _ _⟩
  have h2 : ¬ (⟨#[98]⟩ : ByteArray) ∈ [(⟨#[97]⟩ : ByteArray), ⟨#[99]⟩] := by decide
  have h3 : M.ins [(⟨#[97]⟩ : ByteArray), ⟨#[99]⟩] ⟨#[98]⟩ = [(⟨#[97]⟩ : ByteArray), ⟨#[98]⟩, ⟨#[99]⟩] := by
    have hc : M.cnt [(⟨#[97]⟩ : ByteArray), ⟨#[99]⟩] ⟨#[98]⟩ = 1 := M.cnt_at (by simp)
      (fun t h ht => by obtain rfl : t = 0 := by omega
                        exact ltd ⟨#[97]⟩ ⟨#[98]⟩ (by decide))
      (fun t h ht => by obtain rfl : t = 1 := by simp at h; omega
                        exact nltd ⟨#[99]⟩ ⟨#[98]⟩ (by decide))
    unfold M.ins
    rw [hc]; rfl
  have h4 : M.isName ⟨#[65]⟩ = false := by decide
  unfold pleachlaw05_awake.f name_With.f
  rw [if_pos ⟨h1, by decide⟩, Option.bind_some, if_neg h2, if_pos rfl, h3]
  unfold pleachplain_Texts.f name_Check.f
  rw [if_pos (by decide), Option.bind_some, if_pos (by rw [decide_eq_true rfl]), if_pos (by decide), Option.bind_some, h4]
  rfl
theorem NameBoth : pleachlaw05_NameBoth.Pure := by
  intro a b _ _
  refine ⟨1, ?_⟩
  have off : pleachlaw05_NameBoth.j0 1 a b true = some true := by rw [pleachlaw05_NameBoth.j0, if_pos rfl, awake]; rfl
  unfold pleachlaw05_NameBoth.f
  obtain ⟨p, hp, hp2⟩ := few a
  obtain ⟨q, hq, hq2⟩ := few b
  rw [hp, Option.bind_some]
  cases p with
  | false => rw [if_neg (by simp)]; exact off
  | true =>
    rw [if_pos rfl, hq, Option.bind_some]
    cases q with
    | false => rw [if_neg (by simp)]; exact off
    | true =>
      obtain ⟨la, _⟩ := hp2 rfl
      obtain ⟨lb, _⟩ := hq2 rfl
      have e1 : ∀ l : List ByteArray, l.length ≤ 60 → pleachref05_Rises.f l = some (decide (M.rises l)) := by
        intro l hl
        unfold pleachref05_Rises.f; rw [if_pos (by omega)]
      rw [if_pos rfl, e1 a la, Option.bind_some]
      by_cases ra : M.rises a
      · rw [if_pos (decide_eq_true ra), e1 b lb, Option.bind_some]
        by_cases rb : M.rises b
        · have eT : ∀ m : List ByteArray, m.length ≤ 200 → pleachplain_Texts.f m m = some true := by
            intro m hm
            unfold pleachplain_Texts.f; rw [if_pos (by omega), decide_eq_true rfl]
          have f1 := List.length_filter_le (fun x => !decide (x ∈ b)) a
          have f2 := List.length_filter_le (fun x => !decide (x ∈ a)) b
          have e2 : name_Only.f a b = some (a.filter fun x => !decide (x ∈ b)) := by unfold name_Only.f; rw [if_pos ⟨rb, by omega, by omega⟩]
          have e2' : name_Only.f b a = some (b.filter fun x => !decide (x ∈ a)) := by unfold name_Only.f; rw [if_pos ⟨ra, by omega, by omega⟩]
          have e3 : pleachref05_Only.f a b = some (a.filter fun x => !decide (x ∈ b)) := by unfold pleachref05_Only.f; rw [if_pos ⟨by omega, by omega⟩]
          have e4 : name_All.f a b = some (b.foldl M.wit a) := by
            unfold name_All.f slices_Clone_string_string.f slices_Sort_string_string.f
            rw [if_pos (by omega), Option.bind_some, e2', Option.bind_some, if_pos (by omega), Option.bind_some, if_pos (by rw [List.length_append]; omega), Option.bind_some, M.sort_both ra rb]
          have e5 : pleachref05_All.f a b = some (b.foldl M.wit a) := by unfold pleachref05_All.f; rw [if_pos (by omega)]
          have f3 := pleachref05_All.len a b
          rw [decide_eq_true rb, pleachlaw05_NameBoth.j0, if_neg (by simp), e2, Option.bind_some, e3, Option.bind_some, eT _ (by omega), Option.bind_some, if_pos rfl, e4, Option.bind_some, e5, Option.bind_some, eT _ (by omega), Option.bind_some, if_pos rfl, awake]; rfl
        · rw [decide_eq_false rb]; exact off
      · rw [if_neg (by simp [ra])]; exact off
end Go.Proofs.Ytgmclfihgooebaa.Pure
