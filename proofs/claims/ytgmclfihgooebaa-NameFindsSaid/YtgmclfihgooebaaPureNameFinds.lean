/- The law NameFinds: where any text stands in a list that rises, and the list with it, and without it, are the document's; the list that comes in stays. No further condition. -/
import Derived.Test.YtgmclfihgooebaaENameFindsx5
namespace Go.Proofs.Ytgmclfihgooebaa.Pure
open Go.RowKit Go.Proofs.Ytgmclfihgooebaa.ENameFinds Go.Proofs.YtgmclfihgooebaaW.PrintWords Go.Proofs.YtgmclfihgooebaaW.PrintLast Go.Proofs.YtgmclfihgooebaaW.PrintMore
theorem few (l : List ByteArray) : ∃ b, pleachlaw05_few.f l = some b ∧ (b = true → l.length ≤ 60 ∧ ∀ s ∈ l, s.size ≤ 3000) := by
  unfold pleachlaw05_few.f
  by_cases h : (l.length : Int) ≤ 60
  · unfold pleachplain_Bytes.f
    rw [if_pos h, if_pos (by omega), Option.bind_some]
    refine ⟨_, rfl, fun hb => ⟨by omega, fun s hs => ?_⟩⟩
    have hb := of_decide_eq_true hb
    have := M.bytesN_each l 0 (by omega) s hs
    omega
  · rw [if_neg h]
    exact ⟨_, rfl, fun z => by cases z⟩
theorem awake : pleachlaw05_awake.f = some true := by
  have ltd : ∀ a b : ByteArray, Op.bytesLess (M.bs a) (M.bs b) = true → M.lt a b := by
    intro a b h
    unfold M.lt
    rw [M.toList_bs, M.toList_bs]; exact h
  have nltd : ∀ a b : ByteArray, Op.bytesLess (M.bs a) (M.bs b) = false → ¬ M.lt a b := by
    intro a b h
    unfold M.lt
    rw [M.toList_bs, M.toList_bs, h]; simp
  have h1 : M.rises [(⟨#[97]⟩ : ByteArray), ⟨#[99]⟩] := (M.rises_cons2 _ _ _).2 ⟨ltd _ _ (by decide), List.pairwise_singleton _ _⟩
  have h2 : ¬ (⟨#[98]⟩ : ByteArray) ∈ [(⟨#[97]⟩ : ByteArray), ⟨#[99]⟩] := by decide
  have h3 : M.ins [(⟨#[97]⟩ : ByteArray), ⟨#[99]⟩] ⟨#[98]⟩ = [(⟨#[97]⟩ : ByteArray), ⟨#[98]⟩, ⟨#[99]⟩] := by
    have hc : M.cnt [(⟨#[97]⟩ : ByteArray), ⟨#[99]⟩] ⟨#[98]⟩ = 1 := M.cnt_at (by simp)
      (fun t h ht => by obtain rfl : t = 0 := by omega
                        exact ltd ⟨#[97]⟩ ⟨#[98]⟩ (by decide))
      (fun t h ht => by obtain rfl : t = 1 := by simp at h; omega
                        exact nltd ⟨#[99]⟩ ⟨#[98]⟩ (by decide))
    unfold M.ins
    rw [hc]; rfl
  have h4 : M.isName ⟨#[65]⟩ = false := by decide
  unfold pleachlaw05_awake.f name_With.f
  rw [if_pos ⟨h1, by decide⟩, Option.bind_some, if_neg h2, if_pos rfl, h3]
  unfold pleachplain_Texts.f name_Check.f
  rw [if_pos (by decide), Option.bind_some, if_pos (by rw [decide_eq_true rfl]), if_pos (by decide), Option.bind_some, h4]
  rfl
theorem refWith {l : List ByteArray} (hl : l.length ≤ 60) (s : ByteArray) : pleachref05_With.f l s = some (if s ∈ l then l else M.ins l s) := by
  have hc := M.cnt_le l s
  unfold pleachref05_With.f pleachref05_In.f pleachref05_Less.f
  rw [if_pos (by omega), Option.bind_some]
  by_cases hs : s ∈ l
  · rw [if_pos hs, if_pos (by simp only [decide_eq_true hs])]
  · rw [if_neg hs, if_neg (by simp only [decide_eq_false hs]; simp), if_pos (by omega), Option.bind_some, Option.bind_some, if_pos (by omega), if_pos (by omega), if_pos (by simp; omega), Option.bind_some, Option.bind_some, if_pos (by simp; omega), Option.bind_some, if_pos (by simp; omega), Int.toNat_natCast, List.nil_append, List.append_assoc]; rfl
theorem NameFinds : pleachlaw05_NameFinds.Pure := by
  intro l s _ _
  refine ⟨2, ?_⟩
  unfold pleachlaw05_NameFinds.f
  by_cases hz : (s.size : Int) > 1000
  · rw [if_pos hz, pleachlaw05_NameFinds.j0, if_pos rfl, awake]; rfl
  · rw [if_neg hz]
    obtain ⟨b, hb, hb2⟩ := few l
    rw [hb, Option.bind_some]
    cases b with
    | false => rw [if_neg (by simp), pleachlaw05_NameFinds.j0, if_pos rfl, awake]; rfl
    | true =>
      obtain ⟨hl, hx⟩ := hb2 rfl
      have e1 : pleachref05_Rises.f l = some (decide (M.rises l)) := by unfold pleachref05_Rises.f; rw [if_pos (by omega)]
      rw [if_pos rfl, e1, Option.bind_some]
      by_cases hr : M.rises l
      · rw [decide_eq_true hr, pleachlaw05_NameFinds.j0, if_neg (by simp), Option.bind_some, if_pos (by simp; omega), List.nil_append]
        have hc := M.cnt_le l s
        have e2 : name_Find.f l s = some ((M.cnt l s : Int), decide (s ∈ l)) := by unfold name_Find.f; rw [if_pos ⟨hr, by omega⟩]
        have e3 : name_With.f l s = some (if s ∈ l then (l, false) else (M.ins l s, true)) := by unfold name_With.f; rw [if_pos ⟨hr, by omega⟩]
        have e4 : name_Without.f l s = some (if s ∈ l then (M.del l s, true) else (l, false)) := by unfold name_Without.f; rw [if_pos ⟨hr, by omega⟩]
        have e5 : pleachref05_Less.f l s = some ((M.cnt l s : Nat) : Int) := by unfold pleachref05_Less.f; rw [if_pos (by omega)]
        have e6 : pleachref05_In.f l s = some (decide (s ∈ l)) := by unfold pleachref05_In.f; rw [if_pos (by omega)]
        have eT : ∀ m : List ByteArray, m.length ≤ 100 → pleachplain_Texts.f m m = some true := by
          intro m hm
          unfold pleachplain_Texts.f; rw [if_pos (by omega), decide_eq_true rfl]
        have e7 : pleachref05_Only.f l [s] = some (if s ∈ l then M.del l s else l) := by
          unfold pleachref05_Only.f
          rw [if_pos ⟨by omega, by simp⟩, M.filter_ne hr s]
        have hil := M.ins_length l s
        have hj : ∀ (a b : List ByteArray), a = (if s ∈ l then l else M.ins l s) → b = (if s ∈ l then M.del l s else l) → a.length ≤ 100 → b.length ≤ 100 → pleachlaw05_NameFinds.j1 1 l s a b false = some true := by
          intro a b ha hb' la lb
          rw [pleachlaw05_NameFinds.j1, if_neg (by simp), refWith hl s, Option.bind_some, ← ha, eT a la, Option.bind_some, if_pos rfl, e7, Option.bind_some, ← hb', eT b lb, Option.bind_some, if_pos rfl, awake]; rfl
        rw [e2, e3, e4, e5, e6, eT l (by omega)]
        simp only [Option.bind_some, if_true]
        by_cases hs : s ∈ l
        · have hd := M.del_length ((M.mem_at hr s).1 hs).1
          rw [decide_eq_true hs, if_neg (by simp), if_pos hs, if_neg (by simp), if_pos hs, if_neg (by simp)]
          exact hj _ _ (by rw [if_pos hs]) (by rw [if_pos hs]) (by show l.length ≤ 100; omega) (by show (M.del l s).length ≤ 100; omega)
        · rw [decide_eq_false hs, if_neg (by simp), if_neg hs, if_neg (by simp), if_neg hs, if_neg (by simp)]
          exact hj _ _ (by rw [if_neg hs]) (by rw [if_neg hs]) (by show (M.ins l s).length ≤ 100; omega) (by show l.length ≤ 100; omega)
      · rw [decide_eq_false hr, pleachlaw05_NameFinds.j0, if_pos (by simp), awake]; rfl
end Go.Proofs.Ytgmclfihgooebaa.Pure
