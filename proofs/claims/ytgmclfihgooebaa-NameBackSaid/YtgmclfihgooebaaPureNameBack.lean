/- The law NameBack: a row with a name that was not there, and without it again, is the row; rows stay rows. No further condition. -/
import Derived.Test.YtgmclfihgooebaaENameBackx4
namespace Go.Proofs.Ytgmclfihgooebaa.Pure
open Go.RowKit Go.Proofs.Ytgmclfihgooebaa.ENameBack Go.Proofs.YtgmclfihgooebaaW.PrintWords Go.Proofs.YtgmclfihgooebaaW.PrintLast Go.Proofs.YtgmclfihgooebaaW.PrintMore
theorem few (l : List ByteArray) : ∃ b, pleachlaw05_few.f l = some b ∧ (b = true → l.length ≤ 60 ∧ ∀ s ∈ l, s.size ≤ 3000) := by
  unfold pleachlaw05_few.f
  by_cases h : (l.length : Int) ≤ 60
  · unfold pleachplain_Bytes.f
    rw [if_pos h, if_pos (by omega), Option.bind_some]
    refine ⟨_, rfl, fun hb => ⟨by omega, fun s hs => ?_⟩⟩
    have hb := of_decide_eq_true hb
    have := M.bytesN_each l 0 (by omega) s hs
    omega
  · rw [if_neg h]
    exact ⟨_, rfl, fun z => by cases z⟩
theorem awake : pleachlaw05_awake.f = some true := by
  have ltd : ∀ a b : ByteArray, Op.bytesLess (M.bs a) (M.bs b) = true → M.lt a b := by
    intro a b h
    unfold M.lt
    rw [M.toList_bs, M.toList_bs]; exact h
  have nltd : ∀ a b : ByteArray, Op.bytesLess (M.bs a) (M.bs b) = false → ¬ M.lt a b := by
    intro a b h
    unfold M.lt
    rw [M.toList_bs, M.toList_bs, h]; simp
  have h1 : M.rises [(⟨#[97]⟩ : ByteArray), ⟨#[99]⟩] := (M.rises_cons2 _ _ _).2 ⟨ltd _ _ (by decide), List.pairwise_singleton _ _⟩
  have h2 : ¬ (⟨#[98]⟩ : ByteArray) ∈ [(⟨#[97]⟩ : ByteArray), ⟨#[99]⟩] := by decide
  have h3 : M.ins [(⟨#[97]⟩ : ByteArray), ⟨#[99]⟩] ⟨#[98]⟩ = [(⟨#[97]⟩ : ByteArray), ⟨#[98]⟩, ⟨#[99]⟩] := by
    have hc : M.cnt [(⟨#[97]⟩ : ByteArray), ⟨#[99]⟩] ⟨#[98]⟩ = 1 := M.cnt_at (by simp)
      (fun t h ht => by obtain rfl : t = 0 := by omega
                        exact ltd ⟨#[97]⟩ ⟨#[98]⟩ (by decide))
      (fun t h ht => by obtain rfl : t = 1 := by simp at h; omega
                        exact nltd ⟨#[99]⟩ ⟨#[98]⟩ (by decide))
    unfold M.ins
    rw [hc]; rfl
  have h4 : M.isName ⟨#[65]⟩ = false := by decide
  unfold pleachlaw05_awake.f name_With.f
  rw [if_pos ⟨h1, by decide⟩, Option.bind_some, if_neg h2, if_pos rfl, h3]
  unfold pleachplain_Texts.f name_Check.f
  rw [if_pos (by decide), Option.bind_some, if_pos (by rw [decide_eq_true rfl]), if_pos (by decide), Option.bind_some, h4]
  rfl
theorem row_some {l : List ByteArray} (hl : l.length ≤ 100) (hx : ∀ x ∈ l, x.size ≤ 3000) : name_Row.f l = some (M.rowE none l) := by
  unfold name_Row.f; rw [if_pos ⟨by omega, fun x h => by have := hx x h; omega⟩]
theorem NameBack : pleachlaw05_NameBack.Pure := by
  intro l s _ hsz
  refine ⟨2, ?_⟩
  unfold pleachlaw05_NameBack.f
  obtain ⟨b, hb, hb2⟩ := few l
  rw [hb, Option.bind_some]
  cases b with
  | false => rw [if_neg (by simp), pleachlaw05_NameBack.j0, if_pos rfl, awake]; rfl
  | true =>
    obtain ⟨hl, hx⟩ := hb2 rfl
    rw [if_pos rfl, row_some (by omega) hx, Option.bind_some]
    by_cases hr : M.rowE none l = 0
    · rw [if_pos hr]
      have e1 : name_Check.f s = some (if M.isName s = true then 0 else 2) := by unfold name_Check.f; rw [if_pos (by omega)]
      rw [e1, Option.bind_some, pleachlaw05_NameBack.j0]
      cases hn : M.isName s with
      | false => rw [if_pos (by simp), awake]; rfl
      | true =>
        obtain ⟨hnm, hri⟩ := (M.row_iff l).1 hr
        have hs12 := M.isName_size hn
        have hc := M.cnt_le l s
        rw [if_neg (by simp)]
        have eW : name_With.f l s = some (if s ∈ l then (l, false) else (M.ins l s, true)) := by unfold name_With.f; rw [if_pos ⟨hri, by omega⟩]
        rw [eW, Option.bind_some]
        by_cases hs : s ∈ l
        · obtain ⟨hlt, _⟩ := (M.mem_at hri s).1 hs
          have hd := M.del_length hlt
          have hdr := M.del_rises hri s
          have hdx : ∀ x ∈ M.del l s, x ∈ l := by
            intro x hx
            unfold M.del at hx
            rcases List.mem_append.1 hx with h | h
            · exact List.mem_of_mem_take h
            · exact List.mem_of_mem_drop h
          have eO : name_Without.f l s = some (M.del l s, true) := by unfold name_Without.f; rw [if_pos ⟨hri, by omega⟩, if_pos hs]
          have eR : name_Row.f (M.del l s) = some 0 := by
            rw [row_some (by omega) (fun x h => hx x (hdx x h)), (M.row_iff _).2 ⟨fun x h => hnm x (hdx x h), hdr⟩]
          rw [if_pos hs]
          simp only
          rw [eO, Option.bind_some]
          simp only
          rw [if_pos trivial, row_some (by omega) hx, hr, Option.bind_some, if_pos rfl, eR, Option.bind_some, pleachlaw05_NameBack.j1, if_neg (by simp), if_neg (by simp), M.wrap64_id (by omega) (by omega), if_pos (by omega), awake]; rfl
        · have hir := M.ins_rises hri hs
          have hil := M.ins_length l s
          have hix : ∀ x ∈ M.ins l s, x = s ∨ x ∈ l := by
            intro x hx
            unfold M.ins at hx
            rcases List.mem_append.1 hx with h | h
            · exact .inr (List.mem_of_mem_take h)
            · rcases List.mem_cons.1 h with h | h
              · exact .inl h
              · exact .inr (List.mem_of_mem_drop h)
          have eO : name_Without.f (M.ins l s) s = some (l, true) := by unfold name_Without.f; rw [if_pos ⟨hir, by omega⟩, if_pos (M.mem_ins l s), M.del_ins hri]
          have z1 : ∀ x ∈ M.ins l s, x.size ≤ 3000 := by
            intro x h
            rcases hix x h with rfl | h
            · omega
            · exact hx x h
          have z2 : ∀ x ∈ M.ins l s, M.isName x = true := by
            intro x h
            rcases hix x h with rfl | h
            · exact hn
            · exact hnm x h
          have eR : name_Row.f (M.ins l s) = some 0 := by
            rw [row_some (by omega) z1, (M.row_iff _).2 ⟨z2, hir⟩]
          have eT : pleachplain_Texts.f l l = some true := by unfold pleachplain_Texts.f; rw [if_pos (by omega), decide_eq_true rfl]
          rw [if_neg hs]
          simp only
          rw [eO, Option.bind_some]
          simp only
          rw [if_pos trivial, eR, Option.bind_some, if_pos rfl, row_some (by omega) hx, hr, Option.bind_some, pleachlaw05_NameBack.j1, if_neg (by simp), if_pos rfl, eT, Option.bind_some, if_pos rfl, M.wrap64_id (by omega) (by omega), if_pos (by omega), awake]; rfl
    · rw [if_neg hr, pleachlaw05_NameBack.j0, if_pos rfl, awake]; rfl
end Go.Proofs.Ytgmclfihgooebaa.Pure
