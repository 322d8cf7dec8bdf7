/- The law CommitTakes: of any text, the commit that the program takes is the document's, and so is whether there is one; what is taken, put, is that text; what was put is taken. No further condition. -/
import Derived.Test.YtikdbklmhjlfoaaDoorECommitTakesx12
namespace Go.Proofs.YtikdbklmhjlfoaaDoor.Pure
open Go.RowKit Go.Proofs.YtikdbklmhjlfoaaDoor.ECommitTakes Go.Proofs.YtikdbklmhjlfoaaDoorW.PrintWords Go.Proofs.YtikdbklmhjlfoaaDoorW.PrintLast Go.Proofs.YtikdbklmhjlfoaaDoorW.PrintMore

theorem few_some (n : Int) (ps : List ByteArray) (g note : ByteArray) : ∃ b, pleachlaw35_few.f n ps g note = some b ∧ (b = true → ps.length ≤ 5 ∧ g.size ≤ 200 ∧ note.size ≤ 200) := by
  unfold pleachlaw35_few.f
  by_cases h : (ps.length : Int) ≤ 5
  · rw [if_pos h]
    unfold pleachplain_Bytes.f
    rw [if_pos (by omega), Option.bind_some]
    split
    · split
      · exact ⟨_, rfl, fun z => ⟨by omega, by omega, by have := of_decide_eq_true z; omega⟩⟩
      · exact ⟨_, rfl, fun z => by cases z⟩
    · exact ⟨_, rfl, fun z => by cases z⟩
  · rw [if_neg h]
    exact ⟨_, rfl, fun z => by cases z⟩
theorem cput_size {n : Int} {ps : List ByteArray} {g note : ByteArray} (h : M.isC n ps g note) : (M.sb (M.cput n ps g note)).size ≤ 1000 := by
  obtain ⟨⟨hn0, hn1⟩, hp2, hg, hnote, hps, _⟩ := h
  have hv := M.vb_le n.toNat (by omega)
  have hv2 := M.vb_le ps.length (by omega)
  have hv3 := M.vb_le note.size (by omega)
  have hf : ∀ (l : List ByteArray), (∀ p ∈ l, p.size = 32) → (l.flatMap M.bs).length = 32 * l.length := by
    intro l
    induction l with
    | nil => intro _; rfl
    | cons a l ih =>
      intro h
      rw [List.flatMap_cons, List.length_append, ih (fun p hp => h p (List.mem_cons_of_mem _ hp)), M.bs_length, h a List.mem_cons_self, List.length_cons]; omega
  rw [M.size_sb]
  unfold M.cput
  simp only [List.length_append, List.length_cons, List.length_nil, hf ps hps, M.bs_length]
  omega
theorem is_same (s : ByteArray) : ∃ b, commit_Is.f s = some b ∧ ((s.toList = ([] : List UInt8) ∧ b = false) ∨ (¬ s.toList = ([] : List UInt8) ∧ (0 : Int) < (s.size : Int) ∧ b = (bt s 0 == 67))) := by
  unfold commit_Is.f
  by_cases h : s.toList = ([] : List UInt8)
  · rw [if_pos h]; exact ⟨_, rfl, .inl ⟨h, rfl⟩⟩
  · have hz : (0 : Int) < (s.size : Int) := by
      rcases Nat.eq_zero_or_pos s.size with e | e
      · exact absurd (by rw [M.toList_bs]; exact List.eq_nil_of_length_eq_zero (by rw [M.bs_length]; exact e)) h
      · omega
    rw [if_neg h, if_pos hz]; exact ⟨_, rfl, .inr ⟨h, hz, rfl⟩⟩
theorem last (k : Nat) (n : Int) (ps : List ByteArray) (g note : ByteArray) : pleachlaw35_CommitTakes.j2 (k + 1) false n ps g note = some true := by
  rw [pleachlaw35_CommitTakes.j2, if_neg (by decide)]
  unfold commit_Put.f
  rw [Option.bind_some]
  by_cases hc : M.isC n ps g note
  · have hb := M.cgood_back hc
    have hz := cput_size hc
    rw [if_pos hc, if_pos rfl]
    unfold commit_Take.f
    simp only
    rw [if_pos (by omega), if_pos hb.1, hb.2.1, hb.2.2.1, hb.2.2.2.1, hb.2.2.2.2, Option.bind_some]
    unfold pleachref35_Same.f
    rw [if_pos (by have := hc.2.1; omega), decide_eq_true ⟨rfl, rfl, rfl, rfl⟩, Option.bind_some, if_pos rfl, if_pos rfl]
    rfl
  · rw [if_neg hc, if_neg (by decide)]
    rfl
theorem CommitTakes : pleachlaw35_CommitTakes.Pure := by
  intro s n ps g note _ _ _ _ _
  refine ⟨3, ?_⟩
  unfold pleachlaw35_CommitTakes.f
  by_cases h1 : (s.size : Int) > 1000
  · rw [if_pos h1, pleachlaw35_CommitTakes.j0, if_pos rfl]
    rfl
  rw [if_neg h1]
  obtain ⟨b, hb, _⟩ := few_some n ps g note
  rw [hb, Option.bind_some]
  cases b with
  | false =>
    rw [pleachlaw35_CommitTakes.j0, if_pos (show (!false) = true from rfl)]
    rfl
  | true =>
    rw [pleachlaw35_CommitTakes.j0, if_neg (show ¬ (!true) = true by decide)]
    have e1 : commit_Take.f s = some (if M.cgood s then ((M.cN s).1, (M.cP s).1, (M.cG s).1, (M.cT s).1, 0) else commit_Take.no) := if_pos (by omega)
    have e2 : pleachref35_Take.f s = some (if M.cgood s then ((M.cN s).1, (M.cP s).1, (M.cG s).1, (M.cT s).1, true) else pleachref35_Take.no) := if_pos (by omega)
    rw [e1, e2, Option.bind_some, Option.bind_some]
    obtain ⟨q, hq, hqq⟩ := is_same s
    by_cases hc : M.cgood s
    · have hput := M.cgood_put (by omega) hc
      rw [if_pos hc, if_pos hc]
      have hl : (M.cP s).1.length ≤ 2 := hc.2.2.2.1
      unfold pleachref35_Same.f
      dsimp only
      rw [if_pos (by omega), decide_eq_true ⟨rfl, rfl, rfl, rfl⟩, Option.bind_some, if_pos rfl, if_neg (by decide), if_pos rfl, hq, Option.bind_some]
      have hj : pleachlaw35_CommitTakes.j1 2 s true false n ps g note (M.cN s).1 (M.cP s).1 (M.cG s).1 (M.cT s).1 = some true := by
        rw [pleachlaw35_CommitTakes.j1, if_neg (by decide)]
        unfold commit_Put.f
        rw [Option.bind_some, if_pos hc.2.2, if_pos rfl, if_pos (by rw [M.toList_bs, M.toList_bs, M.bs_sb, hput])]
        exact last 0 n ps g note
      rcases hqq with ⟨e, rfl⟩ | ⟨e, ez, rfl⟩
      · rw [if_pos e]; exact hj
      · rw [if_neg e, if_pos ez, bne_self_eq_false]; exact hj
    · rw [if_neg hc, if_neg hc]
      unfold pleachref35_Same.f commit_Take.no pleachref35_Take.no
      dsimp only
      rw [if_pos (by decide), decide_eq_true ⟨rfl, rfl, rfl, rfl⟩, Option.bind_some, if_pos rfl, if_neg (by decide), if_neg (by decide), if_pos rfl, hq, Option.bind_some]
      have hj : pleachlaw35_CommitTakes.j1 2 s false false n ps g note 0 [] ⟨#[]⟩ ⟨#[]⟩ = some true := by
        rw [pleachlaw35_CommitTakes.j1, if_neg (by decide)]
        unfold commit_Put.f
        rw [Option.bind_some, if_neg (by decide)]
        exact last 0 n ps g note
      rcases hqq with ⟨e, rfl⟩ | ⟨e, ez, rfl⟩
      · rw [if_pos e]; exact hj
      · rw [if_neg e, if_pos ez, bne_self_eq_false]; exact hj
end Go.Proofs.YtikdbklmhjlfoaaDoor.Pure
