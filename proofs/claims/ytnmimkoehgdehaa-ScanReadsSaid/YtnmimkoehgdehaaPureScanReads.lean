/- The law ScanReads: whatever pieces are read of any bytes, in whatever order, each answers as the document says, and so does what the Scan then tells of its place and its error. For any text and any row of pieces. No further condition. -/
import Derived.Test.YtnmimkoehgdehaaEScanReadsx7
namespace Go.Proofs.Ytnmimkoehgdehaa.Pure
open Go.RowKit Go.Proofs.Ytnmimkoehgdehaa.EScanReads Go.Proofs.YtnmimkoehgdehaaW.PrintWords Go.Proofs.YtnmimkoehgdehaaW.PrintLast Go.Proofs.YtnmimkoehgdehaaW.PrintMore

theorem reads_end (k : Nat) (s : ByteArray) (p er : Int) : pleachlaw04_reads.j0 (k + 1) true s p er true s p er = some (s, p, er, true, s, p, er, true) := by
  simp only [pleachlaw04_reads.j0, scan_Scan_Err.f, scan_Scan_At.f]
  rw [if_pos trivial, if_pos trivial, Option.bind_some]
  simp only
  rw [if_pos trivial, Option.bind_some]
  simp

theorem eq_self (b : ByteArray) : (b.toList == b.toList) = true := by simp
theorem eq_int (b : Int) : (b == b) = true := by simp

theorem reads_ok (k : Nat) (s : ByteArray) (p er kd n : Int) (hs : M.sok s p) (hz : s.size ≤ 9223372036854775806) (hn : -9223372036854775808 ≤ n ∧ n ≤ 9223372036854775807) :
    ∃ p' er', pleachlaw04_reads.f (k + 1) s p er true s p er kd n = some (s, p', er', true, s, p', er', true) ∧ M.sok s p' := by
  unfold pleachlaw04_reads.f
  split
  · unfold pleachref04_Fix.f pleachref04_fix.f scan_Scan_Fix.f scan_Scan_take.f
    rw [if_pos ⟨hs, hn⟩, if_pos rfl, if_pos ⟨hs, hn⟩, Option.bind_some, Option.bind_some]
    simp only [eq_self]
    exact ⟨_, _, reads_end k _ _ _, M.xfix_ok s er n hs⟩
  split
  · unfold pleachref04_Byte.f scan_Scan_Byte.f
    rw [if_pos hs, if_pos rfl, if_pos hs, Option.bind_some, Option.bind_some]
    simp only [eq_int]
    exact ⟨_, _, reads_end k _ _ _, M.xbyte_ok s er hs⟩
  split
  · have e : scan_Scan_Num.f s p er true n = some ((M.xnum s p er n).1, s, (M.xnum s p er n).2.1, (M.xnum s p er n).2.2, true) := by
      unfold scan_Scan_Num.f M.xnum
      by_cases he : er = 0
      · rw [if_pos ⟨rfl, he⟩, if_pos ⟨hs, hn.2⟩]; simp only [if_pos he]
      · rw [if_neg (fun z => he z.2)]; simp only [if_neg he]
    rw [e]
    unfold pleachref04_Num.f
    rw [if_pos ⟨hs, hn.2, hz⟩, Option.bind_some, Option.bind_some]
    simp only [eq_int]
    exact ⟨_, _, reads_end k _ _ _, M.xnum_ok s er n hs⟩
  split
  · have e : scan_Scan_Int.f s p er true = some ((M.xint s p er).1, s, (M.xint s p er).2.1, (M.xint s p er).2.2, true) := by
      unfold scan_Scan_Int.f M.xint
      by_cases he : er = 0
      · rw [if_pos ⟨rfl, he⟩, if_pos hs]; simp only [if_pos he]
      · rw [if_neg (fun z => he z.2)]; simp only [if_neg he]
    rw [e]
    unfold pleachref04_Int.f
    rw [if_pos ⟨hs, hz⟩, Option.bind_some, Option.bind_some]
    simp only [eq_int]
    exact ⟨_, _, reads_end k _ _ _, M.xint_ok s er hs⟩
  split
  · unfold pleachref04_Text.f scan_Scan_Text.f
    rw [if_pos ⟨hs, hn.2, hz⟩, if_pos rfl, if_pos ⟨hs, hn.2⟩, Option.bind_some, Option.bind_some]
    simp only [eq_self]
    exact ⟨_, _, reads_end k _ _ _, M.xtext_ok s er n hs⟩
  split
  · have e : scan_Scan_Rest.f s p er true = some ((M.xrest s p er).1, s, (M.xrest s p er).2.1, (M.xrest s p er).2.2, true) := by
      unfold scan_Scan_Rest.f M.xrest
      by_cases he : er = 0
      · rw [if_pos ⟨rfl, he⟩, if_pos hs]; simp only [if_pos he]
      · rw [if_neg (fun z => he z.2)]; simp only [if_neg he]
    rw [e]
    unfold pleachref04_Rest.f
    rw [if_pos hs, Option.bind_some, Option.bind_some]
    simp only [eq_self]
    exact ⟨_, _, reads_end k _ _ _, M.xrest_ok s er hs⟩
  split
  · refine ⟨p, if er = 0 then n else er, ?_, hs⟩
    unfold pleachref04_Fail.f scan_Scan_Fail.f scan_Scan_fail.f scan_Scan_Err.f
    by_cases he : er = 0
    · subst he
      by_cases h0 : n = 0
      · subst h0
        simp only [if_true, Option.bind_some]
        exact reads_end k _ _ _
      · simp only [if_true, Option.bind_some, if_neg h0]
        exact reads_end k _ _ _
    · by_cases h0 : n = 0
      · simp only [if_true, Option.bind_some, if_neg he, if_pos h0]
        exact reads_end k _ _ _
      · simp only [if_true, Option.bind_some, if_neg h0, if_neg he]
        exact reads_end k _ _ _
  split
  · refine ⟨p, M.xend s p er, ?_, hs⟩
    unfold pleachref04_End.f scan_Scan_End.f M.xend
    by_cases he : er = 0
    · subst he
      by_cases hp : p < s.size
      · simp only [if_true, Option.bind_some, if_pos hp, true_and, eq_int]
        exact reads_end k _ _ _
      · simp only [if_true, Option.bind_some, if_neg hp, true_and, eq_int]
        exact reads_end k _ _ _
    · have hc : ¬ (er = 0 ∧ p < s.size) := fun z => he z.1
      simp only [if_true, Option.bind_some, if_neg he, if_neg hc, eq_int]
      exact reads_end k _ _ _
  · exact ⟨p, er, reads_end k _ _ _, hs⟩

theorem goes (l : List S29) (s : ByteArray) (hl : l.length ≤ 200) (hG : ∀ y ∈ l, Good29 y) (hz : s.size ≤ 9223372036854775806) : ∀ (d i : Nat) (p er : Int), i + d = l.length → M.sok s p →
    pleachlaw04_ScanReads.l0 (d + 1) l (l.length : Int) (i : Int) s p er true s p er = some true := by
  intro d
  induction d with
  | zero =>
    intro i p er hi hs
    simp only [pleachlaw04_ScanReads.l0]
    rw [if_neg (by omega)]; rfl
  | succ d ih =>
    intro i p er hi hs
    have hlt : i < l.length := by omega
    have hg : Good29 (rd_T29 l (i : Int)) := by
      have : rd_T29 l (i : Int) = l[i] := by simp [rd_T29, List.getD, hlt]
      rw [this]; exact hG _ (List.getElem_mem hlt)
    have hn := M.wf_i64 hg.2
    obtain ⟨p', er', h1, h2⟩ := reads_ok d s p er (rd_T29 l (i : Int)).f0 (rd_T29 l (i : Int)).f1 hs hz hn
    simp only [pleachlaw04_ScanReads.l0]
    rw [if_pos (by omega), if_pos (by omega), if_pos (by omega), h1, Option.bind_some]
    simp only
    rw [if_pos trivial, M.wrap64_id (by omega) (by omega)]
    exact ih (i + 1) p' er' (by omega) h2

theorem ScanReads : pleachlaw04_ScanReads.Pure := by
  intro s l hs hl
  obtain ⟨hG, _⟩ := hl
  refine ⟨l.length + 2, ?_⟩
  unfold pleachlaw04_ScanReads.f
  by_cases h1 : (s.size : Int) > 1000
  · rw [if_pos h1]; simp only [pleachlaw04_ScanReads.j0]; rw [if_pos trivial]; rfl
  · rw [if_neg h1]
    by_cases h2 : (l.length : Int) > 200
    · rw [decide_eq_true h2]; simp only [pleachlaw04_ScanReads.j0]; rw [if_pos trivial]; rfl
    · rw [decide_eq_false h2]
      simp only [pleachlaw04_ScanReads.j0]
      rw [if_neg (by simp)]
      exact goes l s (by omega) hG (by omega) l.length 0 0 0 (by omega) ⟨Int.le_refl _, by omega, by omega⟩

end Go.Proofs.Ytnmimkoehgdehaa.Pure
