/- Plain facts on byte arrays as lists of bytes. No program in sight. -/
import Derived.Test.YtkaglpjdeinbhaaCRefsRecordsWMore
namespace Go.Proofs.Ytkaglpjdeinbhaa.M
open Go.RowKit Go.Proofs.YtkaglpjdeinbhaaW.PrintWords Go.Proofs.YtkaglpjdeinbhaaW.PrintMore

/-- A text's bytes. -/
def bs (s : ByteArray) : List UInt8 := s.data.toList
/-- The text of bytes. -/
def sb (l : List UInt8) : ByteArray := ⟨l.toArray⟩
theorem sb_bs (s : ByteArray) : sb (bs s) = s := by cases s; simp [sb, bs]
theorem bs_inj {s t : ByteArray} (h : bs s = bs t) : s = t := by rw [← sb_bs s, ← sb_bs t, h]
theorem toList_bs (s : ByteArray) : s.toList = bs s := ByteArray.toList_eq s
theorem bs_length (s : ByteArray) : (bs s).length = s.size := by simp [bs]
theorem bs_append (s t : ByteArray) : bs (s ++ t) = bs s ++ bs t := by simp [bs]
theorem bt_bs (s : ByteArray) (i : Nat) (h : i < (bs s).length) : bt s (i : Int) = (((bs s)[i]'h).toNat : Int) := by
  rw [bs_length] at h
  simp only [bt, Int.toNat_natCast, dif_pos h]
  rfl
theorem size_append (s t : ByteArray) : (s ++ t).size = s.size + t.size := by rw [← bs_length, bs_append, List.length_append, bs_length, bs_length]

theorem isEmpty_bne (l : List UInt8) : l.isEmpty = !(l != ([] : List UInt8)) := by cases l <;> rfl
theorem wrap64_id {i : Int} (h0 : -9223372036854775808 ≤ i) (h1 : i ≤ 9223372036854775807) : wrap64 i = i := by unfold wrap64; omega
end Go.Proofs.Ytkaglpjdeinbhaa.M
