/- Plain facts on byte arrays as lists of bytes. No program in sight. -/
import Derived.Test.YtccekjebfafgcaaDoorCShelfApartWMore
namespace Go.Proofs.YtccekjebfafgcaaDoor.M
open Go.RowKit Go.Proofs.YtccekjebfafgcaaDoorW.PrintWords Go.Proofs.YtccekjebfafgcaaDoorW.PrintMore

/-- A text's bytes. -/
def bs (s : ByteArray) : List UInt8 := s.data.toList
/-- The text of bytes. -/
def sb (l : List UInt8) : ByteArray := ⟨l.toArray⟩
theorem bs_sb (l : List UInt8) : bs (sb l) = l := rfl
theorem sb_bs (s : ByteArray) : sb (bs s) = s := by cases s; simp [sb, bs]
theorem bs_inj {s t : ByteArray} (h : bs s = bs t) : s = t := by rw [← sb_bs s, ← sb_bs t, h]
theorem toList_bs (s : ByteArray) : s.toList = bs s := ByteArray.toList_eq s
theorem bs_length (s : ByteArray) : (bs s).length = s.size := by simp [bs]
theorem size_sb (l : List UInt8) : (sb l).size = l.length := by rw [← bs_length, bs_sb]
theorem bs_append (s t : ByteArray) : bs (s ++ t) = bs s ++ bs t := by simp [bs]
theorem sb_append (l m : List UInt8) : sb (l ++ m) = sb l ++ sb m := bs_inj (by rw [bs_append]; rfl)
theorem bs_extract (s : ByteArray) (a b : Nat) : bs (s.extract a b) = ((bs s).drop a).take (b - a) := by
  simp [bs, Array.toList_extract, List.extract_eq_take_drop]
theorem bt_bs (s : ByteArray) (i : Nat) (h : i < (bs s).length) : bt s (i : Int) = (((bs s)[i]'h).toNat : Int) := by
  rw [bs_length] at h
  simp only [bt, Int.toNat_natCast, dif_pos h]
  rfl
theorem strOfNums_nat (l : List Nat) : bs (strOfNums (l.map fun (n : Nat) => (n : Int))) = l.map UInt8.ofNat := by
  simp [bs, strOfNums]
theorem isEmpty_bne (l : List UInt8) : l.isEmpty = !(l != ([] : List UInt8)) := by cases l <;> rfl
theorem wrap64_id {i : Int} (h0 : -9223372036854775808 ≤ i) (h1 : i ≤ 9223372036854775807) : wrap64 i = i := by unfold wrap64; omega
theorem u64_wrap (n : Int) : IntKind.u64.wrap n = n % 18446744073709551616 := by simp [IntKind.wrap, IntKind.bits, IntKind.signed]
theorem u64_id {i : Int} (h0 : 0 ≤ i) (h1 : i < 18446744073709551616) : IntKind.u64.wrap i = i := by rw [u64_wrap]; omega
theorem mn_le {a b : Int} (h : a ≤ b) : mn a b = a := by unfold mn; rw [if_neg (by omega)]
theorem mn_ge {a b : Int} (h : b ≤ a) : mn a b = b := by unfold mn; split <;> omega
theorem wf_i64 {n : Int} (h : (Lit.int .i64 n).wf = true) : -9223372036854775808 ≤ n ∧ n ≤ 9223372036854775807 := by
  have e1 : IntKind.i64.min = -9223372036854775808 := by decide
  have e2 : IntKind.i64.max = 9223372036854775807 := by decide
  simp [Lit.wf, e1, e2] at h
  omega
end Go.Proofs.YtccekjebfafgcaaDoor.M
