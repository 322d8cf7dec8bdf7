/- Numbers of either sign as numbers (P1.2). No program in sight. -/
import Derived.Test.YtccekjebfafgcaaDoorMVarint
namespace Go.Proofs.YtccekjebfafgcaaDoor.M
open Go.RowKit Go.Proofs.YtccekjebfafgcaaDoorW.PrintWords Go.Proofs.YtccekjebfafgcaaDoorW.PrintMore

theorem i64_wrap (n : Int) : IntKind.i64.wrap n = wrap64 n := by rw [Go.IntKind.wrap_i64]; unfold wrap64; rfl
theorem bv_toNat (x : Int) : ((BitVec.ofInt 64 x).toNat : Int) = x % 18446744073709551616 := by
  simp [BitVec.toNat_ofInt]; omega
theorem xor_u64 (x y : Int) : Go.bits .xor .u64 x y = IntKind.u64.wrap ((BitVec.ofInt 64 x ^^^ BitVec.ofInt 64 y).toNat : Int) := rfl
theorem xor_i64 (x y : Int) : Go.bits .xor .i64 x y = IntKind.i64.wrap ((BitVec.ofInt 64 x ^^^ BitVec.ofInt 64 y).toNat : Int) := rfl
theorem xor_zero_u64 {x : Int} (h0 : 0 ≤ x) (h1 : x < 18446744073709551616) : Go.bits .xor .u64 x 0 = x := by
  have e : BitVec.ofInt 64 0 = 0#64 := by decide
  rw [xor_u64, e, BitVec.xor_zero, bv_toNat, u64_wrap]; omega
theorem xor_ones_u64 {x : Int} (h0 : 0 ≤ x) (h1 : x < 18446744073709551616) : Go.bits .xor .u64 x 18446744073709551615 = 18446744073709551615 - x := by
  have e : BitVec.ofInt 64 18446744073709551615 = BitVec.allOnes 64 := by decide
  have h := bv_toNat x
  have h2 := BitVec.toNat_not (x := BitVec.ofInt 64 x)
  have h3 := (BitVec.ofInt 64 x).isLt
  rw [xor_u64, e, BitVec.xor_allOnes, h2, u64_wrap]; omega
theorem xor_zero_i64 {x : Int} (h0 : 0 ≤ x) (h1 : x < 9223372036854775808) : Go.bits .xor .i64 x 0 = x := by
  have e : BitVec.ofInt 64 0 = 0#64 := by decide
  rw [xor_i64, e, BitVec.xor_zero, bv_toNat, i64_wrap, wrap64]; omega
theorem xor_ones_i64 {x : Int} (h0 : 0 ≤ x) (h1 : x < 9223372036854775808) : Go.bits .xor .i64 x (-1) = -1 - x := by
  have e : BitVec.ofInt 64 (-1) = BitVec.allOnes 64 := by decide
  have h := bv_toNat x
  have h2 := BitVec.toNat_not (x := BitVec.ofInt 64 x)
  have h3 := (BitVec.ofInt 64 x).isLt
  rw [xor_i64, e, BitVec.xor_allOnes, h2, i64_wrap, wrap64]; omega
theorem and_one {x : Int} (h0 : 0 ≤ x) (h1 : x < 18446744073709551616) : Go.bits .and .u64 x 1 = x % 2 := by
  obtain ⟨n, rfl⟩ := Int.eq_ofNat_of_zero_le h0
  have := (Go.bits_nat .u64 64 (by decide) (fun n h0 h1 => u64_id h0 (by omega)) n 1 (by omega) (by decide)).1
  rw [Nat.and_one_is_mod] at this
  rw [show (1 : Int) = ((1 : Nat) : Int) from rfl, this]; omega

def zig (n : Int) : Int := if 0 ≤ n then 2 * n else -2 * n - 1
def zag (u : Int) : Int := if u % 2 = 0 then u / 2 else -1 - u / 2
theorem zig_range {n : Int} (h0 : -9223372036854775808 ≤ n) (h1 : n ≤ 9223372036854775807) : 0 ≤ zig n ∧ zig n < 18446744073709551616 := by unfold zig; split <;> omega
theorem zag_range {u : Int} (h0 : 0 ≤ u) (h1 : u < 18446744073709551616) : -9223372036854775808 ≤ zag u ∧ zag u ≤ 9223372036854775807 := by unfold zag; split <;> omega
theorem zag_zig (n : Int) : zag (zig n) = n := by unfold zag zig; split <;> split <;> omega
theorem zig_zag {u : Int} (h0 : 0 ≤ u) : zig (zag u) = u := by unfold zag zig; split <;> split <;> omega

theorem zig_code {n : Int} (h0 : -9223372036854775808 ≤ n) (h1 : n ≤ 9223372036854775807) :
    Go.bits .xor .u64 (IntKind.u64.wrap ((IntKind.u64.wrap n) * 2)) (IntKind.u64.wrap (n / 9223372036854775808)) = zig n := by
  simp only [u64_wrap]
  unfold zig
  split
  · have e : n / 9223372036854775808 % 18446744073709551616 = 0 := by omega
    rw [e, xor_zero_u64 (by omega) (by omega)]; omega
  · have e : n / 9223372036854775808 % 18446744073709551616 = 18446744073709551615 := by omega
    rw [e, xor_ones_u64 (by omega) (by omega)]; omega
theorem zag_code {u : Int} (h0 : 0 ≤ u) (h1 : u < 18446744073709551616) :
    Go.bits .xor .i64 (wrap64 (u / 2)) (wrap64 (-(wrap64 (Go.bits .and .u64 u 1)))) = zag u := by
  rw [and_one h0 h1, wrap64_id (i := u / 2) (by omega) (by omega), wrap64_id (i := u % 2) (by omega) (by omega), wrap64_id (i := -(u % 2)) (by omega) (by omega)]
  unfold zag
  split
  · rename_i h; rw [h, show (-(0 : Int)) = 0 from rfl, xor_zero_i64 (by omega) (by omega)]
  · have e : u % 2 = 1 := by omega
    rw [e, xor_ones_i64 (by omega) (by omega)]

/-- What GetInt answers. -/
def vgeti (s : ByteArray) : Int × Int × Bool := (zag (vget s).1, (vget s).2.1, (vget s).2.2)
theorem vget_range (s : ByteArray) : 0 ≤ (vget s).1 ∧ (vget s).1 < 18446744073709551616 ∧ 0 ≤ (vget s).2.1 ∧ (vget s).2.1 ≤ s.size := by
  have hl := bs_length s
  unfold vget
  rcases vgetL_cases (bs s) with ⟨n, r, hn, hr, e⟩ | ⟨_, e⟩
  · rw [e]
    refine ⟨by omega, by simp only; omega, by simp only; omega, ?_⟩
    rw [hr, List.length_append] at hl
    simp only; omega
  · rw [e]; simp only; omega
end Go.Proofs.YtccekjebfafgcaaDoor.M
