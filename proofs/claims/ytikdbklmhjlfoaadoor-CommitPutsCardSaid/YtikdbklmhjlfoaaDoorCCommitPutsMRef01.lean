/- What the references of layer 1 compute: digits, their bytes, the number at the front. No program in sight. -/
import Derived.Test.YtikdbklmhjlfoaaDoorCCommitPutsMZig
namespace Go.Proofs.YtikdbklmhjlfoaaDoor.M
open Go.RowKit Go.Proofs.YtikdbklmhjlfoaaDoorW.PrintWords Go.Proofs.YtikdbklmhjlfoaaDoorW.PrintMore

/-- The digits to the base 128, the lowest one first. -/
def vdigF : Nat → Nat → List Int
  | 0, _ => []
  | k + 1, n => if n < 128 then [(n : Int)] else ((n % 128 : Nat) : Int) :: vdigF k (n / 128)
theorem vdigF_more : ∀ (k k' n : Nat), n < k → n < k' → vdigF k n = vdigF k' n
  | 0, _, _, h, _ => absurd h (Nat.not_lt_zero _)
  | _ + 1, 0, _, _, h => absurd h (Nat.not_lt_zero _)
  | k + 1, k' + 1, n, h, h' => by
    unfold vdigF
    by_cases hn : n < 128
    · rw [if_pos hn, if_pos hn]
    · rw [if_neg hn, if_neg hn, vdigF_more k k' (n / 128) (by omega) (by omega)]
def vdig (n : Nat) : List Int := vdigF (n + 1) n
theorem vdig_low {n : Nat} (h : n < 128) : vdig n = [(n : Int)] := by unfold vdig vdigF; rw [if_pos h]
theorem vdig_high {n : Nat} (h : ¬ n < 128) : vdig n = ((n % 128 : Nat) : Int) :: vdig (n / 128) := by
  unfold vdig; rw [vdigF, if_neg h, vdigF_more n (n / 128 + 1) (n / 128) (by omega) (by omega)]
theorem vdig_length (n : Nat) : (vdig n).length = (vb n).length := by
  induction n using Nat.strongRecOn with
  | ind n ih =>
    by_cases h : n < 128
    · rw [vdig_low h, vb_low h]; rfl
    · rw [vdig_high h, vb_high h, List.length_cons, List.length_cons, ih _ (by omega)]
theorem vdig_ne (n : Nat) : vdig n ≠ [] := fun h => by have := vdig_length n; rw [h] at this; have := vb_pos n; simp at *; omega
theorem vdig_range (n : Nat) : ∀ d ∈ vdig n, 0 ≤ d ∧ d < 128 := by
  induction n using Nat.strongRecOn with
  | ind n ih =>
    intro d hd
    by_cases h : n < 128
    · rw [vdig_low h] at hd; simp at hd; omega
    · rw [vdig_high h, List.mem_cons] at hd
      rcases hd with rfl | hd
      · omega
      · exact ih _ (by omega) d hd
/-- The bytes of digits. -/
def venc : List Int → List UInt8
  | [] => []
  | [d] => [UInt8.ofNat d.toNat]
  | d :: e :: l => UInt8.ofNat (d.toNat + 128) :: venc (e :: l)
theorem venc_one (d : Int) : venc [d] = [UInt8.ofNat d.toNat] := rfl
theorem venc_cons (d : Int) {l : List Int} (h : l ≠ []) : venc (d :: l) = UInt8.ofNat (d.toNat + 128) :: venc l := by
  cases l with
  | nil => exact absurd rfl h
  | cons e l => rfl
theorem venc_vdig (n : Nat) : venc (vdig n) = vb n := by
  induction n using Nat.strongRecOn with
  | ind n ih =>
    by_cases h : n < 128
    · rw [vdig_low h, vb_low h, venc_one]; simp
    · rw [vdig_high h, vb_high h, venc_cons _ (vdig_ne _), ih _ (by omega), Int.toNat_natCast]

end Go.Proofs.YtikdbklmhjlfoaaDoor.M
