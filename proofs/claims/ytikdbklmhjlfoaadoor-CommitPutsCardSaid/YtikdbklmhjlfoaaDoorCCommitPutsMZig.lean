/- Numbers of either sign as numbers (P1.2). No program in sight. -/
import Derived.Test.YtikdbklmhjlfoaaDoorCCommitPutsMVarint
namespace Go.Proofs.YtikdbklmhjlfoaaDoor.M
open Go.RowKit Go.Proofs.YtikdbklmhjlfoaaDoorW.PrintWords Go.Proofs.YtikdbklmhjlfoaaDoorW.PrintMore

def zag (u : Int) : Int := if u % 2 = 0 then u / 2 else -1 - u / 2
theorem vget_range (s : ByteArray) : 0 ≤ (vget s).1 ∧ (vget s).1 < 18446744073709551616 ∧ 0 ≤ (vget s).2.1 ∧ (vget s).2.1 ≤ s.size := by
  have hl := bs_length s
  unfold vget
  rcases vgetL_cases (bs s) with ⟨n, r, hn, hr, e⟩ | ⟨_, e⟩
  · rw [e]
    refine ⟨by omega, by simp only; omega, by simp only; omega, ?_⟩
    rw [hr, List.length_append] at hl
    simp only; omega
  · rw [e]; simp only; omega
end Go.Proofs.YtikdbklmhjlfoaaDoor.M
