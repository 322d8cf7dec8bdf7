/- Plain helpers of the statements: how many bytes texts have, whether two lists are the same. No program in sight. -/
import Derived.Test.YtccekjebfafgcaaDoorMBytes
namespace Go.Proofs.YtccekjebfafgcaaDoor.M
open Go.RowKit Go.Proofs.YtccekjebfafgcaaDoorW.PrintWords Go.Proofs.YtccekjebfafgcaaDoorW.PrintMore

def bytesN : Nat → List ByteArray → Nat
  | n, [] => n
  | n, s :: l => if 1000000 ≤ n + min s.size 1000000 then n + min s.size 1000000 else bytesN (n + min s.size 1000000) l
theorem bytesN_le : ∀ (l : List ByteArray) (n : Nat), n ≤ bytesN n l
  | [], _ => Nat.le_refl _
  | s :: l, n => by
    have := bytesN_le l (n + min s.size 1000000)
    unfold bytesN
    split <;> omega
theorem bytesN_each : ∀ (l : List ByteArray) (n : Nat), bytesN n l < 1000000 → ∀ s ∈ l, s.size ≤ bytesN n l
  | [], _, _, s, hs => absurd hs List.not_mem_nil
  | s :: l, n, h, x, hx => by
    unfold bytesN at h ⊢
    split at h
    · omega
    · rename_i c
      rw [if_neg c]
      have h1 := bytesN_le l (n + min s.size 1000000)
      rcases List.mem_cons.1 hx with rfl | hx
      · omega
      · exact bytesN_each l _ h x hx
theorem mn_min (a b : Nat) : mn (a : Int) (b : Int) = ((min a b : Nat) : Int) := by
  unfold mn
  split <;> omega
end Go.Proofs.YtccekjebfafgcaaDoor.M
