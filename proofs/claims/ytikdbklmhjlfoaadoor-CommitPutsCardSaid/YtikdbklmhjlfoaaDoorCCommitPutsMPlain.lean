/- Plain helpers of the statements: how many bytes texts have, whether two lists are the same. No program in sight. -/
import Derived.Test.YtikdbklmhjlfoaaDoorCCommitPutsMBytes
namespace Go.Proofs.YtikdbklmhjlfoaaDoor.M
open Go.RowKit Go.Proofs.YtikdbklmhjlfoaaDoorW.PrintWords Go.Proofs.YtikdbklmhjlfoaaDoorW.PrintMore

def bytesN : Nat → List ByteArray → Nat
  | n, [] => n
  | n, s :: l => if 1000000 ≤ n + min s.size 1000000 then n + min s.size 1000000 else bytesN (n + min s.size 1000000) l
theorem mn_min (a b : Nat) : mn (a : Int) (b : Int) = ((min a b : Nat) : Int) := by
  unfold mn
  split <;> omega
end Go.Proofs.YtikdbklmhjlfoaaDoor.M
