/- Plain mathematics of numbers' bytes (layer 1): what Put makes, what Get reads. No program in sight. -/
import Derived.Test.YtccekjebfafgcaaDoorCShelfApartMBytes
namespace Go.Proofs.YtccekjebfafgcaaDoor.M
open Go.RowKit Go.Proofs.YtccekjebfafgcaaDoorW.PrintWords Go.Proofs.YtccekjebfafgcaaDoorW.PrintMore

/-- A number's bytes. -/
def vbF : Nat → Nat → List UInt8
  | 0, _ => []
  | k + 1, n => if n < 128 then [UInt8.ofNat n] else UInt8.ofNat (n % 128 + 128) :: vbF k (n / 128)
def vb (n : Nat) : List UInt8 := vbF (n + 1) n
end Go.Proofs.YtccekjebfafgcaaDoor.M
