/- What a Scan reads (layer 4), on its bytes, its place and its error. No program in sight. -/
import Derived.Test.YtccekjebfafgcaaDoorCShelfApartMRef01
namespace Go.Proofs.YtccekjebfafgcaaDoor.M
open Go.RowKit Go.Proofs.YtccekjebfafgcaaDoorW.PrintWords Go.Proofs.YtccekjebfafgcaaDoorW.PrintMore

/-- A place in a text that fits the machine. -/
def sok (s : ByteArray) (p : Int) : Prop := 0 ≤ p ∧ p ≤ s.size ∧ s.size ≤ 9223372036854775807
instance (s : ByteArray) (p : Int) : Decidable (sok s p) := inferInstanceAs (Decidable (_ ∧ _))
end Go.Proofs.YtccekjebfafgcaaDoor.M
