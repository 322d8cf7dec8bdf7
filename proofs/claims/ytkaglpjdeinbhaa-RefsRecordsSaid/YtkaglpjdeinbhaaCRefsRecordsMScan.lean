/- What a Scan reads (layer 4), on its bytes, its place and its error. No program in sight. -/
import Derived.Test.YtkaglpjdeinbhaaCRefsRecordsMRef01
namespace Go.Proofs.Ytkaglpjdeinbhaa.M
open Go.RowKit Go.Proofs.YtkaglpjdeinbhaaW.PrintWords Go.Proofs.YtkaglpjdeinbhaaW.PrintMore

/-- A place in a text that fits the machine. -/
def sok (s : ByteArray) (p : Int) : Prop := 0 ≤ p ∧ p ≤ s.size ∧ s.size ≤ 9223372036854775807
instance (s : ByteArray) (p : Int) : Decidable (sok s p) := inferInstanceAs (Decidable (_ ∧ _))
end Go.Proofs.Ytkaglpjdeinbhaa.M
