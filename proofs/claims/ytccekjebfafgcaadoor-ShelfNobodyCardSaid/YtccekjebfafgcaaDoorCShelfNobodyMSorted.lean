/- Lists of texts that rise: where a text stands, with it, without it. No program in sight. -/
import Derived.Test.YtccekjebfafgcaaDoorCShelfNobodyMStr
namespace Go.Proofs.YtccekjebfafgcaaDoor.M
open Go.RowKit Go.Proofs.YtccekjebfafgcaaDoorW.PrintWords Go.Proofs.YtccekjebfafgcaaDoorW.PrintMore

def lt (a b : ByteArray) : Prop := Op.bytesLess a.toList b.toList = true
instance (a b : ByteArray) : Decidable (lt a b) := inferInstanceAs (Decidable (_ = true))
theorem lt_irrefl (a : ByteArray) : ¬ lt a a := by unfold lt; rw [less_irrefl]; simp
instance memDec (s : ByteArray) (l : List ByteArray) : Decidable (s ∈ l) := decidable_of_iff (∃ x ∈ l, x = s) (by simp)
/-- Do texts rise? -/
def rises (l : List ByteArray) : Prop := l.Pairwise lt
instance (l : List ByteArray) : Decidable (rises l) := inferInstanceAs (Decidable (l.Pairwise lt))
/-! Names, and rows of them -/
def fitN (n : Int) : Prop := (97 ≤ n ∧ n ≤ 122) ∨ (48 ≤ n ∧ n ≤ 57) ∨ n = 45
instance (n : Int) : Decidable (fitN n) := inferInstanceAs (Decidable (_ ∨ _))
def follows : Option ByteArray → ByteArray → Bool
  | none, _ => true
  | some y, x => decide (lt y x)
end Go.Proofs.YtccekjebfafgcaaDoor.M
