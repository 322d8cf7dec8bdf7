/- Texts held against each other: '<=', '>', '>=' by '<' alone. No program in sight. -/
import Derived.Test.YtccekjebfafgcaaDoorCShelfApartMBytes
namespace Go.Proofs.YtccekjebfafgcaaDoor.M
open Go.RowKit Go.Proofs.YtccekjebfafgcaaDoorW.PrintWords Go.Proofs.YtccekjebfafgcaaDoorW.PrintMore

theorem less_irrefl : ∀ a : List UInt8, Op.bytesLess a a = false
  | [] => rfl
  | x :: a => by unfold Op.bytesLess; simp [less_irrefl a]
theorem less_or : ∀ a b : List UInt8, (Op.bytesLess a b || a == b) = !Op.bytesLess b a
  | [], [] => rfl
  | [], _ :: _ => rfl
  | _ :: _, [] => rfl
  | x :: a, y :: b => by
    have ih := less_or a b
    unfold Op.bytesLess
    rcases Nat.lt_trichotomy x.toNat y.toNat with h | h | h
    · have h1 : x < y := h
      have h2 : ¬ y < x := fun z => Nat.lt_asymm h z
      have h3 : ¬ y = x := by rintro rfl; exact Nat.lt_irrefl _ h
      simp [h1, h2, h3]
    · have h1 : x = y := UInt8.toNat_inj.1 h
      subst h1
      have h2 : ¬ x < x := fun z => Nat.lt_irrefl x.toNat z
      simpa [h2] using ih
    · have h1 : y < x := h
      have h2 : ¬ x < y := fun z => Nat.lt_asymm h z
      have h3 : ¬ x = y := by rintro rfl; exact Nat.lt_irrefl _ h
      simp [h1, h2, h3]
theorem run_leq (t : TypeId) (a b : ByteArray) : binOp .leq t (.string a) (.string b) = pure (.bool !(Op.bytesLess b.toList a.toList)) := by
  rw [← less_or a.toList b.toList]; simp [binOp, Op.stringOp]
theorem run_gtr (t : TypeId) (a b : ByteArray) : binOp .gtr t (.string a) (.string b) = pure (.bool (Op.bytesLess b.toList a.toList)) := by
  have e : Op.bytesLess b.toList a.toList = !(Op.bytesLess a.toList b.toList || a.toList == b.toList) := by rw [less_or, Bool.not_not]
  rw [e]; simp [binOp, Op.stringOp]
theorem run_geq (t : TypeId) (a b : ByteArray) : binOp .geq t (.string a) (.string b) = pure (.bool !(Op.bytesLess a.toList b.toList)) := by simp [binOp, Op.stringOp]
end Go.Proofs.YtccekjebfafgcaaDoor.M
