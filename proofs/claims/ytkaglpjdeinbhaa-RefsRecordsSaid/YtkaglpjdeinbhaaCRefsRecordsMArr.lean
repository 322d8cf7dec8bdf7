/- Arrays of numbers in memory, by their whole block. No program in sight. -/
import Derived.Test.YtkaglpjdeinbhaaCRefsRecordsWMore
import Derived.Deep.MidRow
import Derived.OneCell
namespace Go.Proofs.Ytkaglpjdeinbhaa.M
open Go.RowKit Go.Proofs.YtkaglpjdeinbhaaW.PrintWords Go.Proofs.YtkaglpjdeinbhaaW.PrintMore

theorem setCells_far (vs : List Value) : ∀ (w : World) (g o b : Nat), b ≠ g → (w.setCells g o vs).heap[b]? = w.heap[b]? := by
  induction vs with
  | nil => intro w g o b _; rfl
  | cons v vs ih =>
    intro w g o b hb
    rw [World.setCells, ih _ _ _ _ hb, Below.heap_setCell _ _ _ _ hb]
theorem below_setCells {b : Nat} {w0 w : World} (h : Below b w0 w) (vs : List Value) : ∀ (g o : Nat), b ≤ g → Below b w0 (w.setCells g o vs) := by
  induction vs generalizing w with
  | nil => intro g o _; exact h
  | cons v vs ih =>
    intro g o hg
    rw [World.setCells]
    exact ih (h.setCell hg _) g (o + 1) hg
section
variable {P : Program} {ops : Array Oper} {rest : List Oper} {op : Oper} {a : Act} {w : World} {Q : Exit → Act → World → Prop}
end
end Go.Proofs.Ytkaglpjdeinbhaa.M
