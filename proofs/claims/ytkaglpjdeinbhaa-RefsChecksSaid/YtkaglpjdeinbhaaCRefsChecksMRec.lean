/- Records in memory, by their whole block. No program in sight. -/
import Derived.Test.YtkaglpjdeinbhaaCRefsChecksMHash
import Derived.Deep.MidRow
namespace Go.Proofs.Ytkaglpjdeinbhaa.M
open Go.RowKit Go.Proofs.YtkaglpjdeinbhaaW.PrintWords Go.Proofs.YtkaglpjdeinbhaaW.PrintMore

/-- Block g holds the record of those cells (type t). -/
def rec_ (w : World) (g : Nat) (t : TypeId) (cs : List Value) : Prop := w.heap[g]? = some (.cells cs.toArray t (0, 0))
theorem rec_cell {w : World} {g t : Nat} {cs : List Value} (h : rec_ w g t cs) (i : Nat) (v : Value) (hv : cs[i]? = some v) : w.cell? ⟨g, i, none⟩ = some v := blk_cell h i v (by simpa using hv)
theorem rec_lt {w : World} {g t : Nat} {cs : List Value} (h : rec_ w g t cs) : g < w.heap.size := lt_of_block h
theorem rec_below {w w1 : World} {g t : Nat} {cs : List Value} (h : rec_ w g t cs) (hb : Below w.heap.size w w1) : rec_ w1 g t cs := (hb.block g (rec_lt h)).trans h
theorem rec_drew {w : World} {g t : Nat} {cs : List Value} (h : rec_ w g t cs) : rec_ w.drew g t cs := h
theorem rec_drewN {w : World} {g t : Nat} {cs : List Value} (h : rec_ w g t cs) (n : Nat) : rec_ (w.drewN n) g t cs := h
theorem rec_new (w : World) (t : Nat) (cs : List Value) : rec_ (w.alloc (.cells cs.toArray t)) w.heap.size t cs := heap_alloc_new _ _
section
variable {P : Program} {ops : Array Oper} {rest : List Oper} {op : Oper} {a : Act} {w : World} {Q : Exit → Act → World → Prop}
end
end Go.Proofs.Ytkaglpjdeinbhaa.M
