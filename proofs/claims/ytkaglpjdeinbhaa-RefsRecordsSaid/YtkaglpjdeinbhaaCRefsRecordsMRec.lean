/- Records in memory, by their whole block. No program in sight. -/
import Derived.Test.YtkaglpjdeinbhaaCRefsRecordsMHash
import Derived.Deep.MidRow
namespace Go.Proofs.Ytkaglpjdeinbhaa.M
open Go.RowKit Go.Proofs.YtkaglpjdeinbhaaW.PrintWords Go.Proofs.YtkaglpjdeinbhaaW.PrintMore

/-- Block g holds the record of those cells (type t). -/
def rec_ (w : World) (g : Nat) (t : TypeId) (cs : List Value) : Prop := w.heap[g]? = some (.cells cs.toArray t (0, 0))
theorem rec_cell {w : World} {g t : Nat} {cs : List Value} (h : rec_ w g t cs) (i : Nat) (v : Value) (hv : cs[i]? = some v) : w.cell? ⟨g, i, none⟩ = some v := blk_cell h i v (by simpa using hv)
theorem rec_free {w : World} {g t : Nat} {cs : List Value} (h : rec_ w g t cs) (i : Nat) : w.frozen? ⟨g, i, none⟩ = false := blk_free h i
theorem rec_lt {w : World} {g t : Nat} {cs : List Value} (h : rec_ w g t cs) : g < w.heap.size := lt_of_block h
theorem rec_below {w w1 : World} {g t : Nat} {cs : List Value} (h : rec_ w g t cs) (hb : Below w.heap.size w w1) : rec_ w1 g t cs := (hb.block g (rec_lt h)).trans h
theorem rec_set {w : World} {g t : Nat} {cs : List Value} (h : rec_ w g t cs) (i : Nat) (v : Value) : rec_ (w.setCell ⟨g, i, none⟩ v) g t (cs.set i v) := by
  have := blk_set h i v
  unfold rec_
  rw [this]
  simp
theorem rec_drew {w : World} {g t : Nat} {cs : List Value} (h : rec_ w g t cs) : rec_ w.drew g t cs := h
theorem rec_drewN {w : World} {g t : Nat} {cs : List Value} (h : rec_ w g t cs) (n : Nat) : rec_ (w.drewN n) g t cs := h
theorem rec_alloc {w : World} {g t : Nat} {cs : List Value} (h : rec_ w g t cs) (o : Obj) : rec_ (w.alloc o) g t cs := (Below.heap_alloc _ _ _ (rec_lt h)).trans h
theorem rec_new (w : World) (t : Nat) (cs : List Value) : rec_ (w.alloc (.cells cs.toArray t)) w.heap.size t cs := heap_alloc_new _ _
theorem rec_setCells_go {t : Nat} (ys : List Value) : ∀ (w : World) (g o : Nat) (xs : List Value), rec_ w g t xs → o + ys.length ≤ xs.length → rec_ (w.setCells g o ys) g t (xs.take o ++ ys ++ xs.drop (o + ys.length)) := by
  induction ys with
  | nil => intro w g o xs h _; simpa [World.setCells] using h
  | cons y ys ih =>
    intro w g o xs h hl
    rw [List.length_cons] at hl
    have h1 := rec_set h o y
    have := ih _ g (o + 1) _ h1 (by rw [List.length_set]; omega)
    show rec_ ((w.setCell ⟨g, o, none⟩ y).setCells g (o + 1) ys) g t _
    have e : (xs.set o y).take (o + 1) ++ ys ++ (xs.set o y).drop (o + 1 + ys.length) = xs.take o ++ y :: ys ++ xs.drop (o + (ys.length + 1)) := by
      rw [show o + (ys.length + 1) = o + 1 + ys.length from by omega, List.drop_set_of_lt (by omega), List.take_succ_eq_append_getElem (by rw [List.length_set]; omega), List.getElem_set_self, List.take_set_of_le (by omega)]
      simp only [List.append_assoc, List.cons_append, List.nil_append]
    rw [e] at this
    exact this
section
variable {P : Program} {ops : Array Oper} {rest : List Oper} {op : Oper} {a : Act} {w : World} {Q : Exit → Act → World → Prop}
end
end Go.Proofs.Ytkaglpjdeinbhaa.M
