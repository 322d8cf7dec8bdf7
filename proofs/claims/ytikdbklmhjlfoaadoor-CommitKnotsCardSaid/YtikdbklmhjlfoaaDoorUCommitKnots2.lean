-- Laid by this session's own program (wip/tools/fold.py): this session's texts and words that print.sh laid for the seat, cut to what the claim names and put together; Lean checks it.
import Derived.Test.YtikdbklmhjlfoaaDoorUCommitKnots1
import Derived.Deep.MidRow
namespace Go.Proofs.YtikdbklmhjlfoaaDoor.M
open Go.RowKit Go.Proofs.YtikdbklmhjlfoaaDoorW.PrintWords Go.Proofs.YtikdbklmhjlfoaaDoorW.PrintMore
def rec_ (w : World) (g : Nat) (t : TypeId) (cs : List Value) : Prop := w.heap[g]? = some (.cells cs.toArray t (0, 0))
theorem rec_cell {w : World} {g t : Nat} {cs : List Value} (h : rec_ w g t cs) (i : Nat) (v : Value) (hv : cs[i]? = some v) : w.cell? ⟨g, i, none⟩ = some v := blk_cell h i v (by simpa using hv)
theorem rec_free {w : World} {g t : Nat} {cs : List Value} (h : rec_ w g t cs) (i : Nat) : w.frozen? ⟨g, i, none⟩ = false := blk_free h i
theorem rec_lt {w : World} {g t : Nat} {cs : List Value} (h : rec_ w g t cs) : g < w.heap.size := lt_of_block h
theorem rec_below {w w1 : World} {g t : Nat} {cs : List Value} (h : rec_ w g t cs) (hb : Below w.heap.size w w1) : rec_ w1 g t cs := (hb.block g (rec_lt h)).trans h
theorem rec_far {w : World} {g t : Nat} {cs : List Value} (h : rec_ w g t cs) (p : Addr) (hp : g ≠ p.block) (v : Value) : rec_ (w.setCell p v) g t cs := by
 unfold rec_ at h ⊢
 rw [Below.heap_setCell _ _ _ _ hp]; exact h
theorem rec_set {w : World} {g t : Nat} {cs : List Value} (h : rec_ w g t cs) (i : Nat) (v : Value) : rec_ (w.setCell ⟨g, i, none⟩ v) g t (cs.set i v) := by
 have := blk_set h i v
 unfold rec_
 rw [this]
 simp
theorem rec_drew {w : World} {g t : Nat} {cs : List Value} (h : rec_ w g t cs) : rec_ w.drew g t cs := h
theorem rec_drewN {w : World} {g t : Nat} {cs : List Value} (h : rec_ w g t cs) (n : Nat) : rec_ (w.drewN n) g t cs := h
theorem rec_alloc {w : World} {g t : Nat} {cs : List Value} (h : rec_ w g t cs) (o : Obj) : rec_ (w.alloc o) g t cs := (Below.heap_alloc _ _ _ (rec_lt h)).trans h
theorem rec_new (w : World) (t : Nat) (cs : List Value) : rec_ (w.alloc (.cells cs.toArray t)) w.heap.size t cs := heap_alloc_new _ _
theorem rec_grown {w w1 : World} {g t : Nat} {cs : List Value} {row : Option Nat} (h : rec_ w g t cs) (hg : w.grownBy w1 row) (hne : some g ≠ row) : rec_ w1 g t cs := (hg.block g (rec_lt h) hne).trans h
theorem rec_kept {w w1 : World} {g t : Nat} {cs : List Value} {S : Nat → Prop} (h : rec_ w g t cs) (hk : Kept w w1 S) (hne : ¬ S g) : rec_ w1 g t cs := (hk.2 g (rec_lt h) hne).trans h
theorem rec_range {w : World} {g t : Nat} {cs : List Value} (h : rec_ w g t cs) : w.rangeAt g 0 cs := by
 intro j v hv
 rw [Nat.zero_add]
 exact rec_cell h j v hv
theorem rec_there {w : World} {g t : Nat} {cs : List Value} (h : rec_ w g t cs) : w.there g 0 cs.length := by
 intro j hj
 rw [Nat.zero_add]
 exact ⟨by rw [rec_cell h j cs[j] (List.getElem?_eq_getElem hj)]; rfl, rec_free h j⟩
theorem rec_setCells_go {t : Nat} (ys : List Value) : ∀ (w : World) (g o : Nat) (xs : List Value), rec_ w g t xs → o + ys.length ≤ xs.length → rec_ (w.setCells g o ys) g t (xs.take o ++ ys ++ xs.drop (o + ys.length)) := by
 induction ys with
 | nil => intro w g o xs h _; simpa [World.setCells] using h
 | cons y ys ih =>
  intro w g o xs h hl
  rw [List.length_cons] at hl
  have h1 := rec_set h o y
  have := ih _ g (o + 1) _ h1 (by rw [List.length_set]; omega)
  show rec_ ((w.setCell ⟨g, o, none⟩ y).setCells g (o + 1) ys) g t _
  have e : (xs.set o y).take (o + 1) ++ ys ++ (xs.set o y).drop (o + 1 + ys.length) = xs.take o ++ y :: ys ++ xs.drop (o + (ys.length + 1)) := by
   rw [show o + (ys.length + 1) = o + 1 + ys.length from by omega, List.drop_set_of_lt (by omega), List.take_succ_eq_append_getElem (by rw [List.length_set]; omega), List.getElem_set_self, List.take_set_of_le (by omega)]
   simp only [List.append_assoc, List.cons_append, List.nil_append]
  rw [e] at this
  exact this
theorem rec_setCells {w : World} {g t : Nat} {xs : List Value} (h : rec_ w g t xs) (ys : List Value) (hl : ys.length = xs.length) : rec_ (w.setCells g 0 ys) g t ys := by
 have := rec_setCells_go ys w g 0 xs h (by omega)
 rw [List.take_zero, Nat.zero_add, List.drop_of_length_le (by omega), List.append_nil] at this
 exact this
theorem results_rec1 {P : Program} {fn : Func} {t : Tmp} {ty : TypeId} (h : fn.results = #[.cell t ty]) (tmps : Array Value) {w : World} {g T : Nat} {cs : List Value} {d : TypeDesc} (hp : tmps.getD t undef = .pointer (some ⟨g, 0, none⟩)) (hb : rec_ w g T cs)
    (hu : P.underlying ty = some d) (hd : d.isRow = true) (hi : (P.info? ty).map (·.size) = some cs.length) : (results fn tmps).run P w = .ok (.agg cs.toArray) w := by
 have hp' : tmps[t]?.getD undef = .pointer (some ⟨g, 0, none⟩) := by simpa using hp
 simp [results, h, hp', asAddr, run_loadVar_mid w g 0 ty cs d (rec_range hb) hu hd hi]
theorem results_rec2 {P : Program} {fn : Func} {t u : Tmp} {ty : TypeId} (h : fn.results = #[.cell t ty, .tmp u]) (tmps : Array Value) {w : World} {g T : Nat} {cs : List Value} {d : TypeDesc} (hp : tmps.getD t undef = .pointer (some ⟨g, 0, none⟩)) (hb : rec_ w g T cs)
    (hu : P.underlying ty = some d) (hd : d.isRow = true) (hi : (P.info? ty).map (·.size) = some cs.length) : (results fn tmps).run P w = .ok (.tuple #[.agg cs.toArray, tmps.getD u undef]) w := by
 have hp' : tmps[t]?.getD undef = .pointer (some ⟨g, 0, none⟩) := by simpa using hp
 simp [results, h, hp', asAddr, run_loadVar_mid w g 0 ty cs d (rec_range hb) hu hd hi]
section
variable {P : Program} {ops : Array Oper} {rest : List Oper} {op : Oper} {a : Act} {w : World} {Q : Exit → Act → World → Prop}
theorem wp_rec_load (hgd : op.guard = none) (ty : TypeId) (x : Operand) (ho : op.op = .load ty x) (g t : Nat) (cs : List Value) (hx : a.eval x = .pointer (some ⟨g, 0, none⟩)) (h : rec_ w g t cs) (d : TypeDesc)
    (hu : P.underlying ty = some d) (hd : d.isRow = true) (hi : (P.info? ty).map (·.size) = some cs.length) (K : wpList P ops Q rest (a.put op.dst (.agg cs.toArray)) w) : wpList P ops Q (op :: rest) a w :=
  wpList_load_mid hgd ty x ho g 0 hx cs d (rec_range h) hu hd hi K
theorem wp_rec_store (hgd : op.guard = none) (ty : TypeId) (x y : Operand) (ho : op.op = .store ty x y) (g t : Nat) (xs ys : List Value) (hx : a.eval x = .pointer (some ⟨g, 0, none⟩)) (hy : a.eval y = .agg ys.toArray) (h : rec_ w g t xs) (hl : ys.length = xs.length)
    (hi : (P.info? ty).map (·.size) = some xs.length) (h1 : ys.all (·.oneCell') = true) (K : ∀ w1, rec_ w1 g t ys → (∀ b, b ≠ g → w1.heap[b]? = w.heap[b]?) → (∀ b w0, b ≤ g → Below b w0 w → Below b w0 w1) → w1.heap.size = w.heap.size → wpList P ops Q rest (a.put op.dst undef) w1) : wpList P ops Q (op :: rest) a w := by
 refine wpList_store_mid hgd ty x y ho g 0 ys.toArray hx hy (by rw [List.size_toArray, hl]; exact rec_there h) (by rw [List.size_toArray, hl]; exact hi) (all_oneCell_toArray (fun v hv => List.all_eq_true.1 h1 v hv)) ?_
 exact K _ (rec_setCells h ys hl) (fun b hb => setCells_far _ _ _ _ _ hb) (fun b w0 hb hw => below_setCells hw _ g 0 hb) (setCells_size _ _ _ _)
end
theorem rec_other {w w1 : World} {g g2 t : Nat} {cs : List Value} (h : rec_ w g t cs) (hf : ∀ b, b ≠ g2 → w1.heap[b]? = w.heap[b]?) (hne : g ≠ g2) : rec_ w1 g t cs := (hf g hne).trans h
theorem row_past {α : Type} {d : Kd α} {e base g : Nat} {w w4 : World} {v : Value} {xs : List α} (h : d.R e w base (fun _ => True) v xs) (hg : g < base) (o : Obj) (hF : ∀ b, b ≠ g → w4.heap[b]? = (w.alloc o).heap[b]?) : d.R e w4 base (fun _ => True) v xs :=
  Kd.R_mono (Kd.R_step (Kd.R_bound h) (fun k hk hlt => (hF k (fun e => by have := hk.2.1; omega)).trans (Below.heap_alloc w o k hlt))) (fun _ _ => trivial)
theorem alloc_lt (w : World) (o : Obj) : w.heap.size < (w.alloc o).heap.size := by simp
end Go.Proofs.YtikdbklmhjlfoaaDoor.M
