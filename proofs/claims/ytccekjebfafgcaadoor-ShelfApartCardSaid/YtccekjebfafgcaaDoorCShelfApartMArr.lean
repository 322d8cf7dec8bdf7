/- Arrays of numbers in memory, by their whole block. No program in sight. -/
import Derived.Test.YtccekjebfafgcaaDoorCShelfApartWMore
import Derived.Deep.MidRow
import Derived.OneCell
namespace Go.Proofs.YtccekjebfafgcaaDoor.M
open Go.RowKit Go.Proofs.YtccekjebfafgcaaDoorW.PrintWords Go.Proofs.YtccekjebfafgcaaDoorW.PrintMore

/-- Block g is an array of whole numbers xs (type t). -/
def arr (w : World) (g : Nat) (t : TypeId) (k : IntKind) (xs : List Int) : Prop := w.heap[g]? = some (.cells (nums k xs).toArray t (0, 0))
theorem nums_len (k : IntKind) (xs : List Int) : (nums k xs).length = xs.length := by simp [nums]
theorem nums_get (k : IntKind) (xs : List Int) (i : Nat) (h : i < xs.length) : (nums k xs)[i]? = some (.int k (xs.getD i 0)) := by simp [nums, List.getD, h]
theorem nums_set (k : IntKind) (xs : List Int) (i : Nat) (v : Int) : (nums k xs).set i (.int k v) = nums k (xs.set i v) := by simp [nums, List.map_set]
theorem arr_cell {w : World} {g t : Nat} {k : IntKind} {xs : List Int} (h : arr w g t k xs) (i : Nat) (hi : i < xs.length) : w.cell? ⟨g, i, none⟩ = some (.int k (xs.getD i 0)) := by
  unfold arr at h
  simp [World.cell?, h, nums, hi]
theorem arr_free {w : World} {g t : Nat} {k : IntKind} {xs : List Int} (h : arr w g t k xs) (i : Nat) : w.frozen? ⟨g, i, none⟩ = false := by
  unfold arr at h
  simp [World.frozen?, h]
theorem arr_lt {w : World} {g t : Nat} {k : IntKind} {xs : List Int} (h : arr w g t k xs) : g < w.heap.size := lt_of_block h
theorem arr_set {w : World} {g t : Nat} {k : IntKind} {xs : List Int} (h : arr w g t k xs) (i : Nat) (v : Int) : arr (w.setCell ⟨g, i, none⟩ (.int k v)) g t k (xs.set i v) := by
  unfold arr at h ⊢
  have hlt := lt_of_block h
  have h' : w.heap[g] = .cells (nums k xs).toArray t (0, 0) := by simpa [Array.getElem?_eq_getElem hlt] using h
  show (w.heap.modify g _)[g]? = _
  rw [Array.getElem?_eq_getElem (by simpa using hlt), Array.getElem_modify_self, h', ← nums_set]
  simp
theorem arr_far {w : World} {g t : Nat} {k : IntKind} {xs : List Int} (h : arr w g t k xs) (p : Addr) (hp : g ≠ p.block) (v : Value) : arr (w.setCell p v) g t k xs := by
  unfold arr at h ⊢
  rw [Below.heap_setCell _ _ _ _ hp]; exact h
theorem arr_below {w w1 : World} {g t : Nat} {k : IntKind} {xs : List Int} (h : arr w g t k xs) (hb : Below w.heap.size w w1) : arr w1 g t k xs := (hb.block g (arr_lt h)).trans h
theorem arr_drew {w : World} {g t : Nat} {k : IntKind} {xs : List Int} (h : arr w g t k xs) : arr w.drew g t k xs := h
theorem arr_drewN {w : World} {g t : Nat} {k : IntKind} {xs : List Int} (h : arr w g t k xs) (n : Nat) : arr (w.drewN n) g t k xs := h
theorem arr_alloc {w : World} {g t : Nat} {k : IntKind} {xs : List Int} (h : arr w g t k xs) (o : Obj) : arr (w.alloc o) g t k xs := (Below.heap_alloc _ _ _ (arr_lt h)).trans h
theorem arr_new (w : World) (t : Nat) (k : IntKind) (xs : List Int) : arr (w.alloc (.cells (nums k xs).toArray t)) w.heap.size t k xs := heap_alloc_new _ _
theorem arr_range {w : World} {g t : Nat} {k : IntKind} {xs : List Int} (h : arr w g t k xs) : w.rangeAt g 0 (nums k xs) := by
  intro j v hv
  have hj := (List.getElem?_eq_some_iff.1 hv).1
  rw [nums_len] at hj
  rw [Nat.zero_add, arr_cell h j hj]
  rw [nums_get k xs j hj] at hv
  exact hv
theorem arr_there {w : World} {g t : Nat} {k : IntKind} {xs : List Int} (h : arr w g t k xs) : w.there g 0 xs.length := by
  intro j hj
  rw [Nat.zero_add]
  exact ⟨by rw [arr_cell h j hj]; rfl, arr_free h j⟩
theorem arr_ones (k : IntKind) (xs : List Int) : (nums k xs).toArray.all (·.oneCell') = true := all_oneCell_toArray (fun v hv => by
  obtain ⟨x, _, rfl⟩ := List.mem_map.1 hv
  rfl)
theorem arr_loadVar {P : Program} {w : World} {g t : Nat} {k : IntKind} {xs : List Int} (h : arr w g t k xs) (ty : TypeId) (d : TypeDesc) (hu : P.underlying ty = some d) (hd : d.isRow = true) (hi : (P.info? ty).map (·.size) = some xs.length) :
    (loadVar ty ⟨g, 0, none⟩).run P w = .ok (.agg (nums k xs).toArray) w := run_loadVar_mid w g 0 ty (nums k xs) d (arr_range h) hu hd (by rw [nums_len]; exact hi)
theorem setCells_far (vs : List Value) : ∀ (w : World) (g o b : Nat), b ≠ g → (w.setCells g o vs).heap[b]? = w.heap[b]? := by
  induction vs with
  | nil => intro w g o b _; rfl
  | cons v vs ih =>
    intro w g o b hb
    rw [World.setCells, ih _ _ _ _ hb, Below.heap_setCell _ _ _ _ hb]
theorem setCells_size (vs : List Value) : ∀ (w : World) (g o : Nat), (w.setCells g o vs).heap.size = w.heap.size := by
  induction vs with
  | nil => intro w g o; rfl
  | cons v vs ih =>
    intro w g o
    rw [World.setCells, ih]
    simp
theorem below_setCells {b : Nat} {w0 w : World} (h : Below b w0 w) (vs : List Value) : ∀ (g o : Nat), b ≤ g → Below b w0 (w.setCells g o vs) := by
  induction vs generalizing w with
  | nil => intro g o _; exact h
  | cons v vs ih =>
    intro g o hg
    rw [World.setCells]
    exact ih (h.setCell hg _) g (o + 1) hg
theorem arr_setCells_go {t : Nat} {k : IntKind} (ys : List Int) : ∀ (w : World) (g o : Nat) (xs : List Int), arr w g t k xs → o + ys.length ≤ xs.length → arr (w.setCells g o (nums k ys)) g t k (xs.take o ++ ys ++ xs.drop (o + ys.length)) := by
  induction ys with
  | nil => intro w g o xs h _; simpa [nums, World.setCells] using h
  | cons y ys ih =>
    intro w g o xs h hl
    rw [List.length_cons] at hl
    have h1 := arr_set h o y
    have := ih _ g (o + 1) _ h1 (by rw [List.length_set]; omega)
    show arr ((w.setCell ⟨g, o, none⟩ (.int k y)).setCells g (o + 1) (nums k ys)) g t k _
    have e : (xs.set o y).take (o + 1) ++ ys ++ (xs.set o y).drop (o + 1 + ys.length) = xs.take o ++ y :: ys ++ xs.drop (o + (ys.length + 1)) := by
      rw [show o + (ys.length + 1) = o + 1 + ys.length from by omega, List.drop_set_of_lt (by omega), List.take_succ_eq_append_getElem (by rw [List.length_set]; omega), List.getElem_set_self, List.take_set_of_le (by omega)]
      simp only [List.append_assoc, List.cons_append, List.nil_append]
    rw [e] at this
    exact this
theorem arr_setCells {w : World} {g t : Nat} {k : IntKind} {xs : List Int} (h : arr w g t k xs) (ys : List Int) (hl : ys.length = xs.length) : arr (w.setCells g 0 (nums k ys)) g t k ys := by
  have := arr_setCells_go ys w g 0 xs h (by omega)
  rw [List.take_zero, Nat.zero_add, List.drop_of_length_le (by omega), List.append_nil] at this
  exact this
theorem results_arr1 {P : Program} {fn : Func} {t : Tmp} {ty : TypeId} (h : fn.results = #[.cell t ty]) (tmps : Array Value) {w : World} {g : Nat} {v : Value} (hp : tmps.getD t undef = .pointer (some ⟨g, 0, none⟩)) (hl : (loadVar ty ⟨g, 0, none⟩).run P w = .ok v w) :
    (results fn tmps).run P w = .ok v w := by
  have hp' : tmps[t]?.getD undef = .pointer (some ⟨g, 0, none⟩) := by simpa using hp
  simp [results, h, hp', asAddr, hl]
section
variable {P : Program} {ops : Array Oper} {rest : List Oper} {op : Oper} {a : Act} {w : World} {Q : Exit → Act → World → Prop}
/-- A load of the whole array. -/
theorem wp_arr_load (hgd : op.guard = none) (ty : TypeId) (x : Operand) (ho : op.op = .load ty x) (g t : Nat) (k : IntKind) (xs : List Int) (hx : a.eval x = .pointer (some ⟨g, 0, none⟩)) (h : arr w g t k xs) (d : TypeDesc)
    (hu : P.underlying ty = some d) (hd : d.isRow = true) (hi : (P.info? ty).map (·.size) = some xs.length) (K : wpList P ops Q rest (a.put op.dst (.agg (nums k xs).toArray)) w) : wpList P ops Q (op :: rest) a w :=
  wpList_load_mid hgd ty x ho g 0 hx (nums k xs) d (arr_range h) hu hd (by rw [nums_len]; exact hi) K
/-- A store of the whole array: the world behind it a letter. -/
theorem wp_arr_store (hgd : op.guard = none) (ty : TypeId) (x y : Operand) (ho : op.op = .store ty x y) (g t : Nat) (k : IntKind) (xs ys : List Int) (hx : a.eval x = .pointer (some ⟨g, 0, none⟩)) (hy : a.eval y = .agg (nums k ys).toArray) (h : arr w g t k xs) (hl : ys.length = xs.length)
    (hi : (P.info? ty).map (·.size) = some xs.length) (K : ∀ w1, arr w1 g t k ys → (∀ b, b ≠ g → w1.heap[b]? = w.heap[b]?) → (∀ b w0, b ≤ g → Below b w0 w → Below b w0 w1) → w1.heap.size = w.heap.size → wpList P ops Q rest (a.put op.dst undef) w1) : wpList P ops Q (op :: rest) a w := by
  refine wpList_store_mid hgd ty x y ho g 0 (nums k ys).toArray hx hy (by rw [List.size_toArray, nums_len, hl]; exact arr_there h) (by rw [List.size_toArray, nums_len, hl]; exact hi) (arr_ones k ys) ?_
  exact K _ (arr_setCells h ys hl) (fun b hb => setCells_far _ _ _ _ _ hb) (fun b w0 hb hw => below_setCells hw _ g 0 hb) (setCells_size _ _ _ _)
end
end Go.Proofs.YtccekjebfafgcaaDoor.M
