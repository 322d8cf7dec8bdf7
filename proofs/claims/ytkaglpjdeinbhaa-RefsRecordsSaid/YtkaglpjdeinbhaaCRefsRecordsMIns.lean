/- Rows of records of three cells: what copy does, what stands in the block behind it. -/
import Derived.Test.YtkaglpjdeinbhaaCRefsRecordsMRec
import Derived.Shelf.Spec.SlicesInsert
import Derived.Lib.AppendZerosOnto
namespace Go.Proofs.Ytkaglpjdeinbhaa.M
open Go.RowKit Go.Proofs Go.Proofs.YtkaglpjdeinbhaaW.PrintWords Go.Proofs.YtkaglpjdeinbhaaW.PrintMore
variable {P : Program}

theorem run_copy_sz (sz : Nat) (w : World) (dT sT ty elem : TypeId) (b o dLen dCap : Nat) (a : Addr) (sLen sCap m : Nat) (cs : List Value)
    (hu : P.underlying dT = some (.slice elem)) (hs : (P.info? elem).map (·.size) = some sz) (hm : m = Nat.min sLen dLen) (hn : cs.length = m * sz)
    (hsrc : ∀ j v, cs[j]? = some v → w.cell? (a.add j) = some v) (hc : ∀ j, j < cs.length → (w.cell? ⟨b, o + j, none⟩).isSome = true) (hf : ∀ j, j < cs.length → w.frozen? ⟨b, o + j, none⟩ = false) (h1 : ∀ v ∈ cs, v.oneCell' = true) :
    (Builtin.copy_ #[dT, sT] ty #[.slice (some ⟨b, o, none⟩) dLen dCap, .slice (some a) sLen sCap]).run P w = .ok (goInt m) (w.setCells b o cs) := by
  have hl := run_loadCells_list (P := P) w a cs hsrc
  have hst := run_storeCells_cells (P := P) b o cs 0 w (by simpa using hc) (by simpa using hf) h1
  cases hq : P.info? elem with
  | none => simp [hq] at hs
  | some i =>
    have hi : i.size = sz := by simpa [hq] using hs
    rw [hn] at hl
    simp [Builtin.copy_, run_underlying hu, Builtin.lenOf, Builtin.firstCells, sizeOf, typeInfo, hq, hi, ← hm, hl, hst]
theorem addr_add (b o j : Nat) : (⟨b, o, none⟩ : Addr).add j = ⟨b, o + j, none⟩ := by unfold Addr.add; simp
/-- copy into a block of one's own, out of a block. -/
theorem copy_rec (sz : Nat) {w : World} {g h o p tg th : Nat} {cur src : List Value} (dT sT ty elem : TypeId) (dLen dCap sLen sCap m : Nat) (cs : List Value)
    (hG : rec_ w g tg cur) (hH : rec_ w h th src) (hu : P.underlying dT = some (.slice elem)) (hs : (P.info? elem).map (·.size) = some sz) (hm : m = Nat.min sLen dLen) (hn : cs.length = m * sz)
    (hcs : cs = (src.drop p).take (m * sz)) (hfit : o + cs.length ≤ cur.length) (h1 : ∀ v ∈ cs, v.oneCell' = true) :
    (Builtin.copy_ #[dT, sT] ty #[.slice (some ⟨g, o, none⟩) dLen dCap, .slice (some ⟨h, p, none⟩) sLen sCap]).run P w = .ok (goInt m) (w.setCells g o cs) := by
  refine run_copy_sz sz w dT sT ty elem g o dLen dCap ⟨h, p, none⟩ sLen sCap m cs hu hs hm hn (fun j v hj => ?_) (fun j hj => ?_) (fun j hj => rec_free hG _) h1
  · rw [addr_add]
    refine rec_cell hH (p + j) v ?_
    rw [hcs, List.getElem?_take] at hj
    split at hj
    · rwa [List.getElem?_drop] at hj
    · cases hj
  · rw [rec_cell hG (o + j) (cur[o + j]'(by omega)) (List.getElem?_eq_getElem _)]; rfl
/-- clear over cells of a block of one's own. -/
theorem clear_rec {w : World} {g o n c tg : Nat} {cur zs : List Value} (t e ty : TypeId) (z : Value) (hG : rec_ w g tg cur) (ht : P.underlying t = some (.slice e)) (hv : ∀ w, (zeroValue e).run P w = .ok z w) (hz : (Builtin.zeroCells z.cells n).toList = zs) (h1 : ∀ v ∈ zs, v.oneCell' = true)
    (hn : 0 < n) (hfit : o + zs.length ≤ cur.length) : (Builtin.clear_ #[t] ty #[.slice (some ⟨g, o, none⟩) n c]).run P w = .ok (.tuple #[]) (w.setCells g o zs) := by
  have hst := run_storeCells_cells (P := P) g o zs 0 w (fun j hj => by rw [rec_cell hG _ (cur[o + 0 + j]'(by omega)) (List.getElem?_eq_getElem _)]; rfl) (fun j hj => rec_free hG _) h1
  simp only [Nat.add_zero] at hst
  obtain ⟨m, rfl⟩ : ∃ m, n = m + 1 := ⟨n - 1, by omega⟩
  simp [Builtin.clear_, run_underlying ht, hv, hz, hst]
/-- The rows' lists: an element set in. -/
theorem ins_list {α : Type} (sz : Nat) (cur xs ys : List α) {i n : Nat} (h : cur.take (n * sz) = xs) (hy : ys.length = sz) (hi : i < n) (hc : (n + 1) * sz ≤ cur.length) :
    (((cur.take ((i + 1) * sz) ++ (cur.drop (i * sz)).take ((n - i) * sz) ++ cur.drop ((i + 1) * sz + ((cur.drop (i * sz)).take ((n - i) * sz)).length)).take (i * sz) ++ ys ++ (cur.take ((i + 1) * sz) ++ (cur.drop (i * sz)).take ((n - i) * sz) ++ cur.drop ((i + 1) * sz + ((cur.drop (i * sz)).take ((n - i) * sz)).length)).drop (i * sz + ys.length)).take ((n + 1) * sz)) = xs.take (i * sz) ++ ys ++ xs.drop (i * sz) := by
  have e1 : (i + 1) * sz = i * sz + sz := Nat.succ_mul i sz
  have e2 : (n + 1) * sz = n * sz + sz := Nat.succ_mul n sz
  have e3 : (n - i) * sz = n * sz - i * sz := Nat.sub_mul n i sz
  have e4 : i * sz ≤ n * sz := Nat.mul_le_mul_right sz (Nat.le_of_lt hi)
  have e5 : (i + 1) * sz ≤ n * sz := Nat.mul_le_mul_right sz hi
  rw [e1] at e5 ⊢
  rw [e2] at hc ⊢
  rw [e3]
  generalize i * sz = a at *
  generalize n * sz = b at *
  have l1 : (cur.take (a + sz)).length = a + sz := by rw [List.length_take]; omega
  have x1 : xs.take a = cur.take a := by rw [← h, List.take_take, Nat.min_eq_left (by omega)]
  have x2 : xs.drop a = (cur.drop a).take (b - a) := by rw [← h, List.drop_take]
  rw [x1, x2, hy]
  have l2 : ((cur.drop a).take (b - a)).length = b - a := by rw [List.length_take, List.length_drop]; omega
  rw [l2]
  rw [List.append_assoc (cur.take (a + sz))]
  have f1 : ∀ r : List α, (cur.take (a + sz) ++ r).take a = cur.take a := fun r => by rw [List.take_append_of_le_length (by omega), List.take_take, Nat.min_eq_left (by omega)]
  have f2 : ∀ r : List α, (cur.take (a + sz) ++ r).drop (a + sz) = r := fun r => List.drop_left' l1
  rw [f1, f2, ← List.append_assoc, List.take_left']
  rw [List.length_append, List.length_append, List.length_take, l2, hy]; omega
/-- .. and one taken out. -/
theorem del_list {α : Type} (sz : Nat) (cur xs : List α) {i n : Nat} (h : cur.take (n * sz) = xs) (hi : i < n) (hc : n * sz ≤ cur.length) :
    ((cur.take (i * sz) ++ (cur.drop ((i + 1) * sz)).take ((n - (i + 1)) * sz) ++ cur.drop (i * sz + ((cur.drop ((i + 1) * sz)).take ((n - (i + 1)) * sz)).length)).take ((n - 1) * sz)) = xs.take (i * sz) ++ xs.drop ((i + 1) * sz) := by
  have e3 : (n - (i + 1)) * sz = n * sz - (i + 1) * sz := Nat.sub_mul n (i + 1) sz
  have e1 : (i + 1) * sz = i * sz + sz := Nat.succ_mul i sz
  have e5 : (i + 1) * sz ≤ n * sz := Nat.mul_le_mul_right sz hi
  have e6 : (n - 1) * sz = n * sz - sz := by rw [Nat.sub_mul, Nat.one_mul]
  rw [e3, e6]
  rw [e1] at e5 ⊢
  generalize i * sz = a at *
  generalize n * sz = b at *
  have x1 : xs.take a = cur.take a := by rw [← h, List.take_take, Nat.min_eq_left (by omega)]
  have x2 : xs.drop (a + sz) = (cur.drop (a + sz)).take (b - (a + sz)) := by rw [← h, List.drop_take]
  rw [x1, x2]
  rw [List.take_left']
  rw [List.length_append, List.length_take, List.length_take, List.length_drop]; omega
/-- What stands in a new block. -/
theorem grow_list {α : Type} (row ys seg : List α) {a sz b : Nat} (hy : ys.length = sz) (hs : seg.length = b - a) (hab : a ≤ b) (hr : b + sz ≤ row.length) :
    ((row.take a ++ ys ++ row.drop (a + sz)).take (a + sz) ++ seg ++ (row.take a ++ ys ++ row.drop (a + sz)).drop (a + sz + seg.length)).take (b + sz) = row.take a ++ ys ++ seg := by
  have l1 : (row.take a ++ ys).length = a + sz := by rw [List.length_append, List.length_take, hy]; omega
  rw [List.take_left' l1, List.take_left']
  rw [List.length_append, l1, hs]; omega
section
variable {α : Type} (c : α → List Value) {sz : Nat}
theorem flat_len (hc : ∀ x, (c x).length = sz) : ∀ xs : List α, (xs.flatMap c).length = xs.length * sz
  | [] => by simp
  | x :: t => by rw [List.flatMap_cons, List.length_append, hc, flat_len hc t, List.length_cons, Nat.succ_mul]; omega
theorem flat_take (hc : ∀ x, (c x).length = sz) : ∀ (xs : List α) (i : Nat), (xs.flatMap c).take (i * sz) = (xs.take i).flatMap c
  | [], i => by simp
  | x :: t, 0 => by simp
  | x :: t, i + 1 => by
    rw [List.flatMap_cons, List.take_succ_cons, List.flatMap_cons, ← flat_take hc t i, List.take_append, hc, List.take_of_length_le (by rw [hc, Nat.succ_mul]; omega)]
    congr 2
    rw [Nat.succ_mul]; omega
theorem flat_drop (hc : ∀ x, (c x).length = sz) : ∀ (xs : List α) (i : Nat), (xs.flatMap c).drop (i * sz) = (xs.drop i).flatMap c
  | [], i => by simp
  | x :: t, 0 => by simp
  | x :: t, i + 1 => by
    rw [List.flatMap_cons, List.drop_succ_cons, ← flat_drop hc t i, List.drop_append, hc, List.drop_of_length_le (by rw [hc, Nat.succ_mul]; omega), List.nil_append]
    congr 1
    rw [Nat.succ_mul]; omega
theorem reps_flat {R : α → List Value → Prop} (hR : ∀ x cs, R x cs → cs = c x) (xs : List α) : ∀ inner : List Value, Reps R sz xs inner → inner = xs.flatMap c := by
  induction xs with
  | nil =>
    intro inner h
    have := h.1
    simp at this
    simp [this]
  | cons x t ih =>
    intro inner h
    have h0 := hR _ _ (h.2 0 x rfl)
    rw [Nat.zero_mul, List.drop_zero] at h0
    have ht := ih (inner.drop sz) ⟨by rw [List.length_drop, h.1, List.length_cons, Nat.succ_mul]; omega, fun j p hj => by
      have := h.2 (j + 1) p (by simpa using hj)
      rwa [List.drop_drop, show sz + j * sz = (j + 1) * sz by rw [Nat.succ_mul]; omega]⟩
    rw [List.flatMap_cons, ← ht, ← h0, List.take_append_drop]
theorem flat_reps (hc : ∀ x, (c x).length = sz) {R : α → List Value → Prop} (hR : ∀ x, R x (c x)) (xs : List α) : Reps R sz xs (xs.flatMap c) := by
  refine ⟨flat_len c hc xs, fun j p hj => ?_⟩
  obtain ⟨hlt, hp⟩ := List.getElem?_eq_some_iff.1 hj
  have e : ((xs.flatMap c).drop (j * sz)).take sz = c p := by
    have := flat_take c hc (xs.drop j) 1
    rw [Nat.one_mul] at this
    rw [flat_drop c hc, this, List.drop_eq_getElem_cons hlt, List.take_succ_cons, List.take_zero, List.flatMap_cons, List.flatMap_nil, List.append_nil, hp]
  rw [e]; exact hR p
end
end Go.Proofs.Ytkaglpjdeinbhaa.M
