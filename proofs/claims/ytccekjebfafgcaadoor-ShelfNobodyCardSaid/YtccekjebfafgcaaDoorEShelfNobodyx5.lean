-- Written by this session's own program (wip/tools/ext.py) for this claim; Lean checks it.
import Derived.Test.YtccekjebfafgcaaDoorEShelfNobodyx0
import Derived.Test.YtccekjebfafgcaaDoorEShelfNobodyx1
import Derived.Test.YtccekjebfafgcaaDoorEShelfNobodyx2
import Derived.Test.YtccekjebfafgcaaDoorEShelfNobodyx4
namespace Go.Proofs.YtccekjebfafgcaaDoor.EShelfNobody
open Go.RowKit Go.Proofs.YtccekjebfafgcaaDoorW.PrintWords Go.Proofs.YtccekjebfafgcaaDoorW.PrintLast Go.Proofs.YtccekjebfafgcaaDoorW.PrintMore
attribute [local go_sem] M.run_leq M.run_gtr M.run_geq max2_int min2_int max_two min_two max_three min_three max_four min_four   -- for this text's walks alone
set_option linter.unusedVariables false
set_option linter.unusedSimpArgs false

/-! ### pleachlaw16_awake: function 8 -/
def pleachlaw16_awake.f : Option Bool := some true
def pleachlaw16_awake.a : ByteArray := ⟨#[97]⟩
theorem pleachlaw16_awake.ne : pleachlaw16_awake.a ≠ ByteArray.empty := by decide +kernel
theorem pleachlaw16_awake.put1 : M.SS.none_.put pleachlaw16_awake.a = (M.shaSum pleachlaw16_awake.a, 0, ⟨[pleachlaw16_awake.a], ByteArray.empty, ByteArray.empty⟩) := by
  unfold M.SS.put
  rw [if_neg pleachlaw16_awake.ne, if_neg (by decide)]
  rfl
theorem pleachlaw16_awake.put2 : (⟨[pleachlaw16_awake.a], ByteArray.empty, ByteArray.empty⟩ : M.SS).put pleachlaw16_awake.a = (M.shaSum pleachlaw16_awake.a, 0, ⟨[pleachlaw16_awake.a], ByteArray.empty, ByteArray.empty⟩) := by
  unfold M.SS.put
  rw [if_neg pleachlaw16_awake.ne, if_neg (by decide)]
  have h : M.idx (([pleachlaw16_awake.a] : List ByteArray).map M.shaSum) (M.shaSum pleachlaw16_awake.a).data.toList = some 0 := by
    unfold M.idx
    rw [List.map_cons, List.findIdx?_cons, decide_eq_true rfl]
    rfl
  simp only [h]
  exact if_pos rfl
theorem pleachlaw16_awake.p1 (base g : Nat) (F : Nat → Prop) (s : ByteArray) (hs : M.shaSum ⟨#[97]⟩ = s) (w : World) (hS : M.Sh Tryd.prog base w g F M.SS.none_) (hT : M.stab w) :
    Calls Tryd.prog 10 #[.pointer (some ⟨g, 0, none⟩), .string ⟨#[97]⟩] w fun e w' => e = .returned (.tuple #[.string s, .int .i64 0]) ∧ M.ShTo Tryd.prog base w g F ⟨[⟨#[97]⟩], ByteArray.empty, ByteArray.empty⟩ w' := by
  have h := shelf_Shelf_Put.any base g F M.SS.none_ ⟨#[97]⟩ w hS hT (by decide) (by decide)
  rw [show M.SS.none_.put ⟨#[97]⟩ = _ from pleachlaw16_awake.put1] at h
  rw [← hs]
  exact h
theorem pleachlaw16_awake.p2 (base g : Nat) (F : Nat → Prop) (s : ByteArray) (hs : M.shaSum ⟨#[97]⟩ = s) (w : World) (hS : M.Sh Tryd.prog base w g F ⟨[⟨#[97]⟩], ByteArray.empty, ByteArray.empty⟩) (hT : M.stab w) :
    Calls Tryd.prog 10 #[.pointer (some ⟨g, 0, none⟩), .string ⟨#[97]⟩] w fun e w' => e = .returned (.tuple #[.string s, .int .i64 0]) ∧ M.ShTo Tryd.prog base w g F ⟨[⟨#[97]⟩], ByteArray.empty, ByteArray.empty⟩ w' := by
  have h := shelf_Shelf_Put.any base g F ⟨[⟨#[97]⟩], ByteArray.empty, ByteArray.empty⟩ ⟨#[97]⟩ w hS hT (by decide) (by decide)
  rw [show (⟨[⟨#[97]⟩], ByteArray.empty, ByteArray.empty⟩ : M.SS).put ⟨#[97]⟩ = _ from pleachlaw16_awake.put2] at h
  rw [← hs]
  exact h
set_option maxHeartbeats 8000000 in
set_option maxRecDepth 100000 in
theorem pleachlaw16_awake.walk (w : World) (hT : M.stab w) : Calls Tryd.prog 8 #[] w fun e w' => e = .returned (.bool true) ∧ Below w.heap.size w w' := by
  have HT := Aside0.mk hT
  obtain ⟨s, hs⟩ : ∃ s, M.shaSum ⟨#[97]⟩ = s := ⟨_, rfl⟩
  have HSum := Aside0.mk (show pleachref03_Sum.f ⟨#[97]⟩ = some s by rw [← hs]; exact pleachref03_Sum.eq_ _ (by decide))
  have HQ := Aside0.mk hs
  have hlt := Aside0.mk (M.stab_lt hT)
  have H1s : (s.toList == s.toList) = true := by simp
  clear hT hs
  go_enter Tryd.func8, Tryd.ntmps8
  go_wp2_with (first | (go_at_call 9; (with_reducible refine (shelf_New.any _).mono ?_); rintro e w1 ⟨g, F, rfl, hs1, hb1⟩; have HS1 := Aside0.mk hs1; have HB1 := Aside0.mk hb1; have HT1 := Aside0.mk (M.stab_below HT.out hb1 hlt.out); clear hs1 hb1) | (go_at_call 10; (with_reducible refine (pleachlaw16_awake.p1 w.heap.size g F s HQ.out _ HS1.out HT1.out).mono ?_); rintro e w2 ⟨rfl, F2, hs2, hf2, hk2, hb2⟩; have HS2 := Aside0.mk hs2; have HB2 := Aside0.mk (HB1.out.trans hb2); have HT2 := Aside0.mk (M.stab_below HT.out HB2.out hlt.out); clear HS1 hs2 hf2 hk2 hb2) | (go_at_call 10; (with_reducible refine (pleachlaw16_awake.p2 w.heap.size g F2 s HQ.out _ HS2.out HT2.out).mono ?_); rintro e w3 ⟨rfl, F3, hs3, hf3, hk3, hb3⟩; have HS3 := Aside0.mk hs3; have HB3 := Aside0.mk (HB2.out.trans hb3); clear HS2 hs3 hf3 hk3 hb3) | (go_at_call 22; (with_reducible refine (shelf_Shelf_Len.any w.heap.size g F3 _ _ HS3.out).mono ?_); rintro e w4 ⟨rfl, rfl⟩) | (go_at_call 27; (with_reducible refine (pleachref03_Sum.calls ⟨#[97]⟩ s _ HSum.out).mono ?_); rintro e w5 ⟨rfl, hb5⟩; have HB5 := Aside0.mk (below_step HB3.out hb5); clear hb5))
  go_ret
  exact ⟨rfl, HB5.out⟩
theorem pleachlaw16_awake.calls (r : Bool) (w : World) (hT : M.stab w) (h : pleachlaw16_awake.f = some r) : Calls Tryd.prog 8 #[] w fun e w' => e = .returned (.bool r) ∧ Below w.heap.size w w' := by
  obtain rfl := Option.some.inj h
  exact pleachlaw16_awake.walk w hT

/-! ### shelf_Shelf_Clash: function 11 -/
set_option maxHeartbeats 8000000 in
set_option maxRecDepth 100000 in
theorem shelf_Shelf_Clash.calls (base g B : Nat) (D : DataW Unit) (vt vn : Value) (ts : List ByteArray) (a b : ByteArray) (w : World) (hS : M.shelf Tryd.prog base w g B D vt vn ts a b) (hab : a = ByteArray.empty → b = ByteArray.empty) :
    Calls Tryd.prog 11 #[.pointer (some ⟨g, 0, none⟩)] w fun e w' => e = .returned (.tuple #[.string a, .string b, .bool (decide (a ≠ ByteArray.empty))]) ∧ Drawn0 w w' := by
  have c3 : w.cell? ⟨g, 3, none⟩ = some (.string a) := M.blk_cell hS.blk 3 _ rfl
  have c4 : w.cell? ⟨g, 4, none⟩ = some (.string b) := M.blk_cell hS.blk 4 _ rfl
  have HS := Aside0.mk hS
  clear hS
  by_cases he : a = ByteArray.empty
  · obtain rfl := hab he
    subst he
    have hd : (ByteArray.empty : ByteArray).toList.isEmpty = true := by decide +kernel
    go_enter Tryd.func11, Tryd.ntmps11
    go_wp2_with (first | (go_at_call 28; (with_reducible refine (shelf_Shelf_there.calls base g B D vt vn ts ByteArray.empty ByteArray.empty _ HS.out).mono ?_); rintro e w1 ⟨rfl, rfl⟩))
    exact bodyPost_ret (v := .tuple #[.string ByteArray.empty, .string ByteArray.empty, .bool false]) (by simp [results, Tryd.results11, go_sem]; rfl) rfl ⟨rfl, Drawn0.refl _⟩
  · have hd : a.toList.isEmpty = false := M.nonempty he
    have hdd : decide (a ≠ ByteArray.empty) = true := decide_eq_true he
    rw [hdd]
    go_enter Tryd.func11, Tryd.ntmps11
    go_wp2_with (first | (go_at_call 28; (with_reducible refine (shelf_Shelf_there.calls base g B D vt vn ts a b _ HS.out).mono ?_); rintro e w1 ⟨rfl, rfl⟩))
    go_quiet (fail)
    go_wp2
    exact bodyPost_ret (v := .tuple #[.string a, .string b, .bool true]) (by simp [results, Tryd.results11, go_sem]) rfl ⟨rfl, ⟨⟨_, rfl⟩⟩⟩
theorem shelf_Shelf_Clash.any (base g : Nat) (F : Nat → Prop) (s : M.SS) (w : World) (hS : M.Sh Tryd.prog base w g F s) (hab : s.a = ByteArray.empty → s.b = ByteArray.empty) :
    Calls Tryd.prog 11 #[.pointer (some ⟨g, 0, none⟩)] w fun e w' => e = .returned (.tuple #[.string s.a, .string s.b, .bool (decide (s.a ≠ ByteArray.empty))]) ∧ Drawn0 w w' := by
  obtain ⟨B, D, vt, vn, hs, hF, hl⟩ := hS
  exact shelf_Shelf_Clash.calls base g B D vt vn s.ts s.a s.b w hs hab
set_option maxHeartbeats 4000000 in
set_option maxRecDepth 100000 in
theorem shelf_Shelf_Clash.dead (v : Value) (w : World) (hd : shelf_Shelf_there.dead_ w v) :
    Calls Tryd.prog 11 #[v] w fun e w' => e = .returned (.tuple #[.string ByteArray.empty, .string ByteArray.empty, .bool false]) ∧ Drawn0 w w' := by
  have HD := Aside0.mk hd
  clear hd
  go_enter Tryd.func11, Tryd.ntmps11
  go_wp2_with (first | (go_at_call 28; (with_reducible refine (shelf_Shelf_there.dead v _ HD.out).mono ?_); rintro e w1 ⟨rfl, rfl⟩))
  exact bodyPost_ret (v := .tuple #[.string ByteArray.empty, .string ByteArray.empty, .bool false]) (by simp [results, Tryd.results11, go_sem]; rfl) rfl ⟨rfl, Drawn0.refl _⟩

/-! ### shelf_Shelf_Get: function 13 -/
set_option maxHeartbeats 8000000 in
set_option maxRecDepth 100000 in
theorem shelf_Shelf_Get.none_ (base g B : Nat) (D : DataW Unit) (vt vn : Value) (ts : List ByteArray) (a b name : ByteArray) (w : World) (hS : M.shelf Tryd.prog base w g B D vt vn ts a b) (hz : name.size ≤ 1000000000000) (hn : M.idx (ts.map M.shaSum) name.data.toList = none) :
    Calls Tryd.prog 13 #[.pointer (some ⟨g, 0, none⟩), .string name] w fun e w' => e = .returned (.tuple #[.string ByteArray.empty, .bool false]) ∧ w = w' := by
  have c0 : w.cell? ⟨g, 0, none⟩ = some (.map (some B)) := M.blk_cell hS.blk 0 _ rfl
  have hKEY := Go.WideMaps.keyOf_string_mk Tryd.underlying9 (show name.size ≤ maxLen from by unfold maxLen; omega)
  have hown := hS.map
  have h1 := (hS.says name.data.toList).1
  have h2 := (hS.says name.data.toList).2
  rw [hn] at h1 h2
  have HS := Aside0.mk hS
  clear hS
  go_enter Tryd.func13, Tryd.ntmps13
  go_wp2_with (first | (go_at_call 28; (with_reducible refine (shelf_Shelf_there.calls base g B D vt vn ts a b _ HS.out).mono ?_); rintro e w1 ⟨rfl, rfl⟩) | (at_lookup; refine wpList_lookup_own_ok_int _ rfl _ _ 51 rfl 9 3 .i64 shelf_Shelf_there.law Tryd.underlying51 Tryd.underlying3 (shelf_Shelf_there.zero_ _) B ts.length D rfl hown _ _ rfl hKEY ?_; intro c hat hwc))
  exact bodyPost_ret (v := .tuple #[.string ByteArray.empty, .bool false]) (by simp [results, Tryd.results13, go_sem]; rfl) rfl ⟨rfl, rfl⟩
set_option maxHeartbeats 8000000 in
set_option maxRecDepth 100000 in
theorem shelf_Shelf_Get.some_ (base g B : Nat) (D : DataW Unit) (vt vn : Value) (ts : List ByteArray) (a b name : ByteArray) (i : Nat) (w : World) (hS : M.shelf Tryd.prog base w g B D vt vn ts a b) (hz : name.size ≤ 1000000000000) (hn : M.idx (ts.map M.shaSum) name.data.toList = some i) :
    Calls Tryd.prog 13 #[.pointer (some ⟨g, 0, none⟩), .string name] w fun e w' => e = .returned (.tuple #[.string (ts.getD i ByteArray.empty), .bool true]) ∧ w = w' := by
  have hi : i < ts.length := by have := (M.idx_lt hn).1; simpa using this
  obtain ⟨gt, cap, rfl, _, _⟩ := hS.rt.form (by omega)
  have c0 : w.cell? ⟨g, 0, none⟩ = some (.map (some B)) := M.blk_cell hS.blk 0 _ rfl
  have c1 : w.cell? ⟨g, 1, none⟩ = some (.slice (some ⟨gt, 0, none⟩) ts.length cap) := M.blk_cell hS.blk 1 _ rfl
  have ci := hS.rt.cells (g := gt) rfl i (.string (ts.getD i ByteArray.empty)) (by simp [List.getD, hi])
  rw [add_plain] at ci
  have hKEY := Go.WideMaps.keyOf_string_mk Tryd.underlying9 (show name.size ≤ maxLen from by unfold maxLen; omega)
  have hown := hS.map
  have h1 := (hS.says name.data.toList).1
  have h2 := (hS.says name.data.toList).2
  rw [hn] at h1 h2
  have HS := Aside0.mk hS
  have g0 : (0 : Int) ≤ (i : Int) := by omega
  have g1 : (i : Int) < (ts.length : Int) := by omega
  clear hS
  generalize ts.getD i ByteArray.empty = x at ci ⊢
  go_enter Tryd.func13, Tryd.ntmps13
  go_wp2_with (first | (go_at_call 28; (with_reducible refine (shelf_Shelf_there.calls base g B D _ vn ts a b _ HS.out).mono ?_); rintro e w1 ⟨rfl, rfl⟩) | (at_lookup; refine wpList_lookup_own_ok_int _ rfl _ _ 51 rfl 9 3 .i64 shelf_Shelf_there.law Tryd.underlying51 Tryd.underlying3 (shelf_Shelf_there.zero_ _) B ts.length D rfl hown _ _ rfl hKEY ?_; intro c hat hwc; obtain rfl : c = (i : Int) := by (rw [h2] at hat; simpa using hat.symm)))
  exact bodyPost_ret (v := .tuple #[.string x, .bool true]) (by simp [results, Tryd.results13, go_sem]) rfl ⟨rfl, rfl⟩
theorem shelf_Shelf_Get.any (base g : Nat) (F : Nat → Prop) (s : M.SS) (name : ByteArray) (w : World) (hS : M.Sh Tryd.prog base w g F s) (hz : name.size ≤ 1000000000000) :
    Calls Tryd.prog 13 #[.pointer (some ⟨g, 0, none⟩), .string name] w fun e w' => e = .returned (.tuple #[.string (s.get name).1, .bool (s.get name).2]) ∧ w = w' := by
  obtain ⟨B, D, vt, vn, hs, hF, hl⟩ := hS
  unfold M.SS.get
  cases hi : M.idx (s.ts.map M.shaSum) name.data.toList with
  | none => exact shelf_Shelf_Get.none_ base g B D vt vn s.ts s.a s.b name w hs hz hi
  | some i => exact shelf_Shelf_Get.some_ base g B D vt vn s.ts s.a s.b name i w hs hz hi
set_option maxHeartbeats 4000000 in
set_option maxRecDepth 100000 in
theorem shelf_Shelf_Get.dead (v : Value) (t : ByteArray) (w : World) (hd : shelf_Shelf_there.dead_ w v) :
    Calls Tryd.prog 13 #[v, .string t] w fun e w' => e = .returned (.tuple #[.string ByteArray.empty, .bool false]) ∧ Drawn0 w w' := by
  have HD := Aside0.mk hd
  clear hd
  go_enter Tryd.func13, Tryd.ntmps13
  go_wp2_with (first | (go_at_call 28; (with_reducible refine (shelf_Shelf_there.dead v _ HD.out).mono ?_); rintro e w1 ⟨rfl, rfl⟩))
  exact bodyPost_ret (v := .tuple #[.string ByteArray.empty, .bool false]) (by simp [results, Tryd.results13, go_sem]; rfl) rfl ⟨rfl, Drawn0.refl _⟩

/-! ### shelf_Shelf_Only: function 25 -/
set_option maxHeartbeats 4000000 in
set_option maxRecDepth 100000 in
theorem shelf_Shelf_Only.dead (v : Value) (f : Value) (w : World) (hd : shelf_Shelf_there.dead_ w v) :
    Calls Tryd.prog 25 #[v, f] w fun e w' => e = .returned (.pointer none) ∧ Drawn0 w w' := by
  have HD := Aside0.mk hd
  clear hd
  go_enter Tryd.func25, Tryd.ntmps25
  go_wp2_with (first | (go_at_call 28; (with_reducible refine (shelf_Shelf_there.dead v _ HD.out).mono ?_); rintro e w1 ⟨rfl, rfl⟩))
  go_ret
  exact ⟨rfl, Drawn0.refl _⟩

/-! ### shelf_Shelf_Copy: function 16 -/
set_option maxHeartbeats 4000000 in
set_option maxRecDepth 100000 in
theorem shelf_Shelf_Copy.dead (v : Value) (w : World) (hd : shelf_Shelf_there.dead_ w v) :
    Calls Tryd.prog 16 #[v] w fun e w' => e = .returned (.pointer none) ∧ Drawn0 w w' := by
  have HD := Aside0.mk hd
  clear hd
  go_enter Tryd.func16, Tryd.ntmps16
  go_wp2_with (first | (go_at_call 25; (with_reducible refine (shelf_Shelf_Only.dead v _ _ HD.out).mono ?_); rintro e w1 ⟨rfl, hw1⟩))
  go_ret
  exact ⟨rfl, hw1⟩

/-! ### shelf_Shelf_Has: function 19 -/
set_option maxHeartbeats 4000000 in
set_option maxRecDepth 100000 in
theorem shelf_Shelf_Has.dead (v : Value) (t : ByteArray) (w : World) (hd : shelf_Shelf_there.dead_ w v) :
    Calls Tryd.prog 19 #[v, .string t] w fun e w' => e = .returned (.bool false) ∧ Drawn0 w w' := by
  have HD := Aside0.mk hd
  clear hd
  go_enter Tryd.func19, Tryd.ntmps19
  go_wp2_with (first | (go_at_call 13; (with_reducible refine (shelf_Shelf_Get.dead v t _ HD.out).mono ?_); rintro e w1 ⟨rfl, hw1⟩))
  go_ret
  exact ⟨rfl, hw1⟩

-- NOT PRINTED: function 36 (slices_Clone_string_string)

/-! ### shelf_Shelf_Texts: function 21 -/
set_option maxHeartbeats 4000000 in
set_option maxRecDepth 100000 in
theorem shelf_Shelf_Texts.dead (v : Value) (n : Int) (w : World) (hd : shelf_Shelf_there.dead_ w v) :
    Calls Tryd.prog 21 #[v, .int .i64 n] w fun e w' => e = .returned (.slice none 0 0) ∧ Drawn0 w w' := by
  have HD := Aside0.mk hd
  clear hd
  go_enter Tryd.func21, Tryd.ntmps21
  go_wp2_with (first | (go_at_call 28; (with_reducible refine (shelf_Shelf_there.dead v _ HD.out).mono ?_); rintro e w1 ⟨rfl, rfl⟩))
  go_ret
  exact ⟨rfl, Drawn0.refl _⟩

-- NOT PRINTED: function 54 (slices_AppendSeq_string_string)

-- NOT PRINTED: function 47 (slices_Collect_string)

-- NOT PRINTED: function 73 (cmp_isNaN_string)

-- NOT PRINTED: function 63 (cmp_Less_string)

-- NOT PRINTED: function 57 (slices_insertionSortOrdered_string)

-- NOT PRINTED: function 68 (slices_siftDownOrdered_string)

-- NOT PRINTED: function 58 (slices_heapSortOrdered_string)

-- NOT PRINTED: function 66 (bits_Len32)

-- NOT PRINTED: function 67 (bits_Len64)

-- NOT PRINTED: function 56 (bits_Len)

-- NOT PRINTED: function 69 (slices_nextPowerOfTwo)

-- NOT PRINTED: function 70 (slices_xorshift_Next)

-- NOT PRINTED: function 59 (slices_breakPatternsOrdered_string)

-- NOT PRINTED: function 74 (slices_order2Ordered_string)

-- NOT PRINTED: function 72 (slices_medianOrdered_string)

-- NOT PRINTED: function 71 (slices_medianAdjacentOrdered_string)

-- NOT PRINTED: function 60 (slices_choosePivotOrdered_string)

-- NOT PRINTED: function 61 (slices_reverseRangeOrdered_string)

-- NOT PRINTED: function 62 (slices_partialInsertionSortOrdered_string)

-- NOT PRINTED: function 64 (slices_partitionEqualOrdered_string)

-- NOT PRINTED: function 65 (slices_partitionOrdered_string)

-- NOT PRINTED: function 55 (slices_pdqsortOrdered_string)

-- NOT PRINTED: function 48 (slices_Sort_string_string)

-- NOT PRINTED: function 37 (slices_Sorted_string)

-- NOT PRINTED: function 38 (slices_Values_string_string)

/-! ### shelf_Shelf_Names: function 23 -/
set_option maxHeartbeats 4000000 in
set_option maxRecDepth 100000 in
theorem shelf_Shelf_Names.dead (v : Value) (w : World) (hd : shelf_Shelf_there.dead_ w v) :
    Calls Tryd.prog 23 #[v] w fun e w' => e = .returned (.slice none 0 0) ∧ Drawn0 w w' := by
  have HD := Aside0.mk hd
  clear hd
  go_enter Tryd.func23, Tryd.ntmps23
  go_wp2_with (first | (go_at_call 28; (with_reducible refine (shelf_Shelf_there.dead v _ HD.out).mono ?_); rintro e w1 ⟨rfl, rfl⟩))
  go_ret
  exact ⟨rfl, Drawn0.refl _⟩

/-! ### shelf_Shelf_Cut: function 24 -/
set_option maxHeartbeats 4000000 in
set_option maxRecDepth 100000 in
theorem shelf_Shelf_Cut.dead (v : Value) (n : Int) (w : World) (hd : shelf_Shelf_there.dead_ w v) :
    Calls Tryd.prog 24 #[v, .int .i64 n] w fun e w' => e = .returned (.int .i64 1) ∧ Drawn0 w w' := by
  have HD := Aside0.mk hd
  clear hd
  go_enter Tryd.func24, Tryd.ntmps24
  go_wp2_with (first | (go_at_call 28; (with_reducible refine (shelf_Shelf_there.dead v _ HD.out).mono ?_); rintro e w1 ⟨rfl, rfl⟩))
  go_ret
  exact ⟨rfl, Drawn0.refl _⟩

/-! ### pleachlaw16_even: function 26 -/
def pleachlaw16_even.f (a0 : ByteArray) : Option (Bool) := if a0.toList = ([] : List UInt8) then (some false) else (if 0 < (a0.size : Int) then (some ((Int.tmod (bt a0 0) 2) == 0)) else (none))
set_option maxHeartbeats 8000000 in
set_option maxRecDepth 100000 in
theorem pleachlaw16_even.calls (a0 : ByteArray) (r : Bool) (w : World) (h : pleachlaw16_even.f a0 = some r) :
    Calls Tryd.prog 26 #[.string a0] w fun e w' => e = .returned (.bool r) ∧ Drawn0 w w' := by
  have H : (if a0.toList = ([] : List UInt8) then (some false) else (if 0 < (a0.size : Int) then (some ((Int.tmod (bt a0 0) 2) == 0)) else (none))) = some r := h
  clear h
  by_cases c2 : a0.toList = ([] : List UInt8)
  · rw [if_pos c2] at H
    have c2b0 : (a0.toList == ([] : List UInt8)) = true := beq_iff_eq.mpr c2
    have c2b1 : (a0.toList != ([] : List UInt8)) = false := bne_eq_false_iff_eq.mpr c2
    clear c2
    obtain rfl := Option.some.inj H
    go_enter Tryd.func26, Tryd.ntmps26
    go_wp2
    go_ret
    exact ⟨by first | rfl | (simp; done) | (simp [*]; done), by repeat (first | exact Drawn0.refl _ | apply Drawn0.step)⟩
  · rw [if_neg c2] at H
    have c2b0 : (a0.toList == ([] : List UInt8)) = false := beq_eq_false_iff_ne.mpr c2
    have c2b1 : (a0.toList != ([] : List UInt8)) = true := bne_iff_ne.mpr c2
    by_cases c3 : 0 < (a0.size : Int)
    · rw [if_pos c3] at H
      have c3b0 : decide (0 < (a0.size : Int)) = true := decide_eq_true c3
      have c3b1 : decide (0 < a0.size) = true := decide_eq_true (by omega)
      clear c3
      obtain rfl := Option.some.inj H
      have p4 : 0 ≤ (0 : Int) := (by omega)
      have q4 : 0 < a0.size := (by have : (0 : Int) < (a0.size : Int) := of_decide_eq_true (by first | (with_reducible assumption) | assumption); omega)
      have hx4 : ∀ h : 0 < a0.size, ((a0[0]'h).toNat : Int) = bt a0 0 := bt_at a0 0
      clear p4
      have qi4 : (0 < (a0.size : Int)) = True := eq_true (of_decide_eq_true (by first | (with_reducible assumption) | assumption))
      replace q4 := eq_true q4
      go_enter Tryd.func26, Tryd.ntmps26
      go_wp2
      go_ret
      exact ⟨by first | rfl | (simp; done) | (simp [*]; done), by repeat (first | exact Drawn0.refl _ | apply Drawn0.step)⟩
    · rw [if_neg c3] at H
      exact absurd H (by simp)

/-! ### pleachlaw16_ShelfNobody: function 6 -/
def pleachlaw16_ShelfNobody.f (a0 : ByteArray) (a1 : Int) (a2 : Bool) : Option Bool := some true
/-- A shelf that no call made; the tables; what was there ahead of the call is as it was. -/
def pleachlaw16_ShelfNobody.st (w0 w : World) (v : Value) : Prop := shelf_Shelf_there.dead_ w v ∧ M.stab w ∧ Below w0.heap.size w0 w
theorem pleachlaw16_ShelfNobody.step {w0 w w1 : World} {v : Value} (h : pleachlaw16_ShelfNobody.st w0 w v) (hd : Drawn0 w w1) : pleachlaw16_ShelfNobody.st w0 w1 v := by
  obtain ⟨nd, rfl⟩ := hd
  exact ⟨h.1, h.2.1, pw_below_drewN h.2.2 nd⟩
set_option maxHeartbeats 8000000 in
set_option maxRecDepth 100000 in
theorem pleachlaw16_ShelfNobody.out_ (t : ByteArray) (n : Int) (there : Bool) (w : World) (hT : M.stab w) (ht : 1000 < t.size) :
    Calls Tryd.prog 6 #[.string t, .int .i64 n, .bool there] w fun e w' => e = .returned (.bool true) ∧ Below w.heap.size w w' := by
  have HT := Aside0.mk hT
  have d1 : decide ((1000 : Int) < (t.size : Int)) = true := decide_eq_true (by omega)
  clear hT ht
  go_enter Tryd.func6, Tryd.ntmps6
  go_wp2_with (first | (go_at_call 8; (with_reducible refine (pleachlaw16_awake.walk _ HT.out).mono ?_); rintro e w2 ⟨rfl, hb2⟩))
  go_ret
  exact ⟨rfl, hb2⟩
set_option maxHeartbeats 8000000 in
set_option maxRecDepth 100000 in
theorem pleachlaw16_ShelfNobody.nil_ (t : ByteArray) (n : Int) (w : World) (hT : M.stab w) (ht : t.size ≤ 1000) :
    Calls Tryd.prog 6 #[.string t, .int .i64 n, .bool false] w fun e w' => e = .returned (.bool true) ∧ Below w.heap.size w w' := by
  have H0 : Aside0 (pleachlaw16_ShelfNobody.st w w (.pointer none)) := ⟨.inl rfl, hT, Below.refl _ _⟩
  have d1 : decide ((1000 : Int) < (t.size : Int)) = false := decide_eq_false (by omega)
  have d2 : (ByteArray.empty : ByteArray).toList.isEmpty = true := by decide +kernel
  clear hT ht
  go_enter Tryd.func6, Tryd.ntmps6
  go_wp2_with (first
    | (go_at_call 10; (refine (shelf_Shelf_Put.dead (.pointer none) t _ H0.out.1).mono ?_); rintro e w1 ⟨rfl, hd⟩; have H1 := Aside0.mk (pleachlaw16_ShelfNobody.step H0.out hd); clear hd)
    | (go_at_call 13; (refine (shelf_Shelf_Get.dead (.pointer none) t _ H1.out.1).mono ?_); rintro e w2 ⟨rfl, hd⟩; have H2 := Aside0.mk (pleachlaw16_ShelfNobody.step H1.out hd); clear hd)
    | (go_at_call 11; (refine (shelf_Shelf_Clash.dead (.pointer none) _ H2.out.1).mono ?_); rintro e w3 ⟨rfl, hd⟩; have H3 := Aside0.mk (pleachlaw16_ShelfNobody.step H2.out hd); clear hd)
    | (go_at_call 19; (refine (shelf_Shelf_Has.dead (.pointer none) t _ H3.out.1).mono ?_); rintro e w4 ⟨rfl, hd⟩; have H4 := Aside0.mk (pleachlaw16_ShelfNobody.step H3.out hd); clear hd)
    | (go_at_call 22; (refine (shelf_Shelf_Len.dead (.pointer none) _ H4.out.1).mono ?_); rintro e w5 ⟨rfl, hd⟩; have H5 := Aside0.mk (pleachlaw16_ShelfNobody.step H4.out hd); clear hd)
    | (go_at_call 21; (refine (shelf_Shelf_Texts.dead (.pointer none) n _ H5.out.1).mono ?_); rintro e w6 ⟨rfl, hd⟩; have H6 := Aside0.mk (pleachlaw16_ShelfNobody.step H5.out hd); clear hd)
    | (go_at_call 23; (refine (shelf_Shelf_Names.dead (.pointer none) _ H6.out.1).mono ?_); rintro e w7 ⟨rfl, hd⟩; have H7 := Aside0.mk (pleachlaw16_ShelfNobody.step H6.out hd); clear hd)
    | (go_at_call 24; (refine (shelf_Shelf_Cut.dead (.pointer none) n _ H7.out.1).mono ?_); rintro e w8 ⟨rfl, hd⟩; have H8 := Aside0.mk (pleachlaw16_ShelfNobody.step H7.out hd); clear hd)
    | (go_at_call 25; (refine (shelf_Shelf_Only.dead (.pointer none) _ _ H8.out.1).mono ?_); rintro e w9 ⟨rfl, hd⟩; have H9 := Aside0.mk (pleachlaw16_ShelfNobody.step H8.out hd); clear hd)
    | (go_at_call 16; (refine (shelf_Shelf_Copy.dead (.pointer none) _ H9.out.1).mono ?_); rintro e w10 ⟨rfl, hd⟩; have H10 := Aside0.mk (pleachlaw16_ShelfNobody.step H9.out hd); clear hd)
    | (go_at_call 8; (refine (pleachlaw16_awake.walk _ H10.out.2.1).mono ?_); rintro e w11 ⟨rfl, hb⟩; have HF := Aside0.mk (below_step H10.out.2.2 hb); clear hb))
  go_ret
  exact ⟨rfl, HF.out⟩
set_option maxHeartbeats 8000000 in
set_option maxRecDepth 100000 in
theorem pleachlaw16_ShelfNobody.new_ (t : ByteArray) (n : Int) (w : World) (hT : M.stab w) (ht : t.size ≤ 1000) :
    Calls Tryd.prog 6 #[.string t, .int .i64 n, .bool true] w fun e w' => e = .returned (.bool true) ∧ Below w.heap.size w w' := by
  have H0 : Aside0 (pleachlaw16_ShelfNobody.st w (w.alloc (.cells #[.map none, .slice none 0 0, .slice none 0 0, .string ByteArray.empty, .string ByteArray.empty] 54)) (.pointer (some ⟨w.heap.size, 0, none⟩))) := by
    have hb := heap_alloc_new w (.cells #[.map none, .slice none 0 0, .slice none 0 0, .string ByteArray.empty, .string ByteArray.empty] 54)
    have hB := below_alloc (Below.refl w.heap.size w) (.cells #[.map none, .slice none 0 0, .slice none 0 0, .string ByteArray.empty, .string ByteArray.empty] 54)
    exact ⟨.inr ⟨_, rfl, M.blk_cell hb 0 _ rfl⟩, M.stab_below hT hB (M.stab_lt hT), hB⟩
  have d1 : decide ((1000 : Int) < (t.size : Int)) = false := decide_eq_false (by omega)
  have d2 : (ByteArray.empty : ByteArray).toList.isEmpty = true := by decide +kernel
  clear hT ht
  go_enter Tryd.func6, Tryd.ntmps6
  go_wp2_with (first
    | (go_at_call 10; (refine (shelf_Shelf_Put.dead (.pointer (some ⟨w.heap.size, 0, none⟩)) t _ H0.out.1).mono ?_); rintro e w1 ⟨rfl, hd⟩; have H1 := Aside0.mk (pleachlaw16_ShelfNobody.step H0.out hd); clear hd)
    | (go_at_call 13; (refine (shelf_Shelf_Get.dead (.pointer (some ⟨w.heap.size, 0, none⟩)) t _ H1.out.1).mono ?_); rintro e w2 ⟨rfl, hd⟩; have H2 := Aside0.mk (pleachlaw16_ShelfNobody.step H1.out hd); clear hd)
    | (go_at_call 11; (refine (shelf_Shelf_Clash.dead (.pointer (some ⟨w.heap.size, 0, none⟩)) _ H2.out.1).mono ?_); rintro e w3 ⟨rfl, hd⟩; have H3 := Aside0.mk (pleachlaw16_ShelfNobody.step H2.out hd); clear hd)
    | (go_at_call 19; (refine (shelf_Shelf_Has.dead (.pointer (some ⟨w.heap.size, 0, none⟩)) t _ H3.out.1).mono ?_); rintro e w4 ⟨rfl, hd⟩; have H4 := Aside0.mk (pleachlaw16_ShelfNobody.step H3.out hd); clear hd)
    | (go_at_call 22; (refine (shelf_Shelf_Len.dead (.pointer (some ⟨w.heap.size, 0, none⟩)) _ H4.out.1).mono ?_); rintro e w5 ⟨rfl, hd⟩; have H5 := Aside0.mk (pleachlaw16_ShelfNobody.step H4.out hd); clear hd)
    | (go_at_call 21; (refine (shelf_Shelf_Texts.dead (.pointer (some ⟨w.heap.size, 0, none⟩)) n _ H5.out.1).mono ?_); rintro e w6 ⟨rfl, hd⟩; have H6 := Aside0.mk (pleachlaw16_ShelfNobody.step H5.out hd); clear hd)
    | (go_at_call 23; (refine (shelf_Shelf_Names.dead (.pointer (some ⟨w.heap.size, 0, none⟩)) _ H6.out.1).mono ?_); rintro e w7 ⟨rfl, hd⟩; have H7 := Aside0.mk (pleachlaw16_ShelfNobody.step H6.out hd); clear hd)
    | (go_at_call 24; (refine (shelf_Shelf_Cut.dead (.pointer (some ⟨w.heap.size, 0, none⟩)) n _ H7.out.1).mono ?_); rintro e w8 ⟨rfl, hd⟩; have H8 := Aside0.mk (pleachlaw16_ShelfNobody.step H7.out hd); clear hd)
    | (go_at_call 25; (refine (shelf_Shelf_Only.dead (.pointer (some ⟨w.heap.size, 0, none⟩)) _ _ H8.out.1).mono ?_); rintro e w9 ⟨rfl, hd⟩; have H9 := Aside0.mk (pleachlaw16_ShelfNobody.step H8.out hd); clear hd)
    | (go_at_call 16; (refine (shelf_Shelf_Copy.dead (.pointer (some ⟨w.heap.size, 0, none⟩)) _ H9.out.1).mono ?_); rintro e w10 ⟨rfl, hd⟩; have H10 := Aside0.mk (pleachlaw16_ShelfNobody.step H9.out hd); clear hd)
    | (go_at_call 8; (refine (pleachlaw16_awake.walk _ H10.out.2.1).mono ?_); rintro e w11 ⟨rfl, hb⟩; have HF := Aside0.mk (below_step H10.out.2.2 hb); clear hb))
  go_ret
  exact ⟨rfl, HF.out⟩
theorem pleachlaw16_ShelfNobody.calls (a0 : ByteArray) (a1 : Int) (a2 : Bool) (r : Bool) (w : World) (hT : M.stab w) (h : pleachlaw16_ShelfNobody.f a0 a1 a2 = some r) :
    Calls Tryd.prog 6 #[.string a0, .int .i64 a1, .bool a2] w fun e w' => e = .returned (.bool r) ∧ Below w.heap.size w w' := by
  obtain rfl := Option.some.inj h
  by_cases ht : a0.size ≤ 1000
  · cases a2
    · exact pleachlaw16_ShelfNobody.nil_ a0 a1 w hT ht
    · exact pleachlaw16_ShelfNobody.new_ a0 a1 w hT ht
  · exact pleachlaw16_ShelfNobody.out_ a0 a1 a2 w hT (by omega)

/-- THE ONE PURE STATEMENT of pleachlaw16_ShelfNobody: this session's form. -/
def pleachlaw16_ShelfNobody.Pure : Prop := ∀ (a0 : ByteArray) (a1 : Int) (a2 : Bool), (a0.size ≤ 140737488351232) → ((Lit.int .i64 a1).wf = true) → pleachlaw16_ShelfNobody.f a0 a1 a2 = some true
end Go.Proofs.YtccekjebfafgcaaDoor.EShelfNobody
