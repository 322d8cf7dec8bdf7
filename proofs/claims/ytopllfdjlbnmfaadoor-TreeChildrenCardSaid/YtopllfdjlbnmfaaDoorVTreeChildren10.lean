-- Laid by this session's own program (wip/tools/fold.py): this session's texts, cut to what the claim names and put together; Lean checks it.
import Derived.Test.YtopllfdjlbnmfaaDoorVTreeChildren1
import Derived.Test.YtopllfdjlbnmfaaDoorVTreeChildren2
import Derived.Test.YtopllfdjlbnmfaaDoorVTreeChildren3
import Derived.Test.YtopllfdjlbnmfaaDoorVTreeChildren9
import Derived.Test.YtopllfdjlbnmfaaDoorXTreeChildren1
namespace Go.Proofs.YtopllfdjlbnmfaaDoor.ETreeChildren
open Go.RowKit Go.Proofs.YtopllfdjlbnmfaaDoorW.PrintWords Go.Proofs.YtopllfdjlbnmfaaDoorW.PrintLast Go.Proofs.YtopllfdjlbnmfaaDoorW.PrintMore
attribute [local go_sem] M.run_leq M.run_gtr M.run_geq max2_int min2_int max_two min_two max_three min_three max_four min_four
set_option linter.unusedVariables false
set_option linter.unusedSimpArgs false
def tree_Child.T9 : Bool × List (List Nat × List Nat) := (true, [([], []), ([0], [0]), ([], []), ([2], [2]), ([3], [3]), ([1, 4], [1, 4]), ([5], [5]), ([6], [6]), ([7, 6], [6, 7]), ([8, 6], [6, 8]), ([9, 6], [6, 9]), ([6, 10], [6, 10]), ([11, 6], [11]), ([12], [12]), ([13, 12, 12], [12, 13]), ([12], [12]), ([15, 12], [12, 15]), ([12], [12]), ([16, 17, 12], [12, 16, 17]), ([18, 12], [12, 18]), ([19, 12], [12, 19]), ([14, 20, 12], [12, 14, 20]), ([12, 21], [12, 21]), ([22, 14], [22]), ([23], [23]), ([24, 23, 23], [23, 24]), ([23], [23]), ([26, 23], [23, 26]), ([23], [23]), ([27, 28, 23], [23, 27, 28]), ([29, 23], [23, 29]), ([25, 30, 23], [23, 25, 30]), ([23, 31], [23, 31]), ([32, 25], [32]), ([33], [33]), ([34, 33], [33, 34]), ([35, 33], [33, 35]), ([36, 33], [33, 36]), ([37, 33], [33, 37]), ([33], [33]), ([38, 39, 33], [33, 38, 39]), ([33, 40], [33, 40])])
def tree_Child.B9 : List Nat := [0, 1, 0, 4, 12, 31, 63, 127, 255, 511, 1023, 2047, 4095, 8191, 16383, 8191, 40959, 8191, 237567, 499711, 1023999, 2097151, 4194303, 8388607, 16777215, 33554431, 16777215, 83886079, 16777215, 486539263, 1023410175, 2147483647, 4294967295, 8589934591, 17179869183, 34359738367, 68719476735, 137438953471, 274877906943, 17179869183, 1099511627775, 2199023255551]
theorem tree_Child.tab9 : rtab .any (opsOf Tryd.f9 9) = tree_Child.T9 := by kernel_rfl
theorem tree_Child.bits9 : waitsOk tree_Child.T9.2 tree_Child.B9 = true := by kernel_rfl
set_option maxHeartbeats 8000000 in
set_option maxRecDepth 100000 in
theorem tree_Child.out1 (base g : Nat) (F : Nat → Prop) (s : M.SS) (lv : Int) (A1 : Option Addr) (c1 : Nat) (es : List S78) (A2 : Option Addr) (c2 : Nat) (cs : List Int) (i : Int) (w : World) (h1 : lv < 1) :
    Calls Tryd.prog 9 #[.pointer (some ⟨g, 0, none⟩), .agg #[.int .i64 lv, .slice A1 es.length c1, .slice A2 cs.length c2], .int .i64 i] w fun e w' => e = .returned (.tuple #[.agg #[.int .i64 0, .slice none 0 0, .slice none 0 0], .int .i64 8]) ∧ Below w.heap.size w w' := by
 have HC0 := Aside0.mk (show M.rec_ ((w.alloc (.cells #[.int .i64 lv, .slice A1 es.length c1, .slice A2 cs.length c2] 26)).alloc (.cells #[.int .i64 0, .slice none 0 0, .slice none 0 0] 26)) w.heap.size 26 [.int .i64 lv, .slice A1 es.length c1, .slice A2 cs.length c2] from M.rec_alloc (M.rec_new w 26 [.int .i64 lv, .slice A1 es.length c1, .slice A2 cs.length c2]) _)
 have HD0 := Aside0.mk (show M.rec_ ((w.alloc (.cells #[.int .i64 lv, .slice A1 es.length c1, .slice A2 cs.length c2] 26)).alloc (.cells #[.int .i64 0, .slice none 0 0, .slice none 0 0] 26)) (w.heap.size + 1) 26 [.int .i64 0, .slice none 0 0, .slice none 0 0] from by
  have h := M.rec_new (w.alloc (.cells #[.int .i64 lv, .slice A1 es.length c1, .slice A2 cs.length c2] 26)) 26 [.int .i64 0, .slice none 0 0, .slice none 0 0]
  rw [show (w.alloc (.cells #[.int .i64 lv, .slice A1 es.length c1, .slice A2 cs.length c2] 26)).heap.size = w.heap.size + 1 from by simp] at h
  exact h)
 have HB0 := Aside0.mk (show Below w.heap.size w ((w.alloc (.cells #[.int .i64 lv, .slice A1 es.length c1, .slice A2 cs.length c2] 26)).alloc (.cells #[.int .i64 0, .slice none 0 0, .slice none 0 0] 26)) from below_alloc (below_alloc (Below.refl _ _) _) _)
 have q0 : ((w.alloc (.cells #[.int .i64 lv, .slice A1 es.length c1, .slice A2 cs.length c2] 26)).alloc (.cells #[.int .i64 0, .slice none 0 0, .slice none 0 0] 26)).cell? ⟨w.heap.size, 0, none⟩ = some (.int .i64 lv) := M.rec_cell HC0.out 0 _ rfl
 have q1 : ((w.alloc (.cells #[.int .i64 lv, .slice A1 es.length c1, .slice A2 cs.length c2] 26)).alloc (.cells #[.int .i64 0, .slice none 0 0, .slice none 0 0] 26)).cell? ⟨w.heap.size, 1, none⟩ = some (.slice A1 es.length c1) := M.rec_cell HC0.out 1 _ rfl
 have q2 : ((w.alloc (.cells #[.int .i64 lv, .slice A1 es.length c1, .slice A2 cs.length c2] 26)).alloc (.cells #[.int .i64 0, .slice none 0 0, .slice none 0 0] 26)).cell? ⟨w.heap.size, 2, none⟩ = some (.slice A2 cs.length c2) := M.rec_cell HC0.out 2 _ rfl
 have d1 : decide (lv < 1) = true := decide_eq_true h1
 go_enter Tryd.func9, Tryd.ntmps9
 go_wp2_with (((with_reducible refine gate_store (t := 26) (p := 6) (v := .tmp 32) rfl ?_); refine M.wp_rec_store rfl 26 _ _ rfl (w.heap.size + 1) 26 [.int .i64 0, .slice none 0 0, .slice none 0 0] [.int .i64 0, .slice none 0 0, .slice none 0 0] rfl rfl HD0.out rfl tree_Load.size_ rfl ?_; intro w3 hA hF hB hz; have HC3 := Aside0.mk hA; have HB3 := Aside0.mk (hB w.heap.size w (Nat.le_succ _) HB0.out); clear hA hF hB hz))
 exact bodyPost_ret (results_ct rfl _ _ (w.heap.size + 1) 26 #[.int .i64 0, .slice none 0 0, .slice none 0 0] (0, 0) _ rfl HC3.out Tryd.underlying26 rfl tree_Load.size_) rfl ⟨rfl, HB3.out⟩
set_option maxHeartbeats 8000000 in
set_option maxRecDepth 100000 in
theorem tree_Child.out2 (base g : Nat) (F : Nat → Prop) (s : M.SS) (lv : Int) (A1 : Option Addr) (c1 : Nat) (es : List S78) (A2 : Option Addr) (c2 : Nat) (cs : List Int) (i : Int) (w : World) (h1 : ¬ lv < 1) (h2 : i < 0) :
    Calls Tryd.prog 9 #[.pointer (some ⟨g, 0, none⟩), .agg #[.int .i64 lv, .slice A1 es.length c1, .slice A2 cs.length c2], .int .i64 i] w fun e w' => e = .returned (.tuple #[.agg #[.int .i64 0, .slice none 0 0, .slice none 0 0], .int .i64 8]) ∧ Below w.heap.size w w' := by
 have HC0 := Aside0.mk (show M.rec_ ((w.alloc (.cells #[.int .i64 lv, .slice A1 es.length c1, .slice A2 cs.length c2] 26)).alloc (.cells #[.int .i64 0, .slice none 0 0, .slice none 0 0] 26)) w.heap.size 26 [.int .i64 lv, .slice A1 es.length c1, .slice A2 cs.length c2] from M.rec_alloc (M.rec_new w 26 [.int .i64 lv, .slice A1 es.length c1, .slice A2 cs.length c2]) _)
 have HD0 := Aside0.mk (show M.rec_ ((w.alloc (.cells #[.int .i64 lv, .slice A1 es.length c1, .slice A2 cs.length c2] 26)).alloc (.cells #[.int .i64 0, .slice none 0 0, .slice none 0 0] 26)) (w.heap.size + 1) 26 [.int .i64 0, .slice none 0 0, .slice none 0 0] from by
  have h := M.rec_new (w.alloc (.cells #[.int .i64 lv, .slice A1 es.length c1, .slice A2 cs.length c2] 26)) 26 [.int .i64 0, .slice none 0 0, .slice none 0 0]
  rw [show (w.alloc (.cells #[.int .i64 lv, .slice A1 es.length c1, .slice A2 cs.length c2] 26)).heap.size = w.heap.size + 1 from by simp] at h
  exact h)
 have HB0 := Aside0.mk (show Below w.heap.size w ((w.alloc (.cells #[.int .i64 lv, .slice A1 es.length c1, .slice A2 cs.length c2] 26)).alloc (.cells #[.int .i64 0, .slice none 0 0, .slice none 0 0] 26)) from below_alloc (below_alloc (Below.refl _ _) _) _)
 have q0 : ((w.alloc (.cells #[.int .i64 lv, .slice A1 es.length c1, .slice A2 cs.length c2] 26)).alloc (.cells #[.int .i64 0, .slice none 0 0, .slice none 0 0] 26)).cell? ⟨w.heap.size, 0, none⟩ = some (.int .i64 lv) := M.rec_cell HC0.out 0 _ rfl
 have q1 : ((w.alloc (.cells #[.int .i64 lv, .slice A1 es.length c1, .slice A2 cs.length c2] 26)).alloc (.cells #[.int .i64 0, .slice none 0 0, .slice none 0 0] 26)).cell? ⟨w.heap.size, 1, none⟩ = some (.slice A1 es.length c1) := M.rec_cell HC0.out 1 _ rfl
 have q2 : ((w.alloc (.cells #[.int .i64 lv, .slice A1 es.length c1, .slice A2 cs.length c2] 26)).alloc (.cells #[.int .i64 0, .slice none 0 0, .slice none 0 0] 26)).cell? ⟨w.heap.size, 2, none⟩ = some (.slice A2 cs.length c2) := M.rec_cell HC0.out 2 _ rfl
 have d1 : decide (lv < 1) = false := decide_eq_false h1
 have d2 : decide (i < 0) = true := decide_eq_true h2
 go_enter Tryd.func9, Tryd.ntmps9
 go_wp2_with (((with_reducible refine gate_store (t := 26) (p := 6) (v := .tmp 32) rfl ?_); refine M.wp_rec_store rfl 26 _ _ rfl (w.heap.size + 1) 26 [.int .i64 0, .slice none 0 0, .slice none 0 0] [.int .i64 0, .slice none 0 0, .slice none 0 0] rfl rfl HD0.out rfl tree_Load.size_ rfl ?_; intro w3 hA hF hB hz; have HC3 := Aside0.mk hA; have HB3 := Aside0.mk (hB w.heap.size w (Nat.le_succ _) HB0.out); clear hA hF hB hz))
 exact bodyPost_ret (results_ct rfl _ _ (w.heap.size + 1) 26 #[.int .i64 0, .slice none 0 0, .slice none 0 0] (0, 0) _ rfl HC3.out Tryd.underlying26 rfl tree_Load.size_) rfl ⟨rfl, HB3.out⟩
set_option maxHeartbeats 8000000 in
set_option maxRecDepth 100000 in
theorem tree_Child.out3 (base g : Nat) (F : Nat → Prop) (s : M.SS) (lv : Int) (A1 : Option Addr) (c1 : Nat) (es : List S78) (A2 : Option Addr) (c2 : Nat) (cs : List Int) (i : Int) (w : World) (h1 : ¬ lv < 1) (h2 : ¬ i < 0) (h3 : (es.length : Int) ≤ i) :
    Calls Tryd.prog 9 #[.pointer (some ⟨g, 0, none⟩), .agg #[.int .i64 lv, .slice A1 es.length c1, .slice A2 cs.length c2], .int .i64 i] w fun e w' => e = .returned (.tuple #[.agg #[.int .i64 0, .slice none 0 0, .slice none 0 0], .int .i64 8]) ∧ Below w.heap.size w w' := by
 have HC0 := Aside0.mk (show M.rec_ ((w.alloc (.cells #[.int .i64 lv, .slice A1 es.length c1, .slice A2 cs.length c2] 26)).alloc (.cells #[.int .i64 0, .slice none 0 0, .slice none 0 0] 26)) w.heap.size 26 [.int .i64 lv, .slice A1 es.length c1, .slice A2 cs.length c2] from M.rec_alloc (M.rec_new w 26 [.int .i64 lv, .slice A1 es.length c1, .slice A2 cs.length c2]) _)
 have HD0 := Aside0.mk (show M.rec_ ((w.alloc (.cells #[.int .i64 lv, .slice A1 es.length c1, .slice A2 cs.length c2] 26)).alloc (.cells #[.int .i64 0, .slice none 0 0, .slice none 0 0] 26)) (w.heap.size + 1) 26 [.int .i64 0, .slice none 0 0, .slice none 0 0] from by
  have h := M.rec_new (w.alloc (.cells #[.int .i64 lv, .slice A1 es.length c1, .slice A2 cs.length c2] 26)) 26 [.int .i64 0, .slice none 0 0, .slice none 0 0]
  rw [show (w.alloc (.cells #[.int .i64 lv, .slice A1 es.length c1, .slice A2 cs.length c2] 26)).heap.size = w.heap.size + 1 from by simp] at h
  exact h)
 have HB0 := Aside0.mk (show Below w.heap.size w ((w.alloc (.cells #[.int .i64 lv, .slice A1 es.length c1, .slice A2 cs.length c2] 26)).alloc (.cells #[.int .i64 0, .slice none 0 0, .slice none 0 0] 26)) from below_alloc (below_alloc (Below.refl _ _) _) _)
 have q0 : ((w.alloc (.cells #[.int .i64 lv, .slice A1 es.length c1, .slice A2 cs.length c2] 26)).alloc (.cells #[.int .i64 0, .slice none 0 0, .slice none 0 0] 26)).cell? ⟨w.heap.size, 0, none⟩ = some (.int .i64 lv) := M.rec_cell HC0.out 0 _ rfl
 have q1 : ((w.alloc (.cells #[.int .i64 lv, .slice A1 es.length c1, .slice A2 cs.length c2] 26)).alloc (.cells #[.int .i64 0, .slice none 0 0, .slice none 0 0] 26)).cell? ⟨w.heap.size, 1, none⟩ = some (.slice A1 es.length c1) := M.rec_cell HC0.out 1 _ rfl
 have q2 : ((w.alloc (.cells #[.int .i64 lv, .slice A1 es.length c1, .slice A2 cs.length c2] 26)).alloc (.cells #[.int .i64 0, .slice none 0 0, .slice none 0 0] 26)).cell? ⟨w.heap.size, 2, none⟩ = some (.slice A2 cs.length c2) := M.rec_cell HC0.out 2 _ rfl
 have d1 : decide (lv < 1) = false := decide_eq_false h1
 have d2 : decide (i < 0) = false := decide_eq_false h2
 have d3 : decide ((es.length : Int) ≤ i) = true := decide_eq_true h3
 go_enter Tryd.func9, Tryd.ntmps9
 go_wp2_with (((with_reducible refine gate_store (t := 26) (p := 6) (v := .tmp 32) rfl ?_); refine M.wp_rec_store rfl 26 _ _ rfl (w.heap.size + 1) 26 [.int .i64 0, .slice none 0 0, .slice none 0 0] [.int .i64 0, .slice none 0 0, .slice none 0 0] rfl rfl HD0.out rfl tree_Load.size_ rfl ?_; intro w3 hA hF hB hz; have HC3 := Aside0.mk hA; have HB3 := Aside0.mk (hB w.heap.size w (Nat.le_succ _) HB0.out); clear hA hF hB hz))
 exact bodyPost_ret (results_ct rfl _ _ (w.heap.size + 1) 26 #[.int .i64 0, .slice none 0 0, .slice none 0 0] (0, 0) _ rfl HC3.out Tryd.underlying26 rfl tree_Load.size_) rfl ⟨rfl, HB3.out⟩
set_option maxHeartbeats 8000000 in
set_option maxRecDepth 100000 in
theorem tree_Child.out4 (base g : Nat) (F : Nat → Prop) (s : M.SS) (lv : Int) (A1 : Option Addr) (c1 : Nat) (es : List S78) (A2 : Option Addr) (c2 : Nat) (cs : List Int) (i : Int) (w : World) (h1 : ¬ lv < 1) (h2 : ¬ i < 0) (h3 : ¬ (es.length : Int) ≤ i) (h4 : (cs.length : Int) ≤ i) :
    Calls Tryd.prog 9 #[.pointer (some ⟨g, 0, none⟩), .agg #[.int .i64 lv, .slice A1 es.length c1, .slice A2 cs.length c2], .int .i64 i] w fun e w' => e = .returned (.tuple #[.agg #[.int .i64 0, .slice none 0 0, .slice none 0 0], .int .i64 8]) ∧ Below w.heap.size w w' := by
 have HC0 := Aside0.mk (show M.rec_ ((w.alloc (.cells #[.int .i64 lv, .slice A1 es.length c1, .slice A2 cs.length c2] 26)).alloc (.cells #[.int .i64 0, .slice none 0 0, .slice none 0 0] 26)) w.heap.size 26 [.int .i64 lv, .slice A1 es.length c1, .slice A2 cs.length c2] from M.rec_alloc (M.rec_new w 26 [.int .i64 lv, .slice A1 es.length c1, .slice A2 cs.length c2]) _)
 have HD0 := Aside0.mk (show M.rec_ ((w.alloc (.cells #[.int .i64 lv, .slice A1 es.length c1, .slice A2 cs.length c2] 26)).alloc (.cells #[.int .i64 0, .slice none 0 0, .slice none 0 0] 26)) (w.heap.size + 1) 26 [.int .i64 0, .slice none 0 0, .slice none 0 0] from by
  have h := M.rec_new (w.alloc (.cells #[.int .i64 lv, .slice A1 es.length c1, .slice A2 cs.length c2] 26)) 26 [.int .i64 0, .slice none 0 0, .slice none 0 0]
  rw [show (w.alloc (.cells #[.int .i64 lv, .slice A1 es.length c1, .slice A2 cs.length c2] 26)).heap.size = w.heap.size + 1 from by simp] at h
  exact h)
 have HB0 := Aside0.mk (show Below w.heap.size w ((w.alloc (.cells #[.int .i64 lv, .slice A1 es.length c1, .slice A2 cs.length c2] 26)).alloc (.cells #[.int .i64 0, .slice none 0 0, .slice none 0 0] 26)) from below_alloc (below_alloc (Below.refl _ _) _) _)
 have q0 : ((w.alloc (.cells #[.int .i64 lv, .slice A1 es.length c1, .slice A2 cs.length c2] 26)).alloc (.cells #[.int .i64 0, .slice none 0 0, .slice none 0 0] 26)).cell? ⟨w.heap.size, 0, none⟩ = some (.int .i64 lv) := M.rec_cell HC0.out 0 _ rfl
 have q1 : ((w.alloc (.cells #[.int .i64 lv, .slice A1 es.length c1, .slice A2 cs.length c2] 26)).alloc (.cells #[.int .i64 0, .slice none 0 0, .slice none 0 0] 26)).cell? ⟨w.heap.size, 1, none⟩ = some (.slice A1 es.length c1) := M.rec_cell HC0.out 1 _ rfl
 have q2 : ((w.alloc (.cells #[.int .i64 lv, .slice A1 es.length c1, .slice A2 cs.length c2] 26)).alloc (.cells #[.int .i64 0, .slice none 0 0, .slice none 0 0] 26)).cell? ⟨w.heap.size, 2, none⟩ = some (.slice A2 cs.length c2) := M.rec_cell HC0.out 2 _ rfl
 have d1 : decide (lv < 1) = false := decide_eq_false h1
 have d2 : decide (i < 0) = false := decide_eq_false h2
 have d3 : decide ((es.length : Int) ≤ i) = false := decide_eq_false h3
 have d4 : decide ((cs.length : Int) ≤ i) = true := decide_eq_true h4
 go_enter Tryd.func9, Tryd.ntmps9
 go_wp2_with (((with_reducible refine gate_store (t := 26) (p := 6) (v := .tmp 32) rfl ?_); refine M.wp_rec_store rfl 26 _ _ rfl (w.heap.size + 1) 26 [.int .i64 0, .slice none 0 0, .slice none 0 0] [.int .i64 0, .slice none 0 0, .slice none 0 0] rfl rfl HD0.out rfl tree_Load.size_ rfl ?_; intro w3 hA hF hB hz; have HC3 := Aside0.mk hA; have HB3 := Aside0.mk (hB w.heap.size w (Nat.le_succ _) HB0.out); clear hA hF hB hz))
 exact bodyPost_ret (results_ct rfl _ _ (w.heap.size + 1) 26 #[.int .i64 0, .slice none 0 0, .slice none 0 0] (0, 0) _ rfl HC3.out Tryd.underlying26 rfl tree_Load.size_) rfl ⟨rfl, HB3.out⟩
set_option maxHeartbeats 8000000 in
set_option maxRecDepth 100000 in
theorem tree_Child.rot (base g : Nat) (F : Nat → Prop) (s : M.SS) (lv : Int) (A1 : Option Addr) (c1 : Nat) (es : List S78) (A2 : Option Addr) (c2 : Nat) (cs : List Int) (k : Nat) (w : World) (hS : M.Sh Tryd.prog base w g F s) (hts : ∀ t ∈ s.ts, t.size ≤ 1000000000000) (h1 : Kd.C k78 w A1 es.length es) (h2 : Kd.C (Kd.int .i64) w A2 cs.length cs) (hl : ¬ lv < 1) (hk1 : k < es.length) (hk2 : k < cs.length) (nm key : ByteArray) (ct : Int) (hnm : (rd_T78 es (k : Int)).f1 = nm) (hkey : (rd_T78 es (k : Int)).f0 = key) (hct : rd cs (k : Int) = ct) (hz : nm.size ≤ 9223372036854775807) (r1 : Int) (r2 : List S78) (r3 : List Int) (er : Int) (hld : tree_Load.at_ s nm = (r1, r2, r3, er)) (he : er ≠ 0) :
    Calls Tryd.prog 9 #[.pointer (some ⟨g, 0, none⟩), .agg #[.int .i64 lv, .slice A1 es.length c1, .slice A2 cs.length c2], .int .i64 (k : Int)] w fun e w' => e = .returned (.tuple #[.agg #[.int .i64 0, .slice none 0 0, .slice none 0 0], .int .i64 er]) ∧ Below w.heap.size w w' := by
 have HC0 := Aside0.mk (show M.rec_ ((w.alloc (.cells #[.int .i64 lv, .slice A1 es.length c1, .slice A2 cs.length c2] 26)).alloc (.cells #[.int .i64 0, .slice none 0 0, .slice none 0 0] 26)) w.heap.size 26 [.int .i64 lv, .slice A1 es.length c1, .slice A2 cs.length c2] from M.rec_alloc (M.rec_new w 26 [.int .i64 lv, .slice A1 es.length c1, .slice A2 cs.length c2]) _)
 have HD0 := Aside0.mk (show M.rec_ ((w.alloc (.cells #[.int .i64 lv, .slice A1 es.length c1, .slice A2 cs.length c2] 26)).alloc (.cells #[.int .i64 0, .slice none 0 0, .slice none 0 0] 26)) (w.heap.size + 1) 26 [.int .i64 0, .slice none 0 0, .slice none 0 0] from by
  have h := M.rec_new (w.alloc (.cells #[.int .i64 lv, .slice A1 es.length c1, .slice A2 cs.length c2] 26)) 26 [.int .i64 0, .slice none 0 0, .slice none 0 0]
  rw [show (w.alloc (.cells #[.int .i64 lv, .slice A1 es.length c1, .slice A2 cs.length c2] 26)).heap.size = w.heap.size + 1 from by simp] at h
  exact h)
 have HB0 := Aside0.mk (show Below w.heap.size w ((w.alloc (.cells #[.int .i64 lv, .slice A1 es.length c1, .slice A2 cs.length c2] 26)).alloc (.cells #[.int .i64 0, .slice none 0 0, .slice none 0 0] 26)) from below_alloc (below_alloc (Below.refl _ _) _) _)
 have q0 : ((w.alloc (.cells #[.int .i64 lv, .slice A1 es.length c1, .slice A2 cs.length c2] 26)).alloc (.cells #[.int .i64 0, .slice none 0 0, .slice none 0 0] 26)).cell? ⟨w.heap.size, 0, none⟩ = some (.int .i64 lv) := M.rec_cell HC0.out 0 _ rfl
 have q1 : ((w.alloc (.cells #[.int .i64 lv, .slice A1 es.length c1, .slice A2 cs.length c2] 26)).alloc (.cells #[.int .i64 0, .slice none 0 0, .slice none 0 0] 26)).cell? ⟨w.heap.size, 1, none⟩ = some (.slice A1 es.length c1) := M.rec_cell HC0.out 1 _ rfl
 have q2 : ((w.alloc (.cells #[.int .i64 lv, .slice A1 es.length c1, .slice A2 cs.length c2] 26)).alloc (.cells #[.int .i64 0, .slice none 0 0, .slice none 0 0] 26)).cell? ⟨w.heap.size, 2, none⟩ = some (.slice A2 cs.length c2) := M.rec_cell HC0.out 2 _ rfl
 have HS0 := Aside0.mk (hS.below HB0.out)
 have HLD := Aside0.mk hld
 have HTS := Aside0.mk hts
 have HR1 := Aside0.mk h1
 have HR2 := Aside0.mk h2
 obtain ⟨ad, rfl, e0, e1⟩ := at_T78 h1 (k : Int) (by omega) (by omega)
 obtain ⟨bd, rfl, f0⟩ := Kd.at_int h2 (k : Int) (by omega) (by omega)
 rw [Int.toNat_natCast] at e0 e1 f0
 rw [hkey] at e0
 rw [hnm] at e1
 rw [hct] at f0
 have E0 := Aside0.mk e0
 have E1 := Aside0.mk e1
 have F0 := Aside0.mk f0
 have e1' := (HB0.out.cell (World.block_lt_of_cell? w _ e1)).trans e1
 have d1 : decide (lv < 1) = false := decide_eq_false hl
 have d2 : decide ((k : Int) < 0) = false := decide_eq_false (by omega)
 have d3 : decide ((es.length : Int) ≤ (k : Int)) = false := decide_eq_false (by omega)
 have d4 : decide ((cs.length : Int) ≤ (k : Int)) = false := decide_eq_false (by omega)
 have d5 : (0 : Int) ≤ (k : Int) := by omega
 have d6 : (k : Int) < (es.length : Int) := by omega
 have d7 : (k : Int) < (cs.length : Int) := by omega
 clear hS hld hts h1 h2 e0 e1 f0 hnm hkey hct
 have x1 : decide (er = 0) = false := decide_eq_false he
 have x2 : (er == 0) = false := by simp [he]
 go_enter Tryd.func9, Tryd.ntmps9
 go_wp2_with (first | (go_at_call 32; (with_reducible refine (tree_Load.any base g F s nm _ HS0.out hz HTS.out r1 r2 r3 er HLD.out).mono ?_); rintro e w1 ⟨B1, d1_, B2, d2_, rfl, hx1, hx2, hb⟩; have HA1 := Aside0.mk hx1; have HI1 := Aside0.mk hx2; have HB1 := Aside0.mk (below_step HB0.out hb); have HC1 := Aside0.mk (M.rec_below HC0.out hb); have HD1 := Aside0.mk (M.rec_below HD0.out hb); clear hx1 hx2 hb) | ((with_reducible refine gate_store (t := 26) (p := 8) (v := .tmp 42) rfl ?_); refine M.wp_rec_store rfl 26 _ _ rfl w1.heap.size 26 [.int .i64 0, .slice none 0 0, .slice none 0 0] [.int .i64 r1, .slice B1 r2.length d1_, .slice B2 r3.length d2_] rfl rfl (M.rec_new w1 26 [.int .i64 0, .slice none 0 0, .slice none 0 0]) rfl tree_Load.size_ rfl ?_; intro w2 hA hF hB hzz; have hy := hB w1.heap.size w1 (Nat.le_refl _) (below_alloc (Below.refl _ _) _); have HX2 := Aside0.mk hA; have HA2 := Aside0.mk (Kd.R_below HA1.out hy); have HI2 := Aside0.mk (Kd.R_below HI1.out hy); have HC2 := Aside0.mk (M.rec_below HC1.out hy); have HD2 := Aside0.mk (M.rec_below HD1.out hy); have HB2 := Aside0.mk (below_step HB1.out hy); clear hA hF hB hzz hy) | ((with_reducible refine gate_store (t := 26) (p := 6) (v := .tmp 46) rfl ?_); refine M.wp_rec_store rfl 26 _ _ rfl (w.heap.size + 1) 26 [.int .i64 0, .slice none 0 0, .slice none 0 0] [.int .i64 0, .slice none 0 0, .slice none 0 0] rfl rfl HD2.out rfl tree_Load.size_ rfl ?_; intro w3 hA hF hB hzz; have HC3 := Aside0.mk hA; have HB3 := Aside0.mk (hB w.heap.size w (Nat.le_succ _) HB2.out); clear hA hF hB hzz))
 exact bodyPost_ret (results_ct rfl _ _ (w.heap.size + 1) 26 #[.int .i64 0, .slice none 0 0, .slice none 0 0] (0, 0) _ rfl HC3.out Tryd.underlying26 rfl tree_Load.size_) rfl ⟨rfl, HB3.out⟩
def tree_Child.fin (lv : Int) (key lo : ByteArray) (ct r1 : Int) (r2 : List S78) (r3 : List Int) (lst : ByteArray) (tot : Int) : Int × List S78 × List Int × Int :=
  if r1 = wrap64 (lv - 1) ∧ r2 ≠ [] ∧ lst = key ∧ tot = ct ∧ Op.bytesLess lo.toList (rd_T78 r2 0).f0.toList = true then (r1, r2, r3, 0) else (0, [], [], 16)
set_option maxHeartbeats 8000000 in
set_option maxRecDepth 100000 in
theorem tree_Child.in_ (base g : Nat) (F : Nat → Prop) (s : M.SS) (lv : Int) (A1 : Option Addr) (c1 : Nat) (es : List S78) (A2 : Option Addr) (c2 : Nat) (cs : List Int) (k : Nat) (w : World) (hS : M.Sh Tryd.prog base w g F s) (hts : ∀ t ∈ s.ts, t.size ≤ 1000000000000) (h1 : Kd.C k78 w A1 es.length es) (h2 : Kd.C (Kd.int .i64) w A2 cs.length cs) (hl : ¬ lv < 1) (hk1 : k < es.length) (hk2 : k < cs.length) (nm key : ByteArray) (ct : Int) (hnm : (rd_T78 es (k : Int)).f1 = nm) (hkey : (rd_T78 es (k : Int)).f0 = key) (hct : rd cs (k : Int) = ct) (hz : nm.size ≤ 9223372036854775807) (r1 : Int) (r2 : List S78) (r3 : List Int) (er : Int) (hld : tree_Load.at_ s nm = (r1, r2, r3, er)) (he : er = 0) (h63 : es.length ≤ 9223372036854775807) (lo : ByteArray) (hlo : k = 0 → lo = ⟨#[]⟩) (hlow : ∀ m : Nat, m + 1 = k → (rd_T78 es (m : Int)).f0 = lo) (lst : ByteArray) (hlst : chunk_Last.f r1 r2 r3 = some lst) (kt : Nat) (tot : Int) (htot : chunk_Total.f kt r1 r2 r3 = some tot) (p1r : Int) (p2r : List S78) (p3r : List Int) (p4r : Int) (hq : tree_Child.fin lv key lo ct r1 r2 r3 lst tot = (p1r, p2r, p3r, p4r)) :
    Calls Tryd.prog 9 #[.pointer (some ⟨g, 0, none⟩), .agg #[.int .i64 lv, .slice A1 es.length c1, .slice A2 cs.length c2], .int .i64 (k : Int)] w fun e w' => ∃ B1 d1_ B2 d2_, e = .returned (.tuple #[.agg #[.int .i64 p1r, .slice B1 p2r.length d1_, .slice B2 p3r.length d2_], .int .i64 p4r]) ∧ Kd.R k78 78 w' w.heap.size (fun _ => True) (.slice B1 p2r.length d1_) p2r ∧ Kd.R (Kd.int .i64) 3 w' w.heap.size (fun _ => True) (.slice B2 p3r.length d2_) p3r ∧ Below w.heap.size w w' := by
 subst he
 have HC0 := Aside0.mk (show M.rec_ ((w.alloc (.cells #[.int .i64 lv, .slice A1 es.length c1, .slice A2 cs.length c2] 26)).alloc (.cells #[.int .i64 0, .slice none 0 0, .slice none 0 0] 26)) w.heap.size 26 [.int .i64 lv, .slice A1 es.length c1, .slice A2 cs.length c2] from M.rec_alloc (M.rec_new w 26 [.int .i64 lv, .slice A1 es.length c1, .slice A2 cs.length c2]) _)
 have HD0 := Aside0.mk (show M.rec_ ((w.alloc (.cells #[.int .i64 lv, .slice A1 es.length c1, .slice A2 cs.length c2] 26)).alloc (.cells #[.int .i64 0, .slice none 0 0, .slice none 0 0] 26)) (w.heap.size + 1) 26 [.int .i64 0, .slice none 0 0, .slice none 0 0] from by
  have h := M.rec_new (w.alloc (.cells #[.int .i64 lv, .slice A1 es.length c1, .slice A2 cs.length c2] 26)) 26 [.int .i64 0, .slice none 0 0, .slice none 0 0]
  rw [show (w.alloc (.cells #[.int .i64 lv, .slice A1 es.length c1, .slice A2 cs.length c2] 26)).heap.size = w.heap.size + 1 from by simp] at h
  exact h)
 have HB0 := Aside0.mk (show Below w.heap.size w ((w.alloc (.cells #[.int .i64 lv, .slice A1 es.length c1, .slice A2 cs.length c2] 26)).alloc (.cells #[.int .i64 0, .slice none 0 0, .slice none 0 0] 26)) from below_alloc (below_alloc (Below.refl _ _) _) _)
 have q0 : ((w.alloc (.cells #[.int .i64 lv, .slice A1 es.length c1, .slice A2 cs.length c2] 26)).alloc (.cells #[.int .i64 0, .slice none 0 0, .slice none 0 0] 26)).cell? ⟨w.heap.size, 0, none⟩ = some (.int .i64 lv) := M.rec_cell HC0.out 0 _ rfl
 have q1 : ((w.alloc (.cells #[.int .i64 lv, .slice A1 es.length c1, .slice A2 cs.length c2] 26)).alloc (.cells #[.int .i64 0, .slice none 0 0, .slice none 0 0] 26)).cell? ⟨w.heap.size, 1, none⟩ = some (.slice A1 es.length c1) := M.rec_cell HC0.out 1 _ rfl
 have q2 : ((w.alloc (.cells #[.int .i64 lv, .slice A1 es.length c1, .slice A2 cs.length c2] 26)).alloc (.cells #[.int .i64 0, .slice none 0 0, .slice none 0 0] 26)).cell? ⟨w.heap.size, 2, none⟩ = some (.slice A2 cs.length c2) := M.rec_cell HC0.out 2 _ rfl
 have HS0 := Aside0.mk (hS.below HB0.out)
 have HLD := Aside0.mk hld
 have HTS := Aside0.mk hts
 have HR1 := Aside0.mk h1
 have HR2 := Aside0.mk h2
 obtain ⟨ad, rfl, e0, e1⟩ := at_T78 h1 (k : Int) (by omega) (by omega)
 obtain ⟨bd, rfl, f0⟩ := Kd.at_int h2 (k : Int) (by omega) (by omega)
 rw [Int.toNat_natCast] at e0 e1 f0
 rw [hkey] at e0
 rw [hnm] at e1
 rw [hct] at f0
 have E0 := Aside0.mk e0
 have E1 := Aside0.mk e1
 have F0 := Aside0.mk f0
 have e1' := (HB0.out.cell (World.block_lt_of_cell? w _ e1)).trans e1
 have d1 : decide (lv < 1) = false := decide_eq_false hl
 have d2 : decide ((k : Int) < 0) = false := decide_eq_false (by omega)
 have d3 : decide ((es.length : Int) ≤ (k : Int)) = false := decide_eq_false (by omega)
 have d4 : decide ((cs.length : Int) ≤ (k : Int)) = false := decide_eq_false (by omega)
 have d5 : (0 : Int) ≤ (k : Int) := by omega
 have d6 : (k : Int) < (es.length : Int) := by omega
 have d7 : (k : Int) < (cs.length : Int) := by omega
 clear hS hld hts h1 h2 e0 e1 f0 hnm hkey hct
 have HLST := Aside0.mk hlst
 have HTOT := Aside0.mk htot
 have HQ := Aside0.mk hq
 have HLO := Aside0.mk hlo
 have HLOW := Aside0.mk hlow
 have hu26 := Tryd.underlying26
 clear hlst htot hq hlo hlow
 go_enter Tryd.func9, Tryd.ntmps9
 go_upto_if 49 with (first | (go_at_call 32; (with_reducible refine (tree_Load.any base g F s nm _ HS0.out hz HTS.out r1 r2 r3 0 HLD.out).mono ?_); rintro e w1 ⟨B1, d1_, B2, d2_, rfl, hx1, hx2, hb⟩; have HA1 := Aside0.mk hx1; have HI1 := Aside0.mk hx2; have HB1 := Aside0.mk (below_step HB0.out hb); have HC1 := Aside0.mk (M.rec_below HC0.out hb); have HD1 := Aside0.mk (M.rec_below HD0.out hb); clear hx1 hx2 hb) | ((with_reducible refine gate_store (t := 26) (p := 8) (v := .tmp 42) rfl ?_); refine M.wp_rec_store rfl 26 _ _ rfl w1.heap.size 26 [.int .i64 0, .slice none 0 0, .slice none 0 0] [.int .i64 r1, .slice B1 r2.length d1_, .slice B2 r3.length d2_] rfl rfl (M.rec_new w1 26 [.int .i64 0, .slice none 0 0, .slice none 0 0]) rfl tree_Load.size_ rfl ?_; intro w2 hA hF hB hzz; have hy := hB w1.heap.size w1 (Nat.le_refl _) (below_alloc (Below.refl _ _) _); have HX2 := Aside0.mk hA; have HA2 := Aside0.mk (Kd.R_below HA1.out hy); have HI2 := Aside0.mk (Kd.R_below HI1.out hy); have HC2 := Aside0.mk (M.rec_below HC1.out hy); have HD2 := Aside0.mk (M.rec_below HD1.out hy); have HB2 := Aside0.mk (below_step HB1.out hy); clear hA hF hB hzz hy))
 go_cut [10] (fun v10 wc => v10 = .string lo ∧ w2 = wc)
 case first =>
  by_cases hkz : k = 0
  ·have HL0 := Aside0.mk (HLO.out hkz)
   have d8 : decide ((0 : Int) < (k : Int)) = false := decide_eq_false (by omega)
   have d8' : decide (0 < k) = false := decide_eq_false (by omega)
   have d8'' : ¬ 0 < k := by omega
   clear hkz
   go_wp2_with (fail)
   go_meet
   exact ⟨congrArg Value.string HL0.out.symm, rfl⟩
  ·have d8 : decide ((0 : Int) < (k : Int)) = true := decide_eq_true (by omega)
   have d8' : decide (0 < k) = true := decide_eq_true (by omega)
   obtain ⟨m, hm⟩ : ∃ m, m + 1 = k := ⟨k - 1, by omega⟩
   have hml : m < es.length := by omega
   have d9 : (0 : Int) ≤ (m : Int) := by omega
   have da : (m : Int) < (es.length : Int) := by omega
   obtain ⟨ad_, had, l0, l1⟩ := at_T78 HR1.out (m : Int) d9 da
   have had_ := Option.some.inj had
   subst had_
   rw [Int.toNat_natCast, HLOW.out m hm] at l0
   have l2' := (HB2.out.cell (World.block_lt_of_cell? w _ l0)).trans l0
   have c2_1 : w2.cell? ⟨w.heap.size, 1, none⟩ = some (.slice (some ad) es.length c1) := M.rec_cell HC2.out 1 _ rfl
   have hkw : IntKind.i64.wrap ((k : Int) - 1) = (m : Int) := by rw [i64_w, M.wrap64_id (by omega) (by omega)]; omega
   have hkw2 : wrap64 ((k : Int) - 1) = (m : Int) := by rw [← i64_w]; exact hkw
   have hkp : 0 < k := by omega
   clear l0 l1 had hm hkz
   go_wp2_with (fail)
   all_goals (go_meet; exact ⟨rfl, rfl⟩)
 case rest =>
  obtain ⟨rfl, rfl⟩ := hcut
  go_upto_region 9 with (fail)
  have HDR := Aside0.mk (show Below w2.heap.size w2 w2.drew from below_drew (Below.refl _ _))
  have HLa := Aside0.mk (show Kd.C k78 w2.drew B1 r2.length r2 from Kd.C_below (Kd.R_reads' HA2.out).2.2 HDR.out)
  have HLb := Aside0.mk (show Kd.C (Kd.int .i64) w2.drew B2 r3.length r3 from Kd.C_below (Kd.R_reads' HI2.out).2.2 HDR.out)
  have hc1_ := (Kd.R_reads' HA2.out).2.1
  have hc2_ := (Kd.R_reads' HI2.out).2.1
  have tX0 : w2.drew.cell? ⟨w1.heap.size, 0, none⟩ = some (.int .i64 r1) := M.rec_cell HX2.out 0 _ rfl
  have tX1 : w2.drew.cell? ⟨w1.heap.size, 1, none⟩ = some (.slice B1 r2.length d1_) := M.rec_cell HX2.out 1 _ rfl
  have tX2 : w2.drew.cell? ⟨w1.heap.size, 2, none⟩ = some (.slice B2 r3.length d2_) := M.rec_cell HX2.out 2 _ rfl
  have tY0 : w2.drew.cell? ⟨w.heap.size, 0, none⟩ = some (.int .i64 lv) := M.rec_cell HC2.out 0 _ rfl
  have tY1 : w2.drew.cell? ⟨w.heap.size, 1, none⟩ = some (.slice (some ad) es.length c1) := M.rec_cell HC2.out 1 _ rfl
  have tY2 : w2.drew.cell? ⟨w.heap.size, 2, none⟩ = some (.slice (some bd) cs.length c2) := M.rec_cell HC2.out 2 _ rfl
  have tK0 : w2.drew.cell? (ad.add (k * 2)) = some (.string key) := (HB2.out.cell (World.block_lt_of_cell? w _ E0.out)).trans E0.out
  have tK1 : w2.drew.cell? (bd.add k) = some (.int .i64 ct) := (HB2.out.cell (World.block_lt_of_cell? w _ F0.out)).trans F0.out
  have HERR := Aside0.mk (show tree_Child.fin lv key lo ct r1 r2 r3 lst tot = (0, [], [], 16) → ∀ W, Below w.heap.size w W → (fun e w' => ∃ B1 d1_ B2 d2_, e = .returned (.tuple #[.agg #[.int .i64 p1r, .slice B1 p2r.length d1_, .slice B2 p3r.length d2_], .int .i64 p4r]) ∧ Kd.R k78 78 w' w.heap.size (fun _ => True) (.slice B1 p2r.length d1_) p2r ∧ Kd.R (Kd.int .i64) 3 w' w.heap.size (fun _ => True) (.slice B2 p3r.length d2_) p3r ∧ Below w.heap.size w w') (Ending.returned (.tuple #[.agg #[.int .i64 0, .slice none 0 0, .slice none 0 0], .int .i64 16])) W from by
   intro h W hb
   rw [HQ.out] at h
   injection h with h1 h; injection h with h2 h; injection h with h3 h4
   subst h1 h2 h3 h4
   exact ⟨none, 0, none, 0, rfl, Kd.R_nil _ _ _ _ _, Kd.R_nil _ _ _ _ _, hb⟩)
  have HGOOD := Aside0.mk (show tree_Child.fin lv key lo ct r1 r2 r3 lst tot = (r1, r2, r3, 0) → ∀ B1 d1_ B2 d2_ W, Kd.R k78 78 W w.heap.size (fun _ => True) (.slice B1 r2.length d1_) r2 → Kd.R (Kd.int .i64) 3 W w.heap.size (fun _ => True) (.slice B2 r3.length d2_) r3 → Below w.heap.size w W → (fun e w' => ∃ B1 d1_ B2 d2_, e = .returned (.tuple #[.agg #[.int .i64 p1r, .slice B1 p2r.length d1_, .slice B2 p3r.length d2_], .int .i64 p4r]) ∧ Kd.R k78 78 w' w.heap.size (fun _ => True) (.slice B1 p2r.length d1_) p2r ∧ Kd.R (Kd.int .i64) 3 w' w.heap.size (fun _ => True) (.slice B2 p3r.length d2_) p3r ∧ Below w.heap.size w w') (Ending.returned (.tuple #[.agg #[.int .i64 r1, .slice B1 r2.length d1_, .slice B2 r3.length d2_], .int .i64 0])) W from by
   intro h B1 d1_ B2 d2_ W a b c
   rw [HQ.out] at h
   injection h with h1 h; injection h with h2 h; injection h with h3 h4
   subst h1 h2 h3 h4
   exact ⟨B1, d1_, B2, d2_, rfl, a, b, c⟩)
  by_cases hx : r1 = wrap64 (lv - 1)
  rotate_left
  ·have x3 : (r1 != wrap64 (lv - 1)) = true := bne_iff_ne.2 hx
   replace HERR := Aside0.mk (HERR.out (by unfold tree_Child.fin; rw [if_neg (fun h => hx h.1)]))
   refine start_ (n := 42) (S := fun w' => w'.cell? ⟨w1.heap.size, 0, none⟩ = some (.int .i64 r1) ∧ w'.cell? ⟨w.heap.size, 0, none⟩ = some (.int .i64 lv)) (ds := []) (M.tf [0, 42]) (by kernel_rfl) rfl rfl ⟨tX0, tY0⟩ (fun hHeld => ?_)
   refine with_tabW tree_Child.tab9 tree_Child.bits9 (fun HT_ HW_ => ?_)
   refine M.pu 0 57 [1, 41] HT_ ?_
   refine M.pu 2 59 [1, 1, 1, 39] HT_ ?_
   refine M.tk 1 58 [3, 39] HT_ HW_ hHeld ?_
   refine M.tk 3 60 [4, 38] HT_ HW_ hHeld ?_
   refine M.pu 4 61 [5, 37] HT_ ?_
   refine M.pu 5 62 [6, 36] HT_ ?_
   refine M.pu 6 63 [7, 35] HT_ ?_
   refine M.pn 7 64 [8, 34] HT_ ?_
   refine M.pn 8 65 [9, 33] HT_ ?_
   refine M.pn 9 66 [10, 32] HT_ ?_
   refine M.pn 10 67 [11, 31] HT_ ?_
   refine M.pu 11 68 [12, 30] HT_ ?_
   refine M.pu 12 69 [13, 29] HT_ ?_
   refine M.pn 13 70 [14, 28] HT_ ?_
   refine M.pn 14 71 [15, 27] HT_ ?_
   refine M.pn 15 72 [16, 26] HT_ ?_
   refine M.pn 16 73 [17, 25] HT_ ?_
   refine M.pn 17 74 [18, 24] HT_ ?_
   refine M.pn 18 75 [19, 23] HT_ ?_
   refine M.pn 19 76 [20, 22] HT_ ?_
   refine M.pn 20 77 [21, 21] HT_ ?_
   refine M.pn 21 78 [22, 20] HT_ ?_
   refine M.pu 22 79 [23, 19] HT_ ?_
   refine M.pu 23 80 [24, 18] HT_ ?_
   refine M.pn 24 81 [25, 17] HT_ ?_
   refine M.pn 25 82 [26, 16] HT_ ?_
   refine M.pn 26 83 [27, 15] HT_ ?_
   refine M.pn 27 84 [28, 14] HT_ ?_
   refine M.pn 28 85 [29, 13] HT_ ?_
   refine M.pn 29 86 [30, 12] HT_ ?_
   refine M.pn 30 87 [31, 11] HT_ ?_
   refine M.pn 31 88 [32, 10] HT_ ?_
   refine M.pu 32 89 [33, 9] HT_ ?_
   refine M.pu 33 90 [34, 8] HT_ ?_
   refine M.pn 34 91 [35, 7] HT_ ?_
   refine M.pn 35 92 [36, 6] HT_ ?_
   refine M.pn 36 93 [37, 5] HT_ ?_
   refine M.pn 37 94 [38, 4] HT_ ?_
   refine M.pn 38 95 [39, 3] HT_ ?_
   refine M.pn 39 96 [40, 2] HT_ ?_
   refine M.pn 40 97 [41, 1] HT_ ?_
   refine M.pu 41 98 [42] HT_ ?_
   refine done_ (done_of HT_.out (by kernel_rfl)) ?_
   go_wp2_with (((with_reducible refine gate_store (t := 26) (p := 6) (v := .tmp 99) rfl ?_); refine M.wp_rec_store rfl 26 _ _ rfl (w.heap.size + 1) 26 [.int .i64 0, .slice none 0 0, .slice none 0 0] [.int .i64 0, .slice none 0 0, .slice none 0 0] rfl rfl (M.rec_below (HD2.out) HDR.out) rfl tree_Load.size_ rfl ?_; intro w9 hA hF hB hzz; have HC3 := Aside0.mk hA; have HB3 := Aside0.mk (hB w.heap.size w (Nat.le_succ _) (below_step (HB2.out) HDR.out)); clear hA hF hB hzz))
   obtain ⟨bx1, dx1, bx2, dx2, hE, hRa, hRb, hBb⟩ := HERR.out _ HB3.out
   exact bodyPost_ret (results_ct rfl _ _ (w.heap.size + 1) 26 #[.int .i64 0, .slice none 0 0, .slice none 0 0] (0, 0) _ rfl HC3.out Tryd.underlying26 rfl tree_Load.size_) rfl ⟨bx1, dx1, bx2, dx2, (by exact hE), hRa, hRb, hBb⟩
  have x3 : (r1 != wrap64 (lv - 1)) = false := by simp [hx]
  by_cases hr0 : r2 = []
  ·replace HERR := Aside0.mk (HERR.out (by unfold tree_Child.fin; rw [if_neg (fun h => h.2.1 hr0)]))
   have x4 : ((r2.length : Int) == 0) = true := by simp [hr0]
   have x5 : decide ((r2.length : Int) = 0) = true := decide_eq_true (by simp [hr0])
   have x6 : decide (r2 = []) = true := decide_eq_true hr0
   clear hx hr0
   refine start_ (n := 42) (S := fun w' => w'.cell? ⟨w1.heap.size, 0, none⟩ = some (.int .i64 r1) ∧ w'.cell? ⟨w1.heap.size, 1, none⟩ = some (.slice B1 r2.length d1_) ∧ w'.cell? ⟨w.heap.size, 0, none⟩ = some (.int .i64 lv)) (ds := []) (M.tf [0, 42]) (by kernel_rfl) rfl rfl ⟨tX0, tX1, tY0⟩ (fun hHeld => ?_)
   refine with_tabW tree_Child.tab9 tree_Child.bits9 (fun HT_ HW_ => ?_)
   refine M.pu 0 57 [1, 41] HT_ ?_
   refine M.pu 2 59 [1, 1, 1, 39] HT_ ?_
   refine M.tk 1 58 [3, 39] HT_ HW_ hHeld ?_
   refine M.tk 3 60 [4, 38] HT_ HW_ hHeld ?_
   refine M.pu 4 61 [5, 37] HT_ ?_
   refine M.pu 5 62 [6, 36] HT_ ?_
   refine M.pu 6 63 [7, 35] HT_ ?_
   refine M.pu 7 64 [8, 34] HT_ ?_
   refine M.tk 8 65 [9, 33] HT_ HW_ hHeld ?_
   refine M.pu 9 66 [10, 32] HT_ ?_
   refine M.pu 10 67 [11, 31] HT_ ?_
   refine M.pu 11 68 [12, 30] HT_ ?_
   refine M.pu 12 69 [13, 29] HT_ ?_
   refine M.pn 13 70 [14, 28] HT_ ?_
   refine M.pn 14 71 [15, 27] HT_ ?_
   refine M.pn 15 72 [16, 26] HT_ ?_
   refine M.pn 16 73 [17, 25] HT_ ?_
   refine M.pn 17 74 [18, 24] HT_ ?_
   refine M.pn 18 75 [19, 23] HT_ ?_
   refine M.pn 19 76 [20, 22] HT_ ?_
   refine M.pn 20 77 [21, 21] HT_ ?_
   refine M.pn 21 78 [22, 20] HT_ ?_
   refine M.pu 22 79 [23, 19] HT_ ?_
   refine M.pu 23 80 [24, 18] HT_ ?_
   refine M.pn 24 81 [25, 17] HT_ ?_
   refine M.pn 25 82 [26, 16] HT_ ?_
   refine M.pn 26 83 [27, 15] HT_ ?_
   refine M.pn 27 84 [28, 14] HT_ ?_
   refine M.pn 28 85 [29, 13] HT_ ?_
   refine M.pn 29 86 [30, 12] HT_ ?_
   refine M.pn 30 87 [31, 11] HT_ ?_
   refine M.pn 31 88 [32, 10] HT_ ?_
   refine M.pu 32 89 [33, 9] HT_ ?_
   refine M.pu 33 90 [34, 8] HT_ ?_
   refine M.pn 34 91 [35, 7] HT_ ?_
   refine M.pn 35 92 [36, 6] HT_ ?_
   refine M.pn 36 93 [37, 5] HT_ ?_
   refine M.pn 37 94 [38, 4] HT_ ?_
   refine M.pn 38 95 [39, 3] HT_ ?_
   refine M.pn 39 96 [40, 2] HT_ ?_
   refine M.pn 40 97 [41, 1] HT_ ?_
   refine M.pu 41 98 [42] HT_ ?_
   refine done_ (done_of HT_.out (by kernel_rfl)) ?_
   go_wp2_with (((with_reducible refine gate_store (t := 26) (p := 6) (v := .tmp 99) rfl ?_); refine M.wp_rec_store rfl 26 _ _ rfl (w.heap.size + 1) 26 [.int .i64 0, .slice none 0 0, .slice none 0 0] [.int .i64 0, .slice none 0 0, .slice none 0 0] rfl rfl (M.rec_below (HD2.out) HDR.out) rfl tree_Load.size_ rfl ?_; intro w9 hA hF hB hzz; have HC3 := Aside0.mk hA; have HB3 := Aside0.mk (hB w.heap.size w (Nat.le_succ _) (below_step (HB2.out) HDR.out)); clear hA hF hB hzz))
   obtain ⟨bx1, dx1, bx2, dx2, hE, hRa, hRb, hBb⟩ := HERR.out _ HB3.out
   exact bodyPost_ret (results_ct rfl _ _ (w.heap.size + 1) 26 #[.int .i64 0, .slice none 0 0, .slice none 0 0] (0, 0) _ rfl HC3.out Tryd.underlying26 rfl tree_Load.size_) rfl ⟨bx1, dx1, bx2, dx2, (by exact hE), hRa, hRb, hBb⟩
  have x4 : ((r2.length : Int) == 0) = false := by simp; exact hr0
  have x5 : decide ((r2.length : Int) = 0) = false := decide_eq_false (fun h => hr0 (by cases r2 with | nil => rfl | cons a l => simp at h; omega))
  have x6 : decide (r2 = []) = false := decide_eq_false hr0
  by_cases hy : lst = key
  rotate_left
  ·replace HERR := Aside0.mk (HERR.out (by unfold tree_Child.fin; rw [if_neg (fun h => hy h.2.2.1)]))
   have y1 : (lst.toList == key.toList) = false := beq_eq_false_iff_ne.2 (fun h => hy (M.data_inj (by rw [ByteArray.toList_eq, ByteArray.toList_eq] at h; exact h)))
   clear hx
   refine start_ (n := 42) (S := fun w' => w'.cell? ⟨w1.heap.size, 0, none⟩ = some (.int .i64 r1) ∧ w'.cell? ⟨w1.heap.size, 1, none⟩ = some (.slice B1 r2.length d1_) ∧ w'.cell? ⟨w1.heap.size, 2, none⟩ = some (.slice B2 r3.length d2_) ∧ w'.cell? ⟨w.heap.size, 0, none⟩ = some (.int .i64 lv) ∧ w'.cell? ⟨w.heap.size, 1, none⟩ = some (.slice (some ad) es.length c1) ∧ w'.cell? (ad.add (k * 2)) = some (.string key)) (ds := []) (M.tf [0, 42]) (by kernel_rfl) rfl rfl ⟨tX0, tX1, tX2, tY0, tY1, tK0⟩ (fun hHeld => ?_)
   refine with_tabW tree_Child.tab9 tree_Child.bits9 (fun HT_ HW_ => ?_)
   refine M.pu 0 57 [1, 41] HT_ ?_
   refine M.pu 2 59 [1, 1, 1, 39] HT_ ?_
   refine M.tk 1 58 [3, 39] HT_ HW_ hHeld ?_
   refine M.tk 3 60 [4, 38] HT_ HW_ hHeld ?_
   refine M.pu 4 61 [5, 37] HT_ ?_
   refine M.pu 5 62 [6, 36] HT_ ?_
   refine M.pu 6 63 [7, 35] HT_ ?_
   refine M.pu 7 64 [8, 34] HT_ ?_
   refine M.tk 8 65 [9, 33] HT_ HW_ hHeld ?_
   refine M.pu 9 66 [10, 32] HT_ ?_
   refine M.pu 10 67 [11, 31] HT_ ?_
   refine M.pu 11 68 [12, 30] HT_ ?_
   refine M.pu 12 69 [13, 29] HT_ ?_
   refine M.pu 15 72 [13, 2, 1, 26] HT_ ?_
   refine M.pu 17 74 [13, 2, 1, 1, 1, 24] HT_ ?_
   refine M.tk 13 70 [14, 1, 1, 1, 1, 24] HT_ HW_ hHeld ?_
   refine M.tk 16 73 [14, 1, 3, 24] HT_ HW_ hHeld ?_
   refine M.pu 18 75 [14, 1, 4, 23] HT_ ?_
   refine M.pu 19 76 [14, 1, 5, 22] HT_ ?_
   refine M.tk 20 77 [14, 1, 6, 21] HT_ HW_ hHeld ?_
   refine one_ (i := 14) (N := some 71) (M.tf [21, 21]) rfl rfl (one_of HT_.out (by kernel_rfl)) (by decide) (fun K hK => ?_)
   refine goes_ Tryd.func33 (by kernel_rfl) rfl #[.agg #[.int .i64 r1, .slice B1 r2.length d1_, .slice B2 r3.length d2_]] (by rfl) rfl rfl (by simp only [List.map_toArray, List.map_cons, List.map_nil]; rfl) ?_
   with_reducible refine (chunk_Last.calls r1 B1 d1_ r2 B2 d2_ r3 lst _ HLa.out hc1_ HLb.out hc2_ HLST.out).mono ?_
   rintro e w3 ⟨rfl, hb3⟩
   refine ⟨_, rfl, ?_⟩
   have HB3_ := Aside0.mk hb3
   clear hb3
   refine hK.out _ _ ⟨M.hc HB3_ tX0, M.hc HB3_ tX1, M.hc HB3_ tX2, M.hc HB3_ tY0, M.hc HB3_ tY1, M.hc HB3_ tK0⟩ (fun hHeld => ?_)
   clear hK K
   refine norm_ (a' := ?_) ?_ ?_
   rotate_left
   ·show Act.put _ (some 71) _ = _
    simp only [Act.put, List.setIfInBounds_toArray, List.set_cons_zero, List.set_cons_succ, i64_w, i32_w]
    rfl
   refine M.pu 21 78 [22, 20] HT_ ?_
   refine M.pu 22 79 [23, 19] HT_ ?_
   refine M.pu 23 80 [24, 18] HT_ ?_
   refine M.pn 24 81 [25, 17] HT_ ?_
   refine M.pn 25 82 [26, 16] HT_ ?_
   refine M.pn 26 83 [27, 15] HT_ ?_
   refine M.pn 27 84 [28, 14] HT_ ?_
   refine M.pn 28 85 [29, 13] HT_ ?_
   refine M.pn 29 86 [30, 12] HT_ ?_
   refine M.pn 30 87 [31, 11] HT_ ?_
   refine M.pn 31 88 [32, 10] HT_ ?_
   refine M.pu 32 89 [33, 9] HT_ ?_
   refine M.pu 33 90 [34, 8] HT_ ?_
   refine M.pn 34 91 [35, 7] HT_ ?_
   refine M.pn 35 92 [36, 6] HT_ ?_
   refine M.pn 36 93 [37, 5] HT_ ?_
   refine M.pn 37 94 [38, 4] HT_ ?_
   refine M.pn 38 95 [39, 3] HT_ ?_
   refine M.pn 39 96 [40, 2] HT_ ?_
   refine M.pn 40 97 [41, 1] HT_ ?_
   refine M.pu 41 98 [42] HT_ ?_
   refine done_ (done_of HT_.out (by kernel_rfl)) ?_
   go_wp2_with (((with_reducible refine gate_store (t := 26) (p := 6) (v := .tmp 99) rfl ?_); refine M.wp_rec_store rfl 26 _ _ rfl (w.heap.size + 1) 26 [.int .i64 0, .slice none 0 0, .slice none 0 0] [.int .i64 0, .slice none 0 0, .slice none 0 0] rfl rfl (M.rec_below (M.rec_below (HD2.out) HDR.out) HB3_.out) rfl tree_Load.size_ rfl ?_; intro w9 hA hF hB hzz; have HC3 := Aside0.mk hA; have HB3 := Aside0.mk (hB w.heap.size w (Nat.le_succ _) (below_step (below_step (HB2.out) HDR.out) HB3_.out)); clear hA hF hB hzz))
   obtain ⟨bx1, dx1, bx2, dx2, hE, hRa, hRb, hBb⟩ := HERR.out _ HB3.out
   exact bodyPost_ret (results_ct rfl _ _ (w.heap.size + 1) 26 #[.int .i64 0, .slice none 0 0, .slice none 0 0] (0, 0) _ rfl HC3.out Tryd.underlying26 rfl tree_Load.size_) rfl ⟨bx1, dx1, bx2, dx2, (by exact hE), hRa, hRb, hBb⟩
  have y1 : (lst.toList == key.toList) = true := by simp [hy]
  by_cases hz2 : tot = ct
  rotate_left
  ·replace HERR := Aside0.mk (HERR.out (by unfold tree_Child.fin; rw [if_neg (fun h => hz2 h.2.2.2.1)]))
   have y2 : (tot != ct) = true := bne_iff_ne.2 hz2
   have y3 : (tot == ct) = false := beq_eq_false_iff_ne.2 hz2
   clear hx hy
   refine start_ (n := 42) (S := fun w' => w'.cell? ⟨w1.heap.size, 0, none⟩ = some (.int .i64 r1) ∧ w'.cell? ⟨w1.heap.size, 1, none⟩ = some (.slice B1 r2.length d1_) ∧ w'.cell? ⟨w1.heap.size, 2, none⟩ = some (.slice B2 r3.length d2_) ∧ w'.cell? ⟨w.heap.size, 0, none⟩ = some (.int .i64 lv) ∧ w'.cell? ⟨w.heap.size, 1, none⟩ = some (.slice (some ad) es.length c1) ∧ w'.cell? ⟨w.heap.size, 2, none⟩ = some (.slice (some bd) cs.length c2) ∧ w'.cell? (ad.add (k * 2)) = some (.string key) ∧ w'.cell? (bd.add k) = some (.int .i64 ct)) (ds := []) (M.tf [0, 42]) (by kernel_rfl) rfl rfl ⟨tX0, tX1, tX2, tY0, tY1, tY2, tK0, tK1⟩ (fun hHeld => ?_)
   refine with_tabW tree_Child.tab9 tree_Child.bits9 (fun HT_ HW_ => ?_)
   refine M.pu 0 57 [1, 41] HT_ ?_
   refine M.pu 2 59 [1, 1, 1, 39] HT_ ?_
   refine M.tk 1 58 [3, 39] HT_ HW_ hHeld ?_
   refine M.tk 3 60 [4, 38] HT_ HW_ hHeld ?_
   refine M.pu 4 61 [5, 37] HT_ ?_
   refine M.pu 5 62 [6, 36] HT_ ?_
   refine M.pu 6 63 [7, 35] HT_ ?_
   refine M.pu 7 64 [8, 34] HT_ ?_
   refine M.tk 8 65 [9, 33] HT_ HW_ hHeld ?_
   refine M.pu 9 66 [10, 32] HT_ ?_
   refine M.pu 10 67 [11, 31] HT_ ?_
   refine M.pu 11 68 [12, 30] HT_ ?_
   refine M.pu 12 69 [13, 29] HT_ ?_
   refine M.pu 15 72 [13, 2, 1, 26] HT_ ?_
   refine M.pu 17 74 [13, 2, 1, 1, 1, 24] HT_ ?_
   refine M.tk 13 70 [14, 1, 1, 1, 1, 24] HT_ HW_ hHeld ?_
   refine M.tk 16 73 [14, 1, 3, 24] HT_ HW_ hHeld ?_
   refine M.pu 18 75 [14, 1, 4, 23] HT_ ?_
   refine M.pu 19 76 [14, 1, 5, 22] HT_ ?_
   refine M.tk 20 77 [14, 1, 6, 21] HT_ HW_ hHeld ?_
   refine one_ (i := 14) (N := some 71) (M.tf [21, 21]) rfl rfl (one_of HT_.out (by kernel_rfl)) (by decide) (fun K hK => ?_)
   refine goes_ Tryd.func33 (by kernel_rfl) rfl #[.agg #[.int .i64 r1, .slice B1 r2.length d1_, .slice B2 r3.length d2_]] (by rfl) rfl rfl (by simp only [List.map_toArray, List.map_cons, List.map_nil]; rfl) ?_
   with_reducible refine (chunk_Last.calls r1 B1 d1_ r2 B2 d2_ r3 lst _ HLa.out hc1_ HLb.out hc2_ HLST.out).mono ?_
   rintro e w3 ⟨rfl, hb3⟩
   refine ⟨_, rfl, ?_⟩
   have HB3_ := Aside0.mk hb3
   clear hb3
   refine hK.out _ _ ⟨M.hc HB3_ tX0, M.hc HB3_ tX1, M.hc HB3_ tX2, M.hc HB3_ tY0, M.hc HB3_ tY1, M.hc HB3_ tY2, M.hc HB3_ tK0, M.hc HB3_ tK1⟩ (fun hHeld => ?_)
   clear hK K
   refine norm_ (a' := ?_) ?_ ?_
   rotate_left
   ·show Act.put _ (some 71) _ = _
    simp only [Act.put, List.setIfInBounds_toArray, List.set_cons_zero, List.set_cons_succ, i64_w, i32_w]
    rfl
   refine M.pu 21 78 [22, 20] HT_ ?_
   refine M.pu 22 79 [23, 19] HT_ ?_
   refine M.pu 23 80 [24, 18] HT_ ?_
   refine M.pu 26 83 [24, 2, 1, 15] HT_ ?_
   refine M.pu 28 85 [24, 2, 1, 1, 1, 13] HT_ ?_
   refine M.tk 24 81 [25, 1, 1, 1, 1, 13] HT_ HW_ hHeld ?_
   refine M.tk 27 84 [25, 1, 3, 13] HT_ HW_ hHeld ?_
   refine M.pu 29 86 [25, 1, 4, 12] HT_ ?_
   refine M.tk 30 87 [25, 1, 5, 11] HT_ HW_ hHeld ?_
   refine one_ (i := 25) (N := some 82) (M.tf [31, 11]) rfl rfl (one_of HT_.out (by kernel_rfl)) (by decide) (fun K hK => ?_)
   refine goes_ Tryd.func34 (by kernel_rfl) rfl #[.agg #[.int .i64 r1, .slice B1 r2.length d1_, .slice B2 r3.length d2_]] (by rfl) rfl rfl (by simp only [List.map_toArray, List.map_cons, List.map_nil]; rfl) ?_
   with_reducible refine (chunk_Total.calls kt r1 B1 d1_ r2 B2 d2_ r3 tot _ (Kd.C_below HLa.out HB3_.out) hc1_ (Kd.C_below HLb.out HB3_.out) hc2_ HTOT.out).mono ?_
   rintro e w4 ⟨rfl, hb4⟩
   refine ⟨_, rfl, ?_⟩
   have HB4_ := Aside0.mk hb4
   clear hb4
   refine hK.out _ _ ⟨M.hc HB4_ (M.hc HB3_ tX0), M.hc HB4_ (M.hc HB3_ tX1), M.hc HB4_ (M.hc HB3_ tX2), M.hc HB4_ (M.hc HB3_ tY0), M.hc HB4_ (M.hc HB3_ tY1), M.hc HB4_ (M.hc HB3_ tY2), M.hc HB4_ (M.hc HB3_ tK0), M.hc HB4_ (M.hc HB3_ tK1)⟩ (fun hHeld => ?_)
   clear hK K
   refine norm_ (a' := ?_) ?_ ?_
   rotate_left
   ·show Act.put _ (some 82) _ = _
    simp only [Act.put, List.setIfInBounds_toArray, List.set_cons_zero, List.set_cons_succ, i64_w, i32_w]
    rfl
   refine M.pu 31 88 [32, 10] HT_ ?_
   refine M.pu 32 89 [33, 9] HT_ ?_
   refine M.pu 33 90 [34, 8] HT_ ?_
   refine M.pn 34 91 [35, 7] HT_ ?_
   refine M.pn 35 92 [36, 6] HT_ ?_
   refine M.pn 36 93 [37, 5] HT_ ?_
   refine M.pn 37 94 [38, 4] HT_ ?_
   refine M.pn 38 95 [39, 3] HT_ ?_
   refine M.pn 39 96 [40, 2] HT_ ?_
   refine M.pn 40 97 [41, 1] HT_ ?_
   refine M.pu 41 98 [42] HT_ ?_
   refine done_ (done_of HT_.out (by kernel_rfl)) ?_
   go_wp2_with (((with_reducible refine gate_store (t := 26) (p := 6) (v := .tmp 99) rfl ?_); refine M.wp_rec_store rfl 26 _ _ rfl (w.heap.size + 1) 26 [.int .i64 0, .slice none 0 0, .slice none 0 0] [.int .i64 0, .slice none 0 0, .slice none 0 0] rfl rfl (M.rec_below (M.rec_below (M.rec_below (HD2.out) HDR.out) HB3_.out) HB4_.out) rfl tree_Load.size_ rfl ?_; intro w9 hA hF hB hzz; have HC3 := Aside0.mk hA; have HB3 := Aside0.mk (hB w.heap.size w (Nat.le_succ _) (below_step (below_step (below_step (HB2.out) HDR.out) HB3_.out) HB4_.out)); clear hA hF hB hzz))
   obtain ⟨bx1, dx1, bx2, dx2, hE, hRa, hRb, hBb⟩ := HERR.out _ HB3.out
   exact bodyPost_ret (results_ct rfl _ _ (w.heap.size + 1) 26 #[.int .i64 0, .slice none 0 0, .slice none 0 0] (0, 0) _ rfl HC3.out Tryd.underlying26 rfl tree_Load.size_) rfl ⟨bx1, dx1, bx2, dx2, (by exact hE), hRa, hRb, hBb⟩
  have y2 : (tot != ct) = false := by simp [hz2]
  have y3 : (tot == ct) = true := by simp [hz2]
  have hp0 : (0 : Int) < (r2.length : Int) := by cases r2 with | nil => exact absurd rfl hr0 | cons a l => simp
  have hp1 : 0 < r2.length := by omega
  obtain ⟨fk, hfk⟩ : ∃ fk, (rd_T78 r2 0).f0 = fk := ⟨_, rfl⟩
  obtain ⟨gd, hgd, g0, g1⟩ := at_T78 HLa.out 0 (by omega) hp0
  subst hgd
  rw [hfk] at g0
  have e0_ : gd.add ((0 : Int).toNat * 2) = gd := by cases gd; rfl
  have tG0 : w2.drew.cell? gd = some (.string fk) := by rw [e0_] at g0; exact g0
  clear g0 g1 e0_
  by_cases hb : Op.bytesLess lo.toList fk.toList = true
  ·replace HGOOD := Aside0.mk (HGOOD.out (by unfold tree_Child.fin; rw [if_pos ⟨hx, hr0, hy, hz2, hfk ▸ hb⟩]))
   clear hx hy hz2
   refine start_ (n := 42) (S := fun w' => w'.cell? ⟨w1.heap.size, 0, none⟩ = some (.int .i64 r1) ∧ w'.cell? ⟨w1.heap.size, 1, none⟩ = some (.slice (some gd) r2.length d1_) ∧ w'.cell? ⟨w1.heap.size, 2, none⟩ = some (.slice B2 r3.length d2_) ∧ w'.cell? ⟨w.heap.size, 0, none⟩ = some (.int .i64 lv) ∧ w'.cell? ⟨w.heap.size, 1, none⟩ = some (.slice (some ad) es.length c1) ∧ w'.cell? ⟨w.heap.size, 2, none⟩ = some (.slice (some bd) cs.length c2) ∧ w'.cell? (ad.add (k * 2)) = some (.string key) ∧ w'.cell? (bd.add k) = some (.int .i64 ct) ∧ w'.cell? gd = some (.string fk)) (ds := []) (M.tf [0, 42]) (by kernel_rfl) rfl rfl ⟨tX0, tX1, tX2, tY0, tY1, tY2, tK0, tK1, tG0⟩ (fun hHeld => ?_)
   refine with_tabW tree_Child.tab9 tree_Child.bits9 (fun HT_ HW_ => ?_)
   refine M.pu 0 57 [1, 41] HT_ ?_
   refine M.pu 2 59 [1, 1, 1, 39] HT_ ?_
   refine M.tk 1 58 [3, 39] HT_ HW_ hHeld ?_
   refine M.tk 3 60 [4, 38] HT_ HW_ hHeld ?_
   refine M.pu 4 61 [5, 37] HT_ ?_
   refine M.pu 5 62 [6, 36] HT_ ?_
   refine M.pu 6 63 [7, 35] HT_ ?_
   refine M.pu 7 64 [8, 34] HT_ ?_
   refine M.tk 8 65 [9, 33] HT_ HW_ hHeld ?_
   refine M.pu 9 66 [10, 32] HT_ ?_
   refine M.pu 10 67 [11, 31] HT_ ?_
   refine M.pu 11 68 [12, 30] HT_ ?_
   refine M.pu 12 69 [13, 29] HT_ ?_
   refine M.pu 15 72 [13, 2, 1, 26] HT_ ?_
   refine M.pu 17 74 [13, 2, 1, 1, 1, 24] HT_ ?_
   refine M.tk 13 70 [14, 1, 1, 1, 1, 24] HT_ HW_ hHeld ?_
   refine M.tk 16 73 [14, 1, 3, 24] HT_ HW_ hHeld ?_
   refine M.pu 18 75 [14, 1, 4, 23] HT_ ?_
   refine M.pu 19 76 [14, 1, 5, 22] HT_ ?_
   refine M.tk 20 77 [14, 1, 6, 21] HT_ HW_ hHeld ?_
   refine one_ (i := 14) (N := some 71) (M.tf [21, 21]) rfl rfl (one_of HT_.out (by kernel_rfl)) (by decide) (fun K hK => ?_)
   refine goes_ Tryd.func33 (by kernel_rfl) rfl #[.agg #[.int .i64 r1, .slice (some gd) r2.length d1_, .slice B2 r3.length d2_]] (by rfl) rfl rfl (by simp only [List.map_toArray, List.map_cons, List.map_nil]; rfl) ?_
   with_reducible refine (chunk_Last.calls r1 (some gd) d1_ r2 B2 d2_ r3 lst _ HLa.out hc1_ HLb.out hc2_ HLST.out).mono ?_
   rintro e w3 ⟨rfl, hb3⟩
   refine ⟨_, rfl, ?_⟩
   have HB3_ := Aside0.mk hb3
   clear hb3
   refine hK.out _ _ ⟨M.hc HB3_ tX0, M.hc HB3_ tX1, M.hc HB3_ tX2, M.hc HB3_ tY0, M.hc HB3_ tY1, M.hc HB3_ tY2, M.hc HB3_ tK0, M.hc HB3_ tK1, M.hc HB3_ tG0⟩ (fun hHeld => ?_)
   clear hK K
   refine norm_ (a' := ?_) ?_ ?_
   rotate_left
   ·show Act.put _ (some 71) _ = _
    simp only [Act.put, List.setIfInBounds_toArray, List.set_cons_zero, List.set_cons_succ, i64_w, i32_w]
    rfl
   refine M.pu 21 78 [22, 20] HT_ ?_
   refine M.pu 22 79 [23, 19] HT_ ?_
   refine M.pu 23 80 [24, 18] HT_ ?_
   refine M.pu 26 83 [24, 2, 1, 15] HT_ ?_
   refine M.pu 28 85 [24, 2, 1, 1, 1, 13] HT_ ?_
   refine M.tk 24 81 [25, 1, 1, 1, 1, 13] HT_ HW_ hHeld ?_
   refine M.tk 27 84 [25, 1, 3, 13] HT_ HW_ hHeld ?_
   refine M.pu 29 86 [25, 1, 4, 12] HT_ ?_
   refine M.tk 30 87 [25, 1, 5, 11] HT_ HW_ hHeld ?_
   refine one_ (i := 25) (N := some 82) (M.tf [31, 11]) rfl rfl (one_of HT_.out (by kernel_rfl)) (by decide) (fun K hK => ?_)
   refine goes_ Tryd.func34 (by kernel_rfl) rfl #[.agg #[.int .i64 r1, .slice (some gd) r2.length d1_, .slice B2 r3.length d2_]] (by rfl) rfl rfl (by simp only [List.map_toArray, List.map_cons, List.map_nil]; rfl) ?_
   with_reducible refine (chunk_Total.calls kt r1 (some gd) d1_ r2 B2 d2_ r3 tot _ (Kd.C_below HLa.out HB3_.out) hc1_ (Kd.C_below HLb.out HB3_.out) hc2_ HTOT.out).mono ?_
   rintro e w4 ⟨rfl, hb4⟩
   refine ⟨_, rfl, ?_⟩
   have HB4_ := Aside0.mk hb4
   clear hb4
   refine hK.out _ _ ⟨M.hc HB4_ (M.hc HB3_ tX0), M.hc HB4_ (M.hc HB3_ tX1), M.hc HB4_ (M.hc HB3_ tX2), M.hc HB4_ (M.hc HB3_ tY0), M.hc HB4_ (M.hc HB3_ tY1), M.hc HB4_ (M.hc HB3_ tY2), M.hc HB4_ (M.hc HB3_ tK0), M.hc HB4_ (M.hc HB3_ tK1), M.hc HB4_ (M.hc HB3_ tG0)⟩ (fun hHeld => ?_)
   clear hK K
   refine norm_ (a' := ?_) ?_ ?_
   rotate_left
   ·show Act.put _ (some 82) _ = _
    simp only [Act.put, List.setIfInBounds_toArray, List.set_cons_zero, List.set_cons_succ, i64_w, i32_w]
    rfl
   refine M.pu 31 88 [32, 10] HT_ ?_
   refine M.pu 32 89 [33, 9] HT_ ?_
   refine M.pu 33 90 [34, 8] HT_ ?_
   refine M.pu 34 91 [35, 7] HT_ ?_
   refine M.pu 39 96 [35, 4, 1, 2] HT_ ?_
   refine M.tk 35 92 [36, 3, 1, 2] HT_ HW_ hHeld ?_
   refine M.pu 36 93 [37, 2, 1, 2] HT_ ?_
   refine M.pu 37 94 [38, 1, 1, 2] HT_ ?_
   refine M.tk 38 95 [40, 2] HT_ HW_ hHeld ?_
   refine M.pu 40 97 [41, 1] HT_ ?_
   refine M.pu 41 98 [42] HT_ ?_
   refine done_ (done_of HT_.out (by kernel_rfl)) ?_
   have hlt1_ : w.heap.size + 1 < ((w.alloc (.cells #[.int .i64 lv, .slice (some ad) es.length c1, .slice (some bd) cs.length c2] 26)).alloc (.cells #[.int .i64 0, .slice none 0 0, .slice none 0 0] 26)).heap.size := M.rec_lt HD0.out
   go_wp2_with (first | ((with_reducible refine gate_dst (N := 100) rfl ?_); ((refine gate_guard (by rfl) ?_; dsimp only)); refine M.wp_rec_load rfl 26 _ rfl (w1.heap.size) 26 [.int .i64 r1, .slice (some gd) r2.length d1_, .slice B2 r3.length d2_] rfl (M.rec_below (M.rec_below (M.rec_below (HX2.out) HDR.out) HB3_.out) HB4_.out) _ Tryd.underlying26 rfl tree_Load.size_ ?_) | ((with_reducible refine gate_store (t := 26) (p := 6) (v := .tmp 100) rfl ?_); refine M.wp_rec_store rfl 26 _ _ rfl (w.heap.size + 1) 26 [.int .i64 0, .slice none 0 0, .slice none 0 0] [.int .i64 r1, .slice (some gd) r2.length d1_, .slice B2 r3.length d2_] rfl rfl (M.rec_below (M.rec_below (M.rec_below (HD2.out) HDR.out) HB3_.out) HB4_.out) rfl tree_Load.size_ rfl ?_; intro w9 hA hF hB hzz; have HC3 := Aside0.mk hA; have HA3 := Aside0.mk (M.row_past0 (Kd.R_below (Kd.R_below (Kd.R_below (HA2.out) HDR.out) HB3_.out) HB4_.out) hlt1_ hF); have HI3 := Aside0.mk (M.row_past0 (Kd.R_below (Kd.R_below (Kd.R_below (HI2.out) HDR.out) HB3_.out) HB4_.out) hlt1_ hF); have HB3 := Aside0.mk (hB w.heap.size w (Nat.le_succ _) (below_step (below_step (below_step (HB2.out) HDR.out) HB3_.out) HB4_.out)); clear hA hF hB hzz))
   obtain ⟨bx1, dx1, bx2, dx2, hE, hRa, hRb, hBb⟩ := (HGOOD.out _ _ _ _ _ (Kd.R_lower HA3.out (Nat.le_of_lt (Nat.lt_of_succ_lt hlt1_))) (Kd.R_lower HI3.out (Nat.le_of_lt (Nat.lt_of_succ_lt hlt1_))) HB3.out)
   exact bodyPost_ret (results_ct rfl _ _ (w.heap.size + 1) 26 #[.int .i64 r1, .slice (some gd) r2.length d1_, .slice B2 r3.length d2_] (0, 0) _ rfl HC3.out Tryd.underlying26 rfl tree_Load.size_) rfl ⟨bx1, dx1, bx2, dx2, (by exact hE), hRa, hRb, hBb⟩
  ·replace HERR := Aside0.mk (HERR.out (by unfold tree_Child.fin; rw [if_neg (fun h => hb (hfk ▸ h.2.2.2.2))]))
   have hb2 : Op.bytesLess lo.toList fk.toList = false := by simpa using hb
   clear hx hy hz2 hb
   refine start_ (n := 42) (S := fun w' => w'.cell? ⟨w1.heap.size, 0, none⟩ = some (.int .i64 r1) ∧ w'.cell? ⟨w1.heap.size, 1, none⟩ = some (.slice (some gd) r2.length d1_) ∧ w'.cell? ⟨w1.heap.size, 2, none⟩ = some (.slice B2 r3.length d2_) ∧ w'.cell? ⟨w.heap.size, 0, none⟩ = some (.int .i64 lv) ∧ w'.cell? ⟨w.heap.size, 1, none⟩ = some (.slice (some ad) es.length c1) ∧ w'.cell? ⟨w.heap.size, 2, none⟩ = some (.slice (some bd) cs.length c2) ∧ w'.cell? (ad.add (k * 2)) = some (.string key) ∧ w'.cell? (bd.add k) = some (.int .i64 ct) ∧ w'.cell? gd = some (.string fk)) (ds := []) (M.tf [0, 42]) (by kernel_rfl) rfl rfl ⟨tX0, tX1, tX2, tY0, tY1, tY2, tK0, tK1, tG0⟩ (fun hHeld => ?_)
   refine with_tabW tree_Child.tab9 tree_Child.bits9 (fun HT_ HW_ => ?_)
   refine M.pu 0 57 [1, 41] HT_ ?_
   refine M.pu 2 59 [1, 1, 1, 39] HT_ ?_
   refine M.tk 1 58 [3, 39] HT_ HW_ hHeld ?_
   refine M.tk 3 60 [4, 38] HT_ HW_ hHeld ?_
   refine M.pu 4 61 [5, 37] HT_ ?_
   refine M.pu 5 62 [6, 36] HT_ ?_
   refine M.pu 6 63 [7, 35] HT_ ?_
   refine M.pu 7 64 [8, 34] HT_ ?_
   refine M.tk 8 65 [9, 33] HT_ HW_ hHeld ?_
   refine M.pu 9 66 [10, 32] HT_ ?_
   refine M.pu 10 67 [11, 31] HT_ ?_
   refine M.pu 11 68 [12, 30] HT_ ?_
   refine M.pu 12 69 [13, 29] HT_ ?_
   refine M.pu 15 72 [13, 2, 1, 26] HT_ ?_
   refine M.pu 17 74 [13, 2, 1, 1, 1, 24] HT_ ?_
   refine M.tk 13 70 [14, 1, 1, 1, 1, 24] HT_ HW_ hHeld ?_
   refine M.tk 16 73 [14, 1, 3, 24] HT_ HW_ hHeld ?_
   refine M.pu 18 75 [14, 1, 4, 23] HT_ ?_
   refine M.pu 19 76 [14, 1, 5, 22] HT_ ?_
   refine M.tk 20 77 [14, 1, 6, 21] HT_ HW_ hHeld ?_
   refine one_ (i := 14) (N := some 71) (M.tf [21, 21]) rfl rfl (one_of HT_.out (by kernel_rfl)) (by decide) (fun K hK => ?_)
   refine goes_ Tryd.func33 (by kernel_rfl) rfl #[.agg #[.int .i64 r1, .slice (some gd) r2.length d1_, .slice B2 r3.length d2_]] (by rfl) rfl rfl (by simp only [List.map_toArray, List.map_cons, List.map_nil]; rfl) ?_
   with_reducible refine (chunk_Last.calls r1 (some gd) d1_ r2 B2 d2_ r3 lst _ HLa.out hc1_ HLb.out hc2_ HLST.out).mono ?_
   rintro e w3 ⟨rfl, hb3⟩
   refine ⟨_, rfl, ?_⟩
   have HB3_ := Aside0.mk hb3
   clear hb3
   refine hK.out _ _ ⟨M.hc HB3_ tX0, M.hc HB3_ tX1, M.hc HB3_ tX2, M.hc HB3_ tY0, M.hc HB3_ tY1, M.hc HB3_ tY2, M.hc HB3_ tK0, M.hc HB3_ tK1, M.hc HB3_ tG0⟩ (fun hHeld => ?_)
   clear hK K
   refine norm_ (a' := ?_) ?_ ?_
   rotate_left
   ·show Act.put _ (some 71) _ = _
    simp only [Act.put, List.setIfInBounds_toArray, List.set_cons_zero, List.set_cons_succ, i64_w, i32_w]
    rfl
   refine M.pu 21 78 [22, 20] HT_ ?_
   refine M.pu 22 79 [23, 19] HT_ ?_
   refine M.pu 23 80 [24, 18] HT_ ?_
   refine M.pu 26 83 [24, 2, 1, 15] HT_ ?_
   refine M.pu 28 85 [24, 2, 1, 1, 1, 13] HT_ ?_
   refine M.tk 24 81 [25, 1, 1, 1, 1, 13] HT_ HW_ hHeld ?_
   refine M.tk 27 84 [25, 1, 3, 13] HT_ HW_ hHeld ?_
   refine M.pu 29 86 [25, 1, 4, 12] HT_ ?_
   refine M.tk 30 87 [25, 1, 5, 11] HT_ HW_ hHeld ?_
   refine one_ (i := 25) (N := some 82) (M.tf [31, 11]) rfl rfl (one_of HT_.out (by kernel_rfl)) (by decide) (fun K hK => ?_)
   refine goes_ Tryd.func34 (by kernel_rfl) rfl #[.agg #[.int .i64 r1, .slice (some gd) r2.length d1_, .slice B2 r3.length d2_]] (by rfl) rfl rfl (by simp only [List.map_toArray, List.map_cons, List.map_nil]; rfl) ?_
   with_reducible refine (chunk_Total.calls kt r1 (some gd) d1_ r2 B2 d2_ r3 tot _ (Kd.C_below HLa.out HB3_.out) hc1_ (Kd.C_below HLb.out HB3_.out) hc2_ HTOT.out).mono ?_
   rintro e w4 ⟨rfl, hb4⟩
   refine ⟨_, rfl, ?_⟩
   have HB4_ := Aside0.mk hb4
   clear hb4
   refine hK.out _ _ ⟨M.hc HB4_ (M.hc HB3_ tX0), M.hc HB4_ (M.hc HB3_ tX1), M.hc HB4_ (M.hc HB3_ tX2), M.hc HB4_ (M.hc HB3_ tY0), M.hc HB4_ (M.hc HB3_ tY1), M.hc HB4_ (M.hc HB3_ tY2), M.hc HB4_ (M.hc HB3_ tK0), M.hc HB4_ (M.hc HB3_ tK1), M.hc HB4_ (M.hc HB3_ tG0)⟩ (fun hHeld => ?_)
   clear hK K
   refine norm_ (a' := ?_) ?_ ?_
   rotate_left
   ·show Act.put _ (some 82) _ = _
    simp only [Act.put, List.setIfInBounds_toArray, List.set_cons_zero, List.set_cons_succ, i64_w, i32_w]
    rfl
   refine M.pu 31 88 [32, 10] HT_ ?_
   refine M.pu 32 89 [33, 9] HT_ ?_
   refine M.pu 33 90 [34, 8] HT_ ?_
   refine M.pu 34 91 [35, 7] HT_ ?_
   refine M.pu 39 96 [35, 4, 1, 2] HT_ ?_
   refine M.tk 35 92 [36, 3, 1, 2] HT_ HW_ hHeld ?_
   refine M.pu 36 93 [37, 2, 1, 2] HT_ ?_
   refine M.pu 37 94 [38, 1, 1, 2] HT_ ?_
   refine M.tk 38 95 [40, 2] HT_ HW_ hHeld ?_
   refine M.pu 40 97 [41, 1] HT_ ?_
   refine M.pu 41 98 [42] HT_ ?_
   refine done_ (done_of HT_.out (by kernel_rfl)) ?_
   go_wp2_with (((with_reducible refine gate_store (t := 26) (p := 6) (v := .tmp 99) rfl ?_); refine M.wp_rec_store rfl 26 _ _ rfl (w.heap.size + 1) 26 [.int .i64 0, .slice none 0 0, .slice none 0 0] [.int .i64 0, .slice none 0 0, .slice none 0 0] rfl rfl (M.rec_below (M.rec_below (M.rec_below (HD2.out) HDR.out) HB3_.out) HB4_.out) rfl tree_Load.size_ rfl ?_; intro w9 hA hF hB hzz; have HC3 := Aside0.mk hA; have HB3 := Aside0.mk (hB w.heap.size w (Nat.le_succ _) (below_step (below_step (below_step (HB2.out) HDR.out) HB3_.out) HB4_.out)); clear hA hF hB hzz))
   obtain ⟨bx1, dx1, bx2, dx2, hE, hRa, hRb, hBb⟩ := HERR.out _ HB3.out
   exact bodyPost_ret (results_ct rfl _ _ (w.heap.size + 1) 26 #[.int .i64 0, .slice none 0 0, .slice none 0 0] (0, 0) _ rfl HC3.out Tryd.underlying26 rfl tree_Load.size_) rfl ⟨bx1, dx1, bx2, dx2, (by exact hE), hRa, hRb, hBb⟩
def tree_Child.tl : Int → List Int → Int
  | a, [] => a
  | a, c :: l => tree_Child.tl (wrap64 (a + c)) l
def tree_Child.total (lv : Int) (es : List S78) (cs : List Int) : Int := if lv = 0 then (es.length : Int) else tree_Child.tl 0 cs
def tree_Child.last (es : List S78) : ByteArray := if es.length = 0 then ⟨#[]⟩ else (rd_T78 es ((es.length : Int) - 1)).f0
theorem tree_Child.total_loop (cs : List Int) (hc : cs.length ≤ 20) (d : Nat) : ∀ (k i : Nat) (a : Int), i + d = cs.length → d < k → chunk_Total.l0 k a cs (cs.length : Int) (i : Int) = some (tree_Child.tl a (cs.drop i)) := by
 induction d with
 | zero =>
  intro k i a hi hk
  obtain ⟨k, rfl⟩ : ∃ m, k = m + 1 := ⟨k - 1, by omega⟩
  rw [chunk_Total.l0, if_neg (by omega), List.drop_of_length_le (by omega)]; rfl
 | succ d ih =>
  intro k i a hi hk
  obtain ⟨k, rfl⟩ : ∃ m, k = m + 1 := ⟨k - 1, by omega⟩
  have hlt : i < cs.length := by omega
  have hrd : rd cs (i : Int) = cs[i] := by simp [rd, List.getD, hlt]
  rw [chunk_Total.l0, if_pos (by omega), if_pos (by omega), if_pos (by omega), hrd, M.wrap64_id (i := (i : Int) + 1) (by omega) (by omega), show (i : Int) + 1 = ((i + 1 : Nat) : Int) from by omega, ih k (i + 1) _ (by omega) (by omega), List.drop_eq_getElem_cons hlt, tree_Child.tl]
theorem tree_Child.total_ev (lv : Int) (es : List S78) (cs : List Int) (hc : cs.length ≤ 20) : chunk_Total.f 30 lv es cs = some (tree_Child.total lv es cs) := by
 unfold chunk_Total.f tree_Child.total
 by_cases h : lv = 0
 ·rw [if_pos h, if_pos h]
 ·rw [if_neg h, if_neg h]
  exact tree_Child.total_loop cs hc cs.length 30 0 0 (by omega) (by omega)
theorem tree_Child.last_ev (lv : Int) (es : List S78) (cs : List Int) (he : es.length ≤ 20) : chunk_Last.f lv es cs = some (tree_Child.last es) := by
 unfold chunk_Last.f tree_Child.last
 by_cases h : es.length = 0
 ·rw [if_pos (by omega), if_pos h]
 ·rw [if_neg (by omega), if_neg h, M.wrap64_id (by omega) (by omega), if_pos (by omega), if_pos (by omega)]
theorem tree_Child.ok_ {s : M.SS} {nm : ByteArray} {r1 : Int} {r2 : List S78} {r3 : List Int} (h : tree_Load.at_ s nm = (r1, r2, r3, 0)) : chunk_fits.wrong r1 r2 r3 = 0 ∧ r2.length ≤ 8 ∧ r3.length ≤ 8 := by
 have hf : ∀ (t : ByteArray) (lv : Int) (r : List S78 × List Int × Int × Int), (chunk_Take.fin t lv r).2.2.2 = 0 → chunk_fits.wrong (chunk_Take.fin t lv r).1 (chunk_Take.fin t lv r).2.1 (chunk_Take.fin t lv r).2.2.1 = 0 := by
  intro t lv r h
  unfold chunk_Take.fin at h ⊢
  split
  ·rename_i hc; exact hc.2
  ·rename_i hc; rw [if_neg hc] at h; exact absurd h (show ¬ (3 : Int) = 0 by decide)
 have hw : chunk_fits.wrong r1 r2 r3 = 0 := by
  unfold tree_Load.at_ at h
  split at h
  ·unfold tree_Load.of at h
   split at h
   ·rename_i hz
    unfold chunk_Take.res at h hz
    injection h with x1 h
    injection h with x2 h
    injection h with x3 x4
    subst x1 x2 x3
    split at hz
    ·rename_i c1; simp only [if_pos c1]; exact hf _ _ _ hz
    ·rename_i c1
     split at hz
     ·rename_i c2
      split at hz
      ·exact absurd hz (show ¬ (3 : Int) = 0 by decide)
      ·rename_i c3; simp only [if_neg c1, if_pos c2, if_neg c3]; exact hf _ _ _ hz
     ·exact absurd hz (show ¬ (3 : Int) = 0 by decide)
   ·injection h with x1 h
    injection h with x2 h
    injection h with x3 x4
    exact absurd x4 (by decide)
  ·injection h with x1 h
   injection h with x2 h
   injection h with x3 x4
   exact absurd x4 (by decide)
 obtain ⟨_, _, h8, hcn, hc0, _⟩ := chunk_fits.wrong_ok hw
 refine ⟨hw, h8, ?_⟩
 by_cases hl : r1 > 0
 ·rw [(hcn hl).1]; exact h8
 ·rw [hc0 (by omega)]; simp
def tree_Child.of (s : M.SS) (lv : Int) (es : List S78) (cs : List Int) (i : Int) : Int × List S78 × List Int × Int :=
  if lv < 1 ∨ i < 0 ∨ (es.length : Int) ≤ i ∨ (cs.length : Int) ≤ i then (0, [], [], 8)
  else if (tree_Load.at_ s (rd_T78 es i).f1).2.2.2 = 0 then
    tree_Child.fin lv (rd_T78 es i).f0 (if i = 0 then ⟨#[]⟩ else (rd_T78 es (i - 1)).f0) (rd cs i) (tree_Load.at_ s (rd_T78 es i).f1).1 (tree_Load.at_ s (rd_T78 es i).f1).2.1 (tree_Load.at_ s (rd_T78 es i).f1).2.2.1
      (tree_Child.last (tree_Load.at_ s (rd_T78 es i).f1).2.1) (tree_Child.total (tree_Load.at_ s (rd_T78 es i).f1).1 (tree_Load.at_ s (rd_T78 es i).f1).2.1 (tree_Load.at_ s (rd_T78 es i).f1).2.2.1)
  else (0, [], [], 16)
theorem tree_Load.er_ (s : M.SS) (nm : ByteArray) : (tree_Load.at_ s nm).2.2.2 = 0 ∨ tree_Load.at_ s nm = (0, [], [], 16) := by
 unfold tree_Load.at_
 split
 ·unfold tree_Load.of
  split
  ·exact .inl rfl
  ·exact .inr rfl
 ·exact .inr rfl
theorem tree_Child.any (base g : Nat) (F : Nat → Prop) (s : M.SS) (lv : Int) (A1 : Option Addr) (c1 : Nat) (es : List S78) (A2 : Option Addr) (c2 : Nat) (cs : List Int) (i : Int) (w : World) (hS : M.Sh Tryd.prog base w g F s) (hts : ∀ t ∈ s.ts, t.size ≤ 1000000000000) (h1 : Kd.C k78 w A1 es.length es) (h2 : Kd.C (Kd.int .i64) w A2 cs.length cs) (hes : ∀ e ∈ es, e.f1.size ≤ 9223372036854775807) (h63 : es.length ≤ 9223372036854775807) (p1r : Int) (p2r : List S78) (p3r : List Int) (p4r : Int) (hq : tree_Child.of s lv es cs i = (p1r, p2r, p3r, p4r)) :
    Calls Tryd.prog 9 #[.pointer (some ⟨g, 0, none⟩), .agg #[.int .i64 lv, .slice A1 es.length c1, .slice A2 cs.length c2], .int .i64 i] w fun e w' => ∃ B1 d1_ B2 d2_, e = .returned (.tuple #[.agg #[.int .i64 p1r, .slice B1 p2r.length d1_, .slice B2 p3r.length d2_], .int .i64 p4r]) ∧ Kd.R k78 78 w' w.heap.size (fun _ => True) (.slice B1 p2r.length d1_) p2r ∧ Kd.R (Kd.int .i64) 3 w' w.heap.size (fun _ => True) (.slice B2 p3r.length d2_) p3r ∧ Below w.heap.size w w' := by
 have hout : ∀ er : Int, (0, [], [], er) = (p1r, p2r, p3r, p4r) → (Calls Tryd.prog 9 #[.pointer (some ⟨g, 0, none⟩), .agg #[.int .i64 lv, .slice A1 es.length c1, .slice A2 cs.length c2], .int .i64 i] w fun e w' => e = .returned (.tuple #[.agg #[.int .i64 0, .slice none 0 0, .slice none 0 0], .int .i64 er]) ∧ Below w.heap.size w w') → Calls Tryd.prog 9 #[.pointer (some ⟨g, 0, none⟩), .agg #[.int .i64 lv, .slice A1 es.length c1, .slice A2 cs.length c2], .int .i64 i] w fun e w' => ∃ B1 d1_ B2 d2_, e = .returned (.tuple #[.agg #[.int .i64 p1r, .slice B1 p2r.length d1_, .slice B2 p3r.length d2_], .int .i64 p4r]) ∧ Kd.R k78 78 w' w.heap.size (fun _ => True) (.slice B1 p2r.length d1_) p2r ∧ Kd.R (Kd.int .i64) 3 w' w.heap.size (fun _ => True) (.slice B2 p3r.length d2_) p3r ∧ Below w.heap.size w w' := by
  intro er e1 e2
  injection e1 with x1 e1
  injection e1 with x2 e1
  injection e1 with x3 x4
  subst x1 x2 x3 x4
  refine e2.mono ?_
  rintro e w' ⟨rfl, hb⟩
  exact ⟨none, 0, none, 0, rfl, Kd.R_nil _ _ _ _ _, Kd.R_nil _ _ _ _ _, hb⟩
 unfold tree_Child.of at hq
 by_cases x1 : lv < 1
 ·rw [if_pos (.inl x1)] at hq
  exact hout 8 hq (tree_Child.out1 base g F s lv A1 c1 es A2 c2 cs i w x1)
 by_cases x2 : i < 0
 ·rw [if_pos (.inr (.inl x2))] at hq
  exact hout 8 hq (tree_Child.out2 base g F s lv A1 c1 es A2 c2 cs i w x1 x2)
 by_cases x3 : (es.length : Int) ≤ i
 ·rw [if_pos (.inr (.inr (.inl x3)))] at hq
  exact hout 8 hq (tree_Child.out3 base g F s lv A1 c1 es A2 c2 cs i w x1 x2 x3)
 by_cases x4 : (cs.length : Int) ≤ i
 ·rw [if_pos (.inr (.inr (.inr x4)))] at hq
  exact hout 8 hq (tree_Child.out4 base g F s lv A1 c1 es A2 c2 cs i w x1 x2 x3 x4)
 rw [if_neg (fun h => h.elim x1 fun h => h.elim x2 fun h => h.elim x3 x4)] at hq
 obtain ⟨k, rfl⟩ : ∃ k : Nat, i = k := ⟨i.toNat, by omega⟩
 have hk1 : k < es.length := by omega
 have hk2 : k < cs.length := by omega
 have hz : (rd_T78 es (k : Int)).f1.size ≤ 9223372036854775807 := by
  have hrd : rd_T78 es (k : Int) = es[k] := by simp [rd_T78, List.getD, hk1]
  rw [hrd]
  exact hes _ (List.getElem_mem hk1)
 obtain ⟨⟨r1, r2, r3, er⟩, hld⟩ : ∃ y, tree_Load.at_ s (rd_T78 es (k : Int)).f1 = y := ⟨_, rfl⟩
 rw [hld] at hq
 simp only at hq
 by_cases he : er = 0
 ·rw [if_pos he] at hq
  have hok := tree_Child.ok_ (he ▸ hld)
  refine tree_Child.in_ base g F s lv A1 c1 es A2 c2 cs k w hS hts h1 h2 x1 hk1 hk2 _ _ _ rfl rfl rfl hz r1 r2 r3 er hld he h63 _ (fun h0 => if_pos (by omega)) (fun m hm => ?_) _ (tree_Child.last_ev r1 r2 r3 (by omega)) 30 _ (tree_Child.total_ev r1 r2 r3 (by omega)) p1r p2r p3r p4r hq
  rw [if_neg (by omega), show (k : Int) - 1 = (m : Int) from by omega]
 ·rw [if_neg he] at hq
  have her : er = 16 := by
   rcases tree_Load.er_ s (rd_T78 es (k : Int)).f1 with h | h
   ·rw [hld] at h; exact absurd h he
   ·rw [hld] at h
    injection h with y1 h
    injection h with y2 h
    injection h with y3 y4
  subst her
  exact hout 16 hq (tree_Child.rot base g F s lv A1 c1 es A2 c2 cs k w hS hts h1 h2 x1 hk1 hk2 _ _ _ rfl rfl rfl hz r1 r2 r3 16 hld he)
def pleachref16_Get_p.l0 : Nat → ByteArray → Int → List ByteArray → List ByteArray → ByteArray → ByteArray → Option (ByteArray × Bool)
  | 0, _, _, _, _, _, _ => none
  | k + 1, x1, x6, zaa, zab, zac, zad => if x6 < (zaa.length : Int) then (if 0 ≤ x6 then (if x6 < (zab.length : Int) then (if (rdOf ByteArray.empty zab x6).toList = x1.toList then (some (rdOf ByteArray.empty zaa x6, true)) else (pleachref16_Get_p.l0 k x1 (wrap64 (x6 + 1)) zaa zab zac zad)) else (none)) else (none)) else (some ((⟨#[]⟩ : ByteArray), false))
def pleachref16_Get_p.f (k : Nat) (l0_0 : List ByteArray) (l0_1 : List ByteArray) (a0_2 : ByteArray) (a0_3 : ByteArray) (a1 : ByteArray) : Option (ByteArray × Bool) := pleachref16_Get_p.l0 k a1 0 l0_0 l0_1 a0_2 a0_3
theorem pleachref16_Get_p.mono_l : ∀ k, (∀ y0 y1 y2 y3 y4 y5, LeO (pleachref16_Get_p.l0 k y0 y1 y2 y3 y4 y5) (pleachref16_Get_p.l0 (k + 1) y0 y1 y2 y3 y4 y5))
  | 0 => fun _ _ _ _ _ _ r h => by simp [pleachref16_Get_p.l0] at h
  | k + 1 => by
    have ih0 := pleachref16_Get_p.mono_l k
    · intro y0 y1 y2 y3 y4 y5
      unfold pleachref16_Get_p.l0
      repeat' first
      | (with_reducible exact ih0 _ _ _ _ _ _)
      | (with_reducible exact LeO.refl _)
      | (with_reducible refine LeO.ite ?_ ?_)
theorem pleachref16_Get_p.mono : ∀ a0 a1 a2 a3 a4 k, LeO (pleachref16_Get_p.f k a0 a1 a2 a3 a4) (pleachref16_Get_p.f (k + 1) a0 a1 a2 a3 a4) := by
 intro a0 a1 a2 a3 a4 k
 have ih0 := pleachref16_Get_p.mono_l k
 unfold pleachref16_Get_p.f
 repeat' (with_reducible exact ih0 _ _ _ _ _ _)
set_option maxHeartbeats 8000000 in
set_option maxRecDepth 100000 in
theorem pleachref16_Get_p.calls (k : Nat) (A0_0 : Option Addr) (c0_0 : Nat) (l0_0 : List ByteArray) (A0_1 : Option Addr) (c0_1 : Nat) (l0_1 : List ByteArray) (a0_2 : ByteArray) (a0_3 : ByteArray) (a1 : ByteArray) (r1 : ByteArray) (r2 : Bool) (w : World) (hr0_0 : Kd.C Kd.string w A0_0 l0_0.length l0_0) (hc0_0 : l0_0.length ≤ c0_0) (hr0_1 : Kd.C Kd.string w A0_1 l0_1.length l0_1) (hc0_1 : l0_1.length ≤ c0_1) (h : pleachref16_Get_p.f k l0_0 l0_1 a0_2 a0_3 a1 = some (r1, r2)) :
    Calls Tryd.prog 36 #[.agg #[.slice A0_0 l0_0.length c0_0, .slice A0_1 l0_1.length c0_1, .string a0_2, .string a0_3], .string a1] w fun e w' => e = .returned (.tuple #[.string r1, .bool r2]) ∧ Below w.heap.size w w' := by
 have hu31 := Tryd.underlying31
 have HR0_0 := Aside0.mk hr0_0
 have HC0_0 := Aside0.mk hc0_0
 clear hr0_0 hc0_0
 have HR0_1 := Aside0.mk hr0_1
 have HC0_1 := Aside0.mk hc0_1
 clear hr0_1 hc0_1
 have HB := Aside0.mk (Below.refl w.heap.size w)
 have H : (pleachref16_Get_p.l0 k a1 0 l0_0 l0_1 a0_2 a0_3) = some (r1, r2) := h
 clear h
 have H' := Aside0.mk H
 clear H
 go_enter Tryd.func36, Tryd.ntmps36
 go_wp2_with (((with_reducible refine gate_dst (N := 2) rfl ?_); refine M.bx 2 31 (#[.slice A0_0 l0_0.length c0_0, .slice A0_1 l0_1.length c0_1, .string a0_2, .string a0_3]) ?_; intro zae hg w3 hbox hb; have zaf := Aside0.mk (hbox); have zag := M.upG HB hg; have zah := M.upG HB hg; replace HB := M.upS HB hb; clear hb hbox hg))
 go_loopg [6] k (fun kq v6 w' => ∃ (x6_1 : Int), v6 = .int .i64 x6_1 ∧ Aside0 (pleachref16_Get_p.l0 kq a1 x6_1 l0_0 l0_1 a0_2 a0_3 = some (r1, r2)) ∧ Aside0 (kq ≤ k) ∧ Aside0 (w'.heap[zae]? = some (.cells #[(.slice A0_0 l0_0.length c0_0), (.slice A0_1 l0_1.length c0_1), .string a0_2, .string a0_3] 31 (0, 0))) ∧ Aside0 (Below w.heap.size w w'))
 case atStart => exact ⟨(0), M.eqv, H', ⟨Nat.le_refl _⟩, ⟨M.bk zaf⟩, ⟨M.up HB⟩⟩
 case round =>
  clear H'
  obtain ⟨x6_1, rfl, HA, HK1, zaf, HB⟩ := hrel
  cases gk with
  | zero => exact absurd HA.out (by simp [pleachref16_Get_p.l0])
  | succ k1 =>
   have H := HA.out
   clear HA
   simp only [pleachref16_Get_p.l0] at H
   by_cases c4 : x6_1 < (l0_0.length : Int)
   ·rw [if_pos c4] at H
    have c4b0 := decide_eq_true c4
    clear c4
    by_cases c5 : 0 ≤ x6_1
    ·rw [if_pos c5] at H
     have c5b0 := decide_eq_true c5
     clear c5
     by_cases c6 : x6_1 < (l0_1.length : Int)
     ·rw [if_pos c6] at H
      have c6b0 := decide_eq_true c6
      clear c6
      by_cases c7 : (rdOf ByteArray.empty l0_1 x6_1).toList = a1.toList
      ·rw [if_pos c7] at H
       have c7b0 : ((rdOf ByteArray.empty l0_1 x6_1).toList == a1.toList) = true := beq_iff_eq.mpr c7
       have c7b1 : ((rdOf ByteArray.empty l0_1 x6_1).toList != a1.toList) = false := bne_eq_false_iff_eq.mpr c7
       clear c7
       simp only [Option.some.injEq, Prod.mk.injEq] at H
       obtain ⟨rfl, rfl⟩ := H
       have zai : wr.cell? ⟨zae, 0, none⟩ = some (.slice A0_0 l0_0.length c0_0) := (blk_cell zaf.out 0).trans rfl
       have zaj : wr.cell? ⟨zae, 1, none⟩ = some (.slice A0_1 l0_1.length c0_1) := (blk_cell zaf.out 1).trans rfl
       have zak : wr.cell? ⟨zae, 2, none⟩ = some (.string a0_2) := (blk_cell zaf.out 2).trans rfl
       have zal : wr.cell? ⟨zae, 3, none⟩ = some (.string a0_3) := (blk_cell zaf.out 3).trans rfl
       have zam := blk_frozen zaf.out 0
       have zan := blk_frozen zaf.out 1
       have zao := blk_frozen zaf.out 2
       have zap := blk_frozen zaf.out 3
       have p278 : 0 ≤ (x6_1 : Int) := M.dt
       have q278 : x6_1 < (l0_1.length : Int) := M.dt
       obtain ⟨ad278, e278, hx278_0⟩ := Kd.at_string HR0_1.out x6_1 p278 q278
       cases e278
       replace hx278_0 := M.hc HB hx278_0
       replace p278 := eq_true p278
       replace q278 := eq_true q278
       have p279 : 0 ≤ (x6_1 : Int) := M.dt
       have q279 : x6_1 < (l0_0.length : Int) := M.dt
       obtain ⟨ad279, e279, hx279_0⟩ := Kd.at_string HR0_0.out x6_1 p279 q279
       cases e279
       replace hx279_0 := M.hc HB hx279_0
       replace p279 := eq_true p279
       replace q279 := eq_true q279
       go_wp2
       go_ret2
       exact M.fin (M.up HB)
      ·rw [if_neg c7] at H
       have c7b0 : ((rdOf ByteArray.empty l0_1 x6_1).toList == a1.toList) = false := beq_eq_false_iff_ne.mpr c7
       have c7b1 : ((rdOf ByteArray.empty l0_1 x6_1).toList != a1.toList) = true := bne_iff_ne.mpr c7
       have H' := Aside0.mk H
       clear H
       have zaq : wr.cell? ⟨zae, 0, none⟩ = some (.slice A0_0 l0_0.length c0_0) := (blk_cell zaf.out 0).trans rfl
       have zar : wr.cell? ⟨zae, 1, none⟩ = some (.slice A0_1 l0_1.length c0_1) := (blk_cell zaf.out 1).trans rfl
       have zas : wr.cell? ⟨zae, 2, none⟩ = some (.string a0_2) := (blk_cell zaf.out 2).trans rfl
       have zat : wr.cell? ⟨zae, 3, none⟩ = some (.string a0_3) := (blk_cell zaf.out 3).trans rfl
       have zau := blk_frozen zaf.out 0
       have zav := blk_frozen zaf.out 1
       have zaw := blk_frozen zaf.out 2
       have zax := blk_frozen zaf.out 3
       have p278 : 0 ≤ (x6_1 : Int) := M.dt
       have q278 : x6_1 < (l0_1.length : Int) := M.dt
       obtain ⟨ad278, e278, hx278_0⟩ := Kd.at_string HR0_1.out x6_1 p278 q278
       cases e278
       replace hx278_0 := M.hc HB hx278_0
       replace p278 := eq_true p278
       replace q278 := eq_true q278
       go_wp2
       go_roundg k1
       case measure => have := HK1.out; omega
       case rel => exact ⟨(wrap64 (x6_1 + 1)), M.eqv, H', ⟨by have := HK1.out; omega⟩, ⟨M.bk zaf⟩, ⟨M.up HB⟩⟩
     ·exact M.nf c6 H
    ·exact M.nf c5 H
   ·rw [if_neg c4] at H
    have c4b0 := decide_eq_false c4
    clear c4
    simp only [Option.some.injEq, Prod.mk.injEq] at H
    obtain ⟨rfl, rfl⟩ := H
    have zay : wr.cell? ⟨zae, 0, none⟩ = some (.slice A0_0 l0_0.length c0_0) := (blk_cell zaf.out 0).trans rfl
    have zaz : wr.cell? ⟨zae, 1, none⟩ = some (.slice A0_1 l0_1.length c0_1) := (blk_cell zaf.out 1).trans rfl
    have zaA : wr.cell? ⟨zae, 2, none⟩ = some (.string a0_2) := (blk_cell zaf.out 2).trans rfl
    have zaB : wr.cell? ⟨zae, 3, none⟩ = some (.string a0_3) := (blk_cell zaf.out 3).trans rfl
    have zaC := blk_frozen zaf.out 0
    have zaD := blk_frozen zaf.out 1
    have zaE := blk_frozen zaf.out 2
    have zaF := blk_frozen zaf.out 3
    go_wp2
    go_ret2
    exact M.fin (M.up HB)
def pleachref16_Get.f (l0 l1 : List ByteArray) (a b name : ByteArray) : Option (ByteArray × Bool) := if l1 = l0.map M.shaSum ∧ l0.length ≤ 1000000000000 then some ((⟨l0, a, b⟩ : M.SS).get name) else none
theorem pleachref16_Get.loop (ts : List ByteArray) (a b name : ByteArray) (hl : ts.length ≤ 1000000000000) (d : Nat) : ∀ i : Nat, i + d = ts.length → (∀ j, j < i → (ts.map M.shaSum).getD j ByteArray.empty ≠ name) →
    pleachref16_Get_p.l0 (d + 1) name (i : Int) ts (ts.map M.shaSum) a b = some ((⟨ts, a, b⟩ : M.SS).get name) := by
 induction d with
 | zero =>
  intro i hi hb
  have hn : M.idx (ts.map M.shaSum) name.data.toList = none := by
   cases hq : M.idx (ts.map M.shaSum) name.data.toList with
   | none => rfl
   | some j =>
    have h1 := M.idx_lt hq
    rw [List.length_map] at h1
    exact absurd (M.data_inj h1.2) (hb j (by omega))
  rw [pleachref16_Get_p.l0, if_neg (by omega)]
  unfold M.SS.get
  simp only [hn]
  rfl
 | succ d ih =>
  intro i hi hb
  have hlt : i < ts.length := by omega
  have hlm : i < (ts.map M.shaSum).length := by rw [List.length_map]; exact hlt
  have hrd : rdOf ByteArray.empty ts (i : Int) = ts.getD i ByteArray.empty := by simp [rdOf]
  have hrd' : rdOf ByteArray.empty (ts.map M.shaSum) (i : Int) = (ts.map M.shaSum).getD i ByteArray.empty := by simp [rdOf]
  rw [pleachref16_Get_p.l0, if_pos (by omega), if_pos (by omega), if_pos (by rw [List.length_map]; omega), hrd, hrd', M.toList_bs, M.toList_bs]
  by_cases h : (ts.map M.shaSum).getD i ByteArray.empty = name
  ·have hs : M.idx (ts.map M.shaSum) name.data.toList = some i := by
    unfold M.idx
    rw [List.findIdx?_eq_some_iff_getElem]
    refine ⟨hlm, ?_, ?_⟩
    ·rw [← h]; simp [List.getD, hlt]
    ·intro j hj
     have := hb j hj
     simp only [decide_eq_true_eq]
     intro e
     refine this ?_
     have e2 := M.data_inj e
     rw [← e2, List.getD_eq_getElem?_getD, List.getElem?_eq_getElem (by omega), Option.getD_some]
   rw [if_pos (by rw [h])]
   unfold M.SS.get
   simp only [hs]
  ·rw [if_neg (fun z => h (M.bs_inj z)), M.wrap64_id (by omega) (by omega), show (i : Int) + 1 = ((i + 1 : Nat) : Int) from by omega]
   refine ih (i + 1) (by omega) ?_
   intro j hj
   rcases Nat.lt_or_ge j i with q | q
   ·exact hb j q
   ·obtain rfl : j = i := by omega
    exact h
theorem pleachref16_Get.ev (l0 l1 : List ByteArray) (a b name : ByteArray) (r : ByteArray × Bool) (h : pleachref16_Get.f l0 l1 a b name = some r) : ∃ k, pleachref16_Get_p.f k l0 l1 a b name = some r := by
 unfold pleachref16_Get.f at h
 split at h
 case isFalse => cases h
 case isTrue hh =>
  refine ⟨l0.length + 1, ?_⟩
  rw [← h, hh.1]
  exact pleachref16_Get.loop l0 a b name hh.2 l0.length 0 (by omega) (fun j hj => absurd hj (by omega))
theorem pleachref16_Get.calls (A0_0 : Option Addr) (c0_0 : Nat) (l0_0 : List ByteArray) (A0_1 : Option Addr) (c0_1 : Nat) (l0_1 : List ByteArray) (a0_2 : ByteArray) (a0_3 : ByteArray) (a1 : ByteArray) (r1 : ByteArray) (r2 : Bool) (w : World) (hr0_0 : Kd.C Kd.string w A0_0 l0_0.length l0_0) (hc0_0 : l0_0.length ≤ c0_0) (hr0_1 : Kd.C Kd.string w A0_1 l0_1.length l0_1) (hc0_1 : l0_1.length ≤ c0_1) (h : pleachref16_Get.f l0_0 l0_1 a0_2 a0_3 a1 = some (r1, r2)) :
    Calls Tryd.prog 36 #[.agg #[.slice A0_0 l0_0.length c0_0, .slice A0_1 l0_1.length c0_1, .string a0_2, .string a0_3], .string a1] w fun e w' => e = .returned (.tuple #[.string r1, .bool r2]) ∧ Below w.heap.size w w' := by
 obtain ⟨k, hk⟩ := pleachref16_Get.ev _ _ _ _ _ _ h
 exact pleachref16_Get_p.calls (k := k) (w := w) (h := hk) (hr0_0 := hr0_0) (hc0_0 := hc0_0) (hr0_1 := hr0_1) (hc0_1 := hc0_1)
end Go.Proofs.YtopllfdjlbnmfaaDoor.ETreeChildren
