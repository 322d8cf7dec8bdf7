-- Written by this session's own program (wip/tools/ext.py) for this claim; Lean checks it.
import Derived.Test.YtccekjebfafgcaaDoorEShelfApartx0
import Derived.Test.YtccekjebfafgcaaDoorEShelfApartx2
import Derived.Test.YtccekjebfafgcaaDoorEShelfApartx5
import Derived.Test.YtccekjebfafgcaaDoorEShelfApartx6
namespace Go.Proofs.YtccekjebfafgcaaDoor.EShelfApart
open Go.RowKit Go.Proofs.YtccekjebfafgcaaDoorW.PrintWords Go.Proofs.YtccekjebfafgcaaDoorW.PrintLast Go.Proofs.YtccekjebfafgcaaDoorW.PrintMore
attribute [local go_sem] M.run_leq M.run_gtr M.run_geq max2_int min2_int max_two min_two max_three min_three max_four min_four   -- for this text's walks alone
set_option linter.unusedVariables false
set_option linter.unusedSimpArgs false

/-! ### pleachref16_Put: function 32 -/
theorem pleachref16_Put.size_ : (Tryd.prog.info? 41).map (·.size) = some 4 := by kernel_rfl
def pleachref16_Put.zero_ : List Value := [.slice none 0 0, .slice none 0 0, .string ⟨#[]⟩, .string ⟨#[]⟩]
def pleachref16_Put.rec_ (A0 A1 : Option Addr) (n c0 c1 : Nat) (a b : ByteArray) : List Value := [.slice A0 n c0, .slice A1 n c1, .string a, .string b]
/-- The world behind the argument's cell and the result's. -/
def pleachref16_Put.W0 (A0 A1 : Option Addr) (n c0 c1 : Nat) (a b : ByteArray) (w : World) : World := (w.alloc (.cells #[.slice A0 n c0, .slice A1 n c1, .string a, .string b] 41)).alloc (.cells #[.slice none 0 0, .slice none 0 0, .string ⟨#[]⟩, .string ⟨#[]⟩] 41)
theorem pleachref16_Put.c2 (A0 A1 : Option Addr) (n c0 c1 : Nat) (a b : ByteArray) (w : World) : M.rec_ (pleachref16_Put.W0 A0 A1 n c0 c1 a b w) w.heap.size 41 [.slice A0 n c0, .slice A1 n c1, .string a, .string b] := M.rec_alloc (M.rec_new w 41 [.slice A0 n c0, .slice A1 n c1, .string a, .string b]) _
theorem pleachref16_Put.c4 (A0 A1 : Option Addr) (n c0 c1 : Nat) (a b : ByteArray) (w : World) : M.rec_ (pleachref16_Put.W0 A0 A1 n c0 c1 a b w) (w.heap.size + 1) 41 [.slice none 0 0, .slice none 0 0, .string ⟨#[]⟩, .string ⟨#[]⟩] := by
  have := M.rec_new (w.alloc (.cells #[.slice A0 n c0, .slice A1 n c1, .string a, .string b] 41)) 41 [.slice none 0 0, .slice none 0 0, .string ⟨#[]⟩, .string ⟨#[]⟩]
  have e : (w.alloc (.cells #[.slice A0 n c0, .slice A1 n c1, .string a, .string b] 41)).heap.size = w.heap.size + 1 := by simp
  rw [e] at this
  exact this
theorem pleachref16_Put.b0 (A0 A1 : Option Addr) (n c0 c1 : Nat) (a b : ByteArray) (w : World) : Below w.heap.size w (pleachref16_Put.W0 A0 A1 n c0 c1 a b w) := below_alloc (below_alloc (Below.refl _ _) _) _
set_option maxHeartbeats 8000000 in
set_option maxRecDepth 100000 in
theorem pleachref16_Put.empty (A0 A1 : Option Addr) (n c0 c1 : Nat) (a b t : ByteArray) (w : World)  :
    Calls Tryd.prog 32 #[.agg #[.slice A0 n c0, .slice A1 n c1, .string a, .string b], .string ByteArray.empty] w fun e w' => e = .returned (.tuple #[.agg #[.slice A0 n c0, .slice A1 n c1, .string a, .string b], .string ByteArray.empty, .int .i64 2]) ∧ Below w.heap.size w w' := by
  have HC2 := Aside0.mk (pleachref16_Put.c2 A0 A1 n c0 c1 a b w)
  have HC4 := Aside0.mk (pleachref16_Put.c4 A0 A1 n c0 c1 a b w)
  have HB0 := Aside0.mk (pleachref16_Put.b0 A0 A1 n c0 c1 a b w)
  unfold pleachref16_Put.W0 at HC2 HC4 HB0
  have hd : (ByteArray.empty : ByteArray).toList.isEmpty = true := by decide +kernel
  go_enter Tryd.func32, Tryd.ntmps32
  go_wp2_with (first | ((with_reducible refine gate_dst (N := 11) rfl ?_); (try (refine gate_guard (by rfl) ?_; dsimp only)); refine M.wp_rec_load rfl 41 _ rfl w.heap.size 41 [.slice A0 n c0, .slice A1 n c1, .string a, .string b] rfl HC2.out _ Tryd.underlying41 rfl pleachref16_Put.size_ ?_) | ((with_reducible refine gate_store (t := 41) (p := 4) (v := .tmp 11) rfl ?_); refine M.wp_rec_store rfl 41 _ _ rfl (w.heap.size + 1) 41 [.slice none 0 0, .slice none 0 0, .string ⟨#[]⟩, .string ⟨#[]⟩] [.slice A0 n c0, .slice A1 n c1, .string a, .string b] rfl rfl HC4.out rfl pleachref16_Put.size_ rfl ?_; intro w4 hA4 hF4 hB4 hz4; have HB4 := Aside0.mk (hB4 _ _ (Nat.le_succ _) HB0.out); have HA4 := Aside0.mk hA4; clear hA4 hF4 hB4 hz4))
  exact bodyPost_ret (results_ctt rfl _ _ (w.heap.size + 1) 41 #[.slice A0 n c0, .slice A1 n c1, .string a, .string b] (0, 0) _ rfl HA4.out Tryd.underlying41 rfl pleachref16_Put.size_) rfl ⟨rfl, HB4.out⟩
set_option maxHeartbeats 8000000 in
set_option maxRecDepth 100000 in
theorem pleachref16_Put.long (A0 A1 : Option Addr) (n c0 c1 : Nat) (a b t : ByteArray) (w : World) (ht : 65536 < t.size) :
    Calls Tryd.prog 32 #[.agg #[.slice A0 n c0, .slice A1 n c1, .string a, .string b], .string t] w fun e w' => e = .returned (.tuple #[.agg #[.slice A0 n c0, .slice A1 n c1, .string a, .string b], .string ByteArray.empty, .int .i64 5]) ∧ Below w.heap.size w w' := by
  have HC2 := Aside0.mk (pleachref16_Put.c2 A0 A1 n c0 c1 a b w)
  have HC4 := Aside0.mk (pleachref16_Put.c4 A0 A1 n c0 c1 a b w)
  have HB0 := Aside0.mk (pleachref16_Put.b0 A0 A1 n c0 c1 a b w)
  unfold pleachref16_Put.W0 at HC2 HC4 HB0
  have hd : t.toList.isEmpty = false := M.nonempty (fun e => by rw [e] at ht; exact absurd ht (by decide))
  have hdd : decide ((65536 : Int) < (t.size : Int)) = true := decide_eq_true (by omega)
  go_enter Tryd.func32, Tryd.ntmps32
  go_wp2_with (first | ((with_reducible refine gate_dst (N := 15) rfl ?_); (try (refine gate_guard (by rfl) ?_; dsimp only)); refine M.wp_rec_load rfl 41 _ rfl w.heap.size 41 [.slice A0 n c0, .slice A1 n c1, .string a, .string b] rfl HC2.out _ Tryd.underlying41 rfl pleachref16_Put.size_ ?_) | ((with_reducible refine gate_store (t := 41) (p := 4) (v := .tmp 15) rfl ?_); refine M.wp_rec_store rfl 41 _ _ rfl (w.heap.size + 1) 41 [.slice none 0 0, .slice none 0 0, .string ⟨#[]⟩, .string ⟨#[]⟩] [.slice A0 n c0, .slice A1 n c1, .string a, .string b] rfl rfl HC4.out rfl pleachref16_Put.size_ rfl ?_; intro w4 hA4 hF4 hB4 hz4; have HB4 := Aside0.mk (hB4 _ _ (Nat.le_succ _) HB0.out); have HA4 := Aside0.mk hA4; clear hA4 hF4 hB4 hz4))
  exact bodyPost_ret (results_ctt rfl _ _ (w.heap.size + 1) 41 #[.slice A0 n c0, .slice A1 n c1, .string a, .string b] (0, 0) _ rfl HA4.out Tryd.underlying41 rfl pleachref16_Put.size_) rfl ⟨rfl, HB4.out⟩
/- PLACES -/
set_option maxHeartbeats 8000000 in
set_option maxRecDepth 100000 in
theorem pleachref16_Put.met (A0 A1 : Option Addr) (c0 c1 : Nat) (a b t : ByteArray) (ts : List ByteArray) (w : World) (hts : ts.length ≤ 1000000000) (h0 : t ≠ ByteArray.empty) (hl : t.size ≤ 65536) (r0 : Kd.C Kd.string w A0 ts.length ts) (r1 : Kd.C Kd.string w A1 (ts.map M.shaSum).length (ts.map M.shaSum)) (i : Nat) (hi : M.idx (ts.map M.shaSum) (M.shaSum t).data.toList = some i) (he : ts.getD i ByteArray.empty = t) :
    Calls Tryd.prog 32 #[.agg #[.slice A0 ts.length c0, .slice A1 ts.length c1, .string a, .string b], .string t] w fun e w' => e = .returned (.tuple #[.agg #[.slice A0 ts.length c0, .slice A1 ts.length c1, .string a, .string b], .string (M.shaSum t), .int .i64 0]) ∧ Below w.heap.size w w' := by
  have hsz : ts.length ≤ 1000000000 := hts
  have HC2 := Aside0.mk (pleachref16_Put.c2 A0 A1 ts.length c0 c1 a b w)
  have HC4 := Aside0.mk (pleachref16_Put.c4 A0 A1 ts.length c0 c1 a b w)
  have HB0 := Aside0.mk (pleachref16_Put.b0 A0 A1 ts.length c0 c1 a b w)
  unfold pleachref16_Put.W0 at HC2 HC4 HB0
  have hd : t.toList.isEmpty = false := M.nonempty h0
  have hdd : decide ((65536 : Int) < (t.size : Int)) = false := decide_eq_false (by omega)
  obtain ⟨m, hm⟩ : ∃ m, M.shaSum t = m := ⟨_, rfl⟩
  have HSum := Aside0.mk (show pleachref03_Sum.f t = some m by rw [← hm]; exact pleachref03_Sum.eq_ t (by omega))
  have HR0 := Aside0.mk r0
  have HR1 := Aside0.mk r1
  have hib : i < ts.length := by have := (M.idx_lt hi).1; simpa using this
  have hat : M.shaSum (ts.getD i ByteArray.empty) = M.shaSum t := M.idx_at hi
  have hbef := Aside0.mk (fun k (hk : k < i) => M.idx_before hi hk)
  have hatm := hat.trans hm
  rw [hm]
  clear r0 r1 hat hi
  go_enter Tryd.func32, Tryd.ntmps32
  go_wp2_with (first | (go_at_call 27; (with_reducible refine (pleachref03_Sum.calls t m _ HSum.out).mono ?_); rintro e w1 ⟨rfl, hb1⟩; have n1 := Aside0.mk (M.rec_below HC2.out hb1); have n2 := Aside0.mk (M.rec_below HC4.out hb1); have n3 := Aside0.mk (below_step HB0.out hb1); clear HC2 HC4 HB0; have HC2 := n1; have HC4 := n2; have HB1 := n3; clear n1 n2 n3 hb1))
  have q0 : w1.cell? ⟨w.heap.size, 0, none⟩ = some (.slice A0 ts.length c0) := M.rec_cell HC2.out 0 _ rfl
  have q1 : w1.cell? ⟨w.heap.size, 1, none⟩ = some (.slice A1 ts.length c1) := M.rec_cell HC2.out 1 _ rfl
  have q2 : w1.cell? ⟨w.heap.size, 2, none⟩ = some (.string a) := M.rec_cell HC2.out 2 _ rfl
  have q3 : w1.cell? ⟨w.heap.size, 3, none⟩ = some (.string b) := M.rec_cell HC2.out 3 _ rfl
  have g0 := M.rec_free HC2.out 0
  have g1 := M.rec_free HC2.out 1
  have g2 := M.rec_free HC2.out 2
  have g3 := M.rec_free HC2.out 3
  go_loopg [8] (i) (fun kq v8 wr => ∃ (k : Nat), v8 = .int .i64 (k : Int) ∧ k ≤ i ∧ Aside0 (kq = i - k) ∧ Aside0 (wr = w1))
  case atStart => exact ⟨0, rfl, Nat.zero_le _, ⟨rfl⟩, ⟨rfl⟩⟩
  case round =>
    obtain ⟨k, rfl, hk, hkq, HW⟩ := hrel
    obtain rfl := HW.out
    clear HW
    have hk2 : k < ts.length := by omega
    obtain ⟨x, hx⟩ : ∃ x, ts.getD k ByteArray.empty = x := ⟨_, rfl⟩
    obtain ⟨y, hy⟩ : ∃ y, M.shaSum x = y := ⟨_, rfl⟩
    obtain ⟨a0, e0, hx1⟩ := Kd.at_string (Kd.C_below HR0.out HB1.out) (k : Int) (by omega) (by omega)
    obtain ⟨a1, e1, hy1⟩ := Kd.at_string (M.reads_n (Kd.C_below HR1.out HB1.out) (List.length_map _)) (k : Int) (by omega) (by omega)
    rw [show rdOf ByteArray.empty ts (k : Int) = x from by rw [← hx]; rfl, Int.toNat_natCast] at hx1
    rw [show rdOf ByteArray.empty (ts.map M.shaSum) (k : Int) = y from by rw [← hy, ← hx]; simp [rdOf, List.getD, hk2], Int.toNat_natCast] at hy1
    subst e0 e1
    have p1 : (k : Int) < (ts.length : Int) := by omega
    have p2 : (0 : Int) ≤ (k : Int) := by omega
    have p3 := decide_eq_true p1
    have p4 : decide (k < ts.length) = true := decide_eq_true hk2
    have HX := Aside0.mk hx
    have HY := Aside0.mk hy
    by_cases hlt : k < i
    · have hn := hbef.out k hlt
      rw [hx, hy, hm] at hn
      have hne1 : (x.toList == t.toList) = false := by simpa using M.unlike hn.1
      have hne2 : (y.toList == m.toList) = false := by simpa using M.unlike hn.2
      clear hx hy hn
      go_wp2
      go_roundg (i - (k + 1))
      case measure => have := hkq.out; omega
      case rel => exact ⟨k + 1, by go_num, by omega, ⟨rfl⟩, ⟨rfl⟩⟩
    · obtain rfl : k = i := by omega
      obtain rfl : x = t := hx.symm.trans he
      have hne1 : (x.toList == x.toList) = true := by simp
      clear hx hy hatm
      go_wp2_with (first | ((with_reducible refine gate_dst (N := 32) rfl ?_); (try (refine gate_guard (by rfl) ?_; dsimp only)); refine M.wp_rec_load rfl 41 _ rfl (w.heap.size) 41 [.slice (some a0) ts.length c0, .slice (some a1) ts.length c1, .string a, .string b] rfl HC2.out _ Tryd.underlying41 rfl pleachref16_Put.size_ ?_) | ((with_reducible refine gate_store (t := 41) (p := 4) (v := .tmp 32) rfl ?_); refine M.wp_rec_store rfl 41 _ _ rfl (w.heap.size + 1) 41 [.slice none 0 0, .slice none 0 0, .string ⟨#[]⟩, .string ⟨#[]⟩] [.slice (some a0) ts.length c0, .slice (some a1) ts.length c1, .string a, .string b] rfl rfl HC4.out rfl pleachref16_Put.size_ rfl ?_; intro w4 hA4 hF4 hB4 hz4; have HB4 := Aside0.mk (hB4 _ _ (Nat.le_succ _) HB1.out); have HF4 := Aside0.mk hF4; have HA4 := Aside0.mk hA4; clear hA4 hF4 hB4 hz4))
      exact bodyPost_ret (results_ctt rfl _ _ (w.heap.size + 1) 41 #[.slice (some a0) ts.length c0, .slice (some a1) ts.length c1, .string a, .string b] (0, 0) _ rfl HA4.out Tryd.underlying41 rfl pleachref16_Put.size_) rfl ⟨rfl, HB4.out⟩
set_option maxHeartbeats 8000000 in
set_option maxRecDepth 100000 in
theorem pleachref16_Put.clashN (A0 A1 : Option Addr) (c0 c1 : Nat) (a b t : ByteArray) (ts : List ByteArray) (w : World) (hts : ts.length ≤ 1000000000) (h0 : t ≠ ByteArray.empty) (hl : t.size ≤ 65536) (r0 : Kd.C Kd.string w A0 ts.length ts) (r1 : Kd.C Kd.string w A1 (ts.map M.shaSum).length (ts.map M.shaSum)) (i : Nat) (hi : M.idx (ts.map M.shaSum) (M.shaSum t).data.toList = some i) (he : ts.getD i ByteArray.empty ≠ t) (ha : a ≠ ByteArray.empty) :
    Calls Tryd.prog 32 #[.agg #[.slice A0 ts.length c0, .slice A1 ts.length c1, .string a, .string b], .string t] w fun e w' => e = .returned (.tuple #[.agg #[.slice A0 ts.length c0, .slice A1 ts.length c1, .string a, .string b], .string ByteArray.empty, .int .i64 15]) ∧ Below w.heap.size w w' := by
  have hsz : ts.length ≤ 1000000000 := hts
  have HC2 := Aside0.mk (pleachref16_Put.c2 A0 A1 ts.length c0 c1 a b w)
  have HC4 := Aside0.mk (pleachref16_Put.c4 A0 A1 ts.length c0 c1 a b w)
  have HB0 := Aside0.mk (pleachref16_Put.b0 A0 A1 ts.length c0 c1 a b w)
  unfold pleachref16_Put.W0 at HC2 HC4 HB0
  have hd : t.toList.isEmpty = false := M.nonempty h0
  have hdd : decide ((65536 : Int) < (t.size : Int)) = false := decide_eq_false (by omega)
  obtain ⟨m, hm⟩ : ∃ m, M.shaSum t = m := ⟨_, rfl⟩
  have HSum := Aside0.mk (show pleachref03_Sum.f t = some m by rw [← hm]; exact pleachref03_Sum.eq_ t (by omega))
  have HR0 := Aside0.mk r0
  have HR1 := Aside0.mk r1
  have hib : i < ts.length := by have := (M.idx_lt hi).1; simpa using this
  have hat : M.shaSum (ts.getD i ByteArray.empty) = M.shaSum t := M.idx_at hi
  have hbef := Aside0.mk (fun k (hk : k < i) => M.idx_before hi hk)
  have hatm := hat.trans hm
  have hda : a.toList.isEmpty = false := M.nonempty ha
  clear r0 r1 hat hi
  go_enter Tryd.func32, Tryd.ntmps32
  go_wp2_with (first | (go_at_call 27; (with_reducible refine (pleachref03_Sum.calls t m _ HSum.out).mono ?_); rintro e w1 ⟨rfl, hb1⟩; have n1 := Aside0.mk (M.rec_below HC2.out hb1); have n2 := Aside0.mk (M.rec_below HC4.out hb1); have n3 := Aside0.mk (below_step HB0.out hb1); clear HC2 HC4 HB0; have HC2 := n1; have HC4 := n2; have HB1 := n3; clear n1 n2 n3 hb1))
  have q0 : w1.cell? ⟨w.heap.size, 0, none⟩ = some (.slice A0 ts.length c0) := M.rec_cell HC2.out 0 _ rfl
  have q1 : w1.cell? ⟨w.heap.size, 1, none⟩ = some (.slice A1 ts.length c1) := M.rec_cell HC2.out 1 _ rfl
  have q2 : w1.cell? ⟨w.heap.size, 2, none⟩ = some (.string a) := M.rec_cell HC2.out 2 _ rfl
  have q3 : w1.cell? ⟨w.heap.size, 3, none⟩ = some (.string b) := M.rec_cell HC2.out 3 _ rfl
  have g0 := M.rec_free HC2.out 0
  have g1 := M.rec_free HC2.out 1
  have g2 := M.rec_free HC2.out 2
  have g3 := M.rec_free HC2.out 3
  go_loopg [8] (i) (fun kq v8 wr => ∃ (k : Nat), v8 = .int .i64 (k : Int) ∧ k ≤ i ∧ Aside0 (kq = i - k) ∧ Aside0 (wr = w1))
  case atStart => exact ⟨0, rfl, Nat.zero_le _, ⟨rfl⟩, ⟨rfl⟩⟩
  case round =>
    obtain ⟨k, rfl, hk, hkq, HW⟩ := hrel
    obtain rfl := HW.out
    clear HW
    have hk2 : k < ts.length := by omega
    obtain ⟨x, hx⟩ : ∃ x, ts.getD k ByteArray.empty = x := ⟨_, rfl⟩
    obtain ⟨y, hy⟩ : ∃ y, M.shaSum x = y := ⟨_, rfl⟩
    obtain ⟨a0, e0, hx1⟩ := Kd.at_string (Kd.C_below HR0.out HB1.out) (k : Int) (by omega) (by omega)
    obtain ⟨a1, e1, hy1⟩ := Kd.at_string (M.reads_n (Kd.C_below HR1.out HB1.out) (List.length_map _)) (k : Int) (by omega) (by omega)
    rw [show rdOf ByteArray.empty ts (k : Int) = x from by rw [← hx]; rfl, Int.toNat_natCast] at hx1
    rw [show rdOf ByteArray.empty (ts.map M.shaSum) (k : Int) = y from by rw [← hy, ← hx]; simp [rdOf, List.getD, hk2], Int.toNat_natCast] at hy1
    subst e0 e1
    have p1 : (k : Int) < (ts.length : Int) := by omega
    have p2 : (0 : Int) ≤ (k : Int) := by omega
    have p3 := decide_eq_true p1
    have p4 : decide (k < ts.length) = true := decide_eq_true hk2
    have HX := Aside0.mk hx
    have HY := Aside0.mk hy
    by_cases hlt : k < i
    · have hn := hbef.out k hlt
      rw [hx, hy, hm] at hn
      have hne1 : (x.toList == t.toList) = false := by simpa using M.unlike hn.1
      have hne2 : (y.toList == m.toList) = false := by simpa using M.unlike hn.2
      clear hx hy hn
      go_wp2
      go_roundg (i - (k + 1))
      case measure => have := hkq.out; omega
      case rel => exact ⟨k + 1, by go_num, by omega, ⟨rfl⟩, ⟨rfl⟩⟩
    · obtain rfl : k = i := by omega
      have hne1 : (x.toList == t.toList) = false := by simpa using M.unlike (fun z => he (hx.trans z))
      obtain rfl : y = m := hy.symm.trans ((congrArg M.shaSum hx.symm).trans hatm)
      have hne2 : (y.toList == y.toList) = true := by simp
      clear hx hy hatm
      go_wp2_with (first | ((with_reducible refine gate_dst (N := 52) rfl ?_); (try (refine gate_guard (by rfl) ?_; dsimp only)); refine M.wp_rec_load rfl 41 _ rfl (w.heap.size) 41 [.slice (some a0) ts.length c0, .slice (some a1) ts.length c1, .string a, .string b] rfl HC2.out _ Tryd.underlying41 rfl pleachref16_Put.size_ ?_) | ((with_reducible refine gate_store (t := 41) (p := 4) (v := .tmp 52) rfl ?_); refine M.wp_rec_store rfl 41 _ _ rfl (w.heap.size + 1) 41 [.slice none 0 0, .slice none 0 0, .string ⟨#[]⟩, .string ⟨#[]⟩] [.slice (some a0) ts.length c0, .slice (some a1) ts.length c1, .string a, .string b] rfl rfl HC4.out rfl pleachref16_Put.size_ rfl ?_; intro w4 hA4 hF4 hB4 hz4; have HB4 := Aside0.mk (hB4 _ _ (Nat.le_succ _) HB1.out); have HF4 := Aside0.mk hF4; have HA4 := Aside0.mk hA4; clear hA4 hF4 hB4 hz4))
      exact bodyPost_ret (results_ctt rfl _ _ (w.heap.size + 1) 41 #[.slice (some a0) ts.length c0, .slice (some a1) ts.length c1, .string a, .string b] (0, 0) _ rfl HA4.out Tryd.underlying41 rfl pleachref16_Put.size_) rfl ⟨rfl, HB4.out⟩
set_option maxHeartbeats 8000000 in
set_option maxRecDepth 100000 in
theorem pleachref16_Put.clash0 (A0 A1 : Option Addr) (c0 c1 : Nat) (a b t : ByteArray) (ts : List ByteArray) (w : World) (hts : ts.length ≤ 1000000000) (h0 : t ≠ ByteArray.empty) (hl : t.size ≤ 65536) (r0 : Kd.C Kd.string w A0 ts.length ts) (r1 : Kd.C Kd.string w A1 (ts.map M.shaSum).length (ts.map M.shaSum)) (i : Nat) (hi : M.idx (ts.map M.shaSum) (M.shaSum t).data.toList = some i) (he : ts.getD i ByteArray.empty ≠ t) (ha : a = ByteArray.empty) :
    Calls Tryd.prog 32 #[.agg #[.slice A0 ts.length c0, .slice A1 ts.length c1, .string a, .string b], .string t] w fun e w' => e = .returned (.tuple #[.agg #[.slice A0 ts.length c0, .slice A1 ts.length c1, .string (ts.getD i ByteArray.empty), .string t], .string ByteArray.empty, .int .i64 15]) ∧ Below w.heap.size w w' := by
  subst ha
  have hsz : ts.length ≤ 1000000000 := hts
  have HC2 := Aside0.mk (pleachref16_Put.c2 A0 A1 ts.length c0 c1 ByteArray.empty b w)
  have HC4 := Aside0.mk (pleachref16_Put.c4 A0 A1 ts.length c0 c1 ByteArray.empty b w)
  have HB0 := Aside0.mk (pleachref16_Put.b0 A0 A1 ts.length c0 c1 ByteArray.empty b w)
  unfold pleachref16_Put.W0 at HC2 HC4 HB0
  have hd : t.toList.isEmpty = false := M.nonempty h0
  have hdd : decide ((65536 : Int) < (t.size : Int)) = false := decide_eq_false (by omega)
  obtain ⟨m, hm⟩ : ∃ m, M.shaSum t = m := ⟨_, rfl⟩
  have HSum := Aside0.mk (show pleachref03_Sum.f t = some m by rw [← hm]; exact pleachref03_Sum.eq_ t (by omega))
  have HR0 := Aside0.mk r0
  have HR1 := Aside0.mk r1
  have hib : i < ts.length := by have := (M.idx_lt hi).1; simpa using this
  have hat : M.shaSum (ts.getD i ByteArray.empty) = M.shaSum t := M.idx_at hi
  have hbef := Aside0.mk (fun k (hk : k < i) => M.idx_before hi hk)
  have hatm := hat.trans hm
  have hda : (ByteArray.empty : ByteArray).toList.isEmpty = true := by decide +kernel
  clear r0 r1 hat hi
  go_enter Tryd.func32, Tryd.ntmps32
  go_wp2_with (first | (go_at_call 27; (with_reducible refine (pleachref03_Sum.calls t m _ HSum.out).mono ?_); rintro e w1 ⟨rfl, hb1⟩; have n1 := Aside0.mk (M.rec_below HC2.out hb1); have n2 := Aside0.mk (M.rec_below HC4.out hb1); have n3 := Aside0.mk (below_step HB0.out hb1); clear HC2 HC4 HB0; have HC2 := n1; have HC4 := n2; have HB1 := n3; clear n1 n2 n3 hb1))
  have q0 : w1.cell? ⟨w.heap.size, 0, none⟩ = some (.slice A0 ts.length c0) := M.rec_cell HC2.out 0 _ rfl
  have q1 : w1.cell? ⟨w.heap.size, 1, none⟩ = some (.slice A1 ts.length c1) := M.rec_cell HC2.out 1 _ rfl
  have q2 : w1.cell? ⟨w.heap.size, 2, none⟩ = some (.string ByteArray.empty) := M.rec_cell HC2.out 2 _ rfl
  have q3 : w1.cell? ⟨w.heap.size, 3, none⟩ = some (.string b) := M.rec_cell HC2.out 3 _ rfl
  have g0 := M.rec_free HC2.out 0
  have g1 := M.rec_free HC2.out 1
  have g2 := M.rec_free HC2.out 2
  have g3 := M.rec_free HC2.out 3
  go_loopg [8] (i) (fun kq v8 wr => ∃ (k : Nat), v8 = .int .i64 (k : Int) ∧ k ≤ i ∧ Aside0 (kq = i - k) ∧ Aside0 (wr = w1))
  case atStart => exact ⟨0, rfl, Nat.zero_le _, ⟨rfl⟩, ⟨rfl⟩⟩
  case round =>
    obtain ⟨k, rfl, hk, hkq, HW⟩ := hrel
    obtain rfl := HW.out
    clear HW
    have hk2 : k < ts.length := by omega
    obtain ⟨x, hx⟩ : ∃ x, ts.getD k ByteArray.empty = x := ⟨_, rfl⟩
    obtain ⟨y, hy⟩ : ∃ y, M.shaSum x = y := ⟨_, rfl⟩
    obtain ⟨a0, e0, hx1⟩ := Kd.at_string (Kd.C_below HR0.out HB1.out) (k : Int) (by omega) (by omega)
    obtain ⟨a1, e1, hy1⟩ := Kd.at_string (M.reads_n (Kd.C_below HR1.out HB1.out) (List.length_map _)) (k : Int) (by omega) (by omega)
    rw [show rdOf ByteArray.empty ts (k : Int) = x from by rw [← hx]; rfl, Int.toNat_natCast] at hx1
    rw [show rdOf ByteArray.empty (ts.map M.shaSum) (k : Int) = y from by rw [← hy, ← hx]; simp [rdOf, List.getD, hk2], Int.toNat_natCast] at hy1
    subst e0 e1
    have p1 : (k : Int) < (ts.length : Int) := by omega
    have p2 : (0 : Int) ≤ (k : Int) := by omega
    have p3 := decide_eq_true p1
    have p4 : decide (k < ts.length) = true := decide_eq_true hk2
    have HX := Aside0.mk hx
    have HY := Aside0.mk hy
    by_cases hlt : k < i
    · have hn := hbef.out k hlt
      rw [hx, hy, hm] at hn
      have hne1 : (x.toList == t.toList) = false := by simpa using M.unlike hn.1
      have hne2 : (y.toList == m.toList) = false := by simpa using M.unlike hn.2
      clear hx hy hn
      go_wp2
      go_roundg (i - (k + 1))
      case measure => have := hkq.out; omega
      case rel => exact ⟨k + 1, by go_num, by omega, ⟨rfl⟩, ⟨rfl⟩⟩
    · obtain rfl : k = i := by omega
      have hne1 : (x.toList == t.toList) = false := by simpa using M.unlike (fun z => he (hx.trans z))
      obtain rfl : y = m := hy.symm.trans ((congrArg M.shaSum hx.symm).trans hatm)
      have hne2 : (y.toList == y.toList) = true := by simp
      have HCX := Aside0.mk (M.rec_set (M.rec_set HC2.out 2 (.string x)) 3 (.string t))
      have HC4X := Aside0.mk (M.rec_far (M.rec_far HC4.out ⟨w.heap.size, 2, none⟩ (by simp) (.string x)) ⟨w.heap.size, 3, none⟩ (by simp) (.string t))
      have HBX := Aside0.mk ((HB1.out.setCell (p := ⟨w.heap.size, 2, none⟩) (Nat.le_refl _) (.string x)).setCell (p := ⟨w.heap.size, 3, none⟩) (Nat.le_refl _) (.string t))
      clear hx hy hatm
      go_wp2_with (first | ((with_reducible refine gate_dst (N := 52) rfl ?_); (try (refine gate_guard (by rfl) ?_; dsimp only)); refine M.wp_rec_load rfl 41 _ rfl (w.heap.size) 41 [.slice (some a0) ts.length c0, .slice (some a1) ts.length c1, .string x, .string t] rfl HCX.out _ Tryd.underlying41 rfl pleachref16_Put.size_ ?_) | ((with_reducible refine gate_store (t := 41) (p := 4) (v := .tmp 52) rfl ?_); refine M.wp_rec_store rfl 41 _ _ rfl (w.heap.size + 1) 41 [.slice none 0 0, .slice none 0 0, .string ⟨#[]⟩, .string ⟨#[]⟩] [.slice (some a0) ts.length c0, .slice (some a1) ts.length c1, .string x, .string t] rfl rfl HC4X.out rfl pleachref16_Put.size_ rfl ?_; intro w4 hA4 hF4 hB4 hz4; have HB4 := Aside0.mk (hB4 _ _ (Nat.le_succ _) HBX.out); have HF4 := Aside0.mk hF4; have HA4 := Aside0.mk hA4; clear hA4 hF4 hB4 hz4))
      exact bodyPost_ret (results_ctt rfl _ _ (w.heap.size + 1) 41 #[.slice (some a0) ts.length c0, .slice (some a1) ts.length c1, .string x, .string t] (0, 0) _ rfl HA4.out Tryd.underlying41 rfl pleachref16_Put.size_) rfl ⟨by rw [HX.out]; rfl, HB4.out⟩
/- NEW -/
theorem pleachref16_Put.info9 : (Tryd.prog.info? 9).map (fun i => (i.zero, i.size, i.bytes)) = some (some (.string ⟨#[]⟩), 1, 16) := by kernel_rfl
set_option maxHeartbeats 8000000 in
set_option maxRecDepth 100000 in
theorem pleachref16_Put.new (A0 A1 : Option Addr) (c0 c1 : Nat) (a b t : ByteArray) (ts : List ByteArray) (w : World) (hts : ts.length ≤ 1000000000) (h0 : t ≠ ByteArray.empty) (hl : t.size ≤ 65536) (r0 : Kd.C Kd.string w A0 ts.length ts) (r1 : Kd.C Kd.string w A1 (ts.map M.shaSum).length (ts.map M.shaSum)) (hi : M.idx (ts.map M.shaSum) (M.shaSum t).data.toList = none) :
    Calls Tryd.prog 32 #[.agg #[.slice A0 ts.length c0, .slice A1 ts.length c1, .string a, .string b], .string t] w fun e w' => ∃ v0 v1, e = .returned (.tuple #[.agg #[v0, v1, .string a, .string b], .string (M.shaSum t), .int .i64 0]) ∧ Kd.R Kd.string 9 w' w.heap.size (fun _ => True) v0 (ts ++ [t]) ∧ Kd.R Kd.string 9 w' w.heap.size (fun _ => True) v1 ((ts ++ [t]).map M.shaSum) ∧ Below w.heap.size w w' := by
  have hsz : ts.length ≤ 1000000000 := hts
  have HC2 := Aside0.mk (pleachref16_Put.c2 A0 A1 ts.length c0 c1 a b w)
  have HC4 := Aside0.mk (pleachref16_Put.c4 A0 A1 ts.length c0 c1 a b w)
  have HB0 := Aside0.mk (pleachref16_Put.b0 A0 A1 ts.length c0 c1 a b w)
  unfold pleachref16_Put.W0 at HC2 HC4 HB0
  have hd : t.toList.isEmpty = false := M.nonempty h0
  have hdd : decide ((65536 : Int) < (t.size : Int)) = false := decide_eq_false (by omega)
  obtain ⟨m, hm⟩ : ∃ m, M.shaSum t = m := ⟨_, rfl⟩
  have HSum := Aside0.mk (show pleachref03_Sum.f t = some m by rw [← hm]; exact pleachref03_Sum.eq_ t (by omega))
  have HR0 := Aside0.mk r0
  have HR1 := Aside0.mk r1
  have HNEV := Aside0.mk (fun k (hk : k < ts.length) => M.idx_never hi hk)
  have HM := Aside0.mk hm
  rw [List.map_append, List.map_cons, List.map_nil, hm]
  clear r0 r1 hi hm
  go_enter Tryd.func32, Tryd.ntmps32
  go_wp2_with (first | (go_at_call 27; (with_reducible refine (pleachref03_Sum.calls t m _ HSum.out).mono ?_); rintro e w1 ⟨rfl, hb1⟩; have n1 := Aside0.mk (M.rec_below HC2.out hb1); have n2 := Aside0.mk (M.rec_below HC4.out hb1); have n3 := Aside0.mk (below_step HB0.out hb1); clear HC2 HC4 HB0; have HC2 := n1; have HC4 := n2; have HB1 := n3; clear n1 n2 n3 hb1))
  have q0 : w1.cell? ⟨w.heap.size, 0, none⟩ = some (.slice A0 ts.length c0) := M.rec_cell HC2.out 0 _ rfl
  have q1 : w1.cell? ⟨w.heap.size, 1, none⟩ = some (.slice A1 ts.length c1) := M.rec_cell HC2.out 1 _ rfl
  have q2 : w1.cell? ⟨w.heap.size, 2, none⟩ = some (.string a) := M.rec_cell HC2.out 2 _ rfl
  have q3 : w1.cell? ⟨w.heap.size, 3, none⟩ = some (.string b) := M.rec_cell HC2.out 3 _ rfl
  have g0 := M.rec_free HC2.out 0
  have g1 := M.rec_free HC2.out 1
  have g2 := M.rec_free HC2.out 2
  have g3 := M.rec_free HC2.out 3
  go_loopg [8] (ts.length) (fun kq v8 wr => ∃ (k : Nat), v8 = .int .i64 (k : Int) ∧ k ≤ ts.length ∧ Aside0 (kq = ts.length - k) ∧ Aside0 (wr = w1))
  case atStart => exact ⟨0, rfl, Nat.zero_le _, ⟨rfl⟩, ⟨rfl⟩⟩
  case round =>
    obtain ⟨k, rfl, hk, hkq, HW⟩ := hrel
    obtain rfl := HW.out
    clear HW
    by_cases hk2 : k < ts.length
    · obtain ⟨x, hx⟩ : ∃ x, ts.getD k ByteArray.empty = x := ⟨_, rfl⟩
      obtain ⟨y, hy⟩ : ∃ y, M.shaSum x = y := ⟨_, rfl⟩
      obtain ⟨a0, e0, hx1⟩ := Kd.at_string (Kd.C_below HR0.out HB1.out) (k : Int) (by omega) (by omega)
      obtain ⟨a1, e1, hy1⟩ := Kd.at_string (M.reads_n (Kd.C_below HR1.out HB1.out) (List.length_map _)) (k : Int) (by omega) (by omega)
      rw [show rdOf ByteArray.empty ts (k : Int) = x from by rw [← hx]; rfl, Int.toNat_natCast] at hx1
      rw [show rdOf ByteArray.empty (ts.map M.shaSum) (k : Int) = y from by rw [← hy, ← hx]; simp [rdOf, List.getD, hk2], Int.toNat_natCast] at hy1
      subst e0 e1
      have p1 : (k : Int) < (ts.length : Int) := by omega
      have p2 : (0 : Int) ≤ (k : Int) := by omega
      have p3 := decide_eq_true p1
      have p4 : decide (k < ts.length) = true := decide_eq_true hk2
      have HX := Aside0.mk hx
      have HY := Aside0.mk hy
      have hn := HNEV.out k hk2
      rw [hx, hy, HM.out] at hn
      have hne1 : (x.toList == t.toList) = false := by simpa using M.unlike hn.1
      have hne2 : (y.toList == m.toList) = false := by simpa using M.unlike hn.2
      clear hx hy hn HX HY
      go_wp2
      go_roundg (ts.length - (k + 1))
      case measure => have := hkq.out; omega
      case rel => exact ⟨k + 1, by go_num, by omega, ⟨rfl⟩, ⟨rfl⟩⟩
    · obtain rfl : k = ts.length := by omega
      have p3 : decide ((ts.length : Int) < (ts.length : Int)) = false := decide_eq_false (by omega)
      clear hk2 hk
      go_wp2_with (first | ((with_reducible refine gate_dst (N := 53) rfl ?_); refine Kd.R_lit (w0 := w) Kd.string w.heap.size 9 ?hg (N := 53) ?hd (xs := ([] : List ByteArray)) (inner := []) (ok := fun _ => True) (okp := fun _ => False) ?hr ?hp (fun _ hk => hk.elim) ?hf HB1.out (below_size (below_step HB1.out (Below.refl _ _))) (by simp) ?_; (case hd => rfl); (case hg => rfl); (case hr => first | (go_simp; done) | (go_simp; rfl)); (case hp => exact (Reps.none _ _)); (case hf => trivial); intro v53 wA ho hb hg hat; have HA := Aside0.mk ho; have HBA := Aside0.mk hb; have HC2A := Aside0.mk (M.rec_grown HC2.out hg (by simp)); have HC4A := Aside0.mk (M.rec_grown HC4.out hg (by simp)); have qa0 : wA.cell? ⟨w.heap.size, 0, none⟩ = some (.slice A0 ts.length c0) := M.rec_cell HC2A.out 0 _ rfl; clear ho hb hg hat) | ((with_reducible refine gate_builtin (b := .append) (xs := #[.tmp 53, .tmp 55]) rfl ?_); at_builtin; refine Kd.R_append_rows Kd.string (w0 := w) w.heap.size rfl (.tmp 53) (.tmp 55) 22 9 (.string ⟨#[]⟩) 16 rfl Tryd.underlying22 pleachref16_Put.info9 rfl (by decide) (by omega) v53 ([] : List ByteArray) ts _ _ _ (fun _ => True) (fun _ => False) rfl rfl ?aO ?aR (fun _ _ h => h) (fun _ h => h.elim) ?aF ?aB ?aS ?aL ?_; (case aO => exact HA.out); (case aR => exact Kd.C_below HR0.out HBA.out); (case aF => exact fun _ _ => trivial); (case aB => exact HBA.out); (case aS => exact HBA.out.size); (case aL => simp; omega); intro v56 wB ho hb hg hat; have HBv := Aside0.mk ho; have HBB := Aside0.mk hb; have HC2B := Aside0.mk (M.rec_grown HC2A.out hg (Kd.R_ne HA.out HC2A.out (by decide))); have HC4B := Aside0.mk (M.rec_grown HC4A.out hg (Kd.R_ne HA.out HC4A.out (by decide))); clear ho hb hg hat) | ((with_reducible refine gate_builtin (b := .append) (xs := #[.tmp 56, .tmp 58]) rfl ?_); at_builtin; refine Kd.R_append Kd.string (w0 := w) w.heap.size rfl (.tmp 56) (.tmp 58) 22 9 (.string ⟨#[]⟩) 16 rfl Tryd.underlying22 pleachref16_Put.info9 rfl (by decide) (by omega) v56 ([] ++ ts) t [.string t] (fun _ => True) (fun _ => False) rfl rfl ?aP (fun _ hk => hk.elim) ?aF ?aO ?aB ?aS ?aL ?_; (case aP => exact rfl); (case aO => exact HBv.out); (case aF => exact fun _ _ => trivial); (case aB => exact HBB.out); (case aS => exact HBB.out.size); (case aL => simp; omega); intro v59 wC ho hb hg hat; obtain ⟨AC, cC, hv⟩ := Kd.R_slice ho; simp only [List.nil_append, List.length_append, List.length_cons, List.length_nil, Nat.zero_add] at hv; subst hv; have HCv := Aside0.mk (Kd.R_flat (ok' := fun k => (Value.slice AC (ts.length + 1) cC).ownBlock = some k) (fun h => h) ho (fun _ e _ => e)); have HBC := Aside0.mk hb; have HC2C := Aside0.mk (M.rec_grown HC2B.out hg (Kd.R_ne HBv.out HC2B.out (by decide))); have HC4C := Aside0.mk (M.rec_grown HC4B.out hg (Kd.R_ne HBv.out HC4B.out (by decide))); have qc0 : wC.cell? ⟨w.heap.size, 0, none⟩ = some (.slice A0 ts.length c0) := M.rec_cell HC2C.out 0 _ rfl; have gc0 := M.rec_free HC2C.out 0; have HBD := Aside0.mk (hb.setCell (p := ⟨w.heap.size, 0, none⟩) (Nat.le_refl _) (.slice AC (ts.length + 1) cC)); have HC2D := Aside0.mk (M.rec_set HC2C.out 0 (.slice AC (ts.length + 1) cC)); have HC4D := Aside0.mk (M.rec_far HC4C.out ⟨w.heap.size, 0, none⟩ (by simp) (.slice AC (ts.length + 1) cC)); have HDv := Aside0.mk (Kd.R_far (p := ⟨w.heap.size, 0, none⟩) HCv.out (fun k e e2 => Kd.R_ne ho HC2C.out (by decide) (by rw [e, e2])) (.slice AC (ts.length + 1) cC)); clear ho hb hg hat) | ((with_reducible refine gate_dst (N := 61) rfl ?_); refine Kd.R_lit (w0 := w) Kd.string w.heap.size 9 ?hg (N := 61) ?hd (xs := ([] : List ByteArray)) (inner := []) (ok := fun k => (Value.slice AC (ts.length + 1) cC).ownBlock ≠ some k) (okp := fun _ => False) ?hr ?hp (fun _ hk => hk.elim) ?hf HBD.out HBD.out.size (by simp) ?_; (case hd => rfl); (case hg => rfl); (case hr => first | (go_simp; done) | (go_simp; rfl)); (case hp => exact (Reps.none _ _)); (case hf => exact fun e => Nat.lt_irrefl _ (Kd.R_lt HDv.out _ e)); intro v61 wE ho hb hg hat; have HE := Aside0.mk ho; have HBE := Aside0.mk hb; have HC2E := Aside0.mk (M.rec_grown HC2D.out hg (by simp)); have HC4E := Aside0.mk (M.rec_grown HC4D.out hg (by simp)); have HEv := Aside0.mk (Kd.R_grown HDv.out hg (fun _ _ => by simp)); have qe1 : wE.cell? ⟨w.heap.size, 1, none⟩ = some (.slice A1 ts.length c1) := M.rec_cell HC2E.out 1 _ rfl; clear ho hb hg hat) | ((with_reducible refine gate_builtin (b := .append) (xs := #[.tmp 61, .tmp 63]) rfl ?_); at_builtin; refine Kd.R_append_rows Kd.string (w0 := w) w.heap.size rfl (.tmp 61) (.tmp 63) 22 9 (.string ⟨#[]⟩) 16 rfl Tryd.underlying22 pleachref16_Put.info9 rfl (by decide) (by omega) v61 ([] : List ByteArray) (ts.map M.shaSum) _ _ _ (fun k => (Value.slice AC (ts.length + 1) cC).ownBlock ≠ some k) (fun _ => False) rfl rfl ?aO ?aR (fun _ _ h => h) (fun _ h => h.elim) ?aF ?aB ?aS ?aL ?_; (case aO => exact HE.out); (case aR => exact M.reads_n (Kd.C_below HR1.out HBE.out) (List.length_map _)); (case aF => exact fun k hk e => by have := Kd.R_lt HEv.out k e; omega); (case aB => exact HBE.out); (case aS => exact HBE.out.size); (case aL => simp; omega); intro v64 wF ho hb hg hat; have HF := Aside0.mk ho; have HBF := Aside0.mk hb; have HFv := Aside0.mk (Kd.R_grown HEv.out hg (fun k e e2 => (HE.out.1 k e2.symm) e)); have HC2F := Aside0.mk (M.rec_grown HC2E.out hg (Kd.R_ne HE.out HC2E.out (by decide))); have HC4F := Aside0.mk (M.rec_grown HC4E.out hg (Kd.R_ne HE.out HC4E.out (by decide))); clear ho hb hg hat) | ((with_reducible refine gate_builtin (b := .append) (xs := #[.tmp 64, .tmp 66]) rfl ?_); at_builtin; refine Kd.R_append Kd.string (w0 := w) w.heap.size rfl (.tmp 64) (.tmp 66) 22 9 (.string ⟨#[]⟩) 16 rfl Tryd.underlying22 pleachref16_Put.info9 rfl (by decide) (by omega) v64 ([] ++ ts.map M.shaSum) m [.string m] (fun k => (Value.slice AC (ts.length + 1) cC).ownBlock ≠ some k) (fun _ => False) rfl rfl ?aP (fun _ hk => hk.elim) ?aF ?aO ?aB ?aS ?aL ?_; (case aP => exact rfl); (case aO => exact HF.out); (case aF => exact fun k hk e => by have := Kd.R_lt HFv.out k e; omega); (case aB => exact HBF.out); (case aS => exact HBF.out.size); (case aL => simp; omega); intro v67 wG ho hb hg hat; obtain ⟨AG, cG, hv⟩ := Kd.R_slice ho; simp only [List.nil_append, List.length_append, List.length_cons, List.length_nil, List.length_map, Nat.zero_add] at hv; subst hv; have HGw := Aside0.mk (Kd.R_flat (ok' := fun k => (Value.slice AG (ts.length + 1) cG).ownBlock = some k) (fun h => h) ho (fun _ e _ => e)); have HBG := Aside0.mk hb; have HGv := Aside0.mk (Kd.R_grown HFv.out hg (fun k e e2 => (HF.out.1 k e2.symm) e)); have HC2G := Aside0.mk (M.rec_grown HC2F.out hg (Kd.R_ne HF.out HC2F.out (by decide))); have HC4G := Aside0.mk (M.rec_grown HC4F.out hg (Kd.R_ne HF.out HC4F.out (by decide))); have qg1 : wG.cell? ⟨w.heap.size, 1, none⟩ = some (.slice A1 ts.length c1) := M.rec_cell HC2G.out 1 _ rfl; have gg1 := M.rec_free HC2G.out 1; have HBH := Aside0.mk (hb.setCell (p := ⟨w.heap.size, 1, none⟩) (Nat.le_refl _) (.slice AG (ts.length + 1) cG)); have HC2H := Aside0.mk (M.rec_set HC2G.out 1 (.slice AG (ts.length + 1) cG)); have HC4H := Aside0.mk (M.rec_far HC4G.out ⟨w.heap.size, 1, none⟩ (by simp) (.slice AG (ts.length + 1) cG)); have HHv := Aside0.mk (Kd.R_far (p := ⟨w.heap.size, 1, none⟩) HGv.out (fun k e e2 => Kd.R_ne HGv.out HC2G.out (by decide) (by rw [e, e2])) (.slice AG (ts.length + 1) cG)); have HHw := Aside0.mk (Kd.R_far (p := ⟨w.heap.size, 1, none⟩) HGw.out (fun k e e2 => Kd.R_ne HGw.out HC2G.out (by decide) (by rw [e, e2])) (.slice AG (ts.length + 1) cG)); clear ho hb hg hat) | ((with_reducible refine gate_dst (N := 69) rfl ?_); (try (refine gate_guard (by rfl) ?_; dsimp only)); refine M.wp_rec_load rfl 41 _ rfl w.heap.size 41 [.slice AC (ts.length + 1) cC, .slice AG (ts.length + 1) cG, .string a, .string b] rfl HC2H.out _ Tryd.underlying41 rfl pleachref16_Put.size_ ?_) | ((with_reducible refine gate_store (t := 41) (p := 4) (v := .tmp 69) rfl ?_); refine M.wp_rec_store rfl 41 _ _ rfl (w.heap.size + 1) 41 [.slice none 0 0, .slice none 0 0, .string ⟨#[]⟩, .string ⟨#[]⟩] [.slice AC (ts.length + 1) cC, .slice AG (ts.length + 1) cG, .string a, .string b] rfl rfl HC4H.out rfl pleachref16_Put.size_ rfl ?_; intro w4 hA4 hF4 hB4 hz4; have HB4 := Aside0.mk (hB4 _ _ (Nat.le_succ _) HBH.out); have HF4 := Aside0.mk hF4; have HA4 := Aside0.mk hA4; clear hA4 hF4 hB4 hz4))
      have HV := Aside0.mk (Kd.R_step HHv.out (fun k e _ => HF4.out k (fun e2 => Kd.R_ne HHv.out HC4H.out (by decide) (by rw [e, e2]))))
      have HV2 := Aside0.mk (Kd.R_step HHw.out (fun k e _ => HF4.out k (fun e2 => Kd.R_ne HHw.out HC4H.out (by decide) (by rw [e, e2]))))
      exact bodyPost_ret (results_ctt rfl _ _ (w.heap.size + 1) 41 #[.slice AC (ts.length + 1) cC, .slice AG (ts.length + 1) cG, .string a, .string b] (0, 0) _ rfl HA4.out Tryd.underlying41 rfl pleachref16_Put.size_) rfl ⟨_, _, rfl, Kd.R_mono HV.out (fun _ _ => trivial), Kd.R_mono HV2.out (fun _ _ => trivial), HB4.out⟩
theorem pleachref16_Put.any (A0 A1 : Option Addr) (c0 c1 : Nat) (s : M.SS) (t : ByteArray) (w : World) (hts : s.ts.length ≤ 1000000000) (r0 : Kd.C Kd.string w A0 s.ts.length s.ts) (r1 : Kd.C Kd.string w A1 (s.ts.map M.shaSum).length (s.ts.map M.shaSum)) :
    Calls Tryd.prog 32 #[.agg #[.slice A0 s.ts.length c0, .slice A1 s.ts.length c1, .string s.a, .string s.b], .string t] w fun e w' => ∃ v0 v1, e = .returned (.tuple #[.agg #[v0, v1, .string (s.put t).2.2.a, .string (s.put t).2.2.b], .string (s.put t).1, .int .i64 (s.put t).2.1]) ∧
      ((v0 = .slice A0 s.ts.length c0 ∧ v1 = .slice A1 s.ts.length c1 ∧ (s.put t).2.2.ts = s.ts) ∨ (Kd.R Kd.string 9 w' w.heap.size (fun _ => True) v0 (s.put t).2.2.ts ∧ Kd.R Kd.string 9 w' w.heap.size (fun _ => True) v1 ((s.put t).2.2.ts.map M.shaSum))) ∧ Below w.heap.size w w' := by
  unfold M.SS.put
  by_cases h0 : t = ByteArray.empty
  · subst h0
    rw [if_pos rfl]
    refine (pleachref16_Put.empty A0 A1 s.ts.length c0 c1 s.a s.b ByteArray.empty w).mono ?_
    rintro e w' ⟨rfl, hb⟩
    exact ⟨_, _, rfl, .inl ⟨rfl, rfl, rfl⟩, hb⟩
  rw [if_neg h0]
  by_cases h1 : 65536 < t.size
  · rw [if_pos h1]
    refine (pleachref16_Put.long A0 A1 s.ts.length c0 c1 s.a s.b t w h1).mono ?_
    rintro e w' ⟨rfl, hb⟩
    exact ⟨_, _, rfl, .inl ⟨rfl, rfl, rfl⟩, hb⟩
  rw [if_neg h1]
  cases hi : M.idx (s.ts.map M.shaSum) (M.shaSum t).data.toList with
  | none =>
    refine (pleachref16_Put.new A0 A1 c0 c1 s.a s.b t s.ts w hts h0 (by omega) r0 r1 hi).mono ?_
    rintro e w' ⟨v0, v1, rfl, h2, h3, hb⟩
    exact ⟨_, _, rfl, .inr ⟨h2, h3⟩, hb⟩
  | some i =>
    simp only
    by_cases he : s.ts.getD i ByteArray.empty = t
    · rw [if_pos he]
      refine (pleachref16_Put.met A0 A1 c0 c1 s.a s.b t s.ts w hts h0 (by omega) r0 r1 i hi he).mono ?_
      rintro e w' ⟨rfl, hb⟩
      exact ⟨_, _, rfl, .inl ⟨rfl, rfl, rfl⟩, hb⟩
    · rw [if_neg he]
      by_cases ha : s.a = ByteArray.empty
      · rw [if_pos ha]
        refine (pleachref16_Put.clash0 A0 A1 c0 c1 s.a s.b t s.ts w hts h0 (by omega) r0 r1 i hi he ha).mono ?_
        rintro e w' ⟨rfl, hb⟩
        exact ⟨_, _, rfl, .inl ⟨rfl, rfl, rfl⟩, hb⟩
      · rw [if_neg ha]
        refine (pleachref16_Put.clashN A0 A1 c0 c1 s.a s.b t s.ts w hts h0 (by omega) r0 r1 i hi he ha).mono ?_
        rintro e w' ⟨rfl, hb⟩
        exact ⟨_, _, rfl, .inl ⟨rfl, rfl, rfl⟩, hb⟩

/-! ### pleachref16_Cut: function 33 -/
set_option maxHeartbeats 8000000 in
set_option maxRecDepth 100000 in
theorem pleachref16_Cut.calls (A0 A1 : Option Addr) (n c0 c1 k : Nat) (a b : ByteArray) (w : World) (h0 : k ≤ n) (h1 : n ≤ c0) (h2 : n ≤ c1) :
    Calls Tryd.prog 33 #[.agg #[.slice A0 n c0, .slice A1 n c1, .string a, .string b], .int .i64 (k : Int)] w fun e w' => e = .returned (.agg #[.slice A0 k c0, .slice A1 k c1, .string a, .string b]) ∧ Below w.heap.size w w' := by
  have hs0 := M.slice_head (P := Tryd.prog) 22 9 Tryd.underlying22 Tryd.sizeOf9 A0 n c0 k (by omega)
  have hs1 := M.slice_head (P := Tryd.prog) 22 9 Tryd.underlying22 Tryd.sizeOf9 A1 n c1 k (by omega)
  have HC2X := Aside0.mk (pleachref16_Put.c2 A0 A1 k c0 c1 a b w)
  have HC4X := Aside0.mk (pleachref16_Put.c4 A0 A1 k c0 c1 a b w)
  have HBX := Aside0.mk (pleachref16_Put.b0 A0 A1 k c0 c1 a b w)
  unfold pleachref16_Put.W0 at HC2X HC4X HBX
  go_enter Tryd.func33, Tryd.ntmps33
  go_wp2_with (first | ((with_reducible refine gate_dst (N := 15) rfl ?_); (try (refine gate_guard (by rfl) ?_; dsimp only)); refine M.wp_rec_load rfl 41 _ rfl w.heap.size 41 [.slice A0 k c0, .slice A1 k c1, .string a, .string b] rfl HC2X.out _ Tryd.underlying41 rfl pleachref16_Put.size_ ?_) | ((with_reducible refine gate_store (t := 41) (p := 4) (v := .tmp 15) rfl ?_); refine M.wp_rec_store rfl 41 _ _ rfl (w.heap.size + 1) 41 [.slice none 0 0, .slice none 0 0, .string ⟨#[]⟩, .string ⟨#[]⟩] [.slice A0 k c0, .slice A1 k c1, .string a, .string b] rfl rfl HC4X.out rfl pleachref16_Put.size_ rfl ?_; intro w4 hA4 hF4 hB4 hz4; have HB4 := Aside0.mk (hB4 _ _ (Nat.le_succ _) HBX.out); have HA4 := Aside0.mk hA4; clear hA4 hF4 hB4 hz4))
  exact bodyPost_ret (v := .agg #[.slice A0 k c0, .slice A1 k c1, .string a, .string b]) (M.results_rec1 Tryd.results33 _ (by rfl) HA4.out Tryd.underlying41 rfl pleachref16_Put.size_) rfl ⟨rfl, HB4.out⟩

/-! ### pleachlaw16_does: function 15 -/
theorem pleachlaw16_does.tct {P : Program} {fn : Func} {p u v : Tmp} {ty : TypeId} (h : fn.results = #[.tmp u, .cell p ty, .tmp v]) (tmps : Array Value) (w : World) (g : Nat) (t : TypeId) (cs : Array Value) (fr : Nat × Nat) (d : TypeDesc)
    (hp : tmps.getD p undef = .pointer (some ⟨g, 0, none⟩)) (hg : w.heap[g]? = some (.cells cs t fr))
    (hu : P.underlying ty = some d) (hd : (match d with | .struct _ | .array _ _ => true | _ => false) = true) (hi : (P.info? ty).map (·.size) = some cs.size) :
    (results fn tmps).run P w = .ok (.tuple #[tmps.getD u undef, .agg cs, tmps.getD v undef]) w := by
  have hp' : tmps[p]?.getD undef = .pointer (some ⟨g, 0, none⟩) := by simpa using hp
  simp [results, h, hp', asAddr, run_loadVar_row w g t ty cs fr d hg hu hd hi]
/-- The world behind the boxes. -/
def pleachlaw16_does.W0 (A0 A1 : Option Addr) (c0 c1 n : Nat) (a b : ByteArray) (k N : Int) (t : ByteArray) (w : World) : World := ((w.alloc (.cells #[.slice A0 n c0, .slice A1 n c1, .string a, .string b] 41)).alloc (.cells #[.int .i64 k, .int .i64 N, .string t] 38)).alloc (.cells #[.slice none 0 0, .slice none 0 0, .string ⟨#[]⟩, .string ⟨#[]⟩] 41)
theorem pleachlaw16_does.facts (A0 A1 : Option Addr) (c0 c1 n : Nat) (a b : ByteArray) (k N : Int) (t : ByteArray) (w : World) :
    M.rec_ (pleachlaw16_does.W0 A0 A1 c0 c1 n a b k N t w) w.heap.size 41 [.slice A0 n c0, .slice A1 n c1, .string a, .string b] ∧ M.rec_ (pleachlaw16_does.W0 A0 A1 c0 c1 n a b k N t w) (w.heap.size + 1) 38 [.int .i64 k, .int .i64 N, .string t] ∧ M.rec_ (pleachlaw16_does.W0 A0 A1 c0 c1 n a b k N t w) (w.heap.size + 1 + 1) 41 [.slice none 0 0, .slice none 0 0, .string ⟨#[]⟩, .string ⟨#[]⟩] ∧
    Below w.heap.size w (pleachlaw16_does.W0 A0 A1 c0 c1 n a b k N t w) ∧ (pleachlaw16_does.W0 A0 A1 c0 c1 n a b k N t w).heap.size = w.heap.size + 3 := by
  have e1 : (w.alloc (.cells #[.slice A0 n c0, .slice A1 n c1, .string a, .string b] 41)).heap.size = w.heap.size + 1 := by simp
  have e2 : ((w.alloc (.cells #[.slice A0 n c0, .slice A1 n c1, .string a, .string b] 41)).alloc (.cells #[.int .i64 k, .int .i64 N, .string t] 38)).heap.size = w.heap.size + 1 + 1 := by simp
  have r5 := M.rec_new (w.alloc (.cells #[.slice A0 n c0, .slice A1 n c1, .string a, .string b] 41)) 38 [.int .i64 k, .int .i64 N, .string t]
  have r7 := M.rec_new ((w.alloc (.cells #[.slice A0 n c0, .slice A1 n c1, .string a, .string b] 41)).alloc (.cells #[.int .i64 k, .int .i64 N, .string t] 38)) 41 [.slice none 0 0, .slice none 0 0, .string ⟨#[]⟩, .string ⟨#[]⟩]
  rw [e1] at r5
  rw [e2] at r7
  exact ⟨M.rec_alloc (M.rec_alloc (M.rec_new w 41 [.slice A0 n c0, .slice A1 n c1, .string a, .string b]) _) _, M.rec_alloc r5 _, r7, below_alloc (below_alloc (below_alloc (Below.refl _ _) _) _) _, by unfold pleachlaw16_does.W0; simp⟩
/-- The boxes' blocks, and the shelf's. -/
def pleachlaw16_does.own (F : Nat → Prop) (z n : Nat) (k : Nat) : Prop := F k ∨ (z ≤ k ∧ k < z + n)
theorem pleachlaw16_does.own_lt {F : Nat → Prop} {z n : Nat} (h : ∀ k, F k → k < z) : ∀ k, pleachlaw16_does.own F z n k → k < z + n := by
  intro k hk
  rcases hk with hk | hk
  · have := h k hk; omega
  · omega
theorem pleachlaw16_does.fin {base g b7 : Nat} {w w3 : World} {F F1 G1 : Nat → Prop} {s1 q1 : M.SS} {B0 B1 : Option Addr} {d0 d1 : Nat} (h7 : M.rec_ w3 b7 41 [.slice none 0 0, .slice none 0 0, .string ⟨#[]⟩, .string ⟨#[]⟩]) (hS : M.Sh Tryd.prog base w3 g F1 s1) (hR : M.Rw w3 G1 q1 B0 B1 d0 d1) (hFG : ∀ k, F1 k → G1 k) (h7G : G1 b7) (h7F : ¬ F1 b7) (hk : Kept w w3 F) (hb : Below base w w3) (hbb : base ≤ b7) (hwb : w.heap.size ≤ b7) (v0 v1 v2 v3 : Value) :
    M.rec_ ((((w3.setCell ⟨b7, 0, none⟩ v0).setCell ⟨b7, 1, none⟩ v1).setCell ⟨b7, 2, none⟩ v2).setCell ⟨b7, 3, none⟩ v3) b7 41 [v0, v1, v2, v3] ∧
    M.Two Tryd.prog base ((((w3.setCell ⟨b7, 0, none⟩ v0).setCell ⟨b7, 1, none⟩ v1).setCell ⟨b7, 2, none⟩ v2).setCell ⟨b7, 3, none⟩ v3) g F1 s1 q1 B0 B1 d0 d1 ∧
    Kept w ((((w3.setCell ⟨b7, 0, none⟩ v0).setCell ⟨b7, 1, none⟩ v1).setCell ⟨b7, 2, none⟩ v2).setCell ⟨b7, 3, none⟩ v3) F ∧
    Below base w ((((w3.setCell ⟨b7, 0, none⟩ v0).setCell ⟨b7, 1, none⟩ v1).setCell ⟨b7, 2, none⟩ v2).setCell ⟨b7, 3, none⟩ v3) := by
  refine ⟨M.rec_set (M.rec_set (M.rec_set (M.rec_set h7 0 v0) 1 v1) 2 v2) 3 v3, M.Rw.two ((((hR.set ⟨b7, 0, none⟩ h7G v0).set ⟨b7, 1, none⟩ h7G v1).set ⟨b7, 2, none⟩ h7G v2).set ⟨b7, 3, none⟩ h7G v3) ((((hS.far ⟨b7, 0, none⟩ h7F v0).far ⟨b7, 1, none⟩ h7F v1).far ⟨b7, 2, none⟩ h7F v2).far ⟨b7, 3, none⟩ h7F v3) hFG, ?_, ?_⟩
  · exact Kept.setCell (p := ⟨b7, 3, none⟩) (Kept.setCell (p := ⟨b7, 2, none⟩) (Kept.setCell (p := ⟨b7, 1, none⟩) (Kept.setCell (p := ⟨b7, 0, none⟩) hk (.inr hwb) v0) (.inr hwb) v1) (.inr hwb) v2) (.inr hwb) v3
  · exact (((hb.setCell (p := ⟨b7, 0, none⟩) hbb v0).setCell (p := ⟨b7, 1, none⟩) hbb v1).setCell (p := ⟨b7, 2, none⟩) hbb v2).setCell (p := ⟨b7, 3, none⟩) hbb v3
theorem pleachlaw16_does.rp {W : World} {G : Nat → Prop} {A0 A1 : Option Addr} {c0 c1 : Nat} {ts ts1 : List ByteArray} {a b t nm a1 b1 : ByteArray} {er : Int} (hR : M.Rw W G ⟨ts, a, b⟩ A0 A1 c0 c1) (hG : ∀ k, G k → k < W.heap.size) (hts : ts.length ≤ 1000000) (hp : (⟨ts, a, b⟩ : M.SS).put t = (nm, er, ⟨ts1, a1, b1⟩)) :
    Calls Tryd.prog 32 #[.agg #[.slice A0 ts.length c0, .slice A1 ts.length c1, .string a, .string b], .string t] W fun e w' => ∃ B0 B1 d0 d1, e = .returned (.tuple #[.agg #[.slice B0 ts1.length d0, .slice B1 ts1.length d1, .string a1, .string b1], .string nm, .int .i64 er]) ∧ M.Rw w' G ⟨ts1, a1, b1⟩ B0 B1 d0 d1 ∧ Below W.heap.size W w' := by
  have := pleachref16_Put.any A0 A1 c0 c1 ⟨ts, a, b⟩ t W (show ts.length ≤ 1000000000 by omega) hR.r0 hR.r1
  rw [hp] at this
  refine this.mono ?_
  rintro e w' ⟨v0, v1, rfl, hv, hb⟩
  obtain ⟨B0, B1, d0, d1, rfl, rfl, h⟩ := hR.rows (q1 := ⟨ts1, a1, b1⟩) hG hb hv
  exact ⟨B0, B1, d0, d1, rfl, h, hb⟩
theorem pleachlaw16_does.sp {W : World} {base g : Nat} {F : Nat → Prop} {ts ts1 : List ByteArray} {a b t nm a1 b1 : ByteArray} {er : Int} (hS : M.Sh Tryd.prog base W g F ⟨ts, a, b⟩) (hT : M.stab W) (hts : ts.length ≤ 1000000) (hz : t.size ≤ 1000000) (hp : (⟨ts, a, b⟩ : M.SS).put t = (nm, er, ⟨ts1, a1, b1⟩)) :
    Calls Tryd.prog 10 #[.pointer (some ⟨g, 0, none⟩), .string t] W fun e w' => e = .returned (.tuple #[.string nm, .int .i64 er]) ∧ ∃ F1, M.Sh Tryd.prog base w' g F1 ⟨ts1, a1, b1⟩ ∧ (∀ k, F1 k → F k ∨ W.heap.size ≤ k) ∧ Kept W w' F ∧ Below base W w' := by
  have := shelf_Shelf_Put.any base g F ⟨ts, a, b⟩ t W hS hT (by omega) (show ts.length ≤ 1000000000 by omega)
  rw [hp] at this
  exact this
set_option maxHeartbeats 8000000 in
set_option maxRecDepth 100000 in
theorem pleachlaw16_does.put_ (base g : Nat) (F : Nat → Prop) (A0 A1 : Option Addr) (c0 c1 : Nat) (N : Int) (ts ts1 : List ByteArray) (a b t nm a1 b1 : ByteArray) (er : Int) (w : World) (h : M.Two Tryd.prog base w g F ⟨ts, a, b⟩ ⟨ts, a, b⟩ A0 A1 c0 c1) (hT : M.stab w) (hts : ts.length ≤ 1000000) (hz : t.size ≤ 1000000) (hp : (⟨ts, a, b⟩ : M.SS).put t = (nm, er, ⟨ts1, a1, b1⟩)) :
    Calls Tryd.prog 15 #[.pointer (some ⟨g, 0, none⟩), .agg #[.slice A0 ts.length c0, .slice A1 ts.length c1, .string a, .string b], .agg #[.int .i64 1, .int .i64 N, .string t]] w fun e w' => ∃ F1 B0 B1 d0 d1, e = .returned (.tuple #[.pointer (some ⟨g, 0, none⟩), .agg #[.slice B0 ts1.length d0, .slice B1 ts1.length d1, .string a1, .string b1], .bool true]) ∧ M.Two Tryd.prog base w' g F1 ⟨ts1, a1, b1⟩ ⟨ts1, a1, b1⟩ B0 B1 d0 d1 ∧ (∀ k, F1 k → F k ∨ w.heap.size ≤ k) ∧ Kept w w' F ∧ Below base w w' := by
  obtain ⟨k4, k5, k7, kb, ks⟩ := pleachlaw16_does.facts A0 A1 c0 c1 ts.length a b 1 N t w
  unfold pleachlaw16_does.W0 at k4 k5 k7 kb ks
  have HC4 := Aside0.mk k4
  have HC5 := Aside0.mk k5
  have HC7 := Aside0.mk k7
  have HB0 := Aside0.mk kb
  have HZ0 := Aside0.mk ks
  have HFL := Aside0.mk h.sh.lt
  have HGL := Aside0.mk (pleachlaw16_does.own_lt (n := 3) h.sh.lt)
  have HS := Aside0.mk (h.sh.below kb)
  have HR := Aside0.mk (h.rw_.step (G1 := pleachlaw16_does.own F w.heap.size 3) (Kept.of_below kb F) (fun k hk => hk.imp id (fun q => q.1)))
  have HT := Aside0.mk (M.stab_below hT kb (M.stab_lt hT))
  have hlt := Aside0.mk (M.stab_lt hT)
  have HT00 := Aside0.mk hT
  have HBL := Aside0.mk h.sh.base_le
  have HP := Aside0.mk hp
  clear k4 k5 k7 kb ks h hT hp
  have hq1 : (nm.toList == nm.toList) = true := by simp
  go_enter Tryd.func15, Tryd.ntmps15
  go_upto_region 5 with (first | ((with_reducible refine gate_dst (N := 22) rfl ?_); (try (refine gate_guard (by rfl) ?_; dsimp only)); refine M.wp_rec_load rfl 41 _ rfl w.heap.size 41 [.slice A0 ts.length c0, .slice A1 ts.length c1, .string a, .string b] rfl HC4.out _ Tryd.underlying41 rfl pleachref16_Put.size_ ?_) | (go_at_call 32; (with_reducible refine (pleachlaw16_does.rp HR.out ?hG hts HP.out).mono ?_); (case hG => rw [HZ0.out]; exact HGL.out); rintro e w1 ⟨B0, B1, d0, d1, rfl, hr, hb⟩; have HR1 := Aside0.mk hr; have HB1 := Aside0.mk (below_step HB0.out hb); have HS1 := Aside0.mk (HS.out.below hb); have HC51 := Aside0.mk (M.rec_below HC5.out hb); have HC71 := Aside0.mk (M.rec_below HC7.out hb); have HZ1 := Aside0.mk (show w.heap.size + 3 ≤ w1.heap.size from HZ0.out ▸ hb.size); clear hr hb) | ((with_reducible refine gate_store (t := 41) (p := 9) (v := .tmp 26) rfl ?_); refine M.wp_rec_store rfl 41 _ _ rfl w1.heap.size 41 [.slice none 0 0, .slice none 0 0, .string ⟨#[]⟩, .string ⟨#[]⟩] [.slice B0 ts1.length d0, .slice B1 ts1.length d1, .string a1, .string b1] rfl rfl (M.rec_new w1 41 [.slice none 0 0, .slice none 0 0, .string ⟨#[]⟩, .string ⟨#[]⟩]) rfl pleachref16_Put.size_ rfl ?_; intro w2 hA2 hF2 hB2 hz2; have HY2 := Aside0.mk (hB2 w1.heap.size w1 (Nat.le_refl _) (below_alloc (Below.refl _ _) _)); have HC92 := Aside0.mk hA2; have HS2 := Aside0.mk (HS1.out.below HY2.out); have HR2 := Aside0.mk (HR1.out.below HY2.out); have HB2 := Aside0.mk (below_step HB1.out HY2.out); have HT2 := Aside0.mk (M.stab_below HT00.out HB2.out hlt.out); have HC52 := Aside0.mk (M.rec_below HC51.out HY2.out); have HC72 := Aside0.mk (M.rec_below HC71.out HY2.out); have q52 : w2.cell? ⟨w.heap.size + 1, 2, none⟩ = some (.string t) := M.rec_cell HC52.out 2 _ rfl; clear hA2 hF2 hB2 hz2) | (go_at_call 10; (with_reducible refine (pleachlaw16_does.sp HS2.out HT2.out hts hz HP.out).mono ?_); rintro e w3 ⟨rfl, F1, hs3, hf3, hk3, hb3⟩; have HS3 := Aside0.mk hs3; have HF3 := Aside0.mk hf3; have HK3 := Aside0.mk hk3; have HB3 := Aside0.mk hb3; have HC73 := Aside0.mk (M.rec_kept HC72.out hk3 (fun q => by have := HFL.out _ q; omega)); have HC93 := Aside0.mk (M.rec_kept HC92.out hk3 (fun q => by have := HFL.out _ q; have := HZ1.out; omega)); clear hs3 hf3 hk3 hb3))
  have c90 : w3.cell? ⟨w1.heap.size, 0, none⟩ = some (.slice B0 ts1.length d0) := M.rec_cell HC93.out 0 _ rfl
  have c91 : w3.cell? ⟨w1.heap.size, 1, none⟩ = some (.slice B1 ts1.length d1) := M.rec_cell HC93.out 1 _ rfl
  have c92 : w3.cell? ⟨w1.heap.size, 2, none⟩ = some (.string a1) := M.rec_cell HC93.out 2 _ rfl
  have c93 : w3.cell? ⟨w1.heap.size, 3, none⟩ = some (.string b1) := M.rec_cell HC93.out 3 _ rfl
  have c70 : w3.cell? ⟨w.heap.size + 1 + 1, 0, none⟩ = some (.slice none 0 0) := M.rec_cell HC73.out 0 _ rfl
  have c71 : w3.cell? ⟨w.heap.size + 1 + 1, 1, none⟩ = some (.slice none 0 0) := M.rec_cell HC73.out 1 _ rfl
  have c72 : w3.cell? ⟨w.heap.size + 1 + 1, 2, none⟩ = some (.string ⟨#[]⟩) := M.rec_cell HC73.out 2 _ rfl
  have c73 : w3.cell? ⟨w.heap.size + 1 + 1, 3, none⟩ = some (.string ⟨#[]⟩) := M.rec_cell HC73.out 3 _ rfl
  have f70 := M.rec_free HC73.out 0
  have f71 := M.rec_free HC73.out 1
  have f72 := M.rec_free HC73.out 2
  have f73 := M.rec_free HC73.out 3
  have HF1 := Aside0.mk (fun k (hk : F1 k) => (HF3.out k hk).imp id (fun q => Nat.le_trans HB2.out.size q))
  have h7F : ¬ F1 (w.heap.size + 1 + 1) := fun q => by
    rcases HF3.out _ q with q | q
    · have := HFL.out _ q; omega
    · have := HZ1.out; have := HY2.out.size; omega
  have HFIN := Aside0.mk (pleachlaw16_does.fin (b7 := w.heap.size + 1 + 1) (G1 := pleachlaw16_does.own F1 w.heap.size 3) HC73.out HS3.out (HR2.out.step (HK3.out.mono (fun k hk => .inl hk)) (fun k hk => by
    rcases hk with hk | hk
    · exact (HF3.out k hk).imp .inl id
    · exact .inl (.inr hk))) (fun k hk => .inl hk) (.inr ⟨by omega, by omega⟩) h7F ((Kept.of_below HB2.out F).then_ HK3.out (fun k hk => .inl hk)) ((HB2.out.mono HBL.out).trans HB3.out) (Nat.le_trans HBL.out (by omega)) (by omega) (.slice B0 ts1.length d0) (.slice B1 ts1.length d1) (.string a1) (.string b1))
  have HC9E := Aside0.mk (M.rec_far (M.rec_far (M.rec_far (M.rec_far HC93.out ⟨w.heap.size + 1 + 1, 0, none⟩ (by have := HZ1.out; simp; omega) (.slice B0 ts1.length d0)) ⟨w.heap.size + 1 + 1, 1, none⟩ (by have := HZ1.out; simp; omega) (.slice B1 ts1.length d1)) ⟨w.heap.size + 1 + 1, 2, none⟩ (by have := HZ1.out; simp; omega) (.string a1)) ⟨w.heap.size + 1 + 1, 3, none⟩ (by have := HZ1.out; simp; omega) (.string b1))
  have hq2 : decide (er = er) = true := decide_eq_true rfl
  have hq3 : (er == er) = true := by simp
  clear HR2 HS3 HK3 HB3 HF3 h7F HC93 HC73
  go_region_held3 (fun w' => w'.cell? ⟨w1.heap.size, 0, none⟩ = some (.slice B0 ts1.length d0) ∧ w'.cell? ⟨w1.heap.size, 1, none⟩ = some (.slice B1 ts1.length d1) ∧ w'.cell? ⟨w1.heap.size, 2, none⟩ = some (.string a1) ∧ w'.cell? ⟨w1.heap.size, 3, none⟩ = some (.string b1)) (first | exact ⟨c90, c91, c92, c93⟩ | exact ⟨M.rec_cell HC9E.out 0 _ rfl, M.rec_cell HC9E.out 1 _ rfl, M.rec_cell HC9E.out 2 _ rfl, M.rec_cell HC9E.out 3 _ rfl⟩ | exact c90 | exact c91 | exact c92 | exact c93 | exact M.rec_cell HC9E.out 0 _ rfl | exact M.rec_cell HC9E.out 1 _ rfl | exact M.rec_cell HC9E.out 2 _ rfl | exact M.rec_cell HC9E.out 3 _ rfl | go_keep) (fail)
  all_goals
    go_wp2
    exact bodyPost_ret (pleachlaw16_does.tct rfl _ _ (w.heap.size + 1 + 1) 41 #[.slice B0 ts1.length d0, .slice B1 ts1.length d1, .string a1, .string b1] (0, 0) _ rfl (by exact HFIN.out.1) Tryd.underlying41 rfl pleachref16_Put.size_) rfl ⟨F1, B0, B1, d0, d1, rfl, HFIN.out.2.1.below ⟨rfl, rfl, rfl, Nat.le_refl _, fun _ _ => rfl⟩, HF1.out, ⟨HFIN.out.2.2.1.1, HFIN.out.2.2.1.2⟩, ⟨HFIN.out.2.2.2.os, HFIN.out.2.2.2.tape, HFIN.out.2.2.2.output, HFIN.out.2.2.2.size, HFIN.out.2.2.2.block⟩⟩
/- CUTS -/
theorem pleachlaw16_does.nocut (base g : Nat) (F : Nat → Prop) (s : M.SS) (n : Int) (w : World) (hS : M.Sh Tryd.prog base w g F s) (hn : n < 0 ∨ (s.ts.length : Int) < n) :
    Calls Tryd.prog 24 #[.pointer (some ⟨g, 0, none⟩), .int .i64 n] w fun e w' => e = .returned (.int .i64 2) ∧ w = w' := shelf_Shelf_Cut.no base g F s n w hS hn
theorem pleachlaw16_does.docut (base g : Nat) (F : Nat → Prop) (ts : List ByteArray) (a b : ByteArray) (k : Nat) (w : World) (hS : M.Sh Tryd.prog base w g F ⟨ts, a, b⟩) (hts : ts.length ≤ 1000000) (hk : k ≤ ts.length) :
    Calls Tryd.prog 24 #[.pointer (some ⟨g, 0, none⟩), .int .i64 (k : Int)] w fun e w' => e = .returned (.int .i64 0) ∧ ∃ F1, M.Sh Tryd.prog base w' g F1 ⟨ts.take k, a, b⟩ ∧ (∀ j, F1 j → F j ∨ w.heap.size ≤ j) ∧ Kept w w' F ∧ Below base w w' := by
  have := shelf_Shelf_Cut.any base g F ⟨ts, a, b⟩ (k : Int) w hS (show ts.length ≤ 1000000000 by omega) (by omega) (show (k : Int) ≤ (ts.length : Int) by omega)
  rw [Int.toNat_natCast] at this
  exact this
theorem pleachlaw16_does.own_step {F F1 : Nat → Prop} {z n W : Nat} (h : ∀ j, F1 j → F j ∨ W ≤ j) : ∀ k, pleachlaw16_does.own F1 z n k → pleachlaw16_does.own F z n k ∨ W ≤ k := by
  intro k hk
  rcases hk with hk | hk
  · exact (h k hk).imp .inl id
  · exact .inl (.inr hk)
set_option maxHeartbeats 8000000 in
set_option maxRecDepth 100000 in
theorem pleachlaw16_does.no1 (base g : Nat) (F : Nat → Prop) (A0 A1 : Option Addr) (c0 c1 : Nat) (N : Int) (ts : List ByteArray) (a b t : ByteArray) (w : World) (h : M.Two Tryd.prog base w g F ⟨ts, a, b⟩ ⟨ts, a, b⟩ A0 A1 c0 c1) (hN0 : N < 0) :
    Calls Tryd.prog 15 #[.pointer (some ⟨g, 0, none⟩), .agg #[.slice A0 ts.length c0, .slice A1 ts.length c1, .string a, .string b], .agg #[.int .i64 2, .int .i64 N, .string t]] w fun e w' => ∃ F1, e = .returned (.tuple #[.pointer (some ⟨g, 0, none⟩), .agg #[.slice A0 ts.length c0, .slice A1 ts.length c1, .string a, .string b], .bool true]) ∧ M.Two Tryd.prog base w' g F1 ⟨ts, a, b⟩ ⟨ts, a, b⟩ A0 A1 c0 c1 ∧ (∀ k, F1 k → F k ∨ w.heap.size ≤ k) ∧ Kept w w' F ∧ Below base w w' := by
  obtain ⟨k4, k5, k7, kb, ks⟩ := pleachlaw16_does.facts A0 A1 c0 c1 ts.length a b 2 N t w
  unfold pleachlaw16_does.W0 at k4 k5 k7 kb ks
  have HC4 := Aside0.mk k4
  have HC5 := Aside0.mk k5
  have HC7 := Aside0.mk k7
  have HB0 := Aside0.mk kb
  have HZ0 := Aside0.mk ks
  have HFL := Aside0.mk h.sh.lt
  have HS := Aside0.mk (h.sh.below kb)
  have HR := Aside0.mk (h.rw_.step (G1 := pleachlaw16_does.own F w.heap.size 3) (Kept.of_below kb F) (fun k hk => hk.imp id (fun q => q.1)))
  have HBL := Aside0.mk h.sh.base_le
  clear k4 k5 k7 kb ks h
  have hd : decide (N < 0) = true := decide_eq_true hN0
  go_enter Tryd.func15, Tryd.ntmps15
  go_upto_region 8 with (fail)
  generalize (((w.alloc (.cells #[.slice A0 ts.length c0, .slice A1 ts.length c1, .string a, .string b] 41)).alloc (.cells #[.int .i64 2, .int .i64 N, .string t] 38)).alloc (.cells #[.slice none 0 0, .slice none 0 0, .string ⟨#[]⟩, .string ⟨#[]⟩] 41)) = W0 at HC4 HC5 HC7 HB0 HZ0 HS HR ⊢
  have f70 := M.rec_free HC7.out 0
  have f71 := M.rec_free HC7.out 1
  have f72 := M.rec_free HC7.out 2
  have f73 := M.rec_free HC7.out 3
  have c70 : W0.cell? ⟨w.heap.size + 1 + 1, 0, none⟩ = some (.slice none 0 0) := M.rec_cell HC7.out 0 _ rfl
  have c71 : W0.cell? ⟨w.heap.size + 1 + 1, 1, none⟩ = some (.slice none 0 0) := M.rec_cell HC7.out 1 _ rfl
  have c72 : W0.cell? ⟨w.heap.size + 1 + 1, 2, none⟩ = some (.string ⟨#[]⟩) := M.rec_cell HC7.out 2 _ rfl
  have c73 : W0.cell? ⟨w.heap.size + 1 + 1, 3, none⟩ = some (.string ⟨#[]⟩) := M.rec_cell HC7.out 3 _ rfl
  have HF1 := Aside0.mk (fun k (hk : F k) => (show F k ∨ w.heap.size ≤ k from .inl hk))
  have h7F : ¬ F (w.heap.size + 1 + 1) := fun q => by have := HFL.out _ q; omega
  have HFIN := Aside0.mk (pleachlaw16_does.fin (F := F) (b7 := w.heap.size + 1 + 1) HC7.out HS.out HR.out (fun k hk => .inl hk) (.inr ⟨by omega, by omega⟩) h7F (Kept.of_below HB0.out F) (HB0.out.mono HBL.out) (Nat.le_trans HBL.out (by omega)) (by omega) (.slice A0 ts.length c0) (.slice A1 ts.length c1) (.string a) (.string b))
  have C4E := Aside0.mk (M.rec_far (M.rec_far (M.rec_far (M.rec_far HC4.out ⟨w.heap.size + 1 + 1, 0, none⟩ (by simp; omega) (.slice A0 ts.length c0)) ⟨w.heap.size + 1 + 1, 1, none⟩ (by simp; omega) (.slice A1 ts.length c1)) ⟨w.heap.size + 1 + 1, 2, none⟩ (by simp; omega) (.string a)) ⟨w.heap.size + 1 + 1, 3, none⟩ (by simp; omega) (.string b))
  have C5E := Aside0.mk (M.rec_far (M.rec_far (M.rec_far (M.rec_far HC5.out ⟨w.heap.size + 1 + 1, 0, none⟩ (by simp) (.slice A0 ts.length c0)) ⟨w.heap.size + 1 + 1, 1, none⟩ (by simp) (.slice A1 ts.length c1)) ⟨w.heap.size + 1 + 1, 2, none⟩ (by simp) (.string a)) ⟨w.heap.size + 1 + 1, 3, none⟩ (by simp) (.string b))
  go_region_held3 (fun w' => w'.cell? ⟨w.heap.size, 0, none⟩ = some (.slice A0 ts.length c0) ∧ w'.cell? ⟨w.heap.size, 1, none⟩ = some (.slice A1 ts.length c1) ∧ w'.cell? ⟨w.heap.size, 2, none⟩ = some (.string a) ∧ w'.cell? ⟨w.heap.size, 3, none⟩ = some (.string b) ∧ w'.cell? ⟨w.heap.size + 1, 1, none⟩ = some (.int .i64 N)) (first | exact ⟨M.rec_cell HC4.out 0 _ rfl, M.rec_cell HC4.out 1 _ rfl, M.rec_cell HC4.out 2 _ rfl, M.rec_cell HC4.out 3 _ rfl, M.rec_cell HC5.out 1 _ rfl⟩ | exact ⟨M.rec_cell C4E.out 0 _ rfl, M.rec_cell C4E.out 1 _ rfl, M.rec_cell C4E.out 2 _ rfl, M.rec_cell C4E.out 3 _ rfl, M.rec_cell C5E.out 1 _ rfl⟩ | exact M.rec_cell HC4.out 0 _ rfl | exact M.rec_cell HC4.out 1 _ rfl | exact M.rec_cell HC4.out 2 _ rfl | exact M.rec_cell HC4.out 3 _ rfl | exact M.rec_cell C4E.out 0 _ rfl | exact M.rec_cell C4E.out 1 _ rfl | exact M.rec_cell C4E.out 2 _ rfl | exact M.rec_cell C4E.out 3 _ rfl | exact M.rec_cell HC5.out 1 _ rfl | exact M.rec_cell C5E.out 1 _ rfl | go_keep) (first | (go_at_call 24; (with_reducible refine (pleachlaw16_does.nocut base g F ⟨ts, a, b⟩ N _ ?hS (.inl hN0)).mono ?_); (case hS => exact HS.out.below ⟨rfl, rfl, rfl, Nat.le_refl _, fun _ _ => rfl⟩); rintro e w1 ⟨rfl, rfl⟩))
  all_goals
    go_wp2
    exact bodyPost_ret (pleachlaw16_does.tct rfl _ _ (w.heap.size + 1 + 1) 41 #[.slice A0 ts.length c0, .slice A1 ts.length c1, .string a, .string b] (0, 0) _ rfl (by exact HFIN.out.1) Tryd.underlying41 rfl pleachref16_Put.size_) rfl ⟨F, rfl, HFIN.out.2.1.below ⟨rfl, rfl, rfl, Nat.le_refl _, fun _ _ => rfl⟩, HF1.out, ⟨HFIN.out.2.2.1.1, HFIN.out.2.2.1.2⟩, ⟨HFIN.out.2.2.2.os, HFIN.out.2.2.2.tape, HFIN.out.2.2.2.output, HFIN.out.2.2.2.size, HFIN.out.2.2.2.block⟩⟩
set_option maxHeartbeats 8000000 in
set_option maxRecDepth 100000 in
theorem pleachlaw16_does.no2 (base g : Nat) (F : Nat → Prop) (A0 A1 : Option Addr) (c0 c1 : Nat) (N : Int) (ts : List ByteArray) (a b t : ByteArray) (w : World) (h : M.Two Tryd.prog base w g F ⟨ts, a, b⟩ ⟨ts, a, b⟩ A0 A1 c0 c1) (hN0 : ¬ N < 0) (hN1 : (ts.length : Int) < N) :
    Calls Tryd.prog 15 #[.pointer (some ⟨g, 0, none⟩), .agg #[.slice A0 ts.length c0, .slice A1 ts.length c1, .string a, .string b], .agg #[.int .i64 2, .int .i64 N, .string t]] w fun e w' => ∃ F1, e = .returned (.tuple #[.pointer (some ⟨g, 0, none⟩), .agg #[.slice A0 ts.length c0, .slice A1 ts.length c1, .string a, .string b], .bool true]) ∧ M.Two Tryd.prog base w' g F1 ⟨ts, a, b⟩ ⟨ts, a, b⟩ A0 A1 c0 c1 ∧ (∀ k, F1 k → F k ∨ w.heap.size ≤ k) ∧ Kept w w' F ∧ Below base w w' := by
  obtain ⟨k4, k5, k7, kb, ks⟩ := pleachlaw16_does.facts A0 A1 c0 c1 ts.length a b 2 N t w
  unfold pleachlaw16_does.W0 at k4 k5 k7 kb ks
  have HC4 := Aside0.mk k4
  have HC5 := Aside0.mk k5
  have HC7 := Aside0.mk k7
  have HB0 := Aside0.mk kb
  have HZ0 := Aside0.mk ks
  have HFL := Aside0.mk h.sh.lt
  have HS := Aside0.mk (h.sh.below kb)
  have HR := Aside0.mk (h.rw_.step (G1 := pleachlaw16_does.own F w.heap.size 3) (Kept.of_below kb F) (fun k hk => hk.imp id (fun q => q.1)))
  have HBL := Aside0.mk h.sh.base_le
  clear k4 k5 k7 kb ks h
  have hd : decide (N < 0) = false := decide_eq_false hN0
  have hd1 : decide ((ts.length : Int) < N) = true := decide_eq_true hN1
  go_enter Tryd.func15, Tryd.ntmps15
  go_upto_region 8 with (fail)
  generalize (((w.alloc (.cells #[.slice A0 ts.length c0, .slice A1 ts.length c1, .string a, .string b] 41)).alloc (.cells #[.int .i64 2, .int .i64 N, .string t] 38)).alloc (.cells #[.slice none 0 0, .slice none 0 0, .string ⟨#[]⟩, .string ⟨#[]⟩] 41)) = W0 at HC4 HC5 HC7 HB0 HZ0 HS HR ⊢
  have f70 := M.rec_free HC7.out 0
  have f71 := M.rec_free HC7.out 1
  have f72 := M.rec_free HC7.out 2
  have f73 := M.rec_free HC7.out 3
  have c70 : W0.cell? ⟨w.heap.size + 1 + 1, 0, none⟩ = some (.slice none 0 0) := M.rec_cell HC7.out 0 _ rfl
  have c71 : W0.cell? ⟨w.heap.size + 1 + 1, 1, none⟩ = some (.slice none 0 0) := M.rec_cell HC7.out 1 _ rfl
  have c72 : W0.cell? ⟨w.heap.size + 1 + 1, 2, none⟩ = some (.string ⟨#[]⟩) := M.rec_cell HC7.out 2 _ rfl
  have c73 : W0.cell? ⟨w.heap.size + 1 + 1, 3, none⟩ = some (.string ⟨#[]⟩) := M.rec_cell HC7.out 3 _ rfl
  have HF1 := Aside0.mk (fun k (hk : F k) => (show F k ∨ w.heap.size ≤ k from .inl hk))
  have h7F : ¬ F (w.heap.size + 1 + 1) := fun q => by have := HFL.out _ q; omega
  have HFIN := Aside0.mk (pleachlaw16_does.fin (F := F) (b7 := w.heap.size + 1 + 1) HC7.out HS.out HR.out (fun k hk => .inl hk) (.inr ⟨by omega, by omega⟩) h7F (Kept.of_below HB0.out F) (HB0.out.mono HBL.out) (Nat.le_trans HBL.out (by omega)) (by omega) (.slice A0 ts.length c0) (.slice A1 ts.length c1) (.string a) (.string b))
  have C4E := Aside0.mk (M.rec_far (M.rec_far (M.rec_far (M.rec_far HC4.out ⟨w.heap.size + 1 + 1, 0, none⟩ (by simp; omega) (.slice A0 ts.length c0)) ⟨w.heap.size + 1 + 1, 1, none⟩ (by simp; omega) (.slice A1 ts.length c1)) ⟨w.heap.size + 1 + 1, 2, none⟩ (by simp; omega) (.string a)) ⟨w.heap.size + 1 + 1, 3, none⟩ (by simp; omega) (.string b))
  have C5E := Aside0.mk (M.rec_far (M.rec_far (M.rec_far (M.rec_far HC5.out ⟨w.heap.size + 1 + 1, 0, none⟩ (by simp) (.slice A0 ts.length c0)) ⟨w.heap.size + 1 + 1, 1, none⟩ (by simp) (.slice A1 ts.length c1)) ⟨w.heap.size + 1 + 1, 2, none⟩ (by simp) (.string a)) ⟨w.heap.size + 1 + 1, 3, none⟩ (by simp) (.string b))
  go_region_held3 (fun w' => w'.cell? ⟨w.heap.size, 0, none⟩ = some (.slice A0 ts.length c0) ∧ w'.cell? ⟨w.heap.size, 1, none⟩ = some (.slice A1 ts.length c1) ∧ w'.cell? ⟨w.heap.size, 2, none⟩ = some (.string a) ∧ w'.cell? ⟨w.heap.size, 3, none⟩ = some (.string b) ∧ w'.cell? ⟨w.heap.size + 1, 1, none⟩ = some (.int .i64 N)) (first | exact ⟨M.rec_cell HC4.out 0 _ rfl, M.rec_cell HC4.out 1 _ rfl, M.rec_cell HC4.out 2 _ rfl, M.rec_cell HC4.out 3 _ rfl, M.rec_cell HC5.out 1 _ rfl⟩ | exact ⟨M.rec_cell C4E.out 0 _ rfl, M.rec_cell C4E.out 1 _ rfl, M.rec_cell C4E.out 2 _ rfl, M.rec_cell C4E.out 3 _ rfl, M.rec_cell C5E.out 1 _ rfl⟩ | exact M.rec_cell HC4.out 0 _ rfl | exact M.rec_cell HC4.out 1 _ rfl | exact M.rec_cell HC4.out 2 _ rfl | exact M.rec_cell HC4.out 3 _ rfl | exact M.rec_cell C4E.out 0 _ rfl | exact M.rec_cell C4E.out 1 _ rfl | exact M.rec_cell C4E.out 2 _ rfl | exact M.rec_cell C4E.out 3 _ rfl | exact M.rec_cell HC5.out 1 _ rfl | exact M.rec_cell C5E.out 1 _ rfl | go_keep) (first | (go_at_call 24; (with_reducible refine (pleachlaw16_does.nocut base g F ⟨ts, a, b⟩ N _ ?hS (.inr hN1)).mono ?_); (case hS => exact HS.out.below ⟨rfl, rfl, rfl, Nat.le_refl _, fun _ _ => rfl⟩); rintro e w1 ⟨rfl, rfl⟩))
  all_goals
    go_wp2
    exact bodyPost_ret (pleachlaw16_does.tct rfl _ _ (w.heap.size + 1 + 1) 41 #[.slice A0 ts.length c0, .slice A1 ts.length c1, .string a, .string b] (0, 0) _ rfl (by exact HFIN.out.1) Tryd.underlying41 rfl pleachref16_Put.size_) rfl ⟨F, rfl, HFIN.out.2.1.below ⟨rfl, rfl, rfl, Nat.le_refl _, fun _ _ => rfl⟩, HF1.out, ⟨HFIN.out.2.2.1.1, HFIN.out.2.2.1.2⟩, ⟨HFIN.out.2.2.2.os, HFIN.out.2.2.2.tape, HFIN.out.2.2.2.output, HFIN.out.2.2.2.size, HFIN.out.2.2.2.block⟩⟩
set_option maxHeartbeats 8000000 in
set_option maxRecDepth 100000 in
theorem pleachlaw16_does.cut_ (base g : Nat) (F : Nat → Prop) (A0 A1 : Option Addr) (c0 c1 : Nat) (m : Nat) (ts : List ByteArray) (a b t : ByteArray) (w : World) (h : M.Two Tryd.prog base w g F ⟨ts, a, b⟩ ⟨ts, a, b⟩ A0 A1 c0 c1) (hts : ts.length ≤ 1000000) (hm : m ≤ ts.length) :
    Calls Tryd.prog 15 #[.pointer (some ⟨g, 0, none⟩), .agg #[.slice A0 ts.length c0, .slice A1 ts.length c1, .string a, .string b], .agg #[.int .i64 2, .int .i64 (m : Int), .string t]] w fun e w' => ∃ F1, e = .returned (.tuple #[.pointer (some ⟨g, 0, none⟩), .agg #[.slice A0 m c0, .slice A1 m c1, .string a, .string b], .bool true]) ∧ M.Two Tryd.prog base w' g F1 ⟨ts.take m, a, b⟩ ⟨ts.take m, a, b⟩ A0 A1 c0 c1 ∧ (∀ k, F1 k → F k ∨ w.heap.size ≤ k) ∧ Kept w w' F ∧ Below base w w' := by
  have hq0 := h.h0
  have hq1 := h.h1
  obtain ⟨k4, k5, k7, kb, ks⟩ := pleachlaw16_does.facts A0 A1 c0 c1 ts.length a b 2 (m : Int) t w
  unfold pleachlaw16_does.W0 at k4 k5 k7 kb ks
  have HC4 := Aside0.mk k4
  have HC5 := Aside0.mk k5
  have HC7 := Aside0.mk k7
  have HB0 := Aside0.mk kb
  have HZ0 := Aside0.mk ks
  have HFL := Aside0.mk h.sh.lt
  have HS := Aside0.mk (h.sh.below kb)
  have HR := Aside0.mk (h.rw_.step (G1 := pleachlaw16_does.own F w.heap.size 3) (Kept.of_below kb F) (fun k hk => hk.imp id (fun q => q.1)))
  have HBL := Aside0.mk h.sh.base_le
  clear k4 k5 k7 kb ks h
  have hd : decide ((m : Int) < 0) = false := decide_eq_false (by omega)
  have hd1 : decide ((ts.length : Int) < (m : Int)) = false := decide_eq_false (by omega)
  have hd2 : decide (ts.length < m) = false := decide_eq_false (by omega)
  go_enter Tryd.func15, Tryd.ntmps15
  go_upto_region 9 with (fail)
  generalize (((w.alloc (.cells #[.slice A0 ts.length c0, .slice A1 ts.length c1, .string a, .string b] 41)).alloc (.cells #[.int .i64 2, .int .i64 (m : Int), .string t] 38)).alloc (.cells #[.slice none 0 0, .slice none 0 0, .string ⟨#[]⟩, .string ⟨#[]⟩] 41)) = W0 at HC4 HC5 HC7 HB0 HZ0 HS HR ⊢
  go_region_held3 (fun w' => w'.cell? ⟨w.heap.size, 0, none⟩ = some (.slice A0 ts.length c0) ∧ w'.cell? ⟨w.heap.size, 1, none⟩ = some (.slice A1 ts.length c1) ∧ w'.cell? ⟨w.heap.size, 2, none⟩ = some (.string a) ∧ w'.cell? ⟨w.heap.size, 3, none⟩ = some (.string b) ∧ w'.cell? ⟨w.heap.size + 1, 1, none⟩ = some (.int .i64 (m : Int))) (first | exact ⟨M.rec_cell C4E.out 0 _ rfl, M.rec_cell C4E.out 1 _ rfl, M.rec_cell C4E.out 2 _ rfl, M.rec_cell C4E.out 3 _ rfl, M.rec_cell C5E.out 1 _ rfl⟩ | exact ⟨M.rec_cell C4w3.out 0 _ rfl, M.rec_cell C4w3.out 1 _ rfl, M.rec_cell C4w3.out 2 _ rfl, M.rec_cell C4w3.out 3 _ rfl, M.rec_cell C5w3.out 1 _ rfl⟩ | exact ⟨M.rec_cell C41.out 0 _ rfl, M.rec_cell C41.out 1 _ rfl, M.rec_cell C41.out 2 _ rfl, M.rec_cell C41.out 3 _ rfl, M.rec_cell C51.out 1 _ rfl⟩ | exact ⟨M.rec_cell HC4.out 0 _ rfl, M.rec_cell HC4.out 1 _ rfl, M.rec_cell HC4.out 2 _ rfl, M.rec_cell HC4.out 3 _ rfl, M.rec_cell HC5.out 1 _ rfl⟩ | exact M.rec_cell C4E.out 0 _ rfl | exact M.rec_cell C4E.out 1 _ rfl | exact M.rec_cell C4E.out 2 _ rfl | exact M.rec_cell C4E.out 3 _ rfl | exact M.rec_cell C4w3.out 0 _ rfl | exact M.rec_cell C4w3.out 1 _ rfl | exact M.rec_cell C4w3.out 2 _ rfl | exact M.rec_cell C4w3.out 3 _ rfl | exact M.rec_cell C41.out 0 _ rfl | exact M.rec_cell C41.out 1 _ rfl | exact M.rec_cell C41.out 2 _ rfl | exact M.rec_cell C41.out 3 _ rfl | exact M.rec_cell HC4.out 0 _ rfl | exact M.rec_cell HC4.out 1 _ rfl | exact M.rec_cell HC4.out 2 _ rfl | exact M.rec_cell HC4.out 3 _ rfl | exact M.rec_cell C5E.out 1 _ rfl | exact M.rec_cell C5w3.out 1 _ rfl | exact M.rec_cell C51.out 1 _ rfl | exact M.rec_cell HC5.out 1 _ rfl | go_keep) (first | (go_at_call 33; (with_reducible refine (pleachref16_Cut.calls A0 A1 ts.length c0 c1 m a b _ hm hq0 hq1).mono ?_); rintro e w1 ⟨rfl, hb⟩; have HB1 := Aside0.mk (show Below W0.heap.size W0 w1 from ⟨hb.os, hb.tape, hb.output, hb.size, hb.block⟩); have C41 := Aside0.mk (M.rec_below HC4.out HB1.out); have C51 := Aside0.mk (M.rec_below HC5.out HB1.out); have C71 := Aside0.mk (M.rec_below HC7.out HB1.out); have S1 := Aside0.mk (HS.out.below HB1.out); have R1 := Aside0.mk (HR.out.below HB1.out); have HBW := Aside0.mk (below_step HB0.out HB1.out); clear hb) | (go_at_call 24; (with_reducible refine (pleachlaw16_does.docut base g F ts a b m _ ?hS hts hm).mono ?_); (case hS => exact S1.out.below ⟨rfl, rfl, rfl, Nat.le_refl _, fun _ _ => rfl⟩); rintro e w3 ⟨rfl, F1, hs3, hf3, hk3, hb3⟩; have HK3 := Aside0.mk (show Kept w1 w3 F from ⟨hk3.1, hk3.2⟩); have HB3 := Aside0.mk (show Below base w1 w3 from ⟨hb3.os, hb3.tape, hb3.output, hb3.size, hb3.block⟩); have HS3 := Aside0.mk hs3; have HF3 := Aside0.mk (show ∀ j, F1 j → F j ∨ w1.heap.size ≤ j from hf3); have hz1 : w.heap.size + 3 ≤ w1.heap.size := (by rw [← HZ0.out]; exact HB1.out.size); have C4w3 := Aside0.mk (M.rec_kept C41.out HK3.out (fun q => by have := HFL.out _ q; omega)); have C5w3 := Aside0.mk (M.rec_kept C51.out HK3.out (fun q => by have := HFL.out _ q; omega)); have C7w3 := Aside0.mk (M.rec_kept C71.out HK3.out (fun q => by have := HFL.out _ q; omega)); have h7F : ¬ F1 (w.heap.size + 1 + 1) := (fun q => (HF3.out _ q).elim (fun q => by have := HFL.out _ q; omega) (fun q => by omega)); have HF1 := Aside0.mk (fun k (hk : F1 k) => (HF3.out k hk).imp id (fun q => Nat.le_trans HBW.out.size q)); have HFIN := Aside0.mk (pleachlaw16_does.fin (b7 := w.heap.size + 1 + 1) (G1 := pleachlaw16_does.own F1 w.heap.size 3) C7w3.out HS3.out ((R1.out.cut m hm).step (HK3.out.mono (fun k hk => .inl hk)) (pleachlaw16_does.own_step HF3.out)) (fun k hk => .inl hk) (.inr ⟨by omega, by omega⟩) h7F ((Kept.of_below HBW.out F).then_ HK3.out (fun k hk => .inl hk)) ((HBW.out.mono HBL.out).trans HB3.out) (Nat.le_trans HBL.out (by omega)) (by omega) (.slice A0 m c0) (.slice A1 m c1) (.string a) (.string b)); have C4E := Aside0.mk (M.rec_far (M.rec_far (M.rec_far (M.rec_far C4w3.out ⟨w.heap.size + 1 + 1, 0, none⟩ (by simp; omega) (.slice A0 m c0)) ⟨w.heap.size + 1 + 1, 1, none⟩ (by simp; omega) (.slice A1 m c1)) ⟨w.heap.size + 1 + 1, 2, none⟩ (by simp; omega) (.string a)) ⟨w.heap.size + 1 + 1, 3, none⟩ (by simp; omega) (.string b)); have C5E := Aside0.mk (M.rec_far (M.rec_far (M.rec_far (M.rec_far C5w3.out ⟨w.heap.size + 1 + 1, 0, none⟩ (by simp) (.slice A0 m c0)) ⟨w.heap.size + 1 + 1, 1, none⟩ (by simp) (.slice A1 m c1)) ⟨w.heap.size + 1 + 1, 2, none⟩ (by simp) (.string a)) ⟨w.heap.size + 1 + 1, 3, none⟩ (by simp) (.string b)); have c70 : w3.cell? ⟨w.heap.size + 1 + 1, 0, none⟩ = some (.slice none 0 0) := M.rec_cell C7w3.out 0 _ rfl; have f70 := M.rec_free C7w3.out 0; have c71 : w3.cell? ⟨w.heap.size + 1 + 1, 1, none⟩ = some (.slice none 0 0) := M.rec_cell C7w3.out 1 _ rfl; have f71 := M.rec_free C7w3.out 1; have c72 : w3.cell? ⟨w.heap.size + 1 + 1, 2, none⟩ = some (.string ⟨#[]⟩) := M.rec_cell C7w3.out 2 _ rfl; have f72 := M.rec_free C7w3.out 2; have c73 : w3.cell? ⟨w.heap.size + 1 + 1, 3, none⟩ = some (.string ⟨#[]⟩) := M.rec_cell C7w3.out 3 _ rfl; have f73 := M.rec_free C7w3.out 3; clear hs3 hf3 hk3 hb3))
  all_goals
    go_wp2
    exact bodyPost_ret (pleachlaw16_does.tct rfl _ _ (w.heap.size + 1 + 1) 41 #[.slice A0 m c0, .slice A1 m c1, .string a, .string b] (0, 0) _ rfl (by exact HFIN.out.1) Tryd.underlying41 rfl pleachref16_Put.size_) rfl ⟨F1, rfl, HFIN.out.2.1.below ⟨rfl, rfl, rfl, Nat.le_refl _, fun _ _ => rfl⟩, HF1.out, ⟨HFIN.out.2.2.1.1, HFIN.out.2.2.1.2⟩, ⟨HFIN.out.2.2.2.os, HFIN.out.2.2.2.tape, HFIN.out.2.2.2.output, HFIN.out.2.2.2.size, HFIN.out.2.2.2.block⟩⟩
/- ONLY -/
theorem pleachlaw16_does.facts2 (A0 A1 : Option Addr) (c0 c1 n : Nat) (a b : ByteArray) (k N : Int) (t : ByteArray) (w : World) :
    M.rec_ ((pleachlaw16_does.W0 A0 A1 c0 c1 n a b k N t w).alloc (.cells #[.slice none 0 0, .slice none 0 0, .string ⟨#[]⟩, .string ⟨#[]⟩] 41)) w.heap.size 41 [.slice A0 n c0, .slice A1 n c1, .string a, .string b] ∧ M.rec_ ((pleachlaw16_does.W0 A0 A1 c0 c1 n a b k N t w).alloc (.cells #[.slice none 0 0, .slice none 0 0, .string ⟨#[]⟩, .string ⟨#[]⟩] 41)) (w.heap.size + 1 + 1) 41 [.slice none 0 0, .slice none 0 0, .string ⟨#[]⟩, .string ⟨#[]⟩] ∧
    M.rec_ ((pleachlaw16_does.W0 A0 A1 c0 c1 n a b k N t w).alloc (.cells #[.slice none 0 0, .slice none 0 0, .string ⟨#[]⟩, .string ⟨#[]⟩] 41)) (w.heap.size + 1 + 1 + 1) 41 [.slice none 0 0, .slice none 0 0, .string ⟨#[]⟩, .string ⟨#[]⟩] ∧ Below w.heap.size w ((pleachlaw16_does.W0 A0 A1 c0 c1 n a b k N t w).alloc (.cells #[.slice none 0 0, .slice none 0 0, .string ⟨#[]⟩, .string ⟨#[]⟩] 41)) ∧ ((pleachlaw16_does.W0 A0 A1 c0 c1 n a b k N t w).alloc (.cells #[.slice none 0 0, .slice none 0 0, .string ⟨#[]⟩, .string ⟨#[]⟩] 41)).heap.size = w.heap.size + 4 := by
  obtain ⟨h4, h5, h7, hb, hz⟩ := pleachlaw16_does.facts A0 A1 c0 c1 n a b k N t w
  have r := M.rec_new (pleachlaw16_does.W0 A0 A1 c0 c1 n a b k N t w) 41 [.slice none 0 0, .slice none 0 0, .string ⟨#[]⟩, .string ⟨#[]⟩]
  rw [hz] at r
  exact ⟨M.rec_alloc h4 _, M.rec_alloc h7 _, r, below_alloc hb _, by simp [hz]⟩
theorem pleachlaw16_does.rpq {W : World} {G : Nat → Prop} {A0 A1 : Option Addr} {c0 c1 : Nat} {q q1 : M.SS} {t : ByteArray} (hR : M.Rw W G q A0 A1 c0 c1) (hG : ∀ k, G k → k < W.heap.size) (hts : q.ts.length ≤ 1000000) (hp : (q.put t).2.2 = q1) :
    Calls Tryd.prog 32 #[.agg #[.slice A0 q.ts.length c0, .slice A1 q.ts.length c1, .string q.a, .string q.b], .string t] W fun e w' => ∃ B0 B1 d0 d1 nm er, e = .returned (.tuple #[.agg #[.slice B0 q1.ts.length d0, .slice B1 q1.ts.length d1, .string q1.a, .string q1.b], .string nm, .int .i64 er]) ∧ M.Rw w' G q1 B0 B1 d0 d1 ∧ Below W.heap.size W w' := by
  obtain ⟨nm, er, q2⟩ : ByteArray × Int × M.SS := q.put t
  have := pleachref16_Put.any A0 A1 c0 c1 q t W (by omega) hR.r0 hR.r1
  rw [hp] at this
  refine this.mono ?_
  rintro e w' ⟨v0, v1, rfl, hv, hb⟩
  obtain ⟨B0, B1, d0, d1, rfl, rfl, h⟩ := hR.rows (q1 := q1) hG hb hv
  exact ⟨B0, B1, d0, d1, _, _, rfl, h, hb⟩
set_option maxHeartbeats 8000000 in
set_option maxRecDepth 100000 in
theorem pleachlaw16_does.only_ (base g : Nat) (F : Nat → Prop) (A0 A1 : Option Addr) (c0 c1 : Nat) (kd N : Int) (ts : List ByteArray) (a b t : ByteArray) (w : World) (h : M.Two Tryd.prog base w g F ⟨ts, a, b⟩ ⟨ts, a, b⟩ A0 A1 c0 c1) (hT : M.stab w) (hts : ts.length ≤ 1000000) (hz : ∀ x ∈ ts, x.size ≤ 1000000) (hk1 : kd ≠ 1) (hk2 : kd ≠ 2) :
    Calls Tryd.prog 15 #[.pointer (some ⟨g, 0, none⟩), .agg #[.slice A0 ts.length c0, .slice A1 ts.length c1, .string a, .string b], .agg #[.int .i64 kd, .int .i64 N, .string t]] w fun e w' => ∃ g1 F1 B0 B1 d0 d1, e = .returned (.tuple #[.pointer (some ⟨g1, 0, none⟩), .agg #[.slice B0 (M.SS.only ⟨ts, a, b⟩ pleachlaw16_even.p ts.length).ts.length d0, .slice B1 (M.SS.only ⟨ts, a, b⟩ pleachlaw16_even.p ts.length).ts.length d1, .string (M.SS.only ⟨ts, a, b⟩ pleachlaw16_even.p ts.length).a, .string (M.SS.only ⟨ts, a, b⟩ pleachlaw16_even.p ts.length).b], .bool true]) ∧ M.Two Tryd.prog base w' g1 F1 (M.SS.only ⟨ts, a, b⟩ pleachlaw16_even.p ts.length) (M.SS.only ⟨ts, a, b⟩ pleachlaw16_even.p ts.length) B0 B1 d0 d1 ∧ (∀ k, F1 k → F k ∨ w.heap.size ≤ k) ∧ Kept w w' F ∧ Below base w w' := by
  obtain ⟨k4, k7, k14, kb, ks⟩ := pleachlaw16_does.facts2 A0 A1 c0 c1 ts.length a b kd N t w
  unfold pleachlaw16_does.W0 at k4 k7 k14 kb ks
  have HC4 := Aside0.mk k4
  have HC7 := Aside0.mk k7
  have HC14 := Aside0.mk k14
  have HB0 := Aside0.mk kb
  have HZ0 := Aside0.mk ks
  have HFL := Aside0.mk h.sh.lt
  have HGL := Aside0.mk (pleachlaw16_does.own_lt (n := 4) h.sh.lt)
  have HS := Aside0.mk (h.sh.below kb)
  have HR := Aside0.mk (h.rw_.step (G1 := pleachlaw16_does.own F w.heap.size 4) (Kept.of_below kb F) (fun k hk => hk.imp id (fun q => q.1)))
  have HBL := Aside0.mk h.sh.base_le
  have HT0 := Aside0.mk hT
  have hlt := Aside0.mk (M.stab_lt hT)
  have HZT := Aside0.mk hz
  have HON := Aside0.mk (fun k (hk : k < ts.length) => M.SS.only_step pleachlaw16_even.p ts a b k hk)
  have HLN := Aside0.mk (fun k => M.SS.only_len pleachlaw16_even.p ts a b k)
  have hd1 : decide (kd = 1) = false := decide_eq_false hk1
  have hd2 : decide (kd = 2) = false := decide_eq_false hk2
  have he1 : (kd == 1) = false := beq_eq_false_iff_ne.2 hk1
  have he2 : (kd == 2) = false := beq_eq_false_iff_ne.2 hk2
  clear k4 k7 k14 kb ks h hT hz
  obtain ⟨qq, hqq⟩ : ∃ qq, M.SS.only ⟨ts, a, b⟩ pleachlaw16_even.p ts.length = qq := ⟨_, rfl⟩
  rw [hqq]
  have HQQ := Aside0.mk hqq
  clear hqq
  go_enter Tryd.func15, Tryd.ntmps15
  go_upto_region 11 with (fail)
  generalize ((((w.alloc (.cells #[.slice A0 ts.length c0, .slice A1 ts.length c1, .string a, .string b] 41)).alloc (.cells #[.int .i64 kd, .int .i64 N, .string t] 38)).alloc (.cells #[.slice none 0 0, .slice none 0 0, .string ⟨#[]⟩, .string ⟨#[]⟩] 41)).alloc (.cells #[.slice none 0 0, .slice none 0 0, .string ⟨#[]⟩, .string ⟨#[]⟩] 41)) = W0 at HC4 HC7 HC14 HB0 HZ0 HS HR ⊢
  have c40 : W0.cell? ⟨w.heap.size, 0, none⟩ = some (.slice A0 ts.length c0) := M.rec_cell HC4.out 0 _ rfl
  go_wp2
  clear c40
  go_loopg [79] (ts.length) (fun kq v79 wr => ∃ (k : Nat) (q : M.SS) (B0 B1 : Option Addr) (d0 d1 : Nat), v79 = .int .i64 (k : Int) ∧ k ≤ ts.length ∧ Aside0 (kq = ts.length - k) ∧ Aside0 (q = M.SS.only ⟨ts, a, b⟩ pleachlaw16_even.p k) ∧ Aside0 (Below w.heap.size w wr) ∧ Aside0 (w.heap.size + 4 ≤ wr.heap.size) ∧ Aside0 (M.rec_ wr (w.heap.size + 1 + 1) 41 [.slice none 0 0, .slice none 0 0, .string ⟨#[]⟩, .string ⟨#[]⟩]) ∧ Aside0 (M.rec_ wr (w.heap.size + 1 + 1 + 1) 41 [.slice B0 q.ts.length d0, .slice B1 q.ts.length d1, .string q.a, .string q.b]) ∧ Aside0 (M.Rw wr (pleachlaw16_does.own F w.heap.size 4) q B0 B1 d0 d1) ∧ Aside0 (M.Rw wr (pleachlaw16_does.own F w.heap.size 4) ⟨ts, a, b⟩ A0 A1 c0 c1) ∧ Aside0 (M.Sh Tryd.prog base wr g F ⟨ts, a, b⟩))
  case atStart => exact ⟨0, M.SS.none_, none, none, 0, 0, rfl, Nat.zero_le _, ⟨rfl⟩, ⟨(M.SS.only_zero pleachlaw16_even.p ts a b).symm⟩, HB0, ⟨Nat.le_of_eq HZ0.out.symm⟩, HC7, HC14, ⟨M.Rw.nil_ _ _⟩, HR, HS⟩
  case round =>
    clear HC4 HC7 HC14 HB0 HZ0 HS HR
    obtain ⟨k, q, B0, B1, d0, d1, rfl, hk, hkq, HQ, HB, HZ, HC7, HC14, HRq, HR, HS⟩ := hrel
    by_cases hk2' : k < ts.length
    · obtain ⟨x, hx⟩ : ∃ x, ts.getD k ByteArray.empty = x := ⟨_, rfl⟩
      obtain ⟨y, hy⟩ : ∃ y, M.shaSum x = y := ⟨_, rfl⟩
      obtain ⟨a0, e0, hx1⟩ := Kd.at_string HR.out.r0 (k : Int) (by omega) (show (k : Int) < (ts.length : Int) by omega)
      rw [show rdOf ByteArray.empty ts (k : Int) = x from by rw [← hx]; rfl, Int.toNat_natCast] at hx1
      subst e0
      have hxm : x ∈ ts := by rw [← hx]; exact M.getD_mem hk2'
      have hxz := HZT.out x hxm
      have p1 : (k : Int) < (ts.length : Int) := by omega
      have p2 : (0 : Int) ≤ (k : Int) := by omega
      have p3 := decide_eq_true p1
      have HSum := Aside0.mk (show pleachref03_Sum.f x = some y by rw [← hy]; exact pleachref03_Sum.eq_ x (by omega))
      have HE := Aside0.mk (pleachlaw16_even.eq_ y)
      obtain ⟨bb, hbb⟩ : ∃ bb, pleachlaw16_even.p y = bb := ⟨_, rfl⟩
      have hst := HON.out k hk2'
      rw [hx, hy, hbb, ← HQ.out] at hst
      rw [hbb] at HE
      have hln := HLN.out k
      rw [← HQ.out] at hln
      clear hx hy hbb hxm
      cases bb with
      | true =>
        rw [if_pos rfl] at hst
        obtain ⟨q1, hq1⟩ : ∃ q1, (q.put x).2.2 = q1 := ⟨_, rfl⟩
        rw [hq1] at hst
        have HST := Aside0.mk hst
        have HQ1 := Aside0.mk hq1
        clear hst hq1
        go_wp2_with (first | (go_at_call 27; (with_reducible refine (pleachref03_Sum.calls x y _ HSum.out).mono ?_); rintro e wa ⟨rfl, hb⟩; have HB1 := Aside0.mk (below_step HB.out hb); have HZ1 := Aside0.mk (Nat.le_trans HZ.out hb.size); have HC71 := Aside0.mk (M.rec_below HC7.out hb); have HC141 := Aside0.mk (M.rec_below HC14.out hb); have HRq1 := Aside0.mk (HRq.out.below hb); have HR1 := Aside0.mk (HR.out.below hb); have HS1 := Aside0.mk (HS.out.below hb); clear hb) | (go_at_call 26; (with_reducible refine (pleachlaw16_even.calls y _ _ HE.out).mono ?_); rintro e wb ⟨rfl, hd⟩; have hb := hd.below; have HB2 := Aside0.mk (below_step HB1.out hb); have HZ2 := Aside0.mk (Nat.le_trans HZ1.out hb.size); have HC72 := Aside0.mk (M.rec_below HC71.out hb); have HC142 := Aside0.mk (M.rec_below HC141.out hb); have HRq2 := Aside0.mk (HRq1.out.below hb); have HR2 := Aside0.mk (HR1.out.below hb); have HS2 := Aside0.mk (HS1.out.below hb); clear hb hd) | ((with_reducible refine gate_dst (N := 87) rfl ?_); (try (refine gate_guard (by rfl) ?_; dsimp only)); refine M.wp_rec_load rfl 41 _ rfl (w.heap.size + 1 + 1 + 1) 41 [.slice B0 q.ts.length d0, .slice B1 q.ts.length d1, .string q.a, .string q.b] rfl HC142.out _ Tryd.underlying41 rfl pleachref16_Put.size_ ?_) | (go_at_call 32; (with_reducible refine (pleachlaw16_does.rpq HRq2.out ?hG (by omega) HQ1.out).mono ?_); (case hG => exact fun k hk => Nat.lt_of_lt_of_le (HGL.out k hk) HZ2.out); rintro e wc ⟨E0, E1, f0, f1, nm, er, rfl, hr, hb⟩; have HRn := Aside0.mk hr; have HB3 := Aside0.mk (below_step HB2.out hb); have HZ3 := Aside0.mk (Nat.le_trans HZ2.out hb.size); have HC73 := Aside0.mk (M.rec_below HC72.out hb); have HC143 := Aside0.mk (M.rec_below HC142.out hb); have HRq3 := Aside0.mk (HRq2.out.below hb); have HR3 := Aside0.mk (HR2.out.below hb); have HS3 := Aside0.mk (HS2.out.below hb); clear hb hr) | ((with_reducible refine gate_store (t := 41) (p := 14) (v := .tmp 90) rfl ?_); refine M.wp_rec_store rfl 41 _ _ rfl (w.heap.size + 1 + 1 + 1) 41 [.slice B0 q.ts.length d0, .slice B1 q.ts.length d1, .string q.a, .string q.b] [.slice E0 q1.ts.length f0, .slice E1 q1.ts.length f1, .string q1.a, .string q1.b] rfl rfl HC143.out rfl pleachref16_Put.size_ rfl ?_; intro w4 hA4 hF4 hB4 hz4; have HK4 := Aside0.mk (show Kept wc w4 (fun k => k = (w.heap.size + 1 + 1 + 1)) from ⟨Nat.le_of_eq hz4.symm, fun i _ hn => hF4 i hn⟩); have HB4 := Aside0.mk (hB4 _ _ (by omega) HB3.out); have HZ4 := Aside0.mk (show w.heap.size + 4 ≤ w4.heap.size from by rw [hz4]; exact HZ3.out); have HC74 := Aside0.mk (M.rec_other HC73.out hF4 (by omega)); have HC144 := Aside0.mk hA4; have HRq4 := Aside0.mk (HRn.out.kept HK4.out (fun k hk => .inr ⟨by omega, by omega⟩)); have HR4 := Aside0.mk (HR3.out.kept HK4.out (fun k hk => .inr ⟨by omega, by omega⟩)); have HS4 := Aside0.mk (HS3.out.kept HK4.out (fun k hk e => by have := HFL.out k hk; omega)); clear hA4 hF4 hB4 hz4))
        go_roundg (ts.length - (k + 1))
        case measure => have := hkq.out; omega
        case rel => exact ⟨k + 1, q1, E0, E1, f0, f1, by go_num, by omega, ⟨rfl⟩, ⟨HST.out.symm⟩, HB4, HZ4, HC74, HC144, HRq4, HR4, HS4⟩
      | false =>
        rw [if_neg (by simp)] at hst
        have HST := Aside0.mk hst
        clear hst
        go_wp2_with (first | (go_at_call 27; (with_reducible refine (pleachref03_Sum.calls x y _ HSum.out).mono ?_); rintro e wa ⟨rfl, hb⟩; have HB1 := Aside0.mk (below_step HB.out hb); have HZ1 := Aside0.mk (Nat.le_trans HZ.out hb.size); have HC71 := Aside0.mk (M.rec_below HC7.out hb); have HC141 := Aside0.mk (M.rec_below HC14.out hb); have HRq1 := Aside0.mk (HRq.out.below hb); have HR1 := Aside0.mk (HR.out.below hb); have HS1 := Aside0.mk (HS.out.below hb); clear hb) | (go_at_call 26; (with_reducible refine (pleachlaw16_even.calls y _ _ HE.out).mono ?_); rintro e wb ⟨rfl, hd⟩; have hb := hd.below; have HB2 := Aside0.mk (below_step HB1.out hb); have HZ2 := Aside0.mk (Nat.le_trans HZ1.out hb.size); have HC72 := Aside0.mk (M.rec_below HC71.out hb); have HC142 := Aside0.mk (M.rec_below HC141.out hb); have HRq2 := Aside0.mk (HRq1.out.below hb); have HR2 := Aside0.mk (HR1.out.below hb); have HS2 := Aside0.mk (HS1.out.below hb); clear hb hd))
        go_roundg (ts.length - (k + 1))
        case measure => have := hkq.out; omega
        case rel => exact ⟨k + 1, q, B0, B1, d0, d1, by go_num, by omega, ⟨rfl⟩, ⟨HST.out.symm⟩, HB2, HZ2, HC72, HC142, HRq2, HR2, HS2⟩
    · obtain rfl : k = ts.length := by omega
      have p3 : decide ((ts.length : Int) < (ts.length : Int)) = false := decide_eq_false (by omega)
      clear hk2' hk
      obtain rfl : q = qq := HQ.out.trans HQQ.out
      have HTr := Aside0.mk (M.stab_below HT0.out HB.out hlt.out)
      have HRR := Aside0.mk (fun W (hS : M.Sh Tryd.prog base W g F ⟨ts, a, b⟩) (hT : M.stab W) => shelf_Shelf_Only.even base g F ⟨ts, a, b⟩ W hS hT HZT.out hts)
      rw [show (⟨ts, a, b⟩ : M.SS).only pleachlaw16_even.p (⟨ts, a, b⟩ : M.SS).ts.length = q from HQQ.out] at HRR
      go_upto_region 17 with (fail)
      go_region_held3 (fun w' => w'.cell? ⟨w.heap.size + 1 + 1 + 1, 0, none⟩ = some (.slice B0 q.ts.length d0) ∧ w'.cell? ⟨w.heap.size + 1 + 1 + 1, 1, none⟩ = some (.slice B1 q.ts.length d1) ∧ w'.cell? ⟨w.heap.size + 1 + 1 + 1, 2, none⟩ = some (.string q.a) ∧ w'.cell? ⟨w.heap.size + 1 + 1 + 1, 3, none⟩ = some (.string q.b)) (first | exact ⟨M.rec_cell C14E.out 0 _ rfl, M.rec_cell C14E.out 1 _ rfl, M.rec_cell C14E.out 2 _ rfl, M.rec_cell C14E.out 3 _ rfl⟩ | exact ⟨M.rec_cell HC143.out 0 _ rfl, M.rec_cell HC143.out 1 _ rfl, M.rec_cell HC143.out 2 _ rfl, M.rec_cell HC143.out 3 _ rfl⟩ | exact ⟨M.rec_cell HC14.out 0 _ rfl, M.rec_cell HC14.out 1 _ rfl, M.rec_cell HC14.out 2 _ rfl, M.rec_cell HC14.out 3 _ rfl⟩ | exact M.rec_cell C14E.out 0 _ rfl | exact M.rec_cell C14E.out 1 _ rfl | exact M.rec_cell C14E.out 2 _ rfl | exact M.rec_cell C14E.out 3 _ rfl | exact M.rec_cell HC143.out 0 _ rfl | exact M.rec_cell HC143.out 1 _ rfl | exact M.rec_cell HC143.out 2 _ rfl | exact M.rec_cell HC143.out 3 _ rfl | exact M.rec_cell HC14.out 0 _ rfl | exact M.rec_cell HC14.out 1 _ rfl | exact M.rec_cell HC14.out 2 _ rfl | exact M.rec_cell HC14.out 3 _ rfl | go_keep) (first | (go_at_call 25; (with_reducible refine (HRR.out _ ?hS ?hT).mono ?_); (case hS => exact HS.out.below ⟨rfl, rfl, rfl, Nat.le_refl _, fun _ _ => rfl⟩); (case hT => exact M.stab_below HTr.out (b := wr.heap.size) ⟨rfl, rfl, rfl, Nat.le_refl _, fun _ _ => rfl⟩ (Nat.lt_of_lt_of_le hlt.out HB.out.size)); rintro e w3 ⟨g1, F2, rfl, hs3, hb3⟩; have HB3 := Aside0.mk (show Below wr.heap.size wr w3 from ⟨hb3.os, hb3.tape, hb3.output, hb3.size, hb3.block⟩); have HS3 := Aside0.mk (show M.Sh Tryd.prog wr.heap.size w3 g1 F2 q from hs3); have HGE := Aside0.mk HS3.out.ge; have hzz := HZ.out; have HC73 := Aside0.mk (M.rec_below HC7.out HB3.out); have HC143 := Aside0.mk (M.rec_below HC14.out HB3.out); have HBW := Aside0.mk (below_step HB.out HB3.out); have h7F : ¬ F2 (w.heap.size + 1 + 1) := (fun q => by have := HGE.out _ q; omega); have HF1 := Aside0.mk (fun k (hk : F2 k) => (show F k ∨ w.heap.size ≤ k from .inr (by have := HGE.out k hk; omega))); have HFIN := Aside0.mk (pleachlaw16_does.fin (F := F) (b7 := w.heap.size + 1 + 1) (G1 := fun k => F2 k ∨ pleachlaw16_does.own F w.heap.size 4 k) HC73.out (HS3.out.lower (Nat.le_trans HBL.out HB.out.size)) (HRq.out.step (Kept.of_below HB3.out _) (fun k hk => hk.elim (fun q => .inr (HGE.out k q)) .inl)) (fun k hk => .inl hk) (.inr (.inr ⟨by omega, by omega⟩)) h7F (Kept.of_below HBW.out F) (HBW.out.mono HBL.out) (Nat.le_trans HBL.out (by omega)) (by omega) (.slice B0 q.ts.length d0) (.slice B1 q.ts.length d1) (.string q.a) (.string q.b)); have C14E := Aside0.mk (M.rec_far (M.rec_far (M.rec_far (M.rec_far HC143.out ⟨w.heap.size + 1 + 1, 0, none⟩ (by simp) (.slice B0 q.ts.length d0)) ⟨w.heap.size + 1 + 1, 1, none⟩ (by simp) (.slice B1 q.ts.length d1)) ⟨w.heap.size + 1 + 1, 2, none⟩ (by simp) (.string q.a)) ⟨w.heap.size + 1 + 1, 3, none⟩ (by simp) (.string q.b)); have c70 : w3.cell? ⟨w.heap.size + 1 + 1, 0, none⟩ = some (.slice none 0 0) := M.rec_cell HC73.out 0 _ rfl; have f70 := M.rec_free HC73.out 0; have c71 : w3.cell? ⟨w.heap.size + 1 + 1, 1, none⟩ = some (.slice none 0 0) := M.rec_cell HC73.out 1 _ rfl; have f71 := M.rec_free HC73.out 1; have c72 : w3.cell? ⟨w.heap.size + 1 + 1, 2, none⟩ = some (.string ⟨#[]⟩) := M.rec_cell HC73.out 2 _ rfl; have f72 := M.rec_free HC73.out 2; have c73 : w3.cell? ⟨w.heap.size + 1 + 1, 3, none⟩ = some (.string ⟨#[]⟩) := M.rec_cell HC73.out 3 _ rfl; have f73 := M.rec_free HC73.out 3; clear hs3 hb3))
      all_goals
        go_wp2
        exact bodyPost_ret (pleachlaw16_does.tct rfl _ _ (w.heap.size + 1 + 1) 41 #[.slice B0 q.ts.length d0, .slice B1 q.ts.length d1, .string q.a, .string q.b] (0, 0) _ rfl (by exact HFIN.out.1) Tryd.underlying41 rfl pleachref16_Put.size_) rfl ⟨g1, F2, B0, B1, d0, d1, rfl, HFIN.out.2.1.below ⟨rfl, rfl, rfl, Nat.le_refl _, fun _ _ => rfl⟩, HF1.out, ⟨HFIN.out.2.2.1.1, HFIN.out.2.2.1.2⟩, ⟨HFIN.out.2.2.2.os, HFIN.out.2.2.2.tape, HFIN.out.2.2.2.output, HFIN.out.2.2.2.size, HFIN.out.2.2.2.block⟩⟩
/- ANY -/
/-- What an act makes of a shelf. -/
def pleachlaw16_does.act (s : M.SS) (k N : Int) (t : ByteArray) : M.SS := if k = 1 then (s.put t).2.2 else if k = 2 then (if N < 0 ∨ (s.ts.length : Int) < N then s else s.cut N.toNat) else s.only pleachlaw16_even.p s.ts.length
theorem pleachlaw16_does.any (base g : Nat) (F : Nat → Prop) (s : M.SS) (A0 A1 : Option Addr) (c0 c1 : Nat) (k N : Int) (t : ByteArray) (w : World) (h : M.Two Tryd.prog base w g F s s A0 A1 c0 c1) (hT : M.stab w) (hts : s.ts.length ≤ 1000000) (hz : ∀ x ∈ s.ts, x.size ≤ 1000000) (ht : t.size ≤ 1000000) (s1 : M.SS) (hs1 : pleachlaw16_does.act s k N t = s1) :
    Calls Tryd.prog 15 #[.pointer (some ⟨g, 0, none⟩), .agg #[.slice A0 s.ts.length c0, .slice A1 s.ts.length c1, .string s.a, .string s.b], .agg #[.int .i64 k, .int .i64 N, .string t]] w fun e w' => ∃ g1 F1 B0 B1 d0 d1, e = .returned (.tuple #[.pointer (some ⟨g1, 0, none⟩), .agg #[.slice B0 s1.ts.length d0, .slice B1 s1.ts.length d1, .string s1.a, .string s1.b], .bool true]) ∧ M.Two Tryd.prog base w' g1 F1 s1 s1 B0 B1 d0 d1 ∧ (∀ k, F1 k → F k ∨ w.heap.size ≤ k) ∧ Kept w w' F ∧ Below base w w' := by
  subst hs1
  obtain ⟨ts, a, b⟩ := s
  unfold pleachlaw16_does.act
  by_cases h1 : k = 1
  · subst h1
    rw [if_pos rfl]
    rcases hp : (⟨ts, a, b⟩ : M.SS).put t with ⟨nm, er, ts1, a1, b1⟩
    refine (pleachlaw16_does.put_ base g F A0 A1 c0 c1 N ts ts1 a b t nm a1 b1 er w h hT hts ht hp).mono ?_
    rintro e w' ⟨F1, B0, B1, d0, d1, rfl, h2, h3, h4, h5⟩
    exact ⟨g, F1, B0, B1, d0, d1, rfl, h2, h3, h4, h5⟩
  rw [if_neg h1]
  by_cases h2 : k = 2
  · subst h2
    rw [if_pos rfl]
    by_cases hN0 : N < 0
    · rw [if_pos (.inl hN0)]
      refine (pleachlaw16_does.no1 base g F A0 A1 c0 c1 N ts a b t w h hN0).mono ?_
      rintro e w' ⟨F1, rfl, h2, h3, h4, h5⟩
      exact ⟨g, F1, A0, A1, c0, c1, rfl, h2, h3, h4, h5⟩
    · by_cases hN1 : (ts.length : Int) < N
      · rw [if_pos (.inr hN1)]
        refine (pleachlaw16_does.no2 base g F A0 A1 c0 c1 N ts a b t w h hN0 hN1).mono ?_
        rintro e w' ⟨F1, rfl, h2, h3, h4, h5⟩
        exact ⟨g, F1, A0, A1, c0, c1, rfl, h2, h3, h4, h5⟩
      · rw [if_neg (by simp only [not_or]; exact ⟨hN0, hN1⟩)]
        obtain ⟨m, rfl⟩ : ∃ m : Nat, N = (m : Int) := ⟨N.toNat, by omega⟩
        rw [Int.toNat_natCast]
        have hl : (ts.take m).length = m := by rw [List.length_take]; omega
        refine (pleachlaw16_does.cut_ base g F A0 A1 c0 c1 m ts a b t w h hts (by omega)).mono ?_
        rintro e w' ⟨F1, rfl, h2, h3, h4, h5⟩
        refine ⟨g, F1, A0, A1, c0, c1, ?_, h2, h3, h4, h5⟩
        show _ = Ending.returned (.tuple #[.pointer (some ⟨g, 0, none⟩), .agg #[.slice A0 (ts.take m).length c0, .slice A1 (ts.take m).length c1, .string a, .string b], .bool true])
        rw [hl]
  · rw [if_neg h2]
    exact pleachlaw16_does.only_ base g F A0 A1 c0 c1 k N ts a b t w h hT hts hz h1 h2

/-! ### shelf_Shelf_Copy: function 16 -/
set_option maxHeartbeats 4000000 in
set_option maxRecDepth 100000 in
theorem shelf_Shelf_Copy.dead (v : Value) (w : World) (hd : shelf_Shelf_there.dead_ w v) :
    Calls Tryd.prog 16 #[v] w fun e w' => e = .returned (.pointer none) ∧ Drawn0 w w' := by
  have HD := Aside0.mk hd
  clear hd
  go_enter Tryd.func16, Tryd.ntmps16
  go_wp2_with (first | (go_at_call 25; (with_reducible refine (shelf_Shelf_Only.dead v _ _ HD.out).mono ?_); rintro e w1 ⟨rfl, hw1⟩))
  go_ret
  exact ⟨rfl, hw1⟩
set_option maxHeartbeats 8000000 in
set_option maxRecDepth 100000 in
theorem shelf_Shelf_Copy.any (base g : Nat) (F : Nat → Prop) (s : M.SS) (w : World) (hS : M.Sh Tryd.prog base w g F s) (hT : M.stab w) (hz : ∀ t ∈ s.ts, t.size ≤ 1000000) (hts : s.ts.length ≤ 1000000) :
    Calls Tryd.prog 16 #[.pointer (some ⟨g, 0, none⟩)] w fun e w' => ∃ g2 F2, e = .returned (.pointer (some ⟨g2, 0, none⟩)) ∧ M.Sh Tryd.prog w.heap.size w' g2 F2 ⟨(s.only M.yes s.ts.length).ts, s.a, s.b⟩ ∧ Below w.heap.size w w' := by
  have CO := Aside0.mk (shelf_Shelf_Only.all_ base g F s w hS hT hz hts)
  obtain ⟨B, D, vt, vn, hs, hF, hl⟩ := hS
  have HS := Aside0.mk hs
  clear hs hF hl hT hz hts
  generalize s.only M.yes s.ts.length = q at CO ⊢
  go_enter Tryd.func16, Tryd.ntmps16
  go_wp2_with (first | (go_at_call 25; (with_reducible refine CO.out.mono ?_); rintro e w1 ⟨g2, F2, rfl, ⟨B2, D2, vt2, vn2, hs2, hF2, hl2⟩, hb⟩; have HS2 := Aside0.mk hs2; have HF2 := Aside0.mk hF2; have HL2 := Aside0.mk hl2; have HB := Aside0.mk hb; have HW := Aside0.mk (M.shelf_below HS.out hb); have c3 : w1.cell? ⟨g, 3, none⟩ = some (.string s.a) := M.blk_cell HW.out.blk 3 _ rfl; have c4 : w1.cell? ⟨g, 4, none⟩ = some (.string s.b) := M.blk_cell HW.out.blk 4 _ rfl; have e3 : w1.cell? ⟨g2, 3, none⟩ = some (.string q.a) := M.blk_cell hs2.blk 3 _ rfl; have e4 : w1.cell? ⟨g2, 4, none⟩ = some (.string q.b) := M.blk_cell hs2.blk 4 _ rfl; have f3 := M.blk_free hs2.blk 3; have f4 := M.blk_free hs2.blk 4; clear hs2 hF2 hl2 hb))
  go_ret
  refine ⟨g2, F2, rfl, ⟨B2, D2, vt2, vn2, M.shelf_clash HS2.out s.a s.b, HF2.out, fun k hk => ⟨(HL2.out k hk).1, by simpa using (HL2.out k hk).2⟩⟩, (HB.out.setCell (p := ⟨g2, 3, none⟩) HS2.out.gb _).setCell (p := ⟨g2, 4, none⟩) HS2.out.gb _⟩

/-! ### shelf_Shelf_Clash: function 11 -/
set_option maxHeartbeats 8000000 in
set_option maxRecDepth 100000 in
theorem shelf_Shelf_Clash.calls (base g B : Nat) (D : DataW Unit) (vt vn : Value) (ts : List ByteArray) (a b : ByteArray) (w : World) (hS : M.shelf Tryd.prog base w g B D vt vn ts a b) (hab : a = ByteArray.empty → b = ByteArray.empty) :
    Calls Tryd.prog 11 #[.pointer (some ⟨g, 0, none⟩)] w fun e w' => e = .returned (.tuple #[.string a, .string b, .bool (decide (a ≠ ByteArray.empty))]) ∧ Drawn0 w w' := by
  have c3 : w.cell? ⟨g, 3, none⟩ = some (.string a) := M.blk_cell hS.blk 3 _ rfl
  have c4 : w.cell? ⟨g, 4, none⟩ = some (.string b) := M.blk_cell hS.blk 4 _ rfl
  have HS := Aside0.mk hS
  clear hS
  by_cases he : a = ByteArray.empty
  · obtain rfl := hab he
    subst he
    have hd : (ByteArray.empty : ByteArray).toList.isEmpty = true := by decide +kernel
    go_enter Tryd.func11, Tryd.ntmps11
    go_wp2_with (first | (go_at_call 28; (with_reducible refine (shelf_Shelf_there.calls base g B D vt vn ts ByteArray.empty ByteArray.empty _ HS.out).mono ?_); rintro e w1 ⟨rfl, rfl⟩))
    exact bodyPost_ret (v := .tuple #[.string ByteArray.empty, .string ByteArray.empty, .bool false]) (by simp [results, Tryd.results11, go_sem]; rfl) rfl ⟨rfl, Drawn0.refl _⟩
  · have hd : a.toList.isEmpty = false := M.nonempty he
    have hdd : decide (a ≠ ByteArray.empty) = true := decide_eq_true he
    rw [hdd]
    go_enter Tryd.func11, Tryd.ntmps11
    go_wp2_with (first | (go_at_call 28; (with_reducible refine (shelf_Shelf_there.calls base g B D vt vn ts a b _ HS.out).mono ?_); rintro e w1 ⟨rfl, rfl⟩))
    go_quiet (fail)
    go_wp2
    exact bodyPost_ret (v := .tuple #[.string a, .string b, .bool true]) (by simp [results, Tryd.results11, go_sem]) rfl ⟨rfl, ⟨⟨_, rfl⟩⟩⟩
theorem shelf_Shelf_Clash.any (base g : Nat) (F : Nat → Prop) (s : M.SS) (w : World) (hS : M.Sh Tryd.prog base w g F s) (hab : s.a = ByteArray.empty → s.b = ByteArray.empty) :
    Calls Tryd.prog 11 #[.pointer (some ⟨g, 0, none⟩)] w fun e w' => e = .returned (.tuple #[.string s.a, .string s.b, .bool (decide (s.a ≠ ByteArray.empty))]) ∧ Drawn0 w w' := by
  obtain ⟨B, D, vt, vn, hs, hF, hl⟩ := hS
  exact shelf_Shelf_Clash.calls base g B D vt vn s.ts s.a s.b w hs hab
set_option maxHeartbeats 4000000 in
set_option maxRecDepth 100000 in
theorem shelf_Shelf_Clash.dead (v : Value) (w : World) (hd : shelf_Shelf_there.dead_ w v) :
    Calls Tryd.prog 11 #[v] w fun e w' => e = .returned (.tuple #[.string ByteArray.empty, .string ByteArray.empty, .bool false]) ∧ Drawn0 w w' := by
  have HD := Aside0.mk hd
  clear hd
  go_enter Tryd.func11, Tryd.ntmps11
  go_wp2_with (first | (go_at_call 28; (with_reducible refine (shelf_Shelf_there.dead v _ HD.out).mono ?_); rintro e w1 ⟨rfl, rfl⟩))
  exact bodyPost_ret (v := .tuple #[.string ByteArray.empty, .string ByteArray.empty, .bool false]) (by simp [results, Tryd.results11, go_sem]; rfl) rfl ⟨rfl, Drawn0.refl _⟩

end Go.Proofs.YtccekjebfafgcaaDoor.EShelfApart
