-- Laid by this session's own program (wip/tools/fold.py): this session's texts, cut to what the claim names and put together; Lean checks it.
import Derived.Test.YtikdbklmhjlfoaaDoorVCommitKnots1
import Derived.Test.YtikdbklmhjlfoaaDoorVCommitKnots7
import Derived.Test.YtikdbklmhjlfoaaDoorXCommitKnots1
namespace Go.Proofs.YtikdbklmhjlfoaaDoor.ECommitKnots
open Go.RowKit Go.Proofs.YtikdbklmhjlfoaaDoorW.PrintWords Go.Proofs.YtikdbklmhjlfoaaDoorW.PrintLast Go.Proofs.YtikdbklmhjlfoaaDoorW.PrintMore
attribute [local go_sem] M.run_leq M.run_gtr M.run_geq max2_int min2_int max_two min_two max_three min_three max_four min_four
set_option linter.unusedVariables false
set_option linter.unusedSimpArgs false
theorem pleachref16_Put.size_ : (Tryd.prog.info? 46).map (·.size) = some 4 := by kernel_rfl
def pleachref16_Put.zero_ : List Value := [.slice none 0 0, .slice none 0 0, .string ⟨#[]⟩, .string ⟨#[]⟩]
def pleachref16_Put.rec_ (A0 A1 : Option Addr) (n c0 c1 : Nat) (a b : ByteArray) : List Value := [.slice A0 n c0, .slice A1 n c1, .string a, .string b]
def pleachref16_Put.W0 (A0 A1 : Option Addr) (n c0 c1 : Nat) (a b : ByteArray) (w : World) : World := (w.alloc (.cells #[.slice A0 n c0, .slice A1 n c1, .string a, .string b] 46)).alloc (.cells #[.slice none 0 0, .slice none 0 0, .string ⟨#[]⟩, .string ⟨#[]⟩] 46)
theorem pleachref16_Put.c2 (A0 A1 : Option Addr) (n c0 c1 : Nat) (a b : ByteArray) (w : World) : M.rec_ (pleachref16_Put.W0 A0 A1 n c0 c1 a b w) w.heap.size 46 [.slice A0 n c0, .slice A1 n c1, .string a, .string b] := M.rec_alloc (M.rec_new w 46 [.slice A0 n c0, .slice A1 n c1, .string a, .string b]) _
theorem pleachref16_Put.c4 (A0 A1 : Option Addr) (n c0 c1 : Nat) (a b : ByteArray) (w : World) : M.rec_ (pleachref16_Put.W0 A0 A1 n c0 c1 a b w) (w.heap.size + 1) 46 [.slice none 0 0, .slice none 0 0, .string ⟨#[]⟩, .string ⟨#[]⟩] := by
 have := M.rec_new (w.alloc (.cells #[.slice A0 n c0, .slice A1 n c1, .string a, .string b] 46)) 46 [.slice none 0 0, .slice none 0 0, .string ⟨#[]⟩, .string ⟨#[]⟩]
 have e : (w.alloc (.cells #[.slice A0 n c0, .slice A1 n c1, .string a, .string b] 46)).heap.size = w.heap.size + 1 := by simp
 rw [e] at this
 exact this
theorem pleachref16_Put.b0 (A0 A1 : Option Addr) (n c0 c1 : Nat) (a b : ByteArray) (w : World) : Below w.heap.size w (pleachref16_Put.W0 A0 A1 n c0 c1 a b w) := below_alloc (below_alloc (Below.refl _ _) _) _
set_option maxHeartbeats 8000000 in
set_option maxRecDepth 100000 in
theorem pleachref16_Put.empty (A0 A1 : Option Addr) (n c0 c1 : Nat) (a b t : ByteArray) (w : World)  :
    Calls Tryd.prog 46 #[.agg #[.slice A0 n c0, .slice A1 n c1, .string a, .string b], .string ByteArray.empty] w fun e w' => e = .returned (.tuple #[.agg #[.slice A0 n c0, .slice A1 n c1, .string a, .string b], .string ByteArray.empty, .int .i64 2]) ∧ Below w.heap.size w w' := by
 have HC2 := Aside0.mk (pleachref16_Put.c2 A0 A1 n c0 c1 a b w)
 have HC4 := Aside0.mk (pleachref16_Put.c4 A0 A1 n c0 c1 a b w)
 have HB0 := Aside0.mk (pleachref16_Put.b0 A0 A1 n c0 c1 a b w)
 unfold pleachref16_Put.W0 at HC2 HC4 HB0
 have hd : (ByteArray.empty : ByteArray).toList.isEmpty = true := by decide +kernel
 go_enter Tryd.func46, Tryd.ntmps46
 go_wp2_with (first | ((with_reducible refine gate_dst (N := 11) rfl ?_); (try (refine gate_guard (by rfl) ?_; dsimp only)); refine M.wp_rec_load rfl 46 _ rfl w.heap.size 46 [.slice A0 n c0, .slice A1 n c1, .string a, .string b] rfl HC2.out _ Tryd.underlying46 rfl pleachref16_Put.size_ ?_) | ((with_reducible refine gate_store (t := 46) (p := 4) (v := .tmp 11) rfl ?_); refine M.wp_rec_store rfl 46 _ _ rfl (w.heap.size + 1) 46 [.slice none 0 0, .slice none 0 0, .string ⟨#[]⟩, .string ⟨#[]⟩] [.slice A0 n c0, .slice A1 n c1, .string a, .string b] rfl rfl HC4.out rfl pleachref16_Put.size_ rfl ?_; intro w4 hA4 hF4 hB4 hz4; have HB4 := Aside0.mk (hB4 _ _ (Nat.le_succ _) HB0.out); have HA4 := Aside0.mk hA4; clear hA4 hF4 hB4 hz4))
 exact bodyPost_ret (results_ctt rfl _ _ (w.heap.size + 1) 46 #[.slice A0 n c0, .slice A1 n c1, .string a, .string b] (0, 0) _ rfl HA4.out Tryd.underlying46 rfl pleachref16_Put.size_) rfl ⟨rfl, HB4.out⟩
set_option maxHeartbeats 8000000 in
set_option maxRecDepth 100000 in
theorem pleachref16_Put.long (A0 A1 : Option Addr) (n c0 c1 : Nat) (a b t : ByteArray) (w : World) (ht : 65536 < t.size) :
    Calls Tryd.prog 46 #[.agg #[.slice A0 n c0, .slice A1 n c1, .string a, .string b], .string t] w fun e w' => e = .returned (.tuple #[.agg #[.slice A0 n c0, .slice A1 n c1, .string a, .string b], .string ByteArray.empty, .int .i64 5]) ∧ Below w.heap.size w w' := by
 have HC2 := Aside0.mk (pleachref16_Put.c2 A0 A1 n c0 c1 a b w)
 have HC4 := Aside0.mk (pleachref16_Put.c4 A0 A1 n c0 c1 a b w)
 have HB0 := Aside0.mk (pleachref16_Put.b0 A0 A1 n c0 c1 a b w)
 unfold pleachref16_Put.W0 at HC2 HC4 HB0
 have hd : t.toList.isEmpty = false := M.nonempty (fun e => by rw [e] at ht; exact absurd ht (by decide))
 have hdd : decide ((65536 : Int) < (t.size : Int)) = true := decide_eq_true (by omega)
 go_enter Tryd.func46, Tryd.ntmps46
 go_wp2_with (first | ((with_reducible refine gate_dst (N := 15) rfl ?_); (try (refine gate_guard (by rfl) ?_; dsimp only)); refine M.wp_rec_load rfl 46 _ rfl w.heap.size 46 [.slice A0 n c0, .slice A1 n c1, .string a, .string b] rfl HC2.out _ Tryd.underlying46 rfl pleachref16_Put.size_ ?_) | ((with_reducible refine gate_store (t := 46) (p := 4) (v := .tmp 15) rfl ?_); refine M.wp_rec_store rfl 46 _ _ rfl (w.heap.size + 1) 46 [.slice none 0 0, .slice none 0 0, .string ⟨#[]⟩, .string ⟨#[]⟩] [.slice A0 n c0, .slice A1 n c1, .string a, .string b] rfl rfl HC4.out rfl pleachref16_Put.size_ rfl ?_; intro w4 hA4 hF4 hB4 hz4; have HB4 := Aside0.mk (hB4 _ _ (Nat.le_succ _) HB0.out); have HA4 := Aside0.mk hA4; clear hA4 hF4 hB4 hz4))
 exact bodyPost_ret (results_ctt rfl _ _ (w.heap.size + 1) 46 #[.slice A0 n c0, .slice A1 n c1, .string a, .string b] (0, 0) _ rfl HA4.out Tryd.underlying46 rfl pleachref16_Put.size_) rfl ⟨rfl, HB4.out⟩
set_option maxHeartbeats 8000000 in
set_option maxRecDepth 100000 in
theorem pleachref16_Put.met (A0 A1 : Option Addr) (c0 c1 : Nat) (a b t : ByteArray) (ts : List ByteArray) (w : World) (hts : ts.length ≤ 1000000000) (h0 : t ≠ ByteArray.empty) (hl : t.size ≤ 65536) (r0 : Kd.C Kd.string w A0 ts.length ts) (r1 : Kd.C Kd.string w A1 (ts.map M.shaSum).length (ts.map M.shaSum)) (i : Nat) (hi : M.idx (ts.map M.shaSum) (M.shaSum t).data.toList = some i) (he : ts.getD i ByteArray.empty = t) :
    Calls Tryd.prog 46 #[.agg #[.slice A0 ts.length c0, .slice A1 ts.length c1, .string a, .string b], .string t] w fun e w' => e = .returned (.tuple #[.agg #[.slice A0 ts.length c0, .slice A1 ts.length c1, .string a, .string b], .string (M.shaSum t), .int .i64 0]) ∧ Below w.heap.size w w' := by
 have hsz : ts.length ≤ 1000000000 := hts
 have HC2 := Aside0.mk (pleachref16_Put.c2 A0 A1 ts.length c0 c1 a b w)
 have HC4 := Aside0.mk (pleachref16_Put.c4 A0 A1 ts.length c0 c1 a b w)
 have HB0 := Aside0.mk (pleachref16_Put.b0 A0 A1 ts.length c0 c1 a b w)
 unfold pleachref16_Put.W0 at HC2 HC4 HB0
 have hd : t.toList.isEmpty = false := M.nonempty h0
 have hdd : decide ((65536 : Int) < (t.size : Int)) = false := decide_eq_false (by omega)
 obtain ⟨m, hm⟩ : ∃ m, M.shaSum t = m := ⟨_, rfl⟩
 have HSum := Aside0.mk (show pleachref03_Sum.f t = some m by rw [← hm]; exact pleachref03_Sum.eq_ t (by omega))
 have HR0 := Aside0.mk r0
 have HR1 := Aside0.mk r1
 have hib : i < ts.length := by have := (M.idx_lt hi).1; simpa using this
 have hat : M.shaSum (ts.getD i ByteArray.empty) = M.shaSum t := M.idx_at hi
 have hbef := Aside0.mk (fun k (hk : k < i) => M.idx_before hi hk)
 have hatm := hat.trans hm
 rw [hm]
 clear r0 r1 hat hi
 go_enter Tryd.func46, Tryd.ntmps46
 go_wp2_with (first | (go_at_call 61; (with_reducible refine (pleachref03_Sum.calls t m _ HSum.out).mono ?_); rintro e w1 ⟨rfl, hb1⟩; have n1 := Aside0.mk (M.rec_below HC2.out hb1); have n2 := Aside0.mk (M.rec_below HC4.out hb1); have n3 := Aside0.mk (below_step HB0.out hb1); clear HC2 HC4 HB0; have HC2 := n1; have HC4 := n2; have HB1 := n3; clear n1 n2 n3 hb1))
 have q0 : w1.cell? ⟨w.heap.size, 0, none⟩ = some (.slice A0 ts.length c0) := M.rec_cell HC2.out 0 _ rfl
 have q1 : w1.cell? ⟨w.heap.size, 1, none⟩ = some (.slice A1 ts.length c1) := M.rec_cell HC2.out 1 _ rfl
 have q2 : w1.cell? ⟨w.heap.size, 2, none⟩ = some (.string a) := M.rec_cell HC2.out 2 _ rfl
 have q3 : w1.cell? ⟨w.heap.size, 3, none⟩ = some (.string b) := M.rec_cell HC2.out 3 _ rfl
 have g0 := M.rec_free HC2.out 0
 have g1 := M.rec_free HC2.out 1
 have g2 := M.rec_free HC2.out 2
 have g3 := M.rec_free HC2.out 3
 go_loopg [8] (i) (fun kq v8 wr => ∃ (k : Nat), v8 = .int .i64 (k : Int) ∧ k ≤ i ∧ Aside0 (kq = i - k) ∧ Aside0 (wr = w1))
 case atStart => exact ⟨0, rfl, Nat.zero_le _, ⟨rfl⟩, ⟨rfl⟩⟩
 case round =>
  obtain ⟨k, rfl, hk, hkq, HW⟩ := hrel
  obtain rfl := HW.out
  clear HW
  have hk2 : k < ts.length := by omega
  obtain ⟨x, hx⟩ : ∃ x, ts.getD k ByteArray.empty = x := ⟨_, rfl⟩
  obtain ⟨y, hy⟩ : ∃ y, M.shaSum x = y := ⟨_, rfl⟩
  obtain ⟨a0, e0, hx1⟩ := Kd.at_string (Kd.C_below HR0.out HB1.out) (k : Int) (by omega) (by omega)
  obtain ⟨a1, e1, hy1⟩ := Kd.at_string (M.reads_n (Kd.C_below HR1.out HB1.out) (List.length_map _)) (k : Int) (by omega) (by omega)
  rw [show rdOf ByteArray.empty ts (k : Int) = x from by rw [← hx]; rfl, Int.toNat_natCast] at hx1
  rw [show rdOf ByteArray.empty (ts.map M.shaSum) (k : Int) = y from by rw [← hy, ← hx]; simp [rdOf, List.getD, hk2], Int.toNat_natCast] at hy1
  subst e0 e1
  have p1 : (k : Int) < (ts.length : Int) := by omega
  have p2 : (0 : Int) ≤ (k : Int) := by omega
  have p3 := decide_eq_true p1
  have p4 : decide (k < ts.length) = true := decide_eq_true hk2
  have HX := Aside0.mk hx
  have HY := Aside0.mk hy
  by_cases hlt : k < i
  ·have hn := hbef.out k hlt
   rw [hx, hy, hm] at hn
   have hne1 : (x.toList == t.toList) = false := by simpa using M.unlike hn.1
   have hne2 : (y.toList == m.toList) = false := by simpa using M.unlike hn.2
   clear hx hy hn
   go_wp2
   go_roundg (i - (k + 1))
   case measure => have := hkq.out; omega
   case rel => exact ⟨k + 1, by go_num, by omega, ⟨rfl⟩, ⟨rfl⟩⟩
  ·obtain rfl : k = i := by omega
   obtain rfl : x = t := hx.symm.trans he
   have hne1 : (x.toList == x.toList) = true := by simp
   clear hx hy hatm
   go_wp2_with (first | ((with_reducible refine gate_dst (N := 32) rfl ?_); (try (refine gate_guard (by rfl) ?_; dsimp only)); refine M.wp_rec_load rfl 46 _ rfl (w.heap.size) 46 [.slice (some a0) ts.length c0, .slice (some a1) ts.length c1, .string a, .string b] rfl HC2.out _ Tryd.underlying46 rfl pleachref16_Put.size_ ?_) | ((with_reducible refine gate_store (t := 46) (p := 4) (v := .tmp 32) rfl ?_); refine M.wp_rec_store rfl 46 _ _ rfl (w.heap.size + 1) 46 [.slice none 0 0, .slice none 0 0, .string ⟨#[]⟩, .string ⟨#[]⟩] [.slice (some a0) ts.length c0, .slice (some a1) ts.length c1, .string a, .string b] rfl rfl HC4.out rfl pleachref16_Put.size_ rfl ?_; intro w4 hA4 hF4 hB4 hz4; have HB4 := Aside0.mk (hB4 _ _ (Nat.le_succ _) HB1.out); have HF4 := Aside0.mk hF4; have HA4 := Aside0.mk hA4; clear hA4 hF4 hB4 hz4))
   exact bodyPost_ret (results_ctt rfl _ _ (w.heap.size + 1) 46 #[.slice (some a0) ts.length c0, .slice (some a1) ts.length c1, .string a, .string b] (0, 0) _ rfl HA4.out Tryd.underlying46 rfl pleachref16_Put.size_) rfl ⟨rfl, HB4.out⟩
set_option maxHeartbeats 8000000 in
set_option maxRecDepth 100000 in
theorem pleachref16_Put.clashN (A0 A1 : Option Addr) (c0 c1 : Nat) (a b t : ByteArray) (ts : List ByteArray) (w : World) (hts : ts.length ≤ 1000000000) (h0 : t ≠ ByteArray.empty) (hl : t.size ≤ 65536) (r0 : Kd.C Kd.string w A0 ts.length ts) (r1 : Kd.C Kd.string w A1 (ts.map M.shaSum).length (ts.map M.shaSum)) (i : Nat) (hi : M.idx (ts.map M.shaSum) (M.shaSum t).data.toList = some i) (he : ts.getD i ByteArray.empty ≠ t) (ha : a ≠ ByteArray.empty) :
    Calls Tryd.prog 46 #[.agg #[.slice A0 ts.length c0, .slice A1 ts.length c1, .string a, .string b], .string t] w fun e w' => e = .returned (.tuple #[.agg #[.slice A0 ts.length c0, .slice A1 ts.length c1, .string a, .string b], .string ByteArray.empty, .int .i64 15]) ∧ Below w.heap.size w w' := by
 have hsz : ts.length ≤ 1000000000 := hts
 have HC2 := Aside0.mk (pleachref16_Put.c2 A0 A1 ts.length c0 c1 a b w)
 have HC4 := Aside0.mk (pleachref16_Put.c4 A0 A1 ts.length c0 c1 a b w)
 have HB0 := Aside0.mk (pleachref16_Put.b0 A0 A1 ts.length c0 c1 a b w)
 unfold pleachref16_Put.W0 at HC2 HC4 HB0
 have hd : t.toList.isEmpty = false := M.nonempty h0
 have hdd : decide ((65536 : Int) < (t.size : Int)) = false := decide_eq_false (by omega)
 obtain ⟨m, hm⟩ : ∃ m, M.shaSum t = m := ⟨_, rfl⟩
 have HSum := Aside0.mk (show pleachref03_Sum.f t = some m by rw [← hm]; exact pleachref03_Sum.eq_ t (by omega))
 have HR0 := Aside0.mk r0
 have HR1 := Aside0.mk r1
 have hib : i < ts.length := by have := (M.idx_lt hi).1; simpa using this
 have hat : M.shaSum (ts.getD i ByteArray.empty) = M.shaSum t := M.idx_at hi
 have hbef := Aside0.mk (fun k (hk : k < i) => M.idx_before hi hk)
 have hatm := hat.trans hm
 have hda : a.toList.isEmpty = false := M.nonempty ha
 clear r0 r1 hat hi
 go_enter Tryd.func46, Tryd.ntmps46
 go_wp2_with (first | (go_at_call 61; (with_reducible refine (pleachref03_Sum.calls t m _ HSum.out).mono ?_); rintro e w1 ⟨rfl, hb1⟩; have n1 := Aside0.mk (M.rec_below HC2.out hb1); have n2 := Aside0.mk (M.rec_below HC4.out hb1); have n3 := Aside0.mk (below_step HB0.out hb1); clear HC2 HC4 HB0; have HC2 := n1; have HC4 := n2; have HB1 := n3; clear n1 n2 n3 hb1))
 have q0 : w1.cell? ⟨w.heap.size, 0, none⟩ = some (.slice A0 ts.length c0) := M.rec_cell HC2.out 0 _ rfl
 have q1 : w1.cell? ⟨w.heap.size, 1, none⟩ = some (.slice A1 ts.length c1) := M.rec_cell HC2.out 1 _ rfl
 have q2 : w1.cell? ⟨w.heap.size, 2, none⟩ = some (.string a) := M.rec_cell HC2.out 2 _ rfl
 have q3 : w1.cell? ⟨w.heap.size, 3, none⟩ = some (.string b) := M.rec_cell HC2.out 3 _ rfl
 have g0 := M.rec_free HC2.out 0
 have g1 := M.rec_free HC2.out 1
 have g2 := M.rec_free HC2.out 2
 have g3 := M.rec_free HC2.out 3
 go_loopg [8] (i) (fun kq v8 wr => ∃ (k : Nat), v8 = .int .i64 (k : Int) ∧ k ≤ i ∧ Aside0 (kq = i - k) ∧ Aside0 (wr = w1))
 case atStart => exact ⟨0, rfl, Nat.zero_le _, ⟨rfl⟩, ⟨rfl⟩⟩
 case round =>
  obtain ⟨k, rfl, hk, hkq, HW⟩ := hrel
  obtain rfl := HW.out
  clear HW
  have hk2 : k < ts.length := by omega
  obtain ⟨x, hx⟩ : ∃ x, ts.getD k ByteArray.empty = x := ⟨_, rfl⟩
  obtain ⟨y, hy⟩ : ∃ y, M.shaSum x = y := ⟨_, rfl⟩
  obtain ⟨a0, e0, hx1⟩ := Kd.at_string (Kd.C_below HR0.out HB1.out) (k : Int) (by omega) (by omega)
  obtain ⟨a1, e1, hy1⟩ := Kd.at_string (M.reads_n (Kd.C_below HR1.out HB1.out) (List.length_map _)) (k : Int) (by omega) (by omega)
  rw [show rdOf ByteArray.empty ts (k : Int) = x from by rw [← hx]; rfl, Int.toNat_natCast] at hx1
  rw [show rdOf ByteArray.empty (ts.map M.shaSum) (k : Int) = y from by rw [← hy, ← hx]; simp [rdOf, List.getD, hk2], Int.toNat_natCast] at hy1
  subst e0 e1
  have p1 : (k : Int) < (ts.length : Int) := by omega
  have p2 : (0 : Int) ≤ (k : Int) := by omega
  have p3 := decide_eq_true p1
  have p4 : decide (k < ts.length) = true := decide_eq_true hk2
  have HX := Aside0.mk hx
  have HY := Aside0.mk hy
  by_cases hlt : k < i
  ·have hn := hbef.out k hlt
   rw [hx, hy, hm] at hn
   have hne1 : (x.toList == t.toList) = false := by simpa using M.unlike hn.1
   have hne2 : (y.toList == m.toList) = false := by simpa using M.unlike hn.2
   clear hx hy hn
   go_wp2
   go_roundg (i - (k + 1))
   case measure => have := hkq.out; omega
   case rel => exact ⟨k + 1, by go_num, by omega, ⟨rfl⟩, ⟨rfl⟩⟩
  ·obtain rfl : k = i := by omega
   have hne1 : (x.toList == t.toList) = false := by simpa using M.unlike (fun z => he (hx.trans z))
   obtain rfl : y = m := hy.symm.trans ((congrArg M.shaSum hx.symm).trans hatm)
   have hne2 : (y.toList == y.toList) = true := by simp
   clear hx hy hatm
   go_wp2_with (first | ((with_reducible refine gate_dst (N := 52) rfl ?_); (try (refine gate_guard (by rfl) ?_; dsimp only)); refine M.wp_rec_load rfl 46 _ rfl (w.heap.size) 46 [.slice (some a0) ts.length c0, .slice (some a1) ts.length c1, .string a, .string b] rfl HC2.out _ Tryd.underlying46 rfl pleachref16_Put.size_ ?_) | ((with_reducible refine gate_store (t := 46) (p := 4) (v := .tmp 52) rfl ?_); refine M.wp_rec_store rfl 46 _ _ rfl (w.heap.size + 1) 46 [.slice none 0 0, .slice none 0 0, .string ⟨#[]⟩, .string ⟨#[]⟩] [.slice (some a0) ts.length c0, .slice (some a1) ts.length c1, .string a, .string b] rfl rfl HC4.out rfl pleachref16_Put.size_ rfl ?_; intro w4 hA4 hF4 hB4 hz4; have HB4 := Aside0.mk (hB4 _ _ (Nat.le_succ _) HB1.out); have HF4 := Aside0.mk hF4; have HA4 := Aside0.mk hA4; clear hA4 hF4 hB4 hz4))
   exact bodyPost_ret (results_ctt rfl _ _ (w.heap.size + 1) 46 #[.slice (some a0) ts.length c0, .slice (some a1) ts.length c1, .string a, .string b] (0, 0) _ rfl HA4.out Tryd.underlying46 rfl pleachref16_Put.size_) rfl ⟨rfl, HB4.out⟩
set_option maxHeartbeats 8000000 in
set_option maxRecDepth 100000 in
theorem pleachref16_Put.clash0 (A0 A1 : Option Addr) (c0 c1 : Nat) (a b t : ByteArray) (ts : List ByteArray) (w : World) (hts : ts.length ≤ 1000000000) (h0 : t ≠ ByteArray.empty) (hl : t.size ≤ 65536) (r0 : Kd.C Kd.string w A0 ts.length ts) (r1 : Kd.C Kd.string w A1 (ts.map M.shaSum).length (ts.map M.shaSum)) (i : Nat) (hi : M.idx (ts.map M.shaSum) (M.shaSum t).data.toList = some i) (he : ts.getD i ByteArray.empty ≠ t) (ha : a = ByteArray.empty) :
    Calls Tryd.prog 46 #[.agg #[.slice A0 ts.length c0, .slice A1 ts.length c1, .string a, .string b], .string t] w fun e w' => e = .returned (.tuple #[.agg #[.slice A0 ts.length c0, .slice A1 ts.length c1, .string (ts.getD i ByteArray.empty), .string t], .string ByteArray.empty, .int .i64 15]) ∧ Below w.heap.size w w' := by
 subst ha
 have hsz : ts.length ≤ 1000000000 := hts
 have HC2 := Aside0.mk (pleachref16_Put.c2 A0 A1 ts.length c0 c1 ByteArray.empty b w)
 have HC4 := Aside0.mk (pleachref16_Put.c4 A0 A1 ts.length c0 c1 ByteArray.empty b w)
 have HB0 := Aside0.mk (pleachref16_Put.b0 A0 A1 ts.length c0 c1 ByteArray.empty b w)
 unfold pleachref16_Put.W0 at HC2 HC4 HB0
 have hd : t.toList.isEmpty = false := M.nonempty h0
 have hdd : decide ((65536 : Int) < (t.size : Int)) = false := decide_eq_false (by omega)
 obtain ⟨m, hm⟩ : ∃ m, M.shaSum t = m := ⟨_, rfl⟩
 have HSum := Aside0.mk (show pleachref03_Sum.f t = some m by rw [← hm]; exact pleachref03_Sum.eq_ t (by omega))
 have HR0 := Aside0.mk r0
 have HR1 := Aside0.mk r1
 have hib : i < ts.length := by have := (M.idx_lt hi).1; simpa using this
 have hat : M.shaSum (ts.getD i ByteArray.empty) = M.shaSum t := M.idx_at hi
 have hbef := Aside0.mk (fun k (hk : k < i) => M.idx_before hi hk)
 have hatm := hat.trans hm
 have hda : (ByteArray.empty : ByteArray).toList.isEmpty = true := by decide +kernel
 clear r0 r1 hat hi
 go_enter Tryd.func46, Tryd.ntmps46
 go_wp2_with (first | (go_at_call 61; (with_reducible refine (pleachref03_Sum.calls t m _ HSum.out).mono ?_); rintro e w1 ⟨rfl, hb1⟩; have n1 := Aside0.mk (M.rec_below HC2.out hb1); have n2 := Aside0.mk (M.rec_below HC4.out hb1); have n3 := Aside0.mk (below_step HB0.out hb1); clear HC2 HC4 HB0; have HC2 := n1; have HC4 := n2; have HB1 := n3; clear n1 n2 n3 hb1))
 have q0 : w1.cell? ⟨w.heap.size, 0, none⟩ = some (.slice A0 ts.length c0) := M.rec_cell HC2.out 0 _ rfl
 have q1 : w1.cell? ⟨w.heap.size, 1, none⟩ = some (.slice A1 ts.length c1) := M.rec_cell HC2.out 1 _ rfl
 have q2 : w1.cell? ⟨w.heap.size, 2, none⟩ = some (.string ByteArray.empty) := M.rec_cell HC2.out 2 _ rfl
 have q3 : w1.cell? ⟨w.heap.size, 3, none⟩ = some (.string b) := M.rec_cell HC2.out 3 _ rfl
 have g0 := M.rec_free HC2.out 0
 have g1 := M.rec_free HC2.out 1
 have g2 := M.rec_free HC2.out 2
 have g3 := M.rec_free HC2.out 3
 go_loopg [8] (i) (fun kq v8 wr => ∃ (k : Nat), v8 = .int .i64 (k : Int) ∧ k ≤ i ∧ Aside0 (kq = i - k) ∧ Aside0 (wr = w1))
 case atStart => exact ⟨0, rfl, Nat.zero_le _, ⟨rfl⟩, ⟨rfl⟩⟩
 case round =>
  obtain ⟨k, rfl, hk, hkq, HW⟩ := hrel
  obtain rfl := HW.out
  clear HW
  have hk2 : k < ts.length := by omega
  obtain ⟨x, hx⟩ : ∃ x, ts.getD k ByteArray.empty = x := ⟨_, rfl⟩
  obtain ⟨y, hy⟩ : ∃ y, M.shaSum x = y := ⟨_, rfl⟩
  obtain ⟨a0, e0, hx1⟩ := Kd.at_string (Kd.C_below HR0.out HB1.out) (k : Int) (by omega) (by omega)
  obtain ⟨a1, e1, hy1⟩ := Kd.at_string (M.reads_n (Kd.C_below HR1.out HB1.out) (List.length_map _)) (k : Int) (by omega) (by omega)
  rw [show rdOf ByteArray.empty ts (k : Int) = x from by rw [← hx]; rfl, Int.toNat_natCast] at hx1
  rw [show rdOf ByteArray.empty (ts.map M.shaSum) (k : Int) = y from by rw [← hy, ← hx]; simp [rdOf, List.getD, hk2], Int.toNat_natCast] at hy1
  subst e0 e1
  have p1 : (k : Int) < (ts.length : Int) := by omega
  have p2 : (0 : Int) ≤ (k : Int) := by omega
  have p3 := decide_eq_true p1
  have p4 : decide (k < ts.length) = true := decide_eq_true hk2
  have HX := Aside0.mk hx
  have HY := Aside0.mk hy
  by_cases hlt : k < i
  ·have hn := hbef.out k hlt
   rw [hx, hy, hm] at hn
   have hne1 : (x.toList == t.toList) = false := by simpa using M.unlike hn.1
   have hne2 : (y.toList == m.toList) = false := by simpa using M.unlike hn.2
   clear hx hy hn
   go_wp2
   go_roundg (i - (k + 1))
   case measure => have := hkq.out; omega
   case rel => exact ⟨k + 1, by go_num, by omega, ⟨rfl⟩, ⟨rfl⟩⟩
  ·obtain rfl : k = i := by omega
   have hne1 : (x.toList == t.toList) = false := by simpa using M.unlike (fun z => he (hx.trans z))
   obtain rfl : y = m := hy.symm.trans ((congrArg M.shaSum hx.symm).trans hatm)
   have hne2 : (y.toList == y.toList) = true := by simp
   have HCX := Aside0.mk (M.rec_set (M.rec_set HC2.out 2 (.string x)) 3 (.string t))
   have HC4X := Aside0.mk (M.rec_far (M.rec_far HC4.out ⟨w.heap.size, 2, none⟩ (by simp) (.string x)) ⟨w.heap.size, 3, none⟩ (by simp) (.string t))
   have HBX := Aside0.mk ((HB1.out.setCell (p := ⟨w.heap.size, 2, none⟩) (Nat.le_refl _) (.string x)).setCell (p := ⟨w.heap.size, 3, none⟩) (Nat.le_refl _) (.string t))
   clear hx hy hatm
   go_wp2_with (first | ((with_reducible refine gate_dst (N := 52) rfl ?_); (try (refine gate_guard (by rfl) ?_; dsimp only)); refine M.wp_rec_load rfl 46 _ rfl (w.heap.size) 46 [.slice (some a0) ts.length c0, .slice (some a1) ts.length c1, .string x, .string t] rfl HCX.out _ Tryd.underlying46 rfl pleachref16_Put.size_ ?_) | ((with_reducible refine gate_store (t := 46) (p := 4) (v := .tmp 52) rfl ?_); refine M.wp_rec_store rfl 46 _ _ rfl (w.heap.size + 1) 46 [.slice none 0 0, .slice none 0 0, .string ⟨#[]⟩, .string ⟨#[]⟩] [.slice (some a0) ts.length c0, .slice (some a1) ts.length c1, .string x, .string t] rfl rfl HC4X.out rfl pleachref16_Put.size_ rfl ?_; intro w4 hA4 hF4 hB4 hz4; have HB4 := Aside0.mk (hB4 _ _ (Nat.le_succ _) HBX.out); have HF4 := Aside0.mk hF4; have HA4 := Aside0.mk hA4; clear hA4 hF4 hB4 hz4))
   exact bodyPost_ret (results_ctt rfl _ _ (w.heap.size + 1) 46 #[.slice (some a0) ts.length c0, .slice (some a1) ts.length c1, .string x, .string t] (0, 0) _ rfl HA4.out Tryd.underlying46 rfl pleachref16_Put.size_) rfl ⟨by rw [HX.out]; rfl, HB4.out⟩
theorem pleachref16_Put.info9 : (Tryd.prog.info? 9).map (fun i => (i.zero, i.size, i.bytes)) = some (some (.string ⟨#[]⟩), 1, 16) := by kernel_rfl
set_option maxHeartbeats 8000000 in
set_option maxRecDepth 100000 in
theorem pleachref16_Put.new (A0 A1 : Option Addr) (c0 c1 : Nat) (a b t : ByteArray) (ts : List ByteArray) (w : World) (hts : ts.length ≤ 1000000000) (h0 : t ≠ ByteArray.empty) (hl : t.size ≤ 65536) (r0 : Kd.C Kd.string w A0 ts.length ts) (r1 : Kd.C Kd.string w A1 (ts.map M.shaSum).length (ts.map M.shaSum)) (hi : M.idx (ts.map M.shaSum) (M.shaSum t).data.toList = none) :
    Calls Tryd.prog 46 #[.agg #[.slice A0 ts.length c0, .slice A1 ts.length c1, .string a, .string b], .string t] w fun e w' => ∃ v0 v1, e = .returned (.tuple #[.agg #[v0, v1, .string a, .string b], .string (M.shaSum t), .int .i64 0]) ∧ Kd.R Kd.string 9 w' w.heap.size (fun _ => True) v0 (ts ++ [t]) ∧ Kd.R Kd.string 9 w' w.heap.size (fun _ => True) v1 ((ts ++ [t]).map M.shaSum) ∧ Below w.heap.size w w' := by
 have hsz : ts.length ≤ 1000000000 := hts
 have HC2 := Aside0.mk (pleachref16_Put.c2 A0 A1 ts.length c0 c1 a b w)
 have HC4 := Aside0.mk (pleachref16_Put.c4 A0 A1 ts.length c0 c1 a b w)
 have HB0 := Aside0.mk (pleachref16_Put.b0 A0 A1 ts.length c0 c1 a b w)
 unfold pleachref16_Put.W0 at HC2 HC4 HB0
 have hd : t.toList.isEmpty = false := M.nonempty h0
 have hdd : decide ((65536 : Int) < (t.size : Int)) = false := decide_eq_false (by omega)
 obtain ⟨m, hm⟩ : ∃ m, M.shaSum t = m := ⟨_, rfl⟩
 have HSum := Aside0.mk (show pleachref03_Sum.f t = some m by rw [← hm]; exact pleachref03_Sum.eq_ t (by omega))
 have HR0 := Aside0.mk r0
 have HR1 := Aside0.mk r1
 have HNEV := Aside0.mk (fun k (hk : k < ts.length) => M.idx_never hi hk)
 have HM := Aside0.mk hm
 rw [List.map_append, List.map_cons, List.map_nil, hm]
 clear r0 r1 hi hm
 go_enter Tryd.func46, Tryd.ntmps46
 go_wp2_with (first | (go_at_call 61; (with_reducible refine (pleachref03_Sum.calls t m _ HSum.out).mono ?_); rintro e w1 ⟨rfl, hb1⟩; have n1 := Aside0.mk (M.rec_below HC2.out hb1); have n2 := Aside0.mk (M.rec_below HC4.out hb1); have n3 := Aside0.mk (below_step HB0.out hb1); clear HC2 HC4 HB0; have HC2 := n1; have HC4 := n2; have HB1 := n3; clear n1 n2 n3 hb1))
 have q0 : w1.cell? ⟨w.heap.size, 0, none⟩ = some (.slice A0 ts.length c0) := M.rec_cell HC2.out 0 _ rfl
 have q1 : w1.cell? ⟨w.heap.size, 1, none⟩ = some (.slice A1 ts.length c1) := M.rec_cell HC2.out 1 _ rfl
 have q2 : w1.cell? ⟨w.heap.size, 2, none⟩ = some (.string a) := M.rec_cell HC2.out 2 _ rfl
 have q3 : w1.cell? ⟨w.heap.size, 3, none⟩ = some (.string b) := M.rec_cell HC2.out 3 _ rfl
 have g0 := M.rec_free HC2.out 0
 have g1 := M.rec_free HC2.out 1
 have g2 := M.rec_free HC2.out 2
 have g3 := M.rec_free HC2.out 3
 go_loopg [8] (ts.length) (fun kq v8 wr => ∃ (k : Nat), v8 = .int .i64 (k : Int) ∧ k ≤ ts.length ∧ Aside0 (kq = ts.length - k) ∧ Aside0 (wr = w1))
 case atStart => exact ⟨0, rfl, Nat.zero_le _, ⟨rfl⟩, ⟨rfl⟩⟩
 case round =>
  obtain ⟨k, rfl, hk, hkq, HW⟩ := hrel
  obtain rfl := HW.out
  clear HW
  by_cases hk2 : k < ts.length
  ·obtain ⟨x, hx⟩ : ∃ x, ts.getD k ByteArray.empty = x := ⟨_, rfl⟩
   obtain ⟨y, hy⟩ : ∃ y, M.shaSum x = y := ⟨_, rfl⟩
   obtain ⟨a0, e0, hx1⟩ := Kd.at_string (Kd.C_below HR0.out HB1.out) (k : Int) (by omega) (by omega)
   obtain ⟨a1, e1, hy1⟩ := Kd.at_string (M.reads_n (Kd.C_below HR1.out HB1.out) (List.length_map _)) (k : Int) (by omega) (by omega)
   rw [show rdOf ByteArray.empty ts (k : Int) = x from by rw [← hx]; rfl, Int.toNat_natCast] at hx1
   rw [show rdOf ByteArray.empty (ts.map M.shaSum) (k : Int) = y from by rw [← hy, ← hx]; simp [rdOf, List.getD, hk2], Int.toNat_natCast] at hy1
   subst e0 e1
   have p1 : (k : Int) < (ts.length : Int) := by omega
   have p2 : (0 : Int) ≤ (k : Int) := by omega
   have p3 := decide_eq_true p1
   have p4 : decide (k < ts.length) = true := decide_eq_true hk2
   have HX := Aside0.mk hx
   have HY := Aside0.mk hy
   have hn := HNEV.out k hk2
   rw [hx, hy, HM.out] at hn
   have hne1 : (x.toList == t.toList) = false := by simpa using M.unlike hn.1
   have hne2 : (y.toList == m.toList) = false := by simpa using M.unlike hn.2
   clear hx hy hn HX HY
   go_wp2
   go_roundg (ts.length - (k + 1))
   case measure => have := hkq.out; omega
   case rel => exact ⟨k + 1, by go_num, by omega, ⟨rfl⟩, ⟨rfl⟩⟩
  ·obtain rfl : k = ts.length := by omega
   have p3 : decide ((ts.length : Int) < (ts.length : Int)) = false := decide_eq_false (by omega)
   clear hk2 hk
   go_wp2_with (first | ((with_reducible refine gate_dst (N := 53) rfl ?_); refine Kd.R_lit (w0 := w) Kd.string w.heap.size 9 ?hg (N := 53) ?hd (xs := ([] : List ByteArray)) (inner := []) (ok := fun _ => True) (okp := fun _ => False) ?hr ?hp (fun _ hk => hk.elim) ?hf HB1.out (below_size (below_step HB1.out (Below.refl _ _))) (by simp) ?_; (case hd => rfl); (case hg => rfl); (case hr => first | (go_simp; done) | (go_simp; rfl)); (case hp => exact (Reps.none _ _)); (case hf => trivial); intro v53 wA ho hb hg hat; have HA := Aside0.mk ho; have HBA := Aside0.mk hb; have HC2A := Aside0.mk (M.rec_grown HC2.out hg (by simp)); have HC4A := Aside0.mk (M.rec_grown HC4.out hg (by simp)); have qa0 : wA.cell? ⟨w.heap.size, 0, none⟩ = some (.slice A0 ts.length c0) := M.rec_cell HC2A.out 0 _ rfl; clear ho hb hg hat) | ((with_reducible refine gate_builtin (b := .append) (xs := #[.tmp 53, .tmp 55]) rfl ?_); at_builtin; refine Kd.R_append_rows Kd.string (w0 := w) w.heap.size rfl (.tmp 53) (.tmp 55) 22 9 (.string ⟨#[]⟩) 16 rfl Tryd.underlying22 pleachref16_Put.info9 rfl (by decide) (by omega) v53 ([] : List ByteArray) ts _ _ _ (fun _ => True) (fun _ => False) rfl rfl ?aO ?aR (fun _ _ h => h) (fun _ h => h.elim) ?aF ?aB ?aS ?aL ?_; (case aO => exact HA.out); (case aR => exact Kd.C_below HR0.out HBA.out); (case aF => exact fun _ _ => trivial); (case aB => exact HBA.out); (case aS => exact HBA.out.size); (case aL => simp; omega); intro v56 wB ho hb hg hat; have HBv := Aside0.mk ho; have HBB := Aside0.mk hb; have HC2B := Aside0.mk (M.rec_grown HC2A.out hg (Kd.R_ne HA.out HC2A.out (by decide))); have HC4B := Aside0.mk (M.rec_grown HC4A.out hg (Kd.R_ne HA.out HC4A.out (by decide))); clear ho hb hg hat) | ((with_reducible refine gate_builtin (b := .append) (xs := #[.tmp 56, .tmp 58]) rfl ?_); at_builtin; refine Kd.R_append Kd.string (w0 := w) w.heap.size rfl (.tmp 56) (.tmp 58) 22 9 (.string ⟨#[]⟩) 16 rfl Tryd.underlying22 pleachref16_Put.info9 rfl (by decide) (by omega) v56 ([] ++ ts) t [.string t] (fun _ => True) (fun _ => False) rfl rfl ?aP (fun _ hk => hk.elim) ?aF ?aO ?aB ?aS ?aL ?_; (case aP => exact rfl); (case aO => exact HBv.out); (case aF => exact fun _ _ => trivial); (case aB => exact HBB.out); (case aS => exact HBB.out.size); (case aL => simp; omega); intro v59 wC ho hb hg hat; obtain ⟨AC, cC, hv⟩ := Kd.R_slice ho; simp only [List.nil_append, List.length_append, List.length_cons, List.length_nil, Nat.zero_add] at hv; subst hv; have HCv := Aside0.mk (Kd.R_flat (ok' := fun k => (Value.slice AC (ts.length + 1) cC).ownBlock = some k) (fun h => h) ho (fun _ e _ => e)); have HBC := Aside0.mk hb; have HC2C := Aside0.mk (M.rec_grown HC2B.out hg (Kd.R_ne HBv.out HC2B.out (by decide))); have HC4C := Aside0.mk (M.rec_grown HC4B.out hg (Kd.R_ne HBv.out HC4B.out (by decide))); have qc0 : wC.cell? ⟨w.heap.size, 0, none⟩ = some (.slice A0 ts.length c0) := M.rec_cell HC2C.out 0 _ rfl; have gc0 := M.rec_free HC2C.out 0; have HBD := Aside0.mk (hb.setCell (p := ⟨w.heap.size, 0, none⟩) (Nat.le_refl _) (.slice AC (ts.length + 1) cC)); have HC2D := Aside0.mk (M.rec_set HC2C.out 0 (.slice AC (ts.length + 1) cC)); have HC4D := Aside0.mk (M.rec_far HC4C.out ⟨w.heap.size, 0, none⟩ (by simp) (.slice AC (ts.length + 1) cC)); have HDv := Aside0.mk (Kd.R_far (p := ⟨w.heap.size, 0, none⟩) HCv.out (fun k e e2 => Kd.R_ne ho HC2C.out (by decide) (by rw [e, e2])) (.slice AC (ts.length + 1) cC)); clear ho hb hg hat) | ((with_reducible refine gate_dst (N := 61) rfl ?_); refine Kd.R_lit (w0 := w) Kd.string w.heap.size 9 ?hg (N := 61) ?hd (xs := ([] : List ByteArray)) (inner := []) (ok := fun k => (Value.slice AC (ts.length + 1) cC).ownBlock ≠ some k) (okp := fun _ => False) ?hr ?hp (fun _ hk => hk.elim) ?hf HBD.out HBD.out.size (by simp) ?_; (case hd => rfl); (case hg => rfl); (case hr => first | (go_simp; done) | (go_simp; rfl)); (case hp => exact (Reps.none _ _)); (case hf => exact fun e => Nat.lt_irrefl _ (Kd.R_lt HDv.out _ e)); intro v61 wE ho hb hg hat; have HE := Aside0.mk ho; have HBE := Aside0.mk hb; have HC2E := Aside0.mk (M.rec_grown HC2D.out hg (by simp)); have HC4E := Aside0.mk (M.rec_grown HC4D.out hg (by simp)); have HEv := Aside0.mk (Kd.R_grown HDv.out hg (fun _ _ => by simp)); have qe1 : wE.cell? ⟨w.heap.size, 1, none⟩ = some (.slice A1 ts.length c1) := M.rec_cell HC2E.out 1 _ rfl; clear ho hb hg hat) | ((with_reducible refine gate_builtin (b := .append) (xs := #[.tmp 61, .tmp 63]) rfl ?_); at_builtin; refine Kd.R_append_rows Kd.string (w0 := w) w.heap.size rfl (.tmp 61) (.tmp 63) 22 9 (.string ⟨#[]⟩) 16 rfl Tryd.underlying22 pleachref16_Put.info9 rfl (by decide) (by omega) v61 ([] : List ByteArray) (ts.map M.shaSum) _ _ _ (fun k => (Value.slice AC (ts.length + 1) cC).ownBlock ≠ some k) (fun _ => False) rfl rfl ?aO ?aR (fun _ _ h => h) (fun _ h => h.elim) ?aF ?aB ?aS ?aL ?_; (case aO => exact HE.out); (case aR => exact M.reads_n (Kd.C_below HR1.out HBE.out) (List.length_map _)); (case aF => exact fun k hk e => by have := Kd.R_lt HEv.out k e; omega); (case aB => exact HBE.out); (case aS => exact HBE.out.size); (case aL => simp; omega); intro v64 wF ho hb hg hat; have HF := Aside0.mk ho; have HBF := Aside0.mk hb; have HFv := Aside0.mk (Kd.R_grown HEv.out hg (fun k e e2 => (HE.out.1 k e2.symm) e)); have HC2F := Aside0.mk (M.rec_grown HC2E.out hg (Kd.R_ne HE.out HC2E.out (by decide))); have HC4F := Aside0.mk (M.rec_grown HC4E.out hg (Kd.R_ne HE.out HC4E.out (by decide))); clear ho hb hg hat) | ((with_reducible refine gate_builtin (b := .append) (xs := #[.tmp 64, .tmp 66]) rfl ?_); at_builtin; refine Kd.R_append Kd.string (w0 := w) w.heap.size rfl (.tmp 64) (.tmp 66) 22 9 (.string ⟨#[]⟩) 16 rfl Tryd.underlying22 pleachref16_Put.info9 rfl (by decide) (by omega) v64 ([] ++ ts.map M.shaSum) m [.string m] (fun k => (Value.slice AC (ts.length + 1) cC).ownBlock ≠ some k) (fun _ => False) rfl rfl ?aP (fun _ hk => hk.elim) ?aF ?aO ?aB ?aS ?aL ?_; (case aP => exact rfl); (case aO => exact HF.out); (case aF => exact fun k hk e => by have := Kd.R_lt HFv.out k e; omega); (case aB => exact HBF.out); (case aS => exact HBF.out.size); (case aL => simp; omega); intro v67 wG ho hb hg hat; obtain ⟨AG, cG, hv⟩ := Kd.R_slice ho; simp only [List.nil_append, List.length_append, List.length_cons, List.length_nil, List.length_map, Nat.zero_add] at hv; subst hv; have HGw := Aside0.mk (Kd.R_flat (ok' := fun k => (Value.slice AG (ts.length + 1) cG).ownBlock = some k) (fun h => h) ho (fun _ e _ => e)); have HBG := Aside0.mk hb; have HGv := Aside0.mk (Kd.R_grown HFv.out hg (fun k e e2 => (HF.out.1 k e2.symm) e)); have HC2G := Aside0.mk (M.rec_grown HC2F.out hg (Kd.R_ne HF.out HC2F.out (by decide))); have HC4G := Aside0.mk (M.rec_grown HC4F.out hg (Kd.R_ne HF.out HC4F.out (by decide))); have qg1 : wG.cell? ⟨w.heap.size, 1, none⟩ = some (.slice A1 ts.length c1) := M.rec_cell HC2G.out 1 _ rfl; have gg1 := M.rec_free HC2G.out 1; have HBH := Aside0.mk (hb.setCell (p := ⟨w.heap.size, 1, none⟩) (Nat.le_refl _) (.slice AG (ts.length + 1) cG)); have HC2H := Aside0.mk (M.rec_set HC2G.out 1 (.slice AG (ts.length + 1) cG)); have HC4H := Aside0.mk (M.rec_far HC4G.out ⟨w.heap.size, 1, none⟩ (by simp) (.slice AG (ts.length + 1) cG)); have HHv := Aside0.mk (Kd.R_far (p := ⟨w.heap.size, 1, none⟩) HGv.out (fun k e e2 => Kd.R_ne HGv.out HC2G.out (by decide) (by rw [e, e2])) (.slice AG (ts.length + 1) cG)); have HHw := Aside0.mk (Kd.R_far (p := ⟨w.heap.size, 1, none⟩) HGw.out (fun k e e2 => Kd.R_ne HGw.out HC2G.out (by decide) (by rw [e, e2])) (.slice AG (ts.length + 1) cG)); clear ho hb hg hat) | ((with_reducible refine gate_dst (N := 69) rfl ?_); (try (refine gate_guard (by rfl) ?_; dsimp only)); refine M.wp_rec_load rfl 46 _ rfl w.heap.size 46 [.slice AC (ts.length + 1) cC, .slice AG (ts.length + 1) cG, .string a, .string b] rfl HC2H.out _ Tryd.underlying46 rfl pleachref16_Put.size_ ?_) | ((with_reducible refine gate_store (t := 46) (p := 4) (v := .tmp 69) rfl ?_); refine M.wp_rec_store rfl 46 _ _ rfl (w.heap.size + 1) 46 [.slice none 0 0, .slice none 0 0, .string ⟨#[]⟩, .string ⟨#[]⟩] [.slice AC (ts.length + 1) cC, .slice AG (ts.length + 1) cG, .string a, .string b] rfl rfl HC4H.out rfl pleachref16_Put.size_ rfl ?_; intro w4 hA4 hF4 hB4 hz4; have HB4 := Aside0.mk (hB4 _ _ (Nat.le_succ _) HBH.out); have HF4 := Aside0.mk hF4; have HA4 := Aside0.mk hA4; clear hA4 hF4 hB4 hz4))
   have HV := Aside0.mk (Kd.R_step HHv.out (fun k e _ => HF4.out k (fun e2 => Kd.R_ne HHv.out HC4H.out (by decide) (by rw [e, e2]))))
   have HV2 := Aside0.mk (Kd.R_step HHw.out (fun k e _ => HF4.out k (fun e2 => Kd.R_ne HHw.out HC4H.out (by decide) (by rw [e, e2]))))
   exact bodyPost_ret (results_ctt rfl _ _ (w.heap.size + 1) 46 #[.slice AC (ts.length + 1) cC, .slice AG (ts.length + 1) cG, .string a, .string b] (0, 0) _ rfl HA4.out Tryd.underlying46 rfl pleachref16_Put.size_) rfl ⟨_, _, rfl, Kd.R_mono HV.out (fun _ _ => trivial), Kd.R_mono HV2.out (fun _ _ => trivial), HB4.out⟩
theorem pleachref16_Put.any (A0 A1 : Option Addr) (c0 c1 : Nat) (s : M.SS) (t : ByteArray) (w : World) (hts : s.ts.length ≤ 1000000000) (r0 : Kd.C Kd.string w A0 s.ts.length s.ts) (r1 : Kd.C Kd.string w A1 (s.ts.map M.shaSum).length (s.ts.map M.shaSum)) :
    Calls Tryd.prog 46 #[.agg #[.slice A0 s.ts.length c0, .slice A1 s.ts.length c1, .string s.a, .string s.b], .string t] w fun e w' => ∃ v0 v1, e = .returned (.tuple #[.agg #[v0, v1, .string (s.put t).2.2.a, .string (s.put t).2.2.b], .string (s.put t).1, .int .i64 (s.put t).2.1]) ∧
      ((v0 = .slice A0 s.ts.length c0 ∧ v1 = .slice A1 s.ts.length c1 ∧ (s.put t).2.2.ts = s.ts) ∨ (Kd.R Kd.string 9 w' w.heap.size (fun _ => True) v0 (s.put t).2.2.ts ∧ Kd.R Kd.string 9 w' w.heap.size (fun _ => True) v1 ((s.put t).2.2.ts.map M.shaSum))) ∧ Below w.heap.size w w' := by
 unfold M.SS.put
 by_cases h0 : t = ByteArray.empty
 ·subst h0
  rw [if_pos rfl]
  refine (pleachref16_Put.empty A0 A1 s.ts.length c0 c1 s.a s.b ByteArray.empty w).mono ?_
  rintro e w' ⟨rfl, hb⟩
  exact ⟨_, _, rfl, .inl ⟨rfl, rfl, rfl⟩, hb⟩
 rw [if_neg h0]
 by_cases h1 : 65536 < t.size
 ·rw [if_pos h1]
  refine (pleachref16_Put.long A0 A1 s.ts.length c0 c1 s.a s.b t w h1).mono ?_
  rintro e w' ⟨rfl, hb⟩
  exact ⟨_, _, rfl, .inl ⟨rfl, rfl, rfl⟩, hb⟩
 rw [if_neg h1]
 cases hi : M.idx (s.ts.map M.shaSum) (M.shaSum t).data.toList with
 | none =>
  refine (pleachref16_Put.new A0 A1 c0 c1 s.a s.b t s.ts w hts h0 (by omega) r0 r1 hi).mono ?_
  rintro e w' ⟨v0, v1, rfl, h2, h3, hb⟩
  exact ⟨_, _, rfl, .inr ⟨h2, h3⟩, hb⟩
 | some i =>
  simp only
  by_cases he : s.ts.getD i ByteArray.empty = t
  ·rw [if_pos he]
   refine (pleachref16_Put.met A0 A1 c0 c1 s.a s.b t s.ts w hts h0 (by omega) r0 r1 i hi he).mono ?_
   rintro e w' ⟨rfl, hb⟩
   exact ⟨_, _, rfl, .inl ⟨rfl, rfl, rfl⟩, hb⟩
  ·rw [if_neg he]
   by_cases ha : s.a = ByteArray.empty
   ·rw [if_pos ha]
    refine (pleachref16_Put.clash0 A0 A1 c0 c1 s.a s.b t s.ts w hts h0 (by omega) r0 r1 i hi he ha).mono ?_
    rintro e w' ⟨rfl, hb⟩
    exact ⟨_, _, rfl, .inl ⟨rfl, rfl, rfl⟩, hb⟩
   ·rw [if_neg ha]
    refine (pleachref16_Put.clashN A0 A1 c0 c1 s.a s.b t s.ts w hts h0 (by omega) r0 r1 i hi he ha).mono ?_
    rintro e w' ⟨rfl, hb⟩
    exact ⟨_, _, rfl, .inl ⟨rfl, rfl, rfl⟩, hb⟩
def pleachref16_Of.s (l : List ByteArray) : M.SS := l.foldl (fun q t => (q.put t).2.2) M.SS.none_
theorem pleachref16_Of.len (l : List ByteArray) : (pleachref16_Of.s l).ts.length ≤ l.length := by
 have key : ∀ (l : List ByteArray) (q : M.SS), (l.foldl (fun q t => (q.put t).2.2) q).ts.length ≤ q.ts.length + l.length := by
  intro l
  induction l with
  | nil => intro q; exact Nat.le_refl _
  | cons t l ih =>
   intro q
   rw [List.foldl_cons, List.length_cons]
   have h1 := ih (q.put t).2.2
   have h2 := M.SS.put_len q t
   omega
 have := key l M.SS.none_
 rwa [show M.SS.none_.ts.length = 0 from rfl, Nat.zero_add] at this
theorem pleachref16_Of.snoc (l : List ByteArray) (k : Nat) (hk : k < l.length) : pleachref16_Of.s (l.take (k + 1)) = ((pleachref16_Of.s (l.take k)).put l[k]).2.2 := by
 unfold pleachref16_Of.s
 rw [List.take_succ_eq_append_getElem hk, List.foldl_append]
 rfl
theorem pleachref16_Of.put {A0 A1 : Option Addr} {c0 c1 : Nat} {s s1 : M.SS} {t nm : ByteArray} {er : Int} {base : Nat} {w : World} (hts : s.ts.length ≤ 1000000000) (hb : base ≤ w.heap.size) (r0 : Kd.R Kd.string 9 w base (fun _ => True) (.slice A0 s.ts.length c0) s.ts) (r1 : Kd.R Kd.string 9 w base (fun _ => True) (.slice A1 s.ts.length c1) (s.ts.map M.shaSum)) (hp : s.put t = (nm, er, s1)) :
    Calls Tryd.prog 46 #[.agg #[.slice A0 s.ts.length c0, .slice A1 s.ts.length c1, .string s.a, .string s.b], .string t] w fun e w' => ∃ B0 B1 d0 d1, e = .returned (.tuple #[.agg #[.slice B0 s1.ts.length d0, .slice B1 s1.ts.length d1, .string s1.a, .string s1.b], .string nm, .int .i64 er]) ∧
      Kd.R Kd.string 9 w' base (fun _ => True) (.slice B0 s1.ts.length d0) s1.ts ∧ Kd.R Kd.string 9 w' base (fun _ => True) (.slice B1 s1.ts.length d1) (s1.ts.map M.shaSum) ∧ Below w.heap.size w w' := by
 have h0 := (Kd.R_reads' r0).2.2
 have h1 := (Kd.R_reads' r1).2.2
 have h := pleachref16_Put.any A0 A1 c0 c1 s t w hts h0 h1
 rw [hp] at h
 refine h.mono ?_
 rintro e w' ⟨v0, v1, rfl, hv, hb2⟩
 rcases hv with ⟨rfl, rfl, hs⟩ | ⟨hv0, hv1⟩
 ·simp only at hs
  rw [← hs] at r0 r1
  exact ⟨A0, A1, c0, c1, by rw [hs], Kd.R_below r0 hb2, Kd.R_below r1 hb2, hb2⟩
 ·obtain ⟨B0, d0, rfl⟩ := Kd.R_slice hv0
  obtain ⟨B1, d1, rfl⟩ := Kd.R_slice hv1
  simp only [List.length_map] at hv1
  refine ⟨B0, B1, d0, d1, by simp, Kd.R_lower hv0 hb, Kd.R_lower hv1 hb, hb2⟩
theorem pleachref16_Of.other {w w1 : World} {base g : Nat} {v : Value} {xs : List ByteArray} {cs : List Value} (h : Kd.R Kd.string 9 w base (fun _ => True) v xs) (hg : M.rec_ w g 46 cs) (hf : ∀ b, b ≠ g → w1.heap[b]? = w.heap[b]?) : Kd.R Kd.string 9 w1 base (fun _ => True) v xs :=
  Kd.R_mono (Kd.R_step (Kd.R_types h hg (by decide)) (fun k hk _ => hf k hk.2)) (fun _ hk => hk.1)
set_option maxHeartbeats 8000000 in
set_option maxRecDepth 100000 in
theorem pleachref16_Of.any (AL : Option Addr) (cl : Nat) (l : List ByteArray) (w : World) (hr : Kd.C Kd.string w AL l.length l) (hl : l.length ≤ 1000000) :
    Calls Tryd.prog 22 #[.slice AL l.length cl] w fun e w' => ∃ A0 A1 c0 c1, e = .returned (.agg #[.slice A0 (pleachref16_Of.s l).ts.length c0, .slice A1 (pleachref16_Of.s l).ts.length c1, .string (pleachref16_Of.s l).a, .string (pleachref16_Of.s l).b]) ∧
      Kd.R Kd.string 9 w' w.heap.size (fun _ => True) (.slice A0 (pleachref16_Of.s l).ts.length c0) (pleachref16_Of.s l).ts ∧ Kd.R Kd.string 9 w' w.heap.size (fun _ => True) (.slice A1 (pleachref16_Of.s l).ts.length c1) ((pleachref16_Of.s l).ts.map M.shaSum) ∧ Below w.heap.size w w' := by
 obtain ⟨W0, hW0⟩ : ∃ W0, (w.alloc (.cells #[.slice none 0 0, .slice none 0 0, .string ⟨#[]⟩, .string ⟨#[]⟩] 46)).alloc (.cells #[.slice none 0 0, .slice none 0 0, .string ⟨#[]⟩, .string ⟨#[]⟩] 46) = W0 := ⟨_, rfl⟩
 have HW0 := Aside0.mk hW0
 have HB0 := Aside0.mk (show Below w.heap.size w W0 from hW0 ▸ below_alloc (below_alloc (Below.refl _ _) _) _)
 have HD0 := Aside0.mk (show M.rec_ W0 w.heap.size 46 [.slice none 0 0, .slice none 0 0, .string ⟨#[]⟩, .string ⟨#[]⟩] from hW0 ▸ M.rec_alloc (M.rec_new w _ [.slice none 0 0, .slice none 0 0, .string ⟨#[]⟩, .string ⟨#[]⟩]) _)
 have HC0 := Aside0.mk (show M.rec_ W0 (w.heap.size + 1) 46 [.slice none 0 0, .slice none 0 0, .string ⟨#[]⟩, .string ⟨#[]⟩] from by
  have h := M.rec_new (w.alloc (.cells #[.slice none 0 0, .slice none 0 0, .string ⟨#[]⟩, .string ⟨#[]⟩] 46)) 46 [.slice none 0 0, .slice none 0 0, .string ⟨#[]⟩, .string ⟨#[]⟩]
  rw [show (w.alloc (.cells #[.slice none 0 0, .slice none 0 0, .string ⟨#[]⟩, .string ⟨#[]⟩] 46)).heap.size = w.heap.size + 1 from by simp] at h
  exact hW0 ▸ h)
 have HR := Aside0.mk hr
 clear hr hW0
 go_enter Tryd.func22, Tryd.ntmps22
 go_upto_region 2 with (fail)
 rw [HW0.out]
 go_wp2
 go_loopg [11] (l.length) (fun kq v11 wr => ∃ (k : Nat) (s : M.SS) (A0 A1 : Option Addr) (c0 c1 : Nat), v11 = .int .i64 (k : Int) ∧ k ≤ l.length ∧ Aside0 (kq = l.length - k) ∧ Aside0 (s = pleachref16_Of.s (l.take k)) ∧ Aside0 (Below w.heap.size w wr) ∧ Aside0 (M.rec_ wr (w.heap.size + 1) 46 [.slice A0 s.ts.length c0, .slice A1 s.ts.length c1, .string s.a, .string s.b]) ∧ Aside0 (M.rec_ wr w.heap.size 46 [.slice none 0 0, .slice none 0 0, .string ⟨#[]⟩, .string ⟨#[]⟩]) ∧ Aside0 (Kd.R Kd.string 9 wr w.heap.size (fun _ => True) (.slice A0 s.ts.length c0) s.ts) ∧ Aside0 (Kd.R Kd.string 9 wr w.heap.size (fun _ => True) (.slice A1 s.ts.length c1) (s.ts.map M.shaSum)))
 case atStart => exact ⟨0, M.SS.none_, none, none, 0, 0, rfl, Nat.zero_le _, ⟨rfl⟩, ⟨rfl⟩, HB0, HC0, HD0, ⟨Kd.R_nil _ _ _ _ _⟩, ⟨Kd.R_nil _ _ _ _ _⟩⟩
 case round =>
  clear HB0 HC0 HD0 HW0
  obtain ⟨k, s, A0, A1, c0, c1, rfl, hk, hkq, HQ, HB, HC, HD, H0, H1⟩ := hrel
  by_cases hlt : k < l.length
  ·obtain ⟨t, ht⟩ : ∃ t, l[k] = t := ⟨_, rfl⟩
   obtain ⟨⟨nm, er, s1⟩, hp⟩ : ∃ y, s.put t = y := ⟨_, rfl⟩
   have HP := Aside0.mk hp
   have HQ1 := Aside0.mk (show s1 = pleachref16_Of.s (l.take (k + 1)) from by rw [pleachref16_Of.snoc l k hlt, ← HQ.out, ht, hp])
   have HLN := Aside0.mk (show s.ts.length ≤ 1000000000 from by rw [HQ.out]; have := pleachref16_Of.len (l.take k); rw [List.length_take] at this; omega)
   obtain ⟨ad, hAL, e0⟩ := Kd.at_string HR.out (k : Int) (by omega) (by omega)
   rw [show rdOf ByteArray.empty l (k : Int) = t from by rw [← ht]; simp [rdOf, List.getD, hlt], Int.toNat_natCast] at e0
   subst hAL
   have q0 := (HB.out.cell (World.block_lt_of_cell? w _ e0)).trans e0
   have p1 : (k : Int) < (l.length : Int) := by omega
   have p2 : (0 : Int) ≤ (k : Int) := by omega
   have p3 := decide_eq_true p1
   clear e0 hp ht
   go_wp2_with (first | ((with_reducible refine gate_dst (N := 16) rfl ?_); (try (refine gate_guard (by rfl) ?_; dsimp only)); refine M.wp_rec_load rfl 46 _ rfl (w.heap.size + 1) 46 [.slice A0 s.ts.length c0, .slice A1 s.ts.length c1, .string s.a, .string s.b] rfl HC.out _ Tryd.underlying46 rfl pleachref16_Put.size_ ?_) | (go_at_call 46; (with_reducible refine (pleachref16_Of.put HLN.out HB.out.size H0.out H1.out HP.out).mono ?_); rintro e w4 ⟨B0, B1, d0, d1, rfl, hv0, hv1, hb⟩; have HC4 := Aside0.mk (M.rec_below HC.out hb); have HD4 := Aside0.mk (M.rec_below HD.out hb); have HB4 := Aside0.mk (below_step HB.out hb); have H04 := Aside0.mk hv0; have H14 := Aside0.mk hv1; clear hv0 hv1 hb) | ((with_reducible refine gate_store (t := 46) (p := 6) (v := .tmp 19) rfl ?_); refine M.wp_rec_store rfl 46 _ _ rfl w4.heap.size 46 [.slice none 0 0, .slice none 0 0, .string ⟨#[]⟩, .string ⟨#[]⟩] [.slice B0 s1.ts.length d0, .slice B1 s1.ts.length d1, .string s1.a, .string s1.b] rfl rfl (M.rec_new w4 46 [.slice none 0 0, .slice none 0 0, .string ⟨#[]⟩, .string ⟨#[]⟩]) rfl pleachref16_Put.size_ rfl ?_; intro w5 hA5 hF5 hB5 hz5; have hy := hB5 w4.heap.size w4 (Nat.le_refl _) (below_alloc (Below.refl _ _) _); have HX5 := Aside0.mk hA5; have HC5 := Aside0.mk (M.rec_below HC4.out hy); have HD5 := Aside0.mk (M.rec_below HD4.out hy); have HB5 := Aside0.mk (below_step HB4.out hy); have H05 := Aside0.mk (Kd.R_below H04.out hy); have H15 := Aside0.mk (Kd.R_below H14.out hy); clear hA5 hF5 hB5 hz5 hy) | ((with_reducible refine gate_dst (N := 22) rfl ?_); (try (refine gate_guard (by rfl) ?_; dsimp only)); refine M.wp_rec_load rfl 46 _ rfl w4.heap.size 46 [.slice B0 s1.ts.length d0, .slice B1 s1.ts.length d1, .string s1.a, .string s1.b] rfl HX5.out _ Tryd.underlying46 rfl pleachref16_Put.size_ ?_) | ((with_reducible refine gate_store (t := 46) (p := 3) (v := .tmp 22) rfl ?_); refine M.wp_rec_store rfl 46 _ _ rfl (w.heap.size + 1) 46 [.slice A0 s.ts.length c0, .slice A1 s.ts.length c1, .string s.a, .string s.b] [.slice B0 s1.ts.length d0, .slice B1 s1.ts.length d1, .string s1.a, .string s1.b] rfl rfl HC5.out rfl pleachref16_Put.size_ rfl ?_; intro w6 hA6 hF6 hB6 hz6; have HC6 := Aside0.mk hA6; have HD6 := Aside0.mk (M.rec_other HD5.out hF6 (Nat.ne_of_lt (Nat.lt_succ_self _))); have HB6 := Aside0.mk (hB6 _ _ (Nat.le_succ _) HB5.out); have H06 := Aside0.mk (pleachref16_Of.other H05.out HC5.out hF6); have H16 := Aside0.mk (pleachref16_Of.other H15.out HC5.out hF6); clear hA6 hF6 hB6 hz6))
   go_roundg (l.length - (k + 1))
   case measure => have := hkq.out; omega
   case rel => exact ⟨k + 1, s1, B0, B1, d0, d1, by go_num, by omega, ⟨rfl⟩, HQ1, HB6, HC6, HD6, H06, H16⟩
  ·obtain rfl : k = l.length := by omega
   have p3 : decide ((l.length : Int) < (l.length : Int)) = false := decide_eq_false (by omega)
   have hq := HQ.out
   rw [List.take_length] at hq
   subst hq
   go_wp2_with (first | ((with_reducible refine gate_dst (N := 24) rfl ?_); (try (refine gate_guard (by rfl) ?_; dsimp only)); refine M.wp_rec_load rfl 46 _ rfl (w.heap.size + 1) 46 [.slice A0 (pleachref16_Of.s l).ts.length c0, .slice A1 (pleachref16_Of.s l).ts.length c1, .string (pleachref16_Of.s l).a, .string (pleachref16_Of.s l).b] rfl HC.out _ Tryd.underlying46 rfl pleachref16_Put.size_ ?_) | ((with_reducible refine gate_store (t := 46) (p := 2) (v := .tmp 24) rfl ?_); refine M.wp_rec_store rfl 46 _ _ rfl w.heap.size 46 [.slice none 0 0, .slice none 0 0, .string ⟨#[]⟩, .string ⟨#[]⟩] [.slice A0 (pleachref16_Of.s l).ts.length c0, .slice A1 (pleachref16_Of.s l).ts.length c1, .string (pleachref16_Of.s l).a, .string (pleachref16_Of.s l).b] rfl rfl HD.out rfl pleachref16_Put.size_ rfl ?_; intro w6 hA6 hF6 hB6 hz6; have HE6 := Aside0.mk hA6; have HB6 := Aside0.mk (hB6 _ _ (Nat.le_refl _) HB.out); have H06 := Aside0.mk (pleachref16_Of.other H0.out HD.out hF6); have H16 := Aside0.mk (pleachref16_Of.other H1.out HD.out hF6); clear hA6 hF6 hB6 hz6))
   exact bodyPost_ret (M.results_rec1 rfl _ rfl HE6.out Tryd.underlying46 rfl pleachref16_Put.size_) rfl ⟨A0, A1, c0, c1, rfl, H06.out, H16.out, HB6.out⟩
def pleachplain_Texts_p.l0 : Nat → List ByteArray → List ByteArray → Int → Int → Option (Bool)
  | 0, _, _, _, _ => none
  | k + 1, x0, x1, x12, x13 => if x13 < x12 then (if 0 ≤ x13 then (if x13 < (x0.length : Int) then (if x13 < (x1.length : Int) then (if (rdOf ByteArray.empty x0 x13).toList = (rdOf ByteArray.empty x1 x13).toList then (pleachplain_Texts_p.l0 k x0 x1 x12 (wrap64 (x13 + 1))) else (some false)) else (none)) else (none)) else (none)) else (some true)
def pleachplain_Texts_p.f (k : Nat) (l0 : List ByteArray) (l1 : List ByteArray) : Option (Bool) := if (l0.length : Int) = (l1.length : Int) then (pleachplain_Texts_p.l0 k l0 l1 (l0.length : Int) 0) else (some false)
theorem pleachplain_Texts_p.mono_l : ∀ k, (∀ y0 y1 y2 y3, LeO (pleachplain_Texts_p.l0 k y0 y1 y2 y3) (pleachplain_Texts_p.l0 (k + 1) y0 y1 y2 y3))
  | 0 => fun _ _ _ _ r h => by simp [pleachplain_Texts_p.l0] at h
  | k + 1 => by
    have ih0 := pleachplain_Texts_p.mono_l k
    · intro y0 y1 y2 y3
      unfold pleachplain_Texts_p.l0
      repeat' first
      | (with_reducible exact ih0 _ _ _ _)
      | (with_reducible exact LeO.refl _)
      | (with_reducible exact LeO.none _)
      | (with_reducible refine LeO.ite ?_ ?_)
      | (with_reducible refine LeO.bind ?_ (fun _ => ?_))
      | exact ih0 _ _ _ _
      | exact LeO.none _
      | refine LeO.ite ?_ ?_
      | refine LeO.bind ?_ (fun _ => ?_)
theorem pleachplain_Texts_p.mono : ∀ a0 a1 k, LeO (pleachplain_Texts_p.f k a0 a1) (pleachplain_Texts_p.f (k + 1) a0 a1) := by
  intro a0 a1 k
  have ih0 := pleachplain_Texts_p.mono_l k
  unfold pleachplain_Texts_p.f
  repeat' first
      | (with_reducible exact ih0 _ _ _ _)
      | (with_reducible exact LeO.refl _)
      | (with_reducible exact LeO.none _)
      | (with_reducible refine LeO.ite ?_ ?_)
      | (with_reducible refine LeO.bind ?_ (fun _ => ?_))
      | exact ih0 _ _ _ _
      | exact LeO.none _
      | refine LeO.ite ?_ ?_
      | refine LeO.bind ?_ (fun _ => ?_)
set_option maxHeartbeats 8000000 in
set_option maxRecDepth 100000 in
theorem pleachplain_Texts_p.calls (k : Nat) (A0 : Option Addr) (c0 : Nat) (l0 : List ByteArray) (A1 : Option Addr) (c1 : Nat) (l1 : List ByteArray) (r : Bool) (w : World) (hr0 : Kd.C Kd.string w A0 l0.length l0) (hc0 : l0.length ≤ c0) (hr1 : Kd.C Kd.string w A1 l1.length l1) (hc1 : l1.length ≤ c1) (h : pleachplain_Texts_p.f k l0 l1 = some r) :
    Calls Tryd.prog 26 #[.slice A0 l0.length c0, .slice A1 l1.length c1] w fun e w' => e = .returned (.bool r) ∧ Drawn0 w w' := by
 have HR0 := Aside0.mk hr0
 have HC0 := Aside0.mk hc0
 clear hr0 hc0
 have HR1 := Aside0.mk hr1
 have HC1 := Aside0.mk hc1
 clear hr1 hc1
 have H : (if (l0.length : Int) = (l1.length : Int) then (pleachplain_Texts_p.l0 k l0 l1 (l0.length : Int) 0) else (some false)) = some r := h
 clear h
 by_cases c3 : (l0.length : Int) = (l1.length : Int)
 ·rw [if_pos c3] at H
  have c3b0 : ((l0.length : Int) == (l1.length : Int)) = true := beq_iff_eq.mpr c3
  have c3b1 : ((l0.length : Int) != (l1.length : Int)) = false := bne_eq_false_iff_eq.mpr c3
  have c3b2 : (l0.length == l1.length) = true := by first | simpa using c3 | (simp at c3 ⊢; omega)
  clear c3
  have H' := Aside0.mk H
  clear H
  go_enter Tryd.func26, Tryd.ntmps26
  go_wp2
  repeat (go_quiet (fail); try go_wp2)
  go_loopg [13] k (fun kq v13 w' => ∃ (x13_1 : Int), v13 = .int .i64 x13_1 ∧ Aside0 (pleachplain_Texts_p.l0 kq l0 l1 (l0.length : Int) x13_1 = some r) ∧ Aside0 (kq ≤ k) ∧ Drawn0 w w')
  case atStart => exact ⟨(0), M.eqv, H', ⟨Nat.le_refl _⟩, by repeat (first | exact Drawn0.refl _ | apply Drawn0.step)⟩
  case round =>
   clear H'
   (try clear c1); (try clear c2); (try clear p2); (try clear c3); (try clear c3b0); (try clear c3b1); (try clear c3b2)
   obtain ⟨x13_1, rfl, HA, HK1, ⟨m1, rfl⟩⟩ := hrel
   cases gk with
   | zero => exact absurd HA.out (by simp [pleachplain_Texts_p.l0])
   | succ k1 =>
    have H := HA.out
    clear HA
    simp only [pleachplain_Texts_p.l0] at H
    by_cases c4 : x13_1 < (l0.length : Int)
    ·rw [if_pos c4] at H
     have c4b0 := decide_eq_true c4
     clear c4
     by_cases c5 : 0 ≤ x13_1
     ·rw [if_pos c5] at H
      have c5b0 := decide_eq_true c5
      clear c5
      by_cases c6 : x13_1 < (l0.length : Int)
      ·rw [if_pos c6] at H
       have c6b0 := decide_eq_true c6
       clear c6
       by_cases c7 : x13_1 < (l1.length : Int)
       ·rw [if_pos c7] at H
        have c7b0 := decide_eq_true c7
        clear c7
        by_cases c8 : (rdOf ByteArray.empty l0 x13_1).toList = (rdOf ByteArray.empty l1 x13_1).toList
        ·rw [if_pos c8] at H
         have c8b0 : ((rdOf ByteArray.empty l0 x13_1).toList == (rdOf ByteArray.empty l1 x13_1).toList) = true := beq_iff_eq.mpr c8
         have c8b1 : ((rdOf ByteArray.empty l0 x13_1).toList != (rdOf ByteArray.empty l1 x13_1).toList) = false := bne_eq_false_iff_eq.mpr c8
         clear c8
         have H' := Aside0.mk H
         clear H
         have p250 : 0 ≤ (x13_1 : Int) := M.dt
         have q250 : x13_1 < (l0.length : Int) := M.dt
         obtain ⟨ad250, e250, hx250_0⟩ := Kd.at_string HR0.out x13_1 p250 q250
         cases e250
         replace p250 := eq_true p250
         replace q250 := eq_true q250
         have p251 : 0 ≤ (x13_1 : Int) := M.dt
         have q251 : x13_1 < (l1.length : Int) := M.dt
         obtain ⟨ad251, e251, hx251_0⟩ := Kd.at_string HR1.out x13_1 p251 q251
         cases e251
         replace p251 := eq_true p251
         replace q251 := eq_true q251
         go_wp2
         repeat (go_quiet (fail); try go_wp2)
         go_roundg k1
         case measure => have := HK1.out; omega
         case rel => exact ⟨(wrap64 (x13_1 + 1)), M.eqv, H', ⟨by have := HK1.out; omega⟩, by repeat (first | exact Drawn0.refl _ | apply Drawn0.step)⟩
        ·rw [if_neg c8] at H
         have c8b0 : ((rdOf ByteArray.empty l0 x13_1).toList == (rdOf ByteArray.empty l1 x13_1).toList) = false := beq_eq_false_iff_ne.mpr c8
         have c8b1 : ((rdOf ByteArray.empty l0 x13_1).toList != (rdOf ByteArray.empty l1 x13_1).toList) = true := bne_iff_ne.mpr c8
         obtain rfl := Option.some.inj H
         have p250 : 0 ≤ (x13_1 : Int) := M.dt
         have q250 : x13_1 < (l0.length : Int) := M.dt
         obtain ⟨ad250, e250, hx250_0⟩ := Kd.at_string HR0.out x13_1 p250 q250
         cases e250
         replace p250 := eq_true p250
         replace q250 := eq_true q250
         have p251 : 0 ≤ (x13_1 : Int) := M.dt
         have q251 : x13_1 < (l1.length : Int) := M.dt
         obtain ⟨ad251, e251, hx251_0⟩ := Kd.at_string HR1.out x13_1 p251 q251
         cases e251
         replace p251 := eq_true p251
         replace q251 := eq_true q251
         go_wp2
         repeat (go_quiet (fail); try go_wp2)
         go_ret
         exact ⟨by first | rfl | (simp; done) | (simp [*]; done), by repeat (first | exact Drawn0.refl _ | apply Drawn0.step)⟩
       ·exact M.nf c7 H
      ·exact M.nf c6 H
     ·exact M.nf c5 H
    ·rw [if_neg c4] at H
     have c4b0 := decide_eq_false c4
     clear c4
     obtain rfl := Option.some.inj H
     go_wp2
     repeat (go_quiet (fail); try go_wp2)
     go_ret
     exact ⟨by first | rfl | (simp; done) | (simp [*]; done), by repeat (first | exact Drawn0.refl _ | apply Drawn0.step)⟩
 ·rw [if_neg c3] at H
  have c3b0 : ((l0.length : Int) == (l1.length : Int)) = false := beq_eq_false_iff_ne.mpr c3
  have c3b1 : ((l0.length : Int) != (l1.length : Int)) = true := bne_iff_ne.mpr c3
  have c3b2 : (l0.length == l1.length) = false := by first | simpa using c3 | (simp at c3 ⊢; omega)
  obtain rfl := Option.some.inj H
  go_enter Tryd.func26, Tryd.ntmps26
  go_wp2
  repeat (go_quiet (fail); try go_wp2)
  go_ret
  exact ⟨by first | rfl | (simp; done) | (simp [*]; done), by repeat (first | exact Drawn0.refl _ | apply Drawn0.step)⟩
def pleachplain_Texts.f (l0 : List ByteArray) (l1 : List ByteArray) : Option Bool := if l0.length ≤ 9223372036854775806 then some (decide (l0 = l1)) else none
theorem pleachplain_Texts.loop (l m : List ByteArray) (hl : l.length ≤ 9223372036854775806) (hm : l.length = m.length) (d : Nat) : ∀ (i : Nat), i + d = l.length →
    pleachplain_Texts_p.l0 (d + 1) l m (l.length : Int) (i : Int) = some (decide (l.drop i = m.drop i)) := by
 induction d with
 | zero =>
  intro i hi
  rw [pleachplain_Texts_p.l0, if_neg (by omega), List.drop_of_length_le (by omega), List.drop_of_length_le (by omega)]
  congr 1
 | succ d ih =>
  intro i hi
  have hlt : i < l.length := by omega
  have hlt' : i < m.length := by omega
  have hrd : rdOf ByteArray.empty l (i : Int) = l[i] := by simp [rdOf, List.getD, hlt]
  have hrd' : rdOf ByteArray.empty m (i : Int) = m[i] := by simp [rdOf, List.getD, hlt']
  rw [pleachplain_Texts_p.l0, if_pos (by omega), if_pos (by omega), if_pos (by omega), if_pos (by omega), hrd, hrd', M.wrap64_id (by omega) (by omega), show (i : Int) + 1 = ((i + 1 : Nat) : Int) from by omega, ih (i + 1) (by omega), List.drop_eq_getElem_cons hlt, List.drop_eq_getElem_cons hlt', M.toList_bs, M.toList_bs]
  by_cases h : l[i] = m[i]
  ·rw [if_pos (by rw [h])]
   congr 1
   apply decide_eq_decide.2
   rw [h]
   exact ⟨fun z => by rw [z], fun z => (List.cons.inj z).2⟩
  ·rw [if_neg (fun z => h (M.bs_inj z))]
   congr 1
   exact (decide_eq_false (fun z => h (List.cons.inj z).1)).symm
theorem pleachplain_Texts.ev (l m : List ByteArray) (r : Bool) (h : pleachplain_Texts.f l m = some r) : ∃ k, pleachplain_Texts_p.f k l m = some r := by
 unfold pleachplain_Texts.f at h
 split at h
 case isFalse => cases h
 case isTrue hh =>
  refine ⟨l.length + 1, ?_⟩
  rw [← h]
  unfold pleachplain_Texts_p.f
  by_cases hm : l.length = m.length
  ·have := pleachplain_Texts.loop l m hh hm l.length 0 (by omega)
   rw [List.drop_zero, List.drop_zero] at this
   rw [if_pos (by omega)]
   exact this
  ·rw [if_neg (by omega)]
   congr 1
   exact (decide_eq_false (fun z => hm (by rw [z]))).symm
theorem pleachplain_Texts.calls (A0 : Option Addr) (c0 : Nat) (l0 : List ByteArray) (A1 : Option Addr) (c1 : Nat) (l1 : List ByteArray) (r : Bool) (w : World) (hr0 : Kd.C Kd.string w A0 l0.length l0) (hc0 : l0.length ≤ c0) (hr1 : Kd.C Kd.string w A1 l1.length l1) (hc1 : l1.length ≤ c1) (h : pleachplain_Texts.f l0 l1 = some r) :
    Calls Tryd.prog 26 #[.slice A0 l0.length c0, .slice A1 l1.length c1] w fun e w' => e = .returned (.bool r) ∧ Drawn0 w w' := by
 obtain ⟨k, hk⟩ := pleachplain_Texts.ev _ _ _ h
 exact pleachplain_Texts_p.calls (k := k) (w := w) (h := hk) (hr0 := hr0) (hc0 := hc0) (hr1 := hr1) (hc1 := hc1)
end Go.Proofs.YtikdbklmhjlfoaaDoor.ECommitKnots
