-- Laid by this session's own program (wip/tools/fold.py): this session's texts, cut to what the claim names and put together; Lean checks it.
import Derived.Test.YtopllfdjlbnmfaaDoorVTreeChildren1
import Derived.Test.YtopllfdjlbnmfaaDoorVTreeChildren2
import Derived.Test.YtopllfdjlbnmfaaDoorVTreeChildren4
import Derived.Test.YtopllfdjlbnmfaaDoorVTreeChildren6
import Derived.Test.YtopllfdjlbnmfaaDoorXTreeChildren1
namespace Go.Proofs.YtopllfdjlbnmfaaDoor.ETreeChildren
open Go.RowKit Go.Proofs.YtopllfdjlbnmfaaDoorW.PrintWords Go.Proofs.YtopllfdjlbnmfaaDoorW.PrintLast Go.Proofs.YtopllfdjlbnmfaaDoorW.PrintMore
attribute [local go_sem] M.run_leq M.run_gtr M.run_geq max2_int min2_int max_two min_two max_three min_three max_four min_four
set_option linter.unusedVariables false
set_option linter.unusedSimpArgs false
theorem shelf_Shelf_Len.calls (base g B : Nat) (D : DataW Unit) (vt vn : Value) (ts : List ByteArray) (a b : ByteArray) (w : World) (hS : M.shelf Tryd.prog base w g B D vt vn ts a b) :
    Calls Tryd.prog 29 #[.pointer (some ⟨g, 0, none⟩)] w fun e w' => e = .returned (.int .i64 (ts.length : Int)) ∧ w = w' := by
 obtain ⟨A, c, rfl⟩ := M.rowW_slice hS.rt
 have c1 : w.cell? ⟨g, 1, none⟩ = some (.slice A ts.length c) := M.blk_cell hS.blk 1 _ rfl
 have HS := Aside0.mk hS
 clear hS
 go_enter Tryd.func29, Tryd.ntmps29
 go_wp2_with ((go_at_call 50; (with_reducible refine (shelf_Shelf_there.calls base g B D _ vn ts a b _ HS.out).mono ?_); rintro e w1 ⟨rfl, rfl⟩))
 go_ret
 exact ⟨rfl, rfl⟩
theorem shelf_Shelf_Len.any (base g : Nat) (F : Nat → Prop) (s : M.SS) (w : World) (hS : M.Sh Tryd.prog base w g F s) :
    Calls Tryd.prog 29 #[.pointer (some ⟨g, 0, none⟩)] w fun e w' => e = .returned (.int .i64 (s.ts.length : Int)) ∧ w = w' := by
 obtain ⟨B, D, vt, vn, hs, hF, hl⟩ := hS
 exact shelf_Shelf_Len.calls base g B D vt vn s.ts s.a s.b w hs
def pleachlaw20_awake.f : Option Bool := some true
theorem pleachlaw20_awake.put1 : M.SS.none_.put ⟨#[76, 0]⟩ = (M.shaSum ⟨#[76, 0]⟩, 0, ⟨[⟨#[76, 0]⟩], ByteArray.empty, ByteArray.empty⟩) := by
 unfold M.SS.put
 rw [if_neg (by decide +kernel), if_neg (by decide)]
 rfl
set_option maxHeartbeats 8000000 in
set_option maxRecDepth 100000 in
theorem pleachlaw20_awake.walk (w : World) (hT : M.stab w) : Calls Tryd.prog 7 #[] w fun e w' => e = .returned (.bool true) ∧ Below w.heap.size w w' := by
 have HT := Aside0.mk hT
 obtain ⟨s, hs⟩ : ∃ s, M.shaSum ⟨#[76, 0]⟩ = s := ⟨_, rfl⟩
 have HSum := Aside0.mk (show pleachref03_Sum.f ⟨#[76, 0]⟩ = some s by rw [← hs]; exact pleachref03_Sum.eq_ _ (by decide))
 have HP := Aside0.mk (show M.SS.none_.put ⟨#[76, 0]⟩ = (s, 0, ⟨[⟨#[76, 0]⟩], ByteArray.empty, ByteArray.empty⟩) from hs ▸ pleachlaw20_awake.put1)
 have hlt := Aside0.mk (M.stab_lt hT)
 have H1s : (s.toList == s.toList) = true := by simp
 clear hT hs
 go_enter Tryd.func7, Tryd.ntmps7
 go_wp2_with (first | (go_at_call 20; (with_reducible refine (shelf_New.any _).mono ?_); rintro e w1 ⟨g, F, rfl, hs1, hb1⟩; have HS1 := Aside0.mk hs1; have HB1 := Aside0.mk hb1; have HT1 := Aside0.mk (M.stab_below HT.out hb1 hlt.out); clear hs1 hb1) | (go_at_call 21; (with_reducible refine (tree_Build.none0 w.heap.size g F M.SS.none_ _ s HP.out _ HS1.out HT1.out (by decide)).mono ?_); rintro e w2 ⟨rfl, F2, hs2, hf2, hk2, hb2⟩; have HS2 := Aside0.mk hs2; have HB2 := Aside0.mk (HB1.out.trans hb2); clear HS1 hs2 hf2 hk2 hb2) | (go_at_call 29; (with_reducible refine (shelf_Shelf_Len.any w.heap.size g F2 _ _ HS2.out).mono ?_); rintro e w4 ⟨rfl, rfl⟩) | (go_at_call 28; (with_reducible refine (pleachref03_Sum.calls ⟨#[76, 0]⟩ s _ HSum.out).mono ?_); rintro e w5 ⟨rfl, hb5⟩; have HB5 := Aside0.mk (below_step HB2.out hb5); replace HS2 := Aside0.mk (HS2.out.below hb5); clear hb5))
 go_ret
 exact ⟨rfl, HB5.out⟩
theorem pleachlaw20_awake.calls (r : Bool) (w : World) (hT : M.stab w) (h : pleachlaw20_awake.f = some r) : Calls Tryd.prog 7 #[] w fun e w' => e = .returned (.bool r) ∧ Below w.heap.size w w' := by
 obtain rfl := Option.some.inj h
 exact pleachlaw20_awake.walk w hT
theorem pleachref16_Put.size_ : (Tryd.prog.info? 31).map (·.size) = some 4 := by kernel_rfl
def pleachref16_Put.zero_ : List Value := [.slice none 0 0, .slice none 0 0, .string ⟨#[]⟩, .string ⟨#[]⟩]
def pleachref16_Put.rec_ (A0 A1 : Option Addr) (n c0 c1 : Nat) (a b : ByteArray) : List Value := [.slice A0 n c0, .slice A1 n c1, .string a, .string b]
def pleachref16_Put.W0 (A0 A1 : Option Addr) (n c0 c1 : Nat) (a b : ByteArray) (w : World) : World := (w.alloc (.cells #[.slice A0 n c0, .slice A1 n c1, .string a, .string b] 31)).alloc (.cells #[.slice none 0 0, .slice none 0 0, .string ⟨#[]⟩, .string ⟨#[]⟩] 31)
theorem pleachref16_Put.c2 (A0 A1 : Option Addr) (n c0 c1 : Nat) (a b : ByteArray) (w : World) : M.rec_ (pleachref16_Put.W0 A0 A1 n c0 c1 a b w) w.heap.size 31 [.slice A0 n c0, .slice A1 n c1, .string a, .string b] := M.rec_alloc (M.rec_new w 31 [.slice A0 n c0, .slice A1 n c1, .string a, .string b]) _
theorem pleachref16_Put.c4 (A0 A1 : Option Addr) (n c0 c1 : Nat) (a b : ByteArray) (w : World) : M.rec_ (pleachref16_Put.W0 A0 A1 n c0 c1 a b w) (w.heap.size + 1) 31 [.slice none 0 0, .slice none 0 0, .string ⟨#[]⟩, .string ⟨#[]⟩] := by
 have := M.rec_new (w.alloc (.cells #[.slice A0 n c0, .slice A1 n c1, .string a, .string b] 31)) 31 [.slice none 0 0, .slice none 0 0, .string ⟨#[]⟩, .string ⟨#[]⟩]
 have e : (w.alloc (.cells #[.slice A0 n c0, .slice A1 n c1, .string a, .string b] 31)).heap.size = w.heap.size + 1 := by simp
 rw [e] at this
 exact this
theorem pleachref16_Put.b0 (A0 A1 : Option Addr) (n c0 c1 : Nat) (a b : ByteArray) (w : World) : Below w.heap.size w (pleachref16_Put.W0 A0 A1 n c0 c1 a b w) := below_alloc (below_alloc (Below.refl _ _) _) _
set_option maxHeartbeats 8000000 in
set_option maxRecDepth 100000 in
theorem pleachref16_Put.empty (A0 A1 : Option Addr) (n c0 c1 : Nat) (a b t : ByteArray) (w : World)  :
    Calls Tryd.prog 31 #[.agg #[.slice A0 n c0, .slice A1 n c1, .string a, .string b], .string ByteArray.empty] w fun e w' => e = .returned (.tuple #[.agg #[.slice A0 n c0, .slice A1 n c1, .string a, .string b], .string ByteArray.empty, .int .i64 2]) ∧ Below w.heap.size w w' := by
 have HC2 := Aside0.mk (pleachref16_Put.c2 A0 A1 n c0 c1 a b w)
 have HC4 := Aside0.mk (pleachref16_Put.c4 A0 A1 n c0 c1 a b w)
 have HB0 := Aside0.mk (pleachref16_Put.b0 A0 A1 n c0 c1 a b w)
 unfold pleachref16_Put.W0 at HC2 HC4 HB0
 have hd : (ByteArray.empty : ByteArray).toList.isEmpty = true := by decide +kernel
 go_enter Tryd.func31, Tryd.ntmps31
 go_wp2_with (first | ((with_reducible refine gate_dst (N := 11) rfl ?_); ((refine gate_guard (by rfl) ?_; dsimp only)); refine M.wp_rec_load rfl 31 _ rfl w.heap.size 31 [.slice A0 n c0, .slice A1 n c1, .string a, .string b] rfl HC2.out _ Tryd.underlying31 rfl pleachref16_Put.size_ ?_) | ((with_reducible refine gate_store (t := 31) (p := 4) (v := .tmp 11) rfl ?_); refine M.wp_rec_store rfl 31 _ _ rfl (w.heap.size + 1) 31 [.slice none 0 0, .slice none 0 0, .string ⟨#[]⟩, .string ⟨#[]⟩] [.slice A0 n c0, .slice A1 n c1, .string a, .string b] rfl rfl HC4.out rfl pleachref16_Put.size_ rfl ?_; intro w4 hA4 hF4 hB4 hz4; have HB4 := Aside0.mk (hB4 _ _ (Nat.le_succ _) HB0.out); have HA4 := Aside0.mk hA4; clear hA4 hF4 hB4 hz4))
 exact bodyPost_ret (results_ctt rfl _ _ (w.heap.size + 1) 31 #[.slice A0 n c0, .slice A1 n c1, .string a, .string b] (0, 0) _ rfl HA4.out Tryd.underlying31 rfl pleachref16_Put.size_) rfl ⟨rfl, HB4.out⟩
set_option maxHeartbeats 8000000 in
set_option maxRecDepth 100000 in
theorem pleachref16_Put.long (A0 A1 : Option Addr) (n c0 c1 : Nat) (a b t : ByteArray) (w : World) (ht : 65536 < t.size) :
    Calls Tryd.prog 31 #[.agg #[.slice A0 n c0, .slice A1 n c1, .string a, .string b], .string t] w fun e w' => e = .returned (.tuple #[.agg #[.slice A0 n c0, .slice A1 n c1, .string a, .string b], .string ByteArray.empty, .int .i64 5]) ∧ Below w.heap.size w w' := by
 have HC2 := Aside0.mk (pleachref16_Put.c2 A0 A1 n c0 c1 a b w)
 have HC4 := Aside0.mk (pleachref16_Put.c4 A0 A1 n c0 c1 a b w)
 have HB0 := Aside0.mk (pleachref16_Put.b0 A0 A1 n c0 c1 a b w)
 unfold pleachref16_Put.W0 at HC2 HC4 HB0
 have hd : t.toList.isEmpty = false := M.nonempty (fun e => by rw [e] at ht; exact absurd ht (by decide))
 have hdd : decide ((65536 : Int) < (t.size : Int)) = true := decide_eq_true (by omega)
 go_enter Tryd.func31, Tryd.ntmps31
 go_wp2_with (first | ((with_reducible refine gate_dst (N := 15) rfl ?_); ((refine gate_guard (by rfl) ?_; dsimp only)); refine M.wp_rec_load rfl 31 _ rfl w.heap.size 31 [.slice A0 n c0, .slice A1 n c1, .string a, .string b] rfl HC2.out _ Tryd.underlying31 rfl pleachref16_Put.size_ ?_) | ((with_reducible refine gate_store (t := 31) (p := 4) (v := .tmp 15) rfl ?_); refine M.wp_rec_store rfl 31 _ _ rfl (w.heap.size + 1) 31 [.slice none 0 0, .slice none 0 0, .string ⟨#[]⟩, .string ⟨#[]⟩] [.slice A0 n c0, .slice A1 n c1, .string a, .string b] rfl rfl HC4.out rfl pleachref16_Put.size_ rfl ?_; intro w4 hA4 hF4 hB4 hz4; have HB4 := Aside0.mk (hB4 _ _ (Nat.le_succ _) HB0.out); have HA4 := Aside0.mk hA4; clear hA4 hF4 hB4 hz4))
 exact bodyPost_ret (results_ctt rfl _ _ (w.heap.size + 1) 31 #[.slice A0 n c0, .slice A1 n c1, .string a, .string b] (0, 0) _ rfl HA4.out Tryd.underlying31 rfl pleachref16_Put.size_) rfl ⟨rfl, HB4.out⟩
set_option maxHeartbeats 8000000 in
set_option maxRecDepth 100000 in
theorem pleachref16_Put.met (A0 A1 : Option Addr) (c0 c1 : Nat) (a b t : ByteArray) (ts : List ByteArray) (w : World) (hts : ts.length ≤ 1000000000) (h0 : t ≠ ByteArray.empty) (hl : t.size ≤ 65536) (r0 : Kd.C Kd.string w A0 ts.length ts) (r1 : Kd.C Kd.string w A1 (ts.map M.shaSum).length (ts.map M.shaSum)) (i : Nat) (hi : M.idx (ts.map M.shaSum) (M.shaSum t).data.toList = some i) (he : ts.getD i ByteArray.empty = t) :
    Calls Tryd.prog 31 #[.agg #[.slice A0 ts.length c0, .slice A1 ts.length c1, .string a, .string b], .string t] w fun e w' => e = .returned (.tuple #[.agg #[.slice A0 ts.length c0, .slice A1 ts.length c1, .string a, .string b], .string (M.shaSum t), .int .i64 0]) ∧ Below w.heap.size w w' := by
 have hsz : ts.length ≤ 1000000000 := hts
 have HC2 := Aside0.mk (pleachref16_Put.c2 A0 A1 ts.length c0 c1 a b w)
 have HC4 := Aside0.mk (pleachref16_Put.c4 A0 A1 ts.length c0 c1 a b w)
 have HB0 := Aside0.mk (pleachref16_Put.b0 A0 A1 ts.length c0 c1 a b w)
 unfold pleachref16_Put.W0 at HC2 HC4 HB0
 have hd : t.toList.isEmpty = false := M.nonempty h0
 have hdd : decide ((65536 : Int) < (t.size : Int)) = false := decide_eq_false (by omega)
 obtain ⟨m, hm⟩ : ∃ m, M.shaSum t = m := ⟨_, rfl⟩
 have HSum := Aside0.mk (show pleachref03_Sum.f t = some m by rw [← hm]; exact pleachref03_Sum.eq_ t (by omega))
 have HR0 := Aside0.mk r0
 have HR1 := Aside0.mk r1
 have hib : i < ts.length := by have := (M.idx_lt hi).1; simpa using this
 have hat : M.shaSum (ts.getD i ByteArray.empty) = M.shaSum t := M.idx_at hi
 have hbef := Aside0.mk (fun k (hk : k < i) => M.idx_before hi hk)
 have hatm := hat.trans hm
 rw [hm]
 clear r0 r1 hat hi
 go_enter Tryd.func31, Tryd.ntmps31
 go_wp2_with ((go_at_call 28; (with_reducible refine (pleachref03_Sum.calls t m _ HSum.out).mono ?_); rintro e w1 ⟨rfl, hb1⟩; have n1 := Aside0.mk (M.rec_below HC2.out hb1); have n2 := Aside0.mk (M.rec_below HC4.out hb1); have n3 := Aside0.mk (below_step HB0.out hb1); clear HC2 HC4 HB0; have HC2 := n1; have HC4 := n2; have HB1 := n3; clear n1 n2 n3 hb1))
 have q0 : w1.cell? ⟨w.heap.size, 0, none⟩ = some (.slice A0 ts.length c0) := M.rec_cell HC2.out 0 _ rfl
 have q1 : w1.cell? ⟨w.heap.size, 1, none⟩ = some (.slice A1 ts.length c1) := M.rec_cell HC2.out 1 _ rfl
 have q2 : w1.cell? ⟨w.heap.size, 2, none⟩ = some (.string a) := M.rec_cell HC2.out 2 _ rfl
 have q3 : w1.cell? ⟨w.heap.size, 3, none⟩ = some (.string b) := M.rec_cell HC2.out 3 _ rfl
 have g0 := M.rec_free HC2.out 0
 have g1 := M.rec_free HC2.out 1
 have g2 := M.rec_free HC2.out 2
 have g3 := M.rec_free HC2.out 3
 go_loopg [8] (i) (fun kq v8 wr => ∃ (k : Nat), v8 = .int .i64 (k : Int) ∧ k ≤ i ∧ Aside0 (kq = i - k) ∧ Aside0 (wr = w1))
 case atStart => exact ⟨0, rfl, Nat.zero_le _, ⟨rfl⟩, ⟨rfl⟩⟩
 case round =>
  obtain ⟨k, rfl, hk, hkq, HW⟩ := hrel
  obtain rfl := HW.out
  clear HW
  have hk2 : k < ts.length := by omega
  obtain ⟨x, hx⟩ : ∃ x, ts.getD k ByteArray.empty = x := ⟨_, rfl⟩
  obtain ⟨y, hy⟩ : ∃ y, M.shaSum x = y := ⟨_, rfl⟩
  obtain ⟨a0, e0, hx1⟩ := Kd.at_string (Kd.C_below HR0.out HB1.out) (k : Int) (by omega) (by omega)
  obtain ⟨a1, e1, hy1⟩ := Kd.at_string (M.reads_n (Kd.C_below HR1.out HB1.out) (List.length_map _)) (k : Int) (by omega) (by omega)
  rw [show rdOf ByteArray.empty ts (k : Int) = x from by rw [← hx]; rfl, Int.toNat_natCast] at hx1
  rw [show rdOf ByteArray.empty (ts.map M.shaSum) (k : Int) = y from by rw [← hy, ← hx]; simp [rdOf, List.getD, hk2], Int.toNat_natCast] at hy1
  subst e0 e1
  have p1 : (k : Int) < (ts.length : Int) := by omega
  have p2 : (0 : Int) ≤ (k : Int) := by omega
  have p3 := decide_eq_true p1
  have p4 : decide (k < ts.length) = true := decide_eq_true hk2
  have HX := Aside0.mk hx
  have HY := Aside0.mk hy
  by_cases hlt : k < i
  ·have hn := hbef.out k hlt
   rw [hx, hy, hm] at hn
   have hne1 : (x.toList == t.toList) = false := by simpa using M.unlike hn.1
   have hne2 : (y.toList == m.toList) = false := by simpa using M.unlike hn.2
   clear hx hy hn
   go_wp2
   go_roundg (i - (k + 1))
   case measure => have := hkq.out; omega
   case rel => exact ⟨k + 1, by go_num, by omega, ⟨rfl⟩, ⟨rfl⟩⟩
  ·obtain rfl : k = i := by omega
   obtain rfl : x = t := hx.symm.trans he
   have hne1 : (x.toList == x.toList) = true := by simp
   clear hx hy hatm
   go_wp2_with (first | ((with_reducible refine gate_dst (N := 32) rfl ?_); ((refine gate_guard (by rfl) ?_; dsimp only)); refine M.wp_rec_load rfl 31 _ rfl (w.heap.size) 31 [.slice (some a0) ts.length c0, .slice (some a1) ts.length c1, .string a, .string b] rfl HC2.out _ Tryd.underlying31 rfl pleachref16_Put.size_ ?_) | ((with_reducible refine gate_store (t := 31) (p := 4) (v := .tmp 32) rfl ?_); refine M.wp_rec_store rfl 31 _ _ rfl (w.heap.size + 1) 31 [.slice none 0 0, .slice none 0 0, .string ⟨#[]⟩, .string ⟨#[]⟩] [.slice (some a0) ts.length c0, .slice (some a1) ts.length c1, .string a, .string b] rfl rfl HC4.out rfl pleachref16_Put.size_ rfl ?_; intro w4 hA4 hF4 hB4 hz4; have HB4 := Aside0.mk (hB4 _ _ (Nat.le_succ _) HB1.out); have HF4 := Aside0.mk hF4; have HA4 := Aside0.mk hA4; clear hA4 hF4 hB4 hz4))
   exact bodyPost_ret (results_ctt rfl _ _ (w.heap.size + 1) 31 #[.slice (some a0) ts.length c0, .slice (some a1) ts.length c1, .string a, .string b] (0, 0) _ rfl HA4.out Tryd.underlying31 rfl pleachref16_Put.size_) rfl ⟨rfl, HB4.out⟩
set_option maxHeartbeats 8000000 in
set_option maxRecDepth 100000 in
theorem pleachref16_Put.clashN (A0 A1 : Option Addr) (c0 c1 : Nat) (a b t : ByteArray) (ts : List ByteArray) (w : World) (hts : ts.length ≤ 1000000000) (h0 : t ≠ ByteArray.empty) (hl : t.size ≤ 65536) (r0 : Kd.C Kd.string w A0 ts.length ts) (r1 : Kd.C Kd.string w A1 (ts.map M.shaSum).length (ts.map M.shaSum)) (i : Nat) (hi : M.idx (ts.map M.shaSum) (M.shaSum t).data.toList = some i) (he : ts.getD i ByteArray.empty ≠ t) (ha : a ≠ ByteArray.empty) :
    Calls Tryd.prog 31 #[.agg #[.slice A0 ts.length c0, .slice A1 ts.length c1, .string a, .string b], .string t] w fun e w' => e = .returned (.tuple #[.agg #[.slice A0 ts.length c0, .slice A1 ts.length c1, .string a, .string b], .string ByteArray.empty, .int .i64 15]) ∧ Below w.heap.size w w' := by
 have hsz : ts.length ≤ 1000000000 := hts
 have HC2 := Aside0.mk (pleachref16_Put.c2 A0 A1 ts.length c0 c1 a b w)
 have HC4 := Aside0.mk (pleachref16_Put.c4 A0 A1 ts.length c0 c1 a b w)
 have HB0 := Aside0.mk (pleachref16_Put.b0 A0 A1 ts.length c0 c1 a b w)
 unfold pleachref16_Put.W0 at HC2 HC4 HB0
 have hd : t.toList.isEmpty = false := M.nonempty h0
 have hdd : decide ((65536 : Int) < (t.size : Int)) = false := decide_eq_false (by omega)
 obtain ⟨m, hm⟩ : ∃ m, M.shaSum t = m := ⟨_, rfl⟩
 have HSum := Aside0.mk (show pleachref03_Sum.f t = some m by rw [← hm]; exact pleachref03_Sum.eq_ t (by omega))
 have HR0 := Aside0.mk r0
 have HR1 := Aside0.mk r1
 have hib : i < ts.length := by have := (M.idx_lt hi).1; simpa using this
 have hat : M.shaSum (ts.getD i ByteArray.empty) = M.shaSum t := M.idx_at hi
 have hbef := Aside0.mk (fun k (hk : k < i) => M.idx_before hi hk)
 have hatm := hat.trans hm
 have hda : a.toList.isEmpty = false := M.nonempty ha
 clear r0 r1 hat hi
 go_enter Tryd.func31, Tryd.ntmps31
 go_wp2_with ((go_at_call 28; (with_reducible refine (pleachref03_Sum.calls t m _ HSum.out).mono ?_); rintro e w1 ⟨rfl, hb1⟩; have n1 := Aside0.mk (M.rec_below HC2.out hb1); have n2 := Aside0.mk (M.rec_below HC4.out hb1); have n3 := Aside0.mk (below_step HB0.out hb1); clear HC2 HC4 HB0; have HC2 := n1; have HC4 := n2; have HB1 := n3; clear n1 n2 n3 hb1))
 have q0 : w1.cell? ⟨w.heap.size, 0, none⟩ = some (.slice A0 ts.length c0) := M.rec_cell HC2.out 0 _ rfl
 have q1 : w1.cell? ⟨w.heap.size, 1, none⟩ = some (.slice A1 ts.length c1) := M.rec_cell HC2.out 1 _ rfl
 have q2 : w1.cell? ⟨w.heap.size, 2, none⟩ = some (.string a) := M.rec_cell HC2.out 2 _ rfl
 have q3 : w1.cell? ⟨w.heap.size, 3, none⟩ = some (.string b) := M.rec_cell HC2.out 3 _ rfl
 have g0 := M.rec_free HC2.out 0
 have g1 := M.rec_free HC2.out 1
 have g2 := M.rec_free HC2.out 2
 have g3 := M.rec_free HC2.out 3
 go_loopg [8] (i) (fun kq v8 wr => ∃ (k : Nat), v8 = .int .i64 (k : Int) ∧ k ≤ i ∧ Aside0 (kq = i - k) ∧ Aside0 (wr = w1))
 case atStart => exact ⟨0, rfl, Nat.zero_le _, ⟨rfl⟩, ⟨rfl⟩⟩
 case round =>
  obtain ⟨k, rfl, hk, hkq, HW⟩ := hrel
  obtain rfl := HW.out
  clear HW
  have hk2 : k < ts.length := by omega
  obtain ⟨x, hx⟩ : ∃ x, ts.getD k ByteArray.empty = x := ⟨_, rfl⟩
  obtain ⟨y, hy⟩ : ∃ y, M.shaSum x = y := ⟨_, rfl⟩
  obtain ⟨a0, e0, hx1⟩ := Kd.at_string (Kd.C_below HR0.out HB1.out) (k : Int) (by omega) (by omega)
  obtain ⟨a1, e1, hy1⟩ := Kd.at_string (M.reads_n (Kd.C_below HR1.out HB1.out) (List.length_map _)) (k : Int) (by omega) (by omega)
  rw [show rdOf ByteArray.empty ts (k : Int) = x from by rw [← hx]; rfl, Int.toNat_natCast] at hx1
  rw [show rdOf ByteArray.empty (ts.map M.shaSum) (k : Int) = y from by rw [← hy, ← hx]; simp [rdOf, List.getD, hk2], Int.toNat_natCast] at hy1
  subst e0 e1
  have p1 : (k : Int) < (ts.length : Int) := by omega
  have p2 : (0 : Int) ≤ (k : Int) := by omega
  have p3 := decide_eq_true p1
  have p4 : decide (k < ts.length) = true := decide_eq_true hk2
  have HX := Aside0.mk hx
  have HY := Aside0.mk hy
  by_cases hlt : k < i
  ·have hn := hbef.out k hlt
   rw [hx, hy, hm] at hn
   have hne1 : (x.toList == t.toList) = false := by simpa using M.unlike hn.1
   have hne2 : (y.toList == m.toList) = false := by simpa using M.unlike hn.2
   clear hx hy hn
   go_wp2
   go_roundg (i - (k + 1))
   case measure => have := hkq.out; omega
   case rel => exact ⟨k + 1, by go_num, by omega, ⟨rfl⟩, ⟨rfl⟩⟩
  ·obtain rfl : k = i := by omega
   have hne1 : (x.toList == t.toList) = false := by simpa using M.unlike (fun z => he (hx.trans z))
   obtain rfl : y = m := hy.symm.trans ((congrArg M.shaSum hx.symm).trans hatm)
   have hne2 : (y.toList == y.toList) = true := by simp
   clear hx hy hatm
   go_wp2_with (first | ((with_reducible refine gate_dst (N := 52) rfl ?_); ((refine gate_guard (by rfl) ?_; dsimp only)); refine M.wp_rec_load rfl 31 _ rfl (w.heap.size) 31 [.slice (some a0) ts.length c0, .slice (some a1) ts.length c1, .string a, .string b] rfl HC2.out _ Tryd.underlying31 rfl pleachref16_Put.size_ ?_) | ((with_reducible refine gate_store (t := 31) (p := 4) (v := .tmp 52) rfl ?_); refine M.wp_rec_store rfl 31 _ _ rfl (w.heap.size + 1) 31 [.slice none 0 0, .slice none 0 0, .string ⟨#[]⟩, .string ⟨#[]⟩] [.slice (some a0) ts.length c0, .slice (some a1) ts.length c1, .string a, .string b] rfl rfl HC4.out rfl pleachref16_Put.size_ rfl ?_; intro w4 hA4 hF4 hB4 hz4; have HB4 := Aside0.mk (hB4 _ _ (Nat.le_succ _) HB1.out); have HF4 := Aside0.mk hF4; have HA4 := Aside0.mk hA4; clear hA4 hF4 hB4 hz4))
   exact bodyPost_ret (results_ctt rfl _ _ (w.heap.size + 1) 31 #[.slice (some a0) ts.length c0, .slice (some a1) ts.length c1, .string a, .string b] (0, 0) _ rfl HA4.out Tryd.underlying31 rfl pleachref16_Put.size_) rfl ⟨rfl, HB4.out⟩
set_option maxHeartbeats 8000000 in
set_option maxRecDepth 100000 in
theorem pleachref16_Put.clash0 (A0 A1 : Option Addr) (c0 c1 : Nat) (a b t : ByteArray) (ts : List ByteArray) (w : World) (hts : ts.length ≤ 1000000000) (h0 : t ≠ ByteArray.empty) (hl : t.size ≤ 65536) (r0 : Kd.C Kd.string w A0 ts.length ts) (r1 : Kd.C Kd.string w A1 (ts.map M.shaSum).length (ts.map M.shaSum)) (i : Nat) (hi : M.idx (ts.map M.shaSum) (M.shaSum t).data.toList = some i) (he : ts.getD i ByteArray.empty ≠ t) (ha : a = ByteArray.empty) :
    Calls Tryd.prog 31 #[.agg #[.slice A0 ts.length c0, .slice A1 ts.length c1, .string a, .string b], .string t] w fun e w' => e = .returned (.tuple #[.agg #[.slice A0 ts.length c0, .slice A1 ts.length c1, .string (ts.getD i ByteArray.empty), .string t], .string ByteArray.empty, .int .i64 15]) ∧ Below w.heap.size w w' := by
 subst ha
 have hsz : ts.length ≤ 1000000000 := hts
 have HC2 := Aside0.mk (pleachref16_Put.c2 A0 A1 ts.length c0 c1 ByteArray.empty b w)
 have HC4 := Aside0.mk (pleachref16_Put.c4 A0 A1 ts.length c0 c1 ByteArray.empty b w)
 have HB0 := Aside0.mk (pleachref16_Put.b0 A0 A1 ts.length c0 c1 ByteArray.empty b w)
 unfold pleachref16_Put.W0 at HC2 HC4 HB0
 have hd : t.toList.isEmpty = false := M.nonempty h0
 have hdd : decide ((65536 : Int) < (t.size : Int)) = false := decide_eq_false (by omega)
 obtain ⟨m, hm⟩ : ∃ m, M.shaSum t = m := ⟨_, rfl⟩
 have HSum := Aside0.mk (show pleachref03_Sum.f t = some m by rw [← hm]; exact pleachref03_Sum.eq_ t (by omega))
 have HR0 := Aside0.mk r0
 have HR1 := Aside0.mk r1
 have hib : i < ts.length := by have := (M.idx_lt hi).1; simpa using this
 have hat : M.shaSum (ts.getD i ByteArray.empty) = M.shaSum t := M.idx_at hi
 have hbef := Aside0.mk (fun k (hk : k < i) => M.idx_before hi hk)
 have hatm := hat.trans hm
 have hda : (ByteArray.empty : ByteArray).toList.isEmpty = true := by decide +kernel
 clear r0 r1 hat hi
 go_enter Tryd.func31, Tryd.ntmps31
 go_wp2_with ((go_at_call 28; (with_reducible refine (pleachref03_Sum.calls t m _ HSum.out).mono ?_); rintro e w1 ⟨rfl, hb1⟩; have n1 := Aside0.mk (M.rec_below HC2.out hb1); have n2 := Aside0.mk (M.rec_below HC4.out hb1); have n3 := Aside0.mk (below_step HB0.out hb1); clear HC2 HC4 HB0; have HC2 := n1; have HC4 := n2; have HB1 := n3; clear n1 n2 n3 hb1))
 have q0 : w1.cell? ⟨w.heap.size, 0, none⟩ = some (.slice A0 ts.length c0) := M.rec_cell HC2.out 0 _ rfl
 have q1 : w1.cell? ⟨w.heap.size, 1, none⟩ = some (.slice A1 ts.length c1) := M.rec_cell HC2.out 1 _ rfl
 have q2 : w1.cell? ⟨w.heap.size, 2, none⟩ = some (.string ByteArray.empty) := M.rec_cell HC2.out 2 _ rfl
 have q3 : w1.cell? ⟨w.heap.size, 3, none⟩ = some (.string b) := M.rec_cell HC2.out 3 _ rfl
 have g0 := M.rec_free HC2.out 0
 have g1 := M.rec_free HC2.out 1
 have g2 := M.rec_free HC2.out 2
 have g3 := M.rec_free HC2.out 3
 go_loopg [8] (i) (fun kq v8 wr => ∃ (k : Nat), v8 = .int .i64 (k : Int) ∧ k ≤ i ∧ Aside0 (kq = i - k) ∧ Aside0 (wr = w1))
 case atStart => exact ⟨0, rfl, Nat.zero_le _, ⟨rfl⟩, ⟨rfl⟩⟩
 case round =>
  obtain ⟨k, rfl, hk, hkq, HW⟩ := hrel
  obtain rfl := HW.out
  clear HW
  have hk2 : k < ts.length := by omega
  obtain ⟨x, hx⟩ : ∃ x, ts.getD k ByteArray.empty = x := ⟨_, rfl⟩
  obtain ⟨y, hy⟩ : ∃ y, M.shaSum x = y := ⟨_, rfl⟩
  obtain ⟨a0, e0, hx1⟩ := Kd.at_string (Kd.C_below HR0.out HB1.out) (k : Int) (by omega) (by omega)
  obtain ⟨a1, e1, hy1⟩ := Kd.at_string (M.reads_n (Kd.C_below HR1.out HB1.out) (List.length_map _)) (k : Int) (by omega) (by omega)
  rw [show rdOf ByteArray.empty ts (k : Int) = x from by rw [← hx]; rfl, Int.toNat_natCast] at hx1
  rw [show rdOf ByteArray.empty (ts.map M.shaSum) (k : Int) = y from by rw [← hy, ← hx]; simp [rdOf, List.getD, hk2], Int.toNat_natCast] at hy1
  subst e0 e1
  have p1 : (k : Int) < (ts.length : Int) := by omega
  have p2 : (0 : Int) ≤ (k : Int) := by omega
  have p3 := decide_eq_true p1
  have p4 : decide (k < ts.length) = true := decide_eq_true hk2
  have HX := Aside0.mk hx
  have HY := Aside0.mk hy
  by_cases hlt : k < i
  ·have hn := hbef.out k hlt
   rw [hx, hy, hm] at hn
   have hne1 : (x.toList == t.toList) = false := by simpa using M.unlike hn.1
   have hne2 : (y.toList == m.toList) = false := by simpa using M.unlike hn.2
   clear hx hy hn
   go_wp2
   go_roundg (i - (k + 1))
   case measure => have := hkq.out; omega
   case rel => exact ⟨k + 1, by go_num, by omega, ⟨rfl⟩, ⟨rfl⟩⟩
  ·obtain rfl : k = i := by omega
   have hne1 : (x.toList == t.toList) = false := by simpa using M.unlike (fun z => he (hx.trans z))
   obtain rfl : y = m := hy.symm.trans ((congrArg M.shaSum hx.symm).trans hatm)
   have hne2 : (y.toList == y.toList) = true := by simp
   have HCX := Aside0.mk (M.rec_set (M.rec_set HC2.out 2 (.string x)) 3 (.string t))
   have HC4X := Aside0.mk (M.rec_far (M.rec_far HC4.out ⟨w.heap.size, 2, none⟩ (by simp) (.string x)) ⟨w.heap.size, 3, none⟩ (by simp) (.string t))
   have HBX := Aside0.mk ((HB1.out.setCell (p := ⟨w.heap.size, 2, none⟩) (Nat.le_refl _) (.string x)).setCell (p := ⟨w.heap.size, 3, none⟩) (Nat.le_refl _) (.string t))
   clear hx hy hatm
   go_wp2_with (first | ((with_reducible refine gate_dst (N := 52) rfl ?_); ((refine gate_guard (by rfl) ?_; dsimp only)); refine M.wp_rec_load rfl 31 _ rfl (w.heap.size) 31 [.slice (some a0) ts.length c0, .slice (some a1) ts.length c1, .string x, .string t] rfl HCX.out _ Tryd.underlying31 rfl pleachref16_Put.size_ ?_) | ((with_reducible refine gate_store (t := 31) (p := 4) (v := .tmp 52) rfl ?_); refine M.wp_rec_store rfl 31 _ _ rfl (w.heap.size + 1) 31 [.slice none 0 0, .slice none 0 0, .string ⟨#[]⟩, .string ⟨#[]⟩] [.slice (some a0) ts.length c0, .slice (some a1) ts.length c1, .string x, .string t] rfl rfl HC4X.out rfl pleachref16_Put.size_ rfl ?_; intro w4 hA4 hF4 hB4 hz4; have HB4 := Aside0.mk (hB4 _ _ (Nat.le_succ _) HBX.out); have HF4 := Aside0.mk hF4; have HA4 := Aside0.mk hA4; clear hA4 hF4 hB4 hz4))
   exact bodyPost_ret (results_ctt rfl _ _ (w.heap.size + 1) 31 #[.slice (some a0) ts.length c0, .slice (some a1) ts.length c1, .string x, .string t] (0, 0) _ rfl HA4.out Tryd.underlying31 rfl pleachref16_Put.size_) rfl ⟨by rw [HX.out]; rfl, HB4.out⟩
theorem pleachref16_Put.info9 : (Tryd.prog.info? 9).map (fun i => (i.zero, i.size, i.bytes)) = some (some (.string ⟨#[]⟩), 1, 16) := by kernel_rfl
set_option maxHeartbeats 8000000 in
set_option maxRecDepth 100000 in
theorem pleachref16_Put.new (A0 A1 : Option Addr) (c0 c1 : Nat) (a b t : ByteArray) (ts : List ByteArray) (w : World) (hts : ts.length ≤ 1000000000) (h0 : t ≠ ByteArray.empty) (hl : t.size ≤ 65536) (r0 : Kd.C Kd.string w A0 ts.length ts) (r1 : Kd.C Kd.string w A1 (ts.map M.shaSum).length (ts.map M.shaSum)) (hi : M.idx (ts.map M.shaSum) (M.shaSum t).data.toList = none) :
    Calls Tryd.prog 31 #[.agg #[.slice A0 ts.length c0, .slice A1 ts.length c1, .string a, .string b], .string t] w fun e w' => ∃ v0 v1, e = .returned (.tuple #[.agg #[v0, v1, .string a, .string b], .string (M.shaSum t), .int .i64 0]) ∧ Kd.R Kd.string 9 w' w.heap.size (fun _ => True) v0 (ts ++ [t]) ∧ Kd.R Kd.string 9 w' w.heap.size (fun _ => True) v1 ((ts ++ [t]).map M.shaSum) ∧ Below w.heap.size w w' := by
 have hsz : ts.length ≤ 1000000000 := hts
 have HC2 := Aside0.mk (pleachref16_Put.c2 A0 A1 ts.length c0 c1 a b w)
 have HC4 := Aside0.mk (pleachref16_Put.c4 A0 A1 ts.length c0 c1 a b w)
 have HB0 := Aside0.mk (pleachref16_Put.b0 A0 A1 ts.length c0 c1 a b w)
 unfold pleachref16_Put.W0 at HC2 HC4 HB0
 have hd : t.toList.isEmpty = false := M.nonempty h0
 have hdd : decide ((65536 : Int) < (t.size : Int)) = false := decide_eq_false (by omega)
 obtain ⟨m, hm⟩ : ∃ m, M.shaSum t = m := ⟨_, rfl⟩
 have HSum := Aside0.mk (show pleachref03_Sum.f t = some m by rw [← hm]; exact pleachref03_Sum.eq_ t (by omega))
 have HR0 := Aside0.mk r0
 have HR1 := Aside0.mk r1
 have HNEV := Aside0.mk (fun k (hk : k < ts.length) => M.idx_never hi hk)
 have HM := Aside0.mk hm
 rw [List.map_append, List.map_cons, List.map_nil, hm]
 clear r0 r1 hi hm
 go_enter Tryd.func31, Tryd.ntmps31
 go_wp2_with ((go_at_call 28; (with_reducible refine (pleachref03_Sum.calls t m _ HSum.out).mono ?_); rintro e w1 ⟨rfl, hb1⟩; have n1 := Aside0.mk (M.rec_below HC2.out hb1); have n2 := Aside0.mk (M.rec_below HC4.out hb1); have n3 := Aside0.mk (below_step HB0.out hb1); clear HC2 HC4 HB0; have HC2 := n1; have HC4 := n2; have HB1 := n3; clear n1 n2 n3 hb1))
 have q0 : w1.cell? ⟨w.heap.size, 0, none⟩ = some (.slice A0 ts.length c0) := M.rec_cell HC2.out 0 _ rfl
 have q1 : w1.cell? ⟨w.heap.size, 1, none⟩ = some (.slice A1 ts.length c1) := M.rec_cell HC2.out 1 _ rfl
 have q2 : w1.cell? ⟨w.heap.size, 2, none⟩ = some (.string a) := M.rec_cell HC2.out 2 _ rfl
 have q3 : w1.cell? ⟨w.heap.size, 3, none⟩ = some (.string b) := M.rec_cell HC2.out 3 _ rfl
 have g0 := M.rec_free HC2.out 0
 have g1 := M.rec_free HC2.out 1
 have g2 := M.rec_free HC2.out 2
 have g3 := M.rec_free HC2.out 3
 go_loopg [8] (ts.length) (fun kq v8 wr => ∃ (k : Nat), v8 = .int .i64 (k : Int) ∧ k ≤ ts.length ∧ Aside0 (kq = ts.length - k) ∧ Aside0 (wr = w1))
 case atStart => exact ⟨0, rfl, Nat.zero_le _, ⟨rfl⟩, ⟨rfl⟩⟩
 case round =>
  obtain ⟨k, rfl, hk, hkq, HW⟩ := hrel
  obtain rfl := HW.out
  clear HW
  by_cases hk2 : k < ts.length
  ·obtain ⟨x, hx⟩ : ∃ x, ts.getD k ByteArray.empty = x := ⟨_, rfl⟩
   obtain ⟨y, hy⟩ : ∃ y, M.shaSum x = y := ⟨_, rfl⟩
   obtain ⟨a0, e0, hx1⟩ := Kd.at_string (Kd.C_below HR0.out HB1.out) (k : Int) (by omega) (by omega)
   obtain ⟨a1, e1, hy1⟩ := Kd.at_string (M.reads_n (Kd.C_below HR1.out HB1.out) (List.length_map _)) (k : Int) (by omega) (by omega)
   rw [show rdOf ByteArray.empty ts (k : Int) = x from by rw [← hx]; rfl, Int.toNat_natCast] at hx1
   rw [show rdOf ByteArray.empty (ts.map M.shaSum) (k : Int) = y from by rw [← hy, ← hx]; simp [rdOf, List.getD, hk2], Int.toNat_natCast] at hy1
   subst e0 e1
   have p1 : (k : Int) < (ts.length : Int) := by omega
   have p2 : (0 : Int) ≤ (k : Int) := by omega
   have p3 := decide_eq_true p1
   have p4 : decide (k < ts.length) = true := decide_eq_true hk2
   have HX := Aside0.mk hx
   have HY := Aside0.mk hy
   have hn := HNEV.out k hk2
   rw [hx, hy, HM.out] at hn
   have hne1 : (x.toList == t.toList) = false := by simpa using M.unlike hn.1
   have hne2 : (y.toList == m.toList) = false := by simpa using M.unlike hn.2
   clear hx hy hn HX HY
   go_wp2
   go_roundg (ts.length - (k + 1))
   case measure => have := hkq.out; omega
   case rel => exact ⟨k + 1, by go_num, by omega, ⟨rfl⟩, ⟨rfl⟩⟩
  ·obtain rfl : k = ts.length := by omega
   have p3 : decide ((ts.length : Int) < (ts.length : Int)) = false := decide_eq_false (by omega)
   clear hk2 hk
   go_wp2_with (first | ((with_reducible refine gate_dst (N := 53) rfl ?_); refine Kd.R_lit (w0 := w) Kd.string w.heap.size 9 ?hg (N := 53) ?hd (xs := ([] : List ByteArray)) (inner := []) (ok := fun _ => True) (okp := fun _ => False) ?hr ?hp (fun _ hk => hk.elim) ?hf HB1.out (below_size (below_step HB1.out (Below.refl _ _))) (by simp) ?_; (case hd => rfl); (case hg => rfl); (case hr => (go_simp; done)); (case hp => exact (Reps.none _ _)); (case hf => trivial); intro v53 wA ho hb hg hat; have HA := Aside0.mk ho; have HBA := Aside0.mk hb; have HC2A := Aside0.mk (M.rec_grown HC2.out hg (by simp)); have HC4A := Aside0.mk (M.rec_grown HC4.out hg (by simp)); have qa0 : wA.cell? ⟨w.heap.size, 0, none⟩ = some (.slice A0 ts.length c0) := M.rec_cell HC2A.out 0 _ rfl; clear ho hb hg hat) | ((with_reducible refine gate_builtin (b := .append) (xs := #[.tmp 53, .tmp 55]) rfl ?_); at_builtin; refine Kd.R_append_rows Kd.string (w0 := w) w.heap.size rfl (.tmp 53) (.tmp 55) 22 9 (.string ⟨#[]⟩) 16 rfl Tryd.underlying22 pleachref16_Put.info9 rfl (by decide) (by omega) v53 ([] : List ByteArray) ts _ _ _ (fun _ => True) (fun _ => False) rfl rfl ?aO ?aR (fun _ _ h => h) (fun _ h => h.elim) ?aF ?aB ?aS ?aL ?_; (case aO => exact HA.out); (case aR => exact Kd.C_below HR0.out HBA.out); (case aF => exact fun _ _ => trivial); (case aB => exact HBA.out); (case aS => exact HBA.out.size); (case aL => simp; omega); intro v56 wB ho hb hg hat; have HBv := Aside0.mk ho; have HBB := Aside0.mk hb; have HC2B := Aside0.mk (M.rec_grown HC2A.out hg (Kd.R_ne HA.out HC2A.out (by decide))); have HC4B := Aside0.mk (M.rec_grown HC4A.out hg (Kd.R_ne HA.out HC4A.out (by decide))); clear ho hb hg hat) | ((with_reducible refine gate_builtin (b := .append) (xs := #[.tmp 56, .tmp 58]) rfl ?_); at_builtin; refine Kd.R_append Kd.string (w0 := w) w.heap.size rfl (.tmp 56) (.tmp 58) 22 9 (.string ⟨#[]⟩) 16 rfl Tryd.underlying22 pleachref16_Put.info9 rfl (by decide) (by omega) v56 ([] ++ ts) t [.string t] (fun _ => True) (fun _ => False) rfl rfl ?aP (fun _ hk => hk.elim) ?aF ?aO ?aB ?aS ?aL ?_; (case aP => exact rfl); (case aO => exact HBv.out); (case aF => exact fun _ _ => trivial); (case aB => exact HBB.out); (case aS => exact HBB.out.size); (case aL => simp; omega); intro v59 wC ho hb hg hat; obtain ⟨AC, cC, hv⟩ := Kd.R_slice ho; simp only [List.nil_append, List.length_append, List.length_cons, List.length_nil, Nat.zero_add] at hv; subst hv; have HCv := Aside0.mk (Kd.R_flat (ok' := fun k => (Value.slice AC (ts.length + 1) cC).ownBlock = some k) (fun h => h) ho (fun _ e _ => e)); have HBC := Aside0.mk hb; have HC2C := Aside0.mk (M.rec_grown HC2B.out hg (Kd.R_ne HBv.out HC2B.out (by decide))); have HC4C := Aside0.mk (M.rec_grown HC4B.out hg (Kd.R_ne HBv.out HC4B.out (by decide))); have qc0 : wC.cell? ⟨w.heap.size, 0, none⟩ = some (.slice A0 ts.length c0) := M.rec_cell HC2C.out 0 _ rfl; have gc0 := M.rec_free HC2C.out 0; have HBD := Aside0.mk (hb.setCell (p := ⟨w.heap.size, 0, none⟩) (Nat.le_refl _) (.slice AC (ts.length + 1) cC)); have HC2D := Aside0.mk (M.rec_set HC2C.out 0 (.slice AC (ts.length + 1) cC)); have HC4D := Aside0.mk (M.rec_far HC4C.out ⟨w.heap.size, 0, none⟩ (by simp) (.slice AC (ts.length + 1) cC)); have HDv := Aside0.mk (Kd.R_far (p := ⟨w.heap.size, 0, none⟩) HCv.out (fun k e e2 => Kd.R_ne ho HC2C.out (by decide) (by rw [e, e2])) (.slice AC (ts.length + 1) cC)); clear ho hb hg hat) | ((with_reducible refine gate_dst (N := 61) rfl ?_); refine Kd.R_lit (w0 := w) Kd.string w.heap.size 9 ?hg (N := 61) ?hd (xs := ([] : List ByteArray)) (inner := []) (ok := fun k => (Value.slice AC (ts.length + 1) cC).ownBlock ≠ some k) (okp := fun _ => False) ?hr ?hp (fun _ hk => hk.elim) ?hf HBD.out HBD.out.size (by simp) ?_; (case hd => rfl); (case hg => rfl); (case hr => (go_simp; done)); (case hp => exact (Reps.none _ _)); (case hf => exact fun e => Nat.lt_irrefl _ (Kd.R_lt HDv.out _ e)); intro v61 wE ho hb hg hat; have HE := Aside0.mk ho; have HBE := Aside0.mk hb; have HC2E := Aside0.mk (M.rec_grown HC2D.out hg (by simp)); have HC4E := Aside0.mk (M.rec_grown HC4D.out hg (by simp)); have HEv := Aside0.mk (Kd.R_grown HDv.out hg (fun _ _ => by simp)); have qe1 : wE.cell? ⟨w.heap.size, 1, none⟩ = some (.slice A1 ts.length c1) := M.rec_cell HC2E.out 1 _ rfl; clear ho hb hg hat) | ((with_reducible refine gate_builtin (b := .append) (xs := #[.tmp 61, .tmp 63]) rfl ?_); at_builtin; refine Kd.R_append_rows Kd.string (w0 := w) w.heap.size rfl (.tmp 61) (.tmp 63) 22 9 (.string ⟨#[]⟩) 16 rfl Tryd.underlying22 pleachref16_Put.info9 rfl (by decide) (by omega) v61 ([] : List ByteArray) (ts.map M.shaSum) _ _ _ (fun k => (Value.slice AC (ts.length + 1) cC).ownBlock ≠ some k) (fun _ => False) rfl rfl ?aO ?aR (fun _ _ h => h) (fun _ h => h.elim) ?aF ?aB ?aS ?aL ?_; (case aO => exact HE.out); (case aR => exact M.reads_n (Kd.C_below HR1.out HBE.out) (List.length_map _)); (case aF => exact fun k hk e => by have := Kd.R_lt HEv.out k e; omega); (case aB => exact HBE.out); (case aS => exact HBE.out.size); (case aL => simp; omega); intro v64 wF ho hb hg hat; have HF := Aside0.mk ho; have HBF := Aside0.mk hb; have HFv := Aside0.mk (Kd.R_grown HEv.out hg (fun k e e2 => (HE.out.1 k e2.symm) e)); have HC2F := Aside0.mk (M.rec_grown HC2E.out hg (Kd.R_ne HE.out HC2E.out (by decide))); have HC4F := Aside0.mk (M.rec_grown HC4E.out hg (Kd.R_ne HE.out HC4E.out (by decide))); clear ho hb hg hat) | ((with_reducible refine gate_builtin (b := .append) (xs := #[.tmp 64, .tmp 66]) rfl ?_); at_builtin; refine Kd.R_append Kd.string (w0 := w) w.heap.size rfl (.tmp 64) (.tmp 66) 22 9 (.string ⟨#[]⟩) 16 rfl Tryd.underlying22 pleachref16_Put.info9 rfl (by decide) (by omega) v64 ([] ++ ts.map M.shaSum) m [.string m] (fun k => (Value.slice AC (ts.length + 1) cC).ownBlock ≠ some k) (fun _ => False) rfl rfl ?aP (fun _ hk => hk.elim) ?aF ?aO ?aB ?aS ?aL ?_; (case aP => exact rfl); (case aO => exact HF.out); (case aF => exact fun k hk e => by have := Kd.R_lt HFv.out k e; omega); (case aB => exact HBF.out); (case aS => exact HBF.out.size); (case aL => simp; omega); intro v67 wG ho hb hg hat; obtain ⟨AG, cG, hv⟩ := Kd.R_slice ho; simp only [List.nil_append, List.length_append, List.length_cons, List.length_nil, List.length_map, Nat.zero_add] at hv; subst hv; have HGw := Aside0.mk (Kd.R_flat (ok' := fun k => (Value.slice AG (ts.length + 1) cG).ownBlock = some k) (fun h => h) ho (fun _ e _ => e)); have HBG := Aside0.mk hb; have HGv := Aside0.mk (Kd.R_grown HFv.out hg (fun k e e2 => (HF.out.1 k e2.symm) e)); have HC2G := Aside0.mk (M.rec_grown HC2F.out hg (Kd.R_ne HF.out HC2F.out (by decide))); have HC4G := Aside0.mk (M.rec_grown HC4F.out hg (Kd.R_ne HF.out HC4F.out (by decide))); have qg1 : wG.cell? ⟨w.heap.size, 1, none⟩ = some (.slice A1 ts.length c1) := M.rec_cell HC2G.out 1 _ rfl; have gg1 := M.rec_free HC2G.out 1; have HBH := Aside0.mk (hb.setCell (p := ⟨w.heap.size, 1, none⟩) (Nat.le_refl _) (.slice AG (ts.length + 1) cG)); have HC2H := Aside0.mk (M.rec_set HC2G.out 1 (.slice AG (ts.length + 1) cG)); have HC4H := Aside0.mk (M.rec_far HC4G.out ⟨w.heap.size, 1, none⟩ (by simp) (.slice AG (ts.length + 1) cG)); have HHv := Aside0.mk (Kd.R_far (p := ⟨w.heap.size, 1, none⟩) HGv.out (fun k e e2 => Kd.R_ne HGv.out HC2G.out (by decide) (by rw [e, e2])) (.slice AG (ts.length + 1) cG)); have HHw := Aside0.mk (Kd.R_far (p := ⟨w.heap.size, 1, none⟩) HGw.out (fun k e e2 => Kd.R_ne HGw.out HC2G.out (by decide) (by rw [e, e2])) (.slice AG (ts.length + 1) cG)); clear ho hb hg hat) | ((with_reducible refine gate_dst (N := 69) rfl ?_); ((refine gate_guard (by rfl) ?_; dsimp only)); refine M.wp_rec_load rfl 31 _ rfl w.heap.size 31 [.slice AC (ts.length + 1) cC, .slice AG (ts.length + 1) cG, .string a, .string b] rfl HC2H.out _ Tryd.underlying31 rfl pleachref16_Put.size_ ?_) | ((with_reducible refine gate_store (t := 31) (p := 4) (v := .tmp 69) rfl ?_); refine M.wp_rec_store rfl 31 _ _ rfl (w.heap.size + 1) 31 [.slice none 0 0, .slice none 0 0, .string ⟨#[]⟩, .string ⟨#[]⟩] [.slice AC (ts.length + 1) cC, .slice AG (ts.length + 1) cG, .string a, .string b] rfl rfl HC4H.out rfl pleachref16_Put.size_ rfl ?_; intro w4 hA4 hF4 hB4 hz4; have HB4 := Aside0.mk (hB4 _ _ (Nat.le_succ _) HBH.out); have HF4 := Aside0.mk hF4; have HA4 := Aside0.mk hA4; clear hA4 hF4 hB4 hz4))
   have HV := Aside0.mk (Kd.R_step HHv.out (fun k e _ => HF4.out k (fun e2 => Kd.R_ne HHv.out HC4H.out (by decide) (by rw [e, e2]))))
   have HV2 := Aside0.mk (Kd.R_step HHw.out (fun k e _ => HF4.out k (fun e2 => Kd.R_ne HHw.out HC4H.out (by decide) (by rw [e, e2]))))
   exact bodyPost_ret (results_ctt rfl _ _ (w.heap.size + 1) 31 #[.slice AC (ts.length + 1) cC, .slice AG (ts.length + 1) cG, .string a, .string b] (0, 0) _ rfl HA4.out Tryd.underlying31 rfl pleachref16_Put.size_) rfl ⟨_, _, rfl, Kd.R_mono HV.out (fun _ _ => trivial), Kd.R_mono HV2.out (fun _ _ => trivial), HB4.out⟩
theorem pleachref16_Put.any (A0 A1 : Option Addr) (c0 c1 : Nat) (s : M.SS) (t : ByteArray) (w : World) (hts : s.ts.length ≤ 1000000000) (r0 : Kd.C Kd.string w A0 s.ts.length s.ts) (r1 : Kd.C Kd.string w A1 (s.ts.map M.shaSum).length (s.ts.map M.shaSum)) :
    Calls Tryd.prog 31 #[.agg #[.slice A0 s.ts.length c0, .slice A1 s.ts.length c1, .string s.a, .string s.b], .string t] w fun e w' => ∃ v0 v1, e = .returned (.tuple #[.agg #[v0, v1, .string (s.put t).2.2.a, .string (s.put t).2.2.b], .string (s.put t).1, .int .i64 (s.put t).2.1]) ∧
      ((v0 = .slice A0 s.ts.length c0 ∧ v1 = .slice A1 s.ts.length c1 ∧ (s.put t).2.2.ts = s.ts) ∨ (Kd.R Kd.string 9 w' w.heap.size (fun _ => True) v0 (s.put t).2.2.ts ∧ Kd.R Kd.string 9 w' w.heap.size (fun _ => True) v1 ((s.put t).2.2.ts.map M.shaSum))) ∧ Below w.heap.size w w' := by
 unfold M.SS.put
 by_cases h0 : t = ByteArray.empty
 ·subst h0
  rw [if_pos rfl]
  refine (pleachref16_Put.empty A0 A1 s.ts.length c0 c1 s.a s.b ByteArray.empty w).mono ?_
  rintro e w' ⟨rfl, hb⟩
  exact ⟨_, _, rfl, .inl ⟨rfl, rfl, rfl⟩, hb⟩
 rw [if_neg h0]
 by_cases h1 : 65536 < t.size
 ·rw [if_pos h1]
  refine (pleachref16_Put.long A0 A1 s.ts.length c0 c1 s.a s.b t w h1).mono ?_
  rintro e w' ⟨rfl, hb⟩
  exact ⟨_, _, rfl, .inl ⟨rfl, rfl, rfl⟩, hb⟩
 rw [if_neg h1]
 cases hi : M.idx (s.ts.map M.shaSum) (M.shaSum t).data.toList with
 | none =>
  refine (pleachref16_Put.new A0 A1 c0 c1 s.a s.b t s.ts w hts h0 (by omega) r0 r1 hi).mono ?_
  rintro e w' ⟨v0, v1, rfl, h2, h3, hb⟩
  exact ⟨_, _, rfl, .inr ⟨h2, h3⟩, hb⟩
 | some i =>
  simp only
  by_cases he : s.ts.getD i ByteArray.empty = t
  ·rw [if_pos he]
   refine (pleachref16_Put.met A0 A1 c0 c1 s.a s.b t s.ts w hts h0 (by omega) r0 r1 i hi he).mono ?_
   rintro e w' ⟨rfl, hb⟩
   exact ⟨_, _, rfl, .inl ⟨rfl, rfl, rfl⟩, hb⟩
  ·rw [if_neg he]
   by_cases ha : s.a = ByteArray.empty
   ·rw [if_pos ha]
    refine (pleachref16_Put.clash0 A0 A1 c0 c1 s.a s.b t s.ts w hts h0 (by omega) r0 r1 i hi he ha).mono ?_
    rintro e w' ⟨rfl, hb⟩
    exact ⟨_, _, rfl, .inl ⟨rfl, rfl, rfl⟩, hb⟩
   ·rw [if_neg ha]
    refine (pleachref16_Put.clashN A0 A1 c0 c1 s.a s.b t s.ts w hts h0 (by omega) r0 r1 i hi he ha).mono ?_
    rintro e w' ⟨rfl, hb⟩
    exact ⟨_, _, rfl, .inl ⟨rfl, rfl, rfl⟩, hb⟩
theorem pleachlaw20_of.tct {P : Program} {fn : Func} {p u v : Tmp} {ty : TypeId} (h : fn.results = #[.tmp u, .cell p ty, .tmp v]) (tmps : Array Value) (w : World) (g : Nat) (t : TypeId) (cs : Array Value) (fr : Nat × Nat) (d : TypeDesc)
    (hp : tmps.getD p undef = .pointer (some ⟨g, 0, none⟩)) (hg : w.heap[g]? = some (.cells cs t fr))
    (hu : P.underlying ty = some d) (hd : (match d with | .struct _ | .array _ _ => true | _ => false) = true) (hi : (P.info? ty).map (·.size) = some cs.size) :
    (results fn tmps).run P w = .ok (.tuple #[tmps.getD u undef, .agg cs, tmps.getD v undef]) w := by
 have hp' : tmps[p]?.getD undef = .pointer (some ⟨g, 0, none⟩) := by simpa using hp
 simp [results, h, hp', asAddr, run_loadVar_row w g t ty cs fr d hg hu hd hi]
def pleachlaw20_of.go : List ByteArray → M.SS → M.SS × Bool
  | [], s => (s, true)
  | t :: l, s => if (s.put t).2.1 = 15 then ((s.put t).2.2, false) else pleachlaw20_of.go l (s.put t).2.2
theorem pleachlaw20_of.sp {W : World} {base g : Nat} {F : Nat → Prop} {s s1 : M.SS} {A0 A1 : Option Addr} {c0 c1 : Nat} {t nm : ByteArray} {er : Int} (h : M.Two Tryd.prog base W g F s s A0 A1 c0 c1) (hT : M.stab W) (hts : s.ts.length ≤ 1000000) (hz : t.size ≤ 1000000) (hp : s.put t = (nm, er, s1)) :
    Calls Tryd.prog 30 #[.pointer (some ⟨g, 0, none⟩), .string t] W fun e w' => e = .returned (.tuple #[.string nm, .int .i64 er]) ∧ ∃ F1, M.Two Tryd.prog base w' g F1 s1 s A0 A1 c0 c1 ∧ (∀ k, F1 k → F k ∨ W.heap.size ≤ k) ∧ Kept W w' F ∧ Below base W w' := by
 have := shelf_Shelf_Put.any base g F s t W h.sh hT (by omega) (by omega)
 rw [hp] at this
 refine this.mono ?_
 rintro e w' ⟨rfl, hs⟩
 exact ⟨rfl, h.shelf hs⟩
theorem pleachlaw20_of.rp {W : World} {base g : Nat} {F : Nat → Prop} {s s1 : M.SS} {A0 A1 : Option Addr} {c0 c1 : Nat} {t nm : ByteArray} {er : Int} (h : M.Two Tryd.prog base W g F s1 s A0 A1 c0 c1) (hts : s.ts.length ≤ 1000000) (hp : s.put t = (nm, er, s1)) :
    Calls Tryd.prog 31 #[.agg #[.slice A0 s.ts.length c0, .slice A1 s.ts.length c1, .string s.a, .string s.b], .string t] W fun e w' => ∃ B0 B1 d0 d1, e = .returned (.tuple #[.agg #[.slice B0 s1.ts.length d0, .slice B1 s1.ts.length d1, .string s1.a, .string s1.b], .string nm, .int .i64 er]) ∧ M.Two Tryd.prog base w' g F s1 s1 B0 B1 d0 d1 ∧ Below W.heap.size W w' := by
 have := pleachref16_Put.any A0 A1 c0 c1 s t W (by omega) h.r0 h.r1
 rw [hp] at this
 refine this.mono ?_
 rintro e w' ⟨v0, v1, rfl, hv, hb⟩
 obtain ⟨B0, B1, d0, d1, rfl, rfl, h⟩ := h.rows (q1 := s1) hb hv
 exact ⟨B0, B1, d0, d1, rfl, h, hb⟩
theorem pleachlaw20_of.fin {base g b : Nat} {w w3 : World} {F : Nat → Prop} {s : M.SS} {A0 A1 : Option Addr} {c0 c1 : Nat} (h7 : M.rec_ w3 b 31 [.slice none 0 0, .slice none 0 0, .string ⟨#[]⟩, .string ⟨#[]⟩]) (h2 : M.Two Tryd.prog base w3 g F s s A0 A1 c0 c1) (hF : ¬ F b) (hb : Below base w w3) (hbb : base ≤ b) (v0 v1 v2 v3 : Value) :
    M.rec_ ((((w3.setCell ⟨b, 0, none⟩ v0).setCell ⟨b, 1, none⟩ v1).setCell ⟨b, 2, none⟩ v2).setCell ⟨b, 3, none⟩ v3) b 31 [v0, v1, v2, v3] ∧
    M.Two Tryd.prog base ((((w3.setCell ⟨b, 0, none⟩ v0).setCell ⟨b, 1, none⟩ v1).setCell ⟨b, 2, none⟩ v2).setCell ⟨b, 3, none⟩ v3) g F s s A0 A1 c0 c1 ∧
    Below base w ((((w3.setCell ⟨b, 0, none⟩ v0).setCell ⟨b, 1, none⟩ v1).setCell ⟨b, 2, none⟩ v2).setCell ⟨b, 3, none⟩ v3) := by
 refine ⟨M.rec_set (M.rec_set (M.rec_set (M.rec_set h7 0 v0) 1 v1) 2 v2) 3 v3, h2.box ?_ h7 (by decide) hF, ?_⟩
 ·exact Kept.setCell (p := ⟨b, 3, none⟩) (Kept.setCell (p := ⟨b, 2, none⟩) (Kept.setCell (p := ⟨b, 1, none⟩) (Kept.setCell (p := ⟨b, 0, none⟩) (Kept.refl w3 (fun k => k = b)) (.inl rfl) v0) (.inl rfl) v1) (.inl rfl) v2) (.inl rfl) v3
 ·exact (((hb.setCell (p := ⟨b, 0, none⟩) hbb v0).setCell (p := ⟨b, 1, none⟩) hbb v1).setCell (p := ⟨b, 2, none⟩) hbb v2).setCell (p := ⟨b, 3, none⟩) hbb v3
set_option maxHeartbeats 8000000 in
set_option maxRecDepth 100000 in
theorem pleachlaw20_of.any (AL : Option Addr) (cl : Nat) (l : List ByteArray) (w : World) (hr : Kd.C Kd.string w AL l.length l) (hcl : l.length ≤ cl) (hl : l.length ≤ 1000) (hz : ∀ t ∈ l, t.size ≤ 1000000) (hT : M.stab w) (sr : M.SS) (okr : Bool) (hgo : pleachlaw20_of.go l M.SS.none_ = (sr, okr)) :
    Calls Tryd.prog 8 #[.slice AL l.length cl] w fun e w' => ∃ (g : Nat) (F : Nat → Prop) (A0 A1 : Option Addr) (c0 c1 : Nat), e = .returned (.tuple #[.pointer (some ⟨g, 0, none⟩), .agg #[.slice A0 sr.ts.length c0, .slice A1 sr.ts.length c1, .string sr.a, .string sr.b], .bool okr]) ∧
      M.Two Tryd.prog w.heap.size w' g F sr sr A0 A1 c0 c1 ∧ Below w.heap.size w w' := by
 obtain ⟨W0, hW0⟩ : ∃ W0, w.alloc (.cells #[.slice none 0 0, .slice none 0 0, .string ⟨#[]⟩, .string ⟨#[]⟩] 31) = W0 := ⟨_, rfl⟩
 have HW0 := Aside0.mk hW0
 have HBA := Aside0.mk (show Below w.heap.size w W0 from by rw [← hW0]; exact below_alloc (Below.refl w.heap.size w) (.cells #[.slice none 0 0, .slice none 0 0, .string ⟨#[]⟩, .string ⟨#[]⟩] 31))
 have hlt := Aside0.mk (M.stab_lt hT)
 have HT00 := Aside0.mk hT
 have HD0 := Aside0.mk (show M.rec_ W0 w.heap.size 31 [.slice none 0 0, .slice none 0 0, .string ⟨#[]⟩, .string ⟨#[]⟩] from by rw [← hW0]; exact M.rec_new w 31 [.slice none 0 0, .slice none 0 0, .string ⟨#[]⟩, .string ⟨#[]⟩])
 have HR := Aside0.mk hr
 have HZ := Aside0.mk hz
 have HGR := Aside0.mk hgo
 have HAL : w.heap.size < W0.heap.size := by rw [← hW0]; simp
 clear hT hr hz hW0 hgo
 go_enter Tryd.func8, Tryd.ntmps8
 go_wp2_with (first | (go_at_call 20; (with_reducible refine (shelf_New.any _).mono ?_); rintro e w2 ⟨g, F, rfl, hs2, hb2⟩; rw [HW0.out] at hs2 hb2; have HGE := Aside0.mk hs2.ge; have HS2 := Aside0.mk (M.Sh.lower hs2 (Nat.le_of_lt HAL)); have HG2 := Aside0.mk (M.Sh.lt hs2); have HB2 := Aside0.mk (below_step HBA.out hb2); have HD2 := Aside0.mk (M.rec_below HD0.out hb2); clear hs2 hb2) | ((with_reducible refine gate_store (t := 31) (p := 6) (v := .tmp 13) rfl ?_); refine M.wp_rec_store rfl 31 _ _ rfl w2.heap.size 31 [.slice none 0 0, .slice none 0 0, .string ⟨#[]⟩, .string ⟨#[]⟩] [.slice none 0 0, .slice none 0 0, .string ⟨#[]⟩, .string ⟨#[]⟩] rfl rfl (M.rec_new w2 31 [.slice none 0 0, .slice none 0 0, .string ⟨#[]⟩, .string ⟨#[]⟩]) rfl pleachref16_Put.size_ rfl ?_; intro w3 hA3 hF3 hB3 hz3; have hy := hB3 w2.heap.size w2 (Nat.le_refl _) (below_alloc (Below.refl _ _) _); have HC3 := Aside0.mk hA3; have HS3 := Aside0.mk (HS2.out.below hy); have HD3 := Aside0.mk (M.rec_below HD2.out hy); have HB3 := Aside0.mk (below_step HB2.out hy); clear hA3 hF3 hB3 hz3 hy))
 have HW2 := Aside0.mk HB2.out.size
 have HSD0 := Aside0.mk (M.rec_lt HD2.out)
 have HSD := Aside0.mk (show w2.heap.size ≠ w.heap.size from Nat.ne_of_gt HSD0.out)
 go_loopg [16] (l.length) (fun kq v16 wr => ∃ (k : Nat) (F : Nat → Prop) (s : M.SS) (A0 A1 : Option Addr) (c0 c1 : Nat), v16 = .int .i64 (k : Int) ∧ k ≤ l.length ∧ Aside0 (kq = l.length - k) ∧ Aside0 (pleachlaw20_of.go (l.drop k) s = pleachlaw20_of.go l M.SS.none_) ∧ Aside0 (s.ts.length ≤ k) ∧ Aside0 (Below w.heap.size w wr) ∧ Aside0 (M.rec_ wr w2.heap.size 31 [.slice A0 s.ts.length c0, .slice A1 s.ts.length c1, .string s.a, .string s.b]) ∧ Aside0 (M.rec_ wr w.heap.size 31 [.slice none 0 0, .slice none 0 0, .string ⟨#[]⟩, .string ⟨#[]⟩]) ∧ Aside0 (M.Two Tryd.prog w.heap.size wr g F s s A0 A1 c0 c1) ∧ Aside0 (¬ F w2.heap.size) ∧ Aside0 (¬ F w.heap.size))
 case atStart => exact ⟨0, F, M.SS.none_, none, none, 0, 0, rfl, Nat.zero_le _, ⟨rfl⟩, ⟨rfl⟩, ⟨Nat.le_refl _⟩, HB3, HC3, HD3, ⟨M.Two.mk_ HS3.out⟩, ⟨fun q => by have := HG2.out _ q; omega⟩, ⟨fun q => by have := HGE.out _ q; omega⟩⟩
 case round =>
  clear HS2 HB2 HC3 HS3 HB3 HG2 HGE HD3 HD2
  obtain ⟨k, F, s, A0, A1, c0, c1, rfl, hk, hkq, HGO, HLEN, HB, HC, HD, H2, HNF, HNF3⟩ := hrel
  have hlen := HLEN.out
  by_cases hlt2 : k < l.length
  ·obtain ⟨t, ht⟩ : ∃ t, l[k] = t := ⟨_, rfl⟩
   have htz : t.size ≤ 1000000 := ht ▸ HZ.out _ (List.getElem_mem hlt2)
   obtain ⟨⟨nm, er, s1⟩, hp⟩ : ∃ y, s.put t = y := ⟨_, rfl⟩
   have HP := Aside0.mk hp
   have HL1 := Aside0.mk (show s1.ts.length ≤ k + 1 from by have h1 := M.SS.put_len s t; rw [hp] at h1; exact Nat.le_trans h1 (by omega))
   have HGO1 := Aside0.mk (show (if er = 15 then (s1, false) else pleachlaw20_of.go (l.drop (k + 1)) s1) = pleachlaw20_of.go l M.SS.none_ from by
    have h1 := HGO.out
    rw [List.drop_eq_getElem_cons hlt2, ht, pleachlaw20_of.go, hp] at h1
    exact h1)
   have hrd : rdOf ByteArray.empty l (k : Int) = t := by simp [rdOf, List.getD, hlt2, ht]
   obtain ⟨ad, hAL, e0⟩ := Kd.at_string HR.out (k : Int) (by omega) (by omega)
   rw [hrd, Int.toNat_natCast] at e0
   subst hAL
   have q0 := (HB.out.cell (World.block_lt_of_cell? w _ e0)).trans e0
   have p1 : (k : Int) < (l.length : Int) := by omega
   have p2 : (0 : Int) ≤ (k : Int) := by omega
   have p3 := decide_eq_true p1
   have HT4 := Aside0.mk (M.stab_below HT00.out HB.out hlt.out)
   have HZ0 := Aside0.mk (M.rec_lt HC.out)
   have HZ1 := Aside0.mk (M.rec_lt HD.out)
   clear e0 hrd ht hp
   go_upto_region 8 with (first | (go_at_call 30; (with_reducible refine (pleachlaw20_of.sp H2.out HT4.out ?h1 htz HP.out).mono ?_); (case h1 => have := HLEN.out; omega); rintro e w4 ⟨rfl, F1, h24, hf4, hk4, hb4⟩; have H24 := Aside0.mk h24; have HC4 := Aside0.mk (M.rec_kept HC.out hk4 HNF.out); have HD4 := Aside0.mk (M.rec_kept HD.out hk4 HNF3.out); have HN4 := Aside0.mk (show ¬ F1 w2.heap.size from fun q => (hf4 _ q).elim HNF.out (fun q => by have := HZ0.out; omega)); have HN43 := Aside0.mk (show ¬ F1 w.heap.size from fun q => (hf4 _ q).elim HNF3.out (fun q => by have := HZ1.out; omega)); have HB4 := Aside0.mk (HB.out.trans hb4); clear h24 hf4 hk4 hb4) | ((with_reducible refine gate_dst (N := 24) rfl ?_); ((refine gate_guard (by rfl) ?_; dsimp only)); refine M.wp_rec_load rfl 31 _ rfl (w2.heap.size) 31 [.slice A0 s.ts.length c0, .slice A1 s.ts.length c1, .string s.a, .string s.b] rfl HC4.out _ Tryd.underlying31 rfl pleachref16_Put.size_ ?_) | (go_at_call 31; (with_reducible refine (pleachlaw20_of.rp H24.out ?h1 HP.out).mono ?_); (case h1 => have := HLEN.out; omega); rintro e w5 ⟨B0, B1, d0, d1, rfl, h25, hb5⟩; have H25 := Aside0.mk h25; have HC5 := Aside0.mk (M.rec_below HC4.out hb5); have HD5 := Aside0.mk (M.rec_below HD4.out hb5); have HB5 := Aside0.mk (below_step HB4.out hb5); clear h25 hb5) | ((with_reducible refine gate_store (t := 31) (p := 9) (v := .tmp 27) rfl ?_); refine M.wp_rec_store rfl 31 _ _ rfl w5.heap.size 31 [.slice none 0 0, .slice none 0 0, .string ⟨#[]⟩, .string ⟨#[]⟩] [.slice B0 s1.ts.length d0, .slice B1 s1.ts.length d1, .string s1.a, .string s1.b] rfl rfl (M.rec_new w5 31 [.slice none 0 0, .slice none 0 0, .string ⟨#[]⟩, .string ⟨#[]⟩]) rfl pleachref16_Put.size_ rfl ?_; intro w6 hA6 hF6 hB6 hz6; have hy := hB6 w5.heap.size w5 (Nat.le_refl _) (below_alloc (Below.refl _ _) _); have HX6 := Aside0.mk hA6; have HC6 := Aside0.mk (M.rec_below HC5.out hy); have HD6 := Aside0.mk (M.rec_below HD5.out hy); have H26 := Aside0.mk (H25.out.below hy); have HB6 := Aside0.mk (below_step HB5.out hy); clear hA6 hF6 hB6 hz6 hy) | ((with_reducible refine gate_dst (N := 30) rfl ?_); ((refine gate_guard (by rfl) ?_; dsimp only)); refine M.wp_rec_load rfl 31 _ rfl (w5.heap.size) 31 [.slice B0 s1.ts.length d0, .slice B1 s1.ts.length d1, .string s1.a, .string s1.b] rfl HX6.out _ Tryd.underlying31 rfl pleachref16_Put.size_ ?_) | ((with_reducible refine gate_store (t := 31) (p := 6) (v := .tmp 30) rfl ?_); refine M.wp_rec_store rfl 31 _ _ rfl w2.heap.size 31 [.slice A0 s.ts.length c0, .slice A1 s.ts.length c1, .string s.a, .string s.b] [.slice B0 s1.ts.length d0, .slice B1 s1.ts.length d1, .string s1.a, .string s1.b] rfl rfl HC6.out rfl pleachref16_Put.size_ rfl ?_; intro w7 hA7 hF7 hB7 hz7; have hk7 : Kept w6 w7 (fun k => k = w2.heap.size) := ⟨Nat.le_of_eq hz7.symm, fun i _ hn => hF7 i hn⟩; have HC7 := Aside0.mk hA7; have H27 := Aside0.mk (H26.out.box hk7 HC6.out (by decide) HN4.out); have HD7 := Aside0.mk (M.rec_kept HD6.out hk7 HSD.out.symm); have HB7 := Aside0.mk (hB7 _ _ HW2.out HB6.out); clear hA7 hF7 hB7 hz7 hk7))
   clear HC HD H2 HNF HNF3 HC4 HD4 H24 HC5 HD5 H25 HX6 HC6 HD6 H26 HB4 HB5 HB6 HB
   by_cases he : er = 15
   ·subst he
    have HRES := Aside0.mk (show pleachlaw20_of.go l M.SS.none_ = (s1, false) from by rw [← HGO1.out, if_pos rfl])
    obtain ⟨hE1, hE2⟩ : s1 = sr ∧ false = okr := by
     have h1 := HRES.out
     rw [HGR.out] at h1
     injection h1 with h1 h2
     exact ⟨h1.symm, h2.symm⟩
    subst hE1
    subst hE2
    go_upto_region 9 with (fail)
    have c90 : w7.cell? ⟨w2.heap.size, 0, none⟩ = some (.slice B0 s1.ts.length d0) := M.rec_cell HC7.out 0 _ rfl
    have c91 : w7.cell? ⟨w2.heap.size, 1, none⟩ = some (.slice B1 s1.ts.length d1) := M.rec_cell HC7.out 1 _ rfl
    have c92 : w7.cell? ⟨w2.heap.size, 2, none⟩ = some (.string s1.a) := M.rec_cell HC7.out 2 _ rfl
    have c93 : w7.cell? ⟨w2.heap.size, 3, none⟩ = some (.string s1.b) := M.rec_cell HC7.out 3 _ rfl
    have c70 : w7.cell? ⟨w.heap.size, 0, none⟩ = some (.slice none 0 0) := M.rec_cell HD7.out 0 _ rfl
    have c71 : w7.cell? ⟨w.heap.size, 1, none⟩ = some (.slice none 0 0) := M.rec_cell HD7.out 1 _ rfl
    have c72 : w7.cell? ⟨w.heap.size, 2, none⟩ = some (.string ⟨#[]⟩) := M.rec_cell HD7.out 2 _ rfl
    have c73 : w7.cell? ⟨w.heap.size, 3, none⟩ = some (.string ⟨#[]⟩) := M.rec_cell HD7.out 3 _ rfl
    have f70 := M.rec_free HD7.out 0
    have f71 := M.rec_free HD7.out 1
    have f72 := M.rec_free HD7.out 2
    have f73 := M.rec_free HD7.out 3
    have HFIN := Aside0.mk (pleachlaw20_of.fin HD7.out H27.out HN43.out HB7.out (Nat.le_refl _) (.slice B0 s1.ts.length d0) (.slice B1 s1.ts.length d1) (.string s1.a) (.string s1.b))
    have HSE := Aside0.mk (M.rec_far (M.rec_far (M.rec_far (M.rec_far (HC7.out) ⟨w.heap.size, 0, none⟩ (HSD.out) (.slice B0 s1.ts.length d0)) ⟨w.heap.size, 1, none⟩ (HSD.out) (.slice B1 s1.ts.length d1)) ⟨w.heap.size, 2, none⟩ (HSD.out) (.string s1.a)) ⟨w.heap.size, 3, none⟩ (HSD.out) (.string s1.b))
    go_region_held3 (fun w' => w'.cell? ⟨w2.heap.size, 0, none⟩ = some (.slice B0 s1.ts.length d0) ∧ w'.cell? ⟨w2.heap.size, 1, none⟩ = some (.slice B1 s1.ts.length d1) ∧ w'.cell? ⟨w2.heap.size, 2, none⟩ = some (.string s1.a) ∧ w'.cell? ⟨w2.heap.size, 3, none⟩ = some (.string s1.b)) (first | exact ⟨c90, c91, c92, c93⟩ | exact ⟨M.rec_cell HSE.out 0 _ rfl, M.rec_cell HSE.out 1 _ rfl, M.rec_cell HSE.out 2 _ rfl, M.rec_cell HSE.out 3 _ rfl⟩) (fail)
    all_goals
     go_wp2
     exact bodyPost_ret (pleachlaw20_of.tct rfl _ _ (w.heap.size) 31 #[.slice B0 s1.ts.length d0, .slice B1 s1.ts.length d1, .string s1.a, .string s1.b] (0, 0) _ rfl (by exact HFIN.out.1) Tryd.underlying31 rfl pleachref16_Put.size_) rfl ⟨g, F1, B0, B1, d0, d1, rfl, HFIN.out.2.1.below ⟨rfl, rfl, rfl, Nat.le_refl _, fun _ _ => rfl⟩, ⟨HFIN.out.2.2.os, HFIN.out.2.2.tape, HFIN.out.2.2.output, HFIN.out.2.2.size, HFIN.out.2.2.block⟩⟩
   ·have HRES := Aside0.mk (show pleachlaw20_of.go (l.drop (k + 1)) s1 = pleachlaw20_of.go l M.SS.none_ from by rw [← HGO1.out, if_neg he])
    have he1 : decide (er = 15) = false := decide_eq_false he
    have he2 : (er == 15) = false := by simp [he]
    go_wp2
    go_roundg (l.length - (k + 1))
    case measure => have := hkq.out; omega
    case rel => exact ⟨k + 1, F1, s1, B0, B1, d0, d1, by go_num, by omega, ⟨rfl⟩, HRES, HL1, HB7, HC7, HD7, H27, HN4, HN43⟩
  ·obtain rfl : k = l.length := by omega
   have p3 : decide ((l.length : Int) < (l.length : Int)) = false := decide_eq_false (by omega)
   have HRES := Aside0.mk (show pleachlaw20_of.go l M.SS.none_ = (s, true) from by rw [← HGO.out, List.drop_length]; rfl)
   obtain ⟨hE1, hE2⟩ : s = sr ∧ true = okr := by
    have h1 := HRES.out
    rw [HGR.out] at h1
    injection h1 with h1 h2
    exact ⟨h1.symm, h2.symm⟩
   subst hE1
   subst hE2
   clear hlt2 hk
   go_upto_region 11 with (fail)
   have c90 : wr.cell? ⟨w2.heap.size, 0, none⟩ = some (.slice A0 s.ts.length c0) := M.rec_cell HC.out 0 _ rfl
   have c91 : wr.cell? ⟨w2.heap.size, 1, none⟩ = some (.slice A1 s.ts.length c1) := M.rec_cell HC.out 1 _ rfl
   have c92 : wr.cell? ⟨w2.heap.size, 2, none⟩ = some (.string s.a) := M.rec_cell HC.out 2 _ rfl
   have c93 : wr.cell? ⟨w2.heap.size, 3, none⟩ = some (.string s.b) := M.rec_cell HC.out 3 _ rfl
   have c70 : wr.cell? ⟨w.heap.size, 0, none⟩ = some (.slice none 0 0) := M.rec_cell HD.out 0 _ rfl
   have c71 : wr.cell? ⟨w.heap.size, 1, none⟩ = some (.slice none 0 0) := M.rec_cell HD.out 1 _ rfl
   have c72 : wr.cell? ⟨w.heap.size, 2, none⟩ = some (.string ⟨#[]⟩) := M.rec_cell HD.out 2 _ rfl
   have c73 : wr.cell? ⟨w.heap.size, 3, none⟩ = some (.string ⟨#[]⟩) := M.rec_cell HD.out 3 _ rfl
   have f70 := M.rec_free HD.out 0
   have f71 := M.rec_free HD.out 1
   have f72 := M.rec_free HD.out 2
   have f73 := M.rec_free HD.out 3
   have HFIN := Aside0.mk (pleachlaw20_of.fin HD.out H2.out HNF3.out HB.out (Nat.le_refl _) (.slice A0 s.ts.length c0) (.slice A1 s.ts.length c1) (.string s.a) (.string s.b))
   have HSE := Aside0.mk (M.rec_far (M.rec_far (M.rec_far (M.rec_far (HC.out) ⟨w.heap.size, 0, none⟩ (HSD.out) (.slice A0 s.ts.length c0)) ⟨w.heap.size, 1, none⟩ (HSD.out) (.slice A1 s.ts.length c1)) ⟨w.heap.size, 2, none⟩ (HSD.out) (.string s.a)) ⟨w.heap.size, 3, none⟩ (HSD.out) (.string s.b))
   go_region_held3 (fun w' => w'.cell? ⟨w2.heap.size, 0, none⟩ = some (.slice A0 s.ts.length c0) ∧ w'.cell? ⟨w2.heap.size, 1, none⟩ = some (.slice A1 s.ts.length c1) ∧ w'.cell? ⟨w2.heap.size, 2, none⟩ = some (.string s.a) ∧ w'.cell? ⟨w2.heap.size, 3, none⟩ = some (.string s.b)) (first | exact ⟨c90, c91, c92, c93⟩ | exact ⟨M.rec_cell HSE.out 0 _ rfl, M.rec_cell HSE.out 1 _ rfl, M.rec_cell HSE.out 2 _ rfl, M.rec_cell HSE.out 3 _ rfl⟩) (fail)
   all_goals
    go_wp2
    exact bodyPost_ret (pleachlaw20_of.tct rfl _ _ (w.heap.size) 31 #[.slice A0 s.ts.length c0, .slice A1 s.ts.length c1, .string s.a, .string s.b] (0, 0) _ rfl (by exact HFIN.out.1) Tryd.underlying31 rfl pleachref16_Put.size_) rfl ⟨g, F, A0, A1, c0, c1, rfl, HFIN.out.2.1.below ⟨rfl, rfl, rfl, Nat.le_refl _, fun _ _ => rfl⟩, ⟨HFIN.out.2.2.os, HFIN.out.2.2.tape, HFIN.out.2.2.output, HFIN.out.2.2.size, HFIN.out.2.2.block⟩⟩
set_option maxHeartbeats 8000000 in
set_option maxRecDepth 100000 in
theorem shelf_Shelf_Get.none_ (base g B : Nat) (D : DataW Unit) (vt vn : Value) (ts : List ByteArray) (a b name : ByteArray) (w : World) (hS : M.shelf Tryd.prog base w g B D vt vn ts a b) (hz : name.size ≤ 9223372036854775807) (hn : M.idx (ts.map M.shaSum) name.data.toList = none) :
    Calls Tryd.prog 52 #[.pointer (some ⟨g, 0, none⟩), .string name] w fun e w' => e = .returned (.tuple #[.string ByteArray.empty, .bool false]) ∧ w = w' := by
 have c0 : w.cell? ⟨g, 0, none⟩ = some (.map (some B)) := M.blk_cell hS.blk 0 _ rfl
 have hKEY := Go.WideMaps.keyOf_string_mk Tryd.underlying9 (show name.size ≤ maxLen from by unfold maxLen; omega)
 have hown := hS.map
 have h1 := (hS.says name.data.toList).1
 have h2 := (hS.says name.data.toList).2
 rw [hn] at h1 h2
 have HS := Aside0.mk hS
 clear hS
 go_enter Tryd.func52, Tryd.ntmps52
 go_wp2_with (first | (go_at_call 50; (with_reducible refine (shelf_Shelf_there.calls base g B D vt vn ts a b _ HS.out).mono ?_); rintro e w1 ⟨rfl, rfl⟩) | (at_lookup; refine wpList_lookup_own_ok_int _ rfl _ _ 88 rfl 9 3 .i64 shelf_Shelf_there.law Tryd.underlying88 Tryd.underlying3 (shelf_Shelf_there.zero_ _) B ts.length D rfl hown _ _ rfl hKEY ?_; intro c hat hwc))
 exact bodyPost_ret (v := .tuple #[.string ByteArray.empty, .bool false]) (by simp [results, Tryd.results52, go_sem]; rfl) rfl ⟨rfl, rfl⟩
set_option maxHeartbeats 8000000 in
set_option maxRecDepth 100000 in
theorem shelf_Shelf_Get.some_ (base g B : Nat) (D : DataW Unit) (vt vn : Value) (ts : List ByteArray) (a b name : ByteArray) (i : Nat) (w : World) (hS : M.shelf Tryd.prog base w g B D vt vn ts a b) (hz : name.size ≤ 9223372036854775807) (hn : M.idx (ts.map M.shaSum) name.data.toList = some i) :
    Calls Tryd.prog 52 #[.pointer (some ⟨g, 0, none⟩), .string name] w fun e w' => e = .returned (.tuple #[.string (ts.getD i ByteArray.empty), .bool true]) ∧ w = w' := by
 have hi : i < ts.length := by have := (M.idx_lt hn).1; simpa using this
 obtain ⟨gt, cap, rfl, _, _⟩ := hS.rt.form (by omega)
 have c0 : w.cell? ⟨g, 0, none⟩ = some (.map (some B)) := M.blk_cell hS.blk 0 _ rfl
 have c1 : w.cell? ⟨g, 1, none⟩ = some (.slice (some ⟨gt, 0, none⟩) ts.length cap) := M.blk_cell hS.blk 1 _ rfl
 have ci := hS.rt.cells (g := gt) rfl i (.string (ts.getD i ByteArray.empty)) (by simp [List.getD, hi])
 rw [add_plain] at ci
 have hKEY := Go.WideMaps.keyOf_string_mk Tryd.underlying9 (show name.size ≤ maxLen from by unfold maxLen; omega)
 have hown := hS.map
 have h1 := (hS.says name.data.toList).1
 have h2 := (hS.says name.data.toList).2
 rw [hn] at h1 h2
 have HS := Aside0.mk hS
 have g0 : (0 : Int) ≤ (i : Int) := by omega
 have g1 : (i : Int) < (ts.length : Int) := by omega
 clear hS
 generalize ts.getD i ByteArray.empty = x at ci ⊢
 go_enter Tryd.func52, Tryd.ntmps52
 go_wp2_with (first | (go_at_call 50; (with_reducible refine (shelf_Shelf_there.calls base g B D _ vn ts a b _ HS.out).mono ?_); rintro e w1 ⟨rfl, rfl⟩) | (at_lookup; refine wpList_lookup_own_ok_int _ rfl _ _ 88 rfl 9 3 .i64 shelf_Shelf_there.law Tryd.underlying88 Tryd.underlying3 (shelf_Shelf_there.zero_ _) B ts.length D rfl hown _ _ rfl hKEY ?_; intro c hat hwc; obtain rfl : c = (i : Int) := by (rw [h2] at hat; simpa using hat.symm)))
 exact bodyPost_ret (v := .tuple #[.string x, .bool true]) (by simp [results, Tryd.results52, go_sem]) rfl ⟨rfl, rfl⟩
theorem shelf_Shelf_Get.all_ (base g : Nat) (F : Nat → Prop) (s : M.SS) (name : ByteArray) (w : World) (hS : M.Sh Tryd.prog base w g F s) (hz : name.size ≤ 9223372036854775807) :
    Calls Tryd.prog 52 #[.pointer (some ⟨g, 0, none⟩), .string name] w fun e w' => e = .returned (.tuple #[.string (s.get name).1, .bool (s.get name).2]) ∧ w = w' := by
 obtain ⟨B, D, vt, vn, hs, hF, hl⟩ := hS
 unfold M.SS.get
 cases hi : M.idx (s.ts.map M.shaSum) name.data.toList with
 | none => exact shelf_Shelf_Get.none_ base g B D vt vn s.ts s.a s.b name w hs hz hi
 | some i => exact shelf_Shelf_Get.some_ base g B D vt vn s.ts s.a s.b name i w hs hz hi
theorem shelf_Shelf_Get.any (base g : Nat) (F : Nat → Prop) (s : M.SS) (name : ByteArray) (w : World) (hS : M.Sh Tryd.prog base w g F s) (hz : name.size ≤ 1000000000000) :
    Calls Tryd.prog 52 #[.pointer (some ⟨g, 0, none⟩), .string name] w fun e w' => e = .returned (.tuple #[.string (s.get name).1, .bool (s.get name).2]) ∧ w = w' := shelf_Shelf_Get.all_ base g F s name w hS (by omega)
def IsS148 (w0 W : World) (g : Nat) (f0 : ByteArray) (f1 : Int) (f2 : Int) (f3 : Bool) : Prop := W.heap[g]? = some (.cells #[.string f0, .int .i64 f1, .int .i64 f2, .bool f3] 148 (0, 0)) ∧ w0.heap.size ≤ g
theorem IsS148.grown {w0 W : World} {g : Nat} {f0 : ByteArray} {f1 : Int} {f2 : Int} {f3 : Bool} {W1 : World} {row : Option Nat} (h : IsS148 w0 W g f0 f1 f2 f3) (hw : W.grownBy W1 row) (hne : some g ≠ row) : IsS148 w0 W1 g f0 f1 f2 f3 := by
 obtain ⟨hb, hg⟩ := h
 exact ⟨blk_grown hb hw hne, hg⟩
theorem IsS148.kept {w0 W : World} {g : Nat} {f0 : ByteArray} {f1 : Int} {f2 : Int} {f3 : Bool} {W1 : World} {S : Nat → Prop} (h : IsS148 w0 W g f0 f1 f2 f3) (hk : Kept W W1 S) (hne : ¬ S g) : IsS148 w0 W1 g f0 f1 f2 f3 := by
 obtain ⟨hb, hg⟩ := h
 exact ⟨blk_kept hb hk hne, hg⟩
theorem IsS148.below {w0 W : World} {g : Nat} {f0 : ByteArray} {f1 : Int} {f2 : Int} {f3 : Bool} {W1 : World} (h : IsS148 w0 W g f0 f1 f2 f3) (hw : Below W.heap.size W W1) : IsS148 w0 W1 g f0 f1 f2 f3 := h.grown (grown_of_below hw none) (by simp)
theorem IsS148.alloc {w0 W : World} {g : Nat} {f0 : ByteArray} {f1 : Int} {f2 : Int} {f3 : Bool} (h : IsS148 w0 W g f0 f1 f2 f3) (o : Obj) : IsS148 w0 (W.alloc o) g f0 f1 f2 f3 := h.below (below_alloc (Below.refl _ _) o)
theorem IsS148.drewN {w0 W : World} {g : Nat} {f0 : ByteArray} {f1 : Int} {f2 : Int} {f3 : Bool} (h : IsS148 w0 W g f0 f1 f2 f3) (m : Nat) : IsS148 w0 (W.drewN m) g f0 f1 f2 f3 := h
theorem IsS148.drew {w0 W : World} {g : Nat} {f0 : ByteArray} {f1 : Int} {f2 : Int} {f3 : Bool} (h : IsS148 w0 W g f0 f1 f2 f3) : IsS148 w0 W.drew g f0 f1 f2 f3 := h
theorem IsS148.at_ {w0 W : World} {g : Nat} {f0 : ByteArray} {f1 : Int} {f2 : Int} {f3 : Bool} {w' : World} {m : Nat} (hq : W.drewN m = w') (h : IsS148 w0 W g f0 f1 f2 f3) : IsS148 w0 w' g f0 f1 f2 f3 := by subst hq; exact IsS148.drewN h m
theorem IsS148.apart {w0 W : World} {g : Nat} {f0 : ByteArray} {f1 : Int} {f2 : Int} {f3 : Bool} {α : Type} {d : Kd α} {e : Nat} {base : Nat} {ok : Nat → Prop} {v : Value} {xs : List α} (h : IsS148 w0 W g f0 f1 f2 f3) (ho : d.R e W base ok v xs) (ht : ∀ q, q ∈ e :: d.E → q ≠ 148) : d.R e W base (fun k => ok k ∧ k ≠ g) v xs := by
 obtain ⟨hb, hg⟩ := h
 exact Kd.R_types ho hb ht
theorem IsS148.own_ne {w0 W : World} {g : Nat} {f0 : ByteArray} {f1 : Int} {f2 : Int} {f3 : Bool} {α : Type} {d : Kd α} {e : Nat} {base : Nat} {ok : Nat → Prop} {v : Value} {xs : List α} (h : IsS148 w0 W g f0 f1 f2 f3) (ho : d.R e W base ok v xs) (ht : e ≠ 148) : some g ≠ v.ownBlock := by
 obtain ⟨hb, hg⟩ := h
 exact Kd.R_ne ho hb ht
theorem IsS148.lt {w0 W : World} {g : Nat} {f0 : ByteArray} {f1 : Int} {f2 : Int} {f3 : Bool} (h : IsS148 w0 W g f0 f1 f2 f3) : g < W.heap.size := by
 obtain ⟨hb, hg⟩ := h
 exact blk_lt hb
theorem IsS148.ge {w0 W : World} {g : Nat} {f0 : ByteArray} {f1 : Int} {f2 : Int} {f3 : Bool} (h : IsS148 w0 W g f0 f1 f2 f3) : w0.heap.size ≤ g := by
 obtain ⟨hb, hg⟩ := h
 exact hg
theorem IsS148.ne_blk {w0 W : World} {g : Nat} {f0 : ByteArray} {f1 : Int} {f2 : Int} {f3 : Bool} {a : Nat} {cs : Array Value} {t : TypeId} {fr : Nat × Nat} (h : IsS148 w0 W g f0 f1 f2 f3) (hb2 : W.heap[a]? = some (.cells cs t fr)) (ht : t ≠ 148) : g ≠ a := by
 obtain ⟨hb, hg⟩ := h
 rintro rfl
 rw [hb] at hb2
 injection hb2 with hb2
 injection hb2 with _ ht2
 exact ht ht2.symm
theorem IsS148.far {w0 W : World} {g : Nat} {f0 : ByteArray} {f1 : Int} {f2 : Int} {f3 : Bool} {p : Addr} (h : IsS148 w0 W g f0 f1 f2 f3) (hne : g ≠ p.block) (u : Value) : IsS148 w0 (W.setCell p u) g f0 f1 f2 f3 := by
 obtain ⟨hb, hg⟩ := h
 exact ⟨blk_far hb hne u, hg⟩
theorem cellS148_0 {W : World} {g : Nat} {f0 : ByteArray} {f1 : Int} {f2 : Int} {f3 : Bool} (h : W.heap[g]? = some (.cells #[.string f0, .int .i64 f1, .int .i64 f2, .bool f3] 148 (0, 0))) : W.cell? ⟨g, 0, none⟩ = some (.string f0) := (blk_cell h 0).trans rfl
theorem IsS148.set_0 {w0 W : World} {g : Nat} {f0 : ByteArray} {f1 : Int} {f2 : Int} {f3 : Bool} (h : IsS148 w0 W g f0 f1 f2 f3) (x : ByteArray) : IsS148 w0 (W.setCell ⟨g, 0, none⟩ (.string x)) g x f1 f2 f3 := by
 obtain ⟨hb, hg⟩ := h
 exact ⟨by simpa using blk_set hb 0 (.string x), hg⟩
theorem cellS148_1 {W : World} {g : Nat} {f0 : ByteArray} {f1 : Int} {f2 : Int} {f3 : Bool} (h : W.heap[g]? = some (.cells #[.string f0, .int .i64 f1, .int .i64 f2, .bool f3] 148 (0, 0))) : W.cell? ⟨g, 1, none⟩ = some (.int .i64 f1) := (blk_cell h 1).trans rfl
theorem IsS148.set_1 {w0 W : World} {g : Nat} {f0 : ByteArray} {f1 : Int} {f2 : Int} {f3 : Bool} (h : IsS148 w0 W g f0 f1 f2 f3) (x : Int) : IsS148 w0 (W.setCell ⟨g, 1, none⟩ (.int .i64 x)) g f0 x f2 f3 := by
 obtain ⟨hb, hg⟩ := h
 exact ⟨by simpa using blk_set hb 1 (.int .i64 x), hg⟩
theorem cellS148_2 {W : World} {g : Nat} {f0 : ByteArray} {f1 : Int} {f2 : Int} {f3 : Bool} (h : W.heap[g]? = some (.cells #[.string f0, .int .i64 f1, .int .i64 f2, .bool f3] 148 (0, 0))) : W.cell? ⟨g, 2, none⟩ = some (.int .i64 f2) := (blk_cell h 2).trans rfl
theorem IsS148.set_2 {w0 W : World} {g : Nat} {f0 : ByteArray} {f1 : Int} {f2 : Int} {f3 : Bool} (h : IsS148 w0 W g f0 f1 f2 f3) (x : Int) : IsS148 w0 (W.setCell ⟨g, 2, none⟩ (.int .i64 x)) g f0 f1 x f3 := by
 obtain ⟨hb, hg⟩ := h
 exact ⟨by simpa using blk_set hb 2 (.int .i64 x), hg⟩
theorem cellS148_3 {W : World} {g : Nat} {f0 : ByteArray} {f1 : Int} {f2 : Int} {f3 : Bool} (h : W.heap[g]? = some (.cells #[.string f0, .int .i64 f1, .int .i64 f2, .bool f3] 148 (0, 0))) : W.cell? ⟨g, 3, none⟩ = some (.bool f3) := (blk_cell h 3).trans rfl
theorem IsS148.set_3 {w0 W : World} {g : Nat} {f0 : ByteArray} {f1 : Int} {f2 : Int} {f3 : Bool} (h : IsS148 w0 W g f0 f1 f2 f3) (x : Bool) : IsS148 w0 (W.setCell ⟨g, 3, none⟩ (.bool x)) g f0 f1 f2 x := by
 obtain ⟨hb, hg⟩ := h
 exact ⟨by simpa using blk_set hb 3 (.bool x), hg⟩
theorem IsS148.new (w0 W : World) (f0 : ByteArray) (f1 : Int) (f2 : Int) (f3 : Bool) (hB : Below w0.heap.size w0 W) : IsS148 w0 (W.alloc (.cells #[.string f0, .int .i64 f1, .int .i64 f2, .bool f3] 148)) W.heap.size f0 f1 f2 f3 := ⟨by simpa using heap_alloc_new W _, hB.size⟩
def scan_New.f (a0 : ByteArray) : Option (ByteArray × Int × Int × Bool) := some (a0, 0, 0, true)
set_option maxHeartbeats 8000000 in
set_option maxRecDepth 100000 in
theorem scan_New.calls (a0 : ByteArray) (r1 : ByteArray) (r2 : Int) (r3 : Int) (r4 : Bool) (w0 w : World) (hB : Below w0.heap.size w0 w) (h : scan_New.f a0 = some (r1, r2, r3, r4)) :
    Calls Tryd.prog 74 #[.string a0] w fun e w' => ∃ g_ : Nat, e = .returned (.pointer (some ⟨g_, 0, none⟩)) ∧ IsS148 w0 w' g_ r1 r2 r3 r4 ∧ Below w0.heap.size w0 w' ∧ Below w.heap.size w w' := by
 have hu148 := Tryd.underlying148
 have HBW := Aside0.mk (Below.refl w.heap.size w)
 have HW0 := Aside0.mk hB.size
 have HB := Aside0.mk hB
 clear hB
 have H := h; unfold scan_New.f at H
 clear h
 simp only [Option.some.injEq, Prod.mk.injEq] at H
 obtain ⟨rfl, rfl, rfl, rfl⟩ := H
 go_enter Tryd.func74, Tryd.ntmps74
 go_wp2_with (((with_reducible refine gate_dst (N := 5) rfl ?_); refine M.bx 5 148 (#[.string a0, .int .i64 0, .int .i64 0, .bool true]) ?_; intro zaa hg w2 hbox hb; replace HB := M.upS HB hb; have zab := Aside0.mk (hbox); have zac := Aside0.mk ((by rw [hg]; exact (below_size (by (with_reducible (exact HBW.out)))) : w.heap.size ≤ zaa)); have zad := Aside0.mk ((Nat.le_trans HW0.out (by rw [hg]; exact (below_size (by (with_reducible (exact HBW.out)))) : w.heap.size ≤ zaa) : w0.heap.size ≤ zaa)); replace HBW := Aside0.mk (below_step HBW.out hb); clear hb hbox hg))
 go_ret
 exact ⟨_, rfl, (show IsS148 w0 _ zaa a0 0 0 true from ⟨by (with_reducible repeat (first | refine blk_drewN ?_ _ | refine blk_drew ?_ | refine blk_alloc ?_ _)); exact zab.out, zad.out⟩), by (with_reducible (exact HB.out)), by (with_reducible (exact HBW.out))⟩
def scan_Scan_Err.f (s0_0 : ByteArray) (s0_1 : Int) (s0_2 : Int) (s0_3 : Bool) : Option (Int × ByteArray × Int × Int × Bool) := if s0_3 = true then (some (s0_2, s0_0, s0_1, s0_2, s0_3)) else (some (1, s0_0, s0_1, s0_2, s0_3))
set_option maxHeartbeats 8000000 in
set_option maxRecDepth 100000 in
theorem scan_Scan_Err.calls (g : Nat) (s0_0 : ByteArray) (s0_1 : Int) (s0_2 : Int) (s0_3 : Bool) (r1 : Int) (r2 : ByteArray) (r3 : Int) (r4 : Int) (r5 : Bool) (w0 w : World) (hI : IsS148 w0 w g s0_0 s0_1 s0_2 s0_3) (hB : Below w0.heap.size w0 w) (h : scan_Scan_Err.f s0_0 s0_1 s0_2 s0_3 = some (r1, r2, r3, r4, r5)) :
    Calls Tryd.prog 92 #[.pointer (some ⟨g, 0, none⟩)] w fun e w' => e = .returned (.int .i64 r1) ∧ IsS148 w0 w' g r2 r3 r4 r5 ∧ Below w0.heap.size w0 w' ∧ KeepBut w w' g none := by
 have HI0 := Aside0.mk hI
 have HK := Aside0.mk (KeepBut.refl w g none)
 have HL := Aside0.mk hB.size
 clear hI
 have HW0 := Aside0.mk hB.size
 have HB := Aside0.mk hB
 clear hB
 have H := h; unfold scan_Scan_Err.f at H
 clear h
 by_cases c2 : s0_3 = true
 ·subst c2
  have H1 := H; rw [if_pos rfl] at H1
  clear H
  have H := H1
  clear H1
  simp only [Option.some.injEq, Prod.mk.injEq] at H
  obtain ⟨rfl, rfl, rfl, rfl, rfl⟩ := H
  obtain ⟨HGz3, hgz3⟩ := HI0.out
  have zae := cellS148_0 HGz3
  have zaf := cellS148_1 HGz3
  have zag := cellS148_2 HGz3
  have zah := cellS148_3 HGz3
  have zai := blk_frozen HGz3 0
  have zaj := blk_frozen HGz3 1
  have zak := blk_frozen HGz3 2
  have zal := blk_frozen HGz3 3
  clear HGz3 hgz3
  go_enter Tryd.func92, Tryd.ntmps92
  go_wp2
  go_ret
  exact ⟨M.eqe, by (with_reducible (exact HI0.out)), by (with_reducible (exact HB.out)), by (with_reducible (exact HK.out))⟩
 ·replace c2 := Bool.eq_false_iff.mpr c2
  subst c2
  have H1 : (some (1, s0_0, s0_1, s0_2, false)) = some (r1, r2, r3, r4, r5) := by rw [if_neg (show ¬ (false = true) by decide)] at H; exact H
  clear H
  have H := H1
  clear H1
  simp only [Option.some.injEq, Prod.mk.injEq] at H
  obtain ⟨rfl, rfl, rfl, rfl, rfl⟩ := H
  obtain ⟨HGz4, hgz4⟩ := HI0.out
  have zam := cellS148_0 HGz4
  have zan := cellS148_1 HGz4
  have zao := cellS148_2 HGz4
  have zap := cellS148_3 HGz4
  have zaq := blk_frozen HGz4 0
  have zar := blk_frozen HGz4 1
  have zas := blk_frozen HGz4 2
  have zat := blk_frozen HGz4 3
  clear HGz4 hgz4
  go_enter Tryd.func92, Tryd.ntmps92
  go_wp2
  go_ret
  exact ⟨M.eqe, by (with_reducible (exact HI0.out)), by (with_reducible (exact HB.out)), by (with_reducible (exact HK.out))⟩
def scan_Scan_take_p.f (s0_0 : ByteArray) (s0_1 : Int) (s0_2 : Int) (s0_3 : Bool) (a1 : Int) : Option (ByteArray × ByteArray × Int × Int × Bool) := (scan_Scan_Err.f s0_0 s0_1 s0_2 s0_3).bind fun bt189 => (if bt189.1 = 0 then (if a1 < 0 then (some ((⟨#[]⟩ : ByteArray), bt189.2.1, bt189.2.2.1, 3, bt189.2.2.2.2)) else (if a1 > (wrap64 ((bt189.2.1.size : Int) - bt189.2.2.1)) then (some ((⟨#[]⟩ : ByteArray), bt189.2.1, bt189.2.2.1, 3, bt189.2.2.2.2)) else (if 0 ≤ bt189.2.2.1 then (if bt189.2.2.1 ≤ (wrap64 (bt189.2.2.1 + a1)) then (if (wrap64 (bt189.2.2.1 + a1)) ≤ (bt189.2.1.size : Int) then (some (bt189.2.1.extract (bt189.2.2.1 : Int).toNat ((wrap64 (bt189.2.2.1 + a1)) : Int).toNat, bt189.2.1, wrap64 (bt189.2.2.1 + a1), bt189.2.2.2.1, bt189.2.2.2.2)) else (none)) else (none)) else (none)))) else (some ((⟨#[]⟩ : ByteArray), bt189.2.1, bt189.2.2.1, bt189.2.2.2.1, bt189.2.2.2.2)))
set_option maxHeartbeats 8000000 in
set_option maxRecDepth 100000 in
theorem scan_Scan_take_p.calls (g : Nat) (s0_0 : ByteArray) (s0_1 : Int) (s0_2 : Int) (s0_3 : Bool) (a1 : Int) (r1 : ByteArray) (r2 : ByteArray) (r3 : Int) (r4 : Int) (r5 : Bool) (w0 w : World) (hI : IsS148 w0 w g s0_0 s0_1 s0_2 s0_3) (hB : Below w0.heap.size w0 w) (h : scan_Scan_take_p.f s0_0 s0_1 s0_2 s0_3 a1 = some (r1, r2, r3, r4, r5)) :
    Calls Tryd.prog 91 #[.pointer (some ⟨g, 0, none⟩), .int .i64 a1] w fun e w' => e = .returned (.string r1) ∧ IsS148 w0 w' g r2 r3 r4 r5 ∧ Below w0.heap.size w0 w' ∧ KeepBut w w' g none := by
 have HI0 := Aside0.mk hI
 have HK := Aside0.mk (KeepBut.refl w g none)
 have HL := Aside0.mk hB.size
 clear hI
 have HW0 := Aside0.mk hB.size
 have HB := Aside0.mk hB
 clear hB
 have H := h; unfold scan_Scan_take_p.f at H
 clear h
 replace H := Option.bind_eq_some_iff.mp H
 obtain ⟨⟨t189, t190, t191, t192, t193⟩, A30, H⟩ := H
 try simp only at H
 have A3 := Aside0.mk A30
 clear A30
 by_cases c4 : t189 = 0
 ·rw [if_pos c4] at H
  have c4b0 : (t189 == 0) = true := beq_iff_eq.mpr c4
  have c4b1 : (t189 != 0) = false := bne_eq_false_iff_eq.mpr c4
  clear c4
  by_cases c5 : a1 < 0
  ·rw [if_pos c5] at H
   have c5b0 := decide_eq_true c5
   clear c5
   simp only [Option.some.injEq, Prod.mk.injEq] at H
   obtain ⟨rfl, rfl, rfl, rfl, rfl⟩ := H
   go_enter Tryd.func91, Tryd.ntmps91
   go_wp2_with ((go_at_call 92; (with_reducible refine (scan_Scan_Err.calls g s0_0 s0_1 s0_2 s0_3 t189 t190 t191 t192 t193 w0 _ ?side1 ?side2 A3.out).mono ?_); (case side1 => (with_reducible (exact HI0.out))); (case side2 => (with_reducible (exact HB.out))); rintro e w6 ⟨rfl, hi, hb, hk⟩; replace HK := Aside0.mk (KeepBut.trans (by (with_reducible (exact HK.out))) hk (.inl rfl)); replace HB := Aside0.mk (hb); replace HI0 := Aside0.mk (hi); clear hb hk hi; obtain ⟨HGz7, hgz7⟩ := HI0.out; have zau := cellS148_0 HGz7; have zav := cellS148_1 HGz7; have zaw := cellS148_2 HGz7; have zax := cellS148_3 HGz7; have zay := blk_frozen HGz7 0; have zaz := blk_frozen HGz7 1; have zaA := blk_frozen HGz7 2; have zaB := blk_frozen HGz7 3; clear HGz7 hgz7))
   repeat (go_quiet ((go_at_call 92; (with_reducible refine (scan_Scan_Err.calls g s0_0 s0_1 s0_2 s0_3 t189 t190 t191 t192 t193 w0 _ ?side1 ?side2 A3.out).mono ?_); (case side1 => repeat (first | (with_reducible first | exact HI0.out | apply IsS148.alloc | apply IsS148.drewN | apply IsS148.drew | apply IsS148.set_0 | apply IsS148.set_1 | apply IsS148.set_2 | apply IsS148.set_3) | exact HI0.out)); (case side2 => repeat (first | (with_reducible first | exact HB.out | apply below_alloc | apply pw_below_drewN | apply below_drew1 | refine below_set ?_ (IsS148.ge HI0.out)) | exact HB.out)); rintro e w6 ⟨rfl, hi, hb, hk⟩; replace HK := Aside0.mk (KeepBut.trans (by repeat (first | (with_reducible first | exact HK.out | apply KeepBut.set_ | apply keep_drewN | apply keep_drew | apply keep_alloc) | exact HK.out)) hk (.inl rfl)); replace HB := Aside0.mk (hb); replace HI0 := Aside0.mk (hi); (try clear hb); (try clear hb2); (try clear hk); (try clear hi); obtain ⟨HGz7, hgz7⟩ := HI0.out; have zau := cellS148_0 HGz7; have zav := cellS148_1 HGz7; have zaw := cellS148_2 HGz7; have zax := cellS148_3 HGz7; have zay := blk_frozen HGz7 0; have zaz := blk_frozen HGz7 1; have zaA := blk_frozen HGz7 2; have zaB := blk_frozen HGz7 3; clear HGz7 hgz7)); try go_wp2_with ((go_at_call 92; (with_reducible refine (scan_Scan_Err.calls g s0_0 s0_1 s0_2 s0_3 t189 t190 t191 t192 t193 w0 _ ?side1 ?side2 A3.out).mono ?_); (case side1 => repeat (first | (with_reducible first | exact HI0.out | apply IsS148.alloc | apply IsS148.drewN | apply IsS148.drew | apply IsS148.set_0 | apply IsS148.set_1 | apply IsS148.set_2 | apply IsS148.set_3) | exact HI0.out)); (case side2 => repeat (first | (with_reducible first | exact HB.out | apply below_alloc | apply pw_below_drewN | apply below_drew1 | refine below_set ?_ (IsS148.ge HI0.out)) | exact HB.out)); rintro e w6 ⟨rfl, hi, hb, hk⟩; replace HK := Aside0.mk (KeepBut.trans (by repeat (first | (with_reducible first | exact HK.out | apply KeepBut.set_ | apply keep_drewN | apply keep_drew | apply keep_alloc) | exact HK.out)) hk (.inl rfl)); replace HB := Aside0.mk (hb); replace HI0 := Aside0.mk (hi); (try clear hb); (try clear hb2); (try clear hk); (try clear hi); obtain ⟨HGz7, hgz7⟩ := HI0.out; have zau := cellS148_0 HGz7; have zav := cellS148_1 HGz7; have zaw := cellS148_2 HGz7; have zax := cellS148_3 HGz7; have zay := blk_frozen HGz7 0; have zaz := blk_frozen HGz7 1; have zaA := blk_frozen HGz7 2; have zaB := blk_frozen HGz7 3; clear HGz7 hgz7)))
   go_ret
   exact ⟨M.eqe, by repeat ((with_reducible first | exact HI0.out | apply IsS148.drewN | apply IsS148.set_2)), by repeat ((with_reducible first | exact HB.out | apply pw_below_drewN | refine below_set ?_ (IsS148.ge HI0.out))), by repeat ((with_reducible first | exact HK.out | apply KeepBut.set_ | apply keep_drewN))⟩
  ·rw [if_neg c5] at H
   have c5b0 := decide_eq_false c5
   clear c5
   by_cases c8 : a1 > (wrap64 ((t190.size : Int) - t191))
   ·rw [if_pos c8] at H
    have c8b0 := decide_eq_true c8
    clear c8
    simp only [Option.some.injEq, Prod.mk.injEq] at H
    obtain ⟨rfl, rfl, rfl, rfl, rfl⟩ := H
    go_enter Tryd.func91, Tryd.ntmps91
    go_wp2_with ((go_at_call 92; (with_reducible refine (scan_Scan_Err.calls g s0_0 s0_1 s0_2 s0_3 t189 t190 t191 t192 t193 w0 _ ?side1 ?side2 A3.out).mono ?_); (case side1 => (with_reducible (exact HI0.out))); (case side2 => (with_reducible (exact HB.out))); rintro e w9 ⟨rfl, hi, hb, hk⟩; replace HK := Aside0.mk (KeepBut.trans (by (with_reducible (exact HK.out))) hk (.inl rfl)); replace HB := Aside0.mk (hb); replace HI0 := Aside0.mk (hi); clear hb hk hi; obtain ⟨HGz10, hgz10⟩ := HI0.out; have zaC := cellS148_0 HGz10; have zaD := cellS148_1 HGz10; have zaE := cellS148_2 HGz10; have zaF := cellS148_3 HGz10; have zaG := blk_frozen HGz10 0; have zaH := blk_frozen HGz10 1; have zaI := blk_frozen HGz10 2; have zaJ := blk_frozen HGz10 3; clear HGz10 hgz10))
    repeat (go_quiet ((go_at_call 92; (with_reducible refine (scan_Scan_Err.calls g s0_0 s0_1 s0_2 s0_3 t189 t190 t191 t192 t193 w0 _ ?side1 ?side2 A3.out).mono ?_); (case side1 => repeat (first | (with_reducible first | exact HI0.out | apply IsS148.alloc | apply IsS148.drewN | apply IsS148.drew | apply IsS148.set_0 | apply IsS148.set_1 | apply IsS148.set_2 | apply IsS148.set_3) | exact HI0.out)); (case side2 => repeat (first | (with_reducible first | exact HB.out | apply below_alloc | apply pw_below_drewN | apply below_drew1 | refine below_set ?_ (IsS148.ge HI0.out)) | exact HB.out)); rintro e w9 ⟨rfl, hi, hb, hk⟩; replace HK := Aside0.mk (KeepBut.trans (by repeat (first | (with_reducible first | exact HK.out | apply KeepBut.set_ | apply keep_drewN | apply keep_drew | apply keep_alloc) | exact HK.out)) hk (.inl rfl)); replace HB := Aside0.mk (hb); replace HI0 := Aside0.mk (hi); (try clear hb); (try clear hb2); (try clear hk); (try clear hi); obtain ⟨HGz10, hgz10⟩ := HI0.out; have zaC := cellS148_0 HGz10; have zaD := cellS148_1 HGz10; have zaE := cellS148_2 HGz10; have zaF := cellS148_3 HGz10; have zaG := blk_frozen HGz10 0; have zaH := blk_frozen HGz10 1; have zaI := blk_frozen HGz10 2; have zaJ := blk_frozen HGz10 3; clear HGz10 hgz10)); try go_wp2_with ((go_at_call 92; (with_reducible refine (scan_Scan_Err.calls g s0_0 s0_1 s0_2 s0_3 t189 t190 t191 t192 t193 w0 _ ?side1 ?side2 A3.out).mono ?_); (case side1 => repeat (first | (with_reducible first | exact HI0.out | apply IsS148.alloc | apply IsS148.drewN | apply IsS148.drew | apply IsS148.set_0 | apply IsS148.set_1 | apply IsS148.set_2 | apply IsS148.set_3) | exact HI0.out)); (case side2 => repeat (first | (with_reducible first | exact HB.out | apply below_alloc | apply pw_below_drewN | apply below_drew1 | refine below_set ?_ (IsS148.ge HI0.out)) | exact HB.out)); rintro e w9 ⟨rfl, hi, hb, hk⟩; replace HK := Aside0.mk (KeepBut.trans (by repeat (first | (with_reducible first | exact HK.out | apply KeepBut.set_ | apply keep_drewN | apply keep_drew | apply keep_alloc) | exact HK.out)) hk (.inl rfl)); replace HB := Aside0.mk (hb); replace HI0 := Aside0.mk (hi); (try clear hb); (try clear hb2); (try clear hk); (try clear hi); obtain ⟨HGz10, hgz10⟩ := HI0.out; have zaC := cellS148_0 HGz10; have zaD := cellS148_1 HGz10; have zaE := cellS148_2 HGz10; have zaF := cellS148_3 HGz10; have zaG := blk_frozen HGz10 0; have zaH := blk_frozen HGz10 1; have zaI := blk_frozen HGz10 2; have zaJ := blk_frozen HGz10 3; clear HGz10 hgz10)))
    go_ret
    exact ⟨M.eqe, by repeat ((with_reducible first | exact HI0.out | apply IsS148.drewN | apply IsS148.set_2)), by repeat ((with_reducible first | exact HB.out | apply pw_below_drewN | refine below_set ?_ (IsS148.ge HI0.out))), by repeat ((with_reducible first | exact HK.out | apply KeepBut.set_ | apply keep_drewN))⟩
   ·rw [if_neg c8] at H
    have c8b0 := decide_eq_false c8
    clear c8
    by_cases c11 : 0 ≤ t191
    ·rw [if_pos c11] at H
     have c11b0 := eq_true c11
     have c11b1 := decide_eq_true c11
     clear c11
     by_cases c12 : t191 ≤ (wrap64 (t191 + a1))
     ·rw [if_pos c12] at H
      have c12b0 := eq_true c12
      have c12b1 := decide_eq_true c12
      by_cases c13 : (wrap64 (t191 + a1)) ≤ (t190.size : Int)
      ·rw [if_pos c13] at H
       have c13b0 := eq_true c13
       have c13b1 := decide_eq_true c13
       simp only [Option.some.injEq, Prod.mk.injEq] at H
       obtain ⟨rfl, rfl, rfl, rfl, rfl⟩ := H
       go_enter Tryd.func91, Tryd.ntmps91
       go_wp2_with ((go_at_call 92; (with_reducible refine (scan_Scan_Err.calls g s0_0 s0_1 s0_2 s0_3 t189 t190 t191 t192 t193 w0 _ ?side1 ?side2 A3.out).mono ?_); (case side1 => (with_reducible (exact HI0.out))); (case side2 => (with_reducible (exact HB.out))); rintro e w14 ⟨rfl, hi, hb, hk⟩; replace HK := Aside0.mk (KeepBut.trans (by (with_reducible (exact HK.out))) hk (.inl rfl)); replace HB := Aside0.mk (hb); replace HI0 := Aside0.mk (hi); clear hb hk hi; obtain ⟨HGz15, hgz15⟩ := HI0.out; have zaK := cellS148_0 HGz15; have zaL := cellS148_1 HGz15; have zaM := cellS148_2 HGz15; have zaN := cellS148_3 HGz15; have zaO := blk_frozen HGz15 0; have zaP := blk_frozen HGz15 1; have zaQ := blk_frozen HGz15 2; have zaR := blk_frozen HGz15 3; clear HGz15 hgz15))
       repeat (go_quiet ((go_at_call 92; (with_reducible refine (scan_Scan_Err.calls g s0_0 s0_1 s0_2 s0_3 t189 t190 t191 t192 t193 w0 _ ?side1 ?side2 A3.out).mono ?_); (case side1 => repeat (first | (with_reducible first | exact HI0.out | apply IsS148.alloc | apply IsS148.drewN | apply IsS148.drew | apply IsS148.set_0 | apply IsS148.set_1 | apply IsS148.set_2 | apply IsS148.set_3) | exact HI0.out)); (case side2 => repeat (first | (with_reducible first | exact HB.out | apply below_alloc | apply pw_below_drewN | apply below_drew1 | refine below_set ?_ (IsS148.ge HI0.out)) | exact HB.out)); rintro e w14 ⟨rfl, hi, hb, hk⟩; replace HK := Aside0.mk (KeepBut.trans (by repeat (first | (with_reducible first | exact HK.out | apply KeepBut.set_ | apply keep_drewN | apply keep_drew | apply keep_alloc) | exact HK.out)) hk (.inl rfl)); replace HB := Aside0.mk (hb); replace HI0 := Aside0.mk (hi); (try clear hb); (try clear hb2); (try clear hk); (try clear hi); obtain ⟨HGz15, hgz15⟩ := HI0.out; have zaK := cellS148_0 HGz15; have zaL := cellS148_1 HGz15; have zaM := cellS148_2 HGz15; have zaN := cellS148_3 HGz15; have zaO := blk_frozen HGz15 0; have zaP := blk_frozen HGz15 1; have zaQ := blk_frozen HGz15 2; have zaR := blk_frozen HGz15 3; clear HGz15 hgz15)); try go_wp2_with ((go_at_call 92; (with_reducible refine (scan_Scan_Err.calls g s0_0 s0_1 s0_2 s0_3 t189 t190 t191 t192 t193 w0 _ ?side1 ?side2 A3.out).mono ?_); (case side1 => repeat (first | (with_reducible first | exact HI0.out | apply IsS148.alloc | apply IsS148.drewN | apply IsS148.drew | apply IsS148.set_0 | apply IsS148.set_1 | apply IsS148.set_2 | apply IsS148.set_3) | exact HI0.out)); (case side2 => repeat (first | (with_reducible first | exact HB.out | apply below_alloc | apply pw_below_drewN | apply below_drew1 | refine below_set ?_ (IsS148.ge HI0.out)) | exact HB.out)); rintro e w14 ⟨rfl, hi, hb, hk⟩; replace HK := Aside0.mk (KeepBut.trans (by repeat (first | (with_reducible first | exact HK.out | apply KeepBut.set_ | apply keep_drewN | apply keep_drew | apply keep_alloc) | exact HK.out)) hk (.inl rfl)); replace HB := Aside0.mk (hb); replace HI0 := Aside0.mk (hi); (try clear hb); (try clear hb2); (try clear hk); (try clear hi); obtain ⟨HGz15, hgz15⟩ := HI0.out; have zaK := cellS148_0 HGz15; have zaL := cellS148_1 HGz15; have zaM := cellS148_2 HGz15; have zaN := cellS148_3 HGz15; have zaO := blk_frozen HGz15 0; have zaP := blk_frozen HGz15 1; have zaQ := blk_frozen HGz15 2; have zaR := blk_frozen HGz15 3; clear HGz15 hgz15)))
       go_ret
       exact ⟨M.eqe, by repeat ((with_reducible first | exact HI0.out | apply IsS148.drewN | apply IsS148.set_1)), by repeat ((with_reducible first | exact HB.out | apply pw_below_drewN | refine below_set ?_ (IsS148.ge HI0.out))), by repeat ((with_reducible first | exact HK.out | apply KeepBut.set_ | apply keep_drewN))⟩
      ·exact M.nf c13 H
     ·exact M.nf c12 H
    ·exact M.nf c11 H
 ·rw [if_neg c4] at H
  have c4b0 : (t189 == 0) = false := beq_eq_false_iff_ne.mpr c4
  have c4b1 : (t189 != 0) = true := bne_iff_ne.mpr c4
  simp only [Option.some.injEq, Prod.mk.injEq] at H
  obtain ⟨rfl, rfl, rfl, rfl, rfl⟩ := H
  go_enter Tryd.func91, Tryd.ntmps91
  go_wp2_with ((go_at_call 92; (with_reducible refine (scan_Scan_Err.calls g s0_0 s0_1 s0_2 s0_3 t189 t190 t191 t192 t193 w0 _ ?side1 ?side2 A3.out).mono ?_); (case side1 => (with_reducible (exact HI0.out))); (case side2 => (with_reducible (exact HB.out))); rintro e w16 ⟨rfl, hi, hb, hk⟩; replace HK := Aside0.mk (KeepBut.trans (by (with_reducible (exact HK.out))) hk (.inl rfl)); replace HB := Aside0.mk (hb); replace HI0 := Aside0.mk (hi); clear hb hk hi))
  repeat (go_quiet ((go_at_call 92; (with_reducible refine (scan_Scan_Err.calls g s0_0 s0_1 s0_2 s0_3 t189 t190 t191 t192 t193 w0 _ ?side1 ?side2 A3.out).mono ?_); (case side1 => repeat (first | (with_reducible first | exact HI0.out | apply IsS148.alloc | apply IsS148.drewN | apply IsS148.drew | apply IsS148.set_0 | apply IsS148.set_1 | apply IsS148.set_2 | apply IsS148.set_3) | exact HI0.out)); (case side2 => repeat (first | (with_reducible first | exact HB.out | apply below_alloc | apply pw_below_drewN | apply below_drew1 | refine below_set ?_ (IsS148.ge HI0.out)) | exact HB.out)); rintro e w16 ⟨rfl, hi, hb, hk⟩; replace HK := Aside0.mk (KeepBut.trans (by repeat (first | (with_reducible first | exact HK.out | apply KeepBut.set_ | apply keep_drewN | apply keep_drew | apply keep_alloc) | exact HK.out)) hk (.inl rfl)); replace HB := Aside0.mk (hb); replace HI0 := Aside0.mk (hi); (try clear hb); (try clear hb2); (try clear hk); (try clear hi))); try go_wp2_with ((go_at_call 92; (with_reducible refine (scan_Scan_Err.calls g s0_0 s0_1 s0_2 s0_3 t189 t190 t191 t192 t193 w0 _ ?side1 ?side2 A3.out).mono ?_); (case side1 => repeat (first | (with_reducible first | exact HI0.out | apply IsS148.alloc | apply IsS148.drewN | apply IsS148.drew | apply IsS148.set_0 | apply IsS148.set_1 | apply IsS148.set_2 | apply IsS148.set_3) | exact HI0.out)); (case side2 => repeat (first | (with_reducible first | exact HB.out | apply below_alloc | apply pw_below_drewN | apply below_drew1 | refine below_set ?_ (IsS148.ge HI0.out)) | exact HB.out)); rintro e w16 ⟨rfl, hi, hb, hk⟩; replace HK := Aside0.mk (KeepBut.trans (by repeat (first | (with_reducible first | exact HK.out | apply KeepBut.set_ | apply keep_drewN | apply keep_drew | apply keep_alloc) | exact HK.out)) hk (.inl rfl)); replace HB := Aside0.mk (hb); replace HI0 := Aside0.mk (hi); (try clear hb); (try clear hb2); (try clear hk); (try clear hi))))
  go_ret
  exact ⟨M.eqe, by (with_reducible (exact HI0.out)), by (with_reducible (exact HB.out)), by (with_reducible (exact HK.out))⟩
def scan_Scan_take.f (s0_0 : ByteArray) (s0_1 : Int) (s0_2 : Int) (s0_3 : Bool) (a1 : Int) : Option (ByteArray × ByteArray × Int × Int × Bool) :=
  if s0_3 = true then (if M.sok s0_0 s0_1 ∧ -9223372036854775808 ≤ a1 ∧ a1 ≤ 9223372036854775807 then some ((M.xfix s0_0 s0_1 s0_2 a1).1, s0_0, (M.xfix s0_0 s0_1 s0_2 a1).2.1, (M.xfix s0_0 s0_1 s0_2 a1).2.2, true) else none) else some (M.sb [], s0_0, s0_1, s0_2, s0_3)
theorem scan_Scan_take.ev (s : ByteArray) (p er : Int) (md : Bool) (n : Int) (r : ByteArray × ByteArray × Int × Int × Bool) (h : scan_Scan_take.f s p er md n = some r) : scan_Scan_take_p.f s p er md n = some r := by
 unfold scan_Scan_take.f at h
 unfold scan_Scan_take_p.f scan_Scan_Err.f
 cases md with
 | false => rw [if_neg (by simp)] at h ⊢; rw [Option.bind_some]; exact h
 | true =>
  rw [if_pos rfl] at h ⊢
  rw [Option.bind_some]
  split at h
  case isFalse => cases h
  case isTrue hh =>
   obtain ⟨hs, hn, hn'⟩ := hh
   rw [← h]
   unfold M.xfix
   by_cases he : er = 0
   ·subst he
    have hc := M.fix_code s hs hn hn'
    simp only [if_true] at hc ⊢
    generalize M.sfix s p n = q at hc ⊢
    revert hc
    (repeat' split) <;> intro hc <;> first | (cases hc; rfl) | (cases hc; done)
   ·simp only [if_neg he]; rfl
theorem scan_Scan_take.calls (g : Nat) (s0_0 : ByteArray) (s0_1 : Int) (s0_2 : Int) (s0_3 : Bool) (a1 : Int) (r1 : ByteArray) (r2 : ByteArray) (r3 : Int) (r4 : Int) (r5 : Bool) (w0 w : World) (hI : IsS148 w0 w g s0_0 s0_1 s0_2 s0_3) (hB : Below w0.heap.size w0 w) (h : scan_Scan_take.f s0_0 s0_1 s0_2 s0_3 a1 = some (r1, r2, r3, r4, r5)) :
    Calls Tryd.prog 91 #[.pointer (some ⟨g, 0, none⟩), .int .i64 a1] w fun e w' => e = .returned (.string r1) ∧ IsS148 w0 w' g r2 r3 r4 r5 ∧ Below w0.heap.size w0 w' ∧ KeepBut w w' g none := by
 exact scan_Scan_take_p.calls (w := w) (h := scan_Scan_take.ev _ _ _ _ _ _ h) (hI := hI) (hB := hB)
end Go.Proofs.YtopllfdjlbnmfaaDoor.ETreeChildren
