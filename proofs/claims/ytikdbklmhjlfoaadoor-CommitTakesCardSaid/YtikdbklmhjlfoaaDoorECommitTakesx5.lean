-- Written by this session's own program (wip/tools/ext.py) for this claim; Lean checks it.
import Derived.Test.YtikdbklmhjlfoaaDoorECommitTakesx0
import Derived.Test.YtikdbklmhjlfoaaDoorECommitTakesx1
import Derived.Test.YtikdbklmhjlfoaaDoorECommitTakesx3
import Derived.Test.YtikdbklmhjlfoaaDoorECommitTakesx4
namespace Go.Proofs.YtikdbklmhjlfoaaDoor.ECommitTakes
open Go.RowKit Go.Proofs.YtikdbklmhjlfoaaDoorW.PrintWords Go.Proofs.YtikdbklmhjlfoaaDoorW.PrintLast Go.Proofs.YtikdbklmhjlfoaaDoorW.PrintMore
attribute [local go_sem] M.run_leq M.run_gtr M.run_geq max2_int min2_int max_two min_two max_three min_three max_four min_four   -- for this text's walks alone
set_option linter.unusedVariables false
set_option linter.unusedSimpArgs false

/-! ### sha_Sum: function 47 -/
set_option maxHeartbeats 8000000 in
set_option maxRecDepth 100000 in
theorem sha_Sum.calls (ad : Addr) (c0 : Nat) (t : ByteArray) (w : World) (hT : M.stab w) (hr : w.cell? ad = some (.string t)) (hc : 1 ≤ c0) (hs : t.size ≤ 1000000000000) :
    Calls Tryd.prog 47 #[.slice (some ad) 1 c0] w fun e w' => e = .returned (.string (M.shaSum t)) ∧ Below w.heap.size w w' := by
  have HT := Aside0.mk hT
  have HR := Aside0.mk hr
  have hadl : ad.add 0 = ad := by unfold Addr.add; simp
  clear hT hr
  go_enter Tryd.func47, Tryd.ntmps47
  go_wp2_with (first | (go_at_call 62; (with_reducible refine (sha_New.calls _ HT.out).mono ?_); rintro e w1 ⟨g, rfl, hh, hb1, hgl⟩; have HH := Aside0.mk hh; have HB := Aside0.mk hb1; have HGL := Aside0.mk hgl; clear hh hb1 hgl))
  go_loopw [9] (fun v9 wr => Aside0 (Below w.heap.size w wr) ∧ ((v9 = .int .i64 0 ∧ Aside0 (M.hash wr g 123 0x6a09e667 0xbb67ae85 0x3c6ef372 0xa54ff53a 0x510e527f 0x9b05688c 0x1f83d9ab 0x5be0cd19 (.slice none 0 0) 0)) ∨ (v9 = .int .i64 1 ∧ ∃ (y0 y1 y2 y3 y4 y5 y6 y7 : Nat) (A : Option Addr) (m c : Nat), Aside0 (M.eat M.shaH (M.bs t) (t.size / 64) = [y0, y1, y2, y3, y4, y5, y6, y7]) ∧ Aside0 (M.hash wr g 123 y0 y1 y2 y3 y4 y5 y6 y7 (.slice A m c) (t.size : Int)) ∧ Aside0 (M.foot wr g A m ((M.bs t).drop (64 * (t.size / 64)))) ∧ m ≤ c ∧ 64 * (t.size / 64) + m = t.size))) (fun v9 _ => 1 - (intOf v9).toNat)
  case atStart => exact ⟨HB, .inl ⟨rfl, HH⟩⟩
  case round =>
    clear HB HH
    obtain ⟨HB, ⟨rfl, HH⟩ | ⟨rfl, y0, y1, y2, y3, y4, y5, y6, y7, A, m, c, HE, HH, HF, hmc, hm⟩⟩ := hrel
    · have cS : wr.cell? ad = some (.string t) := (HB.out.cell (World.block_lt_of_cell? w _ HR.out)).trans HR.out
      have HTr := Aside0.mk (M.stab_below HT.out HB.out (M.stab_lt HT.out))
      have h1g : 1 < g := Nat.lt_of_lt_of_le (M.stab_lt HT.out) HGL.out
      go_wp2_with (first | (go_at_call 63; (with_reducible refine (sha_Hash_Put.calls g 0x6a09e667 0xbb67ae85 0x3c6ef372 0xa54ff53a 0x510e527f 0x9b05688c 0x1f83d9ab 0x5be0cd19 t _ HH.out HTr.out h1g (by decide) hs).mono ?_); rintro e w2 ⟨rfl, y0, y1, y2, y3, y4, y5, y6, y7, A, m, c, hE, hh2, hf2, hmc, hm, hb2⟩; have HE := Aside0.mk hE; have HH2 := Aside0.mk hh2; have HF2 := Aside0.mk hf2; have HB2 := Aside0.mk (HB.out.trans (hb2.mono HGL.out)); clear hE hh2 hf2 hb2))
      go_roundw
      case rel => exact ⟨HB2, .inr ⟨rfl, y0, y1, y2, y3, y4, y5, y6, y7, A, m, c, ⟨HE.out⟩, HH2, HF2, hmc, hm⟩⟩
      case measure => simp [intOf]
    · have HTr := Aside0.mk (M.stab_below HT.out HB.out (M.stab_lt HT.out))
      have HYL := Aside0.mk (show ∀ x ∈ [y0, y1, y2, y3, y4, y5, y6, y7], x < 4294967296 from by
        rw [← HE.out]
        cases h : t.size / 64 with
        | zero => exact (by decide : ∀ x ∈ M.shaH, x < 4294967296)
        | succ k => exact sha_Hash_Put.lt _ _)
      have hrd : ReadsInt wr .u8 A m (sha_Hash_Sum.ns ((M.bs t).drop (64 * (t.size / 64)))) := M.foot_now HF.out
      have hm64 : m < 64 := by omega
      go_wp2_with (first | (go_at_call 64; (with_reducible refine (sha_Hash_Sum.calls g y0 y1 y2 y3 y4 y5 y6 y7 m c t.size A ((M.bs t).drop (64 * (t.size / 64))) _ HH.out HTr.out HYL.out hrd hmc hm64 hs).mono ?_); rintro e w2 ⟨rfl, hb2⟩))
      go_ret
      refine ⟨?_, below_step HB.out hb2⟩
      rw [← HE.out]
      rfl
theorem sha_Sum.lit (t : ByteArray) (w : World) (hT : M.stab w) (hs : t.size ≤ 1000000000000) :
    Calls Tryd.prog 47 #[.slice (some ⟨w.heap.size, 0, none⟩) 1 1] (w.alloc (.cells #[.string t] 9)) fun e w' => e = .returned (.string (M.shaSum t)) ∧ Below w.heap.size w w' := by
  refine (sha_Sum.calls ⟨w.heap.size, 0, none⟩ 1 t _ (M.stab_below hT (below_alloc (Below.refl w.heap.size w) _) (M.stab_lt hT)) (M.blk_cell (heap_alloc_new w _) 0 _ rfl) (Nat.le_refl _) hs).mono ?_
  rintro e w' ⟨rfl, hb⟩
  exact ⟨rfl, below_step (below_alloc (Below.refl w.heap.size w) _) hb⟩

/-! ### shelf_Shelf_Put: function 23 -/
section
variable {P : Program} {ops : Array Oper} {o : Oper} {a : Act} {Q : Exit → Act → World → Prop} {Kc : Act → World → Prop}
theorem shelf_Shelf_Put.app {w0 W : World} (base : Nat) (hw : Region.wanted o (yielded ops a.tmps) = true) (s x : Operand) (ho : o.op = .call { callee := .builtin .append, args := #[s, x], argTypes := #[22, 22] })
    (ht : P.underlying 22 = some (.slice 9)) (z : Value) (bytes : Nat) (hinfo : (P.info? 9).map (fun i => (i.zero, i.size, i.bytes)) = some (some z, 1, bytes)) (hz : z.cells.size = 1) (hb0 : 0 < bytes)
    (v : Value) (xs : List ByteArray) (y : ByteArray) (b : Nat) (hs : a.eval s = v) (hx : a.eval x = .slice (some ⟨b, 0, none⟩) 1 1) (HO : W.ownsRow base 9 1 v xs.length (xs.map .string)) (hy : W.cell? ⟨b, 0, none⟩ = some (.string y))
    (HB : Below base w0 W) (hbase : base ≤ W.heap.size) (hl : (xs.length + 1) * bytes ≤ 140737488355328)
    (h : ∀ v1 w1, w1.ownsRow base 9 1 v1 (xs.length + 1) ((xs ++ [y]).map .string) → Below base w0 w1 → W.grownBy w1 v.ownBlock → (v1.ownBlock = v.ownBlock ∨ ∃ b, v1.ownBlock = some b ∧ W.heap.size ≤ b) → Kc (a.put o.dst v1) w1) :
    if Region.wanted o (yielded ops a.tmps) = true then Oper.wp P o a W Kc Q else Kc (a.put o.dst undef) W := by
  refine Kd.R_append_rows_step Kd.string (Rr := fun x cs => cs = [.string x]) (okp := fun _ => False) (ok := fun _ => True) base hw s x 22 9 z bytes ho ht hinfo hz (by decide) hb0 v xs [y] (some ⟨b, 0, none⟩) 1 1 hs hx (Kd.R_of_own HO (fun _ _ => trivial)) ⟨rfl, by decide, fun _ => ⟨_, rfl, fun j p hp => ?_⟩⟩ (fun _ _ e => e) (fun _ h => h.elim) (fun _ _ => trivial) HB hbase hl ?_
  · have hj : j = 0 := by have := (List.getElem?_eq_some_iff.1 hp).1; simpa using this
    subst hj
    obtain rfl : y = p := by simpa using hp
    refine ⟨[.string y], rfl, rfl, fun i u hu => ?_⟩
    have hi : i = 0 := by have := (List.getElem?_eq_some_iff.1 hu).1; simpa using this
    subst hi
    obtain rfl : Value.string y = u := by simpa using hu
    rw [Nat.zero_mul, Nat.zero_add, add_plain]
    exact hy
  · intro v1 w1 hR hB hg hat
    have := Kd.own_of_R hR
    rw [List.length_append] at this
    exact h v1 w1 this hB hg hat
end
set_option maxHeartbeats 8000000 in
set_option maxRecDepth 100000 in
theorem shelf_Shelf_Put.empty (base g B : Nat) (D : DataW Unit) (vt vn : Value) (ts : List ByteArray) (a b : ByteArray) (w : World) (hS : M.shelf Tryd.prog base w g B D vt vn ts a b) :
    Calls Tryd.prog 23 #[.pointer (some ⟨g, 0, none⟩), .string ByteArray.empty] w fun e w' => e = .returned (.tuple #[.string ByteArray.empty, .int .i64 2]) ∧ w = w' := by
  have HS := Aside0.mk hS
  have hd : (ByteArray.empty : ByteArray).toList.isEmpty = true := by decide +kernel
  clear hS
  go_enter Tryd.func23, Tryd.ntmps23
  go_wp2_with (first | (go_at_call 44; (with_reducible refine (shelf_Shelf_there.calls base g B D vt vn ts a b _ HS.out).mono ?_); rintro e w1 ⟨rfl, rfl⟩))
  exact bodyPost_ret (v := .tuple #[.string ByteArray.empty, .int .i64 2]) (by simp [results, Tryd.results23, go_sem]; rfl) rfl ⟨rfl, rfl⟩
set_option maxHeartbeats 8000000 in
set_option maxRecDepth 100000 in
theorem shelf_Shelf_Put.long (base g B : Nat) (D : DataW Unit) (vt vn : Value) (ts : List ByteArray) (a b t : ByteArray) (w : World) (hS : M.shelf Tryd.prog base w g B D vt vn ts a b) (ht : 65536 < t.size) (hz : t.size ≤ 1000000000000) :
    Calls Tryd.prog 23 #[.pointer (some ⟨g, 0, none⟩), .string t] w fun e w' => e = .returned (.tuple #[.string ByteArray.empty, .int .i64 5]) ∧ w = w' := by
  have HS := Aside0.mk hS
  have hd : t.toList.isEmpty = false := M.nonempty (fun e => by rw [e] at ht; exact absurd ht (by decide))
  have hdd : decide ((65536 : Int) < (t.size : Int)) = true := decide_eq_true (by omega)
  clear hS
  go_enter Tryd.func23, Tryd.ntmps23
  go_wp2_with (first | (go_at_call 44; (with_reducible refine (shelf_Shelf_there.calls base g B D vt vn ts a b _ HS.out).mono ?_); rintro e w1 ⟨rfl, rfl⟩))
  exact bodyPost_ret (v := .tuple #[.string ByteArray.empty, .int .i64 5]) (by simp [results, Tryd.results23, go_sem]; rfl) rfl ⟨rfl, rfl⟩
set_option maxHeartbeats 8000000 in
set_option maxRecDepth 100000 in
theorem shelf_Shelf_Put.met (base g B : Nat) (D : DataW Unit) (vt vn : Value) (ts : List ByteArray) (a b t : ByteArray) (i : Nat) (w : World) (hS : M.shelf Tryd.prog base w g B D vt vn ts a b) (hT : M.stab w) (h0 : t ≠ ByteArray.empty) (hl : t.size ≤ 65536) (hn : M.idx (ts.map M.shaSum) (M.shaSum t).data.toList = some i) (he : ts.getD i ByteArray.empty = t) :
    Calls Tryd.prog 23 #[.pointer (some ⟨g, 0, none⟩), .string t] w fun e w' => e = .returned (.tuple #[.string (M.shaSum t), .int .i64 0]) ∧ M.shelf Tryd.prog base w' g B D vt vn ts a b ∧ Below w.heap.size w w' := by
  have hz : t.size ≤ 1000000000000 := by omega
  have hi : i < ts.length := by have := (M.idx_lt hn).1; simpa using this
  obtain ⟨gt, cap, rfl, _, _⟩ := hS.rt.form (by omega)
  have hd : t.toList.isEmpty = false := M.nonempty h0
  have hdd : decide ((65536 : Int) < (t.size : Int)) = false := decide_eq_false (by omega)
  have hKEY := Go.WideMaps.keyOf_string_mk Tryd.underlying9 (show (M.shaSum t).size ≤ maxLen from by have := M.shaSum_size t; unfold maxLen; omega)
  have h1 := (hS.says (M.shaSum t).data.toList).1
  have h2 := (hS.says (M.shaSum t).data.toList).2
  rw [hn] at h1 h2
  have HS := Aside0.mk hS
  have HT1 := Aside0.mk (M.stab_below hT (below_alloc (Below.refl w.heap.size w) (.cells #[.string t] 9)) (M.stab_lt hT))
  have HC1 := Aside0.mk (show (w.alloc (.cells #[.string t] 9)).cell? ⟨w.heap.size, 0, none⟩ = some (.string t) from M.blk_cell (heap_alloc_new w _) 0 _ rfl)
  have g0 : (0 : Int) ≤ (i : Int) := by omega
  have g1 : (i : Int) < (ts.length : Int) := by omega
  obtain ⟨x, hx⟩ : ∃ x, x = ts.getD i ByteArray.empty := ⟨_, rfl⟩
  have HX := Aside0.mk hx.symm
  obtain rfl : x = t := hx.trans he
  clear hS hT he hn hx
  go_enter Tryd.func23, Tryd.ntmps23
  go_wp2_with (first | (go_at_call 44; (with_reducible refine (shelf_Shelf_there.calls base g B D _ vn ts a b _ HS.out).mono ?_); rintro e w1 ⟨rfl, rfl⟩) | (go_at_call 47; (with_reducible refine (sha_Sum.calls ⟨w.heap.size, 0, none⟩ 1 x _ HT1.out HC1.out (Nat.le_refl _) hz).mono ?_); rintro e w2 ⟨rfl, hb2⟩; have HB2 := Aside0.mk (below_step (below_alloc (Below.refl w.heap.size w) _) hb2); have HS2 := Aside0.mk (M.shelf_below HS.out HB2.out); have d0 : w2.cell? ⟨g, 0, none⟩ = some (.map (some B)) := M.blk_cell HS2.out.blk 0 _ rfl; have hown2 := HS2.out.map; have d1 : w2.cell? ⟨g, 1, none⟩ = some (.slice (some ⟨gt, 0, none⟩) ts.length cap) := M.blk_cell HS2.out.blk 1 _ rfl; have di : w2.cell? ⟨gt, i, none⟩ = some (.string x) := M.row_cell HS2.out.rt i x hi HX.out; clear hb2) | (at_lookup; refine wpList_lookup_own_ok_int _ rfl _ _ 78 rfl 9 3 .i64 shelf_Shelf_there.law Tryd.underlying78 Tryd.underlying3 (shelf_Shelf_there.zero_ _) B ts.length D rfl hown2 _ _ rfl hKEY ?_; intro c hat hwc; obtain rfl : c = (i : Int) := by (rw [h2] at hat; simpa using hat.symm)))
  exact bodyPost_ret (v := .tuple #[.string (M.shaSum x), .int .i64 0]) (by simp [results, Tryd.results23, go_sem]) rfl ⟨rfl, HS2.out, HB2.out⟩
set_option maxHeartbeats 8000000 in
set_option maxRecDepth 100000 in
theorem shelf_Shelf_Put.clash1 (base g B : Nat) (D : DataW Unit) (vt vn : Value) (ts : List ByteArray) (a b t : ByteArray) (i : Nat) (w : World) (hS : M.shelf Tryd.prog base w g B D vt vn ts a b) (hT : M.stab w) (h0 : t ≠ ByteArray.empty) (hl : t.size ≤ 65536) (hn : M.idx (ts.map M.shaSum) (M.shaSum t).data.toList = some i) (he : ts.getD i ByteArray.empty ≠ t) (ha : a = ByteArray.empty) :
    Calls Tryd.prog 23 #[.pointer (some ⟨g, 0, none⟩), .string t] w fun e w' => e = .returned (.tuple #[.string ByteArray.empty, .int .i64 15]) ∧ M.shelf Tryd.prog base w' g B D vt vn ts (ts.getD i ByteArray.empty) t ∧ Below base w w' ∧ Kept w w' (M.feet g B vt vn) := by
  subst ha
  have had : (ByteArray.empty : ByteArray).toList.isEmpty = true := by decide +kernel
  have hz : t.size ≤ 1000000000000 := by omega
  have hi : i < ts.length := by have := (M.idx_lt hn).1; simpa using this
  obtain ⟨gt, cap, rfl, _, _⟩ := hS.rt.form (by omega)
  have hd : t.toList.isEmpty = false := M.nonempty h0
  have hdd : decide ((65536 : Int) < (t.size : Int)) = false := decide_eq_false (by omega)
  have hKEY := Go.WideMaps.keyOf_string_mk Tryd.underlying9 (show (M.shaSum t).size ≤ maxLen from by have := M.shaSum_size t; unfold maxLen; omega)
  have h1 := (hS.says (M.shaSum t).data.toList).1
  have h2 := (hS.says (M.shaSum t).data.toList).2
  rw [hn] at h1 h2
  have HS := Aside0.mk hS
  have HBS := Aside0.mk (show base ≤ w.heap.size from Nat.le_of_lt (Nat.lt_of_le_of_lt hS.gb (M.lt_blk hS.blk)))
  have HT1 := Aside0.mk (M.stab_below hT (below_alloc (Below.refl w.heap.size w) (.cells #[.string t] 9)) (M.stab_lt hT))
  have HC1 := Aside0.mk (show (w.alloc (.cells #[.string t] 9)).cell? ⟨w.heap.size, 0, none⟩ = some (.string t) from M.blk_cell (heap_alloc_new w _) 0 _ rfl)
  have g0 : (0 : Int) ≤ (i : Int) := by omega
  have g1 : (i : Int) < (ts.length : Int) := by omega
  obtain ⟨x, hx⟩ : ∃ x, x = ts.getD i ByteArray.empty := ⟨_, rfl⟩
  have HX := Aside0.mk hx.symm
  have hxt : x ≠ t := fun e => he (hx.symm.trans e)
  have hxd : (x.toList == t.toList) = false := by simpa using M.unlike hxt
  clear hS hT he hn hx
  go_enter Tryd.func23, Tryd.ntmps23
  go_wp2_with (first | (go_at_call 44; (with_reducible refine (shelf_Shelf_there.calls base g B D _ vn ts ByteArray.empty b _ HS.out).mono ?_); rintro e w1 ⟨rfl, rfl⟩) | (go_at_call 47; (with_reducible refine (sha_Sum.calls ⟨w.heap.size, 0, none⟩ 1 t _ HT1.out HC1.out (Nat.le_refl _) hz).mono ?_); rintro e w2 ⟨rfl, hb2⟩; have HB2 := Aside0.mk (below_step (below_alloc (Below.refl w.heap.size w) _) hb2); have HS2 := Aside0.mk (M.shelf_below HS.out HB2.out); have d0 : w2.cell? ⟨g, 0, none⟩ = some (.map (some B)) := M.blk_cell HS2.out.blk 0 _ rfl; have hown2 := HS2.out.map; have d1 : w2.cell? ⟨g, 1, none⟩ = some (.slice (some ⟨gt, 0, none⟩) ts.length cap) := M.blk_cell HS2.out.blk 1 _ rfl; have d3 : w2.cell? ⟨g, 3, none⟩ = some (.string ByteArray.empty) := M.blk_cell HS2.out.blk 3 _ rfl; have f3 := M.blk_free HS2.out.blk 3; have f4 := M.blk_free HS2.out.blk 4; have d4 : w2.cell? ⟨g, 4, none⟩ = some (.string b) := M.blk_cell HS2.out.blk 4 _ rfl; have di : w2.cell? ⟨gt, i, none⟩ = some (.string x) := M.row_cell HS2.out.rt i x hi HX.out; clear hb2) | (at_lookup; refine wpList_lookup_own_ok_int _ rfl _ _ 78 rfl 9 3 .i64 shelf_Shelf_there.law Tryd.underlying78 Tryd.underlying3 (shelf_Shelf_there.zero_ _) B ts.length D rfl hown2 _ _ rfl hKEY ?_; intro c hat hwc; obtain rfl : c = (i : Int) := by (rw [h2] at hat; simpa using hat.symm)))
  exact bodyPost_ret (v := .tuple #[.string ByteArray.empty, .int .i64 15]) (by simp [results, Tryd.results23, go_sem]; rfl) rfl ⟨rfl, by rw [HX.out]; exact M.shelf_clash HS2.out x t, ((HB2.out.mono HBS.out).setCell (p := ⟨g, 3, none⟩) HS2.out.gb _).setCell (p := ⟨g, 4, none⟩) HS2.out.gb _, ((Kept.of_below HB2.out (M.feet g B (.slice (some ⟨gt, 0, none⟩) ts.length cap) vn)).setCell (p := ⟨g, 3, none⟩) (.inl (.inl rfl)) _).setCell (p := ⟨g, 4, none⟩) (.inl (.inl rfl)) _⟩
set_option maxHeartbeats 8000000 in
set_option maxRecDepth 100000 in
theorem shelf_Shelf_Put.clash2 (base g B : Nat) (D : DataW Unit) (vt vn : Value) (ts : List ByteArray) (a b t : ByteArray) (i : Nat) (w : World) (hS : M.shelf Tryd.prog base w g B D vt vn ts a b) (hT : M.stab w) (h0 : t ≠ ByteArray.empty) (hl : t.size ≤ 65536) (hn : M.idx (ts.map M.shaSum) (M.shaSum t).data.toList = some i) (he : ts.getD i ByteArray.empty ≠ t) (ha : a ≠ ByteArray.empty) :
    Calls Tryd.prog 23 #[.pointer (some ⟨g, 0, none⟩), .string t] w fun e w' => e = .returned (.tuple #[.string ByteArray.empty, .int .i64 15]) ∧ M.shelf Tryd.prog base w' g B D vt vn ts a b ∧ Below w.heap.size w w' := by
  have had := M.nonempty ha
  have hz : t.size ≤ 1000000000000 := by omega
  have hi : i < ts.length := by have := (M.idx_lt hn).1; simpa using this
  obtain ⟨gt, cap, rfl, _, _⟩ := hS.rt.form (by omega)
  have hd : t.toList.isEmpty = false := M.nonempty h0
  have hdd : decide ((65536 : Int) < (t.size : Int)) = false := decide_eq_false (by omega)
  have hKEY := Go.WideMaps.keyOf_string_mk Tryd.underlying9 (show (M.shaSum t).size ≤ maxLen from by have := M.shaSum_size t; unfold maxLen; omega)
  have h1 := (hS.says (M.shaSum t).data.toList).1
  have h2 := (hS.says (M.shaSum t).data.toList).2
  rw [hn] at h1 h2
  have HS := Aside0.mk hS
  have HT1 := Aside0.mk (M.stab_below hT (below_alloc (Below.refl w.heap.size w) (.cells #[.string t] 9)) (M.stab_lt hT))
  have HC1 := Aside0.mk (show (w.alloc (.cells #[.string t] 9)).cell? ⟨w.heap.size, 0, none⟩ = some (.string t) from M.blk_cell (heap_alloc_new w _) 0 _ rfl)
  have g0 : (0 : Int) ≤ (i : Int) := by omega
  have g1 : (i : Int) < (ts.length : Int) := by omega
  obtain ⟨x, hx⟩ : ∃ x, x = ts.getD i ByteArray.empty := ⟨_, rfl⟩
  have HX := Aside0.mk hx.symm
  have hxt : x ≠ t := fun e => he (hx.symm.trans e)
  have hxd : (x.toList == t.toList) = false := by simpa using M.unlike hxt
  clear hS hT he hn hx
  go_enter Tryd.func23, Tryd.ntmps23
  go_wp2_with (first | (go_at_call 44; (with_reducible refine (shelf_Shelf_there.calls base g B D _ vn ts a b _ HS.out).mono ?_); rintro e w1 ⟨rfl, rfl⟩) | (go_at_call 47; (with_reducible refine (sha_Sum.calls ⟨w.heap.size, 0, none⟩ 1 t _ HT1.out HC1.out (Nat.le_refl _) hz).mono ?_); rintro e w2 ⟨rfl, hb2⟩; have HB2 := Aside0.mk (below_step (below_alloc (Below.refl w.heap.size w) _) hb2); have HS2 := Aside0.mk (M.shelf_below HS.out HB2.out); have d0 : w2.cell? ⟨g, 0, none⟩ = some (.map (some B)) := M.blk_cell HS2.out.blk 0 _ rfl; have hown2 := HS2.out.map; have d1 : w2.cell? ⟨g, 1, none⟩ = some (.slice (some ⟨gt, 0, none⟩) ts.length cap) := M.blk_cell HS2.out.blk 1 _ rfl; have d3 : w2.cell? ⟨g, 3, none⟩ = some (.string a) := M.blk_cell HS2.out.blk 3 _ rfl; have f3 := M.blk_free HS2.out.blk 3; have f4 := M.blk_free HS2.out.blk 4; have d4 : w2.cell? ⟨g, 4, none⟩ = some (.string b) := M.blk_cell HS2.out.blk 4 _ rfl; have di : w2.cell? ⟨gt, i, none⟩ = some (.string x) := M.row_cell HS2.out.rt i x hi HX.out; clear hb2) | (at_lookup; refine wpList_lookup_own_ok_int _ rfl _ _ 78 rfl 9 3 .i64 shelf_Shelf_there.law Tryd.underlying78 Tryd.underlying3 (shelf_Shelf_there.zero_ _) B ts.length D rfl hown2 _ _ rfl hKEY ?_; intro c hat hwc; obtain rfl : c = (i : Int) := by (rw [h2] at hat; simpa using hat.symm)))
  exact bodyPost_ret (v := .tuple #[.string ByteArray.empty, .int .i64 15]) (by simp [results, Tryd.results23, go_sem]; rfl) rfl ⟨rfl, HS2.out, HB2.out⟩
theorem shelf_Shelf_Put.i9 : (Tryd.prog.info? 9).map (fun i => (i.zero, i.size, i.bytes)) = some (some (.string ByteArray.empty), 1, 16) := by kernel_rfl
set_option maxHeartbeats 8000000 in
set_option maxRecDepth 100000 in
theorem shelf_Shelf_Put.new (base g B : Nat) (D : DataW Unit) (vt vn : Value) (ts : List ByteArray) (a b t : ByteArray) (w : World) (hS : M.shelf Tryd.prog base w g B D vt vn ts a b) (hT : M.stab w) (h0 : t ≠ ByteArray.empty) (hl : t.size ≤ 65536) (hts : ts.length ≤ 1000000000) (hn : M.idx (ts.map M.shaSum) (M.shaSum t).data.toList = none) :
    Calls Tryd.prog 23 #[.pointer (some ⟨g, 0, none⟩), .string t] w fun e w' => e = .returned (.tuple #[.string (M.shaSum t), .int .i64 0]) ∧ ∃ D' vt' vn', M.shelf Tryd.prog base w' g B D' vt' vn' (ts ++ [t]) a b ∧ Below base w w' ∧ Kept w w' (M.feet g B vt vn) ∧ ∀ k, M.feet g B vt' vn' k → M.feet g B vt vn k ∨ w.heap.size ≤ k := by
  have hz : t.size ≤ 1000000000000 := by omega
  obtain ⟨At, ct, rfl⟩ := own_slice hS.rt
  obtain ⟨An, cn, rfl⟩ := own_slice hS.rn
  have hd : t.toList.isEmpty = false := M.nonempty h0
  have hdd : decide ((65536 : Int) < (t.size : Int)) = false := decide_eq_false (by omega)
  have hKEY := Go.WideMaps.keyOf_string_mk Tryd.underlying9 (show (M.shaSum t).size ≤ maxLen from by have := M.shaSum_size t; unfold maxLen; omega)
  have h1 := (hS.says (M.shaSum t).data.toList).1
  rw [hn] at h1
  have HS := Aside0.mk hS
  have HSay := Aside0.mk (M.told_new hS.says hS.map.isMap (M.shaSum t) hn)
  have HBS := Aside0.mk (show base ≤ w.heap.size from Nat.le_of_lt (Nat.lt_of_le_of_lt hS.gb (M.lt_blk hS.blk)))
  have HT1 := Aside0.mk (M.stab_below hT (below_alloc (Below.refl w.heap.size w) (.cells #[.string t] 9)) (M.stab_lt hT))
  have HC1 := Aside0.mk (show (w.alloc (.cells #[.string t] 9)).cell? ⟨w.heap.size, 0, none⟩ = some (.string t) from M.blk_cell (heap_alloc_new w _) 0 _ rfl)
  clear hS hT hn
  go_enter Tryd.func23, Tryd.ntmps23
  go_wp2_with (first | (go_at_call 44; (with_reducible refine (shelf_Shelf_there.calls base g B D _ _ ts a b _ HS.out).mono ?_); rintro e w1 ⟨rfl, rfl⟩) | (go_at_call 47; (with_reducible refine (sha_Sum.calls ⟨w.heap.size, 0, none⟩ 1 t _ HT1.out HC1.out (Nat.le_refl _) hz).mono ?_); rintro e w2 ⟨rfl, hb2⟩; have HB2 := Aside0.mk (below_step (below_alloc (Below.refl w.heap.size w) _) hb2); have HS2 := Aside0.mk (M.shelf_below HS.out HB2.out); have d0 : w2.cell? ⟨g, 0, none⟩ = some (.map (some B)) := M.blk_cell HS2.out.blk 0 _ rfl; have d1 : w2.cell? ⟨g, 1, none⟩ = some (.slice At ts.length ct) := M.blk_cell HS2.out.blk 1 _ rfl; have hown2 := HS2.out.map; clear hb2) | (at_lookup; refine wpList_lookup_own_ok_int _ rfl _ _ 78 rfl 9 3 .i64 shelf_Shelf_there.law Tryd.underlying78 Tryd.underlying3 (shelf_Shelf_there.zero_ _) B ts.length D rfl hown2 _ _ rfl hKEY ?_; intro c hat hwc))
  obtain ⟨w3, hrun, hown3, hgr3⟩ := (World.ownsMap.drew hown2).update (t := 78) (e := 3) shelf_Shelf_there.law Tryd.underlying78 (by unfold maxLen; omega) hKEY (plainElem_int (q := .i64) Tryd.underlying3 (WalkArith.wf_i64 (show -9223372036854775808 ≤ (ts.length : Int) ∧ (ts.length : Int) ≤ 9223372036854775807 by omega)))
  have hblk3 : w3.heap[g]? = some (.cells #[.map (some B), .slice At ts.length ct, .slice An ts.length cn, .string a, .string b] 81 (0, 0)) := (hgr3.block g (M.lt_blk HS2.out.blk) (fun e => HS2.out.gB (by injection e))).trans HS2.out.blk
  have HK3 := Aside0.mk hblk3
  have HM3 := Aside0.mk hown3
  have HR3 := Aside0.mk (M.row_keep (show w2.drew.ownsRow base 9 1 (.slice At ts.length ct) ts.length (ts.map .string) from HS2.out.rt) hgr3 (.inr HS2.out.tB))
  have HN3 := Aside0.mk (M.row_keep (show w2.drew.ownsRow base 9 1 (.slice An ts.length cn) ts.length ((ts.map M.shaSum).map .string) from HS2.out.rn) hgr3 (.inr HS2.out.nB))
  have HB3 := Aside0.mk ((below_drew1 (HB2.out.mono HBS.out)).grown hgr3 (show base ≤ w2.drew.heap.size from Nat.le_trans HBS.out HB2.out.size) (fun k hk => by injection hk with hk; rw [← hk]; exact HS2.out.bb))
  have HQ3 := Aside0.mk (Kept.of_grown (S := M.feet g B (.slice At ts.length ct) (.slice An ts.length cn)) hgr3 (Kept.drew (Kept.of_below HB2.out _)) (fun k hk => .inl (.inr (.inl (by injection hk with hk; exact hk.symm)))))
  have e1 : w3.cell? ⟨g, 1, none⟩ = some (.slice At ts.length ct) := M.blk_cell hblk3 1 _ rfl
  have e2 : w3.cell? ⟨g, 2, none⟩ = some (.slice An ts.length cn) := M.blk_cell hblk3 2 _ rfl
  have HW3 := Aside0.mk (show w2.heap.size ≤ w3.heap.size from hgr3.size)
  have HGL3 := Aside0.mk (M.lt_blk hblk3)
  have e1a : ∀ o : Obj, (w3.alloc o).cell? ⟨g, 1, none⟩ = some (.slice At ts.length ct) := fun o => (World.cell?_of_block (a := ⟨g, 1, none⟩) (Below.heap_alloc w3 o g HGL3.out)).trans e1
  have e1b : ∀ o o2 : Obj, ((w3.alloc o).alloc o2).cell? ⟨g, 1, none⟩ = some (.slice At ts.length ct) := fun o o2 => (World.cell?_of_block (a := ⟨g, 1, none⟩) (Below.heap_alloc (w3.alloc o) o2 g (by have := HGL3.out; simp; omega))).trans (e1a o)
  have e2a : ∀ o : Obj, (w3.alloc o).cell? ⟨g, 2, none⟩ = some (.slice An ts.length cn) := fun o => (World.cell?_of_block (a := ⟨g, 2, none⟩) (Below.heap_alloc w3 o g HGL3.out)).trans e2
  have e2b : ∀ o o2 : Obj, ((w3.alloc o).alloc o2).cell? ⟨g, 2, none⟩ = some (.slice An ts.length cn) := fun o o2 => (World.cell?_of_block (a := ⟨g, 2, none⟩) (Below.heap_alloc (w3.alloc o) o2 g (by have := HGL3.out; simp; omega))).trans (e2a o)
  clear hown3 hgr3 hblk3 hown2
  go_region
  all_goals
    clear d0 d1 hrun
    go_wp2
    have HB4s := Aside0.mk (show base ≤ w3.heap.size from Nat.le_trans (Nat.le_trans HBS.out HB2.out.size) HW3.out)
    go_region_law (first | (refine shelf_Shelf_Put.app (w0 := w) base (by rfl) (.tmp 81) (.tmp 83) rfl Tryd.underlying22 _ _ shelf_Shelf_Put.i9 rfl (by decide) (.slice At ts.length ct) ts t _ (by rfl) (by rfl) (M.row_below HR3.out (by repeat (first | exact Below.refl _ _ | refine below_drew1 ?_ | refine below_alloc ?_ _))) (by first | exact M.blk_cell (heap_alloc_new _ _) 0 _ rfl | go_simp) (below_then HB3.out HB4s.out (by repeat (first | exact Below.refl _ _ | refine below_drew1 ?_ | refine below_alloc ?_ _))) (Nat.le_trans HB4s.out (Below.size (B := w3.heap.size) (w := w3) (by repeat (first | exact Below.refl _ _ | refine below_drew1 ?_ | refine below_alloc ?_ _)))) (by omega) ?_; intro v1 w4 hown4 hb4 hg4 hat4; obtain ⟨A4, c4, rfl⟩ := own_slice hown4; have hgw := M.grown_from (w3 := w3) hg4 (by repeat (first | exact Below.refl _ _ | refine below_drew1 ?_ | refine below_alloc ?_ _)); have hblk4 := (hgw.block g HGL3.out HS2.out.tg.symm).trans HK3.out; have f1_ : w4.cell? ⟨g, 1, none⟩ = some (.slice At ts.length ct) := M.blk_cell hblk4 1 _ rfl; have f2_ : w4.cell? ⟨g, 2, none⟩ = some (.slice An ts.length cn) := M.blk_cell hblk4 2 _ rfl; have f2a : ∀ o : Obj, (w4.alloc o).cell? ⟨g, 2, none⟩ = some (.slice An ts.length cn) := fun o => (World.cell?_of_block (a := ⟨g, 2, none⟩) (Below.heap_alloc w4 o g (M.lt_blk hblk4))).trans f2_; have f1f := M.blk_free hblk4 1; have f2f := M.blk_free hblk4 2; have HG4 := Aside0.mk hgw; have HGW4 := Aside0.mk hg4; have HO4 := Aside0.mk hown4; have HB4 := Aside0.mk hb4; have HA4 := Aside0.mk hat4; clear hown4 hb4 hg4 hat4 hgw hblk4) | (refine shelf_Shelf_Put.app (w0 := w) base (by rfl) (.tmp 88) (.tmp 90) rfl Tryd.underlying22 _ _ shelf_Shelf_Put.i9 rfl (by decide) (.slice An ts.length cn) (ts.map M.shaSum) (M.shaSum t) _ (by rfl) (by rfl) (by rw [List.length_map]; exact M.row_below (M.row_keep HN3.out HG4.out (M.sep HS2.out.tn)) (by repeat (first | exact Below.refl _ _ | refine below_drew1 ?_ | refine below_alloc ?_ _))) (by first | exact M.blk_cell (heap_alloc_new _ _) 0 _ rfl | (refine (World.cell?_of_block (HGW4.out.block _ (by first | (simp; done) | (simp; omega)) (fun e => Nat.lt_irrefl _ (Nat.lt_of_lt_of_le (M.row_lt HR3.out _ e.symm) (by first | (simp; done) | (simp; omega)))))).trans ?_; go_simp; done) | (refine (World.cell?_of_block (HGW4.out.block _ (by simp) (fun e => by have := M.row_lt HR3.out _ e.symm; simp at this; omega))).trans ?_; go_simp; done)) (below_then HB4.out (Nat.le_trans HB4s.out HG4.out.size) (by repeat (first | exact Below.refl _ _ | refine below_drew1 ?_ | refine below_alloc ?_ _))) (Nat.le_trans (Nat.le_trans HB4s.out HG4.out.size) (Below.size (B := w4.heap.size) (w := w4) (by repeat (first | exact Below.refl _ _ | refine below_drew1 ?_ | refine below_alloc ?_ _)))) (by simp; omega) ?_; intro v2 w5 hown5 hb5 hg5 hat5; obtain ⟨A5, c5, rfl⟩ := own_slice hown5; have hgw5 := M.grown_from (w3 := w4) hg5 (by repeat (first | exact Below.refl _ _ | refine below_drew1 ?_ | refine below_alloc ?_ _)); have hblk5 := (hgw5.block g (Nat.lt_of_lt_of_le HGL3.out HG4.out.size) HS2.out.ng.symm).trans ((HG4.out.block g HGL3.out HS2.out.tg.symm).trans HK3.out); have j1_ : w5.cell? ⟨g, 1, none⟩ = some (.slice At ts.length ct) := M.blk_cell hblk5 1 _ rfl; have j2_ : w5.cell? ⟨g, 2, none⟩ = some (.slice An ts.length cn) := M.blk_cell hblk5 2 _ rfl; have j1f := M.blk_free hblk5 1; have j2f := M.blk_free hblk5 2; have HK5 := Aside0.mk hblk5; have HG5 := Aside0.mk hgw5; have HO5 := Aside0.mk hown5; have HB5 := Aside0.mk hb5; have HA5 := Aside0.mk hat5; clear hown5 hb5 hg5 hat5 hgw5 hblk5))
    all_goals
      have ho5 := HO5.out
      have ha5 := HA5.out
      rw [List.length_map] at ho5 ha5
      have hE := Aside0.mk (M.shelf_end HS2.out HW3.out HM3.out (by simpa using HSay.out) HG4.out HO4.out HA4.out (by first | (simp; done) | (simp; omega)) HG5.out ho5 ha5 (by first | (simp; done) | (simp; omega)) HK5.out HQ3.out)
      have hbe := Aside0.mk ((HB5.out.setCell (p := ⟨g, 1, none⟩) HS2.out.gb (.slice A4 (ts.length + 1) c4)).setCell (p := ⟨g, 2, none⟩) HS2.out.gb (.slice A5 (ts.length + 1) c5))
      clear ho5 ha5 e1 e2 e1a e1b e2a e2b f1_ f2_ f2a f1f f2f j1_ j2_ j1f j2f HK5 HG5 HO5 HB5 HA5 HG4 HGW4 HO4 HB4 HA4 HB4s HQ3 HGL3 HW3 HB3 HN3 HR3 HM3 HK3 hat hwc HS2 HB2 HSay h1
      generalize ((w5.setCell ⟨g, 1, none⟩ (.slice A4 (ts.length + 1) c4)).setCell ⟨g, 2, none⟩ (.slice A5 (ts.length + 1) c5)) = w6 at hE hbe ⊢
      go_wp2
      exact bodyPost_ret (v := .tuple #[.string (M.shaSum t), .int .i64 0]) (by simp [results, Tryd.results23, go_sem]) rfl ⟨rfl, _, _, _, hE.out.1, hbe.out, hE.out.2⟩
theorem shelf_Shelf_Put.any (base g : Nat) (F : Nat → Prop) (s : M.SS) (t : ByteArray) (w : World) (hS : M.Sh Tryd.prog base w g F s) (hT : M.stab w) (hz : t.size ≤ 1000000000000) (hts : s.ts.length ≤ 1000000000) :
    Calls Tryd.prog 23 #[.pointer (some ⟨g, 0, none⟩), .string t] w fun e w' => e = .returned (.tuple #[.string (s.put t).1, .int .i64 (s.put t).2.1]) ∧ M.ShTo Tryd.prog base w g F (s.put t).2.2 w' := by
  obtain ⟨B, D, vt, vn, hs, hF, hl⟩ := id hS
  unfold M.SS.put
  by_cases h0 : t = ByteArray.empty
  · subst h0
    rw [if_pos rfl]
    refine (shelf_Shelf_Put.empty base g B D vt vn s.ts s.a s.b w hs).mono ?_
    rintro e w' ⟨rfl, rfl⟩
    exact ⟨rfl, hS.same (Below.refl _ _)⟩
  rw [if_neg h0]
  by_cases h1 : 65536 < t.size
  · rw [if_pos h1]
    refine (shelf_Shelf_Put.long base g B D vt vn s.ts s.a s.b t w hs h1 hz).mono ?_
    rintro e w' ⟨rfl, rfl⟩
    exact ⟨rfl, hS.same (Below.refl _ _)⟩
  rw [if_neg h1]
  cases hi : M.idx (s.ts.map M.shaSum) (M.shaSum t).data.toList with
  | none =>
    refine (shelf_Shelf_Put.new base g B D vt vn s.ts s.a s.b t w hs hT h0 (by omega) hts hi).mono ?_
    rintro e w' ⟨rfl, D', vt', vn', h, hb, hk, hf⟩
    exact ⟨rfl, M.Sh.to_ hs hF hl h hb hk hf⟩
  | some i =>
    simp only
    by_cases he : s.ts.getD i ByteArray.empty = t
    · rw [if_pos he]
      refine (shelf_Shelf_Put.met base g B D vt vn s.ts s.a s.b t i w hs hT h0 (by omega) hi he).mono ?_
      rintro e w' ⟨rfl, h, hb⟩
      exact ⟨rfl, hS.same hb⟩
    · rw [if_neg he]
      by_cases ha : s.a = ByteArray.empty
      · rw [if_pos ha]
        refine (shelf_Shelf_Put.clash1 base g B D vt vn s.ts s.a s.b t i w hs hT h0 (by omega) hi he ha).mono ?_
        rintro e w' ⟨rfl, h, hb, hk⟩
        exact ⟨rfl, M.Sh.to_ hs hF hl h hb hk (fun _ hk => .inl hk)⟩
      · rw [if_neg ha]
        refine (shelf_Shelf_Put.clash2 base g B D vt vn s.ts s.a s.b t i w hs hT h0 (by omega) hi he ha).mono ?_
        rintro e w' ⟨rfl, h, hb⟩
        exact ⟨rfl, hS.same hb⟩

/-! ### pleachlaw35_awake: function 8 -/
def pleachlaw35_awake.f : Option Bool := some true
def pleachlaw35_awake.a : ByteArray := ⟨#[76, 0]⟩
theorem pleachlaw35_awake.ne : pleachlaw35_awake.a ≠ ByteArray.empty := by decide +kernel
theorem pleachlaw35_awake.put1 : M.SS.none_.put pleachlaw35_awake.a = (M.shaSum pleachlaw35_awake.a, 0, ⟨[pleachlaw35_awake.a], ByteArray.empty, ByteArray.empty⟩) := by
  unfold M.SS.put
  rw [if_neg pleachlaw35_awake.ne, if_neg (by decide)]
  rfl
theorem pleachlaw35_awake.get1 : (⟨[pleachlaw35_awake.a], ByteArray.empty, ByteArray.empty⟩ : M.SS).get (M.shaSum pleachlaw35_awake.a) = (pleachlaw35_awake.a, true) := by
  unfold M.SS.get
  have h : M.idx (([pleachlaw35_awake.a] : List ByteArray).map M.shaSum) (M.shaSum pleachlaw35_awake.a).data.toList = some 0 := by
    unfold M.idx
    rw [List.map_cons, List.findIdx?_cons, decide_eq_true rfl]
    rfl
  simp only [h]
  rfl
theorem pleachlaw35_awake.p1 (base g : Nat) (F : Nat → Prop) (s : ByteArray) (hs : M.shaSum ⟨#[76, 0]⟩ = s) (w : World) (hS : M.Sh Tryd.prog base w g F M.SS.none_) (hT : M.stab w) :
    Calls Tryd.prog 23 #[.pointer (some ⟨g, 0, none⟩), .string ⟨#[76, 0]⟩] w fun e w' => e = .returned (.tuple #[.string s, .int .i64 0]) ∧ M.ShTo Tryd.prog base w g F ⟨[⟨#[76, 0]⟩], ByteArray.empty, ByteArray.empty⟩ w' := by
  have h := shelf_Shelf_Put.any base g F M.SS.none_ ⟨#[76, 0]⟩ w hS hT (by decide) (by decide)
  rw [show M.SS.none_.put ⟨#[76, 0]⟩ = _ from pleachlaw35_awake.put1] at h
  rw [← hs]
  exact h
theorem pleachlaw35_awake.l1 (base g : Nat) (F : Nat → Prop) (s : ByteArray) (hs : M.shaSum ⟨#[76, 0]⟩ = s) (w : World) (hS : M.Sh Tryd.prog base w g F ⟨[⟨#[76, 0]⟩], ByteArray.empty, ByteArray.empty⟩) :
    Calls Tryd.prog 20 #[.pointer (some ⟨g, 0, none⟩), .string s] w fun e w' => e = .returned (.tuple #[.agg #[.int .i64 0, .slice none 0 0, .string ⟨#[]⟩, .string ⟨#[]⟩], .int .i64 13]) ∧ Below w.heap.size w w' := by
  refine commit_Load.bad base g F _ s ⟨#[76, 0]⟩ true w hS (by rw [← hs, M.shaSum_size]; decide) (by rw [← hs]; exact pleachlaw35_awake.get1) (.inr ?_)
  decide +kernel
set_option maxHeartbeats 8000000 in
set_option maxRecDepth 100000 in
theorem pleachlaw35_awake.walk (w : World) (hT : M.stab w) : Calls Tryd.prog 8 #[] w fun e w' => e = .returned (.bool true) ∧ Below w.heap.size w w' := by
  have HT := Aside0.mk hT
  obtain ⟨s, hs⟩ : ∃ s, M.shaSum ⟨#[76, 0]⟩ = s := ⟨_, rfl⟩
  have HQ := Aside0.mk hs
  have hlt := Aside0.mk (M.stab_lt hT)
  have hne : s ≠ ByteArray.empty := fun e => by have := M.shaSum_size ⟨#[76, 0]⟩; rw [hs, e] at this; exact absurd this (by decide)
  have hd0 := M.nonempty hne
  clear hT hs hne
  go_enter Tryd.func8, Tryd.ntmps8
  go_wp2_with (first | (go_at_call 15; (with_reducible refine (shelf_New.any _).mono ?_); rintro e w1 ⟨g, F, rfl, hs1, hb1⟩; have HS1 := Aside0.mk hs1; have HB1 := Aside0.mk hb1; have HT1 := Aside0.mk (M.stab_below HT.out hb1 hlt.out); clear hs1 hb1) | (go_at_call 23; (with_reducible refine (pleachlaw35_awake.p1 w.heap.size g F s HQ.out _ HS1.out HT1.out).mono ?_); rintro e w2 ⟨rfl, F2, hs2, hf2, hk2, hb2⟩; have HS2 := Aside0.mk hs2; have HB2 := Aside0.mk (HB1.out.trans hb2); clear HS1 hs2 hf2 hk2 hb2) | (go_at_call 20; (with_reducible refine (pleachlaw35_awake.l1 w.heap.size g F2 s HQ.out _ HS2.out).mono ?_); rintro e w4 ⟨rfl, hb4⟩; have HB4 := Aside0.mk (below_step HB2.out hb4); clear hb4))
  go_ret
  exact ⟨rfl, below_alloc HB4.out _⟩
theorem pleachlaw35_awake.calls (r : Bool) (w : World) (hT : M.stab w) (h : pleachlaw35_awake.f = some r) : Calls Tryd.prog 8 #[] w fun e w' => e = .returned (.bool r) ∧ Below w.heap.size w w' := by
  obtain rfl := Option.some.inj h
  exact pleachlaw35_awake.walk w hT

/-! ### pleachref35_Is_p: function 14 -/
mutual
def pleachref35_Is_p.j0 : Nat → Bool → Int → List ByteArray → ByteArray → ByteArray → Option (Bool)
  | 0, _, _, _, _, _ => none
  | k + 1, x29, zaa, zab, zac, zad => if x29 = true then (some false) else (pleachref35_Is_p.l0 k (zab.length : Int) 0 zaa zab zac zad)
def pleachref35_Is_p.l0 : Nat → Int → Int → Int → List ByteArray → ByteArray → ByteArray → Option (Bool)
  | 0, _, _, _, _, _, _ => none
  | k + 1, x32, x33, zaa, zab, zac, zad => if x33 < x32 then (if 0 ≤ x33 then (if x33 < (zab.length : Int) then (if ((rdOf ByteArray.empty zab x33).size : Int) = 32 then (pleachref35_Is_p.l0 k x32 (wrap64 (x33 + 1)) zaa zab zac zad) else (some false)) else (none)) else (none)) else (if (zab.length : Int) < 2 then (some true) else (if 0 < (zab.length : Int) then (if 1 < (zab.length : Int) then (some ((rdOf ByteArray.empty zab 0).toList != (rdOf ByteArray.empty zab 1).toList)) else (none)) else (none)))
end
def pleachref35_Is_p.f (k : Nat) (a0_0 : Int) (l0_1 : List ByteArray) (a0_2 : ByteArray) (a0_3 : ByteArray) : Option (Bool) := if a0_0 < 1 then (pleachref35_Is_p.j0 k true a0_0 l0_1 a0_2 a0_3) else (if a0_0 > 4294967295 then (pleachref35_Is_p.j0 k true a0_0 l0_1 a0_2 a0_3) else (if (l0_1.length : Int) > 2 then (pleachref35_Is_p.j0 k true a0_0 l0_1 a0_2 a0_3) else (if (a0_2.size : Int) = 32 then (pleachref35_Is_p.j0 k (decide ((a0_3.size : Int) > 40)) a0_0 l0_1 a0_2 a0_3) else (pleachref35_Is_p.j0 k true a0_0 l0_1 a0_2 a0_3))))
theorem pleachref35_Is_p.mono_l : ∀ k, (∀ y0 y1 y2 y3 y4, LeO (pleachref35_Is_p.j0 k y0 y1 y2 y3 y4) (pleachref35_Is_p.j0 (k + 1) y0 y1 y2 y3 y4)) ∧ (∀ y0 y1 y2 y3 y4 y5, LeO (pleachref35_Is_p.l0 k y0 y1 y2 y3 y4 y5) (pleachref35_Is_p.l0 (k + 1) y0 y1 y2 y3 y4 y5))
  | 0 => ⟨fun _ _ _ _ _ r h => by simp [pleachref35_Is_p.j0] at h, fun _ _ _ _ _ _ r h => by simp [pleachref35_Is_p.l0] at h⟩
  | k + 1 => by
    obtain ⟨ih0, ih1⟩ := pleachref35_Is_p.mono_l k
    refine ⟨?_, ?_⟩
    · intro y0 y1 y2 y3 y4
      unfold pleachref35_Is_p.j0
      repeat' first
      | (with_reducible exact ih0 _ _ _ _ _)
      | (with_reducible exact ih1 _ _ _ _ _ _)
      | (with_reducible exact LeO.refl _)
      | (with_reducible exact LeO.none _)
      | (with_reducible refine LeO.ite ?_ ?_)
      | (with_reducible refine LeO.bind ?_ (fun _ => ?_))
      | exact ih0 _ _ _ _ _
      | exact ih1 _ _ _ _ _ _
      | exact LeO.none _
      | refine LeO.ite ?_ ?_
      | refine LeO.bind ?_ (fun _ => ?_)
    · intro y0 y1 y2 y3 y4 y5
      unfold pleachref35_Is_p.l0
      repeat' first
      | (with_reducible exact ih0 _ _ _ _ _)
      | (with_reducible exact ih1 _ _ _ _ _ _)
      | (with_reducible exact LeO.refl _)
      | (with_reducible exact LeO.none _)
      | (with_reducible refine LeO.ite ?_ ?_)
      | (with_reducible refine LeO.bind ?_ (fun _ => ?_))
      | exact ih0 _ _ _ _ _
      | exact ih1 _ _ _ _ _ _
      | exact LeO.none _
      | refine LeO.ite ?_ ?_
      | refine LeO.bind ?_ (fun _ => ?_)
theorem pleachref35_Is_p.mono : ∀ a0 a1 a2 a3 k, LeO (pleachref35_Is_p.f k a0 a1 a2 a3) (pleachref35_Is_p.f (k + 1) a0 a1 a2 a3) := by
  intro a0 a1 a2 a3 k
  obtain ⟨ih0, ih1⟩ := pleachref35_Is_p.mono_l k
  unfold pleachref35_Is_p.f
  repeat' first
      | (with_reducible exact ih0 _ _ _ _ _)
      | (with_reducible exact ih1 _ _ _ _ _ _)
      | (with_reducible exact LeO.refl _)
      | (with_reducible exact LeO.none _)
      | (with_reducible refine LeO.ite ?_ ?_)
      | (with_reducible refine LeO.bind ?_ (fun _ => ?_))
      | exact ih0 _ _ _ _ _
      | exact ih1 _ _ _ _ _ _
      | exact LeO.none _
      | refine LeO.ite ?_ ?_
      | refine LeO.bind ?_ (fun _ => ?_)
set_option maxHeartbeats 8000000 in
set_option maxRecDepth 100000 in
theorem pleachref35_Is_p.calls (k : Nat) (a0_0 : Int) (A0_1 : Option Addr) (c0_1 : Nat) (l0_1 : List ByteArray) (a0_2 : ByteArray) (a0_3 : ByteArray) (r : Bool) (w : World) (hr0_1 : Kd.C Kd.string w A0_1 l0_1.length l0_1) (hc0_1 : l0_1.length ≤ c0_1) (h : pleachref35_Is_p.f k a0_0 l0_1 a0_2 a0_3 = some r) :
    Calls Tryd.prog 14 #[.agg #[.int .i64 a0_0, .slice A0_1 l0_1.length c0_1, .string a0_2, .string a0_3]] w fun e w' => e = .returned (.bool r) ∧ Below w.heap.size w w' := by
  have hu24 := Tryd.underlying24
  have HR0_1 := Aside0.mk hr0_1
  have HC0_1 := Aside0.mk hc0_1
  clear hr0_1 hc0_1
  have HB := Aside0.mk (Below.refl w.heap.size w)
  have H : (if a0_0 < 1 then (pleachref35_Is_p.j0 k true a0_0 l0_1 a0_2 a0_3) else (if a0_0 > 4294967295 then (pleachref35_Is_p.j0 k true a0_0 l0_1 a0_2 a0_3) else (if (l0_1.length : Int) > 2 then (pleachref35_Is_p.j0 k true a0_0 l0_1 a0_2 a0_3) else (if (a0_2.size : Int) = 32 then (pleachref35_Is_p.j0 k (decide ((a0_3.size : Int) > 40)) a0_0 l0_1 a0_2 a0_3) else (pleachref35_Is_p.j0 k true a0_0 l0_1 a0_2 a0_3))))) = some r := h
  clear h
  have HC2 := Aside0.mk H
  clear H
  go_enter Tryd.func14, Tryd.ntmps14
  go_upto_region 1 with (first | ((with_reducible refine gate_dst (N := 1) rfl ?_); (try (refine gate_guard (by rfl) ?_; dsimp only)); refine box_event ?hg (N := 1) ?hd (cs := #[.int .i64 a0_0, .slice A0_1 l0_1.length c0_1, .string a0_2, .string a0_3]) (t := 24) ?hr ?_; (case hd => rfl); (case hg => rfl); (case hr => first | (go_simp; done) | (go_simp; rfl)); intro zae hg w3 hbox hb; have n0_ := M.upS HB hb; have n1_ := Aside0.mk (hbox); have n2_ := M.upG HB hg; have n3_ := M.upG HB hg; clear HB; have HB := n0_; have zaf := n1_; have zag := n2_; have zah := n3_; clear n0_ n1_ n2_ n3_; clear hb hbox hg))
  repeat (go_quiet (first | ((with_reducible refine gate_dst (N := 1) rfl ?_); (try (refine gate_guard (by rfl) ?_; dsimp only)); refine box_event ?hg (N := 1) ?hd (cs := #[.int .i64 a0_0, .slice A0_1 l0_1.length c0_1, .string a0_2, .string a0_3]) (t := 24) ?hr ?_; (case hd => rfl); (case hg => rfl); (case hr => first | (go_simp; done) | (go_simp; rfl)); intro zae hg w3 hbox hb; have n0_ := M.upS HB hb; have n1_ := Aside0.mk (hbox); have n2_ := M.upG HB hg; have n3_ := M.upG HB hg; clear HB; have HB := n0_; have zaf := n1_; have zag := n2_; have zah := n3_; clear n0_ n1_ n2_ n3_; clear hb hbox hg)); go_upto_region 1 with (first | ((with_reducible refine gate_dst (N := 1) rfl ?_); (try (refine gate_guard (by rfl) ?_; dsimp only)); refine box_event ?hg (N := 1) ?hd (cs := #[.int .i64 a0_0, .slice A0_1 l0_1.length c0_1, .string a0_2, .string a0_3]) (t := 24) ?hr ?_; (case hd => rfl); (case hg => rfl); (case hr => first | (go_simp; done) | (go_simp; rfl)); intro zae hg w3 hbox hb; have n0_ := M.upS HB hb; have n1_ := Aside0.mk (hbox); have n2_ := M.upG HB hg; have n3_ := M.upG HB hg; clear HB; have HB := n0_; have zaf := n1_; have zag := n2_; have zah := n3_; clear n0_ n1_ n2_ n3_; clear hb hbox hg)))
  (try simp only [Act.put, List.setIfInBounds_toArray, List.set_cons_zero, List.set_cons_succ])
  go_cut [29] (fun v29 wc => ∃ (kq : Nat) (x29_1 : Bool), v29 = .bool x29_1 ∧ Aside0 (pleachref35_Is_p.j0 kq x29_1 a0_0 l0_1 a0_2 a0_3 = some r) ∧ Aside0 (kq ≤ k) ∧ Aside0 (wc.heap[zae]? = some (.cells #[.int .i64 a0_0, (.slice A0_1 l0_1.length c0_1), .string a0_2, .string a0_3] 24 (0, 0))) ∧ Aside0 (Below w.heap.size w wc))
  case first =>
    have H := HC2.out
    clear HC2
    by_cases c4 : a0_0 < 1
    · rw [if_pos c4] at H
      have c4b0 : decide (a0_0 < 1) = true := decide_eq_true c4
      clear c4
      (first | rw [c4b0] | (simp only [i64_w, i32_w]; rw [c4b0]) | skip)
      have H' := Aside0.mk H
      clear H
      have zai : w3.cell? ⟨zae, 0, none⟩ = some (.int .i64 a0_0) := (blk_cell zaf.out 0).trans rfl
      have zaj : w3.cell? ⟨zae, 1, none⟩ = some (.slice A0_1 l0_1.length c0_1) := (blk_cell zaf.out 1).trans rfl
      have zak : w3.cell? ⟨zae, 2, none⟩ = some (.string a0_2) := (blk_cell zaf.out 2).trans rfl
      have zal : w3.cell? ⟨zae, 3, none⟩ = some (.string a0_3) := (blk_cell zaf.out 3).trans rfl
      have zam := blk_frozen zaf.out 0
      have zan := blk_frozen zaf.out 1
      have zao := blk_frozen zaf.out 2
      have zap := blk_frozen zaf.out 3
      go_wp2
      repeat (go_quiet (fail); try go_wp2)
      go_meet
      case rel => exact ⟨_, (true), (by first | rfl | (simp; done) | (simp [*]; done) | (simp [M.isEmpty_bne]; done)), H', ⟨by first | omega | exact Nat.le_refl _⟩, ⟨by (with_reducible repeat (first | refine blk_drewN ?_ _ | refine blk_drew ?_ | refine blk_alloc ?_ _)); exact zaf.out⟩, ⟨M.up HB⟩⟩
    · rw [if_neg c4] at H
      have c4b0 : decide (a0_0 < 1) = false := decide_eq_false c4
      clear c4
      (first | rw [c4b0] | (simp only [i64_w, i32_w]; rw [c4b0]) | skip)
      by_cases c6 : a0_0 > 4294967295
      · rw [if_pos c6] at H
        have c6b0 : decide (4294967295 < a0_0) = true := decide_eq_true c6
        clear c6
        have H' := Aside0.mk H
        clear H
        have zaq : w3.cell? ⟨zae, 0, none⟩ = some (.int .i64 a0_0) := (blk_cell zaf.out 0).trans rfl
        have zar : w3.cell? ⟨zae, 1, none⟩ = some (.slice A0_1 l0_1.length c0_1) := (blk_cell zaf.out 1).trans rfl
        have zas : w3.cell? ⟨zae, 2, none⟩ = some (.string a0_2) := (blk_cell zaf.out 2).trans rfl
        have zat : w3.cell? ⟨zae, 3, none⟩ = some (.string a0_3) := (blk_cell zaf.out 3).trans rfl
        have zau := blk_frozen zaf.out 0
        have zav := blk_frozen zaf.out 1
        have zaw := blk_frozen zaf.out 2
        have zax := blk_frozen zaf.out 3
        go_wp2
        repeat (go_quiet (fail); try go_wp2)
        go_meet
        case rel => exact ⟨_, (true), (by first | rfl | (simp; done) | (simp [*]; done) | (simp [M.isEmpty_bne]; done)), H', ⟨by first | omega | exact Nat.le_refl _⟩, ⟨by (with_reducible repeat (first | refine blk_drewN ?_ _ | refine blk_drew ?_ | refine blk_alloc ?_ _)); exact zaf.out⟩, ⟨M.up HB⟩⟩
      · rw [if_neg c6] at H
        have c6b0 : decide (4294967295 < a0_0) = false := decide_eq_false c6
        clear c6
        by_cases c8 : (l0_1.length : Int) > 2
        · rw [if_pos c8] at H
          have c8b0 : decide (2 < (l0_1.length : Int)) = true := decide_eq_true c8
          have c8b1 : decide (2 < l0_1.length) = true := decide_eq_true (by omega)
          clear c8
          have H' := Aside0.mk H
          clear H
          have zay : w3.cell? ⟨zae, 0, none⟩ = some (.int .i64 a0_0) := (blk_cell zaf.out 0).trans rfl
          have zaz : w3.cell? ⟨zae, 1, none⟩ = some (.slice A0_1 l0_1.length c0_1) := (blk_cell zaf.out 1).trans rfl
          have zaA : w3.cell? ⟨zae, 2, none⟩ = some (.string a0_2) := (blk_cell zaf.out 2).trans rfl
          have zaB : w3.cell? ⟨zae, 3, none⟩ = some (.string a0_3) := (blk_cell zaf.out 3).trans rfl
          have zaC := blk_frozen zaf.out 0
          have zaD := blk_frozen zaf.out 1
          have zaE := blk_frozen zaf.out 2
          have zaF := blk_frozen zaf.out 3
          go_wp2
          repeat (go_quiet (fail); try go_wp2)
          go_meet
          case rel => exact ⟨_, (true), (by first | rfl | (simp; done) | (simp [*]; done) | (simp [M.isEmpty_bne]; done)), H', ⟨by first | omega | exact Nat.le_refl _⟩, ⟨by (with_reducible repeat (first | refine blk_drewN ?_ _ | refine blk_drew ?_ | refine blk_alloc ?_ _)); exact zaf.out⟩, ⟨M.up HB⟩⟩
        · rw [if_neg c8] at H
          have c8b0 : decide (2 < (l0_1.length : Int)) = false := decide_eq_false c8
          have c8b1 : decide (2 < l0_1.length) = false := decide_eq_false (by omega)
          clear c8
          by_cases c10 : (a0_2.size : Int) = 32
          · rw [if_pos c10] at H
            have c10b0 : ((a0_2.size : Int) == 32) = true := beq_iff_eq.mpr c10
            have c10b1 : ((a0_2.size : Int) != 32) = false := bne_eq_false_iff_eq.mpr c10
            clear c10
            have H' := Aside0.mk H
            clear H
            have zaG : w3.cell? ⟨zae, 0, none⟩ = some (.int .i64 a0_0) := (blk_cell zaf.out 0).trans rfl
            have zaH : w3.cell? ⟨zae, 1, none⟩ = some (.slice A0_1 l0_1.length c0_1) := (blk_cell zaf.out 1).trans rfl
            have zaI : w3.cell? ⟨zae, 2, none⟩ = some (.string a0_2) := (blk_cell zaf.out 2).trans rfl
            have zaJ : w3.cell? ⟨zae, 3, none⟩ = some (.string a0_3) := (blk_cell zaf.out 3).trans rfl
            have zaK := blk_frozen zaf.out 0
            have zaL := blk_frozen zaf.out 1
            have zaM := blk_frozen zaf.out 2
            have zaN := blk_frozen zaf.out 3
            go_wp2
            repeat (go_quiet (fail); try go_wp2)
            go_meet
            case rel => exact ⟨_, (decide ((a0_3.size : Int) > 40)), (by first | rfl | (simp; done) | (simp [*]; done) | (simp [M.isEmpty_bne]; done)), H', ⟨by first | omega | exact Nat.le_refl _⟩, ⟨by (with_reducible repeat (first | refine blk_drewN ?_ _ | refine blk_drew ?_ | refine blk_alloc ?_ _)); exact zaf.out⟩, ⟨M.up HB⟩⟩
          · rw [if_neg c10] at H
            have c10b0 : ((a0_2.size : Int) == 32) = false := beq_eq_false_iff_ne.mpr c10
            have c10b1 : ((a0_2.size : Int) != 32) = true := bne_iff_ne.mpr c10
            have H' := Aside0.mk H
            clear H
            have zaO : w3.cell? ⟨zae, 0, none⟩ = some (.int .i64 a0_0) := (blk_cell zaf.out 0).trans rfl
            have zaP : w3.cell? ⟨zae, 1, none⟩ = some (.slice A0_1 l0_1.length c0_1) := (blk_cell zaf.out 1).trans rfl
            have zaQ : w3.cell? ⟨zae, 2, none⟩ = some (.string a0_2) := (blk_cell zaf.out 2).trans rfl
            have zaR : w3.cell? ⟨zae, 3, none⟩ = some (.string a0_3) := (blk_cell zaf.out 3).trans rfl
            have zaS := blk_frozen zaf.out 0
            have zaT := blk_frozen zaf.out 1
            have zaU := blk_frozen zaf.out 2
            have zaV := blk_frozen zaf.out 3
            go_wp2
            repeat (go_quiet (fail); try go_wp2)
            go_meet
            case rel => exact ⟨_, (true), (by first | rfl | (simp; done) | (simp [*]; done) | (simp [M.isEmpty_bne]; done)), H', ⟨by first | omega | exact Nat.le_refl _⟩, ⟨by (with_reducible repeat (first | refine blk_drewN ?_ _ | refine blk_drew ?_ | refine blk_alloc ?_ _)); exact zaf.out⟩, ⟨M.up HB⟩⟩
  case rest =>
    clear HC2
    try clear c1
    try clear p2
    try clear c4
    try clear c4b0
    try clear c6
    try clear c6b0
    try clear c8
    try clear c8b0
    try clear c8b1
    try clear c10
    try clear c10b0
    try clear c10b1
    try clear zaG
    try clear zaH
    try clear zaI
    try clear zaJ
    try clear zaO
    try clear zaP
    try clear zaQ
    try clear zaR
    try clear zai
    try clear zaj
    try clear zak
    try clear zal
    try clear zaq
    try clear zar
    try clear zas
    try clear zat
    try clear zay
    try clear zaz
    try clear zaA
    try clear zaB
    try clear zaK
    try clear zaL
    try clear zaM
    try clear zaN
    try clear zaS
    try clear zaT
    try clear zaU
    try clear zaV
    try clear zam
    try clear zan
    try clear zao
    try clear zap
    try clear zau
    try clear zav
    try clear zaw
    try clear zax
    try clear zaC
    try clear zaD
    try clear zaE
    try clear zaF
    obtain ⟨kq, x29_1, rfl, HA, HJ1, zaf, HB⟩ := hcut
    cases kq with
    | zero => exact absurd HA.out (by simp [pleachref35_Is_p.j0])
    | succ kj1 =>
      have H := HA.out
      clear HA
      simp only [pleachref35_Is_p.j0] at H
      by_cases c13 : x29_1 = true
      · subst c13
        have H1 : (some false) = some r := by rw [if_pos rfl] at H; exact H
        clear H
        have H := H1
        clear H1
        obtain rfl := Option.some.inj H
        go_wp2
        repeat (go_quiet (fail); try go_wp2)
        go_ret
        exact M.fin (M.up HB)
      · replace c13 := Bool.eq_false_iff.mpr c13
        subst c13
        have H1 : (pleachref35_Is_p.l0 kj1 (l0_1.length : Int) 0 a0_0 l0_1 a0_2 a0_3) = some r := by rw [if_neg (show ¬ (false = true) by decide)] at H; exact H
        clear H
        have H := H1
        clear H1
        have H' := Aside0.mk H
        clear H
        have zaW : wc.cell? ⟨zae, 0, none⟩ = some (.int .i64 a0_0) := (blk_cell zaf.out 0).trans rfl
        have zaX : wc.cell? ⟨zae, 1, none⟩ = some (.slice A0_1 l0_1.length c0_1) := (blk_cell zaf.out 1).trans rfl
        have zaY : wc.cell? ⟨zae, 2, none⟩ = some (.string a0_2) := (blk_cell zaf.out 2).trans rfl
        have zaZ : wc.cell? ⟨zae, 3, none⟩ = some (.string a0_3) := (blk_cell zaf.out 3).trans rfl
        have za0 := blk_frozen zaf.out 0
        have za1 := blk_frozen zaf.out 1
        have za2 := blk_frozen zaf.out 2
        have za3 := blk_frozen zaf.out 3
        go_wp2
        repeat (go_quiet (fail); try go_wp2)
        go_loopg [33] kj1 (fun kq v33 w' => ∃ (x33_2 : Int), v33 = .int .i64 x33_2 ∧ Aside0 (pleachref35_Is_p.l0 kq (l0_1.length : Int) x33_2 a0_0 l0_1 a0_2 a0_3 = some r) ∧ Aside0 (kq ≤ kj1) ∧ Aside0 (w'.heap[zae]? = some (.cells #[.int .i64 a0_0, (.slice A0_1 l0_1.length c0_1), .string a0_2, .string a0_3] 24 (0, 0))) ∧ Aside0 (Below w.heap.size w w'))
        case atStart => exact ⟨(0), (by first | rfl | (simp; done) | (simp [*]; done) | (simp [M.isEmpty_bne]; done)), H', ⟨Nat.le_refl _⟩, ⟨by (with_reducible repeat (first | refine blk_drewN ?_ _ | refine blk_drew ?_ | refine blk_alloc ?_ _)); exact zaf.out⟩, ⟨M.up HB⟩⟩
        case round =>
          clear H'
          try clear c1
          try clear p2
          try clear c4
          try clear c4b0
          try clear c6
          try clear c6b0
          try clear c8
          try clear c8b0
          try clear c8b1
          try clear c10
          try clear c10b0
          try clear c10b1
          try clear c13
          try clear c14
          try clear zaG
          try clear zaH
          try clear zaI
          try clear zaJ
          try clear zaO
          try clear zaP
          try clear zaQ
          try clear zaR
          try clear zaW
          try clear zaX
          try clear zaY
          try clear zaZ
          try clear zai
          try clear zaj
          try clear zak
          try clear zal
          try clear zaq
          try clear zar
          try clear zas
          try clear zat
          try clear zay
          try clear zaz
          try clear zaA
          try clear zaB
          try clear zaK
          try clear zaL
          try clear zaM
          try clear zaN
          try clear zaS
          try clear zaT
          try clear zaU
          try clear zaV
          try clear za0
          try clear za1
          try clear za2
          try clear za3
          try clear zam
          try clear zan
          try clear zao
          try clear zap
          try clear zau
          try clear zav
          try clear zaw
          try clear zax
          try clear zaC
          try clear zaD
          try clear zaE
          try clear zaF
          try clear p2
          obtain ⟨x33_2, rfl, HA, HK2, zaf, HB⟩ := hrel
          cases gk with
          | zero => exact absurd HA.out (by simp [pleachref35_Is_p.l0])
          | succ k2 =>
            have H := HA.out
            clear HA
            simp only [pleachref35_Is_p.l0] at H
            by_cases c15 : x33_2 < (l0_1.length : Int)
            · rw [if_pos c15] at H
              have c15b0 : decide (x33_2 < (l0_1.length : Int)) = true := decide_eq_true c15
              clear c15
              by_cases c16 : 0 ≤ x33_2
              · rw [if_pos c16] at H
                have c16b0 : decide (0 ≤ x33_2) = true := decide_eq_true c16
                clear c16
                by_cases c17 : x33_2 < (l0_1.length : Int)
                · rw [if_pos c17] at H
                  have c17b0 : decide (x33_2 < (l0_1.length : Int)) = true := decide_eq_true c17
                  clear c17
                  by_cases c18 : ((rdOf ByteArray.empty l0_1 x33_2).size : Int) = 32
                  · rw [if_pos c18] at H
                    have c18b0 : (((rdOf ByteArray.empty l0_1 x33_2).size : Int) == 32) = true := beq_iff_eq.mpr c18
                    have c18b1 : (((rdOf ByteArray.empty l0_1 x33_2).size : Int) != 32) = false := bne_eq_false_iff_eq.mpr c18
                    clear c18
                    have H' := Aside0.mk H
                    clear H
                    have za4 : wr.cell? ⟨zae, 0, none⟩ = some (.int .i64 a0_0) := (blk_cell zaf.out 0).trans rfl
                    have za5 : wr.cell? ⟨zae, 1, none⟩ = some (.slice A0_1 l0_1.length c0_1) := (blk_cell zaf.out 1).trans rfl
                    have za6 : wr.cell? ⟨zae, 2, none⟩ = some (.string a0_2) := (blk_cell zaf.out 2).trans rfl
                    have za7 : wr.cell? ⟨zae, 3, none⟩ = some (.string a0_3) := (blk_cell zaf.out 3).trans rfl
                    have za8 := blk_frozen zaf.out 0
                    have za9 := blk_frozen zaf.out 1
                    have zba := blk_frozen zaf.out 2
                    have zbb := blk_frozen zaf.out 3
                    have p187 : 0 ≤ (x33_2 : Int) := of_decide_eq_true (by first | (with_reducible assumption) | assumption)
                    have q187 : x33_2 < (l0_1.length : Int) := of_decide_eq_true (by first | (with_reducible assumption) | assumption)
                    obtain ⟨ad187, e187, hx187_0⟩ := Kd.at_string HR0_1.out x33_2 p187 q187
                    cases e187
                    replace hx187_0 := (HB.out.cell (World.block_lt_of_cell? w _ hx187_0)).trans hx187_0
                    replace p187 := eq_true p187
                    replace q187 := eq_true q187
                    go_wp2
                    repeat (go_quiet (fail); try go_wp2)
                    go_roundg k2
                    case measure => have := HJ1.out; have := HK2.out; omega
                    case rel => exact ⟨(wrap64 (x33_2 + 1)), (by first | rfl | (simp; done) | (simp [*]; done) | (simp [M.isEmpty_bne]; done)), H', ⟨by have := HJ1.out; have := HK2.out; omega⟩, ⟨by (with_reducible repeat (first | refine blk_drewN ?_ _ | refine blk_drew ?_ | refine blk_alloc ?_ _)); exact zaf.out⟩, ⟨M.up HB⟩⟩
                  · rw [if_neg c18] at H
                    have c18b0 : (((rdOf ByteArray.empty l0_1 x33_2).size : Int) == 32) = false := beq_eq_false_iff_ne.mpr c18
                    have c18b1 : (((rdOf ByteArray.empty l0_1 x33_2).size : Int) != 32) = true := bne_iff_ne.mpr c18
                    obtain rfl := Option.some.inj H
                    have zbc : wr.cell? ⟨zae, 0, none⟩ = some (.int .i64 a0_0) := (blk_cell zaf.out 0).trans rfl
                    have zbd : wr.cell? ⟨zae, 1, none⟩ = some (.slice A0_1 l0_1.length c0_1) := (blk_cell zaf.out 1).trans rfl
                    have zbe : wr.cell? ⟨zae, 2, none⟩ = some (.string a0_2) := (blk_cell zaf.out 2).trans rfl
                    have zbf : wr.cell? ⟨zae, 3, none⟩ = some (.string a0_3) := (blk_cell zaf.out 3).trans rfl
                    have zbg := blk_frozen zaf.out 0
                    have zbh := blk_frozen zaf.out 1
                    have zbi := blk_frozen zaf.out 2
                    have zbj := blk_frozen zaf.out 3
                    have p187 : 0 ≤ (x33_2 : Int) := of_decide_eq_true (by first | (with_reducible assumption) | assumption)
                    have q187 : x33_2 < (l0_1.length : Int) := of_decide_eq_true (by first | (with_reducible assumption) | assumption)
                    obtain ⟨ad187, e187, hx187_0⟩ := Kd.at_string HR0_1.out x33_2 p187 q187
                    cases e187
                    replace hx187_0 := (HB.out.cell (World.block_lt_of_cell? w _ hx187_0)).trans hx187_0
                    replace p187 := eq_true p187
                    replace q187 := eq_true q187
                    go_wp2
                    repeat (go_quiet (fail); try go_wp2)
                    go_ret
                    exact M.fin (M.up HB)
                · rw [if_neg c17] at H
                  exact absurd H (by simp)
              · rw [if_neg c16] at H
                exact absurd H (by simp)
            · rw [if_neg c15] at H
              have c15b0 : decide (x33_2 < (l0_1.length : Int)) = false := decide_eq_false c15
              clear c15
              by_cases c21 : (l0_1.length : Int) < 2
              · rw [if_pos c21] at H
                have c21b0 : decide ((l0_1.length : Int) < 2) = true := decide_eq_true c21
                have c21b1 : decide (l0_1.length < 2) = true := decide_eq_true (by omega)
                clear c21
                obtain rfl := Option.some.inj H
                have zbk : wr.cell? ⟨zae, 0, none⟩ = some (.int .i64 a0_0) := (blk_cell zaf.out 0).trans rfl
                have zbl : wr.cell? ⟨zae, 1, none⟩ = some (.slice A0_1 l0_1.length c0_1) := (blk_cell zaf.out 1).trans rfl
                have zbm : wr.cell? ⟨zae, 2, none⟩ = some (.string a0_2) := (blk_cell zaf.out 2).trans rfl
                have zbn : wr.cell? ⟨zae, 3, none⟩ = some (.string a0_3) := (blk_cell zaf.out 3).trans rfl
                have zbo := blk_frozen zaf.out 0
                have zbp := blk_frozen zaf.out 1
                have zbq := blk_frozen zaf.out 2
                have zbr := blk_frozen zaf.out 3
                go_wp2
                repeat (go_quiet (fail); try go_wp2)
                go_ret
                exact M.fin (M.up HB)
              · rw [if_neg c21] at H
                have c21b0 : decide ((l0_1.length : Int) < 2) = false := decide_eq_false c21
                have c21b1 : decide (l0_1.length < 2) = false := decide_eq_false (by omega)
                clear c21
                by_cases c23 : 0 < (l0_1.length : Int)
                · rw [if_pos c23] at H
                  have c23b0 : decide (0 < (l0_1.length : Int)) = true := decide_eq_true c23
                  have c23b1 : decide (0 < l0_1.length) = true := decide_eq_true (by omega)
                  clear c23
                  by_cases c24 : 1 < (l0_1.length : Int)
                  · rw [if_pos c24] at H
                    have c24b0 : decide (1 < (l0_1.length : Int)) = true := decide_eq_true c24
                    have c24b1 : decide (1 < l0_1.length) = true := decide_eq_true (by omega)
                    clear c24
                    obtain rfl := Option.some.inj H
                    have zbs : wr.cell? ⟨zae, 0, none⟩ = some (.int .i64 a0_0) := (blk_cell zaf.out 0).trans rfl
                    have zbt : wr.cell? ⟨zae, 1, none⟩ = some (.slice A0_1 l0_1.length c0_1) := (blk_cell zaf.out 1).trans rfl
                    have zbu : wr.cell? ⟨zae, 2, none⟩ = some (.string a0_2) := (blk_cell zaf.out 2).trans rfl
                    have zbv : wr.cell? ⟨zae, 3, none⟩ = some (.string a0_3) := (blk_cell zaf.out 3).trans rfl
                    have zbw := blk_frozen zaf.out 0
                    have zbx := blk_frozen zaf.out 1
                    have zby := blk_frozen zaf.out 2
                    have zbz := blk_frozen zaf.out 3
                    have p185 : 0 ≤ (0 : Int) := (by omega)
                    have q185 : 0 < (l0_1.length : Int) := of_decide_eq_true (by first | (with_reducible assumption) | assumption)
                    obtain ⟨ad185, e185, hx185_0⟩ := Kd.at_string HR0_1.out 0 p185 q185
                    cases e185
                    have qi185 : (0 < l0_1.length) = True := eq_true (by omega)
                    (try rw [show ((0 : Int)).toNat = 0 from rfl] at hx185_0)
                    (try rw [Addr.add_zero'] at hx185_0)
                    replace hx185_0 := (HB.out.cell (World.block_lt_of_cell? w _ hx185_0)).trans hx185_0
                    replace p185 := eq_true p185
                    replace q185 := eq_true q185
                    have p186 : 0 ≤ (1 : Int) := (by omega)
                    have q186 : 1 < (l0_1.length : Int) := of_decide_eq_true (by first | (with_reducible assumption) | assumption)
                    obtain ⟨ad186, e186, hx186_0⟩ := Kd.at_string HR0_1.out 1 p186 q186
                    obtain rfl : ad185 = ad186 := (by injection e186)
                    (try simp only [show (1 : Int).toNat = 1 from rfl, Nat.reduceMul, Nat.reduceEqDiff, Go.Addr.add, ↓reduceIte] at hx186_0)
                    have qi186 : (1 < l0_1.length) = True := eq_true (by omega)
                    (try rw [show ((1 : Int)).toNat = 1 from rfl] at hx186_0)
                    replace hx186_0 := (HB.out.cell (World.block_lt_of_cell? w _ hx186_0)).trans hx186_0
                    replace p186 := eq_true p186
                    replace q186 := eq_true q186
                    go_wp2
                    repeat (go_quiet (fail); try go_wp2)
                    go_ret
                    exact M.fin (M.up HB)
                  · rw [if_neg c24] at H
                    exact absurd H (by simp)
                · rw [if_neg c23] at H
                  exact absurd H (by simp)

-- this session's own plain form
def pleachref35_Is.f (a0_0 : Int) (l0_1 : List ByteArray) (a0_2 : ByteArray) (a0_3 : ByteArray) : Option Bool := some (decide (M.isC a0_0 l0_1 a0_2 a0_3))
theorem pleachref35_Is.ne {a b : ByteArray} : (a.toList != b.toList) = decide (a ≠ b) := by
  by_cases h : a = b
  · subst h; simp
  · rw [decide_eq_true h, bne_iff_ne, M.toList_bs, M.toList_bs]
    exact fun e => h (M.bs_inj e)
theorem pleachref35_Is.loop (n : Int) (ps : List ByteArray) (g note : ByteArray) (hl : ps.length ≤ 2) :
    pleachref35_Is_p.l0 9 (ps.length : Int) 0 n ps g note = some (decide ((∀ p ∈ ps, p.size = 32) ∧ (ps.length = 2 → ps.getD 0 ByteArray.empty ≠ ps.getD 1 ByteArray.empty))) := by
  match ps, hl with
  | [], _ => rw [pleachref35_Is_p.l0, if_neg (by simp), if_pos (by simp), decide_eq_true ⟨by simp, by simp⟩]
  | [a], _ =>
    have r0 : rdOf ByteArray.empty [a] 0 = a := rfl
    rw [pleachref35_Is_p.l0, if_pos (by simp), if_pos (by decide), if_pos (by simp), r0]
    by_cases ha : a.size = 32
    · rw [if_pos (by omega), show wrap64 (0 + 1) = 1 from M.wrap64_id (i := 1) (by decide) (by decide), pleachref35_Is_p.l0, if_neg (by simp), if_pos (by simp), decide_eq_true ⟨by simp [ha], by simp⟩]
    · rw [if_neg (by omega), decide_eq_false (fun z => ha (z.1 a List.mem_cons_self))]
  | [a, b], _ =>
    have r0 : rdOf ByteArray.empty [a, b] 0 = a := rfl
    have r1 : rdOf ByteArray.empty [a, b] 1 = b := rfl
    rw [pleachref35_Is_p.l0, if_pos (by simp), if_pos (by decide), if_pos (by simp), r0]
    by_cases ha : a.size = 32
    · rw [if_pos (by omega), show wrap64 (0 + 1) = 1 from M.wrap64_id (i := 1) (by decide) (by decide), pleachref35_Is_p.l0, if_pos (by simp), if_pos (by decide), if_pos (by simp), r1]
      by_cases hb : b.size = 32
      · rw [if_pos (by omega), show wrap64 (1 + 1) = 2 from M.wrap64_id (i := 2) (by decide) (by decide), pleachref35_Is_p.l0, if_neg (by simp), if_neg (by simp), if_pos (by simp), if_pos (by simp), r0, r1, pleachref35_Is.ne]
        congr 1
        exact decide_eq_decide.2 ⟨fun h => ⟨by simp [ha, hb], fun _ => h⟩, fun h => h.2 rfl⟩
      · rw [if_neg (by omega), decide_eq_false (fun z => hb (z.1 b (by simp)))]
    · rw [if_neg (by omega), decide_eq_false (fun z => ha (z.1 a List.mem_cons_self))]
theorem pleachref35_Is.ev (n : Int) (ps : List ByteArray) (g note : ByteArray) (r : Bool) (h : pleachref35_Is.f n ps g note = some r) : ∃ k, pleachref35_Is_p.f k n ps g note = some r := by
  unfold pleachref35_Is.f at h
  obtain rfl := Option.some.inj h
  refine ⟨10, ?_⟩
  unfold pleachref35_Is_p.f
  by_cases c1 : n < 1
  · rw [if_pos c1, pleachref35_Is_p.j0, if_pos rfl, decide_eq_false (fun z => by have := z.1.1; omega)]
  rw [if_neg c1]
  by_cases c2 : n > 4294967295
  · rw [if_pos c2, pleachref35_Is_p.j0, if_pos rfl, decide_eq_false (fun z => by have := z.1.2; omega)]
  rw [if_neg c2]
  by_cases c3 : ps.length > 2
  · rw [if_pos (by omega), pleachref35_Is_p.j0, if_pos rfl, decide_eq_false (fun z => by have := z.2.1; omega)]
  rw [if_neg (by omega)]
  by_cases c4 : g.size = 32
  · rw [if_pos (by omega), pleachref35_Is_p.j0]
    by_cases c5 : note.size > 40
    · rw [if_pos (decide_eq_true (by omega)), decide_eq_false (fun z => by have := z.2.2.2.1; omega)]
    · rw [if_neg (by simp; omega), pleachref35_Is.loop n ps g note (by omega)]
      congr 1
      exact decide_eq_decide.2 ⟨fun c6 => ⟨⟨by omega, by omega⟩, by omega, c4, by omega, c6⟩, fun z => z.2.2.2.2⟩
  · rw [if_neg (by omega), pleachref35_Is_p.j0, if_pos rfl, decide_eq_false (fun z => c4 z.2.2.1)]
theorem pleachref35_Is.calls (a0_0 : Int) (A0_1 : Option Addr) (c0_1 : Nat) (l0_1 : List ByteArray) (a0_2 : ByteArray) (a0_3 : ByteArray) (r : Bool) (w : World) (hr0_1 : Kd.C Kd.string w A0_1 l0_1.length l0_1) (hc0_1 : l0_1.length ≤ c0_1) (h : pleachref35_Is.f a0_0 l0_1 a0_2 a0_3 = some r) :
    Calls Tryd.prog 14 #[.agg #[.int .i64 a0_0, .slice A0_1 l0_1.length c0_1, .string a0_2, .string a0_3]] w fun e w' => e = .returned (.bool r) ∧ Below w.heap.size w w' := by
  obtain ⟨k, hk⟩ := pleachref35_Is.ev _ _ _ _ _ h
  exact pleachref35_Is_p.calls (k := k) (w := w) (h := hk) (hr0_1 := hr0_1) (hc0_1 := hc0_1)

end Go.Proofs.YtikdbklmhjlfoaaDoor.ECommitTakes
