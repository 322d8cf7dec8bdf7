-- Laid by this session's own program (wip/tools/fold.py): this session's texts, cut to what the claim names and put together; Lean checks it.
import Derived.Test.YtikdbklmhjlfoaaDoorVCommitBack1
import Derived.Test.YtikdbklmhjlfoaaDoorVCommitBack3
import Derived.Test.YtikdbklmhjlfoaaDoorVCommitBack4
import Derived.Test.YtikdbklmhjlfoaaDoorXCommitBack1
namespace Go.Proofs.YtikdbklmhjlfoaaDoor.ECommitBack
open Go.RowKit Go.Proofs.YtikdbklmhjlfoaaDoorW.PrintWords Go.Proofs.YtikdbklmhjlfoaaDoorW.PrintLast Go.Proofs.YtikdbklmhjlfoaaDoorW.PrintMore
attribute [local go_sem] M.run_leq M.run_gtr M.run_geq max2_int min2_int max_two min_two max_three min_three max_four min_four
set_option linter.unusedVariables false
set_option linter.unusedSimpArgs false
section
variable {P : Program} {ops : Array Oper} {o : Oper} {a : Act} {Q : Exit → Act → World → Prop} {Kc : Act → World → Prop}
theorem shelf_Shelf_Put.app {w0 W : World} (base : Nat) (hw : Region.wanted o (yielded ops a.tmps) = true) (s x : Operand) (ho : o.op = .call { callee := .builtin .append, args := #[s, x], argTypes := #[22, 22] })
    (ht : P.underlying 22 = some (.slice 9)) (z : Value) (bytes : Nat) (hinfo : (P.info? 9).map (fun i => (i.zero, i.size, i.bytes)) = some (some z, 1, bytes)) (hz : z.cells.size = 1) (hb0 : 0 < bytes)
    (v : Value) (xs : List ByteArray) (y : ByteArray) (b : Nat) (hs : a.eval s = v) (hx : a.eval x = .slice (some ⟨b, 0, none⟩) 1 1) (HO : M.rowW W base v xs.length (xs.map .string)) (hy : W.cell? ⟨b, 0, none⟩ = some (.string y))
    (HB : Below base w0 W) (hbase : base ≤ W.heap.size) (hl : (xs.length + 1) * bytes ≤ 140737488355328)
    (h : ∀ v1 w1, M.rowW w1 base v1 (xs.length + 1) ((xs ++ [y]).map .string) → Below base w0 w1 → W.grownBy w1 v.ownBlock → (v1.ownBlock = v.ownBlock ∨ ∃ b, v1.ownBlock = some b ∧ W.heap.size ≤ b) → Kc (a.put o.dst v1) w1) :
    if Region.wanted o (yielded ops a.tmps) = true then Oper.wp P o a W Kc Q else Kc (a.put o.dst undef) W := by
 have own_ : W.ownsRow base 9 1 v xs.length (xs.map .string) → (if Region.wanted o (yielded ops a.tmps) = true then Oper.wp P o a W Kc Q else Kc (a.put o.dst undef) W) := by
  intro HO'
  refine Kd.R_append_rows_step Kd.string (Rr := fun x cs => cs = [.string x]) (okp := fun _ => False) (ok := fun _ => True) base hw s x 22 9 z bytes ho ht hinfo hz (by decide) hb0 v xs [y] (some ⟨b, 0, none⟩) 1 1 hs hx (Kd.R_of_own HO' (fun _ _ => trivial)) ⟨rfl, by decide, fun _ => ⟨_, rfl, fun j p hp => ?_⟩⟩ (fun _ _ e => e) (fun _ h => h.elim) (fun _ _ => trivial) HB hbase hl ?_
  ·have hj : j = 0 := by have := (List.getElem?_eq_some_iff.1 hp).1; simpa using this
   subst hj
   obtain rfl : y = p := by simpa using hp
   refine ⟨[.string y], rfl, rfl, fun i u hu => ?_⟩
   have hi : i = 0 := by have := (List.getElem?_eq_some_iff.1 hu).1; simpa using this
   subst hi
   obtain rfl : Value.string y = u := by simpa using hu
   rw [Nat.zero_mul, Nat.zero_add, add_plain]
   exact hy
  ·intro v1 w1 hR hB hg hat
   have := Kd.own_of_R hR
   rw [List.length_append] at this
   exact h v1 w1 (M.rowW_of_own this) hB hg hat
 rcases HO.2 with ⟨e, e0⟩ | ⟨g, cap, cur, e, hg, hh, hn, hm, hs2, he, htk⟩
 ·exact own_ ⟨by rw [Nat.mul_one]; exact HO.1, .inl ⟨e, e0⟩⟩
 ·by_cases hc : xs.length < cap
  ·refine own_ ?_
   rw [e] at HO ⊢
   exact M.rowW_own HO hc
  ·have hcap : cap = xs.length := by omega
   subst hcap
   obtain ⟨i0, hi, hzz⟩ := Option.map_eq_some_iff.1 hinfo
   simp only [Prod.mk.injEq] at hzz
   obtain ⟨hz0, hz1, hz2⟩ := hzz
   have hmx : xs.length + 1 ≤ maxLen := by
    have : (xs.length + 1) * 1 ≤ (xs.length + 1) * bytes := Nat.mul_le_mul_left _ hb0
    unfold maxLen; omega
   obtain ⟨v', w', hrun, r1, r2⟩ := run_append_arg_grows (P := P) W 22 o.type 9 i0 z 1 bytes ht hi hz0 hz1 hz2 hz (by decide) ⟨g, 0, none⟩ xs.length xs.length (xs.map .string) (by rw [List.length_map, Nat.mul_one]) (fun j u hu => HO.cells (by rw [e]; rfl) j u hu) ⟨b, 0, none⟩ 1 1 [.string y] rfl (fun j u hu => by
    have hj : j = 0 := by have := (List.getElem?_eq_some_iff.1 hu).1; simpa using this
    subst hj
    obtain rfl : Value.string y = u := by simpa using hu
    rw [add_plain]
    exact hy) (by omega) hmx hl
   rw [e] at hs
   rw [if_pos hw]
   unfold Oper.wp
   simp [execOp, ho, resolve, invoke, builtin, hs, hx, hrun, Result.andThen]
   have hgb : W.grownBy w' v.ownBlock := ⟨r2.os, r2.tape, r2.output, r2.size, fun k hk _ => r2.block k hk (by simp)⟩
   refine h v' w' (M.row_lower (M.rowW_of_own (by rw [List.map_append]; exact r1)) hbase) (HB.grown r2 hbase (fun k hk => by cases hk)) hgb ?_
   rcases r1.2 with ⟨_, h0⟩ | ⟨g1, c1, cu1, e1, hg1, _⟩
   ·omega
   ·exact .inr ⟨g1, by rw [e1]; rfl, hg1⟩
end
set_option maxHeartbeats 8000000 in
set_option maxRecDepth 100000 in
theorem shelf_Shelf_Put.empty (base g B : Nat) (D : DataW Unit) (vt vn : Value) (ts : List ByteArray) (a b : ByteArray) (w : World) (hS : M.shelf Tryd.prog base w g B D vt vn ts a b) :
    Calls Tryd.prog 23 #[.pointer (some ⟨g, 0, none⟩), .string ByteArray.empty] w fun e w' => e = .returned (.tuple #[.string ByteArray.empty, .int .i64 2]) ∧ w = w' := by
 have HS := Aside0.mk hS
 have hd : (ByteArray.empty : ByteArray).toList.isEmpty = true := by decide +kernel
 clear hS
 go_enter Tryd.func23, Tryd.ntmps23
 go_wp2_with (first | (go_at_call 44; (with_reducible refine (shelf_Shelf_there.calls base g B D vt vn ts a b _ HS.out).mono ?_); rintro e w1 ⟨rfl, rfl⟩))
 exact bodyPost_ret (v := .tuple #[.string ByteArray.empty, .int .i64 2]) (by simp [results, Tryd.results23, go_sem]; rfl) rfl ⟨rfl, rfl⟩
set_option maxHeartbeats 8000000 in
set_option maxRecDepth 100000 in
theorem shelf_Shelf_Put.long (base g B : Nat) (D : DataW Unit) (vt vn : Value) (ts : List ByteArray) (a b t : ByteArray) (w : World) (hS : M.shelf Tryd.prog base w g B D vt vn ts a b) (ht : 65536 < t.size) (hz : t.size ≤ 1000000000000) :
    Calls Tryd.prog 23 #[.pointer (some ⟨g, 0, none⟩), .string t] w fun e w' => e = .returned (.tuple #[.string ByteArray.empty, .int .i64 5]) ∧ w = w' := by
 have HS := Aside0.mk hS
 have hd : t.toList.isEmpty = false := M.nonempty (fun e => by rw [e] at ht; exact absurd ht (by decide))
 have hdd : decide ((65536 : Int) < (t.size : Int)) = true := decide_eq_true (by omega)
 clear hS
 go_enter Tryd.func23, Tryd.ntmps23
 go_wp2_with (first | (go_at_call 44; (with_reducible refine (shelf_Shelf_there.calls base g B D vt vn ts a b _ HS.out).mono ?_); rintro e w1 ⟨rfl, rfl⟩))
 exact bodyPost_ret (v := .tuple #[.string ByteArray.empty, .int .i64 5]) (by simp [results, Tryd.results23, go_sem]; rfl) rfl ⟨rfl, rfl⟩
set_option maxHeartbeats 8000000 in
set_option maxRecDepth 100000 in
theorem shelf_Shelf_Put.met (base g B : Nat) (D : DataW Unit) (vt vn : Value) (ts : List ByteArray) (a b t : ByteArray) (i : Nat) (w : World) (hS : M.shelf Tryd.prog base w g B D vt vn ts a b) (hT : M.stab w) (h0 : t ≠ ByteArray.empty) (hl : t.size ≤ 65536) (hn : M.idx (ts.map M.shaSum) (M.shaSum t).data.toList = some i) (he : ts.getD i ByteArray.empty = t) :
    Calls Tryd.prog 23 #[.pointer (some ⟨g, 0, none⟩), .string t] w fun e w' => e = .returned (.tuple #[.string (M.shaSum t), .int .i64 0]) ∧ M.shelf Tryd.prog base w' g B D vt vn ts a b ∧ Below w.heap.size w w' := by
 have hz : t.size ≤ 1000000000000 := by omega
 have hi : i < ts.length := by have := (M.idx_lt hn).1; simpa using this
 obtain ⟨gt, cap, rfl, _, _⟩ := hS.rt.form (by omega)
 have hd : t.toList.isEmpty = false := M.nonempty h0
 have hdd : decide ((65536 : Int) < (t.size : Int)) = false := decide_eq_false (by omega)
 have hKEY := Go.WideMaps.keyOf_string_mk Tryd.underlying9 (show (M.shaSum t).size ≤ maxLen from by have := M.shaSum_size t; unfold maxLen; omega)
 have h1 := (hS.says (M.shaSum t).data.toList).1
 have h2 := (hS.says (M.shaSum t).data.toList).2
 rw [hn] at h1 h2
 have HS := Aside0.mk hS
 have HT1 := Aside0.mk (M.stab_below hT (below_alloc (Below.refl w.heap.size w) (.cells #[.string t] 9)) (M.stab_lt hT))
 have HC1 := Aside0.mk (show (w.alloc (.cells #[.string t] 9)).cell? ⟨w.heap.size, 0, none⟩ = some (.string t) from M.blk_cell (heap_alloc_new w _) 0 _ rfl)
 have g0 : (0 : Int) ≤ (i : Int) := by omega
 have g1 : (i : Int) < (ts.length : Int) := by omega
 obtain ⟨x, hx⟩ : ∃ x, x = ts.getD i ByteArray.empty := ⟨_, rfl⟩
 have HX := Aside0.mk hx.symm
 obtain rfl : x = t := hx.trans he
 clear hS hT he hn hx
 go_enter Tryd.func23, Tryd.ntmps23
 go_wp2_with (first | (go_at_call 44; (with_reducible refine (shelf_Shelf_there.calls base g B D _ vn ts a b _ HS.out).mono ?_); rintro e w1 ⟨rfl, rfl⟩) | (go_at_call 47; (with_reducible refine (sha_Sum.calls ⟨w.heap.size, 0, none⟩ 1 x _ HT1.out HC1.out (Nat.le_refl _) hz).mono ?_); rintro e w2 ⟨rfl, hb2⟩; have HB2 := Aside0.mk (below_step (below_alloc (Below.refl w.heap.size w) _) hb2); have HS2 := Aside0.mk (M.shelf_below HS.out HB2.out); have d0 : w2.cell? ⟨g, 0, none⟩ = some (.map (some B)) := M.blk_cell HS2.out.blk 0 _ rfl; have hown2 := HS2.out.map; have d1 : w2.cell? ⟨g, 1, none⟩ = some (.slice (some ⟨gt, 0, none⟩) ts.length cap) := M.blk_cell HS2.out.blk 1 _ rfl; have di : w2.cell? ⟨gt, i, none⟩ = some (.string x) := M.row_cell HS2.out.rt i x hi HX.out; clear hb2) | (at_lookup; refine wpList_lookup_own_ok_int _ rfl _ _ 78 rfl 9 3 .i64 shelf_Shelf_there.law Tryd.underlying78 Tryd.underlying3 (shelf_Shelf_there.zero_ _) B ts.length D rfl hown2 _ _ rfl hKEY ?_; intro c hat hwc; obtain rfl : c = (i : Int) := by (rw [h2] at hat; simpa using hat.symm)))
 exact bodyPost_ret (v := .tuple #[.string (M.shaSum x), .int .i64 0]) (by simp [results, Tryd.results23, go_sem]) rfl ⟨rfl, HS2.out, HB2.out⟩
set_option maxHeartbeats 8000000 in
set_option maxRecDepth 100000 in
theorem shelf_Shelf_Put.clash1 (base g B : Nat) (D : DataW Unit) (vt vn : Value) (ts : List ByteArray) (a b t : ByteArray) (i : Nat) (w : World) (hS : M.shelf Tryd.prog base w g B D vt vn ts a b) (hT : M.stab w) (h0 : t ≠ ByteArray.empty) (hl : t.size ≤ 65536) (hn : M.idx (ts.map M.shaSum) (M.shaSum t).data.toList = some i) (he : ts.getD i ByteArray.empty ≠ t) (ha : a = ByteArray.empty) :
    Calls Tryd.prog 23 #[.pointer (some ⟨g, 0, none⟩), .string t] w fun e w' => e = .returned (.tuple #[.string ByteArray.empty, .int .i64 15]) ∧ M.shelf Tryd.prog base w' g B D vt vn ts (ts.getD i ByteArray.empty) t ∧ Below base w w' ∧ Kept w w' (M.feet g B vt vn) := by
 subst ha
 have had : (ByteArray.empty : ByteArray).toList.isEmpty = true := by decide +kernel
 have hz : t.size ≤ 1000000000000 := by omega
 have hi : i < ts.length := by have := (M.idx_lt hn).1; simpa using this
 obtain ⟨gt, cap, rfl, _, _⟩ := hS.rt.form (by omega)
 have hd : t.toList.isEmpty = false := M.nonempty h0
 have hdd : decide ((65536 : Int) < (t.size : Int)) = false := decide_eq_false (by omega)
 have hKEY := Go.WideMaps.keyOf_string_mk Tryd.underlying9 (show (M.shaSum t).size ≤ maxLen from by have := M.shaSum_size t; unfold maxLen; omega)
 have h1 := (hS.says (M.shaSum t).data.toList).1
 have h2 := (hS.says (M.shaSum t).data.toList).2
 rw [hn] at h1 h2
 have HS := Aside0.mk hS
 have HBS := Aside0.mk (show base ≤ w.heap.size from Nat.le_of_lt (Nat.lt_of_le_of_lt hS.gb (M.lt_blk hS.blk)))
 have HT1 := Aside0.mk (M.stab_below hT (below_alloc (Below.refl w.heap.size w) (.cells #[.string t] 9)) (M.stab_lt hT))
 have HC1 := Aside0.mk (show (w.alloc (.cells #[.string t] 9)).cell? ⟨w.heap.size, 0, none⟩ = some (.string t) from M.blk_cell (heap_alloc_new w _) 0 _ rfl)
 have g0 : (0 : Int) ≤ (i : Int) := by omega
 have g1 : (i : Int) < (ts.length : Int) := by omega
 obtain ⟨x, hx⟩ : ∃ x, x = ts.getD i ByteArray.empty := ⟨_, rfl⟩
 have HX := Aside0.mk hx.symm
 have hxt : x ≠ t := fun e => he (hx.symm.trans e)
 have hxd : (x.toList == t.toList) = false := by simpa using M.unlike hxt
 clear hS hT he hn hx
 go_enter Tryd.func23, Tryd.ntmps23
 go_wp2_with (first | (go_at_call 44; (with_reducible refine (shelf_Shelf_there.calls base g B D _ vn ts ByteArray.empty b _ HS.out).mono ?_); rintro e w1 ⟨rfl, rfl⟩) | (go_at_call 47; (with_reducible refine (sha_Sum.calls ⟨w.heap.size, 0, none⟩ 1 t _ HT1.out HC1.out (Nat.le_refl _) hz).mono ?_); rintro e w2 ⟨rfl, hb2⟩; have HB2 := Aside0.mk (below_step (below_alloc (Below.refl w.heap.size w) _) hb2); have HS2 := Aside0.mk (M.shelf_below HS.out HB2.out); have d0 : w2.cell? ⟨g, 0, none⟩ = some (.map (some B)) := M.blk_cell HS2.out.blk 0 _ rfl; have hown2 := HS2.out.map; have d1 : w2.cell? ⟨g, 1, none⟩ = some (.slice (some ⟨gt, 0, none⟩) ts.length cap) := M.blk_cell HS2.out.blk 1 _ rfl; have d3 : w2.cell? ⟨g, 3, none⟩ = some (.string ByteArray.empty) := M.blk_cell HS2.out.blk 3 _ rfl; have f3 := M.blk_free HS2.out.blk 3; have f4 := M.blk_free HS2.out.blk 4; have d4 : w2.cell? ⟨g, 4, none⟩ = some (.string b) := M.blk_cell HS2.out.blk 4 _ rfl; have di : w2.cell? ⟨gt, i, none⟩ = some (.string x) := M.row_cell HS2.out.rt i x hi HX.out; clear hb2) | (at_lookup; refine wpList_lookup_own_ok_int _ rfl _ _ 78 rfl 9 3 .i64 shelf_Shelf_there.law Tryd.underlying78 Tryd.underlying3 (shelf_Shelf_there.zero_ _) B ts.length D rfl hown2 _ _ rfl hKEY ?_; intro c hat hwc; obtain rfl : c = (i : Int) := by (rw [h2] at hat; simpa using hat.symm)))
 exact bodyPost_ret (v := .tuple #[.string ByteArray.empty, .int .i64 15]) (by simp [results, Tryd.results23, go_sem]; rfl) rfl ⟨rfl, by rw [HX.out]; exact M.shelf_clash HS2.out x t, ((HB2.out.mono HBS.out).setCell (p := ⟨g, 3, none⟩) HS2.out.gb _).setCell (p := ⟨g, 4, none⟩) HS2.out.gb _, ((Kept.of_below HB2.out (M.feet g B (.slice (some ⟨gt, 0, none⟩) ts.length cap) vn)).setCell (p := ⟨g, 3, none⟩) (.inl (.inl rfl)) _).setCell (p := ⟨g, 4, none⟩) (.inl (.inl rfl)) _⟩
set_option maxHeartbeats 8000000 in
set_option maxRecDepth 100000 in
theorem shelf_Shelf_Put.clash2 (base g B : Nat) (D : DataW Unit) (vt vn : Value) (ts : List ByteArray) (a b t : ByteArray) (i : Nat) (w : World) (hS : M.shelf Tryd.prog base w g B D vt vn ts a b) (hT : M.stab w) (h0 : t ≠ ByteArray.empty) (hl : t.size ≤ 65536) (hn : M.idx (ts.map M.shaSum) (M.shaSum t).data.toList = some i) (he : ts.getD i ByteArray.empty ≠ t) (ha : a ≠ ByteArray.empty) :
    Calls Tryd.prog 23 #[.pointer (some ⟨g, 0, none⟩), .string t] w fun e w' => e = .returned (.tuple #[.string ByteArray.empty, .int .i64 15]) ∧ M.shelf Tryd.prog base w' g B D vt vn ts a b ∧ Below w.heap.size w w' := by
 have had := M.nonempty ha
 have hz : t.size ≤ 1000000000000 := by omega
 have hi : i < ts.length := by have := (M.idx_lt hn).1; simpa using this
 obtain ⟨gt, cap, rfl, _, _⟩ := hS.rt.form (by omega)
 have hd : t.toList.isEmpty = false := M.nonempty h0
 have hdd : decide ((65536 : Int) < (t.size : Int)) = false := decide_eq_false (by omega)
 have hKEY := Go.WideMaps.keyOf_string_mk Tryd.underlying9 (show (M.shaSum t).size ≤ maxLen from by have := M.shaSum_size t; unfold maxLen; omega)
 have h1 := (hS.says (M.shaSum t).data.toList).1
 have h2 := (hS.says (M.shaSum t).data.toList).2
 rw [hn] at h1 h2
 have HS := Aside0.mk hS
 have HT1 := Aside0.mk (M.stab_below hT (below_alloc (Below.refl w.heap.size w) (.cells #[.string t] 9)) (M.stab_lt hT))
 have HC1 := Aside0.mk (show (w.alloc (.cells #[.string t] 9)).cell? ⟨w.heap.size, 0, none⟩ = some (.string t) from M.blk_cell (heap_alloc_new w _) 0 _ rfl)
 have g0 : (0 : Int) ≤ (i : Int) := by omega
 have g1 : (i : Int) < (ts.length : Int) := by omega
 obtain ⟨x, hx⟩ : ∃ x, x = ts.getD i ByteArray.empty := ⟨_, rfl⟩
 have HX := Aside0.mk hx.symm
 have hxt : x ≠ t := fun e => he (hx.symm.trans e)
 have hxd : (x.toList == t.toList) = false := by simpa using M.unlike hxt
 clear hS hT he hn hx
 go_enter Tryd.func23, Tryd.ntmps23
 go_wp2_with (first | (go_at_call 44; (with_reducible refine (shelf_Shelf_there.calls base g B D _ vn ts a b _ HS.out).mono ?_); rintro e w1 ⟨rfl, rfl⟩) | (go_at_call 47; (with_reducible refine (sha_Sum.calls ⟨w.heap.size, 0, none⟩ 1 t _ HT1.out HC1.out (Nat.le_refl _) hz).mono ?_); rintro e w2 ⟨rfl, hb2⟩; have HB2 := Aside0.mk (below_step (below_alloc (Below.refl w.heap.size w) _) hb2); have HS2 := Aside0.mk (M.shelf_below HS.out HB2.out); have d0 : w2.cell? ⟨g, 0, none⟩ = some (.map (some B)) := M.blk_cell HS2.out.blk 0 _ rfl; have hown2 := HS2.out.map; have d1 : w2.cell? ⟨g, 1, none⟩ = some (.slice (some ⟨gt, 0, none⟩) ts.length cap) := M.blk_cell HS2.out.blk 1 _ rfl; have d3 : w2.cell? ⟨g, 3, none⟩ = some (.string a) := M.blk_cell HS2.out.blk 3 _ rfl; have f3 := M.blk_free HS2.out.blk 3; have f4 := M.blk_free HS2.out.blk 4; have d4 : w2.cell? ⟨g, 4, none⟩ = some (.string b) := M.blk_cell HS2.out.blk 4 _ rfl; have di : w2.cell? ⟨gt, i, none⟩ = some (.string x) := M.row_cell HS2.out.rt i x hi HX.out; clear hb2) | (at_lookup; refine wpList_lookup_own_ok_int _ rfl _ _ 78 rfl 9 3 .i64 shelf_Shelf_there.law Tryd.underlying78 Tryd.underlying3 (shelf_Shelf_there.zero_ _) B ts.length D rfl hown2 _ _ rfl hKEY ?_; intro c hat hwc; obtain rfl : c = (i : Int) := by (rw [h2] at hat; simpa using hat.symm)))
 exact bodyPost_ret (v := .tuple #[.string ByteArray.empty, .int .i64 15]) (by simp [results, Tryd.results23, go_sem]; rfl) rfl ⟨rfl, HS2.out, HB2.out⟩
theorem shelf_Shelf_Put.i9 : (Tryd.prog.info? 9).map (fun i => (i.zero, i.size, i.bytes)) = some (some (.string ByteArray.empty), 1, 16) := by kernel_rfl
set_option maxHeartbeats 8000000 in
set_option maxRecDepth 100000 in
theorem shelf_Shelf_Put.new (base g B : Nat) (D : DataW Unit) (vt vn : Value) (ts : List ByteArray) (a b t : ByteArray) (w : World) (hS : M.shelf Tryd.prog base w g B D vt vn ts a b) (hT : M.stab w) (h0 : t ≠ ByteArray.empty) (hl : t.size ≤ 65536) (hts : ts.length ≤ 1000000000) (hn : M.idx (ts.map M.shaSum) (M.shaSum t).data.toList = none) :
    Calls Tryd.prog 23 #[.pointer (some ⟨g, 0, none⟩), .string t] w fun e w' => e = .returned (.tuple #[.string (M.shaSum t), .int .i64 0]) ∧ ∃ D' vt' vn', M.shelf Tryd.prog base w' g B D' vt' vn' (ts ++ [t]) a b ∧ Below base w w' ∧ Kept w w' (M.feet g B vt vn) ∧ ∀ k, M.feet g B vt' vn' k → M.feet g B vt vn k ∨ w.heap.size ≤ k := by
 have hz : t.size ≤ 1000000000000 := by omega
 obtain ⟨At, ct, rfl⟩ := M.rowW_slice hS.rt
 obtain ⟨An, cn, rfl⟩ := M.rowW_slice hS.rn
 have hd : t.toList.isEmpty = false := M.nonempty h0
 have hdd : decide ((65536 : Int) < (t.size : Int)) = false := decide_eq_false (by omega)
 have hKEY := Go.WideMaps.keyOf_string_mk Tryd.underlying9 (show (M.shaSum t).size ≤ maxLen from by have := M.shaSum_size t; unfold maxLen; omega)
 have h1 := (hS.says (M.shaSum t).data.toList).1
 rw [hn] at h1
 have HS := Aside0.mk hS
 have HSay := Aside0.mk (M.told_new hS.says hS.map.isMap (M.shaSum t) hn)
 have HND := Aside0.mk (M.nd_snoc hS.nd hn)
 have HBS := Aside0.mk (show base ≤ w.heap.size from Nat.le_of_lt (Nat.lt_of_le_of_lt hS.gb (M.lt_blk hS.blk)))
 have HT1 := Aside0.mk (M.stab_below hT (below_alloc (Below.refl w.heap.size w) (.cells #[.string t] 9)) (M.stab_lt hT))
 have HC1 := Aside0.mk (show (w.alloc (.cells #[.string t] 9)).cell? ⟨w.heap.size, 0, none⟩ = some (.string t) from M.blk_cell (heap_alloc_new w _) 0 _ rfl)
 clear hS hT hn
 go_enter Tryd.func23, Tryd.ntmps23
 go_wp2_with (first | (go_at_call 44; (with_reducible refine (shelf_Shelf_there.calls base g B D _ _ ts a b _ HS.out).mono ?_); rintro e w1 ⟨rfl, rfl⟩) | (go_at_call 47; (with_reducible refine (sha_Sum.calls ⟨w.heap.size, 0, none⟩ 1 t _ HT1.out HC1.out (Nat.le_refl _) hz).mono ?_); rintro e w2 ⟨rfl, hb2⟩; have HB2 := Aside0.mk (below_step (below_alloc (Below.refl w.heap.size w) _) hb2); have HS2 := Aside0.mk (M.shelf_below HS.out HB2.out); have d0 : w2.cell? ⟨g, 0, none⟩ = some (.map (some B)) := M.blk_cell HS2.out.blk 0 _ rfl; have d1 : w2.cell? ⟨g, 1, none⟩ = some (.slice At ts.length ct) := M.blk_cell HS2.out.blk 1 _ rfl; have hown2 := HS2.out.map; clear hb2) | (at_lookup; refine wpList_lookup_own_ok_int _ rfl _ _ 78 rfl 9 3 .i64 shelf_Shelf_there.law Tryd.underlying78 Tryd.underlying3 (shelf_Shelf_there.zero_ _) B ts.length D rfl hown2 _ _ rfl hKEY ?_; intro c hat hwc))
 obtain ⟨w3, hrun, hown3, hgr3⟩ := (World.ownsMap.drew hown2).update (t := 78) (e := 3) shelf_Shelf_there.law Tryd.underlying78 (by unfold maxLen; omega) hKEY (plainElem_int (q := .i64) Tryd.underlying3 (WalkArith.wf_i64 (show -9223372036854775808 ≤ (ts.length : Int) ∧ (ts.length : Int) ≤ 9223372036854775807 by omega)))
 have hblk3 : w3.heap[g]? = some (.cells #[.map (some B), .slice At ts.length ct, .slice An ts.length cn, .string a, .string b] 81 (0, 0)) := (hgr3.block g (M.lt_blk HS2.out.blk) (fun e => HS2.out.gB (by injection e))).trans HS2.out.blk
 have HK3 := Aside0.mk hblk3
 have HM3 := Aside0.mk hown3
 have HR3 := Aside0.mk (M.row_keep (show M.rowW w2.drew base (.slice At ts.length ct) ts.length (ts.map .string) from HS2.out.rt) hgr3 (.inr HS2.out.tB))
 have HN3 := Aside0.mk (M.row_keep (show M.rowW w2.drew base (.slice An ts.length cn) ts.length ((ts.map M.shaSum).map .string) from HS2.out.rn) hgr3 (.inr HS2.out.nB))
 have HB3 := Aside0.mk ((below_drew1 (HB2.out.mono HBS.out)).grown hgr3 (show base ≤ w2.drew.heap.size from Nat.le_trans HBS.out HB2.out.size) (fun k hk => by injection hk with hk; rw [← hk]; exact HS2.out.bb))
 have HQ3 := Aside0.mk (Kept.of_grown (S := M.feet g B (.slice At ts.length ct) (.slice An ts.length cn)) hgr3 (Kept.drew (Kept.of_below HB2.out _)) (fun k hk => .inl (.inr (.inl (by injection hk with hk; exact hk.symm)))))
 have e1 : w3.cell? ⟨g, 1, none⟩ = some (.slice At ts.length ct) := M.blk_cell hblk3 1 _ rfl
 have e2 : w3.cell? ⟨g, 2, none⟩ = some (.slice An ts.length cn) := M.blk_cell hblk3 2 _ rfl
 have HW3 := Aside0.mk (show w2.heap.size ≤ w3.heap.size from hgr3.size)
 have HGL3 := Aside0.mk (M.lt_blk hblk3)
 have e1a : ∀ o : Obj, (w3.alloc o).cell? ⟨g, 1, none⟩ = some (.slice At ts.length ct) := fun o => (World.cell?_of_block (a := ⟨g, 1, none⟩) (Below.heap_alloc w3 o g HGL3.out)).trans e1
 have e1b : ∀ o o2 : Obj, ((w3.alloc o).alloc o2).cell? ⟨g, 1, none⟩ = some (.slice At ts.length ct) := fun o o2 => (World.cell?_of_block (a := ⟨g, 1, none⟩) (Below.heap_alloc (w3.alloc o) o2 g (by have := HGL3.out; simp; omega))).trans (e1a o)
 have e2a : ∀ o : Obj, (w3.alloc o).cell? ⟨g, 2, none⟩ = some (.slice An ts.length cn) := fun o => (World.cell?_of_block (a := ⟨g, 2, none⟩) (Below.heap_alloc w3 o g HGL3.out)).trans e2
 have e2b : ∀ o o2 : Obj, ((w3.alloc o).alloc o2).cell? ⟨g, 2, none⟩ = some (.slice An ts.length cn) := fun o o2 => (World.cell?_of_block (a := ⟨g, 2, none⟩) (Below.heap_alloc (w3.alloc o) o2 g (by have := HGL3.out; simp; omega))).trans (e2a o)
 clear hown3 hgr3 hblk3 hown2
 go_region
 all_goals
  clear d0 d1 hrun
  go_wp2
  have HB4s := Aside0.mk (show base ≤ w3.heap.size from Nat.le_trans (Nat.le_trans HBS.out HB2.out.size) HW3.out)
  go_region_law (first | (refine shelf_Shelf_Put.app (w0 := w) base (by rfl) (.tmp 81) (.tmp 83) rfl Tryd.underlying22 _ _ shelf_Shelf_Put.i9 rfl (by decide) (.slice At ts.length ct) ts t _ (by rfl) (by rfl) (M.row_below HR3.out (by repeat (first | exact Below.refl _ _ | refine below_drew1 ?_ | refine below_alloc ?_ _))) (by first | exact M.blk_cell (heap_alloc_new _ _) 0 _ rfl | go_simp) (below_then HB3.out HB4s.out (by repeat (first | exact Below.refl _ _ | refine below_drew1 ?_ | refine below_alloc ?_ _))) (Nat.le_trans HB4s.out (Below.size (B := w3.heap.size) (w := w3) (by repeat (first | exact Below.refl _ _ | refine below_drew1 ?_ | refine below_alloc ?_ _)))) (by omega) ?_; intro v1 w4 hown4 hb4 hg4 hat4; obtain ⟨A4, c4, rfl⟩ := M.rowW_slice hown4; have hgw := M.grown_from (w3 := w3) hg4 (by repeat (first | exact Below.refl _ _ | refine below_drew1 ?_ | refine below_alloc ?_ _)); have hblk4 := (hgw.block g HGL3.out HS2.out.tg.symm).trans HK3.out; have f1_ : w4.cell? ⟨g, 1, none⟩ = some (.slice At ts.length ct) := M.blk_cell hblk4 1 _ rfl; have f2_ : w4.cell? ⟨g, 2, none⟩ = some (.slice An ts.length cn) := M.blk_cell hblk4 2 _ rfl; have f2a : ∀ o : Obj, (w4.alloc o).cell? ⟨g, 2, none⟩ = some (.slice An ts.length cn) := fun o => (World.cell?_of_block (a := ⟨g, 2, none⟩) (Below.heap_alloc w4 o g (M.lt_blk hblk4))).trans f2_; have f1f := M.blk_free hblk4 1; have f2f := M.blk_free hblk4 2; have HG4 := Aside0.mk hgw; have HGW4 := Aside0.mk hg4; have HO4 := Aside0.mk hown4; have HB4 := Aside0.mk hb4; have HA4 := Aside0.mk hat4; clear hown4 hb4 hg4 hat4 hgw hblk4) | (refine shelf_Shelf_Put.app (w0 := w) base (by rfl) (.tmp 88) (.tmp 90) rfl Tryd.underlying22 _ _ shelf_Shelf_Put.i9 rfl (by decide) (.slice An ts.length cn) (ts.map M.shaSum) (M.shaSum t) _ (by rfl) (by rfl) (by rw [List.length_map]; exact M.row_below (M.row_keep HN3.out HG4.out (M.sep HS2.out.tn)) (by repeat (first | exact Below.refl _ _ | refine below_drew1 ?_ | refine below_alloc ?_ _))) (by first | exact M.blk_cell (heap_alloc_new _ _) 0 _ rfl | (refine (World.cell?_of_block (HGW4.out.block _ (by first | (simp; done) | (simp; omega)) (fun e => Nat.lt_irrefl _ (Nat.lt_of_lt_of_le (M.row_lt HR3.out _ e.symm) (by first | (simp; done) | (simp; omega)))))).trans ?_; go_simp; done) | (refine (World.cell?_of_block (HGW4.out.block _ (by simp) (fun e => by have := M.row_lt HR3.out _ e.symm; simp at this; omega))).trans ?_; go_simp; done)) (below_then HB4.out (Nat.le_trans HB4s.out HG4.out.size) (by repeat (first | exact Below.refl _ _ | refine below_drew1 ?_ | refine below_alloc ?_ _))) (Nat.le_trans (Nat.le_trans HB4s.out HG4.out.size) (Below.size (B := w4.heap.size) (w := w4) (by repeat (first | exact Below.refl _ _ | refine below_drew1 ?_ | refine below_alloc ?_ _)))) (by simp; omega) ?_; intro v2 w5 hown5 hb5 hg5 hat5; obtain ⟨A5, c5, rfl⟩ := M.rowW_slice hown5; have hgw5 := M.grown_from (w3 := w4) hg5 (by repeat (first | exact Below.refl _ _ | refine below_drew1 ?_ | refine below_alloc ?_ _)); have hblk5 := (hgw5.block g (Nat.lt_of_lt_of_le HGL3.out HG4.out.size) HS2.out.ng.symm).trans ((HG4.out.block g HGL3.out HS2.out.tg.symm).trans HK3.out); have j1_ : w5.cell? ⟨g, 1, none⟩ = some (.slice At ts.length ct) := M.blk_cell hblk5 1 _ rfl; have j2_ : w5.cell? ⟨g, 2, none⟩ = some (.slice An ts.length cn) := M.blk_cell hblk5 2 _ rfl; have j1f := M.blk_free hblk5 1; have j2f := M.blk_free hblk5 2; have HK5 := Aside0.mk hblk5; have HG5 := Aside0.mk hgw5; have HO5 := Aside0.mk hown5; have HB5 := Aside0.mk hb5; have HA5 := Aside0.mk hat5; clear hown5 hb5 hg5 hat5 hgw5 hblk5))
  all_goals
   have ho5 := HO5.out
   have ha5 := HA5.out
   rw [List.length_map] at ho5 ha5
   have hE := Aside0.mk (M.shelf_end HS2.out HW3.out HM3.out (by simpa using HSay.out) HG4.out HO4.out HA4.out (by first | (simp; done) | (simp; omega)) HG5.out ho5 ha5 (by first | (simp; done) | (simp; omega)) HK5.out HQ3.out HND.out)
   have hbe := Aside0.mk ((HB5.out.setCell (p := ⟨g, 1, none⟩) HS2.out.gb (.slice A4 (ts.length + 1) c4)).setCell (p := ⟨g, 2, none⟩) HS2.out.gb (.slice A5 (ts.length + 1) c5))
   clear ho5 ha5 e1 e2 e1a e1b e2a e2b f1_ f2_ f2a f1f f2f j1_ j2_ j1f j2f HK5 HG5 HO5 HB5 HA5 HG4 HGW4 HO4 HB4 HA4 HB4s HQ3 HGL3 HW3 HB3 HN3 HR3 HM3 HK3 hat hwc HS2 HB2 HSay h1
   generalize ((w5.setCell ⟨g, 1, none⟩ (.slice A4 (ts.length + 1) c4)).setCell ⟨g, 2, none⟩ (.slice A5 (ts.length + 1) c5)) = w6 at hE hbe ⊢
   go_wp2
   exact bodyPost_ret (v := .tuple #[.string (M.shaSum t), .int .i64 0]) (by simp [results, Tryd.results23, go_sem]) rfl ⟨rfl, _, _, _, hE.out.1, hbe.out, hE.out.2⟩
theorem shelf_Shelf_Put.any (base g : Nat) (F : Nat → Prop) (s : M.SS) (t : ByteArray) (w : World) (hS : M.Sh Tryd.prog base w g F s) (hT : M.stab w) (hz : t.size ≤ 1000000000000) (hts : s.ts.length ≤ 1000000000) :
    Calls Tryd.prog 23 #[.pointer (some ⟨g, 0, none⟩), .string t] w fun e w' => e = .returned (.tuple #[.string (s.put t).1, .int .i64 (s.put t).2.1]) ∧ M.ShTo Tryd.prog base w g F (s.put t).2.2 w' := by
 obtain ⟨B, D, vt, vn, hs, hF, hl⟩ := id hS
 unfold M.SS.put
 by_cases h0 : t = ByteArray.empty
 ·subst h0
  rw [if_pos rfl]
  refine (shelf_Shelf_Put.empty base g B D vt vn s.ts s.a s.b w hs).mono ?_
  rintro e w' ⟨rfl, rfl⟩
  exact ⟨rfl, hS.same (Below.refl _ _)⟩
 rw [if_neg h0]
 by_cases h1 : 65536 < t.size
 ·rw [if_pos h1]
  refine (shelf_Shelf_Put.long base g B D vt vn s.ts s.a s.b t w hs h1 hz).mono ?_
  rintro e w' ⟨rfl, rfl⟩
  exact ⟨rfl, hS.same (Below.refl _ _)⟩
 rw [if_neg h1]
 cases hi : M.idx (s.ts.map M.shaSum) (M.shaSum t).data.toList with
 | none =>
  refine (shelf_Shelf_Put.new base g B D vt vn s.ts s.a s.b t w hs hT h0 (by omega) hts hi).mono ?_
  rintro e w' ⟨rfl, D', vt', vn', h, hb, hk, hf⟩
  exact ⟨rfl, M.Sh.to_ hs hF hl h hb hk hf⟩
 | some i =>
  simp only
  by_cases he : s.ts.getD i ByteArray.empty = t
  ·rw [if_pos he]
   refine (shelf_Shelf_Put.met base g B D vt vn s.ts s.a s.b t i w hs hT h0 (by omega) hi he).mono ?_
   rintro e w' ⟨rfl, h, hb⟩
   exact ⟨rfl, hS.same hb⟩
  ·rw [if_neg he]
   by_cases ha : s.a = ByteArray.empty
   ·rw [if_pos ha]
    refine (shelf_Shelf_Put.clash1 base g B D vt vn s.ts s.a s.b t i w hs hT h0 (by omega) hi he ha).mono ?_
    rintro e w' ⟨rfl, h, hb, hk⟩
    exact ⟨rfl, M.Sh.to_ hs hF hl h hb hk (fun _ hk => .inl hk)⟩
   ·rw [if_neg ha]
    refine (shelf_Shelf_Put.clash2 base g B D vt vn s.ts s.a s.b t i w hs hT h0 (by omega) hi he ha).mono ?_
    rintro e w' ⟨rfl, h, hb⟩
    exact ⟨rfl, hS.same hb⟩
def pleachlaw35_awake.f : Option Bool := some true
def pleachlaw35_awake.a : ByteArray := ⟨#[76, 0]⟩
theorem pleachlaw35_awake.ne : pleachlaw35_awake.a ≠ ByteArray.empty := by decide +kernel
theorem pleachlaw35_awake.put1 : M.SS.none_.put pleachlaw35_awake.a = (M.shaSum pleachlaw35_awake.a, 0, ⟨[pleachlaw35_awake.a], ByteArray.empty, ByteArray.empty⟩) := by
 unfold M.SS.put
 rw [if_neg pleachlaw35_awake.ne, if_neg (by decide)]
 rfl
theorem pleachlaw35_awake.get1 : (⟨[pleachlaw35_awake.a], ByteArray.empty, ByteArray.empty⟩ : M.SS).get (M.shaSum pleachlaw35_awake.a) = (pleachlaw35_awake.a, true) := by
 unfold M.SS.get
 have h : M.idx (([pleachlaw35_awake.a] : List ByteArray).map M.shaSum) (M.shaSum pleachlaw35_awake.a).data.toList = some 0 := by
  unfold M.idx
  rw [List.map_cons, List.findIdx?_cons, decide_eq_true rfl]
  rfl
 simp only [h]
 rfl
theorem pleachlaw35_awake.p1 (base g : Nat) (F : Nat → Prop) (s : ByteArray) (hs : M.shaSum ⟨#[76, 0]⟩ = s) (w : World) (hS : M.Sh Tryd.prog base w g F M.SS.none_) (hT : M.stab w) :
    Calls Tryd.prog 23 #[.pointer (some ⟨g, 0, none⟩), .string ⟨#[76, 0]⟩] w fun e w' => e = .returned (.tuple #[.string s, .int .i64 0]) ∧ M.ShTo Tryd.prog base w g F ⟨[⟨#[76, 0]⟩], ByteArray.empty, ByteArray.empty⟩ w' := by
 have h := shelf_Shelf_Put.any base g F M.SS.none_ ⟨#[76, 0]⟩ w hS hT (by decide) (by decide)
 rw [show M.SS.none_.put ⟨#[76, 0]⟩ = _ from pleachlaw35_awake.put1] at h
 rw [← hs]
 exact h
theorem pleachlaw35_awake.l1 (base g : Nat) (F : Nat → Prop) (s : ByteArray) (hs : M.shaSum ⟨#[76, 0]⟩ = s) (w : World) (hS : M.Sh Tryd.prog base w g F ⟨[⟨#[76, 0]⟩], ByteArray.empty, ByteArray.empty⟩) :
    Calls Tryd.prog 20 #[.pointer (some ⟨g, 0, none⟩), .string s] w fun e w' => e = .returned (.tuple #[.agg #[.int .i64 0, .slice none 0 0, .string ⟨#[]⟩, .string ⟨#[]⟩], .int .i64 13]) ∧ Below w.heap.size w w' := by
 refine commit_Load.bad base g F _ s ⟨#[76, 0]⟩ true w hS (by rw [← hs, M.shaSum_size]; decide) (by rw [← hs]; exact pleachlaw35_awake.get1) (.inr ?_)
 decide +kernel
set_option maxHeartbeats 8000000 in
set_option maxRecDepth 100000 in
theorem pleachlaw35_awake.walk (w : World) (hT : M.stab w) : Calls Tryd.prog 8 #[] w fun e w' => e = .returned (.bool true) ∧ Below w.heap.size w w' := by
 have HT := Aside0.mk hT
 obtain ⟨s, hs⟩ : ∃ s, M.shaSum ⟨#[76, 0]⟩ = s := ⟨_, rfl⟩
 have HQ := Aside0.mk hs
 have hlt := Aside0.mk (M.stab_lt hT)
 have hne : s ≠ ByteArray.empty := fun e => by have := M.shaSum_size ⟨#[76, 0]⟩; rw [hs, e] at this; exact absurd this (by decide)
 have hd0 := M.nonempty hne
 clear hT hs hne
 go_enter Tryd.func8, Tryd.ntmps8
 go_wp2_with (first | (go_at_call 15; (with_reducible refine (shelf_New.any _).mono ?_); rintro e w1 ⟨g, F, rfl, hs1, hb1⟩; have HS1 := Aside0.mk hs1; have HB1 := Aside0.mk hb1; have HT1 := Aside0.mk (M.stab_below HT.out hb1 hlt.out); clear hs1 hb1) | (go_at_call 23; (with_reducible refine (pleachlaw35_awake.p1 w.heap.size g F s HQ.out _ HS1.out HT1.out).mono ?_); rintro e w2 ⟨rfl, F2, hs2, hf2, hk2, hb2⟩; have HS2 := Aside0.mk hs2; have HB2 := Aside0.mk (HB1.out.trans hb2); clear HS1 hs2 hf2 hk2 hb2) | (go_at_call 20; (with_reducible refine (pleachlaw35_awake.l1 w.heap.size g F2 s HQ.out _ HS2.out).mono ?_); rintro e w4 ⟨rfl, hb4⟩; have HB4 := Aside0.mk (below_step HB2.out hb4); clear hb4))
 go_ret
 exact ⟨rfl, below_alloc HB4.out _⟩
theorem pleachlaw35_awake.calls (r : Bool) (w : World) (hT : M.stab w) (h : pleachlaw35_awake.f = some r) : Calls Tryd.prog 8 #[] w fun e w' => e = .returned (.bool r) ∧ Below w.heap.size w w' := by
 obtain rfl := Option.some.inj h
 exact pleachlaw35_awake.walk w hT
mutual
def pleachref35_Same_p.j0 : Nat → Bool → Int → List ByteArray → ByteArray → ByteArray → Int → List ByteArray → ByteArray → ByteArray → Option (Bool)
  | 0, _, _, _, _, _, _, _, _, _ => none
  | k + 1, x33, zaa, zab, zac, zad, zae, zaf, zag, zah => if x33 = true then (some false) else (pleachref35_Same_p.l0 k (zab.length : Int) 0 zaa zab zac zad zae zaf zag zah)
def pleachref35_Same_p.l0 : Nat → Int → Int → Int → List ByteArray → ByteArray → ByteArray → Int → List ByteArray → ByteArray → ByteArray → Option (Bool)
  | 0, _, _, _, _, _, _, _, _, _, _ => none
  | k + 1, x36, x37, zaa, zab, zac, zad, zae, zaf, zag, zah => if x37 < x36 then (if 0 ≤ x37 then (if x37 < (zab.length : Int) then (if x37 < (zaf.length : Int) then (if (rdOf ByteArray.empty zab x37).toList = (rdOf ByteArray.empty zaf x37).toList then (pleachref35_Same_p.l0 k x36 (wrap64 (x37 + 1)) zaa zab zac zad zae zaf zag zah) else (some false)) else (none)) else (none)) else (none)) else (some true)
end
def pleachref35_Same_p.f (k : Nat) (a0_0 : Int) (l0_1 : List ByteArray) (a0_2 : ByteArray) (a0_3 : ByteArray) (a1_0 : Int) (l1_1 : List ByteArray) (a1_2 : ByteArray) (a1_3 : ByteArray) : Option (Bool) := if a0_0 = a1_0 then (if a0_2.toList = a1_2.toList then (if a0_3.toList = a1_3.toList then (pleachref35_Same_p.j0 k ((l0_1.length : Int) != (l1_1.length : Int)) a0_0 l0_1 a0_2 a0_3 a1_0 l1_1 a1_2 a1_3) else (pleachref35_Same_p.j0 k true a0_0 l0_1 a0_2 a0_3 a1_0 l1_1 a1_2 a1_3)) else (pleachref35_Same_p.j0 k true a0_0 l0_1 a0_2 a0_3 a1_0 l1_1 a1_2 a1_3)) else (pleachref35_Same_p.j0 k true a0_0 l0_1 a0_2 a0_3 a1_0 l1_1 a1_2 a1_3)
theorem pleachref35_Same_p.mono_l : ∀ k, (∀ y0 y1 y2 y3 y4 y5 y6 y7 y8, LeO (pleachref35_Same_p.j0 k y0 y1 y2 y3 y4 y5 y6 y7 y8) (pleachref35_Same_p.j0 (k + 1) y0 y1 y2 y3 y4 y5 y6 y7 y8)) ∧ (∀ y0 y1 y2 y3 y4 y5 y6 y7 y8 y9, LeO (pleachref35_Same_p.l0 k y0 y1 y2 y3 y4 y5 y6 y7 y8 y9) (pleachref35_Same_p.l0 (k + 1) y0 y1 y2 y3 y4 y5 y6 y7 y8 y9))
  | 0 => ⟨fun _ _ _ _ _ _ _ _ _ r h => by simp [pleachref35_Same_p.j0] at h, fun _ _ _ _ _ _ _ _ _ _ r h => by simp [pleachref35_Same_p.l0] at h⟩
  | k + 1 => by
    obtain ⟨ih0, ih1⟩ := pleachref35_Same_p.mono_l k
    refine ⟨?_, ?_⟩
    · intro y0 y1 y2 y3 y4 y5 y6 y7 y8
      unfold pleachref35_Same_p.j0
      repeat' first
      | (with_reducible exact ih0 _ _ _ _ _ _ _ _ _)
      | (with_reducible exact ih1 _ _ _ _ _ _ _ _ _ _)
      | (with_reducible exact LeO.refl _)
      | (with_reducible exact LeO.none _)
      | (with_reducible refine LeO.ite ?_ ?_)
      | (with_reducible refine LeO.bind ?_ (fun _ => ?_))
      | exact ih0 _ _ _ _ _ _ _ _ _
      | exact ih1 _ _ _ _ _ _ _ _ _ _
      | exact LeO.none _
      | refine LeO.ite ?_ ?_
      | refine LeO.bind ?_ (fun _ => ?_)
    · intro y0 y1 y2 y3 y4 y5 y6 y7 y8 y9
      unfold pleachref35_Same_p.l0
      repeat' first
      | (with_reducible exact ih0 _ _ _ _ _ _ _ _ _)
      | (with_reducible exact ih1 _ _ _ _ _ _ _ _ _ _)
      | (with_reducible exact LeO.refl _)
      | (with_reducible exact LeO.none _)
      | (with_reducible refine LeO.ite ?_ ?_)
      | (with_reducible refine LeO.bind ?_ (fun _ => ?_))
      | exact ih0 _ _ _ _ _ _ _ _ _
      | exact ih1 _ _ _ _ _ _ _ _ _ _
      | exact LeO.none _
      | refine LeO.ite ?_ ?_
      | refine LeO.bind ?_ (fun _ => ?_)
theorem pleachref35_Same_p.mono : ∀ a0 a1 a2 a3 a4 a5 a6 a7 k, LeO (pleachref35_Same_p.f k a0 a1 a2 a3 a4 a5 a6 a7) (pleachref35_Same_p.f (k + 1) a0 a1 a2 a3 a4 a5 a6 a7) := by
  intro a0 a1 a2 a3 a4 a5 a6 a7 k
  obtain ⟨ih0, ih1⟩ := pleachref35_Same_p.mono_l k
  unfold pleachref35_Same_p.f
  repeat' first
      | (with_reducible exact ih0 _ _ _ _ _ _ _ _ _)
      | (with_reducible exact ih1 _ _ _ _ _ _ _ _ _ _)
      | (with_reducible exact LeO.refl _)
      | (with_reducible exact LeO.none _)
      | (with_reducible refine LeO.ite ?_ ?_)
      | (with_reducible refine LeO.bind ?_ (fun _ => ?_))
      | exact ih0 _ _ _ _ _ _ _ _ _
      | exact ih1 _ _ _ _ _ _ _ _ _ _
      | exact LeO.none _
      | refine LeO.ite ?_ ?_
      | refine LeO.bind ?_ (fun _ => ?_)
set_option maxHeartbeats 8000000 in
set_option maxRecDepth 100000 in
theorem pleachref35_Same_p.calls (k : Nat) (a0_0 : Int) (A0_1 : Option Addr) (c0_1 : Nat) (l0_1 : List ByteArray) (a0_2 : ByteArray) (a0_3 : ByteArray) (a1_0 : Int) (A1_1 : Option Addr) (c1_1 : Nat) (l1_1 : List ByteArray) (a1_2 : ByteArray) (a1_3 : ByteArray) (r : Bool) (w : World) (hr0_1 : Kd.C Kd.string w A0_1 l0_1.length l0_1) (hc0_1 : l0_1.length ≤ c0_1) (hr1_1 : Kd.C Kd.string w A1_1 l1_1.length l1_1) (hc1_1 : l1_1.length ≤ c1_1) (h : pleachref35_Same_p.f k a0_0 l0_1 a0_2 a0_3 a1_0 l1_1 a1_2 a1_3 = some r) :
    Calls Tryd.prog 11 #[.agg #[.int .i64 a0_0, .slice A0_1 l0_1.length c0_1, .string a0_2, .string a0_3], .agg #[.int .i64 a1_0, .slice A1_1 l1_1.length c1_1, .string a1_2, .string a1_3]] w fun e w' => e = .returned (.bool r) ∧ Below w.heap.size w w' := by
 have hu24 := Tryd.underlying24
 have HR0_1 := Aside0.mk hr0_1
 have HC0_1 := Aside0.mk hc0_1
 clear hr0_1 hc0_1
 have HR1_1 := Aside0.mk hr1_1
 have HC1_1 := Aside0.mk hc1_1
 clear hr1_1 hc1_1
 have HB := Aside0.mk (Below.refl w.heap.size w)
 have H : (if a0_0 = a1_0 then (if a0_2.toList = a1_2.toList then (if a0_3.toList = a1_3.toList then (pleachref35_Same_p.j0 k ((l0_1.length : Int) != (l1_1.length : Int)) a0_0 l0_1 a0_2 a0_3 a1_0 l1_1 a1_2 a1_3) else (pleachref35_Same_p.j0 k true a0_0 l0_1 a0_2 a0_3 a1_0 l1_1 a1_2 a1_3)) else (pleachref35_Same_p.j0 k true a0_0 l0_1 a0_2 a0_3 a1_0 l1_1 a1_2 a1_3)) else (pleachref35_Same_p.j0 k true a0_0 l0_1 a0_2 a0_3 a1_0 l1_1 a1_2 a1_3)) = some r := h
 clear h
 have HC3 := Aside0.mk H
 clear H
 go_enter Tryd.func11, Tryd.ntmps11
 go_upto_region 1 with (first | ((with_reducible refine gate_dst (N := 2) rfl ?_); (try (refine gate_guard (by rfl) ?_; dsimp only)); refine M.bx 2 24 (#[.int .i64 a0_0, .slice A0_1 l0_1.length c0_1, .string a0_2, .string a0_3]) ?_; intro zai hg w4 hbox hb; have zaj := Aside0.mk (hbox); have zak := M.upG HB hg; have zal := M.upG HB hg; replace HB := M.upS HB hb; clear hb hbox hg) | ((with_reducible refine gate_dst (N := 3) rfl ?_); (try (refine gate_guard (by rfl) ?_; dsimp only)); refine M.bx 3 24 (#[.int .i64 a1_0, .slice A1_1 l1_1.length c1_1, .string a1_2, .string a1_3]) ?_; intro zam hg w5 hbox hb; have zan := Aside0.mk (hbox); have zao := M.upG HB hg; have zap := M.upG HB hg; replace HB := M.upS HB hb; have zaq := M.bkL zaj hg; have zar := M.bkG zaj hg; replace zaj := M.bkB zaj hb; clear hb hbox hg))
 repeat (go_quiet (first | ((with_reducible refine gate_dst (N := 2) rfl ?_); (try (refine gate_guard (by rfl) ?_; dsimp only)); refine M.bx 2 24 (#[.int .i64 a0_0, .slice A0_1 l0_1.length c0_1, .string a0_2, .string a0_3]) ?_; intro zai hg w4 hbox hb; have zaj := Aside0.mk (hbox); have zak := M.upG HB hg; have zal := M.upG HB hg; replace HB := M.upS HB hb; clear hb hbox hg) | ((with_reducible refine gate_dst (N := 3) rfl ?_); (try (refine gate_guard (by rfl) ?_; dsimp only)); refine M.bx 3 24 (#[.int .i64 a1_0, .slice A1_1 l1_1.length c1_1, .string a1_2, .string a1_3]) ?_; intro zam hg w5 hbox hb; have zan := Aside0.mk (hbox); have zao := M.upG HB hg; have zap := M.upG HB hg; replace HB := M.upS HB hb; have zaq := M.bkL zaj hg; have zar := M.bkG zaj hg; replace zaj := M.bkB zaj hb; clear hb hbox hg)); go_upto_region 1 with (first | ((with_reducible refine gate_dst (N := 2) rfl ?_); (try (refine gate_guard (by rfl) ?_; dsimp only)); refine M.bx 2 24 (#[.int .i64 a0_0, .slice A0_1 l0_1.length c0_1, .string a0_2, .string a0_3]) ?_; intro zai hg w4 hbox hb; have zaj := Aside0.mk (hbox); have zak := M.upG HB hg; have zal := M.upG HB hg; replace HB := M.upS HB hb; clear hb hbox hg) | ((with_reducible refine gate_dst (N := 3) rfl ?_); (try (refine gate_guard (by rfl) ?_; dsimp only)); refine M.bx 3 24 (#[.int .i64 a1_0, .slice A1_1 l1_1.length c1_1, .string a1_2, .string a1_3]) ?_; intro zam hg w5 hbox hb; have zan := Aside0.mk (hbox); have zao := M.upG HB hg; have zap := M.upG HB hg; replace HB := M.upS HB hb; have zaq := M.bkL zaj hg; have zar := M.bkG zaj hg; replace zaj := M.bkB zaj hb; clear hb hbox hg)))
 (try simp only [Act.put, List.setIfInBounds_toArray, List.set_cons_zero, List.set_cons_succ])
 go_cut [33] (fun v33 wc => ∃ (kq : Nat) (x33_2 : Bool), v33 = .bool x33_2 ∧ Aside0 (pleachref35_Same_p.j0 kq x33_2 a0_0 l0_1 a0_2 a0_3 a1_0 l1_1 a1_2 a1_3 = some r) ∧ Aside0 (kq ≤ k) ∧ Aside0 (wc.heap[zai]? = some (.cells #[.int .i64 a0_0, (.slice A0_1 l0_1.length c0_1), .string a0_2, .string a0_3] 24 (0, 0))) ∧ Aside0 (wc.heap[zam]? = some (.cells #[.int .i64 a1_0, (.slice A1_1 l1_1.length c1_1), .string a1_2, .string a1_3] 24 (0, 0))) ∧ Aside0 (Below w.heap.size w wc))
 case first =>
  have H := HC3.out
  clear HC3
  by_cases c6 : a0_0 = a1_0
  ·rw [if_pos c6] at H
   have c6b0 : (a0_0 == a1_0) = true := beq_iff_eq.mpr c6
   have c6b1 : (a0_0 != a1_0) = false := bne_eq_false_iff_eq.mpr c6
   clear c6
   (first | rw [c6b0] | (simp only [i64_w, i32_w]; rw [c6b0]) | skip)
   by_cases c7 : a0_2.toList = a1_2.toList
   ·rw [if_pos c7] at H
    have c7b0 : (a0_2.toList == a1_2.toList) = true := beq_iff_eq.mpr c7
    have c7b1 : (a0_2.toList != a1_2.toList) = false := bne_eq_false_iff_eq.mpr c7
    clear c7
    by_cases c8 : a0_3.toList = a1_3.toList
    ·rw [if_pos c8] at H
     have c8b0 : (a0_3.toList == a1_3.toList) = true := beq_iff_eq.mpr c8
     have c8b1 : (a0_3.toList != a1_3.toList) = false := bne_eq_false_iff_eq.mpr c8
     clear c8
     have H' := Aside0.mk H
     clear H
     have zas := zaq.out
     have zat := zar.out
     have zau : w5.cell? ⟨zai, 0, none⟩ = some (.int .i64 a0_0) := (blk_cell zaj.out 0).trans rfl
     have zav : w5.cell? ⟨zai, 1, none⟩ = some (.slice A0_1 l0_1.length c0_1) := (blk_cell zaj.out 1).trans rfl
     have zaw : w5.cell? ⟨zai, 2, none⟩ = some (.string a0_2) := (blk_cell zaj.out 2).trans rfl
     have zax : w5.cell? ⟨zai, 3, none⟩ = some (.string a0_3) := (blk_cell zaj.out 3).trans rfl
     have zay := blk_frozen zaj.out 0
     have zaz := blk_frozen zaj.out 1
     have zaA := blk_frozen zaj.out 2
     have zaB := blk_frozen zaj.out 3
     have zaC : w5.cell? ⟨zam, 0, none⟩ = some (.int .i64 a1_0) := (blk_cell zan.out 0).trans rfl
     have zaD : w5.cell? ⟨zam, 1, none⟩ = some (.slice A1_1 l1_1.length c1_1) := (blk_cell zan.out 1).trans rfl
     have zaE : w5.cell? ⟨zam, 2, none⟩ = some (.string a1_2) := (blk_cell zan.out 2).trans rfl
     have zaF : w5.cell? ⟨zam, 3, none⟩ = some (.string a1_3) := (blk_cell zan.out 3).trans rfl
     have zaG := blk_frozen zan.out 0
     have zaH := blk_frozen zan.out 1
     have zaI := blk_frozen zan.out 2
     have zaJ := blk_frozen zan.out 3
     go_wp2
     repeat (go_quiet (fail); try go_wp2)
     go_meet
     case rel => exact ⟨_, (((l0_1.length : Int) != (l1_1.length : Int))), M.eqv, H', ⟨by first | omega | exact Nat.le_refl _⟩, ⟨M.bk zaj⟩, ⟨M.bk zan⟩, ⟨M.up HB⟩⟩
    ·rw [if_neg c8] at H
     have c8b0 : (a0_3.toList == a1_3.toList) = false := beq_eq_false_iff_ne.mpr c8
     have c8b1 : (a0_3.toList != a1_3.toList) = true := bne_iff_ne.mpr c8
     have H' := Aside0.mk H
     clear H
     have zaK := zaq.out
     have zaL := zar.out
     have zaM : w5.cell? ⟨zai, 0, none⟩ = some (.int .i64 a0_0) := (blk_cell zaj.out 0).trans rfl
     have zaN : w5.cell? ⟨zai, 1, none⟩ = some (.slice A0_1 l0_1.length c0_1) := (blk_cell zaj.out 1).trans rfl
     have zaO : w5.cell? ⟨zai, 2, none⟩ = some (.string a0_2) := (blk_cell zaj.out 2).trans rfl
     have zaP : w5.cell? ⟨zai, 3, none⟩ = some (.string a0_3) := (blk_cell zaj.out 3).trans rfl
     have zaQ := blk_frozen zaj.out 0
     have zaR := blk_frozen zaj.out 1
     have zaS := blk_frozen zaj.out 2
     have zaT := blk_frozen zaj.out 3
     have zaU : w5.cell? ⟨zam, 0, none⟩ = some (.int .i64 a1_0) := (blk_cell zan.out 0).trans rfl
     have zaV : w5.cell? ⟨zam, 1, none⟩ = some (.slice A1_1 l1_1.length c1_1) := (blk_cell zan.out 1).trans rfl
     have zaW : w5.cell? ⟨zam, 2, none⟩ = some (.string a1_2) := (blk_cell zan.out 2).trans rfl
     have zaX : w5.cell? ⟨zam, 3, none⟩ = some (.string a1_3) := (blk_cell zan.out 3).trans rfl
     have zaY := blk_frozen zan.out 0
     have zaZ := blk_frozen zan.out 1
     have za0 := blk_frozen zan.out 2
     have za1 := blk_frozen zan.out 3
     go_wp2
     repeat (go_quiet (fail); try go_wp2)
     go_meet
     case rel => exact ⟨_, (true), M.eqv, H', ⟨by first | omega | exact Nat.le_refl _⟩, ⟨M.bk zaj⟩, ⟨M.bk zan⟩, ⟨M.up HB⟩⟩
   ·rw [if_neg c7] at H
    have c7b0 : (a0_2.toList == a1_2.toList) = false := beq_eq_false_iff_ne.mpr c7
    have c7b1 : (a0_2.toList != a1_2.toList) = true := bne_iff_ne.mpr c7
    have H' := Aside0.mk H
    clear H
    have za2 := zaq.out
    have za3 := zar.out
    have za4 : w5.cell? ⟨zai, 0, none⟩ = some (.int .i64 a0_0) := (blk_cell zaj.out 0).trans rfl
    have za5 : w5.cell? ⟨zai, 1, none⟩ = some (.slice A0_1 l0_1.length c0_1) := (blk_cell zaj.out 1).trans rfl
    have za6 : w5.cell? ⟨zai, 2, none⟩ = some (.string a0_2) := (blk_cell zaj.out 2).trans rfl
    have za7 : w5.cell? ⟨zai, 3, none⟩ = some (.string a0_3) := (blk_cell zaj.out 3).trans rfl
    have za8 := blk_frozen zaj.out 0
    have za9 := blk_frozen zaj.out 1
    have zba := blk_frozen zaj.out 2
    have zbb := blk_frozen zaj.out 3
    have zbc : w5.cell? ⟨zam, 0, none⟩ = some (.int .i64 a1_0) := (blk_cell zan.out 0).trans rfl
    have zbd : w5.cell? ⟨zam, 1, none⟩ = some (.slice A1_1 l1_1.length c1_1) := (blk_cell zan.out 1).trans rfl
    have zbe : w5.cell? ⟨zam, 2, none⟩ = some (.string a1_2) := (blk_cell zan.out 2).trans rfl
    have zbf : w5.cell? ⟨zam, 3, none⟩ = some (.string a1_3) := (blk_cell zan.out 3).trans rfl
    have zbg := blk_frozen zan.out 0
    have zbh := blk_frozen zan.out 1
    have zbi := blk_frozen zan.out 2
    have zbj := blk_frozen zan.out 3
    go_wp2
    repeat (go_quiet (fail); try go_wp2)
    go_meet
    case rel => exact ⟨_, (true), M.eqv, H', ⟨by first | omega | exact Nat.le_refl _⟩, ⟨M.bk zaj⟩, ⟨M.bk zan⟩, ⟨M.up HB⟩⟩
  ·rw [if_neg c6] at H
   have c6b0 : (a0_0 == a1_0) = false := beq_eq_false_iff_ne.mpr c6
   have c6b1 : (a0_0 != a1_0) = true := bne_iff_ne.mpr c6
   (first | rw [c6b0] | (simp only [i64_w, i32_w]; rw [c6b0]) | skip)
   have H' := Aside0.mk H
   clear H
   have zbk := zaq.out
   have zbl := zar.out
   have zbm : w5.cell? ⟨zai, 0, none⟩ = some (.int .i64 a0_0) := (blk_cell zaj.out 0).trans rfl
   have zbn : w5.cell? ⟨zai, 1, none⟩ = some (.slice A0_1 l0_1.length c0_1) := (blk_cell zaj.out 1).trans rfl
   have zbo : w5.cell? ⟨zai, 2, none⟩ = some (.string a0_2) := (blk_cell zaj.out 2).trans rfl
   have zbp : w5.cell? ⟨zai, 3, none⟩ = some (.string a0_3) := (blk_cell zaj.out 3).trans rfl
   have zbq := blk_frozen zaj.out 0
   have zbr := blk_frozen zaj.out 1
   have zbs := blk_frozen zaj.out 2
   have zbt := blk_frozen zaj.out 3
   have zbu : w5.cell? ⟨zam, 0, none⟩ = some (.int .i64 a1_0) := (blk_cell zan.out 0).trans rfl
   have zbv : w5.cell? ⟨zam, 1, none⟩ = some (.slice A1_1 l1_1.length c1_1) := (blk_cell zan.out 1).trans rfl
   have zbw : w5.cell? ⟨zam, 2, none⟩ = some (.string a1_2) := (blk_cell zan.out 2).trans rfl
   have zbx : w5.cell? ⟨zam, 3, none⟩ = some (.string a1_3) := (blk_cell zan.out 3).trans rfl
   have zby := blk_frozen zan.out 0
   have zbz := blk_frozen zan.out 1
   have zbA := blk_frozen zan.out 2
   have zbB := blk_frozen zan.out 3
   go_wp2
   repeat (go_quiet (fail); try go_wp2)
   go_meet
   case rel => exact ⟨_, (true), M.eqv, H', ⟨by first | omega | exact Nat.le_refl _⟩, ⟨M.bk zaj⟩, ⟨M.bk zan⟩, ⟨M.up HB⟩⟩
 case rest =>
  clear HC3
  (try clear c1); (try clear p2); (try clear c6); (try clear c6b0); (try clear c6b1); (try clear c7); (try clear c7b0); (try clear c7b1); (try clear c8); (try clear c8b0); (try clear c8b1); (try clear c9); (try clear c11); (try clear c12); (try clear c15); (try clear c18); (try clear zau); (try clear zav); (try clear zaw); (try clear zax); (try clear zaC); (try clear zaD); (try clear zaE); (try clear zaF); (try clear zaM); (try clear zaN); (try clear zaO); (try clear zaP); (try clear zaU); (try clear zaV); (try clear zaW); (try clear zaX); (try clear za4); (try clear za5); (try clear za6); (try clear za7); (try clear zbc); (try clear zbd); (try clear zbe); (try clear zbf); (try clear zbm); (try clear zbn); (try clear zbo); (try clear zbp); (try clear zbu); (try clear zbv); (try clear zbw); (try clear zbx); (try clear zay); (try clear zaz); (try clear zaA); (try clear zaB); (try clear zaG); (try clear zaH); (try clear zaI); (try clear zaJ); (try clear zaQ); (try clear zaR); (try clear zaS); (try clear zaT); (try clear zaY); (try clear zaZ); (try clear za0); (try clear za1); (try clear za8); (try clear za9); (try clear zba); (try clear zbb); (try clear zbg); (try clear zbh); (try clear zbi); (try clear zbj); (try clear zbq); (try clear zbr); (try clear zbs); (try clear zbt); (try clear zby); (try clear zbz); (try clear zbA); (try clear zbB)
  obtain ⟨kq, x33_2, rfl, HA, HJ2, zaj, zan, HB⟩ := hcut
  cases kq with
  | zero => exact absurd HA.out (by simp [pleachref35_Same_p.j0])
  | succ kj2 =>
   have H := HA.out
   clear HA
   simp only [pleachref35_Same_p.j0] at H
   by_cases c21 : x33_2 = true
   ·subst c21
    have H1 : (some false) = some r := by rw [if_pos rfl] at H; exact H
    clear H
    have H := H1
    clear H1
    obtain rfl := Option.some.inj H
    go_wp2
    repeat (go_quiet (fail); try go_wp2)
    go_ret
    exact M.fin (M.up HB)
   ·replace c21 := Bool.eq_false_iff.mpr c21
    subst c21
    have H1 : (pleachref35_Same_p.l0 kj2 (l0_1.length : Int) 0 a0_0 l0_1 a0_2 a0_3 a1_0 l1_1 a1_2 a1_3) = some r := by rw [if_neg (show ¬ (false = true) by decide)] at H; exact H
    clear H
    have H := H1
    clear H1
    have H' := Aside0.mk H
    clear H
    have zbC := zaq.out
    have zbD := zar.out
    have zbE : wc.cell? ⟨zai, 0, none⟩ = some (.int .i64 a0_0) := (blk_cell zaj.out 0).trans rfl
    have zbF : wc.cell? ⟨zai, 1, none⟩ = some (.slice A0_1 l0_1.length c0_1) := (blk_cell zaj.out 1).trans rfl
    have zbG : wc.cell? ⟨zai, 2, none⟩ = some (.string a0_2) := (blk_cell zaj.out 2).trans rfl
    have zbH : wc.cell? ⟨zai, 3, none⟩ = some (.string a0_3) := (blk_cell zaj.out 3).trans rfl
    have zbI := blk_frozen zaj.out 0
    have zbJ := blk_frozen zaj.out 1
    have zbK := blk_frozen zaj.out 2
    have zbL := blk_frozen zaj.out 3
    go_wp2
    repeat (go_quiet (fail); try go_wp2)
    go_loopg [37] kj2 (fun kq v37 w' => ∃ (x37_2 : Int), v37 = .int .i64 x37_2 ∧ Aside0 (pleachref35_Same_p.l0 kq (l0_1.length : Int) x37_2 a0_0 l0_1 a0_2 a0_3 a1_0 l1_1 a1_2 a1_3 = some r) ∧ Aside0 (kq ≤ kj2) ∧ Aside0 (w'.heap[zai]? = some (.cells #[.int .i64 a0_0, (.slice A0_1 l0_1.length c0_1), .string a0_2, .string a0_3] 24 (0, 0))) ∧ Aside0 (w'.heap[zam]? = some (.cells #[.int .i64 a1_0, (.slice A1_1 l1_1.length c1_1), .string a1_2, .string a1_3] 24 (0, 0))) ∧ Aside0 (Below w.heap.size w w'))
    case atStart => exact ⟨(0), M.eqv, H', ⟨Nat.le_refl _⟩, ⟨M.bk zaj⟩, ⟨M.bk zan⟩, ⟨M.up HB⟩⟩
    case round =>
     clear H'
     (try clear c1); (try clear c2); (try clear p2); (try clear c6); (try clear c6b0); (try clear c6b1); (try clear c7); (try clear c7b0); (try clear c7b1); (try clear c8); (try clear c8b0); (try clear c8b1); (try clear c9); (try clear c11); (try clear c12); (try clear c15); (try clear c18); (try clear c21); (try clear c22); (try clear zau); (try clear zav); (try clear zaw); (try clear zax); (try clear zaC); (try clear zaD); (try clear zaE); (try clear zaF); (try clear zaM); (try clear zaN); (try clear zaO); (try clear zaP); (try clear zaU); (try clear zaV); (try clear zaW); (try clear zaX); (try clear za4); (try clear za5); (try clear za6); (try clear za7); (try clear zbc); (try clear zbd); (try clear zbe); (try clear zbf); (try clear zbm); (try clear zbn); (try clear zbo); (try clear zbp); (try clear zbu); (try clear zbv); (try clear zbw); (try clear zbx); (try clear zbE); (try clear zbF); (try clear zbG); (try clear zbH); (try clear zay); (try clear zaz); (try clear zaA); (try clear zaB); (try clear zaG); (try clear zaH); (try clear zaI); (try clear zaJ); (try clear zaQ); (try clear zaR); (try clear zaS); (try clear zaT); (try clear zaY); (try clear zaZ); (try clear za0); (try clear za1); (try clear za8); (try clear za9); (try clear zba); (try clear zbb); (try clear zbg); (try clear zbh); (try clear zbi); (try clear zbj); (try clear zbq); (try clear zbr); (try clear zbs); (try clear zbt); (try clear zby); (try clear zbz); (try clear zbA); (try clear zbB); (try clear zbI); (try clear zbJ); (try clear zbK); (try clear zbL); (try clear p2)
     obtain ⟨x37_2, rfl, HA, HK2, zaj, zan, HB⟩ := hrel
     cases gk with
     | zero => exact absurd HA.out (by simp [pleachref35_Same_p.l0])
     | succ k2 =>
      have H := HA.out
      clear HA
      simp only [pleachref35_Same_p.l0] at H
      by_cases c24 : x37_2 < (l0_1.length : Int)
      ·rw [if_pos c24] at H
       have c24b0 := decide_eq_true c24
       clear c24
       by_cases c25 : 0 ≤ x37_2
       ·rw [if_pos c25] at H
        have c25b0 := decide_eq_true c25
        clear c25
        by_cases c26 : x37_2 < (l0_1.length : Int)
        ·rw [if_pos c26] at H
         have c26b0 := decide_eq_true c26
         clear c26
         by_cases c27 : x37_2 < (l1_1.length : Int)
         ·rw [if_pos c27] at H
          have c27b0 := decide_eq_true c27
          clear c27
          by_cases c28 : (rdOf ByteArray.empty l0_1 x37_2).toList = (rdOf ByteArray.empty l1_1 x37_2).toList
          ·rw [if_pos c28] at H
           have c28b0 : ((rdOf ByteArray.empty l0_1 x37_2).toList == (rdOf ByteArray.empty l1_1 x37_2).toList) = true := beq_iff_eq.mpr c28
           have c28b1 : ((rdOf ByteArray.empty l0_1 x37_2).toList != (rdOf ByteArray.empty l1_1 x37_2).toList) = false := bne_eq_false_iff_eq.mpr c28
           clear c28
           have H' := Aside0.mk H
           clear H
           have zbM := zaq.out
           have zbN := zar.out
           have zbO : wr.cell? ⟨zai, 0, none⟩ = some (.int .i64 a0_0) := (blk_cell zaj.out 0).trans rfl
           have zbP : wr.cell? ⟨zai, 1, none⟩ = some (.slice A0_1 l0_1.length c0_1) := (blk_cell zaj.out 1).trans rfl
           have zbQ : wr.cell? ⟨zai, 2, none⟩ = some (.string a0_2) := (blk_cell zaj.out 2).trans rfl
           have zbR : wr.cell? ⟨zai, 3, none⟩ = some (.string a0_3) := (blk_cell zaj.out 3).trans rfl
           have zbS := blk_frozen zaj.out 0
           have zbT := blk_frozen zaj.out 1
           have zbU := blk_frozen zaj.out 2
           have zbV := blk_frozen zaj.out 3
           have p183 : 0 ≤ (x37_2 : Int) := M.dt
           have q183 : x37_2 < (l0_1.length : Int) := M.dt
           obtain ⟨ad183, e183, hx183_0⟩ := Kd.at_string HR0_1.out x37_2 p183 q183
           cases e183
           replace hx183_0 := M.hc HB hx183_0
           replace p183 := eq_true p183
           replace q183 := eq_true q183
           have zbW : wr.cell? ⟨zam, 0, none⟩ = some (.int .i64 a1_0) := (blk_cell zan.out 0).trans rfl
           have zbX : wr.cell? ⟨zam, 1, none⟩ = some (.slice A1_1 l1_1.length c1_1) := (blk_cell zan.out 1).trans rfl
           have zbY : wr.cell? ⟨zam, 2, none⟩ = some (.string a1_2) := (blk_cell zan.out 2).trans rfl
           have zbZ : wr.cell? ⟨zam, 3, none⟩ = some (.string a1_3) := (blk_cell zan.out 3).trans rfl
           have zb0 := blk_frozen zan.out 0
           have zb1 := blk_frozen zan.out 1
           have zb2 := blk_frozen zan.out 2
           have zb3 := blk_frozen zan.out 3
           have p184 : 0 ≤ (x37_2 : Int) := M.dt
           have q184 : x37_2 < (l1_1.length : Int) := M.dt
           obtain ⟨ad184, e184, hx184_0⟩ := Kd.at_string HR1_1.out x37_2 p184 q184
           cases e184
           replace hx184_0 := M.hc HB hx184_0
           replace p184 := eq_true p184
           replace q184 := eq_true q184
           go_wp2
           repeat (go_quiet (fail); try go_wp2)
           go_roundg k2
           case measure => have := HJ2.out; have := HK2.out; omega
           case rel => exact ⟨(wrap64 (x37_2 + 1)), M.eqv, H', ⟨by have := HJ2.out; have := HK2.out; omega⟩, ⟨M.bk zaj⟩, ⟨M.bk zan⟩, ⟨M.up HB⟩⟩
          ·rw [if_neg c28] at H
           have c28b0 : ((rdOf ByteArray.empty l0_1 x37_2).toList == (rdOf ByteArray.empty l1_1 x37_2).toList) = false := beq_eq_false_iff_ne.mpr c28
           have c28b1 : ((rdOf ByteArray.empty l0_1 x37_2).toList != (rdOf ByteArray.empty l1_1 x37_2).toList) = true := bne_iff_ne.mpr c28
           obtain rfl := Option.some.inj H
           have zb4 := zaq.out
           have zb5 := zar.out
           have zb6 : wr.cell? ⟨zai, 0, none⟩ = some (.int .i64 a0_0) := (blk_cell zaj.out 0).trans rfl
           have zb7 : wr.cell? ⟨zai, 1, none⟩ = some (.slice A0_1 l0_1.length c0_1) := (blk_cell zaj.out 1).trans rfl
           have zb8 : wr.cell? ⟨zai, 2, none⟩ = some (.string a0_2) := (blk_cell zaj.out 2).trans rfl
           have zb9 : wr.cell? ⟨zai, 3, none⟩ = some (.string a0_3) := (blk_cell zaj.out 3).trans rfl
           have zca := blk_frozen zaj.out 0
           have zcb := blk_frozen zaj.out 1
           have zcc := blk_frozen zaj.out 2
           have zcd := blk_frozen zaj.out 3
           have p183 : 0 ≤ (x37_2 : Int) := M.dt
           have q183 : x37_2 < (l0_1.length : Int) := M.dt
           obtain ⟨ad183, e183, hx183_0⟩ := Kd.at_string HR0_1.out x37_2 p183 q183
           cases e183
           replace hx183_0 := M.hc HB hx183_0
           replace p183 := eq_true p183
           replace q183 := eq_true q183
           have zce : wr.cell? ⟨zam, 0, none⟩ = some (.int .i64 a1_0) := (blk_cell zan.out 0).trans rfl
           have zcf : wr.cell? ⟨zam, 1, none⟩ = some (.slice A1_1 l1_1.length c1_1) := (blk_cell zan.out 1).trans rfl
           have zcg : wr.cell? ⟨zam, 2, none⟩ = some (.string a1_2) := (blk_cell zan.out 2).trans rfl
           have zch : wr.cell? ⟨zam, 3, none⟩ = some (.string a1_3) := (blk_cell zan.out 3).trans rfl
           have zci := blk_frozen zan.out 0
           have zcj := blk_frozen zan.out 1
           have zck := blk_frozen zan.out 2
           have zcl := blk_frozen zan.out 3
           have p184 : 0 ≤ (x37_2 : Int) := M.dt
           have q184 : x37_2 < (l1_1.length : Int) := M.dt
           obtain ⟨ad184, e184, hx184_0⟩ := Kd.at_string HR1_1.out x37_2 p184 q184
           cases e184
           replace hx184_0 := M.hc HB hx184_0
           replace p184 := eq_true p184
           replace q184 := eq_true q184
           go_wp2
           repeat (go_quiet (fail); try go_wp2)
           go_ret
           exact M.fin (M.up HB)
         ·exact M.nf c27 H
        ·exact M.nf c26 H
       ·exact M.nf c25 H
      ·rw [if_neg c24] at H
       have c24b0 := decide_eq_false c24
       clear c24
       obtain rfl := Option.some.inj H
       go_wp2
       repeat (go_quiet (fail); try go_wp2)
       go_ret
       exact M.fin (M.up HB)
def pleachref35_Same.f (a0_0 : Int) (l0_1 : List ByteArray) (a0_2 : ByteArray) (a0_3 : ByteArray) (a1_0 : Int) (l1_1 : List ByteArray) (a1_2 : ByteArray) (a1_3 : ByteArray) : Option Bool :=
  if l0_1.length ≤ 9223372036854775806 then some (decide (a0_0 = a1_0 ∧ a0_2 = a1_2 ∧ a0_3 = a1_3 ∧ l0_1 = l1_1)) else none
theorem pleachref35_Same.eq_ {a b : ByteArray} : a.toList = b.toList ↔ a = b := ⟨fun h => M.bs_inj (by rw [← M.toList_bs, ← M.toList_bs, h]), fun h => by rw [h]⟩
theorem pleachref35_Same.loop (n : Int) (ps : List ByteArray) (g note : ByteArray) (n2 : Int) (qs : List ByteArray) (g2 note2 : ByteArray) (hl : ps.length ≤ 9223372036854775806) (he : ps.length = qs.length) (d : Nat) : ∀ (i : Nat), i + d = ps.length →
    pleachref35_Same_p.l0 (d + 1) (ps.length : Int) (i : Int) n ps g note n2 qs g2 note2 = some (decide (ps.drop i = qs.drop i)) := by
 induction d with
 | zero =>
  intro i hi
  rw [pleachref35_Same_p.l0, if_neg (by omega), List.drop_of_length_le (by omega), List.drop_of_length_le (by omega), decide_eq_true rfl]
 | succ d ih =>
  intro i hi
  have h1 : i < ps.length := by omega
  have h2 : i < qs.length := by omega
  have r1 : rdOf ByteArray.empty ps (i : Int) = ps[i] := by simp [rdOf, List.getD, h1]
  have r2 : rdOf ByteArray.empty qs (i : Int) = qs[i] := by simp [rdOf, List.getD, h2]
  rw [pleachref35_Same_p.l0, if_pos (by omega), if_pos (by omega), if_pos (by omega), if_pos (by omega), r1, r2, List.drop_eq_getElem_cons h1, List.drop_eq_getElem_cons h2]
  by_cases c : ps[i] = qs[i]
  ·rw [if_pos (pleachref35_Same.eq_.2 c), M.wrap64_id (by omega) (by omega), show (i : Int) + 1 = ((i + 1 : Nat) : Int) from by omega, ih (i + 1) (by omega)]
   congr 1
   exact decide_eq_decide.2 ⟨fun h => by rw [c, h], fun h => by injection h⟩
  ·rw [if_neg (fun z => c (pleachref35_Same.eq_.1 z)), decide_eq_false (fun z => c (by injection z))]
theorem pleachref35_Same.ev (n : Int) (ps : List ByteArray) (g note : ByteArray) (n2 : Int) (qs : List ByteArray) (g2 note2 : ByteArray) (r : Bool) (h : pleachref35_Same.f n ps g note n2 qs g2 note2 = some r) : ∃ k, pleachref35_Same_p.f k n ps g note n2 qs g2 note2 = some r := by
 unfold pleachref35_Same.f at h
 split at h
 case isFalse => cases h
 case isTrue hl =>
  obtain rfl := Option.some.inj h
  refine ⟨ps.length + 1 + 1, ?_⟩
  unfold pleachref35_Same_p.f
  have hf : ∀ b, pleachref35_Same_p.j0 (ps.length + 1 + 1) b n ps g note n2 qs g2 note2 = if b = true then some false else pleachref35_Same_p.l0 (ps.length + 1) (ps.length : Int) 0 n ps g note n2 qs g2 note2 := fun b => by rw [pleachref35_Same_p.j0]
  rw [hf, hf]
  by_cases c1 : n = n2
  ·rw [if_pos c1]
   by_cases c2 : g = g2
   ·rw [if_pos (pleachref35_Same.eq_.2 c2)]
    by_cases c3 : note = note2
    ·rw [if_pos (pleachref35_Same.eq_.2 c3)]
     by_cases c4 : ps.length = qs.length
     ·rw [if_neg (by simp [c4])]
      have := pleachref35_Same.loop n ps g note n2 qs g2 note2 hl c4 ps.length 0 (by omega)
      rw [show ((0 : Nat) : Int) = 0 from rfl, List.drop_zero, List.drop_zero] at this
      rw [this]
      congr 1
      exact decide_eq_decide.2 ⟨fun h => ⟨c1, c2, c3, h⟩, fun h => h.2.2.2⟩
     ·rw [if_pos (bne_iff_ne.2 (by omega)), decide_eq_false (fun z => c4 (by rw [z.2.2.2]))]
    ·rw [if_neg (fun z => c3 (pleachref35_Same.eq_.1 z)), if_pos rfl, decide_eq_false (fun z => c3 z.2.2.1)]
   ·rw [if_neg (fun z => c2 (pleachref35_Same.eq_.1 z)), if_pos rfl, decide_eq_false (fun z => c2 z.2.1)]
  ·rw [if_neg c1, if_pos rfl, decide_eq_false (fun z => c1 z.1)]
theorem pleachref35_Same.calls (a0_0 : Int) (A0_1 : Option Addr) (c0_1 : Nat) (l0_1 : List ByteArray) (a0_2 : ByteArray) (a0_3 : ByteArray) (a1_0 : Int) (A1_1 : Option Addr) (c1_1 : Nat) (l1_1 : List ByteArray) (a1_2 : ByteArray) (a1_3 : ByteArray) (r : Bool) (w : World) (hr0_1 : Kd.C Kd.string w A0_1 l0_1.length l0_1) (hc0_1 : l0_1.length ≤ c0_1) (hr1_1 : Kd.C Kd.string w A1_1 l1_1.length l1_1) (hc1_1 : l1_1.length ≤ c1_1) (h : pleachref35_Same.f a0_0 l0_1 a0_2 a0_3 a1_0 l1_1 a1_2 a1_3 = some r) :
    Calls Tryd.prog 11 #[.agg #[.int .i64 a0_0, .slice A0_1 l0_1.length c0_1, .string a0_2, .string a0_3], .agg #[.int .i64 a1_0, .slice A1_1 l1_1.length c1_1, .string a1_2, .string a1_3]] w fun e w' => e = .returned (.bool r) ∧ Below w.heap.size w w' := by
 obtain ⟨k, hk⟩ := pleachref35_Same.ev _ _ _ _ _ _ _ _ _ h
 exact pleachref35_Same_p.calls (k := k) (w := w) (h := hk) (hr0_1 := hr0_1) (hc0_1 := hc0_1) (hr1_1 := hr1_1) (hc1_1 := hc1_1)
end Go.Proofs.YtikdbklmhjlfoaaDoor.ECommitBack
