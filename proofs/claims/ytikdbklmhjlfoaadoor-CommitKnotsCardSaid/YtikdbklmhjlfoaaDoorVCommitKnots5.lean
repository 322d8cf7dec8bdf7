-- Laid by this session's own program (wip/tools/fold.py): this session's texts, cut to what the claim names and put together; Lean checks it.
import Derived.Test.YtikdbklmhjlfoaaDoorVCommitKnots1
import Derived.Test.YtikdbklmhjlfoaaDoorVCommitKnots3
import Derived.Test.YtikdbklmhjlfoaaDoorVCommitKnots4
import Derived.Test.YtikdbklmhjlfoaaDoorXCommitKnots1
namespace Go.Proofs.YtikdbklmhjlfoaaDoor.ECommitKnots
open Go.RowKit Go.Proofs.YtikdbklmhjlfoaaDoorW.PrintWords Go.Proofs.YtikdbklmhjlfoaaDoorW.PrintLast Go.Proofs.YtikdbklmhjlfoaaDoorW.PrintMore
attribute [local go_sem] M.run_leq M.run_gtr M.run_geq max2_int min2_int max_two min_two max_three min_three max_four min_four
set_option linter.unusedVariables false
set_option linter.unusedSimpArgs false
section
variable {P : Program} {ops : Array Oper} {o : Oper} {a : Act} {Q : Exit → Act → World → Prop} {Kc : Act → World → Prop}
theorem shelf_Shelf_Put.app {w0 W : World} (base : Nat) (hw : Region.wanted o (yielded ops a.tmps) = true) (s x : Operand) (ho : o.op = .call { callee := .builtin .append, args := #[s, x], argTypes := #[22, 22] })
    (ht : P.underlying 22 = some (.slice 9)) (z : Value) (bytes : Nat) (hinfo : (P.info? 9).map (fun i => (i.zero, i.size, i.bytes)) = some (some z, 1, bytes)) (hz : z.cells.size = 1) (hb0 : 0 < bytes)
    (v : Value) (xs : List ByteArray) (y : ByteArray) (b : Nat) (hs : a.eval s = v) (hx : a.eval x = .slice (some ⟨b, 0, none⟩) 1 1) (HO : M.rowW W base v xs.length (xs.map .string)) (hy : W.cell? ⟨b, 0, none⟩ = some (.string y))
    (HB : Below base w0 W) (hbase : base ≤ W.heap.size) (hl : (xs.length + 1) * bytes ≤ 140737488355328)
    (h : ∀ v1 w1, M.rowW w1 base v1 (xs.length + 1) ((xs ++ [y]).map .string) → Below base w0 w1 → W.grownBy w1 v.ownBlock → (v1.ownBlock = v.ownBlock ∨ ∃ b, v1.ownBlock = some b ∧ W.heap.size ≤ b) → Kc (a.put o.dst v1) w1) :
    if Region.wanted o (yielded ops a.tmps) = true then Oper.wp P o a W Kc Q else Kc (a.put o.dst undef) W := by
 have own_ : W.ownsRow base 9 1 v xs.length (xs.map .string) → (if Region.wanted o (yielded ops a.tmps) = true then Oper.wp P o a W Kc Q else Kc (a.put o.dst undef) W) := by
  intro HO'
  refine Kd.R_append_rows_step Kd.string (Rr := fun x cs => cs = [.string x]) (okp := fun _ => False) (ok := fun _ => True) base hw s x 22 9 z bytes ho ht hinfo hz (by decide) hb0 v xs [y] (some ⟨b, 0, none⟩) 1 1 hs hx (Kd.R_of_own HO' (fun _ _ => trivial)) ⟨rfl, by decide, fun _ => ⟨_, rfl, fun j p hp => ?_⟩⟩ (fun _ _ e => e) (fun _ h => h.elim) (fun _ _ => trivial) HB hbase hl ?_
  ·have hj : j = 0 := by have := (List.getElem?_eq_some_iff.1 hp).1; simpa using this
   subst hj
   obtain rfl : y = p := by simpa using hp
   refine ⟨[.string y], rfl, rfl, fun i u hu => ?_⟩
   have hi : i = 0 := by have := (List.getElem?_eq_some_iff.1 hu).1; simpa using this
   subst hi
   obtain rfl : Value.string y = u := by simpa using hu
   rw [Nat.zero_mul, Nat.zero_add, add_plain]
   exact hy
  ·intro v1 w1 hR hB hg hat
   have := Kd.own_of_R hR
   rw [List.length_append] at this
   exact h v1 w1 (M.rowW_of_own this) hB hg hat
 rcases HO.2 with ⟨e, e0⟩ | ⟨g, cap, cur, e, hg, hh, hn, hm, hs2, he, htk⟩
 ·exact own_ ⟨by rw [Nat.mul_one]; exact HO.1, .inl ⟨e, e0⟩⟩
 ·by_cases hc : xs.length < cap
  ·refine own_ ?_
   rw [e] at HO ⊢
   exact M.rowW_own HO hc
  ·have hcap : cap = xs.length := by omega
   subst hcap
   obtain ⟨i0, hi, hzz⟩ := Option.map_eq_some_iff.1 hinfo
   simp only [Prod.mk.injEq] at hzz
   obtain ⟨hz0, hz1, hz2⟩ := hzz
   have hmx : xs.length + 1 ≤ maxLen := by
    have : (xs.length + 1) * 1 ≤ (xs.length + 1) * bytes := Nat.mul_le_mul_left _ hb0
    unfold maxLen; omega
   obtain ⟨v', w', hrun, r1, r2⟩ := run_append_arg_grows (P := P) W 22 o.type 9 i0 z 1 bytes ht hi hz0 hz1 hz2 hz (by decide) ⟨g, 0, none⟩ xs.length xs.length (xs.map .string) (by rw [List.length_map, Nat.mul_one]) (fun j u hu => HO.cells (by rw [e]; rfl) j u hu) ⟨b, 0, none⟩ 1 1 [.string y] rfl (fun j u hu => by
    have hj : j = 0 := by have := (List.getElem?_eq_some_iff.1 hu).1; simpa using this
    subst hj
    obtain rfl : Value.string y = u := by simpa using hu
    rw [add_plain]
    exact hy) (by omega) hmx hl
   rw [e] at hs
   rw [if_pos hw]
   unfold Oper.wp
   simp [execOp, ho, resolve, invoke, builtin, hs, hx, hrun, Result.andThen]
   have hgb : W.grownBy w' v.ownBlock := ⟨r2.os, r2.tape, r2.output, r2.size, fun k hk _ => r2.block k hk (by simp)⟩
   refine h v' w' (M.row_lower (M.rowW_of_own (by rw [List.map_append]; exact r1)) hbase) (HB.grown r2 hbase (fun k hk => by cases hk)) hgb ?_
   rcases r1.2 with ⟨_, h0⟩ | ⟨g1, c1, cu1, e1, hg1, _⟩
   ·omega
   ·exact .inr ⟨g1, by rw [e1]; rfl, hg1⟩
end
set_option maxHeartbeats 8000000 in
set_option maxRecDepth 100000 in
theorem shelf_Shelf_Put.empty (base g B : Nat) (D : DataW Unit) (vt vn : Value) (ts : List ByteArray) (a b : ByteArray) (w : World) (hS : M.shelf Tryd.prog base w g B D vt vn ts a b) :
    Calls Tryd.prog 23 #[.pointer (some ⟨g, 0, none⟩), .string ByteArray.empty] w fun e w' => e = .returned (.tuple #[.string ByteArray.empty, .int .i64 2]) ∧ w = w' := by
 have HS := Aside0.mk hS
 have hd : (ByteArray.empty : ByteArray).toList.isEmpty = true := by decide +kernel
 clear hS
 go_enter Tryd.func23, Tryd.ntmps23
 go_wp2_with (first | (go_at_call 44; (with_reducible refine (shelf_Shelf_there.calls base g B D vt vn ts a b _ HS.out).mono ?_); rintro e w1 ⟨rfl, rfl⟩))
 exact bodyPost_ret (v := .tuple #[.string ByteArray.empty, .int .i64 2]) (by simp [results, Tryd.results23, go_sem]; rfl) rfl ⟨rfl, rfl⟩
set_option maxHeartbeats 8000000 in
set_option maxRecDepth 100000 in
theorem shelf_Shelf_Put.long (base g B : Nat) (D : DataW Unit) (vt vn : Value) (ts : List ByteArray) (a b t : ByteArray) (w : World) (hS : M.shelf Tryd.prog base w g B D vt vn ts a b) (ht : 65536 < t.size) (hz : t.size ≤ 1000000000000) :
    Calls Tryd.prog 23 #[.pointer (some ⟨g, 0, none⟩), .string t] w fun e w' => e = .returned (.tuple #[.string ByteArray.empty, .int .i64 5]) ∧ w = w' := by
 have HS := Aside0.mk hS
 have hd : t.toList.isEmpty = false := M.nonempty (fun e => by rw [e] at ht; exact absurd ht (by decide))
 have hdd : decide ((65536 : Int) < (t.size : Int)) = true := decide_eq_true (by omega)
 clear hS
 go_enter Tryd.func23, Tryd.ntmps23
 go_wp2_with (first | (go_at_call 44; (with_reducible refine (shelf_Shelf_there.calls base g B D vt vn ts a b _ HS.out).mono ?_); rintro e w1 ⟨rfl, rfl⟩))
 exact bodyPost_ret (v := .tuple #[.string ByteArray.empty, .int .i64 5]) (by simp [results, Tryd.results23, go_sem]; rfl) rfl ⟨rfl, rfl⟩
set_option maxHeartbeats 8000000 in
set_option maxRecDepth 100000 in
theorem shelf_Shelf_Put.met (base g B : Nat) (D : DataW Unit) (vt vn : Value) (ts : List ByteArray) (a b t : ByteArray) (i : Nat) (w : World) (hS : M.shelf Tryd.prog base w g B D vt vn ts a b) (hT : M.stab w) (h0 : t ≠ ByteArray.empty) (hl : t.size ≤ 65536) (hn : M.idx (ts.map M.shaSum) (M.shaSum t).data.toList = some i) (he : ts.getD i ByteArray.empty = t) :
    Calls Tryd.prog 23 #[.pointer (some ⟨g, 0, none⟩), .string t] w fun e w' => e = .returned (.tuple #[.string (M.shaSum t), .int .i64 0]) ∧ M.shelf Tryd.prog base w' g B D vt vn ts a b ∧ Below w.heap.size w w' := by
 have hz : t.size ≤ 1000000000000 := by omega
 have hi : i < ts.length := by have := (M.idx_lt hn).1; simpa using this
 obtain ⟨gt, cap, rfl, _, _⟩ := hS.rt.form (by omega)
 have hd : t.toList.isEmpty = false := M.nonempty h0
 have hdd : decide ((65536 : Int) < (t.size : Int)) = false := decide_eq_false (by omega)
 have hKEY := Go.WideMaps.keyOf_string_mk Tryd.underlying9 (show (M.shaSum t).size ≤ maxLen from by have := M.shaSum_size t; unfold maxLen; omega)
 have h1 := (hS.says (M.shaSum t).data.toList).1
 have h2 := (hS.says (M.shaSum t).data.toList).2
 rw [hn] at h1 h2
 have HS := Aside0.mk hS
 have HT1 := Aside0.mk (M.stab_below hT (below_alloc (Below.refl w.heap.size w) (.cells #[.string t] 9)) (M.stab_lt hT))
 have HC1 := Aside0.mk (show (w.alloc (.cells #[.string t] 9)).cell? ⟨w.heap.size, 0, none⟩ = some (.string t) from M.blk_cell (heap_alloc_new w _) 0 _ rfl)
 have g0 : (0 : Int) ≤ (i : Int) := by omega
 have g1 : (i : Int) < (ts.length : Int) := by omega
 obtain ⟨x, hx⟩ : ∃ x, x = ts.getD i ByteArray.empty := ⟨_, rfl⟩
 have HX := Aside0.mk hx.symm
 obtain rfl : x = t := hx.trans he
 clear hS hT he hn hx
 go_enter Tryd.func23, Tryd.ntmps23
 go_wp2_with (first | (go_at_call 44; (with_reducible refine (shelf_Shelf_there.calls base g B D _ vn ts a b _ HS.out).mono ?_); rintro e w1 ⟨rfl, rfl⟩) | (go_at_call 47; (with_reducible refine (sha_Sum.calls ⟨w.heap.size, 0, none⟩ 1 x _ HT1.out HC1.out (Nat.le_refl _) hz).mono ?_); rintro e w2 ⟨rfl, hb2⟩; have HB2 := Aside0.mk (below_step (below_alloc (Below.refl w.heap.size w) _) hb2); have HS2 := Aside0.mk (M.shelf_below HS.out HB2.out); have d0 : w2.cell? ⟨g, 0, none⟩ = some (.map (some B)) := M.blk_cell HS2.out.blk 0 _ rfl; have hown2 := HS2.out.map; have d1 : w2.cell? ⟨g, 1, none⟩ = some (.slice (some ⟨gt, 0, none⟩) ts.length cap) := M.blk_cell HS2.out.blk 1 _ rfl; have di : w2.cell? ⟨gt, i, none⟩ = some (.string x) := M.row_cell HS2.out.rt i x hi HX.out; clear hb2) | (at_lookup; refine wpList_lookup_own_ok_int _ rfl _ _ 78 rfl 9 3 .i64 shelf_Shelf_there.law Tryd.underlying78 Tryd.underlying3 (shelf_Shelf_there.zero_ _) B ts.length D rfl hown2 _ _ rfl hKEY ?_; intro c hat hwc; obtain rfl : c = (i : Int) := by (rw [h2] at hat; simpa using hat.symm)))
 exact bodyPost_ret (v := .tuple #[.string (M.shaSum x), .int .i64 0]) (by simp [results, Tryd.results23, go_sem]) rfl ⟨rfl, HS2.out, HB2.out⟩
set_option maxHeartbeats 8000000 in
set_option maxRecDepth 100000 in
theorem shelf_Shelf_Put.clash1 (base g B : Nat) (D : DataW Unit) (vt vn : Value) (ts : List ByteArray) (a b t : ByteArray) (i : Nat) (w : World) (hS : M.shelf Tryd.prog base w g B D vt vn ts a b) (hT : M.stab w) (h0 : t ≠ ByteArray.empty) (hl : t.size ≤ 65536) (hn : M.idx (ts.map M.shaSum) (M.shaSum t).data.toList = some i) (he : ts.getD i ByteArray.empty ≠ t) (ha : a = ByteArray.empty) :
    Calls Tryd.prog 23 #[.pointer (some ⟨g, 0, none⟩), .string t] w fun e w' => e = .returned (.tuple #[.string ByteArray.empty, .int .i64 15]) ∧ M.shelf Tryd.prog base w' g B D vt vn ts (ts.getD i ByteArray.empty) t ∧ Below base w w' ∧ Kept w w' (M.feet g B vt vn) := by
 subst ha
 have had : (ByteArray.empty : ByteArray).toList.isEmpty = true := by decide +kernel
 have hz : t.size ≤ 1000000000000 := by omega
 have hi : i < ts.length := by have := (M.idx_lt hn).1; simpa using this
 obtain ⟨gt, cap, rfl, _, _⟩ := hS.rt.form (by omega)
 have hd : t.toList.isEmpty = false := M.nonempty h0
 have hdd : decide ((65536 : Int) < (t.size : Int)) = false := decide_eq_false (by omega)
 have hKEY := Go.WideMaps.keyOf_string_mk Tryd.underlying9 (show (M.shaSum t).size ≤ maxLen from by have := M.shaSum_size t; unfold maxLen; omega)
 have h1 := (hS.says (M.shaSum t).data.toList).1
 have h2 := (hS.says (M.shaSum t).data.toList).2
 rw [hn] at h1 h2
 have HS := Aside0.mk hS
 have HBS := Aside0.mk (show base ≤ w.heap.size from Nat.le_of_lt (Nat.lt_of_le_of_lt hS.gb (M.lt_blk hS.blk)))
 have HT1 := Aside0.mk (M.stab_below hT (below_alloc (Below.refl w.heap.size w) (.cells #[.string t] 9)) (M.stab_lt hT))
 have HC1 := Aside0.mk (show (w.alloc (.cells #[.string t] 9)).cell? ⟨w.heap.size, 0, none⟩ = some (.string t) from M.blk_cell (heap_alloc_new w _) 0 _ rfl)
 have g0 : (0 : Int) ≤ (i : Int) := by omega
 have g1 : (i : Int) < (ts.length : Int) := by omega
 obtain ⟨x, hx⟩ : ∃ x, x = ts.getD i ByteArray.empty := ⟨_, rfl⟩
 have HX := Aside0.mk hx.symm
 have hxt : x ≠ t := fun e => he (hx.symm.trans e)
 have hxd : (x.toList == t.toList) = false := by simpa using M.unlike hxt
 clear hS hT he hn hx
 go_enter Tryd.func23, Tryd.ntmps23
 go_wp2_with (first | (go_at_call 44; (with_reducible refine (shelf_Shelf_there.calls base g B D _ vn ts ByteArray.empty b _ HS.out).mono ?_); rintro e w1 ⟨rfl, rfl⟩) | (go_at_call 47; (with_reducible refine (sha_Sum.calls ⟨w.heap.size, 0, none⟩ 1 t _ HT1.out HC1.out (Nat.le_refl _) hz).mono ?_); rintro e w2 ⟨rfl, hb2⟩; have HB2 := Aside0.mk (below_step (below_alloc (Below.refl w.heap.size w) _) hb2); have HS2 := Aside0.mk (M.shelf_below HS.out HB2.out); have d0 : w2.cell? ⟨g, 0, none⟩ = some (.map (some B)) := M.blk_cell HS2.out.blk 0 _ rfl; have hown2 := HS2.out.map; have d1 : w2.cell? ⟨g, 1, none⟩ = some (.slice (some ⟨gt, 0, none⟩) ts.length cap) := M.blk_cell HS2.out.blk 1 _ rfl; have d3 : w2.cell? ⟨g, 3, none⟩ = some (.string ByteArray.empty) := M.blk_cell HS2.out.blk 3 _ rfl; have f3 := M.blk_free HS2.out.blk 3; have f4 := M.blk_free HS2.out.blk 4; have d4 : w2.cell? ⟨g, 4, none⟩ = some (.string b) := M.blk_cell HS2.out.blk 4 _ rfl; have di : w2.cell? ⟨gt, i, none⟩ = some (.string x) := M.row_cell HS2.out.rt i x hi HX.out; clear hb2) | (at_lookup; refine wpList_lookup_own_ok_int _ rfl _ _ 78 rfl 9 3 .i64 shelf_Shelf_there.law Tryd.underlying78 Tryd.underlying3 (shelf_Shelf_there.zero_ _) B ts.length D rfl hown2 _ _ rfl hKEY ?_; intro c hat hwc; obtain rfl : c = (i : Int) := by (rw [h2] at hat; simpa using hat.symm)))
 exact bodyPost_ret (v := .tuple #[.string ByteArray.empty, .int .i64 15]) (by simp [results, Tryd.results23, go_sem]; rfl) rfl ⟨rfl, by rw [HX.out]; exact M.shelf_clash HS2.out x t, ((HB2.out.mono HBS.out).setCell (p := ⟨g, 3, none⟩) HS2.out.gb _).setCell (p := ⟨g, 4, none⟩) HS2.out.gb _, ((Kept.of_below HB2.out (M.feet g B (.slice (some ⟨gt, 0, none⟩) ts.length cap) vn)).setCell (p := ⟨g, 3, none⟩) (.inl (.inl rfl)) _).setCell (p := ⟨g, 4, none⟩) (.inl (.inl rfl)) _⟩
set_option maxHeartbeats 8000000 in
set_option maxRecDepth 100000 in
theorem shelf_Shelf_Put.clash2 (base g B : Nat) (D : DataW Unit) (vt vn : Value) (ts : List ByteArray) (a b t : ByteArray) (i : Nat) (w : World) (hS : M.shelf Tryd.prog base w g B D vt vn ts a b) (hT : M.stab w) (h0 : t ≠ ByteArray.empty) (hl : t.size ≤ 65536) (hn : M.idx (ts.map M.shaSum) (M.shaSum t).data.toList = some i) (he : ts.getD i ByteArray.empty ≠ t) (ha : a ≠ ByteArray.empty) :
    Calls Tryd.prog 23 #[.pointer (some ⟨g, 0, none⟩), .string t] w fun e w' => e = .returned (.tuple #[.string ByteArray.empty, .int .i64 15]) ∧ M.shelf Tryd.prog base w' g B D vt vn ts a b ∧ Below w.heap.size w w' := by
 have had := M.nonempty ha
 have hz : t.size ≤ 1000000000000 := by omega
 have hi : i < ts.length := by have := (M.idx_lt hn).1; simpa using this
 obtain ⟨gt, cap, rfl, _, _⟩ := hS.rt.form (by omega)
 have hd : t.toList.isEmpty = false := M.nonempty h0
 have hdd : decide ((65536 : Int) < (t.size : Int)) = false := decide_eq_false (by omega)
 have hKEY := Go.WideMaps.keyOf_string_mk Tryd.underlying9 (show (M.shaSum t).size ≤ maxLen from by have := M.shaSum_size t; unfold maxLen; omega)
 have h1 := (hS.says (M.shaSum t).data.toList).1
 have h2 := (hS.says (M.shaSum t).data.toList).2
 rw [hn] at h1 h2
 have HS := Aside0.mk hS
 have HT1 := Aside0.mk (M.stab_below hT (below_alloc (Below.refl w.heap.size w) (.cells #[.string t] 9)) (M.stab_lt hT))
 have HC1 := Aside0.mk (show (w.alloc (.cells #[.string t] 9)).cell? ⟨w.heap.size, 0, none⟩ = some (.string t) from M.blk_cell (heap_alloc_new w _) 0 _ rfl)
 have g0 : (0 : Int) ≤ (i : Int) := by omega
 have g1 : (i : Int) < (ts.length : Int) := by omega
 obtain ⟨x, hx⟩ : ∃ x, x = ts.getD i ByteArray.empty := ⟨_, rfl⟩
 have HX := Aside0.mk hx.symm
 have hxt : x ≠ t := fun e => he (hx.symm.trans e)
 have hxd : (x.toList == t.toList) = false := by simpa using M.unlike hxt
 clear hS hT he hn hx
 go_enter Tryd.func23, Tryd.ntmps23
 go_wp2_with (first | (go_at_call 44; (with_reducible refine (shelf_Shelf_there.calls base g B D _ vn ts a b _ HS.out).mono ?_); rintro e w1 ⟨rfl, rfl⟩) | (go_at_call 47; (with_reducible refine (sha_Sum.calls ⟨w.heap.size, 0, none⟩ 1 t _ HT1.out HC1.out (Nat.le_refl _) hz).mono ?_); rintro e w2 ⟨rfl, hb2⟩; have HB2 := Aside0.mk (below_step (below_alloc (Below.refl w.heap.size w) _) hb2); have HS2 := Aside0.mk (M.shelf_below HS.out HB2.out); have d0 : w2.cell? ⟨g, 0, none⟩ = some (.map (some B)) := M.blk_cell HS2.out.blk 0 _ rfl; have hown2 := HS2.out.map; have d1 : w2.cell? ⟨g, 1, none⟩ = some (.slice (some ⟨gt, 0, none⟩) ts.length cap) := M.blk_cell HS2.out.blk 1 _ rfl; have d3 : w2.cell? ⟨g, 3, none⟩ = some (.string a) := M.blk_cell HS2.out.blk 3 _ rfl; have f3 := M.blk_free HS2.out.blk 3; have f4 := M.blk_free HS2.out.blk 4; have d4 : w2.cell? ⟨g, 4, none⟩ = some (.string b) := M.blk_cell HS2.out.blk 4 _ rfl; have di : w2.cell? ⟨gt, i, none⟩ = some (.string x) := M.row_cell HS2.out.rt i x hi HX.out; clear hb2) | (at_lookup; refine wpList_lookup_own_ok_int _ rfl _ _ 78 rfl 9 3 .i64 shelf_Shelf_there.law Tryd.underlying78 Tryd.underlying3 (shelf_Shelf_there.zero_ _) B ts.length D rfl hown2 _ _ rfl hKEY ?_; intro c hat hwc; obtain rfl : c = (i : Int) := by (rw [h2] at hat; simpa using hat.symm)))
 exact bodyPost_ret (v := .tuple #[.string ByteArray.empty, .int .i64 15]) (by simp [results, Tryd.results23, go_sem]; rfl) rfl ⟨rfl, HS2.out, HB2.out⟩
theorem shelf_Shelf_Put.i9 : (Tryd.prog.info? 9).map (fun i => (i.zero, i.size, i.bytes)) = some (some (.string ByteArray.empty), 1, 16) := by kernel_rfl
set_option maxHeartbeats 8000000 in
set_option maxRecDepth 100000 in
theorem shelf_Shelf_Put.new (base g B : Nat) (D : DataW Unit) (vt vn : Value) (ts : List ByteArray) (a b t : ByteArray) (w : World) (hS : M.shelf Tryd.prog base w g B D vt vn ts a b) (hT : M.stab w) (h0 : t ≠ ByteArray.empty) (hl : t.size ≤ 65536) (hts : ts.length ≤ 1000000000) (hn : M.idx (ts.map M.shaSum) (M.shaSum t).data.toList = none) :
    Calls Tryd.prog 23 #[.pointer (some ⟨g, 0, none⟩), .string t] w fun e w' => e = .returned (.tuple #[.string (M.shaSum t), .int .i64 0]) ∧ ∃ D' vt' vn', M.shelf Tryd.prog base w' g B D' vt' vn' (ts ++ [t]) a b ∧ Below base w w' ∧ Kept w w' (M.feet g B vt vn) ∧ ∀ k, M.feet g B vt' vn' k → M.feet g B vt vn k ∨ w.heap.size ≤ k := by
 have hz : t.size ≤ 1000000000000 := by omega
 obtain ⟨At, ct, rfl⟩ := M.rowW_slice hS.rt
 obtain ⟨An, cn, rfl⟩ := M.rowW_slice hS.rn
 have hd : t.toList.isEmpty = false := M.nonempty h0
 have hdd : decide ((65536 : Int) < (t.size : Int)) = false := decide_eq_false (by omega)
 have hKEY := Go.WideMaps.keyOf_string_mk Tryd.underlying9 (show (M.shaSum t).size ≤ maxLen from by have := M.shaSum_size t; unfold maxLen; omega)
 have h1 := (hS.says (M.shaSum t).data.toList).1
 rw [hn] at h1
 have HS := Aside0.mk hS
 have HSay := Aside0.mk (M.told_new hS.says hS.map.isMap (M.shaSum t) hn)
 have HND := Aside0.mk (M.nd_snoc hS.nd hn)
 have HBS := Aside0.mk (show base ≤ w.heap.size from Nat.le_of_lt (Nat.lt_of_le_of_lt hS.gb (M.lt_blk hS.blk)))
 have HT1 := Aside0.mk (M.stab_below hT (below_alloc (Below.refl w.heap.size w) (.cells #[.string t] 9)) (M.stab_lt hT))
 have HC1 := Aside0.mk (show (w.alloc (.cells #[.string t] 9)).cell? ⟨w.heap.size, 0, none⟩ = some (.string t) from M.blk_cell (heap_alloc_new w _) 0 _ rfl)
 clear hS hT hn
 go_enter Tryd.func23, Tryd.ntmps23
 go_wp2_with (first | (go_at_call 44; (with_reducible refine (shelf_Shelf_there.calls base g B D _ _ ts a b _ HS.out).mono ?_); rintro e w1 ⟨rfl, rfl⟩) | (go_at_call 47; (with_reducible refine (sha_Sum.calls ⟨w.heap.size, 0, none⟩ 1 t _ HT1.out HC1.out (Nat.le_refl _) hz).mono ?_); rintro e w2 ⟨rfl, hb2⟩; have HB2 := Aside0.mk (below_step (below_alloc (Below.refl w.heap.size w) _) hb2); have HS2 := Aside0.mk (M.shelf_below HS.out HB2.out); have d0 : w2.cell? ⟨g, 0, none⟩ = some (.map (some B)) := M.blk_cell HS2.out.blk 0 _ rfl; have d1 : w2.cell? ⟨g, 1, none⟩ = some (.slice At ts.length ct) := M.blk_cell HS2.out.blk 1 _ rfl; have hown2 := HS2.out.map; clear hb2) | (at_lookup; refine wpList_lookup_own_ok_int _ rfl _ _ 78 rfl 9 3 .i64 shelf_Shelf_there.law Tryd.underlying78 Tryd.underlying3 (shelf_Shelf_there.zero_ _) B ts.length D rfl hown2 _ _ rfl hKEY ?_; intro c hat hwc))
 obtain ⟨w3, hrun, hown3, hgr3⟩ := (World.ownsMap.drew hown2).update (t := 78) (e := 3) shelf_Shelf_there.law Tryd.underlying78 (by unfold maxLen; omega) hKEY (plainElem_int (q := .i64) Tryd.underlying3 (WalkArith.wf_i64 (show -9223372036854775808 ≤ (ts.length : Int) ∧ (ts.length : Int) ≤ 9223372036854775807 by omega)))
 have hblk3 : w3.heap[g]? = some (.cells #[.map (some B), .slice At ts.length ct, .slice An ts.length cn, .string a, .string b] 81 (0, 0)) := (hgr3.block g (M.lt_blk HS2.out.blk) (fun e => HS2.out.gB (by injection e))).trans HS2.out.blk
 have HK3 := Aside0.mk hblk3
 have HM3 := Aside0.mk hown3
 have HR3 := Aside0.mk (M.row_keep (show M.rowW w2.drew base (.slice At ts.length ct) ts.length (ts.map .string) from HS2.out.rt) hgr3 (.inr HS2.out.tB))
 have HN3 := Aside0.mk (M.row_keep (show M.rowW w2.drew base (.slice An ts.length cn) ts.length ((ts.map M.shaSum).map .string) from HS2.out.rn) hgr3 (.inr HS2.out.nB))
 have HB3 := Aside0.mk ((below_drew1 (HB2.out.mono HBS.out)).grown hgr3 (show base ≤ w2.drew.heap.size from Nat.le_trans HBS.out HB2.out.size) (fun k hk => by injection hk with hk; rw [← hk]; exact HS2.out.bb))
 have HQ3 := Aside0.mk (Kept.of_grown (S := M.feet g B (.slice At ts.length ct) (.slice An ts.length cn)) hgr3 (Kept.drew (Kept.of_below HB2.out _)) (fun k hk => .inl (.inr (.inl (by injection hk with hk; exact hk.symm)))))
 have e1 : w3.cell? ⟨g, 1, none⟩ = some (.slice At ts.length ct) := M.blk_cell hblk3 1 _ rfl
 have e2 : w3.cell? ⟨g, 2, none⟩ = some (.slice An ts.length cn) := M.blk_cell hblk3 2 _ rfl
 have HW3 := Aside0.mk (show w2.heap.size ≤ w3.heap.size from hgr3.size)
 have HGL3 := Aside0.mk (M.lt_blk hblk3)
 have e1a : ∀ o : Obj, (w3.alloc o).cell? ⟨g, 1, none⟩ = some (.slice At ts.length ct) := fun o => (World.cell?_of_block (a := ⟨g, 1, none⟩) (Below.heap_alloc w3 o g HGL3.out)).trans e1
 have e1b : ∀ o o2 : Obj, ((w3.alloc o).alloc o2).cell? ⟨g, 1, none⟩ = some (.slice At ts.length ct) := fun o o2 => (World.cell?_of_block (a := ⟨g, 1, none⟩) (Below.heap_alloc (w3.alloc o) o2 g (by have := HGL3.out; simp; omega))).trans (e1a o)
 have e2a : ∀ o : Obj, (w3.alloc o).cell? ⟨g, 2, none⟩ = some (.slice An ts.length cn) := fun o => (World.cell?_of_block (a := ⟨g, 2, none⟩) (Below.heap_alloc w3 o g HGL3.out)).trans e2
 have e2b : ∀ o o2 : Obj, ((w3.alloc o).alloc o2).cell? ⟨g, 2, none⟩ = some (.slice An ts.length cn) := fun o o2 => (World.cell?_of_block (a := ⟨g, 2, none⟩) (Below.heap_alloc (w3.alloc o) o2 g (by have := HGL3.out; simp; omega))).trans (e2a o)
 clear hown3 hgr3 hblk3 hown2
 go_region
 all_goals
  clear d0 d1 hrun
  go_wp2
  have HB4s := Aside0.mk (show base ≤ w3.heap.size from Nat.le_trans (Nat.le_trans HBS.out HB2.out.size) HW3.out)
  go_region_law (first | (refine shelf_Shelf_Put.app (w0 := w) base (by rfl) (.tmp 81) (.tmp 83) rfl Tryd.underlying22 _ _ shelf_Shelf_Put.i9 rfl (by decide) (.slice At ts.length ct) ts t _ (by rfl) (by rfl) (M.row_below HR3.out (by repeat (first | exact Below.refl _ _ | refine below_drew1 ?_ | refine below_alloc ?_ _))) (by first | exact M.blk_cell (heap_alloc_new _ _) 0 _ rfl | go_simp) (below_then HB3.out HB4s.out (by repeat (first | exact Below.refl _ _ | refine below_drew1 ?_ | refine below_alloc ?_ _))) (Nat.le_trans HB4s.out (Below.size (B := w3.heap.size) (w := w3) (by repeat (first | exact Below.refl _ _ | refine below_drew1 ?_ | refine below_alloc ?_ _)))) (by omega) ?_; intro v1 w4 hown4 hb4 hg4 hat4; obtain ⟨A4, c4, rfl⟩ := M.rowW_slice hown4; have hgw := M.grown_from (w3 := w3) hg4 (by repeat (first | exact Below.refl _ _ | refine below_drew1 ?_ | refine below_alloc ?_ _)); have hblk4 := (hgw.block g HGL3.out HS2.out.tg.symm).trans HK3.out; have f1_ : w4.cell? ⟨g, 1, none⟩ = some (.slice At ts.length ct) := M.blk_cell hblk4 1 _ rfl; have f2_ : w4.cell? ⟨g, 2, none⟩ = some (.slice An ts.length cn) := M.blk_cell hblk4 2 _ rfl; have f2a : ∀ o : Obj, (w4.alloc o).cell? ⟨g, 2, none⟩ = some (.slice An ts.length cn) := fun o => (World.cell?_of_block (a := ⟨g, 2, none⟩) (Below.heap_alloc w4 o g (M.lt_blk hblk4))).trans f2_; have f1f := M.blk_free hblk4 1; have f2f := M.blk_free hblk4 2; have HG4 := Aside0.mk hgw; have HGW4 := Aside0.mk hg4; have HO4 := Aside0.mk hown4; have HB4 := Aside0.mk hb4; have HA4 := Aside0.mk hat4; clear hown4 hb4 hg4 hat4 hgw hblk4) | (refine shelf_Shelf_Put.app (w0 := w) base (by rfl) (.tmp 88) (.tmp 90) rfl Tryd.underlying22 _ _ shelf_Shelf_Put.i9 rfl (by decide) (.slice An ts.length cn) (ts.map M.shaSum) (M.shaSum t) _ (by rfl) (by rfl) (by rw [List.length_map]; exact M.row_below (M.row_keep HN3.out HG4.out (M.sep HS2.out.tn)) (by repeat (first | exact Below.refl _ _ | refine below_drew1 ?_ | refine below_alloc ?_ _))) (by first | exact M.blk_cell (heap_alloc_new _ _) 0 _ rfl | (refine (World.cell?_of_block (HGW4.out.block _ (by first | (simp; done) | (simp; omega)) (fun e => Nat.lt_irrefl _ (Nat.lt_of_lt_of_le (M.row_lt HR3.out _ e.symm) (by first | (simp; done) | (simp; omega)))))).trans ?_; go_simp; done) | (refine (World.cell?_of_block (HGW4.out.block _ (by simp) (fun e => by have := M.row_lt HR3.out _ e.symm; simp at this; omega))).trans ?_; go_simp; done)) (below_then HB4.out (Nat.le_trans HB4s.out HG4.out.size) (by repeat (first | exact Below.refl _ _ | refine below_drew1 ?_ | refine below_alloc ?_ _))) (Nat.le_trans (Nat.le_trans HB4s.out HG4.out.size) (Below.size (B := w4.heap.size) (w := w4) (by repeat (first | exact Below.refl _ _ | refine below_drew1 ?_ | refine below_alloc ?_ _)))) (by simp; omega) ?_; intro v2 w5 hown5 hb5 hg5 hat5; obtain ⟨A5, c5, rfl⟩ := M.rowW_slice hown5; have hgw5 := M.grown_from (w3 := w4) hg5 (by repeat (first | exact Below.refl _ _ | refine below_drew1 ?_ | refine below_alloc ?_ _)); have hblk5 := (hgw5.block g (Nat.lt_of_lt_of_le HGL3.out HG4.out.size) HS2.out.ng.symm).trans ((HG4.out.block g HGL3.out HS2.out.tg.symm).trans HK3.out); have j1_ : w5.cell? ⟨g, 1, none⟩ = some (.slice At ts.length ct) := M.blk_cell hblk5 1 _ rfl; have j2_ : w5.cell? ⟨g, 2, none⟩ = some (.slice An ts.length cn) := M.blk_cell hblk5 2 _ rfl; have j1f := M.blk_free hblk5 1; have j2f := M.blk_free hblk5 2; have HK5 := Aside0.mk hblk5; have HG5 := Aside0.mk hgw5; have HO5 := Aside0.mk hown5; have HB5 := Aside0.mk hb5; have HA5 := Aside0.mk hat5; clear hown5 hb5 hg5 hat5 hgw5 hblk5))
  all_goals
   have ho5 := HO5.out
   have ha5 := HA5.out
   rw [List.length_map] at ho5 ha5
   have hE := Aside0.mk (M.shelf_end HS2.out HW3.out HM3.out (by simpa using HSay.out) HG4.out HO4.out HA4.out (by first | (simp; done) | (simp; omega)) HG5.out ho5 ha5 (by first | (simp; done) | (simp; omega)) HK5.out HQ3.out HND.out)
   have hbe := Aside0.mk ((HB5.out.setCell (p := ⟨g, 1, none⟩) HS2.out.gb (.slice A4 (ts.length + 1) c4)).setCell (p := ⟨g, 2, none⟩) HS2.out.gb (.slice A5 (ts.length + 1) c5))
   clear ho5 ha5 e1 e2 e1a e1b e2a e2b f1_ f2_ f2a f1f f2f j1_ j2_ j1f j2f HK5 HG5 HO5 HB5 HA5 HG4 HGW4 HO4 HB4 HA4 HB4s HQ3 HGL3 HW3 HB3 HN3 HR3 HM3 HK3 hat hwc HS2 HB2 HSay h1
   generalize ((w5.setCell ⟨g, 1, none⟩ (.slice A4 (ts.length + 1) c4)).setCell ⟨g, 2, none⟩ (.slice A5 (ts.length + 1) c5)) = w6 at hE hbe ⊢
   go_wp2
   exact bodyPost_ret (v := .tuple #[.string (M.shaSum t), .int .i64 0]) (by simp [results, Tryd.results23, go_sem]) rfl ⟨rfl, _, _, _, hE.out.1, hbe.out, hE.out.2⟩
theorem shelf_Shelf_Put.any (base g : Nat) (F : Nat → Prop) (s : M.SS) (t : ByteArray) (w : World) (hS : M.Sh Tryd.prog base w g F s) (hT : M.stab w) (hz : t.size ≤ 1000000000000) (hts : s.ts.length ≤ 1000000000) :
    Calls Tryd.prog 23 #[.pointer (some ⟨g, 0, none⟩), .string t] w fun e w' => e = .returned (.tuple #[.string (s.put t).1, .int .i64 (s.put t).2.1]) ∧ M.ShTo Tryd.prog base w g F (s.put t).2.2 w' := by
 obtain ⟨B, D, vt, vn, hs, hF, hl⟩ := id hS
 unfold M.SS.put
 by_cases h0 : t = ByteArray.empty
 ·subst h0
  rw [if_pos rfl]
  refine (shelf_Shelf_Put.empty base g B D vt vn s.ts s.a s.b w hs).mono ?_
  rintro e w' ⟨rfl, rfl⟩
  exact ⟨rfl, hS.same (Below.refl _ _)⟩
 rw [if_neg h0]
 by_cases h1 : 65536 < t.size
 ·rw [if_pos h1]
  refine (shelf_Shelf_Put.long base g B D vt vn s.ts s.a s.b t w hs h1 hz).mono ?_
  rintro e w' ⟨rfl, rfl⟩
  exact ⟨rfl, hS.same (Below.refl _ _)⟩
 rw [if_neg h1]
 cases hi : M.idx (s.ts.map M.shaSum) (M.shaSum t).data.toList with
 | none =>
  refine (shelf_Shelf_Put.new base g B D vt vn s.ts s.a s.b t w hs hT h0 (by omega) hts hi).mono ?_
  rintro e w' ⟨rfl, D', vt', vn', h, hb, hk, hf⟩
  exact ⟨rfl, M.Sh.to_ hs hF hl h hb hk hf⟩
 | some i =>
  simp only
  by_cases he : s.ts.getD i ByteArray.empty = t
  ·rw [if_pos he]
   refine (shelf_Shelf_Put.met base g B D vt vn s.ts s.a s.b t i w hs hT h0 (by omega) hi he).mono ?_
   rintro e w' ⟨rfl, h, hb⟩
   exact ⟨rfl, hS.same hb⟩
  ·rw [if_neg he]
   by_cases ha : s.a = ByteArray.empty
   ·rw [if_pos ha]
    refine (shelf_Shelf_Put.clash1 base g B D vt vn s.ts s.a s.b t i w hs hT h0 (by omega) hi he ha).mono ?_
    rintro e w' ⟨rfl, h, hb, hk⟩
    exact ⟨rfl, M.Sh.to_ hs hF hl h hb hk (fun _ hk => .inl hk)⟩
   ·rw [if_neg ha]
    refine (shelf_Shelf_Put.clash2 base g B D vt vn s.ts s.a s.b t i w hs hT h0 (by omega) hi he ha).mono ?_
    rintro e w' ⟨rfl, h, hb⟩
    exact ⟨rfl, hS.same hb⟩
def pleachlaw35_awake.f : Option Bool := some true
def pleachlaw35_awake.a : ByteArray := ⟨#[76, 0]⟩
theorem pleachlaw35_awake.ne : pleachlaw35_awake.a ≠ ByteArray.empty := by decide +kernel
theorem pleachlaw35_awake.put1 : M.SS.none_.put pleachlaw35_awake.a = (M.shaSum pleachlaw35_awake.a, 0, ⟨[pleachlaw35_awake.a], ByteArray.empty, ByteArray.empty⟩) := by
 unfold M.SS.put
 rw [if_neg pleachlaw35_awake.ne, if_neg (by decide)]
 rfl
theorem pleachlaw35_awake.get1 : (⟨[pleachlaw35_awake.a], ByteArray.empty, ByteArray.empty⟩ : M.SS).get (M.shaSum pleachlaw35_awake.a) = (pleachlaw35_awake.a, true) := by
 unfold M.SS.get
 have h : M.idx (([pleachlaw35_awake.a] : List ByteArray).map M.shaSum) (M.shaSum pleachlaw35_awake.a).data.toList = some 0 := by
  unfold M.idx
  rw [List.map_cons, List.findIdx?_cons, decide_eq_true rfl]
  rfl
 simp only [h]
 rfl
theorem pleachlaw35_awake.p1 (base g : Nat) (F : Nat → Prop) (s : ByteArray) (hs : M.shaSum ⟨#[76, 0]⟩ = s) (w : World) (hS : M.Sh Tryd.prog base w g F M.SS.none_) (hT : M.stab w) :
    Calls Tryd.prog 23 #[.pointer (some ⟨g, 0, none⟩), .string ⟨#[76, 0]⟩] w fun e w' => e = .returned (.tuple #[.string s, .int .i64 0]) ∧ M.ShTo Tryd.prog base w g F ⟨[⟨#[76, 0]⟩], ByteArray.empty, ByteArray.empty⟩ w' := by
 have h := shelf_Shelf_Put.any base g F M.SS.none_ ⟨#[76, 0]⟩ w hS hT (by decide) (by decide)
 rw [show M.SS.none_.put ⟨#[76, 0]⟩ = _ from pleachlaw35_awake.put1] at h
 rw [← hs]
 exact h
theorem pleachlaw35_awake.l1 (base g : Nat) (F : Nat → Prop) (s : ByteArray) (hs : M.shaSum ⟨#[76, 0]⟩ = s) (w : World) (hS : M.Sh Tryd.prog base w g F ⟨[⟨#[76, 0]⟩], ByteArray.empty, ByteArray.empty⟩) :
    Calls Tryd.prog 20 #[.pointer (some ⟨g, 0, none⟩), .string s] w fun e w' => e = .returned (.tuple #[.agg #[.int .i64 0, .slice none 0 0, .string ⟨#[]⟩, .string ⟨#[]⟩], .int .i64 13]) ∧ Below w.heap.size w w' := by
 refine commit_Load.bad base g F _ s ⟨#[76, 0]⟩ true w hS (by rw [← hs, M.shaSum_size]; decide) (by rw [← hs]; exact pleachlaw35_awake.get1) (.inr ?_)
 decide +kernel
set_option maxHeartbeats 8000000 in
set_option maxRecDepth 100000 in
theorem pleachlaw35_awake.walk (w : World) (hT : M.stab w) : Calls Tryd.prog 8 #[] w fun e w' => e = .returned (.bool true) ∧ Below w.heap.size w w' := by
 have HT := Aside0.mk hT
 obtain ⟨s, hs⟩ : ∃ s, M.shaSum ⟨#[76, 0]⟩ = s := ⟨_, rfl⟩
 have HQ := Aside0.mk hs
 have hlt := Aside0.mk (M.stab_lt hT)
 have hne : s ≠ ByteArray.empty := fun e => by have := M.shaSum_size ⟨#[76, 0]⟩; rw [hs, e] at this; exact absurd this (by decide)
 have hd0 := M.nonempty hne
 clear hT hs hne
 go_enter Tryd.func8, Tryd.ntmps8
 go_wp2_with (first | (go_at_call 15; (with_reducible refine (shelf_New.any _).mono ?_); rintro e w1 ⟨g, F, rfl, hs1, hb1⟩; have HS1 := Aside0.mk hs1; have HB1 := Aside0.mk hb1; have HT1 := Aside0.mk (M.stab_below HT.out hb1 hlt.out); clear hs1 hb1) | (go_at_call 23; (with_reducible refine (pleachlaw35_awake.p1 w.heap.size g F s HQ.out _ HS1.out HT1.out).mono ?_); rintro e w2 ⟨rfl, F2, hs2, hf2, hk2, hb2⟩; have HS2 := Aside0.mk hs2; have HB2 := Aside0.mk (HB1.out.trans hb2); clear HS1 hs2 hf2 hk2 hb2) | (go_at_call 20; (with_reducible refine (pleachlaw35_awake.l1 w.heap.size g F2 s HQ.out _ HS2.out).mono ?_); rintro e w4 ⟨rfl, hb4⟩; have HB4 := Aside0.mk (below_step HB2.out hb4); clear hb4))
 go_ret
 exact ⟨rfl, below_alloc HB4.out _⟩
theorem pleachlaw35_awake.calls (r : Bool) (w : World) (hT : M.stab w) (h : pleachlaw35_awake.f = some r) : Calls Tryd.prog 8 #[] w fun e w' => e = .returned (.bool r) ∧ Below w.heap.size w w' := by
 obtain rfl := Option.some.inj h
 exact pleachlaw35_awake.walk w hT
def pleachplain_Bytes_p.l0 : Nat → Int → List ByteArray → Int → Int → Option (Int)
  | 0, _, _, _, _ => none
  | k + 1, x3, x6, x7, x8 => if x8 < x7 then (if 0 ≤ x8 then (if x8 < (x6.length : Int) then (if (wrap64 (x3 + (mn ((rdOf ByteArray.empty x6 x8).size : Int) 1000000))) ≥ 1000000 then (some (wrap64 (x3 + (mn ((rdOf ByteArray.empty x6 x8).size : Int) 1000000)))) else (pleachplain_Bytes_p.l0 k (wrap64 (x3 + (mn ((rdOf ByteArray.empty x6 x8).size : Int) 1000000))) x6 x7 (wrap64 (x8 + 1)))) else (none)) else (none)) else (some x3)
def pleachplain_Bytes_p.f (k : Nat) (l0 : List ByteArray) : Option (Int) := pleachplain_Bytes_p.l0 k 0 l0 (l0.length : Int) 0
theorem pleachplain_Bytes_p.mono_l : ∀ k, (∀ y0 y1 y2 y3, LeO (pleachplain_Bytes_p.l0 k y0 y1 y2 y3) (pleachplain_Bytes_p.l0 (k + 1) y0 y1 y2 y3))
  | 0 => fun _ _ _ _ r h => by simp [pleachplain_Bytes_p.l0] at h
  | k + 1 => by
    have ih0 := pleachplain_Bytes_p.mono_l k
    · intro y0 y1 y2 y3
      unfold pleachplain_Bytes_p.l0
      repeat' first
      | (with_reducible exact ih0 _ _ _ _)
      | (with_reducible exact LeO.refl _)
      | (with_reducible exact LeO.none _)
      | (with_reducible refine LeO.ite ?_ ?_)
      | (with_reducible refine LeO.bind ?_ (fun _ => ?_))
      | exact ih0 _ _ _ _
      | exact LeO.none _
      | refine LeO.ite ?_ ?_
      | refine LeO.bind ?_ (fun _ => ?_)
theorem pleachplain_Bytes_p.mono : ∀ a0 k, LeO (pleachplain_Bytes_p.f k a0) (pleachplain_Bytes_p.f (k + 1) a0) := by
  intro a0 k
  have ih0 := pleachplain_Bytes_p.mono_l k
  unfold pleachplain_Bytes_p.f
  repeat' first
      | (with_reducible exact ih0 _ _ _ _)
      | (with_reducible exact LeO.refl _)
      | (with_reducible exact LeO.none _)
      | (with_reducible refine LeO.ite ?_ ?_)
      | (with_reducible refine LeO.bind ?_ (fun _ => ?_))
      | exact ih0 _ _ _ _
      | exact LeO.none _
      | refine LeO.ite ?_ ?_
      | refine LeO.bind ?_ (fun _ => ?_)
set_option maxHeartbeats 8000000 in
set_option maxRecDepth 100000 in
theorem pleachplain_Bytes_p.calls (k : Nat) (A0 : Option Addr) (c0 : Nat) (l0 : List ByteArray) (r : Int) (w : World) (hr0 : Kd.C Kd.string w A0 l0.length l0) (hc0 : l0.length ≤ c0) (h : pleachplain_Bytes_p.f k l0 = some r) :
    Calls Tryd.prog 21 #[.slice A0 l0.length c0] w fun e w' => e = .returned (.int .i64 r) ∧ Below w.heap.size w w' := by
 have HR0 := Aside0.mk hr0
 have HC0 := Aside0.mk hc0
 clear hr0 hc0
 have HB := Aside0.mk (Below.refl w.heap.size w)
 have H : (pleachplain_Bytes_p.l0 k 0 l0 (l0.length : Int) 0) = some r := h
 clear h
 have H' := Aside0.mk H
 clear H
 go_enter Tryd.func21, Tryd.ntmps21
 go_wp2
 go_loopg [3, 8] k (fun kq v3 v8 w' => ∃ (x3_1 : Int) (x8_1 : Int), v3 = .int .i64 x3_1 ∧ v8 = .int .i64 x8_1 ∧ Aside0 (pleachplain_Bytes_p.l0 kq x3_1 l0 (l0.length : Int) x8_1 = some r) ∧ Aside0 (kq ≤ k) ∧ Aside0 (Below w.heap.size w w'))
 case atStart => exact ⟨(0), (0), M.eqv, M.eqv, H', ⟨Nat.le_refl _⟩, ⟨M.up HB⟩⟩
 case round =>
  clear H'
  obtain ⟨x3_1, x8_1, rfl, rfl, HA, HK1, HB⟩ := hrel
  cases gk with
  | zero => exact absurd HA.out (by simp [pleachplain_Bytes_p.l0])
  | succ k1 =>
   have H := HA.out
   clear HA
   simp only [pleachplain_Bytes_p.l0] at H
   by_cases c2 : x8_1 < (l0.length : Int)
   ·rw [if_pos c2] at H
    have c2b0 := decide_eq_true c2
    clear c2
    by_cases c3 : 0 ≤ x8_1
    ·rw [if_pos c3] at H
     have c3b0 := decide_eq_true c3
     clear c3
     by_cases c4 : x8_1 < (l0.length : Int)
     ·rw [if_pos c4] at H
      have c4b0 := decide_eq_true c4
      clear c4
      obtain ⟨ji5, hji5⟩ : ∃ j_ : Int, (mn ((rdOf ByteArray.empty l0 x8_1).size : Int) 1000000) = j_ := ⟨_, rfl⟩
      replace H : (if (wrap64 (x3_1 + (ji5))) ≥ 1000000 then (some (wrap64 (x3_1 + (ji5)))) else (pleachplain_Bytes_p.l0 k1 (wrap64 (x3_1 + (ji5))) l0 (l0.length : Int) (wrap64 (x8_1 + 1)))) = some r := by first | (rw [hji5] at H; exact H) | (simp only [hji5] at H ⊢; exact H)
      have hji5_ : (if 1000000 < ((rdOf ByteArray.empty l0 x8_1).size : Int) then 1000000 else ((rdOf ByteArray.empty l0 x8_1).size : Int)) = ji5 := hji5
      by_cases c6 : (wrap64 (x3_1 + (ji5))) ≥ 1000000
      ·rw [if_pos c6] at H
       have c6b0 := decide_eq_true c6
       clear c6
       obtain rfl := Option.some.inj H
       have p181 : 0 ≤ (x8_1 : Int) := M.dt
       have q181 : x8_1 < (l0.length : Int) := M.dt
       obtain ⟨ad181, e181, hx181_0⟩ := Kd.at_string HR0.out x8_1 p181 q181
       cases e181
       replace hx181_0 := M.hc HB hx181_0
       replace p181 := eq_true p181
       replace q181 := eq_true q181
       go_wp2
       go_ret
       exact ⟨by first | rfl | (simp [errW_none, errW_some] <;> rfl) | (simp only [← hji5]; first | rfl | (simp [errW_none, errW_some] <;> rfl)) | (simp [*, errW_none, errW_some] <;> rfl), M.up HB⟩
      ·rw [if_neg c6] at H
       have c6b0 := decide_eq_false c6
       clear c6
       have H' := Aside0.mk H
       clear H
       have p181 : 0 ≤ (x8_1 : Int) := M.dt
       have q181 : x8_1 < (l0.length : Int) := M.dt
       obtain ⟨ad181, e181, hx181_0⟩ := Kd.at_string HR0.out x8_1 p181 q181
       cases e181
       replace hx181_0 := M.hc HB hx181_0
       replace p181 := eq_true p181
       replace q181 := eq_true q181
       go_wp2
       go_roundg k1
       case measure => have := HK1.out; omega
       case rel => exact ⟨(wrap64 (x3_1 + (ji5))), (wrap64 (x8_1 + 1)), (by first | rfl | (simp; done) | (simp only [← hji5] <;> (first | rfl | simp)) | (simp [*]; done)), M.eqv, H', ⟨by have := HK1.out; omega⟩, ⟨M.up HB⟩⟩
     ·exact M.nf c4 H
    ·exact M.nf c3 H
   ·rw [if_neg c2] at H
    have c2b0 := decide_eq_false c2
    clear c2
    obtain rfl := Option.some.inj H
    go_wp2
    go_ret
    exact M.fin (M.up HB)
def pleachplain_Bytes.f (l0 : List ByteArray) : Option Int := if l0.length ≤ 9223372036854775806 then some ((M.bytesN 0 l0 : Nat) : Int) else none
theorem pleachplain_Bytes.loop (l : List ByteArray) (hl : l.length ≤ 9223372036854775806) (d : Nat) : ∀ (i n : Nat), i + d = l.length → n < 1000000 →
    pleachplain_Bytes_p.l0 (d + 1) (n : Int) l (l.length : Int) (i : Int) = some ((M.bytesN n (l.drop i) : Nat) : Int) := by
 induction d with
 | zero =>
  intro i n hi hn
  rw [pleachplain_Bytes_p.l0, if_neg (by omega), List.drop_of_length_le (by omega)]; rfl
 | succ d ih =>
  intro i n hi hn
  have hlt : i < l.length := by omega
  have hrd : rdOf ByteArray.empty l (i : Int) = l[i] := by simp [rdOf, List.getD, hlt]
  have hm : mn ((l[i]).size : Int) 1000000 = ((min (l[i]).size 1000000 : Nat) : Int) := M.mn_min _ 1000000
  rw [pleachplain_Bytes_p.l0, if_pos (by omega), if_pos (by omega), if_pos (by omega), hrd, hm, List.drop_eq_getElem_cons hlt, M.bytesN, M.wrap64_id (i := (n : Int) + _) (by omega) (by omega)]
  by_cases h : 1000000 ≤ n + min (l[i]).size 1000000
  ·rw [if_pos (by omega), if_pos h]; congr 1
  ·rw [if_neg (by omega), if_neg h, M.wrap64_id (by omega) (by omega), show (i : Int) + 1 = ((i + 1 : Nat) : Int) from by omega, show (n : Int) + ((min (l[i]).size 1000000 : Nat) : Int) = ((n + min (l[i]).size 1000000 : Nat) : Int) from by omega]
   exact ih (i + 1) _ (by omega) (by omega)
theorem pleachplain_Bytes.ev (l : List ByteArray) (r : Int) (h : pleachplain_Bytes.f l = some r) : ∃ k, pleachplain_Bytes_p.f k l = some r := by
 unfold pleachplain_Bytes.f at h
 split at h
 case isFalse => cases h
 case isTrue hh =>
  refine ⟨l.length + 1, ?_⟩
  rw [← h]
  have := pleachplain_Bytes.loop l hh l.length 0 0 (by omega) (by decide)
  rw [List.drop_zero] at this
  exact this
theorem pleachplain_Bytes.calls (A0 : Option Addr) (c0 : Nat) (l0 : List ByteArray) (r : Int) (w : World) (hr0 : Kd.C Kd.string w A0 l0.length l0) (hc0 : l0.length ≤ c0) (h : pleachplain_Bytes.f l0 = some r) :
    Calls Tryd.prog 21 #[.slice A0 l0.length c0] w fun e w' => e = .returned (.int .i64 r) ∧ Below w.heap.size w w' := by
 obtain ⟨k, hk⟩ := pleachplain_Bytes.ev _ _ h
 exact pleachplain_Bytes_p.calls (k := k) (w := w) (h := hk) (hr0 := hr0) (hc0 := hc0)
mutual
def pleachref03_padded_p.l0 : Nat → ByteArray → ByteArray → Option (ByteArray)
  | 0, _, _ => none
  | k + 1, x0, x3 => if ((x3.size : Int) % 64) = 56 then (pleachref03_padded_p.l1 k x3 (IntKind.u64.wrap ((IntKind.u64.wrap ((x0.size : Int))) * 8)) 7) else (if x3.size + 1 ≤ 9223372036854775807 then (pleachref03_padded_p.l0 k x0 (x3 ++ (⟨#[0]⟩ : ByteArray))) else (none))
def pleachref03_padded_p.l1 : Nat → ByteArray → Int → Int → Option (ByteArray)
  | 0, _, _, _ => none
  | k + 1, x3, x4, x5 => if x5 ≥ 0 then (if 0 ≤ (IntKind.u64.wrap (wrap64 (8 * x5))) then ((some (([(shr .u64 x4 (IntKind.u64.wrap (wrap64 (8 * x5)))) % 256] : List Int) : List Int)).bind fun y182 => (if x3.size + (strOfNums y182).size ≤ 9223372036854775807 then (pleachref03_padded_p.l1 k (x3 ++ (strOfNums y182)) x4 (wrap64 (x5 - 1))) else (none))) else (none)) else (some x3)
end
def pleachref03_padded_p.f (k : Nat) (a0 : ByteArray) : Option (ByteArray) := if a0.size + 1 ≤ 9223372036854775807 then (pleachref03_padded_p.l0 k a0 (a0 ++ (⟨#[128]⟩ : ByteArray))) else (none)
theorem pleachref03_padded_p.mono_l : ∀ k, (∀ y0 y1, LeO (pleachref03_padded_p.l0 k y0 y1) (pleachref03_padded_p.l0 (k + 1) y0 y1)) ∧ (∀ y0 y1 y2, LeO (pleachref03_padded_p.l1 k y0 y1 y2) (pleachref03_padded_p.l1 (k + 1) y0 y1 y2))
  | 0 => ⟨fun _ _ r h => by simp [pleachref03_padded_p.l0] at h, fun _ _ _ r h => by simp [pleachref03_padded_p.l1] at h⟩
  | k + 1 => by
    obtain ⟨ih0, ih1⟩ := pleachref03_padded_p.mono_l k
    refine ⟨?_, ?_⟩
    · intro y0 y1
      unfold pleachref03_padded_p.l0
      repeat' first
      | (with_reducible exact ih0 _ _)
      | (with_reducible exact ih1 _ _ _)
      | (with_reducible exact LeO.refl _)
      | (with_reducible exact LeO.none _)
      | (with_reducible refine LeO.ite ?_ ?_)
      | (with_reducible refine LeO.bind ?_ (fun _ => ?_))
      | exact ih0 _ _
      | exact ih1 _ _ _
      | exact LeO.none _
      | refine LeO.ite ?_ ?_
      | refine LeO.bind ?_ (fun _ => ?_)
    · intro y0 y1 y2
      unfold pleachref03_padded_p.l1
      repeat' first
      | (with_reducible exact ih0 _ _)
      | (with_reducible exact ih1 _ _ _)
      | (with_reducible exact LeO.refl _)
      | (with_reducible exact LeO.none _)
      | (with_reducible refine LeO.ite ?_ ?_)
      | (with_reducible refine LeO.bind ?_ (fun _ => ?_))
      | exact ih0 _ _
      | exact ih1 _ _ _
      | exact LeO.none _
      | refine LeO.ite ?_ ?_
      | refine LeO.bind ?_ (fun _ => ?_)
theorem pleachref03_padded_p.mono : ∀ a0 k, LeO (pleachref03_padded_p.f k a0) (pleachref03_padded_p.f (k + 1) a0) := by
  intro a0 k
  obtain ⟨ih0, ih1⟩ := pleachref03_padded_p.mono_l k
  unfold pleachref03_padded_p.f
  repeat' first
      | (with_reducible exact ih0 _ _)
      | (with_reducible exact ih1 _ _ _)
      | (with_reducible exact LeO.refl _)
      | (with_reducible exact LeO.none _)
      | (with_reducible refine LeO.ite ?_ ?_)
      | (with_reducible refine LeO.bind ?_ (fun _ => ?_))
      | exact ih0 _ _
      | exact ih1 _ _ _
      | exact LeO.none _
      | refine LeO.ite ?_ ?_
      | refine LeO.bind ?_ (fun _ => ?_)
set_option maxHeartbeats 8000000 in
set_option maxRecDepth 100000 in
theorem pleachref03_padded_p.calls (k : Nat) (a0 : ByteArray) (r : ByteArray) (w : World) (h : pleachref03_padded_p.f k a0 = some r) :
    Calls Tryd.prog 70 #[.string a0] w fun e w' => e = .returned (.string r) ∧ Below w.heap.size w w' := by
 have HB := Aside0.mk (Below.refl w.heap.size w)
 have H : (if a0.size + 1 ≤ 9223372036854775807 then (pleachref03_padded_p.l0 k a0 (a0 ++ (⟨#[128]⟩ : ByteArray))) else (none)) = some r := h
 clear h
 by_cases c2 : a0.size + 1 ≤ 9223372036854775807
 ·rw [if_pos c2] at H
  have c2b0 := eq_true c2
  have c2b1 := decide_eq_true c2
  try have c2b2 : (9223372036854775807 < a0.size + 1) = False := eq_false (Nat.not_lt.2 c2)
  have H' := Aside0.mk H
  clear H
  go_enter Tryd.func70, Tryd.ntmps70
  go_wp2
  go_loopg [3] k (fun kq v3 w' => ∃ (x3_1 : ByteArray), v3 = .string x3_1 ∧ Aside0 (pleachref03_padded_p.l0 kq a0 x3_1 = some r) ∧ Aside0 (kq ≤ k) ∧ Aside0 (Below w.heap.size w w'))
  case atStart => exact ⟨(a0 ++ (⟨#[128]⟩ : ByteArray)), M.eqv, H', ⟨Nat.le_refl _⟩, ⟨M.up HB⟩⟩
  case round =>
   clear H'
   (try clear c2); (try clear c2b0); (try clear c2b1); (try clear c2b2); (try clear p2)
   obtain ⟨x3_1, rfl, HA, HK1, HB⟩ := hrel
   cases gk with
   | zero => exact absurd HA.out (by simp [pleachref03_padded_p.l0])
   | succ k1 =>
    have H := HA.out
    clear HA
    simp only [pleachref03_padded_p.l0] at H
    by_cases c3 : ((x3_1.size : Int) % 64) = 56
    ·rw [if_pos c3] at H
     have c3b0 : (((x3_1.size : Int) % 64) == 56) = true := beq_iff_eq.mpr c3
     have c3b1 : (((x3_1.size : Int) % 64) != 56) = false := bne_eq_false_iff_eq.mpr c3
     clear c3
     have H' := Aside0.mk H
     clear H
     go_wp2
     go_loopg [3, 5] k1 (fun kq v3 v5 w' => ∃ (x3_2 : ByteArray) (x5_2 : Int), v3 = .string x3_2 ∧ v5 = .int .i64 x5_2 ∧ Aside0 (pleachref03_padded_p.l1 kq x3_2 (IntKind.u64.wrap ((IntKind.u64.wrap ((a0.size : Int))) * 8)) x5_2 = some r) ∧ Aside0 (kq ≤ k1) ∧ Aside0 (Below w.heap.size w w'))
     case atStart => exact ⟨(x3_1), (7), M.eqv, M.eqv, H', ⟨Nat.le_refl _⟩, ⟨M.up HB⟩⟩
     case round =>
      clear H'
      (try clear c2); (try clear c2b0); (try clear c2b1); (try clear c2b2); (try clear p2); (try clear c3); (try clear c3b0); (try clear c3b1); (try clear p2)
      obtain ⟨x3_2, x5_2, rfl, rfl, HA, HK2, HB⟩ := hrel
      cases gk with
      | zero => exact absurd HA.out (by simp [pleachref03_padded_p.l1])
      | succ k2 =>
       have H := HA.out
       clear HA
       simp only [pleachref03_padded_p.l1] at H
       by_cases c4 : x5_2 ≥ 0
       ·rw [if_pos c4] at H
        have c4b0 := decide_eq_true c4
        clear c4
        obtain ⟨ji5, hji5⟩ : ∃ j_ : Int, (IntKind.u64.wrap (wrap64 (8 * x5_2))) = j_ := ⟨_, rfl⟩
        replace H : (if 0 ≤ (ji5) then ((some (([(shr .u64 (IntKind.u64.wrap ((IntKind.u64.wrap ((a0.size : Int))) * 8)) (ji5)) % 256] : List Int) : List Int)).bind fun y182 => (if x3_2.size + (strOfNums y182).size ≤ 9223372036854775807 then (pleachref03_padded_p.l1 k2 (x3_2 ++ (strOfNums y182)) (IntKind.u64.wrap ((IntKind.u64.wrap ((a0.size : Int))) * 8)) (wrap64 (x5_2 - 1))) else (none))) else (none)) = some r := by first | (rw [hji5] at H; exact H) | (simp only [hji5] at H ⊢; exact H)
        by_cases c6 : 0 ≤ (ji5)
        ·rw [if_pos c6] at H
         have c6b0 := eq_true c6
         have c6b1 := decide_eq_true c6
         clear c6
         obtain ⟨ji7, hji7⟩ : ∃ j_ : Int, (shr .u64 (IntKind.u64.wrap ((IntKind.u64.wrap ((a0.size : Int))) * 8)) (ji5)) = j_ := ⟨_, rfl⟩
         replace H : ((some (([(ji7) % 256] : List Int) : List Int)).bind fun y182 => (if x3_2.size + (strOfNums y182).size ≤ 9223372036854775807 then (pleachref03_padded_p.l1 k2 (x3_2 ++ (strOfNums y182)) (IntKind.u64.wrap ((IntKind.u64.wrap ((a0.size : Int))) * 8)) (wrap64 (x5_2 - 1))) else (none))) = some r := by first | (rw [hji7] at H; exact H) | (simp only [hji7] at H ⊢; exact H)
         have hji7_ : ((IntKind.u64.wrap ((IntKind.u64.wrap ((a0.size : Int))) * 8)) / 2 ^ min (ji5).toNat 64) = ji7 := hji7
         have hji7z : (ji5) ≤ 64 → ((IntKind.u64.wrap ((IntKind.u64.wrap ((a0.size : Int))) * 8)) / 2 ^ (ji5).toNat) = ji7 := shr_small hji7
         obtain ⟨y182, hy182⟩ : ∃ y_ : List Int, y_ = (([(ji7) % 256] : List Int)) := ⟨_, rfl⟩
         replace H : (if x3_2.size + (strOfNums y182).size ≤ 9223372036854775807 then (pleachref03_padded_p.l1 k2 (x3_2 ++ (strOfNums y182)) (IntKind.u64.wrap ((IntKind.u64.wrap ((a0.size : Int))) * 8)) (wrap64 (x5_2 - 1))) else (none)) = some r := by first | (rw [hy182]; with_reducible exact H) | (have H2_ := (Option.bind_some _ _).symm.trans H; rw [hy182]; with_reducible exact H2_) | (have H2_ := (Option.bind_some _ _).symm.trans H; with_reducible exact H2_) | with_reducible exact H | (rw [hy182]; exact H) | exact H
         have Ny182 := Aside0.mk hy182
         clear hy182
         by_cases c8 : x3_2.size + (strOfNums y182).size ≤ 9223372036854775807
         ·rw [if_pos c8] at H
          have c8b0 := eq_true c8
          have c8b1 := decide_eq_true c8
          try have c8b2 : (9223372036854775807 < x3_2.size + (strOfNums y182).size) = False := eq_false (Nat.not_lt.2 c8)
          have H' := Aside0.mk H
          clear H
          go_wp2_with (first | ((with_reducible refine gate_dst (N := 29) rfl ?_); refine Kd.R_lit (Kd.int .u8) _ 5 ?hg (N := 29) ?hd (xs := ([(ji7) % 256] : List Int)) (inner := [.int .u8 ((ji7) % 256)]) (ok := fun _ => True) (okp := fun _ => True) ?hr ?hp (fun _ hk => hk) trivial (Below.refl _ _) (Nat.le_refl _) (by simp) ?_; (case hd => rfl); (case hg => rfl); (case hr => first | (go_simp; done) | (go_simp; rfl)); (case hp => exact (Reps.one (show Kd.M (Kd.int .u8) _ _ _ ((ji7) % 256) [.int .u8 ((ji7) % 256)] from rfl) (Reps.none _ _))); intro v183 w9 ho10 hb hg_ hnew_; clear hg_ hnew_; (first | rw [← Ny182.out] at ho10 | (simp only [Int.reduceToNat] at ho10; rw [← Ny182.out] at ho10)); have HO184 := Aside0.mk (Kd.R_lower ho10 (below_size (M.up HB))); replace HB := M.upS HB hb; clear hb ho10; have hcv11 := own_string (P := Tryd.prog) Tryd.underlying76 Tryd.underlying5 Tryd.underlying9 (Kd.own_of_R HO184.out)))
          go_roundg k2
          case measure => have := HK1.out; have := HK2.out; omega
          case rel => exact ⟨(x3_2 ++ (strOfNums y182)), (wrap64 (x5_2 - 1)), M.eqv, M.eqv, H', ⟨by have := HK1.out; have := HK2.out; omega⟩, ⟨M.up HB⟩⟩
         ·exact M.nf c8 H
        ·exact M.nf c6 H
       ·rw [if_neg c4] at H
        have c4b0 := decide_eq_false c4
        clear c4
        obtain rfl := Option.some.inj H
        go_wp2
        go_ret
        exact M.fin (M.up HB)
    ·rw [if_neg c3] at H
     have c3b0 : (((x3_1.size : Int) % 64) == 56) = false := beq_eq_false_iff_ne.mpr c3
     have c3b1 : (((x3_1.size : Int) % 64) != 56) = true := bne_iff_ne.mpr c3
     by_cases c12 : x3_1.size + 1 ≤ 9223372036854775807
     ·rw [if_pos c12] at H
      have c12b0 := eq_true c12
      have c12b1 := decide_eq_true c12
      try have c12b2 : (9223372036854775807 < x3_1.size + 1) = False := eq_false (Nat.not_lt.2 c12)
      have H' := Aside0.mk H
      clear H
      go_wp2
      go_roundg k1
      case measure => have := HK1.out; omega
      case rel => exact ⟨(x3_1 ++ (⟨#[0]⟩ : ByteArray)), M.eqv, H', ⟨by have := HK1.out; omega⟩, ⟨M.up HB⟩⟩
     ·exact M.nf c12 H
 ·exact M.nf c2 H
def pleachref03_padded.f (a0 : ByteArray) : Option ByteArray := if a0.size ≤ 1000000000000 then some (M.sb (M.padlast (M.bs a0) a0.size)) else none
def pleachref03_padded.be (n : Nat) : Nat → List UInt8
  | 0 => []
  | i + 1 => UInt8.ofNat (n / 2 ^ (8 * i)) :: pleachref03_padded.be n i
theorem pleachref03_padded.be8 (n : Nat) : pleachref03_padded.be n 8 = M.be8 n := by
 unfold M.be8
 simp [pleachref03_padded.be]
theorem pleachref03_padded.loop1 (n : Nat) (hn : n < 18446744073709551616) (F : Nat) : ∀ (i : Nat) (p : List UInt8), i ≤ 8 → p.length + i ≤ 2000000000000 → pleachref03_padded_p.l1 (i + 1 + F) (M.sb p) (n : Int) ((i : Int) - 1) = some (M.sb (p ++ pleachref03_padded.be n i)) := by
 intro i
 induction i with
 | zero =>
  intro p _ _
  rw [show 0 + 1 + F = F + 1 from by omega, pleachref03_padded_p.l1, if_neg (by omega), pleachref03_padded.be, List.append_nil]
 | succ i ih =>
  intro p hi hp
  have e1 : wrap64 (8 * (((i + 1 : Nat) : Int) - 1)) = ((8 * i : Nat) : Int) := by rw [M.wrap64_id (by omega) (by omega)]; omega
  have e2 : IntKind.u64.wrap ((8 * i : Nat) : Int) = ((8 * i : Nat) : Int) := M.u64_id (by omega) (by omega)
  have e3 : shr .u64 (n : Int) ((8 * i : Nat) : Int) = ((n / 2 ^ (8 * i) : Nat) : Int) := by
   unfold shr
   rw [Int.toNat_natCast, show min (8 * i) IntKind.u64.bits = 8 * i from by show min (8 * i) 64 = 8 * i; omega]
   rw [Int.natCast_ediv, Int.natCast_pow]; rfl
  have e4 : strOfNums ([((n / 2 ^ (8 * i) : Nat) : Int) % 256]) = M.sb [UInt8.ofNat (n / 2 ^ (8 * i))] := by
   have := M.strOfNums_nat [n / 2 ^ (8 * i) % 256]
   rw [List.map_cons, List.map_nil, Int.natCast_emod] at this
   apply M.bs_inj
   rw [M.bs_sb]
   refine this.trans ?_
   rw [List.map_cons, List.map_nil]
   congr 1
   apply UInt8.toNat_inj.1
   rw [UInt8.toNat_ofNat', UInt8.toNat_ofNat']
   generalize n / 2 ^ (8 * i) = q
   omega
  rw [show i + 1 + 1 + F = (i + 1 + F) + 1 from by omega, pleachref03_padded_p.l1, if_pos (by omega), e1, e2, if_pos (by omega), e3, Option.bind_some, e4, ← M.sb_append]
  rw [if_pos (by rw [M.size_sb, M.size_sb]; simp only [List.length_cons, List.length_nil]; omega), M.wrap64_id (by omega) (by omega)]
  have := ih (p ++ [UInt8.ofNat (n / 2 ^ (8 * i))]) (by omega) (by simp; omega)
  rw [show (((i + 1 : Nat) : Int) - 1 - 1) = (i : Int) - 1 from by omega, this, pleachref03_padded.be, List.append_assoc]
  rfl
theorem pleachref03_padded.loop0 (a : ByteArray) (hs : a.size ≤ 1000000000000) (F : Nat) : ∀ (d j : Nat), j + d = M.padz a.size →
    pleachref03_padded_p.l0 (d + 1 + F) a (M.sb (M.bs a ++ [128] ++ List.replicate j 0)) = pleachref03_padded_p.l1 F (M.sb (M.bs a ++ [128] ++ List.replicate (M.padz a.size) 0)) ((8 * a.size : Nat) : Int) 7 := by
 have hz := M.padz_lt a.size
 intro d
 induction d with
 | zero =>
  intro j hj
  obtain rfl : j = M.padz a.size := by omega
  have hp := (M.padz_at a.size (M.padz a.size) (Nat.le_refl _)).2 rfl
  rw [show 0 + 1 + F = F + 1 from by omega, pleachref03_padded_p.l0, if_pos (by rw [M.size_sb]; simp only [List.length_append, List.length_cons, List.length_nil, List.length_replicate, M.bs_length]; omega)]
  rw [M.u64_id (i := (a.size : Int)) (by omega) (by omega), M.u64_id (by omega) (by omega)]
  congr 1
  omega
 | succ d ih =>
  intro j hj
  have hp := M.padz_at a.size j (by omega)
  rw [show d + 1 + 1 + F = (d + 1 + F) + 1 from by omega, pleachref03_padded_p.l0, if_neg (by rw [M.size_sb]; simp only [List.length_append, List.length_cons, List.length_nil, List.length_replicate, M.bs_length]; omega)]
  rw [if_pos (by rw [M.size_sb]; simp only [List.length_append, List.length_cons, List.length_nil, List.length_replicate, M.bs_length]; omega)]
  rw [show (⟨#[0]⟩ : ByteArray) = M.sb [0] from rfl, ← M.sb_append, List.append_assoc, show List.replicate j (0 : UInt8) ++ [0] = List.replicate (j + 1) 0 from List.replicate_succ'.symm]
  exact ih (j + 1) (by omega)
theorem pleachref03_padded.ev (a r : ByteArray) (h : pleachref03_padded.f a = some r) : ∃ k, pleachref03_padded_p.f k a = some r := by
 unfold pleachref03_padded.f at h
 split at h
 case isFalse => cases h
 case isTrue hs =>
  refine ⟨M.padz a.size + 1 + (8 + 1 + 0), ?_⟩
  rw [← h]
  unfold pleachref03_padded_p.f
  rw [if_pos (by omega), show a ++ (⟨#[128]⟩ : ByteArray) = M.sb (M.bs a ++ [128] ++ List.replicate 0 0) from by rw [List.replicate_zero, List.append_nil, M.sb_append, M.sb_bs]; rfl]
  rw [pleachref03_padded.loop0 a hs _ (M.padz a.size) 0 (by omega)]
  have hz := M.padz_lt a.size
  have := pleachref03_padded.loop1 (8 * a.size) (by omega) 0 8 (M.bs a ++ [128] ++ List.replicate (M.padz a.size) 0) (by omega) (by simp [M.bs_length]; omega)
  rw [show (((8 : Nat) : Int) - 1) = 7 from by decide] at this
  rw [this, pleachref03_padded.be8]
  unfold M.padlast
  rw [M.bs_length]
theorem pleachref03_padded.calls (a0 : ByteArray) (r : ByteArray) (w : World) (h : pleachref03_padded.f a0 = some r) :
    Calls Tryd.prog 70 #[.string a0] w fun e w' => e = .returned (.string r) ∧ Below w.heap.size w w' := by
 obtain ⟨k, hk⟩ := pleachref03_padded.ev _ _ h
 exact pleachref03_padded_p.calls (k := k) (w := w) (h := hk)
def pleachref03_Constants.f  : Option (List Int) := some (([1116352408, 1899447441, 3049323471, 3921009573, 961987163, 1508970993, 2453635748, 2870763221, 3624381080, 310598401, 607225278, 1426881987, 1925078388, 2162078206, 2614888103, 3248222580, 3835390401, 4022224774, 264347078, 604807628, 770255983, 1249150122, 1555081692, 1996064986, 2554220882, 2821834349, 2952996808, 3210313671, 3336571891, 3584528711, 113926993, 338241895, 666307205, 773529912, 1294757372, 1396182291, 1695183700, 1986661051, 2177026350, 2456956037, 2730485921, 2820302411, 3259730800, 3345764771, 3516065817, 3600352804, 4094571909, 275423344, 430227734, 506948616, 659060556, 883997877, 958139571, 1322822218, 1537002063, 1747873779, 1955562222, 2024104815, 2227730452, 2361852424, 2428436474, 2756734187, 3204031479, 3329325298] : List Int))
set_option maxHeartbeats 8000000 in
set_option maxRecDepth 100000 in
theorem pleachref03_Constants.calls  (r : List Int) (w : World) (h : pleachref03_Constants.f  = some r) :
    Calls Tryd.prog 71 #[] w fun e w' => ∃ v0_ : Value, e = .returned (v0_) ∧ Kd.R (Kd.int .u32) 116 w' w.heap.size (fun _ => True) v0_ r ∧ Below w.heap.size w w' := by
 have HB := Aside0.mk (Below.refl w.heap.size w)
 have H : (some (([1116352408, 1899447441, 3049323471, 3921009573, 961987163, 1508970993, 2453635748, 2870763221, 3624381080, 310598401, 607225278, 1426881987, 1925078388, 2162078206, 2614888103, 3248222580, 3835390401, 4022224774, 264347078, 604807628, 770255983, 1249150122, 1555081692, 1996064986, 2554220882, 2821834349, 2952996808, 3210313671, 3336571891, 3584528711, 113926993, 338241895, 666307205, 773529912, 1294757372, 1396182291, 1695183700, 1986661051, 2177026350, 2456956037, 2730485921, 2820302411, 3259730800, 3345764771, 3516065817, 3600352804, 4094571909, 275423344, 430227734, 506948616, 659060556, 883997877, 958139571, 1322822218, 1537002063, 1747873779, 1955562222, 2024104815, 2227730452, 2361852424, 2428436474, 2756734187, 3204031479, 3329325298] : List Int))) = some r := h
 clear h
 obtain ⟨y185, hy185⟩ : ∃ y_ : List Int, y_ = (([1116352408, 1899447441, 3049323471, 3921009573, 961987163, 1508970993, 2453635748, 2870763221, 3624381080, 310598401, 607225278, 1426881987, 1925078388, 2162078206, 2614888103, 3248222580, 3835390401, 4022224774, 264347078, 604807628, 770255983, 1249150122, 1555081692, 1996064986, 2554220882, 2821834349, 2952996808, 3210313671, 3336571891, 3584528711, 113926993, 338241895, 666307205, 773529912, 1294757372, 1396182291, 1695183700, 1986661051, 2177026350, 2456956037, 2730485921, 2820302411, 3259730800, 3345764771, 3516065817, 3600352804, 4094571909, 275423344, 430227734, 506948616, 659060556, 883997877, 958139571, 1322822218, 1537002063, 1747873779, 1955562222, 2024104815, 2227730452, 2361852424, 2428436474, 2756734187, 3204031479, 3329325298] : List Int)) := ⟨_, rfl⟩
 replace H : (some y185) = some r := by first | (rw [hy185]; with_reducible exact H) | (have H2_ := (Option.bind_some _ _).symm.trans H; rw [hy185]; with_reducible exact H2_) | (have H2_ := (Option.bind_some _ _).symm.trans H; with_reducible exact H2_) | with_reducible exact H | (rw [hy185]; exact H) | exact H
 have Ny185 := Aside0.mk hy185
 clear hy185
 obtain rfl := Option.some.inj H
 go_enter Tryd.func71, Tryd.ntmps71
 go_wp2_with (first | ((with_reducible refine gate_dst (N := 1) rfl ?_); refine Kd.R_lit (Kd.int .u32) _ 116 ?hg (N := 1) ?hd (xs := ([1116352408, 1899447441, 3049323471, 3921009573, 961987163, 1508970993, 2453635748, 2870763221, 3624381080, 310598401, 607225278, 1426881987, 1925078388, 2162078206, 2614888103, 3248222580, 3835390401, 4022224774, 264347078, 604807628, 770255983, 1249150122, 1555081692, 1996064986, 2554220882, 2821834349, 2952996808, 3210313671, 3336571891, 3584528711, 113926993, 338241895, 666307205, 773529912, 1294757372, 1396182291, 1695183700, 1986661051, 2177026350, 2456956037, 2730485921, 2820302411, 3259730800, 3345764771, 3516065817, 3600352804, 4094571909, 275423344, 430227734, 506948616, 659060556, 883997877, 958139571, 1322822218, 1537002063, 1747873779, 1955562222, 2024104815, 2227730452, 2361852424, 2428436474, 2756734187, 3204031479, 3329325298] : List Int)) (inner := [.int .u32 1116352408, .int .u32 1899447441, .int .u32 3049323471, .int .u32 3921009573, .int .u32 961987163, .int .u32 1508970993, .int .u32 2453635748, .int .u32 2870763221, .int .u32 3624381080, .int .u32 310598401, .int .u32 607225278, .int .u32 1426881987, .int .u32 1925078388, .int .u32 2162078206, .int .u32 2614888103, .int .u32 3248222580, .int .u32 3835390401, .int .u32 4022224774, .int .u32 264347078, .int .u32 604807628, .int .u32 770255983, .int .u32 1249150122, .int .u32 1555081692, .int .u32 1996064986, .int .u32 2554220882, .int .u32 2821834349, .int .u32 2952996808, .int .u32 3210313671, .int .u32 3336571891, .int .u32 3584528711, .int .u32 113926993, .int .u32 338241895, .int .u32 666307205, .int .u32 773529912, .int .u32 1294757372, .int .u32 1396182291, .int .u32 1695183700, .int .u32 1986661051, .int .u32 2177026350, .int .u32 2456956037, .int .u32 2730485921, .int .u32 2820302411, .int .u32 3259730800, .int .u32 3345764771, .int .u32 3516065817, .int .u32 3600352804, .int .u32 4094571909, .int .u32 275423344, .int .u32 430227734, .int .u32 506948616, .int .u32 659060556, .int .u32 883997877, .int .u32 958139571, .int .u32 1322822218, .int .u32 1537002063, .int .u32 1747873779, .int .u32 1955562222, .int .u32 2024104815, .int .u32 2227730452, .int .u32 2361852424, .int .u32 2428436474, .int .u32 2756734187, .int .u32 3204031479, .int .u32 3329325298]) (ok := fun _ => True) (okp := fun _ => True) ?hr ?hp (fun _ hk => hk) trivial (Below.refl _ _) (Nat.le_refl _) (by simp) ?_; (case hd => rfl); (case hg => rfl); (case hr => first | (go_simp; done) | (go_simp; rfl)); (case hp => exact (Reps.one (show Kd.M (Kd.int .u32) _ _ _ 1116352408 [.int .u32 1116352408] from rfl) (Reps.one (show Kd.M (Kd.int .u32) _ _ _ 1899447441 [.int .u32 1899447441] from rfl) (Reps.one (show Kd.M (Kd.int .u32) _ _ _ 3049323471 [.int .u32 3049323471] from rfl) (Reps.one (show Kd.M (Kd.int .u32) _ _ _ 3921009573 [.int .u32 3921009573] from rfl) (Reps.one (show Kd.M (Kd.int .u32) _ _ _ 961987163 [.int .u32 961987163] from rfl) (Reps.one (show Kd.M (Kd.int .u32) _ _ _ 1508970993 [.int .u32 1508970993] from rfl) (Reps.one (show Kd.M (Kd.int .u32) _ _ _ 2453635748 [.int .u32 2453635748] from rfl) (Reps.one (show Kd.M (Kd.int .u32) _ _ _ 2870763221 [.int .u32 2870763221] from rfl) (Reps.one (show Kd.M (Kd.int .u32) _ _ _ 3624381080 [.int .u32 3624381080] from rfl) (Reps.one (show Kd.M (Kd.int .u32) _ _ _ 310598401 [.int .u32 310598401] from rfl) (Reps.one (show Kd.M (Kd.int .u32) _ _ _ 607225278 [.int .u32 607225278] from rfl) (Reps.one (show Kd.M (Kd.int .u32) _ _ _ 1426881987 [.int .u32 1426881987] from rfl) (Reps.one (show Kd.M (Kd.int .u32) _ _ _ 1925078388 [.int .u32 1925078388] from rfl) (Reps.one (show Kd.M (Kd.int .u32) _ _ _ 2162078206 [.int .u32 2162078206] from rfl) (Reps.one (show Kd.M (Kd.int .u32) _ _ _ 2614888103 [.int .u32 2614888103] from rfl) (Reps.one (show Kd.M (Kd.int .u32) _ _ _ 3248222580 [.int .u32 3248222580] from rfl) (Reps.one (show Kd.M (Kd.int .u32) _ _ _ 3835390401 [.int .u32 3835390401] from rfl) (Reps.one (show Kd.M (Kd.int .u32) _ _ _ 4022224774 [.int .u32 4022224774] from rfl) (Reps.one (show Kd.M (Kd.int .u32) _ _ _ 264347078 [.int .u32 264347078] from rfl) (Reps.one (show Kd.M (Kd.int .u32) _ _ _ 604807628 [.int .u32 604807628] from rfl) (Reps.one (show Kd.M (Kd.int .u32) _ _ _ 770255983 [.int .u32 770255983] from rfl) (Reps.one (show Kd.M (Kd.int .u32) _ _ _ 1249150122 [.int .u32 1249150122] from rfl) (Reps.one (show Kd.M (Kd.int .u32) _ _ _ 1555081692 [.int .u32 1555081692] from rfl) (Reps.one (show Kd.M (Kd.int .u32) _ _ _ 1996064986 [.int .u32 1996064986] from rfl) (Reps.one (show Kd.M (Kd.int .u32) _ _ _ 2554220882 [.int .u32 2554220882] from rfl) (Reps.one (show Kd.M (Kd.int .u32) _ _ _ 2821834349 [.int .u32 2821834349] from rfl) (Reps.one (show Kd.M (Kd.int .u32) _ _ _ 2952996808 [.int .u32 2952996808] from rfl) (Reps.one (show Kd.M (Kd.int .u32) _ _ _ 3210313671 [.int .u32 3210313671] from rfl) (Reps.one (show Kd.M (Kd.int .u32) _ _ _ 3336571891 [.int .u32 3336571891] from rfl) (Reps.one (show Kd.M (Kd.int .u32) _ _ _ 3584528711 [.int .u32 3584528711] from rfl) (Reps.one (show Kd.M (Kd.int .u32) _ _ _ 113926993 [.int .u32 113926993] from rfl) (Reps.one (show Kd.M (Kd.int .u32) _ _ _ 338241895 [.int .u32 338241895] from rfl) (Reps.one (show Kd.M (Kd.int .u32) _ _ _ 666307205 [.int .u32 666307205] from rfl) (Reps.one (show Kd.M (Kd.int .u32) _ _ _ 773529912 [.int .u32 773529912] from rfl) (Reps.one (show Kd.M (Kd.int .u32) _ _ _ 1294757372 [.int .u32 1294757372] from rfl) (Reps.one (show Kd.M (Kd.int .u32) _ _ _ 1396182291 [.int .u32 1396182291] from rfl) (Reps.one (show Kd.M (Kd.int .u32) _ _ _ 1695183700 [.int .u32 1695183700] from rfl) (Reps.one (show Kd.M (Kd.int .u32) _ _ _ 1986661051 [.int .u32 1986661051] from rfl) (Reps.one (show Kd.M (Kd.int .u32) _ _ _ 2177026350 [.int .u32 2177026350] from rfl) (Reps.one (show Kd.M (Kd.int .u32) _ _ _ 2456956037 [.int .u32 2456956037] from rfl) (Reps.one (show Kd.M (Kd.int .u32) _ _ _ 2730485921 [.int .u32 2730485921] from rfl) (Reps.one (show Kd.M (Kd.int .u32) _ _ _ 2820302411 [.int .u32 2820302411] from rfl) (Reps.one (show Kd.M (Kd.int .u32) _ _ _ 3259730800 [.int .u32 3259730800] from rfl) (Reps.one (show Kd.M (Kd.int .u32) _ _ _ 3345764771 [.int .u32 3345764771] from rfl) (Reps.one (show Kd.M (Kd.int .u32) _ _ _ 3516065817 [.int .u32 3516065817] from rfl) (Reps.one (show Kd.M (Kd.int .u32) _ _ _ 3600352804 [.int .u32 3600352804] from rfl) (Reps.one (show Kd.M (Kd.int .u32) _ _ _ 4094571909 [.int .u32 4094571909] from rfl) (Reps.one (show Kd.M (Kd.int .u32) _ _ _ 275423344 [.int .u32 275423344] from rfl) (Reps.one (show Kd.M (Kd.int .u32) _ _ _ 430227734 [.int .u32 430227734] from rfl) (Reps.one (show Kd.M (Kd.int .u32) _ _ _ 506948616 [.int .u32 506948616] from rfl) (Reps.one (show Kd.M (Kd.int .u32) _ _ _ 659060556 [.int .u32 659060556] from rfl) (Reps.one (show Kd.M (Kd.int .u32) _ _ _ 883997877 [.int .u32 883997877] from rfl) (Reps.one (show Kd.M (Kd.int .u32) _ _ _ 958139571 [.int .u32 958139571] from rfl) (Reps.one (show Kd.M (Kd.int .u32) _ _ _ 1322822218 [.int .u32 1322822218] from rfl) (Reps.one (show Kd.M (Kd.int .u32) _ _ _ 1537002063 [.int .u32 1537002063] from rfl) (Reps.one (show Kd.M (Kd.int .u32) _ _ _ 1747873779 [.int .u32 1747873779] from rfl) (Reps.one (show Kd.M (Kd.int .u32) _ _ _ 1955562222 [.int .u32 1955562222] from rfl) (Reps.one (show Kd.M (Kd.int .u32) _ _ _ 2024104815 [.int .u32 2024104815] from rfl) (Reps.one (show Kd.M (Kd.int .u32) _ _ _ 2227730452 [.int .u32 2227730452] from rfl) (Reps.one (show Kd.M (Kd.int .u32) _ _ _ 2361852424 [.int .u32 2361852424] from rfl) (Reps.one (show Kd.M (Kd.int .u32) _ _ _ 2428436474 [.int .u32 2428436474] from rfl) (Reps.one (show Kd.M (Kd.int .u32) _ _ _ 2756734187 [.int .u32 2756734187] from rfl) (Reps.one (show Kd.M (Kd.int .u32) _ _ _ 3204031479 [.int .u32 3204031479] from rfl) (Reps.one (show Kd.M (Kd.int .u32) _ _ _ 3329325298 [.int .u32 3329325298] from rfl) (Reps.none _ _)))))))))))))))))))))))))))))))))))))))))))))))))))))))))))))))))); intro v186 w1 ho2 hb hg_ hnew_; clear hg_ hnew_; (first | rw [← Ny185.out] at ho2 | (simp only [Int.reduceToNat] at ho2; rw [← Ny185.out] at ho2)); have HO187 := Aside0.mk (Kd.R_lower ho2 (below_size (M.up HB))); replace HB := M.upS HB hb; clear hb ho2))
 go_ret
 exact ⟨_, M.eqe, by (with_reducible repeat (first | apply Kd.R_alloc | apply Kd.R_drewN | apply Kd.R_drew)); exact HO187.out, M.up HB⟩
def pleachref03_turn_p.f (a0 : Int) (a1 : Int) : Option (Int) := if 0 ≤ a1 then (if 0 ≤ (IntKind.u64.wrap (32 - a1)) then (some (Go.bits .or .u32 (shr .u32 a0 a1) (shl .u32 a0 (IntKind.u64.wrap (32 - a1))))) else (none)) else (none)
set_option maxHeartbeats 8000000 in
set_option maxRecDepth 100000 in
theorem pleachref03_turn_p.calls (a0 : Int) (a1 : Int) (r : Int) (w : World) (h : pleachref03_turn_p.f a0 a1 = some r) :
    Calls Tryd.prog 73 #[.int .u32 a0, .int .u64 a1] w fun e w' => e = .returned (.int .u32 r) ∧ Drawn0 w w' := by
 have H : (if 0 ≤ a1 then (if 0 ≤ (IntKind.u64.wrap (32 - a1)) then (some (Go.bits .or .u32 (shr .u32 a0 a1) (shl .u32 a0 (IntKind.u64.wrap (32 - a1))))) else (none)) else (none)) = some r := h
 clear h
 by_cases c3 : 0 ≤ a1
 ·rw [if_pos c3] at H
  have c3b0 := eq_true c3
  have c3b1 := decide_eq_true c3
  clear c3
  obtain ⟨ji4, hji4⟩ : ∃ j_ : Int, (shr .u32 a0 a1) = j_ := ⟨_, rfl⟩
  replace H : (if 0 ≤ (IntKind.u64.wrap (32 - a1)) then (some (Go.bits .or .u32 (ji4) (shl .u32 a0 (IntKind.u64.wrap (32 - a1))))) else (none)) = some r := by first | (rw [hji4] at H; exact H) | (simp only [hji4] at H ⊢; exact H)
  have hji4_ : (a0 / 2 ^ min a1.toNat 32) = ji4 := hji4
  have hji4z : a1 ≤ 32 → (a0 / 2 ^ a1.toNat) = ji4 := shr_small hji4
  obtain ⟨ji5, hji5⟩ : ∃ j_ : Int, (IntKind.u64.wrap (32 - a1)) = j_ := ⟨_, rfl⟩
  replace H : (if 0 ≤ (ji5) then (some (Go.bits .or .u32 (ji4) (shl .u32 a0 (ji5)))) else (none)) = some r := by first | (rw [hji5] at H; exact H) | (simp only [hji5] at H ⊢; exact H)
  by_cases c6 : 0 ≤ (ji5)
  ·rw [if_pos c6] at H
   have c6b0 := eq_true c6
   have c6b1 := decide_eq_true c6
   clear c6
   obtain ⟨ji7, hji7⟩ : ∃ j_ : Int, (shl .u32 a0 (ji5)) = j_ := ⟨_, rfl⟩
   replace H : (some (Go.bits .or .u32 (ji4) (ji7))) = some r := by first | (rw [hji7] at H; exact H) | (simp only [hji7] at H ⊢; exact H)
   have hji7_ : (IntKind.u32.wrap (a0 * 2 ^ min (ji5).toNat 32)) = ji7 := hji7
   have hji7z : (ji5) ≤ 32 → (IntKind.u32.wrap (a0 * 2 ^ (ji5).toNat)) = ji7 := shl_small hji7
   obtain rfl := Option.some.inj H
   go_enter Tryd.func73, Tryd.ntmps73
   go_wp2
   go_ret
   exact ⟨by first | rfl | (simp; done) | (simp only [← hji4, ← hji5, ← hji7] <;> (first | rfl | simp)) | (simp [*]; done), by repeat (first | exact Drawn0.refl _ | apply Drawn0.step)⟩
  ·exact M.nf c6 H
 ·exact M.nf c3 H
def pleachref03_turn.f (a0 a1 : Int) : Option Int := if 0 ≤ a0 ∧ a0 < 4294967296 ∧ 0 < a1 ∧ a1 < 32 then some ((M.rotr a0.toNat a1.toNat : Nat) : Int) else none
theorem pleachref03_turn.ev (a0 a1 r : Int) (h : pleachref03_turn.f a0 a1 = some r) : pleachref03_turn_p.f a0 a1 = some r := by
 unfold pleachref03_turn.f at h
 split at h
 case isFalse => cases h
 case isTrue hh =>
  obtain ⟨h0, h1, h2, h3⟩ := hh
  obtain ⟨y, rfl⟩ := Int.eq_ofNat_of_zero_le h0
  obtain ⟨n, rfl⟩ := Int.eq_ofNat_of_zero_le (show 0 ≤ a1 by omega)
  have hs : IntKind.u64.wrap (32 - (n : Int)) = ((32 - n : Nat) : Int) := by rw [M.u64_wrap]; omega
  rw [Int.toNat_natCast, Int.toNat_natCast] at h
  rw [← h]
  unfold pleachref03_turn_p.f
  rw [hs, if_pos (by omega), if_pos (by omega)]
  have e1 : shl .u32 (y : Int) ((32 - n : Nat) : Int) = ((y * 2 ^ (32 - n) % 4294967296 : Nat) : Int) := by
   unfold shl
   rw [Int.toNat_natCast, show min (32 - n) IntKind.u32.bits = 32 - n from by show min (32 - n) 32 = 32 - n; omega, M.u32_wrap]
   rw [Int.natCast_emod, Int.natCast_mul, Int.natCast_pow]; rfl
  have e2 : shr .u32 (y : Int) (n : Int) = ((y / 2 ^ n : Nat) : Int) := by
   unfold shr
   rw [Int.toNat_natCast, show min n IntKind.u32.bits = n from by show min n 32 = n; omega]
   rw [Int.natCast_ediv, Int.natCast_pow]; rfl
  rw [e1, e2, M.or32 (Nat.lt_of_le_of_lt (Nat.div_le_self _ _) (by omega)) (Nat.mod_lt _ (by decide)), Nat.or_comm]
  rfl
theorem pleachref03_turn.eq_ (y : Nat) (n : Int) (hy : y < 4294967296) (h0 : 0 < n) (h1 : n < 32) : pleachref03_turn.f (y : Int) n = some ((M.rotr y n.toNat : Nat) : Int) := by
 unfold pleachref03_turn.f
 rw [if_pos ⟨by omega, by omega, h0, h1⟩, Int.toNat_natCast]
theorem pleachref03_turn.calls (a0 : Int) (a1 : Int) (r : Int) (w : World) (h : pleachref03_turn.f a0 a1 = some r) :
    Calls Tryd.prog 73 #[.int .u32 a0, .int .u64 a1] w fun e w' => e = .returned (.int .u32 r) ∧ Drawn0 w w' := by
 exact pleachref03_turn_p.calls (w := w) (h := pleachref03_turn.ev _ _ _ h)
end Go.Proofs.YtikdbklmhjlfoaaDoor.ECommitKnots
