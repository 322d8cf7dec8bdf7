-- Laid by this session's own program (wip/tools/fold.py): this session's texts, cut to what the claim names and put together; Lean checks it.
import Derived.Test.YtkjbhgolillidaaDoorVMarkNames1
import Derived.Test.YtkjbhgolillidaaDoorXMarkNames1
namespace Go.Proofs.YtkjbhgolillidaaDoor.EMarkNames
open Go.RowKit Go.Proofs.YtkjbhgolillidaaDoorW.PrintWords Go.Proofs.YtkjbhgolillidaaDoorW.PrintLast Go.Proofs.YtkjbhgolillidaaDoorW.PrintMore
attribute [local go_sem] M.run_leq M.run_gtr M.run_geq max2_int min2_int max_two min_two max_three min_three max_four min_four
set_option linter.unusedVariables false
set_option linter.unusedSimpArgs false
def sha_Hash_Sum.ns (l : List UInt8) : List Int := l.map fun x => (x.toNat : Int)
theorem sha_Hash_Sum.foot_at {w : World} {base n c : Nat} {A : Option Addr} {l : List UInt8} (h : w.ownsRow base 5 1 (.slice A n c) n (nums .u8 (sha_Hash_Sum.ns l))) : (∀ g, w.heap.size ≤ g → M.foot w g A n l) ∧ n ≤ c := by
 refine ⟨fun g hg W' hk => ?_, ?_⟩
 ·have ho := hk.own h (fun e => by
   rcases h.2 with ⟨e1, _⟩ | ⟨g1, _, _, e1, _, e2, _⟩
   ·rw [e1] at e; cases e
   ·rw [e1] at e
    injection e with e
    have := M.lt_blk e2
    have : g1 = g := e
    omega) (by cases hv : Value.ownBlock (.slice A n c) <;> simp)
  obtain ⟨A', c', e, hr⟩ := own_reads ho
  injection e with e1
  subst e1
  exact hr
 ·rcases h.2 with ⟨e, _⟩ | ⟨_, _, _, e, _, _, h1, _⟩
  ·injection e with _ e1 e2
   omega
  ·injection e with _ e1 e2
   omega
theorem sha_Hash_Sum.txt (p0 p1 p2 p3 p4 p5 p6 p7 : Nat) (w : World) (hlt : ∀ x ∈ [p0, p1, p2, p3, p4, p5, p6, p7], x < 4294967296) :
    Calls Tryd.prog 58 #[.agg #[.int .u32 (p0 : Int), .int .u32 (p1 : Int), .int .u32 (p2 : Int), .int .u32 (p3 : Int), .int .u32 (p4 : Int), .int .u32 (p5 : Int), .int .u32 (p6 : Int), .int .u32 (p7 : Int)]] w fun e w' => e = .returned (.string (M.sb (M.shaText [p0, p1, p2, p3, p4, p5, p6, p7]))) ∧ Below w.heap.size w w' := sha_text.calls [p0, p1, p2, p3, p4, p5, p6, p7] w rfl hlt
theorem sha_Hash_Sum.key (r0 : List UInt8) (N i : Nat) (h : i < 8) : sha_Hash_Sum.ns (r0 ++ (M.be8 N).take i) ++ [((N : Int) / 2 ^ (56 - 8 * i) % 256)] = sha_Hash_Sum.ns (r0 ++ (M.be8 N).take (i + 1)) := by
 obtain rfl | rfl | rfl | rfl | rfl | rfl | rfl | rfl : i = 0 ∨ i = 1 ∨ i = 2 ∨ i = 3 ∨ i = 4 ∨ i = 5 ∨ i = 6 ∨ i = 7 := by omega
 all_goals simp [sha_Hash_Sum.ns, M.be8]
set_option maxHeartbeats 8000000 in
set_option maxRecDepth 100000 in
theorem sha_Hash_Sum.calls (g y0 y1 y2 y3 y4 y5 y6 y7 m c n : Nat) (A : Option Addr) (l : List UInt8) (w : World) (hH : M.hash w g 108 y0 y1 y2 y3 y4 y5 y6 y7 (.slice A m c) (n : Int)) (hT : M.stab w) (hx : ∀ x ∈ [y0, y1, y2, y3, y4, y5, y6, y7], x < 4294967296) (hF : ReadsInt w .u8 A m (sha_Hash_Sum.ns l)) (hc : m ≤ c) (hm : m < 64) (hn : n ≤ 1000000000000) :
    Calls Tryd.prog 40 #[.pointer (some ⟨g, 0, none⟩)] w fun e w' => e = .returned (.string (M.sb (M.shaText (M.eat [y0, y1, y2, y3, y4, y5, y6, y7] (M.padlast l n) ((M.padlast l n).length / 64))))) ∧ Below w.heap.size w w' := by
 have c8 : w.cell? ⟨g, 8, none⟩ = some (.slice A m c) := M.blk_cell hH 8 _ rfl
 have HH := Aside0.mk hH
 have HGL := Aside0.mk (M.lt_blk hH)
 have HT := Aside0.mk hT
 have HX := Aside0.mk hx
 have HF := Aside0.mk hF
 have hml : (sha_Hash_Sum.ns l).length = m := hF.1
 have HB := Aside0.mk (Below.refl w.heap.size w)
 clear hH hT hx hF
 go_enter Tryd.func40, Tryd.ntmps40
 have c8b : (w.alloc (.cells #[] 5)).cell? ⟨g, 8, none⟩ = some (.slice A m c) := ((below_alloc HB.out (.cells #[] 5)).cell (p := ⟨g, 8, none⟩) HGL.out).trans c8
 have HO1 := Aside0.mk (own_lit w w.heap.size 5 .u8 [] (Nat.le_refl _) (by decide))
 have HML := Aside0.mk (show l.length = m from by rw [← hml]; simp [ns])
 have n1 : ns l ++ [128] = ns (l ++ [128] ++ List.replicate 0 0) := by simp [ns]
 have HN1 := Aside0.mk n1
 clear n1 hml
 go_wp2_with (first | (go_at_call 56; (with_reducible refine (sha_Hash_there.calls g y0 y1 y2 y3 y4 y5 y6 y7 _ _ _ HH.out).mono ?_); rintro e w1 ⟨rfl, rfl⟩) | (at_builtin; refine print_append_row (w0 := w) w.heap.size rfl (.tmp 10) (.tmp 14) 106 5 .u8 1 rfl Tryd.underlying106 info5 (by decide) _ [] (ns l) A m c rfl rfl HO1.out (HF.out.allocS _) (below_alloc HB.out _) (by simp) (by simp; omega) ?_; intro v2 w2 hown hb2 hg2 hat2; have HO2 := Aside0.mk hown; have HB2 := Aside0.mk hb2; clear hown hb2 hg2 hat2) | (at_builtin; refine print_append_num (w0 := w) w.heap.size rfl (.tmp 16) (.tmp 17) 106 5 .u8 1 rfl Tryd.underlying106 info5 (by decide) _ (ns l) 128 rfl rfl HO2.out HB2.out HB2.out.size (by simp [ns]; have := HML.out; omega) ?_; intro v3 w3 hown hb3 hg3 hat3; rw [HN1.out] at hown; have HO3 := Aside0.mk hown; have HB3 := Aside0.mk hb3; clear hown hb3 hg3 hat3 HO2 HB2))
 go_loopw [3] (fun v3 wr => ∃ j : Nat, j ≤ M.padz l.length ∧ Aside0 (wr.ownsRow w.heap.size 5 1 v3 (l.length + 1 + j) (nums .u8 (ns (l ++ [128] ++ List.replicate j 0)))) ∧ Aside0 (Below w.heap.size w wr)) (fun v3 _ => match v3 with | .slice _ n _ => l.length + 1 + M.padz l.length - n | _ => 0)
 case atStart => exact ⟨0, Nat.zero_le _, ⟨by have := HO3.out; simpa [ns] using this⟩, HB3⟩
 case round =>
  clear HO3 HB3 c8b HB
  obtain ⟨j, hj, HO, HB⟩ := hrel
  obtain ⟨A3, c3, rfl⟩ := own_slice HO.out
  have hp := M.padz_lt l.length
  have hpa := M.padz_at l.length j hj
  obtain ⟨q, hq⟩ : ∃ q, q = l.length + 1 + j := ⟨_, rfl⟩
  rw [← hq] at HO hpa ⊢
  have hq63 : q ≤ 1000 := by have := HML.out; omega
  have hmod : (q : Int).tmod 64 = ((q % 64 : Nat) : Int) := by rw [Int.tmod_eq_emod_of_nonneg (by omega)]; omega
  have HQ := Aside0.mk hq
  clear hq
  by_cases hlt : j = M.padz l.length
  ·have hd : ((q : Int) % 64 = 56) := by have := hpa.2 hlt; omega
   have c9_ : wr.cell? ⟨g, 9, none⟩ = some (.int .i64 (n : Int)) := (HB.out.cell (p := ⟨g, 9, none⟩) HGL.out).trans (M.blk_cell HH.out 9 _ rfl)
   have HQP := Aside0.mk (show (l ++ [128] ++ List.replicate j 0).length = q from by rw [HQ.out]; simp; omega)
   have HPL := Aside0.mk (show M.padlast l n = l ++ [128] ++ List.replicate j 0 ++ M.be8 (8 * n) from by rw [hlt]; rfl)
   generalize l ++ [128] ++ List.replicate j 0 = r0 at HO HQP HPL
   clear hpa hlt hj hp hmod
   go_wp2
   obtain ⟨N, hN⟩ : ∃ N : Nat, N = 8 * n := ⟨_, rfl⟩
   have hN' : (n : Int) * 8 = (N : Int) := by omega
   rw [hN']
   rw [← hN] at HPL
   have hne : ((q : Int) % 64 != 56) = false := by simp [hd]
   try rw [hne]
   clear hN hN' c9_ hd hne
   go_loopw [3, 32] (fun v3 v32 wq => ∃ i : Nat, v32 = .int .i64 (i : Int) ∧ i ≤ 8 ∧ Aside0 (wq.ownsRow w.heap.size 5 1 v3 (q + i) (nums .u8 (ns (r0 ++ (M.be8 N).take i)))) ∧ Aside0 (Below w.heap.size w wq)) (fun _ v32 _ => 8 - (intOf v32).toNat)
   case atStart => exact ⟨0, rfl, Nat.zero_le _, ⟨by have := HO.out; simpa using this⟩, HB⟩
   case round =>
    clear HO HB
    obtain ⟨i, rfl, hi, HO, HB⟩ := hrel
    obtain ⟨A4, c4, rfl⟩ := own_slice HO.out
    by_cases hlt : i < 8
    ·have hb1 := sha_Hash_Sum.key r0 N i hlt
     have HB1 := Aside0.mk hb1
     have HLn := Aside0.mk (show (ns (r0 ++ (M.be8 N).take i)).length = q + i from by have := HO.out.1; simpa [nums] using this)
     have HO' := Aside0.mk (show wr.ownsRow w.heap.size 5 1 (.slice A4 (q + i) c4) (ns (r0 ++ (M.be8 N).take i)).length (nums .u8 (ns (r0 ++ (M.be8 N).take i))) from by rw [HLn.out]; exact HO.out)
     clear hb1
     generalize ns (r0 ++ (M.be8 N).take i) = xs at HB1 HLn HO'
     go_wp2_with (first | (at_builtin; refine print_append_num (w0 := w) w.heap.size rfl (.tmp 35) (.tmp 42) 106 5 .u8 1 rfl Tryd.underlying106 info5 (by decide) _ xs ((N : Int) / 2 ^ (56 - 8 * i) % 256) rfl rfl HO'.out HB.out HB.out.size (by rw [HLn.out]; omega) ?_; intro v5 w5 hown hb5 hg5 hat5; have HO5 := Aside0.mk (show w5.ownsRow w.heap.size 5 1 v5 (q + (i + 1)) (nums .u8 (ns (r0 ++ (M.be8 N).take (i + 1)))) from by rw [List.length_append, HLn.out, HB1.out] at hown; exact hown); have HB5 := Aside0.mk hb5; clear hown hb5 hg5 hat5))
     go_roundw
     case rel => exact ⟨i + 1, by go_num, by omega, HO5, HB5⟩
     case measure => simp [intOf]; omega
    ·obtain rfl : i = 8 := by omega
     have HLL := Aside0.mk (show r0 ++ (M.be8 N).take 8 = M.padlast l n from by rw [HPL.out]; rfl)
     rw [HLL.out] at HO
     have hLlen : (M.padlast l n).length = q + 8 := by rw [HPL.out, List.length_append, HQP.out]; rfl
     have hL64 := M.padlast_len l n
     have HLT := Aside0.mk HO.out
     obtain ⟨hA4, hcap4⟩ := sha_Hash_Sum.foot_at HO.out
     have c0_ : wr.cell? ⟨g, 0, none⟩ = some (.int .u32 (y0 : Int)) := (HB.out.cell (p := ⟨g, 0, none⟩) HGL.out).trans (M.blk_cell HH.out 0 _ rfl)
     have c1_ : wr.cell? ⟨g, 1, none⟩ = some (.int .u32 (y1 : Int)) := (HB.out.cell (p := ⟨g, 1, none⟩) HGL.out).trans (M.blk_cell HH.out 1 _ rfl)
     have c2_ : wr.cell? ⟨g, 2, none⟩ = some (.int .u32 (y2 : Int)) := (HB.out.cell (p := ⟨g, 2, none⟩) HGL.out).trans (M.blk_cell HH.out 2 _ rfl)
     have c3_ : wr.cell? ⟨g, 3, none⟩ = some (.int .u32 (y3 : Int)) := (HB.out.cell (p := ⟨g, 3, none⟩) HGL.out).trans (M.blk_cell HH.out 3 _ rfl)
     have c4_ : wr.cell? ⟨g, 4, none⟩ = some (.int .u32 (y4 : Int)) := (HB.out.cell (p := ⟨g, 4, none⟩) HGL.out).trans (M.blk_cell HH.out 4 _ rfl)
     have c5_ : wr.cell? ⟨g, 5, none⟩ = some (.int .u32 (y5 : Int)) := (HB.out.cell (p := ⟨g, 5, none⟩) HGL.out).trans (M.blk_cell HH.out 5 _ rfl)
     have c6_ : wr.cell? ⟨g, 6, none⟩ = some (.int .u32 (y6 : Int)) := (HB.out.cell (p := ⟨g, 6, none⟩) HGL.out).trans (M.blk_cell HH.out 6 _ rfl)
     have c7_ : wr.cell? ⟨g, 7, none⟩ = some (.int .u32 (y7 : Int)) := (HB.out.cell (p := ⟨g, 7, none⟩) HGL.out).trans (M.blk_cell HH.out 7 _ rfl)
     have a82 := Tryd.isAgg82
     have z82 := Tryd.sizeOf82
     obtain ⟨Lq, hLq⟩ : ∃ L, L = M.padlast l n := ⟨_, rfl⟩
     rw [← hLq] at hLlen hL64 hA4
     have HLQ := Aside0.mk hLq
     clear hLq
     clear HO HPL HLL HLT HQP
     go_wp2_with (first | ((with_reducible refine gate_store (t := 105) (p := 6) (v := .tmp 48) rfl ?_); refine M.wp_arr_store rfl 105 _ _ rfl wr.heap.size 105 .u32 (List.replicate 8 0) [(y0 : Int), (y1 : Int), (y2 : Int), (y3 : Int), (y4 : Int), (y5 : Int), (y6 : Int), (y7 : Int)] rfl rfl (M.arr_new wr 105 .u32 (List.replicate 8 0)) rfl sha_text.i82 ?_; intro w6 hA6 hF6 hB6 hz6; have HA6 := Aside0.mk (show M.arr w6 wr.heap.size 105 .u32 (M.nums32 [y0, y1, y2, y3, y4, y5, y6, y7]) from hA6); have HB6 := Aside0.mk (hB6 _ _ HB.out.size (below_alloc HB.out _)); have HF6 := Aside0.mk (M.foot_step (hA4 wr.heap.size (Nat.le_refl _)) (show KeepBut wr w6 wr.heap.size none from ⟨by rw [hz6]; simp, fun i hi hne _ => (hF6 i hne).trans (Below.heap_alloc _ _ _ hi)⟩)); clear hA6 hF6 hB6 hz6))
     dsimp only [Act.put]
     try rw [show ((8 : Nat) : Int) = 8 from rfl]
     obtain ⟨g6, hg6⟩ : ∃ g, g = wr.heap.size := ⟨_, rfl⟩
     have hgb : w.heap.size ≤ g6 := by rw [hg6]; exact HB.out.size
     rw [← hg6] at HA6 HF6 ⊢
     clear hA4 c0_ c1_ c2_ c3_ c4_ c5_ c6_ c7_ hg6 HB
     have HGB := Aside0.mk hgb
     clear hgb
     go_loopw [3] (fun v3 wq => ∃ (k p0 p1 p2 p3 p4 p5 p6 p7 m' : Nat) (A' : Option Addr) (c' : Nat), v3 = .slice A' m' c' ∧ 64 * k + m' = Lq.length ∧ m' ≤ c' ∧ Aside0 (M.foot wq g6 A' m' (Lq.drop (64 * k))) ∧ Aside0 (M.arr wq g6 105 .u32 (M.nums32 [p0, p1, p2, p3, p4, p5, p6, p7])) ∧ Aside0 (M.eat [y0, y1, y2, y3, y4, y5, y6, y7] Lq k = [p0, p1, p2, p3, p4, p5, p6, p7]) ∧ Aside0 (Below w.heap.size w wq)) (fun v3 _ => match v3 with | .slice _ n _ => n | _ => 0)
     case atStart => exact ⟨0, y0, y1, y2, y3, y4, y5, y6, y7, q + 8, A4, c4, rfl, by omega, hcap4, HF6, HA6, ⟨rfl⟩, HB6⟩
     case round =>
      clear HF6 HA6 HB6 hcap4
      obtain ⟨k, p0, p1, p2, p3, p4, p5, p6, p7, m', A', c', rfl, hk, hcc, HF, HA, HE, HB⟩ := hrel
      by_cases hpos : 0 < m'
      ·have hm64 : 64 ≤ m' := by omega
       have hd : decide (0 < (m' : Int)) = true := decide_eq_true (by omega)
       obtain ⟨ad, rfl, _⟩ := (M.foot_now HF.out).2.2 hpos
       have c0_ : wr.cell? ⟨g6, 0, none⟩ = some (.int .u32 (p0 : Int)) := M.arr_cell HA.out 0 (by simp [M.nums32])
       have c1_ : wr.cell? ⟨g6, 1, none⟩ = some (.int .u32 (p1 : Int)) := M.arr_cell HA.out 1 (by simp [M.nums32])
       have c2_ : wr.cell? ⟨g6, 2, none⟩ = some (.int .u32 (p2 : Int)) := M.arr_cell HA.out 2 (by simp [M.nums32])
       have c3_ : wr.cell? ⟨g6, 3, none⟩ = some (.int .u32 (p3 : Int)) := M.arr_cell HA.out 3 (by simp [M.nums32])
       have c4_ : wr.cell? ⟨g6, 4, none⟩ = some (.int .u32 (p4 : Int)) := M.arr_cell HA.out 4 (by simp [M.nums32])
       have c5_ : wr.cell? ⟨g6, 5, none⟩ = some (.int .u32 (p5 : Int)) := M.arr_cell HA.out 5 (by simp [M.nums32])
       have c6_ : wr.cell? ⟨g6, 6, none⟩ = some (.int .u32 (p6 : Int)) := M.arr_cell HA.out 6 (by simp [M.nums32])
       have c7_ : wr.cell? ⟨g6, 7, none⟩ = some (.int .u32 (p7 : Int)) := M.arr_cell HA.out 7 (by simp [M.nums32])
       have hblk : ((Lq.drop (64 * k)).take 64).length = 64 := by simp; omega
       have HBL := Aside0.mk hblk
       have hrd := (M.foot_now HF.out).take_ 64 hm64
       rw [← List.map_take] at hrd
       have HRD := Aside0.mk hrd
       have HEn := Aside0.mk (show M.eat [y0, y1, y2, y3, y4, y5, y6, y7] Lq (k + 1) = M.turned [p0, p1, p2, p3, p4, p5, p6, p7] ((Lq.drop (64 * k)).take 64) from by rw [M.eat, HE.out])
       have HPL := Aside0.mk (show ∀ x ∈ [p0, p1, p2, p3, p4, p5, p6, p7], x < 4294967296 from by
        rw [← HE.out]
        cases k with
        | zero => exact HX.out
        | succ k => exact sha_Hash_Put.lt _ _)
       have HTr := Aside0.mk (M.stab_below HT.out HB.out (M.stab_lt HT.out))
       have hc64 : 64 ≤ c' := by omega
       clear hblk hrd hd
       go_wp2
       go_region_with (go_at_call 57; (with_reducible refine (sha_Hash_Put.turn ad c' p0 p1 p2 p3 p4 p5 p6 p7 ((Lq.drop (64 * k)).take 64) _ HPL.out HBL.out ?hr hc64 ?ht).mono ?_); (case hr => exact HRD.out); (case ht => exact HTr.out); rintro e w7 ⟨z0, z1, z2, z3, z4, z5, z6, z7, hz, rfl, hb7⟩; have HZ := Aside0.mk hz; have HA7 := Aside0.mk (show M.arr w7 g6 105 .u32 (M.nums32 [p0, p1, p2, p3, p4, p5, p6, p7]) from M.arr_below (M.arr_drew HA.out) hb7); have HB7 := Aside0.mk (below_step (below_drew1 HB.out) hb7); have HF7 := Aside0.mk (M.foot_step HF.out (KeepBut.of_below hb7 g6 none)); have e0_ : w7.cell? ⟨g6, 0, none⟩ = some (.int .u32 (p0 : Int)) := M.arr_cell HA7.out 0 (by simp [M.nums32]); have g0_ := M.arr_free HA7.out 0; have e1_ : w7.cell? ⟨g6, 1, none⟩ = some (.int .u32 (p1 : Int)) := M.arr_cell HA7.out 1 (by simp [M.nums32]); have g1_ := M.arr_free HA7.out 1; have e2_ : w7.cell? ⟨g6, 2, none⟩ = some (.int .u32 (p2 : Int)) := M.arr_cell HA7.out 2 (by simp [M.nums32]); have g2_ := M.arr_free HA7.out 2; have e3_ : w7.cell? ⟨g6, 3, none⟩ = some (.int .u32 (p3 : Int)) := M.arr_cell HA7.out 3 (by simp [M.nums32]); have g3_ := M.arr_free HA7.out 3; have e4_ : w7.cell? ⟨g6, 4, none⟩ = some (.int .u32 (p4 : Int)) := M.arr_cell HA7.out 4 (by simp [M.nums32]); have g4_ := M.arr_free HA7.out 4; have e5_ : w7.cell? ⟨g6, 5, none⟩ = some (.int .u32 (p5 : Int)) := M.arr_cell HA7.out 5 (by simp [M.nums32]); have g5_ := M.arr_free HA7.out 5; have e6_ : w7.cell? ⟨g6, 6, none⟩ = some (.int .u32 (p6 : Int)) := M.arr_cell HA7.out 6 (by simp [M.nums32]); have g6_ := M.arr_free HA7.out 6; have e7_ : w7.cell? ⟨g6, 7, none⟩ = some (.int .u32 (p7 : Int)) := M.arr_cell HA7.out 7 (by simp [M.nums32]); have g7_ := M.arr_free HA7.out 7; clear hz hb7)
       all_goals
        have HA8 := Aside0.mk (M.arr_set8 HA7.out z0 z1 z2 z3 z4 z5 z6 z7)
        have HF8 := Aside0.mk (M.foot_step HF7.out (M.keep_set8 w7 g6 z0 z1 z2 z3 z4 z5 z6 z7))
        have HB8 := Aside0.mk (M.below_set8 HB7.out g6 z0 z1 z2 z3 z4 z5 z6 z7 HGB.out)
        clear e0_ e1_ e2_ e3_ e4_ e5_ e6_ e7_ g0_ g1_ g2_ g3_ g4_ g5_ g6_ g7_ HA7 HF7 HB7 c0_ c1_ c2_ c3_ c4_ c5_ c6_ c7_ HA HF HB HRD HTr
        generalize ((((((((w7.setCell ⟨g6, 0, none⟩ (.int .u32 (z0 : Int))).setCell ⟨g6, 1, none⟩ (.int .u32 (z1 : Int))).setCell ⟨g6, 2, none⟩ (.int .u32 (z2 : Int))).setCell ⟨g6, 3, none⟩ (.int .u32 (z3 : Int))).setCell ⟨g6, 4, none⟩ (.int .u32 (z4 : Int))).setCell ⟨g6, 5, none⟩ (.int .u32 (z5 : Int))).setCell ⟨g6, 6, none⟩ (.int .u32 (z6 : Int))).setCell ⟨g6, 7, none⟩ (.int .u32 (z7 : Int))) = w8 at HA8 HF8 HB8 ⊢
        obtain ⟨i0, hi0, hi1⟩ := Option.map_eq_some_iff.1 info5
        simp only [Prod.mk.injEq] at hi1
        obtain ⟨A2, hcut, hrd2⟩ := print_cut (P := Tryd.prog) 106 5 .i64 Tryd.underlying106 hi0 hi1.2.1 (some ad) m' c' 64 hm64
        have hcut' : ∀ W : World, (Instr.slice 106 (.slice (some ad) m' c') (some (.int .i64 64)) none none).run Tryd.prog W = .ok (.slice A2 (m' - 64) (c' - 64)) W := hcut
        have HF9 := Aside0.mk (show M.foot w8 g6 A2 (m' - 64) (Lq.drop (64 * (k + 1))) from fun W' hk' => by
         have := hrd2 W' .u8 _ hcc (HF8.out W' hk')
         rw [← List.map_drop, List.drop_drop] at this
         rw [show 64 * (k + 1) = 64 * k + 64 from by omega]
         exact this)
        clear hcut hrd2 HF8 hi0 hi1
        go_wp2
        go_roundw
        case rel => exact ⟨k + 1, z0, z1, z2, z3, z4, z5, z6, z7, m' - 64, A2, c' - 64, rfl, by omega, by omega, HF9, HA8, ⟨by rw [HEn.out, HZ.out]⟩, HB8⟩
        case measure =>
         show m' - 64 < m'
         omega
      ·obtain rfl : m' = 0 := by omega
       have c0_ : wr.cell? ⟨g6, 0, none⟩ = some (.int .u32 (p0 : Int)) := M.arr_cell HA.out 0 (by simp [M.nums32])
       have c1_ : wr.cell? ⟨g6, 1, none⟩ = some (.int .u32 (p1 : Int)) := M.arr_cell HA.out 1 (by simp [M.nums32])
       have c2_ : wr.cell? ⟨g6, 2, none⟩ = some (.int .u32 (p2 : Int)) := M.arr_cell HA.out 2 (by simp [M.nums32])
       have c3_ : wr.cell? ⟨g6, 3, none⟩ = some (.int .u32 (p3 : Int)) := M.arr_cell HA.out 3 (by simp [M.nums32])
       have c4_ : wr.cell? ⟨g6, 4, none⟩ = some (.int .u32 (p4 : Int)) := M.arr_cell HA.out 4 (by simp [M.nums32])
       have c5_ : wr.cell? ⟨g6, 5, none⟩ = some (.int .u32 (p5 : Int)) := M.arr_cell HA.out 5 (by simp [M.nums32])
       have c6_ : wr.cell? ⟨g6, 6, none⟩ = some (.int .u32 (p6 : Int)) := M.arr_cell HA.out 6 (by simp [M.nums32])
       have c7_ : wr.cell? ⟨g6, 7, none⟩ = some (.int .u32 (p7 : Int)) := M.arr_cell HA.out 7 (by simp [M.nums32])
       have hkd : Lq.length / 64 = k := by omega
       have HPL := Aside0.mk (show ∀ x ∈ [p0, p1, p2, p3, p4, p5, p6, p7], x < 4294967296 from by
        rw [← HE.out]
        cases k with
        | zero => exact HX.out
        | succ k => exact sha_Hash_Put.lt _ _)
       go_wp2_with (first | (go_at_call 58; (with_reducible refine (sha_Hash_Sum.txt p0 p1 p2 p3 p4 p5 p6 p7 _ HPL.out).mono ?_); rintro e w9 ⟨rfl, hb9⟩))
       go_ret
       refine ⟨?_, below_step HB.out hb9⟩
       rw [← HLQ.out, hkd, HE.out]
       rfl
  ·have hd : ¬ ((q : Int) % 64 = 56) := by intro e; exact hlt (hpa.1 (by omega))
   have HLn := Aside0.mk (show (ns (l ++ [128] ++ List.replicate j 0)).length = q from by have := HO.out.1; simpa [nums] using this)
   have HO' := Aside0.mk (show wr.ownsRow w.heap.size 5 1 (.slice A3 q c3) (ns (l ++ [128] ++ List.replicate j 0)).length (nums .u8 (ns (l ++ [128] ++ List.replicate j 0))) from by rw [HLn.out]; exact HO.out)
   have HX1 := Aside0.mk (show ns (l ++ [128] ++ List.replicate j 0) ++ [0] = ns (l ++ [128] ++ List.replicate (j + 1) 0) from by
    rw [List.replicate_succ', ← List.append_assoc]; simp [ns])
   have hj1 : j + 1 ≤ M.padz l.length := by omega
   generalize ns (l ++ [128] ++ List.replicate j 0) = xs at HLn HO' HX1
   clear hpa hmod hp
   go_wp2_with (first | (at_builtin; refine print_append_num (w0 := w) w.heap.size rfl (.tmp 23) (.tmp 24) 106 5 .u8 1 rfl Tryd.underlying106 info5 (by decide) _ xs 0 rfl rfl HO'.out HB.out HB.out.size (by rw [HLn.out]; omega) ?_; intro v5 w5 hown hb5 hg5 hat5; rw [HX1.out] at hown; have HO5 := Aside0.mk hown; have HB5 := Aside0.mk hb5; clear hown hb5 hg5 hat5))
   obtain ⟨A5, c5, rfl⟩ := own_slice HO5.out
   go_roundw
   case rel =>
    have e : (ns (l ++ [128] ++ List.replicate (j + 1) 0)).length = l.length + 1 + (j + 1) := by simp [ns]; omega
    have h5 := HO5.out
    rw [e] at h5 ⊢
    exact ⟨j + 1, hj1, ⟨h5⟩, HB5⟩
   case measure => simp [ns]; have := HQ.out; omega
set_option maxHeartbeats 8000000 in
set_option maxRecDepth 100000 in
theorem sha_Sum.calls (ad : Addr) (c0 : Nat) (t : ByteArray) (w : World) (hT : M.stab w) (hr : w.cell? ad = some (.string t)) (hc : 1 ≤ c0) (hs : t.size ≤ 1000000000000) :
    Calls Tryd.prog 19 #[.slice (some ad) 1 c0] w fun e w' => e = .returned (.string (M.shaSum t)) ∧ Below w.heap.size w w' := by
 have HT := Aside0.mk hT
 have HR := Aside0.mk hr
 have hadl : ad.add 0 = ad := by unfold Addr.add; simp
 clear hT hr
 go_enter Tryd.func19, Tryd.ntmps19
 go_wp2_with (first | (go_at_call 38; (with_reducible refine (sha_New.calls _ HT.out).mono ?_); rintro e w1 ⟨g, rfl, hh, hb1, hgl⟩; have HH := Aside0.mk hh; have HB := Aside0.mk hb1; have HGL := Aside0.mk hgl; clear hh hb1 hgl))
 go_loopw [9] (fun v9 wr => Aside0 (Below w.heap.size w wr) ∧ ((v9 = .int .i64 0 ∧ Aside0 (M.hash wr g 108 0x6a09e667 0xbb67ae85 0x3c6ef372 0xa54ff53a 0x510e527f 0x9b05688c 0x1f83d9ab 0x5be0cd19 (.slice none 0 0) 0)) ∨ (v9 = .int .i64 1 ∧ ∃ (y0 y1 y2 y3 y4 y5 y6 y7 : Nat) (A : Option Addr) (m c : Nat), Aside0 (M.eat M.shaH (M.bs t) (t.size / 64) = [y0, y1, y2, y3, y4, y5, y6, y7]) ∧ Aside0 (M.hash wr g 108 y0 y1 y2 y3 y4 y5 y6 y7 (.slice A m c) (t.size : Int)) ∧ Aside0 (M.foot wr g A m ((M.bs t).drop (64 * (t.size / 64)))) ∧ m ≤ c ∧ 64 * (t.size / 64) + m = t.size))) (fun v9 _ => 1 - (intOf v9).toNat)
 case atStart => exact ⟨HB, .inl ⟨rfl, HH⟩⟩
 case round =>
  clear HB HH
  obtain ⟨HB, ⟨rfl, HH⟩ | ⟨rfl, y0, y1, y2, y3, y4, y5, y6, y7, A, m, c, HE, HH, HF, hmc, hm⟩⟩ := hrel
  ·have cS : wr.cell? ad = some (.string t) := (HB.out.cell (World.block_lt_of_cell? w _ HR.out)).trans HR.out
   have HTr := Aside0.mk (M.stab_below HT.out HB.out (M.stab_lt HT.out))
   have h1g : 1 < g := Nat.lt_of_lt_of_le (M.stab_lt HT.out) HGL.out
   go_wp2_with (first | (go_at_call 39; (with_reducible refine (sha_Hash_Put.calls g 0x6a09e667 0xbb67ae85 0x3c6ef372 0xa54ff53a 0x510e527f 0x9b05688c 0x1f83d9ab 0x5be0cd19 t _ HH.out HTr.out h1g (by decide) hs).mono ?_); rintro e w2 ⟨rfl, y0, y1, y2, y3, y4, y5, y6, y7, A, m, c, hE, hh2, hf2, hmc, hm, hb2⟩; have HE := Aside0.mk hE; have HH2 := Aside0.mk hh2; have HF2 := Aside0.mk hf2; have HB2 := Aside0.mk (HB.out.trans (hb2.mono HGL.out)); clear hE hh2 hf2 hb2))
   go_roundw
   case rel => exact ⟨HB2, .inr ⟨rfl, y0, y1, y2, y3, y4, y5, y6, y7, A, m, c, ⟨HE.out⟩, HH2, HF2, hmc, hm⟩⟩
   case measure => simp [intOf]
  ·have HTr := Aside0.mk (M.stab_below HT.out HB.out (M.stab_lt HT.out))
   have HYL := Aside0.mk (show ∀ x ∈ [y0, y1, y2, y3, y4, y5, y6, y7], x < 4294967296 from by
    rw [← HE.out]
    cases h : t.size / 64 with
    | zero => exact (by decide : ∀ x ∈ M.shaH, x < 4294967296)
    | succ k => exact sha_Hash_Put.lt _ _)
   have hrd : ReadsInt wr .u8 A m (sha_Hash_Sum.ns ((M.bs t).drop (64 * (t.size / 64)))) := M.foot_now HF.out
   have hm64 : m < 64 := by omega
   go_wp2_with (first | (go_at_call 40; (with_reducible refine (sha_Hash_Sum.calls g y0 y1 y2 y3 y4 y5 y6 y7 m c t.size A ((M.bs t).drop (64 * (t.size / 64))) _ HH.out HTr.out HYL.out hrd hmc hm64 hs).mono ?_); rintro e w2 ⟨rfl, hb2⟩))
   go_ret
   refine ⟨?_, below_step HB.out hb2⟩
   rw [← HE.out]
   rfl
theorem sha_Sum.lit (t : ByteArray) (w : World) (hT : M.stab w) (hs : t.size ≤ 1000000000000) :
    Calls Tryd.prog 19 #[.slice (some ⟨w.heap.size, 0, none⟩) 1 1] (w.alloc (.cells #[.string t] 9)) fun e w' => e = .returned (.string (M.shaSum t)) ∧ Below w.heap.size w w' := by
 refine (sha_Sum.calls ⟨w.heap.size, 0, none⟩ 1 t _ (M.stab_below hT (below_alloc (Below.refl w.heap.size w) _) (M.stab_lt hT)) (M.blk_cell (heap_alloc_new w _) 0 _ rfl) (Nat.le_refl _) hs).mono ?_
 rintro e w' ⟨rfl, hb⟩
 exact ⟨rfl, below_step (below_alloc (Below.refl w.heap.size w) _) hb⟩
section
variable {P : Program} {ops : Array Oper} {o : Oper} {a : Act} {Q : Exit → Act → World → Prop} {Kc : Act → World → Prop}
theorem shelf_Shelf_Put.app {w0 W : World} (base : Nat) (hw : Region.wanted o (yielded ops a.tmps) = true) (s x : Operand) (ho : o.op = .call { callee := .builtin .append, args := #[s, x], argTypes := #[23, 23] })
    (ht : P.underlying 23 = some (.slice 9)) (z : Value) (bytes : Nat) (hinfo : (P.info? 9).map (fun i => (i.zero, i.size, i.bytes)) = some (some z, 1, bytes)) (hz : z.cells.size = 1) (hb0 : 0 < bytes)
    (v : Value) (xs : List ByteArray) (y : ByteArray) (b : Nat) (hs : a.eval s = v) (hx : a.eval x = .slice (some ⟨b, 0, none⟩) 1 1) (HO : M.rowW W base v xs.length (xs.map .string)) (hy : W.cell? ⟨b, 0, none⟩ = some (.string y))
    (HB : Below base w0 W) (hbase : base ≤ W.heap.size) (hl : (xs.length + 1) * bytes ≤ 140737488355328)
    (h : ∀ v1 w1, M.rowW w1 base v1 (xs.length + 1) ((xs ++ [y]).map .string) → Below base w0 w1 → W.grownBy w1 v.ownBlock → (v1.ownBlock = v.ownBlock ∨ ∃ b, v1.ownBlock = some b ∧ W.heap.size ≤ b) → Kc (a.put o.dst v1) w1) :
    if Region.wanted o (yielded ops a.tmps) = true then Oper.wp P o a W Kc Q else Kc (a.put o.dst undef) W := by
 have own_ : W.ownsRow base 9 1 v xs.length (xs.map .string) → (if Region.wanted o (yielded ops a.tmps) = true then Oper.wp P o a W Kc Q else Kc (a.put o.dst undef) W) := by
  intro HO'
  refine Kd.R_append_rows_step Kd.string (Rr := fun x cs => cs = [.string x]) (okp := fun _ => False) (ok := fun _ => True) base hw s x 23 9 z bytes ho ht hinfo hz (by decide) hb0 v xs [y] (some ⟨b, 0, none⟩) 1 1 hs hx (Kd.R_of_own HO' (fun _ _ => trivial)) ⟨rfl, by decide, fun _ => ⟨_, rfl, fun j p hp => ?_⟩⟩ (fun _ _ e => e) (fun _ h => h.elim) (fun _ _ => trivial) HB hbase hl ?_
  ·have hj : j = 0 := by have := (List.getElem?_eq_some_iff.1 hp).1; simpa using this
   subst hj
   obtain rfl : y = p := by simpa using hp
   refine ⟨[.string y], rfl, rfl, fun i u hu => ?_⟩
   have hi : i = 0 := by have := (List.getElem?_eq_some_iff.1 hu).1; simpa using this
   subst hi
   obtain rfl : Value.string y = u := by simpa using hu
   rw [Nat.zero_mul, Nat.zero_add, add_plain]
   exact hy
  ·intro v1 w1 hR hB hg hat
   have := Kd.own_of_R hR
   rw [List.length_append] at this
   exact h v1 w1 (M.rowW_of_own this) hB hg hat
 rcases HO.2 with ⟨e, e0⟩ | ⟨g, cap, cur, e, hg, hh, hn, hm, hs2, he, htk⟩
 ·exact own_ ⟨by rw [Nat.mul_one]; exact HO.1, .inl ⟨e, e0⟩⟩
 ·by_cases hc : xs.length < cap
  ·refine own_ ?_
   rw [e] at HO ⊢
   exact M.rowW_own HO hc
  ·have hcap : cap = xs.length := by omega
   subst hcap
   obtain ⟨i0, hi, hzz⟩ := Option.map_eq_some_iff.1 hinfo
   simp only [Prod.mk.injEq] at hzz
   obtain ⟨hz0, hz1, hz2⟩ := hzz
   have hmx : xs.length + 1 ≤ maxLen := by
    have : (xs.length + 1) * 1 ≤ (xs.length + 1) * bytes := Nat.mul_le_mul_left _ hb0
    unfold maxLen; omega
   obtain ⟨v', w', hrun, r1, r2⟩ := run_append_arg_grows (P := P) W 23 o.type 9 i0 z 1 bytes ht hi hz0 hz1 hz2 hz (by decide) ⟨g, 0, none⟩ xs.length xs.length (xs.map .string) (by rw [List.length_map, Nat.mul_one]) (fun j u hu => HO.cells (by rw [e]; rfl) j u hu) ⟨b, 0, none⟩ 1 1 [.string y] rfl (fun j u hu => by
    have hj : j = 0 := by have := (List.getElem?_eq_some_iff.1 hu).1; simpa using this
    subst hj
    obtain rfl : Value.string y = u := by simpa using hu
    rw [add_plain]
    exact hy) (by omega) hmx hl
   rw [e] at hs
   rw [if_pos hw]
   unfold Oper.wp
   simp [execOp, ho, resolve, invoke, builtin, hs, hx, hrun, Result.andThen]
   have hgb : W.grownBy w' v.ownBlock := ⟨r2.os, r2.tape, r2.output, r2.size, fun k hk _ => r2.block k hk (by simp)⟩
   refine h v' w' (M.row_lower (M.rowW_of_own (by rw [List.map_append]; exact r1)) hbase) (HB.grown r2 hbase (fun k hk => by cases hk)) hgb ?_
   rcases r1.2 with ⟨_, h0⟩ | ⟨g1, c1, cu1, e1, hg1, _⟩
   ·omega
   ·exact .inr ⟨g1, by rw [e1]; rfl, hg1⟩
end
set_option maxHeartbeats 8000000 in
set_option maxRecDepth 100000 in
theorem shelf_Shelf_Put.empty (base g B : Nat) (D : DataW Unit) (vt vn : Value) (ts : List ByteArray) (a b : ByteArray) (w : World) (hS : M.shelf Tryd.prog base w g B D vt vn ts a b) :
    Calls Tryd.prog 9 #[.pointer (some ⟨g, 0, none⟩), .string ByteArray.empty] w fun e w' => e = .returned (.tuple #[.string ByteArray.empty, .int .i64 2]) ∧ w = w' := by
 have HS := Aside0.mk hS
 have hd : (ByteArray.empty : ByteArray).toList.isEmpty = true := by decide +kernel
 clear hS
 go_enter Tryd.func9, Tryd.ntmps9
 go_wp2_with (first | (go_at_call 18; (with_reducible refine (shelf_Shelf_there.calls base g B D vt vn ts a b _ HS.out).mono ?_); rintro e w1 ⟨rfl, rfl⟩))
 exact bodyPost_ret (v := .tuple #[.string ByteArray.empty, .int .i64 2]) (by simp [results, Tryd.results9, go_sem]; rfl) rfl ⟨rfl, rfl⟩
set_option maxHeartbeats 8000000 in
set_option maxRecDepth 100000 in
theorem shelf_Shelf_Put.long (base g B : Nat) (D : DataW Unit) (vt vn : Value) (ts : List ByteArray) (a b t : ByteArray) (w : World) (hS : M.shelf Tryd.prog base w g B D vt vn ts a b) (ht : 65536 < t.size) (hz : t.size ≤ 1000000000000) :
    Calls Tryd.prog 9 #[.pointer (some ⟨g, 0, none⟩), .string t] w fun e w' => e = .returned (.tuple #[.string ByteArray.empty, .int .i64 5]) ∧ w = w' := by
 have HS := Aside0.mk hS
 have hd : t.toList.isEmpty = false := M.nonempty (fun e => by rw [e] at ht; exact absurd ht (by decide))
 have hdd : decide ((65536 : Int) < (t.size : Int)) = true := decide_eq_true (by omega)
 clear hS
 go_enter Tryd.func9, Tryd.ntmps9
 go_wp2_with (first | (go_at_call 18; (with_reducible refine (shelf_Shelf_there.calls base g B D vt vn ts a b _ HS.out).mono ?_); rintro e w1 ⟨rfl, rfl⟩))
 exact bodyPost_ret (v := .tuple #[.string ByteArray.empty, .int .i64 5]) (by simp [results, Tryd.results9, go_sem]; rfl) rfl ⟨rfl, rfl⟩
set_option maxHeartbeats 8000000 in
set_option maxRecDepth 100000 in
theorem shelf_Shelf_Put.met (base g B : Nat) (D : DataW Unit) (vt vn : Value) (ts : List ByteArray) (a b t : ByteArray) (i : Nat) (w : World) (hS : M.shelf Tryd.prog base w g B D vt vn ts a b) (hT : M.stab w) (h0 : t ≠ ByteArray.empty) (hl : t.size ≤ 65536) (hn : M.idx (ts.map M.shaSum) (M.shaSum t).data.toList = some i) (he : ts.getD i ByteArray.empty = t) :
    Calls Tryd.prog 9 #[.pointer (some ⟨g, 0, none⟩), .string t] w fun e w' => e = .returned (.tuple #[.string (M.shaSum t), .int .i64 0]) ∧ M.shelf Tryd.prog base w' g B D vt vn ts a b ∧ Below w.heap.size w w' := by
 have hz : t.size ≤ 1000000000000 := by omega
 have hi : i < ts.length := by have := (M.idx_lt hn).1; simpa using this
 obtain ⟨gt, cap, rfl, _, _⟩ := hS.rt.form (by omega)
 have hd : t.toList.isEmpty = false := M.nonempty h0
 have hdd : decide ((65536 : Int) < (t.size : Int)) = false := decide_eq_false (by omega)
 have hKEY := Go.WideMaps.keyOf_string_mk Tryd.underlying9 (show (M.shaSum t).size ≤ maxLen from by have := M.shaSum_size t; unfold maxLen; omega)
 have h1 := (hS.says (M.shaSum t).data.toList).1
 have h2 := (hS.says (M.shaSum t).data.toList).2
 rw [hn] at h1 h2
 have HS := Aside0.mk hS
 have HT1 := Aside0.mk (M.stab_below hT (below_alloc (Below.refl w.heap.size w) (.cells #[.string t] 9)) (M.stab_lt hT))
 have HC1 := Aside0.mk (show (w.alloc (.cells #[.string t] 9)).cell? ⟨w.heap.size, 0, none⟩ = some (.string t) from M.blk_cell (heap_alloc_new w _) 0 _ rfl)
 have g0 : (0 : Int) ≤ (i : Int) := by omega
 have g1 : (i : Int) < (ts.length : Int) := by omega
 obtain ⟨x, hx⟩ : ∃ x, x = ts.getD i ByteArray.empty := ⟨_, rfl⟩
 have HX := Aside0.mk hx.symm
 obtain rfl : x = t := hx.trans he
 clear hS hT he hn hx
 go_enter Tryd.func9, Tryd.ntmps9
 go_wp2_with (first | (go_at_call 18; (with_reducible refine (shelf_Shelf_there.calls base g B D _ vn ts a b _ HS.out).mono ?_); rintro e w1 ⟨rfl, rfl⟩) | (go_at_call 19; (with_reducible refine (sha_Sum.calls ⟨w.heap.size, 0, none⟩ 1 x _ HT1.out HC1.out (Nat.le_refl _) hz).mono ?_); rintro e w2 ⟨rfl, hb2⟩; have HB2 := Aside0.mk (below_step (below_alloc (Below.refl w.heap.size w) _) hb2); have HS2 := Aside0.mk (M.shelf_below HS.out HB2.out); have d0 : w2.cell? ⟨g, 0, none⟩ = some (.map (some B)) := M.blk_cell HS2.out.blk 0 _ rfl; have hown2 := HS2.out.map; have d1 : w2.cell? ⟨g, 1, none⟩ = some (.slice (some ⟨gt, 0, none⟩) ts.length cap) := M.blk_cell HS2.out.blk 1 _ rfl; have di : w2.cell? ⟨gt, i, none⟩ = some (.string x) := M.row_cell HS2.out.rt i x hi HX.out; clear hb2) | (at_lookup; refine wpList_lookup_own_ok_int _ rfl _ _ 59 rfl 9 3 .i64 shelf_Shelf_there.law Tryd.underlying59 Tryd.underlying3 (shelf_Shelf_there.zero_ _) B ts.length D rfl hown2 _ _ rfl hKEY ?_; intro c hat hwc; obtain rfl : c = (i : Int) := by (rw [h2] at hat; simpa using hat.symm)))
 exact bodyPost_ret (v := .tuple #[.string (M.shaSum x), .int .i64 0]) (by simp [results, Tryd.results9, go_sem]) rfl ⟨rfl, HS2.out, HB2.out⟩
set_option maxHeartbeats 8000000 in
set_option maxRecDepth 100000 in
theorem shelf_Shelf_Put.clash1 (base g B : Nat) (D : DataW Unit) (vt vn : Value) (ts : List ByteArray) (a b t : ByteArray) (i : Nat) (w : World) (hS : M.shelf Tryd.prog base w g B D vt vn ts a b) (hT : M.stab w) (h0 : t ≠ ByteArray.empty) (hl : t.size ≤ 65536) (hn : M.idx (ts.map M.shaSum) (M.shaSum t).data.toList = some i) (he : ts.getD i ByteArray.empty ≠ t) (ha : a = ByteArray.empty) :
    Calls Tryd.prog 9 #[.pointer (some ⟨g, 0, none⟩), .string t] w fun e w' => e = .returned (.tuple #[.string ByteArray.empty, .int .i64 15]) ∧ M.shelf Tryd.prog base w' g B D vt vn ts (ts.getD i ByteArray.empty) t ∧ Below base w w' ∧ Kept w w' (M.feet g B vt vn) := by
 subst ha
 have had : (ByteArray.empty : ByteArray).toList.isEmpty = true := by decide +kernel
 have hz : t.size ≤ 1000000000000 := by omega
 have hi : i < ts.length := by have := (M.idx_lt hn).1; simpa using this
 obtain ⟨gt, cap, rfl, _, _⟩ := hS.rt.form (by omega)
 have hd : t.toList.isEmpty = false := M.nonempty h0
 have hdd : decide ((65536 : Int) < (t.size : Int)) = false := decide_eq_false (by omega)
 have hKEY := Go.WideMaps.keyOf_string_mk Tryd.underlying9 (show (M.shaSum t).size ≤ maxLen from by have := M.shaSum_size t; unfold maxLen; omega)
 have h1 := (hS.says (M.shaSum t).data.toList).1
 have h2 := (hS.says (M.shaSum t).data.toList).2
 rw [hn] at h1 h2
 have HS := Aside0.mk hS
 have HBS := Aside0.mk (show base ≤ w.heap.size from Nat.le_of_lt (Nat.lt_of_le_of_lt hS.gb (M.lt_blk hS.blk)))
 have HT1 := Aside0.mk (M.stab_below hT (below_alloc (Below.refl w.heap.size w) (.cells #[.string t] 9)) (M.stab_lt hT))
 have HC1 := Aside0.mk (show (w.alloc (.cells #[.string t] 9)).cell? ⟨w.heap.size, 0, none⟩ = some (.string t) from M.blk_cell (heap_alloc_new w _) 0 _ rfl)
 have g0 : (0 : Int) ≤ (i : Int) := by omega
 have g1 : (i : Int) < (ts.length : Int) := by omega
 obtain ⟨x, hx⟩ : ∃ x, x = ts.getD i ByteArray.empty := ⟨_, rfl⟩
 have HX := Aside0.mk hx.symm
 have hxt : x ≠ t := fun e => he (hx.symm.trans e)
 have hxd : (x.toList == t.toList) = false := by simpa using M.unlike hxt
 clear hS hT he hn hx
 go_enter Tryd.func9, Tryd.ntmps9
 go_wp2_with (first | (go_at_call 18; (with_reducible refine (shelf_Shelf_there.calls base g B D _ vn ts ByteArray.empty b _ HS.out).mono ?_); rintro e w1 ⟨rfl, rfl⟩) | (go_at_call 19; (with_reducible refine (sha_Sum.calls ⟨w.heap.size, 0, none⟩ 1 t _ HT1.out HC1.out (Nat.le_refl _) hz).mono ?_); rintro e w2 ⟨rfl, hb2⟩; have HB2 := Aside0.mk (below_step (below_alloc (Below.refl w.heap.size w) _) hb2); have HS2 := Aside0.mk (M.shelf_below HS.out HB2.out); have d0 : w2.cell? ⟨g, 0, none⟩ = some (.map (some B)) := M.blk_cell HS2.out.blk 0 _ rfl; have hown2 := HS2.out.map; have d1 : w2.cell? ⟨g, 1, none⟩ = some (.slice (some ⟨gt, 0, none⟩) ts.length cap) := M.blk_cell HS2.out.blk 1 _ rfl; have d3 : w2.cell? ⟨g, 3, none⟩ = some (.string ByteArray.empty) := M.blk_cell HS2.out.blk 3 _ rfl; have f3 := M.blk_free HS2.out.blk 3; have f4 := M.blk_free HS2.out.blk 4; have d4 : w2.cell? ⟨g, 4, none⟩ = some (.string b) := M.blk_cell HS2.out.blk 4 _ rfl; have di : w2.cell? ⟨gt, i, none⟩ = some (.string x) := M.row_cell HS2.out.rt i x hi HX.out; clear hb2) | (at_lookup; refine wpList_lookup_own_ok_int _ rfl _ _ 59 rfl 9 3 .i64 shelf_Shelf_there.law Tryd.underlying59 Tryd.underlying3 (shelf_Shelf_there.zero_ _) B ts.length D rfl hown2 _ _ rfl hKEY ?_; intro c hat hwc; obtain rfl : c = (i : Int) := by (rw [h2] at hat; simpa using hat.symm)))
 exact bodyPost_ret (v := .tuple #[.string ByteArray.empty, .int .i64 15]) (by simp [results, Tryd.results9, go_sem]; rfl) rfl ⟨rfl, by rw [HX.out]; exact M.shelf_clash HS2.out x t, ((HB2.out.mono HBS.out).setCell (p := ⟨g, 3, none⟩) HS2.out.gb _).setCell (p := ⟨g, 4, none⟩) HS2.out.gb _, ((Kept.of_below HB2.out (M.feet g B (.slice (some ⟨gt, 0, none⟩) ts.length cap) vn)).setCell (p := ⟨g, 3, none⟩) (.inl (.inl rfl)) _).setCell (p := ⟨g, 4, none⟩) (.inl (.inl rfl)) _⟩
set_option maxHeartbeats 8000000 in
set_option maxRecDepth 100000 in
theorem shelf_Shelf_Put.clash2 (base g B : Nat) (D : DataW Unit) (vt vn : Value) (ts : List ByteArray) (a b t : ByteArray) (i : Nat) (w : World) (hS : M.shelf Tryd.prog base w g B D vt vn ts a b) (hT : M.stab w) (h0 : t ≠ ByteArray.empty) (hl : t.size ≤ 65536) (hn : M.idx (ts.map M.shaSum) (M.shaSum t).data.toList = some i) (he : ts.getD i ByteArray.empty ≠ t) (ha : a ≠ ByteArray.empty) :
    Calls Tryd.prog 9 #[.pointer (some ⟨g, 0, none⟩), .string t] w fun e w' => e = .returned (.tuple #[.string ByteArray.empty, .int .i64 15]) ∧ M.shelf Tryd.prog base w' g B D vt vn ts a b ∧ Below w.heap.size w w' := by
 have had := M.nonempty ha
 have hz : t.size ≤ 1000000000000 := by omega
 have hi : i < ts.length := by have := (M.idx_lt hn).1; simpa using this
 obtain ⟨gt, cap, rfl, _, _⟩ := hS.rt.form (by omega)
 have hd : t.toList.isEmpty = false := M.nonempty h0
 have hdd : decide ((65536 : Int) < (t.size : Int)) = false := decide_eq_false (by omega)
 have hKEY := Go.WideMaps.keyOf_string_mk Tryd.underlying9 (show (M.shaSum t).size ≤ maxLen from by have := M.shaSum_size t; unfold maxLen; omega)
 have h1 := (hS.says (M.shaSum t).data.toList).1
 have h2 := (hS.says (M.shaSum t).data.toList).2
 rw [hn] at h1 h2
 have HS := Aside0.mk hS
 have HT1 := Aside0.mk (M.stab_below hT (below_alloc (Below.refl w.heap.size w) (.cells #[.string t] 9)) (M.stab_lt hT))
 have HC1 := Aside0.mk (show (w.alloc (.cells #[.string t] 9)).cell? ⟨w.heap.size, 0, none⟩ = some (.string t) from M.blk_cell (heap_alloc_new w _) 0 _ rfl)
 have g0 : (0 : Int) ≤ (i : Int) := by omega
 have g1 : (i : Int) < (ts.length : Int) := by omega
 obtain ⟨x, hx⟩ : ∃ x, x = ts.getD i ByteArray.empty := ⟨_, rfl⟩
 have HX := Aside0.mk hx.symm
 have hxt : x ≠ t := fun e => he (hx.symm.trans e)
 have hxd : (x.toList == t.toList) = false := by simpa using M.unlike hxt
 clear hS hT he hn hx
 go_enter Tryd.func9, Tryd.ntmps9
 go_wp2_with (first | (go_at_call 18; (with_reducible refine (shelf_Shelf_there.calls base g B D _ vn ts a b _ HS.out).mono ?_); rintro e w1 ⟨rfl, rfl⟩) | (go_at_call 19; (with_reducible refine (sha_Sum.calls ⟨w.heap.size, 0, none⟩ 1 t _ HT1.out HC1.out (Nat.le_refl _) hz).mono ?_); rintro e w2 ⟨rfl, hb2⟩; have HB2 := Aside0.mk (below_step (below_alloc (Below.refl w.heap.size w) _) hb2); have HS2 := Aside0.mk (M.shelf_below HS.out HB2.out); have d0 : w2.cell? ⟨g, 0, none⟩ = some (.map (some B)) := M.blk_cell HS2.out.blk 0 _ rfl; have hown2 := HS2.out.map; have d1 : w2.cell? ⟨g, 1, none⟩ = some (.slice (some ⟨gt, 0, none⟩) ts.length cap) := M.blk_cell HS2.out.blk 1 _ rfl; have d3 : w2.cell? ⟨g, 3, none⟩ = some (.string a) := M.blk_cell HS2.out.blk 3 _ rfl; have f3 := M.blk_free HS2.out.blk 3; have f4 := M.blk_free HS2.out.blk 4; have d4 : w2.cell? ⟨g, 4, none⟩ = some (.string b) := M.blk_cell HS2.out.blk 4 _ rfl; have di : w2.cell? ⟨gt, i, none⟩ = some (.string x) := M.row_cell HS2.out.rt i x hi HX.out; clear hb2) | (at_lookup; refine wpList_lookup_own_ok_int _ rfl _ _ 59 rfl 9 3 .i64 shelf_Shelf_there.law Tryd.underlying59 Tryd.underlying3 (shelf_Shelf_there.zero_ _) B ts.length D rfl hown2 _ _ rfl hKEY ?_; intro c hat hwc; obtain rfl : c = (i : Int) := by (rw [h2] at hat; simpa using hat.symm)))
 exact bodyPost_ret (v := .tuple #[.string ByteArray.empty, .int .i64 15]) (by simp [results, Tryd.results9, go_sem]; rfl) rfl ⟨rfl, HS2.out, HB2.out⟩
theorem shelf_Shelf_Put.i9 : (Tryd.prog.info? 9).map (fun i => (i.zero, i.size, i.bytes)) = some (some (.string ByteArray.empty), 1, 16) := by kernel_rfl
set_option maxHeartbeats 8000000 in
set_option maxRecDepth 100000 in
theorem shelf_Shelf_Put.new (base g B : Nat) (D : DataW Unit) (vt vn : Value) (ts : List ByteArray) (a b t : ByteArray) (w : World) (hS : M.shelf Tryd.prog base w g B D vt vn ts a b) (hT : M.stab w) (h0 : t ≠ ByteArray.empty) (hl : t.size ≤ 65536) (hts : ts.length ≤ 1000000000) (hn : M.idx (ts.map M.shaSum) (M.shaSum t).data.toList = none) :
    Calls Tryd.prog 9 #[.pointer (some ⟨g, 0, none⟩), .string t] w fun e w' => e = .returned (.tuple #[.string (M.shaSum t), .int .i64 0]) ∧ ∃ D' vt' vn', M.shelf Tryd.prog base w' g B D' vt' vn' (ts ++ [t]) a b ∧ Below base w w' ∧ Kept w w' (M.feet g B vt vn) ∧ ∀ k, M.feet g B vt' vn' k → M.feet g B vt vn k ∨ w.heap.size ≤ k := by
 have hz : t.size ≤ 1000000000000 := by omega
 obtain ⟨At, ct, rfl⟩ := M.rowW_slice hS.rt
 obtain ⟨An, cn, rfl⟩ := M.rowW_slice hS.rn
 have hd : t.toList.isEmpty = false := M.nonempty h0
 have hdd : decide ((65536 : Int) < (t.size : Int)) = false := decide_eq_false (by omega)
 have hKEY := Go.WideMaps.keyOf_string_mk Tryd.underlying9 (show (M.shaSum t).size ≤ maxLen from by have := M.shaSum_size t; unfold maxLen; omega)
 have h1 := (hS.says (M.shaSum t).data.toList).1
 rw [hn] at h1
 have HS := Aside0.mk hS
 have HSay := Aside0.mk (M.told_new hS.says hS.map.isMap (M.shaSum t) hn)
 have HND := Aside0.mk (M.nd_snoc hS.nd hn)
 have HBS := Aside0.mk (show base ≤ w.heap.size from Nat.le_of_lt (Nat.lt_of_le_of_lt hS.gb (M.lt_blk hS.blk)))
 have HT1 := Aside0.mk (M.stab_below hT (below_alloc (Below.refl w.heap.size w) (.cells #[.string t] 9)) (M.stab_lt hT))
 have HC1 := Aside0.mk (show (w.alloc (.cells #[.string t] 9)).cell? ⟨w.heap.size, 0, none⟩ = some (.string t) from M.blk_cell (heap_alloc_new w _) 0 _ rfl)
 clear hS hT hn
 go_enter Tryd.func9, Tryd.ntmps9
 go_wp2_with (first | (go_at_call 18; (with_reducible refine (shelf_Shelf_there.calls base g B D _ _ ts a b _ HS.out).mono ?_); rintro e w1 ⟨rfl, rfl⟩) | (go_at_call 19; (with_reducible refine (sha_Sum.calls ⟨w.heap.size, 0, none⟩ 1 t _ HT1.out HC1.out (Nat.le_refl _) hz).mono ?_); rintro e w2 ⟨rfl, hb2⟩; have HB2 := Aside0.mk (below_step (below_alloc (Below.refl w.heap.size w) _) hb2); have HS2 := Aside0.mk (M.shelf_below HS.out HB2.out); have d0 : w2.cell? ⟨g, 0, none⟩ = some (.map (some B)) := M.blk_cell HS2.out.blk 0 _ rfl; have d1 : w2.cell? ⟨g, 1, none⟩ = some (.slice At ts.length ct) := M.blk_cell HS2.out.blk 1 _ rfl; have hown2 := HS2.out.map; clear hb2) | (at_lookup; refine wpList_lookup_own_ok_int _ rfl _ _ 59 rfl 9 3 .i64 shelf_Shelf_there.law Tryd.underlying59 Tryd.underlying3 (shelf_Shelf_there.zero_ _) B ts.length D rfl hown2 _ _ rfl hKEY ?_; intro c hat hwc))
 obtain ⟨w3, hrun, hown3, hgr3⟩ := (World.ownsMap.drew hown2).update (t := 59) (e := 3) shelf_Shelf_there.law Tryd.underlying59 (by unfold maxLen; omega) hKEY (plainElem_int (q := .i64) Tryd.underlying3 (WalkArith.wf_i64 (show -9223372036854775808 ≤ (ts.length : Int) ∧ (ts.length : Int) ≤ 9223372036854775807 by omega)))
 have hblk3 : w3.heap[g]? = some (.cells #[.map (some B), .slice At ts.length ct, .slice An ts.length cn, .string a, .string b] 62 (0, 0)) := (hgr3.block g (M.lt_blk HS2.out.blk) (fun e => HS2.out.gB (by injection e))).trans HS2.out.blk
 have HK3 := Aside0.mk hblk3
 have HM3 := Aside0.mk hown3
 have HR3 := Aside0.mk (M.row_keep (show M.rowW w2.drew base (.slice At ts.length ct) ts.length (ts.map .string) from HS2.out.rt) hgr3 (.inr HS2.out.tB))
 have HN3 := Aside0.mk (M.row_keep (show M.rowW w2.drew base (.slice An ts.length cn) ts.length ((ts.map M.shaSum).map .string) from HS2.out.rn) hgr3 (.inr HS2.out.nB))
 have HB3 := Aside0.mk ((below_drew1 (HB2.out.mono HBS.out)).grown hgr3 (show base ≤ w2.drew.heap.size from Nat.le_trans HBS.out HB2.out.size) (fun k hk => by injection hk with hk; rw [← hk]; exact HS2.out.bb))
 have HQ3 := Aside0.mk (Kept.of_grown (S := M.feet g B (.slice At ts.length ct) (.slice An ts.length cn)) hgr3 (Kept.drew (Kept.of_below HB2.out _)) (fun k hk => .inl (.inr (.inl (by injection hk with hk; exact hk.symm)))))
 have e1 : w3.cell? ⟨g, 1, none⟩ = some (.slice At ts.length ct) := M.blk_cell hblk3 1 _ rfl
 have e2 : w3.cell? ⟨g, 2, none⟩ = some (.slice An ts.length cn) := M.blk_cell hblk3 2 _ rfl
 have HW3 := Aside0.mk (show w2.heap.size ≤ w3.heap.size from hgr3.size)
 have HGL3 := Aside0.mk (M.lt_blk hblk3)
 have e1a : ∀ o : Obj, (w3.alloc o).cell? ⟨g, 1, none⟩ = some (.slice At ts.length ct) := fun o => (World.cell?_of_block (a := ⟨g, 1, none⟩) (Below.heap_alloc w3 o g HGL3.out)).trans e1
 have e1b : ∀ o o2 : Obj, ((w3.alloc o).alloc o2).cell? ⟨g, 1, none⟩ = some (.slice At ts.length ct) := fun o o2 => (World.cell?_of_block (a := ⟨g, 1, none⟩) (Below.heap_alloc (w3.alloc o) o2 g (by have := HGL3.out; simp; omega))).trans (e1a o)
 have e2a : ∀ o : Obj, (w3.alloc o).cell? ⟨g, 2, none⟩ = some (.slice An ts.length cn) := fun o => (World.cell?_of_block (a := ⟨g, 2, none⟩) (Below.heap_alloc w3 o g HGL3.out)).trans e2
 have e2b : ∀ o o2 : Obj, ((w3.alloc o).alloc o2).cell? ⟨g, 2, none⟩ = some (.slice An ts.length cn) := fun o o2 => (World.cell?_of_block (a := ⟨g, 2, none⟩) (Below.heap_alloc (w3.alloc o) o2 g (by have := HGL3.out; simp; omega))).trans (e2a o)
 clear hown3 hgr3 hblk3 hown2
 go_region
 all_goals
  clear d0 d1 hrun
  go_wp2
  have HB4s := Aside0.mk (show base ≤ w3.heap.size from Nat.le_trans (Nat.le_trans HBS.out HB2.out.size) HW3.out)
  go_region_law (first | (refine shelf_Shelf_Put.app (w0 := w) base (by rfl) (.tmp 81) (.tmp 83) rfl Tryd.underlying23 _ _ shelf_Shelf_Put.i9 rfl (by decide) (.slice At ts.length ct) ts t _ (by rfl) (by rfl) (M.row_below HR3.out (by repeat (first | exact Below.refl _ _ | refine below_drew1 ?_ | refine below_alloc ?_ _))) (by first | exact M.blk_cell (heap_alloc_new _ _) 0 _ rfl | go_simp) (below_then HB3.out HB4s.out (by repeat (first | exact Below.refl _ _ | refine below_drew1 ?_ | refine below_alloc ?_ _))) (Nat.le_trans HB4s.out (Below.size (B := w3.heap.size) (w := w3) (by repeat (first | exact Below.refl _ _ | refine below_drew1 ?_ | refine below_alloc ?_ _)))) (by omega) ?_; intro v1 w4 hown4 hb4 hg4 hat4; obtain ⟨A4, c4, rfl⟩ := M.rowW_slice hown4; have hgw := M.grown_from (w3 := w3) hg4 (by repeat (first | exact Below.refl _ _ | refine below_drew1 ?_ | refine below_alloc ?_ _)); have hblk4 := (hgw.block g HGL3.out HS2.out.tg.symm).trans HK3.out; have f1_ : w4.cell? ⟨g, 1, none⟩ = some (.slice At ts.length ct) := M.blk_cell hblk4 1 _ rfl; have f2_ : w4.cell? ⟨g, 2, none⟩ = some (.slice An ts.length cn) := M.blk_cell hblk4 2 _ rfl; have f2a : ∀ o : Obj, (w4.alloc o).cell? ⟨g, 2, none⟩ = some (.slice An ts.length cn) := fun o => (World.cell?_of_block (a := ⟨g, 2, none⟩) (Below.heap_alloc w4 o g (M.lt_blk hblk4))).trans f2_; have f1f := M.blk_free hblk4 1; have f2f := M.blk_free hblk4 2; have HG4 := Aside0.mk hgw; have HGW4 := Aside0.mk hg4; have HO4 := Aside0.mk hown4; have HB4 := Aside0.mk hb4; have HA4 := Aside0.mk hat4; clear hown4 hb4 hg4 hat4 hgw hblk4) | (refine shelf_Shelf_Put.app (w0 := w) base (by rfl) (.tmp 88) (.tmp 90) rfl Tryd.underlying23 _ _ shelf_Shelf_Put.i9 rfl (by decide) (.slice An ts.length cn) (ts.map M.shaSum) (M.shaSum t) _ (by rfl) (by rfl) (by rw [List.length_map]; exact M.row_below (M.row_keep HN3.out HG4.out (M.sep HS2.out.tn)) (by repeat (first | exact Below.refl _ _ | refine below_drew1 ?_ | refine below_alloc ?_ _))) (by first | exact M.blk_cell (heap_alloc_new _ _) 0 _ rfl | (refine (World.cell?_of_block (HGW4.out.block _ (by first | (simp; done) | (simp; omega)) (fun e => Nat.lt_irrefl _ (Nat.lt_of_lt_of_le (M.row_lt HR3.out _ e.symm) (by first | (simp; done) | (simp; omega)))))).trans ?_; go_simp; done) | (refine (World.cell?_of_block (HGW4.out.block _ (by simp) (fun e => by have := M.row_lt HR3.out _ e.symm; simp at this; omega))).trans ?_; go_simp; done)) (below_then HB4.out (Nat.le_trans HB4s.out HG4.out.size) (by repeat (first | exact Below.refl _ _ | refine below_drew1 ?_ | refine below_alloc ?_ _))) (Nat.le_trans (Nat.le_trans HB4s.out HG4.out.size) (Below.size (B := w4.heap.size) (w := w4) (by repeat (first | exact Below.refl _ _ | refine below_drew1 ?_ | refine below_alloc ?_ _)))) (by simp; omega) ?_; intro v2 w5 hown5 hb5 hg5 hat5; obtain ⟨A5, c5, rfl⟩ := M.rowW_slice hown5; have hgw5 := M.grown_from (w3 := w4) hg5 (by repeat (first | exact Below.refl _ _ | refine below_drew1 ?_ | refine below_alloc ?_ _)); have hblk5 := (hgw5.block g (Nat.lt_of_lt_of_le HGL3.out HG4.out.size) HS2.out.ng.symm).trans ((HG4.out.block g HGL3.out HS2.out.tg.symm).trans HK3.out); have j1_ : w5.cell? ⟨g, 1, none⟩ = some (.slice At ts.length ct) := M.blk_cell hblk5 1 _ rfl; have j2_ : w5.cell? ⟨g, 2, none⟩ = some (.slice An ts.length cn) := M.blk_cell hblk5 2 _ rfl; have j1f := M.blk_free hblk5 1; have j2f := M.blk_free hblk5 2; have HK5 := Aside0.mk hblk5; have HG5 := Aside0.mk hgw5; have HO5 := Aside0.mk hown5; have HB5 := Aside0.mk hb5; have HA5 := Aside0.mk hat5; clear hown5 hb5 hg5 hat5 hgw5 hblk5))
  all_goals
   have ho5 := HO5.out
   have ha5 := HA5.out
   rw [List.length_map] at ho5 ha5
   have hE := Aside0.mk (M.shelf_end HS2.out HW3.out HM3.out (by simpa using HSay.out) HG4.out HO4.out HA4.out (by first | (simp; done) | (simp; omega)) HG5.out ho5 ha5 (by first | (simp; done) | (simp; omega)) HK5.out HQ3.out HND.out)
   have hbe := Aside0.mk ((HB5.out.setCell (p := ⟨g, 1, none⟩) HS2.out.gb (.slice A4 (ts.length + 1) c4)).setCell (p := ⟨g, 2, none⟩) HS2.out.gb (.slice A5 (ts.length + 1) c5))
   clear ho5 ha5 e1 e2 e1a e1b e2a e2b f1_ f2_ f2a f1f f2f j1_ j2_ j1f j2f HK5 HG5 HO5 HB5 HA5 HG4 HGW4 HO4 HB4 HA4 HB4s HQ3 HGL3 HW3 HB3 HN3 HR3 HM3 HK3 hat hwc HS2 HB2 HSay h1
   generalize ((w5.setCell ⟨g, 1, none⟩ (.slice A4 (ts.length + 1) c4)).setCell ⟨g, 2, none⟩ (.slice A5 (ts.length + 1) c5)) = w6 at hE hbe ⊢
   go_wp2
   exact bodyPost_ret (v := .tuple #[.string (M.shaSum t), .int .i64 0]) (by simp [results, Tryd.results9, go_sem]) rfl ⟨rfl, _, _, _, hE.out.1, hbe.out, hE.out.2⟩
theorem shelf_Shelf_Put.any (base g : Nat) (F : Nat → Prop) (s : M.SS) (t : ByteArray) (w : World) (hS : M.Sh Tryd.prog base w g F s) (hT : M.stab w) (hz : t.size ≤ 1000000000000) (hts : s.ts.length ≤ 1000000000) :
    Calls Tryd.prog 9 #[.pointer (some ⟨g, 0, none⟩), .string t] w fun e w' => e = .returned (.tuple #[.string (s.put t).1, .int .i64 (s.put t).2.1]) ∧ M.ShTo Tryd.prog base w g F (s.put t).2.2 w' := by
 obtain ⟨B, D, vt, vn, hs, hF, hl⟩ := id hS
 unfold M.SS.put
 by_cases h0 : t = ByteArray.empty
 ·subst h0
  rw [if_pos rfl]
  refine (shelf_Shelf_Put.empty base g B D vt vn s.ts s.a s.b w hs).mono ?_
  rintro e w' ⟨rfl, rfl⟩
  exact ⟨rfl, hS.same (Below.refl _ _)⟩
 rw [if_neg h0]
 by_cases h1 : 65536 < t.size
 ·rw [if_pos h1]
  refine (shelf_Shelf_Put.long base g B D vt vn s.ts s.a s.b t w hs h1 hz).mono ?_
  rintro e w' ⟨rfl, rfl⟩
  exact ⟨rfl, hS.same (Below.refl _ _)⟩
 rw [if_neg h1]
 cases hi : M.idx (s.ts.map M.shaSum) (M.shaSum t).data.toList with
 | none =>
  refine (shelf_Shelf_Put.new base g B D vt vn s.ts s.a s.b t w hs hT h0 (by omega) hts hi).mono ?_
  rintro e w' ⟨rfl, D', vt', vn', h, hb, hk, hf⟩
  exact ⟨rfl, M.Sh.to_ hs hF hl h hb hk hf⟩
 | some i =>
  simp only
  by_cases he : s.ts.getD i ByteArray.empty = t
  ·rw [if_pos he]
   refine (shelf_Shelf_Put.met base g B D vt vn s.ts s.a s.b t i w hs hT h0 (by omega) hi he).mono ?_
   rintro e w' ⟨rfl, h, hb⟩
   exact ⟨rfl, hS.same hb⟩
  ·rw [if_neg he]
   by_cases ha : s.a = ByteArray.empty
   ·rw [if_pos ha]
    refine (shelf_Shelf_Put.clash1 base g B D vt vn s.ts s.a s.b t i w hs hT h0 (by omega) hi he ha).mono ?_
    rintro e w' ⟨rfl, h, hb, hk⟩
    exact ⟨rfl, M.Sh.to_ hs hF hl h hb hk (fun _ hk => .inl hk)⟩
   ·rw [if_neg ha]
    refine (shelf_Shelf_Put.clash2 base g B D vt vn s.ts s.a s.b t i w hs hT h0 (by omega) hi he ha).mono ?_
    rintro e w' ⟨rfl, h, hb⟩
    exact ⟨rfl, hS.same hb⟩
def IsS95 (w0 W : World) (g : Nat) (f0 : ByteArray) (f1 : Int) (f2 : Int) (f3 : Bool) : Prop := W.heap[g]? = some (.cells #[.string f0, .int .i64 f1, .int .i64 f2, .bool f3] 95 (0, 0)) ∧ w0.heap.size ≤ g
theorem IsS95.grown {w0 W : World} {g : Nat} {f0 : ByteArray} {f1 : Int} {f2 : Int} {f3 : Bool} {W1 : World} {row : Option Nat} (h : IsS95 w0 W g f0 f1 f2 f3) (hw : W.grownBy W1 row) (hne : some g ≠ row) : IsS95 w0 W1 g f0 f1 f2 f3 := by
 obtain ⟨hb, hg⟩ := h
 exact ⟨blk_grown hb hw hne, hg⟩
theorem IsS95.kept {w0 W : World} {g : Nat} {f0 : ByteArray} {f1 : Int} {f2 : Int} {f3 : Bool} {W1 : World} {S : Nat → Prop} (h : IsS95 w0 W g f0 f1 f2 f3) (hk : Kept W W1 S) (hne : ¬ S g) : IsS95 w0 W1 g f0 f1 f2 f3 := by
 obtain ⟨hb, hg⟩ := h
 exact ⟨blk_kept hb hk hne, hg⟩
theorem IsS95.below {w0 W : World} {g : Nat} {f0 : ByteArray} {f1 : Int} {f2 : Int} {f3 : Bool} {W1 : World} (h : IsS95 w0 W g f0 f1 f2 f3) (hw : Below W.heap.size W W1) : IsS95 w0 W1 g f0 f1 f2 f3 := h.grown (grown_of_below hw none) (by simp)
theorem IsS95.alloc {w0 W : World} {g : Nat} {f0 : ByteArray} {f1 : Int} {f2 : Int} {f3 : Bool} (h : IsS95 w0 W g f0 f1 f2 f3) (o : Obj) : IsS95 w0 (W.alloc o) g f0 f1 f2 f3 := h.below (below_alloc (Below.refl _ _) o)
theorem IsS95.drewN {w0 W : World} {g : Nat} {f0 : ByteArray} {f1 : Int} {f2 : Int} {f3 : Bool} (h : IsS95 w0 W g f0 f1 f2 f3) (m : Nat) : IsS95 w0 (W.drewN m) g f0 f1 f2 f3 := h
theorem IsS95.drew {w0 W : World} {g : Nat} {f0 : ByteArray} {f1 : Int} {f2 : Int} {f3 : Bool} (h : IsS95 w0 W g f0 f1 f2 f3) : IsS95 w0 W.drew g f0 f1 f2 f3 := h
theorem IsS95.at_ {w0 W : World} {g : Nat} {f0 : ByteArray} {f1 : Int} {f2 : Int} {f3 : Bool} {w' : World} {m : Nat} (hq : W.drewN m = w') (h : IsS95 w0 W g f0 f1 f2 f3) : IsS95 w0 w' g f0 f1 f2 f3 := by subst hq; exact IsS95.drewN h m
theorem IsS95.apart {w0 W : World} {g : Nat} {f0 : ByteArray} {f1 : Int} {f2 : Int} {f3 : Bool} {α : Type} {d : Kd α} {e : Nat} {base : Nat} {ok : Nat → Prop} {v : Value} {xs : List α} (h : IsS95 w0 W g f0 f1 f2 f3) (ho : d.R e W base ok v xs) (ht : ∀ q, q ∈ e :: d.E → q ≠ 95) : d.R e W base (fun k => ok k ∧ k ≠ g) v xs := by
 obtain ⟨hb, hg⟩ := h
 exact Kd.R_types ho hb ht
theorem IsS95.own_ne {w0 W : World} {g : Nat} {f0 : ByteArray} {f1 : Int} {f2 : Int} {f3 : Bool} {α : Type} {d : Kd α} {e : Nat} {base : Nat} {ok : Nat → Prop} {v : Value} {xs : List α} (h : IsS95 w0 W g f0 f1 f2 f3) (ho : d.R e W base ok v xs) (ht : e ≠ 95) : some g ≠ v.ownBlock := by
 obtain ⟨hb, hg⟩ := h
 exact Kd.R_ne ho hb ht
theorem IsS95.lt {w0 W : World} {g : Nat} {f0 : ByteArray} {f1 : Int} {f2 : Int} {f3 : Bool} (h : IsS95 w0 W g f0 f1 f2 f3) : g < W.heap.size := by
 obtain ⟨hb, hg⟩ := h
 exact blk_lt hb
theorem IsS95.ge {w0 W : World} {g : Nat} {f0 : ByteArray} {f1 : Int} {f2 : Int} {f3 : Bool} (h : IsS95 w0 W g f0 f1 f2 f3) : w0.heap.size ≤ g := by
 obtain ⟨hb, hg⟩ := h
 exact hg
theorem IsS95.ne_blk {w0 W : World} {g : Nat} {f0 : ByteArray} {f1 : Int} {f2 : Int} {f3 : Bool} {a : Nat} {cs : Array Value} {t : TypeId} {fr : Nat × Nat} (h : IsS95 w0 W g f0 f1 f2 f3) (hb2 : W.heap[a]? = some (.cells cs t fr)) (ht : t ≠ 95) : g ≠ a := by
 obtain ⟨hb, hg⟩ := h
 rintro rfl
 rw [hb] at hb2
 injection hb2 with hb2
 injection hb2 with _ ht2
 exact ht ht2.symm
theorem IsS95.far {w0 W : World} {g : Nat} {f0 : ByteArray} {f1 : Int} {f2 : Int} {f3 : Bool} {p : Addr} (h : IsS95 w0 W g f0 f1 f2 f3) (hne : g ≠ p.block) (u : Value) : IsS95 w0 (W.setCell p u) g f0 f1 f2 f3 := by
 obtain ⟨hb, hg⟩ := h
 exact ⟨blk_far hb hne u, hg⟩
theorem cellS95_0 {W : World} {g : Nat} {f0 : ByteArray} {f1 : Int} {f2 : Int} {f3 : Bool} (h : W.heap[g]? = some (.cells #[.string f0, .int .i64 f1, .int .i64 f2, .bool f3] 95 (0, 0))) : W.cell? ⟨g, 0, none⟩ = some (.string f0) := (blk_cell h 0).trans rfl
theorem IsS95.set_0 {w0 W : World} {g : Nat} {f0 : ByteArray} {f1 : Int} {f2 : Int} {f3 : Bool} (h : IsS95 w0 W g f0 f1 f2 f3) (x : ByteArray) : IsS95 w0 (W.setCell ⟨g, 0, none⟩ (.string x)) g x f1 f2 f3 := by
 obtain ⟨hb, hg⟩ := h
 exact ⟨by simpa using blk_set hb 0 (.string x), hg⟩
theorem cellS95_1 {W : World} {g : Nat} {f0 : ByteArray} {f1 : Int} {f2 : Int} {f3 : Bool} (h : W.heap[g]? = some (.cells #[.string f0, .int .i64 f1, .int .i64 f2, .bool f3] 95 (0, 0))) : W.cell? ⟨g, 1, none⟩ = some (.int .i64 f1) := (blk_cell h 1).trans rfl
theorem IsS95.set_1 {w0 W : World} {g : Nat} {f0 : ByteArray} {f1 : Int} {f2 : Int} {f3 : Bool} (h : IsS95 w0 W g f0 f1 f2 f3) (x : Int) : IsS95 w0 (W.setCell ⟨g, 1, none⟩ (.int .i64 x)) g f0 x f2 f3 := by
 obtain ⟨hb, hg⟩ := h
 exact ⟨by simpa using blk_set hb 1 (.int .i64 x), hg⟩
theorem cellS95_2 {W : World} {g : Nat} {f0 : ByteArray} {f1 : Int} {f2 : Int} {f3 : Bool} (h : W.heap[g]? = some (.cells #[.string f0, .int .i64 f1, .int .i64 f2, .bool f3] 95 (0, 0))) : W.cell? ⟨g, 2, none⟩ = some (.int .i64 f2) := (blk_cell h 2).trans rfl
theorem IsS95.set_2 {w0 W : World} {g : Nat} {f0 : ByteArray} {f1 : Int} {f2 : Int} {f3 : Bool} (h : IsS95 w0 W g f0 f1 f2 f3) (x : Int) : IsS95 w0 (W.setCell ⟨g, 2, none⟩ (.int .i64 x)) g f0 f1 x f3 := by
 obtain ⟨hb, hg⟩ := h
 exact ⟨by simpa using blk_set hb 2 (.int .i64 x), hg⟩
theorem cellS95_3 {W : World} {g : Nat} {f0 : ByteArray} {f1 : Int} {f2 : Int} {f3 : Bool} (h : W.heap[g]? = some (.cells #[.string f0, .int .i64 f1, .int .i64 f2, .bool f3] 95 (0, 0))) : W.cell? ⟨g, 3, none⟩ = some (.bool f3) := (blk_cell h 3).trans rfl
theorem IsS95.set_3 {w0 W : World} {g : Nat} {f0 : ByteArray} {f1 : Int} {f2 : Int} {f3 : Bool} (h : IsS95 w0 W g f0 f1 f2 f3) (x : Bool) : IsS95 w0 (W.setCell ⟨g, 3, none⟩ (.bool x)) g f0 f1 f2 x := by
 obtain ⟨hb, hg⟩ := h
 exact ⟨by simpa using blk_set hb 3 (.bool x), hg⟩
theorem IsS95.new (w0 W : World) (f0 : ByteArray) (f1 : Int) (f2 : Int) (f3 : Bool) (hB : Below w0.heap.size w0 W) : IsS95 w0 (W.alloc (.cells #[.string f0, .int .i64 f1, .int .i64 f2, .bool f3] 95)) W.heap.size f0 f1 f2 f3 := ⟨by simpa using heap_alloc_new W _, hB.size⟩
def scan_New.f (a0 : ByteArray) : Option (ByteArray × Int × Int × Bool) := some (a0, 0, 0, true)
set_option maxHeartbeats 8000000 in
set_option maxRecDepth 100000 in
theorem scan_New.calls (a0 : ByteArray) (r1 : ByteArray) (r2 : Int) (r3 : Int) (r4 : Bool) (w0 w : World) (hB : Below w0.heap.size w0 w) (h : scan_New.f a0 = some (r1, r2, r3, r4)) :
    Calls Tryd.prog 23 #[.string a0] w fun e w' => ∃ g_ : Nat, e = .returned (.pointer (some ⟨g_, 0, none⟩)) ∧ IsS95 w0 w' g_ r1 r2 r3 r4 ∧ Below w0.heap.size w0 w' ∧ Below w.heap.size w w' := by
 have hu95 := Tryd.underlying95
 have HBW := Aside0.mk (Below.refl w.heap.size w)
 have HW0 := Aside0.mk hB.size
 have HB := Aside0.mk hB
 clear hB
 have H : (some (a0, 0, 0, true)) = some (r1, r2, r3, r4) := h
 clear h
 simp only [Option.some.injEq, Prod.mk.injEq] at H
 obtain ⟨rfl, rfl, rfl, rfl⟩ := H
 go_enter Tryd.func23, Tryd.ntmps23
 go_wp2_with (first | ((with_reducible refine gate_dst (N := 5) rfl ?_); refine M.bx 5 95 (#[.string a0, .int .i64 0, .int .i64 0, .bool true]) ?_; intro zaa hg w2 hbox hb; replace HB := M.upS HB hb; have zab := Aside0.mk (hbox); have zac := Aside0.mk ((by rw [hg]; exact (below_size (by repeat (first | (with_reducible first | exact HBW.out | apply below_alloc | apply pw_below_drewN | apply below_drew1) | exact HBW.out))) : w.heap.size ≤ zaa)); have zad := Aside0.mk ((Nat.le_trans HW0.out (by rw [hg]; exact (below_size (by repeat (first | (with_reducible first | exact HBW.out | apply below_alloc | apply pw_below_drewN | apply below_drew1) | exact HBW.out))) : w.heap.size ≤ zaa) : w0.heap.size ≤ zaa)); replace HBW := Aside0.mk (below_step HBW.out hb); clear hb hbox hg))
 go_ret
 exact ⟨_, rfl, (show IsS95 w0 _ zaa a0 0 0 true from ⟨by (with_reducible repeat (first | refine blk_drewN ?_ _ | refine blk_drew ?_ | refine blk_alloc ?_ _)); exact zab.out, zad.out⟩), by repeat (first | (with_reducible first | exact HB.out | apply below_alloc | apply pw_below_drewN | apply below_drew1 | refine below_set ?_ zad.out) | exact HB.out), by repeat (first | (with_reducible first | exact HBW.out | apply below_alloc | apply pw_below_drewN | apply below_drew1 | refine below_set ?_ zac.out) | exact HBW.out)⟩
def scan_Scan_Err.f (s0_0 : ByteArray) (s0_1 : Int) (s0_2 : Int) (s0_3 : Bool) : Option (Int × ByteArray × Int × Int × Bool) := if s0_3 = true then (some (s0_2, s0_0, s0_1, s0_2, s0_3)) else (some (1, s0_0, s0_1, s0_2, s0_3))
set_option maxHeartbeats 8000000 in
set_option maxRecDepth 100000 in
theorem scan_Scan_Err.calls (g : Nat) (s0_0 : ByteArray) (s0_1 : Int) (s0_2 : Int) (s0_3 : Bool) (r1 : Int) (r2 : ByteArray) (r3 : Int) (r4 : Int) (r5 : Bool) (w0 w : World) (hI : IsS95 w0 w g s0_0 s0_1 s0_2 s0_3) (hB : Below w0.heap.size w0 w) (h : scan_Scan_Err.f s0_0 s0_1 s0_2 s0_3 = some (r1, r2, r3, r4, r5)) :
    Calls Tryd.prog 45 #[.pointer (some ⟨g, 0, none⟩)] w fun e w' => e = .returned (.int .i64 r1) ∧ IsS95 w0 w' g r2 r3 r4 r5 ∧ Below w0.heap.size w0 w' ∧ KeepBut w w' g none := by
 have HI0 := Aside0.mk hI
 have HK := Aside0.mk (KeepBut.refl w g none)
 have HL := Aside0.mk hB.size
 clear hI
 have HW0 := Aside0.mk hB.size
 have HB := Aside0.mk hB
 clear hB
 have H : (if s0_3 = true then (some (s0_2, s0_0, s0_1, s0_2, s0_3)) else (some (1, s0_0, s0_1, s0_2, s0_3))) = some (r1, r2, r3, r4, r5) := h
 clear h
 by_cases c2 : s0_3 = true
 ·subst c2
  have H1 : (some (s0_2, s0_0, s0_1, s0_2, true)) = some (r1, r2, r3, r4, r5) := by rw [if_pos rfl] at H; exact H
  clear H
  have H := H1
  clear H1
  simp only [Option.some.injEq, Prod.mk.injEq] at H
  obtain ⟨rfl, rfl, rfl, rfl, rfl⟩ := H
  obtain ⟨HGz3, hgz3⟩ := HI0.out
  have zae := cellS95_0 HGz3
  have zaf := cellS95_1 HGz3
  have zag := cellS95_2 HGz3
  have zah := cellS95_3 HGz3
  have zai := blk_frozen HGz3 0
  have zaj := blk_frozen HGz3 1
  have zak := blk_frozen HGz3 2
  have zal := blk_frozen HGz3 3
  clear HGz3 hgz3
  go_enter Tryd.func45, Tryd.ntmps45
  go_wp2
  go_ret
  exact ⟨M.eqe, by repeat (first | (with_reducible first | exact HI0.out | apply IsS95.alloc | apply IsS95.drewN | apply IsS95.drew | apply IsS95.set_0 | apply IsS95.set_1 | apply IsS95.set_2 | apply IsS95.set_3) | exact HI0.out), by repeat (first | (with_reducible first | exact HB.out | apply below_alloc | apply pw_below_drewN | apply below_drew1 | refine below_set ?_ (IsS95.ge HI0.out)) | exact HB.out), by repeat (first | (with_reducible first | exact HK.out | apply KeepBut.set_ | apply keep_drewN | apply keep_drew | apply keep_alloc) | exact HK.out)⟩
 ·replace c2 := Bool.eq_false_iff.mpr c2
  subst c2
  have H1 : (some (1, s0_0, s0_1, s0_2, false)) = some (r1, r2, r3, r4, r5) := by rw [if_neg (show ¬ (false = true) by decide)] at H; exact H
  clear H
  have H := H1
  clear H1
  simp only [Option.some.injEq, Prod.mk.injEq] at H
  obtain ⟨rfl, rfl, rfl, rfl, rfl⟩ := H
  obtain ⟨HGz4, hgz4⟩ := HI0.out
  have zam := cellS95_0 HGz4
  have zan := cellS95_1 HGz4
  have zao := cellS95_2 HGz4
  have zap := cellS95_3 HGz4
  have zaq := blk_frozen HGz4 0
  have zar := blk_frozen HGz4 1
  have zas := blk_frozen HGz4 2
  have zat := blk_frozen HGz4 3
  clear HGz4 hgz4
  go_enter Tryd.func45, Tryd.ntmps45
  go_wp2
  go_ret
  exact ⟨M.eqe, by repeat (first | (with_reducible first | exact HI0.out | apply IsS95.alloc | apply IsS95.drewN | apply IsS95.drew | apply IsS95.set_0 | apply IsS95.set_1 | apply IsS95.set_2 | apply IsS95.set_3) | exact HI0.out), by repeat (first | (with_reducible first | exact HB.out | apply below_alloc | apply pw_below_drewN | apply below_drew1 | refine below_set ?_ (IsS95.ge HI0.out)) | exact HB.out), by repeat (first | (with_reducible first | exact HK.out | apply KeepBut.set_ | apply keep_drewN | apply keep_drew | apply keep_alloc) | exact HK.out)⟩
def scan_Scan_take_p.f (s0_0 : ByteArray) (s0_1 : Int) (s0_2 : Int) (s0_3 : Bool) (a1 : Int) : Option (ByteArray × ByteArray × Int × Int × Bool) := (scan_Scan_Err.f s0_0 s0_1 s0_2 s0_3).bind fun bt102 => (if bt102.1 = 0 then (if a1 < 0 then (some ((⟨#[]⟩ : ByteArray), bt102.2.1, bt102.2.2.1, 3, bt102.2.2.2.2)) else (if a1 > (wrap64 ((bt102.2.1.size : Int) - bt102.2.2.1)) then (some ((⟨#[]⟩ : ByteArray), bt102.2.1, bt102.2.2.1, 3, bt102.2.2.2.2)) else (if 0 ≤ bt102.2.2.1 then (if bt102.2.2.1 ≤ (wrap64 (bt102.2.2.1 + a1)) then (if (wrap64 (bt102.2.2.1 + a1)) ≤ (bt102.2.1.size : Int) then (some (bt102.2.1.extract (bt102.2.2.1 : Int).toNat ((wrap64 (bt102.2.2.1 + a1)) : Int).toNat, bt102.2.1, wrap64 (bt102.2.2.1 + a1), bt102.2.2.2.1, bt102.2.2.2.2)) else (none)) else (none)) else (none)))) else (some ((⟨#[]⟩ : ByteArray), bt102.2.1, bt102.2.2.1, bt102.2.2.2.1, bt102.2.2.2.2)))
set_option maxHeartbeats 8000000 in
set_option maxRecDepth 100000 in
theorem scan_Scan_take_p.calls (g : Nat) (s0_0 : ByteArray) (s0_1 : Int) (s0_2 : Int) (s0_3 : Bool) (a1 : Int) (r1 : ByteArray) (r2 : ByteArray) (r3 : Int) (r4 : Int) (r5 : Bool) (w0 w : World) (hI : IsS95 w0 w g s0_0 s0_1 s0_2 s0_3) (hB : Below w0.heap.size w0 w) (h : scan_Scan_take_p.f s0_0 s0_1 s0_2 s0_3 a1 = some (r1, r2, r3, r4, r5)) :
    Calls Tryd.prog 44 #[.pointer (some ⟨g, 0, none⟩), .int .i64 a1] w fun e w' => e = .returned (.string r1) ∧ IsS95 w0 w' g r2 r3 r4 r5 ∧ Below w0.heap.size w0 w' ∧ KeepBut w w' g none := by
 have HI0 := Aside0.mk hI
 have HK := Aside0.mk (KeepBut.refl w g none)
 have HL := Aside0.mk hB.size
 clear hI
 have HW0 := Aside0.mk hB.size
 have HB := Aside0.mk hB
 clear hB
 have H : ((scan_Scan_Err.f s0_0 s0_1 s0_2 s0_3).bind fun bt102 => (if bt102.1 = 0 then (if a1 < 0 then (some ((⟨#[]⟩ : ByteArray), bt102.2.1, bt102.2.2.1, 3, bt102.2.2.2.2)) else (if a1 > (wrap64 ((bt102.2.1.size : Int) - bt102.2.2.1)) then (some ((⟨#[]⟩ : ByteArray), bt102.2.1, bt102.2.2.1, 3, bt102.2.2.2.2)) else (if 0 ≤ bt102.2.2.1 then (if bt102.2.2.1 ≤ (wrap64 (bt102.2.2.1 + a1)) then (if (wrap64 (bt102.2.2.1 + a1)) ≤ (bt102.2.1.size : Int) then (some (bt102.2.1.extract (bt102.2.2.1 : Int).toNat ((wrap64 (bt102.2.2.1 + a1)) : Int).toNat, bt102.2.1, wrap64 (bt102.2.2.1 + a1), bt102.2.2.2.1, bt102.2.2.2.2)) else (none)) else (none)) else (none)))) else (some ((⟨#[]⟩ : ByteArray), bt102.2.1, bt102.2.2.1, bt102.2.2.2.1, bt102.2.2.2.2)))) = some (r1, r2, r3, r4, r5) := h
 clear h
 replace H := Option.bind_eq_some_iff.mp H
 obtain ⟨⟨t102, t103, t104, t105, t106⟩, A30, H⟩ := H
 replace H : (if t102 = 0 then (if a1 < 0 then (some ((⟨#[]⟩ : ByteArray), t103, t104, 3, t106)) else (if a1 > (wrap64 ((t103.size : Int) - t104)) then (some ((⟨#[]⟩ : ByteArray), t103, t104, 3, t106)) else (if 0 ≤ t104 then (if t104 ≤ (wrap64 (t104 + a1)) then (if (wrap64 (t104 + a1)) ≤ (t103.size : Int) then (some (t103.extract (t104 : Int).toNat ((wrap64 (t104 + a1)) : Int).toNat, t103, wrap64 (t104 + a1), t105, t106)) else (none)) else (none)) else (none)))) else (some ((⟨#[]⟩ : ByteArray), t103, t104, t105, t106))) = some (r1, r2, r3, r4, r5) := H
 have A3 := Aside0.mk A30
 clear A30
 by_cases c4 : t102 = 0
 ·rw [if_pos c4] at H
  have c4b0 : (t102 == 0) = true := beq_iff_eq.mpr c4
  have c4b1 : (t102 != 0) = false := bne_eq_false_iff_eq.mpr c4
  clear c4
  by_cases c5 : a1 < 0
  ·rw [if_pos c5] at H
   have c5b0 := decide_eq_true c5
   clear c5
   simp only [Option.some.injEq, Prod.mk.injEq] at H
   obtain ⟨rfl, rfl, rfl, rfl, rfl⟩ := H
   go_enter Tryd.func44, Tryd.ntmps44
   go_wp2_with (first | (go_at_call 45; (with_reducible refine (scan_Scan_Err.calls g s0_0 s0_1 s0_2 s0_3 t102 t103 t104 t105 t106 w0 _ ?side1 ?side2 A3.out).mono ?_); (case side1 => repeat (first | (with_reducible first | exact HI0.out | apply IsS95.alloc | apply IsS95.drewN | apply IsS95.drew | apply IsS95.set_0 | apply IsS95.set_1 | apply IsS95.set_2 | apply IsS95.set_3) | exact HI0.out)); (case side2 => repeat (first | (with_reducible first | exact HB.out | apply below_alloc | apply pw_below_drewN | apply below_drew1 | refine below_set ?_ (IsS95.ge HI0.out)) | exact HB.out)); rintro e w6 ⟨rfl, hi, hb, hk⟩; replace HK := Aside0.mk (KeepBut.trans (by repeat (first | (with_reducible first | exact HK.out | apply KeepBut.set_ | apply keep_drewN | apply keep_drew | apply keep_alloc) | exact HK.out)) hk (.inl rfl)); replace HB := Aside0.mk (hb); replace HI0 := Aside0.mk (hi); (try clear hb); (try clear hb2); (try clear hk); (try clear hi); obtain ⟨HGz7, hgz7⟩ := HI0.out; have zau := cellS95_0 HGz7; have zav := cellS95_1 HGz7; have zaw := cellS95_2 HGz7; have zax := cellS95_3 HGz7; have zay := blk_frozen HGz7 0; have zaz := blk_frozen HGz7 1; have zaA := blk_frozen HGz7 2; have zaB := blk_frozen HGz7 3; clear HGz7 hgz7))
   repeat (go_quiet (first | (go_at_call 45; (with_reducible refine (scan_Scan_Err.calls g s0_0 s0_1 s0_2 s0_3 t102 t103 t104 t105 t106 w0 _ ?side1 ?side2 A3.out).mono ?_); (case side1 => repeat (first | (with_reducible first | exact HI0.out | apply IsS95.alloc | apply IsS95.drewN | apply IsS95.drew | apply IsS95.set_0 | apply IsS95.set_1 | apply IsS95.set_2 | apply IsS95.set_3) | exact HI0.out)); (case side2 => repeat (first | (with_reducible first | exact HB.out | apply below_alloc | apply pw_below_drewN | apply below_drew1 | refine below_set ?_ (IsS95.ge HI0.out)) | exact HB.out)); rintro e w6 ⟨rfl, hi, hb, hk⟩; replace HK := Aside0.mk (KeepBut.trans (by repeat (first | (with_reducible first | exact HK.out | apply KeepBut.set_ | apply keep_drewN | apply keep_drew | apply keep_alloc) | exact HK.out)) hk (.inl rfl)); replace HB := Aside0.mk (hb); replace HI0 := Aside0.mk (hi); (try clear hb); (try clear hb2); (try clear hk); (try clear hi); obtain ⟨HGz7, hgz7⟩ := HI0.out; have zau := cellS95_0 HGz7; have zav := cellS95_1 HGz7; have zaw := cellS95_2 HGz7; have zax := cellS95_3 HGz7; have zay := blk_frozen HGz7 0; have zaz := blk_frozen HGz7 1; have zaA := blk_frozen HGz7 2; have zaB := blk_frozen HGz7 3; clear HGz7 hgz7)); try go_wp2_with (first | (go_at_call 45; (with_reducible refine (scan_Scan_Err.calls g s0_0 s0_1 s0_2 s0_3 t102 t103 t104 t105 t106 w0 _ ?side1 ?side2 A3.out).mono ?_); (case side1 => repeat (first | (with_reducible first | exact HI0.out | apply IsS95.alloc | apply IsS95.drewN | apply IsS95.drew | apply IsS95.set_0 | apply IsS95.set_1 | apply IsS95.set_2 | apply IsS95.set_3) | exact HI0.out)); (case side2 => repeat (first | (with_reducible first | exact HB.out | apply below_alloc | apply pw_below_drewN | apply below_drew1 | refine below_set ?_ (IsS95.ge HI0.out)) | exact HB.out)); rintro e w6 ⟨rfl, hi, hb, hk⟩; replace HK := Aside0.mk (KeepBut.trans (by repeat (first | (with_reducible first | exact HK.out | apply KeepBut.set_ | apply keep_drewN | apply keep_drew | apply keep_alloc) | exact HK.out)) hk (.inl rfl)); replace HB := Aside0.mk (hb); replace HI0 := Aside0.mk (hi); (try clear hb); (try clear hb2); (try clear hk); (try clear hi); obtain ⟨HGz7, hgz7⟩ := HI0.out; have zau := cellS95_0 HGz7; have zav := cellS95_1 HGz7; have zaw := cellS95_2 HGz7; have zax := cellS95_3 HGz7; have zay := blk_frozen HGz7 0; have zaz := blk_frozen HGz7 1; have zaA := blk_frozen HGz7 2; have zaB := blk_frozen HGz7 3; clear HGz7 hgz7)))
   go_ret
   exact ⟨M.eqe, by repeat (first | (with_reducible first | exact HI0.out | apply IsS95.alloc | apply IsS95.drewN | apply IsS95.drew | apply IsS95.set_0 | apply IsS95.set_1 | apply IsS95.set_2 | apply IsS95.set_3) | exact HI0.out), by repeat (first | (with_reducible first | exact HB.out | apply below_alloc | apply pw_below_drewN | apply below_drew1 | refine below_set ?_ (IsS95.ge HI0.out)) | exact HB.out), by repeat (first | (with_reducible first | exact HK.out | apply KeepBut.set_ | apply keep_drewN | apply keep_drew | apply keep_alloc) | exact HK.out)⟩
  ·rw [if_neg c5] at H
   have c5b0 := decide_eq_false c5
   clear c5
   by_cases c8 : a1 > (wrap64 ((t103.size : Int) - t104))
   ·rw [if_pos c8] at H
    have c8b0 := decide_eq_true c8
    clear c8
    simp only [Option.some.injEq, Prod.mk.injEq] at H
    obtain ⟨rfl, rfl, rfl, rfl, rfl⟩ := H
    go_enter Tryd.func44, Tryd.ntmps44
    go_wp2_with (first | (go_at_call 45; (with_reducible refine (scan_Scan_Err.calls g s0_0 s0_1 s0_2 s0_3 t102 t103 t104 t105 t106 w0 _ ?side1 ?side2 A3.out).mono ?_); (case side1 => repeat (first | (with_reducible first | exact HI0.out | apply IsS95.alloc | apply IsS95.drewN | apply IsS95.drew | apply IsS95.set_0 | apply IsS95.set_1 | apply IsS95.set_2 | apply IsS95.set_3) | exact HI0.out)); (case side2 => repeat (first | (with_reducible first | exact HB.out | apply below_alloc | apply pw_below_drewN | apply below_drew1 | refine below_set ?_ (IsS95.ge HI0.out)) | exact HB.out)); rintro e w9 ⟨rfl, hi, hb, hk⟩; replace HK := Aside0.mk (KeepBut.trans (by repeat (first | (with_reducible first | exact HK.out | apply KeepBut.set_ | apply keep_drewN | apply keep_drew | apply keep_alloc) | exact HK.out)) hk (.inl rfl)); replace HB := Aside0.mk (hb); replace HI0 := Aside0.mk (hi); (try clear hb); (try clear hb2); (try clear hk); (try clear hi); obtain ⟨HGz10, hgz10⟩ := HI0.out; have zaC := cellS95_0 HGz10; have zaD := cellS95_1 HGz10; have zaE := cellS95_2 HGz10; have zaF := cellS95_3 HGz10; have zaG := blk_frozen HGz10 0; have zaH := blk_frozen HGz10 1; have zaI := blk_frozen HGz10 2; have zaJ := blk_frozen HGz10 3; clear HGz10 hgz10))
    repeat (go_quiet (first | (go_at_call 45; (with_reducible refine (scan_Scan_Err.calls g s0_0 s0_1 s0_2 s0_3 t102 t103 t104 t105 t106 w0 _ ?side1 ?side2 A3.out).mono ?_); (case side1 => repeat (first | (with_reducible first | exact HI0.out | apply IsS95.alloc | apply IsS95.drewN | apply IsS95.drew | apply IsS95.set_0 | apply IsS95.set_1 | apply IsS95.set_2 | apply IsS95.set_3) | exact HI0.out)); (case side2 => repeat (first | (with_reducible first | exact HB.out | apply below_alloc | apply pw_below_drewN | apply below_drew1 | refine below_set ?_ (IsS95.ge HI0.out)) | exact HB.out)); rintro e w9 ⟨rfl, hi, hb, hk⟩; replace HK := Aside0.mk (KeepBut.trans (by repeat (first | (with_reducible first | exact HK.out | apply KeepBut.set_ | apply keep_drewN | apply keep_drew | apply keep_alloc) | exact HK.out)) hk (.inl rfl)); replace HB := Aside0.mk (hb); replace HI0 := Aside0.mk (hi); (try clear hb); (try clear hb2); (try clear hk); (try clear hi); obtain ⟨HGz10, hgz10⟩ := HI0.out; have zaC := cellS95_0 HGz10; have zaD := cellS95_1 HGz10; have zaE := cellS95_2 HGz10; have zaF := cellS95_3 HGz10; have zaG := blk_frozen HGz10 0; have zaH := blk_frozen HGz10 1; have zaI := blk_frozen HGz10 2; have zaJ := blk_frozen HGz10 3; clear HGz10 hgz10)); try go_wp2_with (first | (go_at_call 45; (with_reducible refine (scan_Scan_Err.calls g s0_0 s0_1 s0_2 s0_3 t102 t103 t104 t105 t106 w0 _ ?side1 ?side2 A3.out).mono ?_); (case side1 => repeat (first | (with_reducible first | exact HI0.out | apply IsS95.alloc | apply IsS95.drewN | apply IsS95.drew | apply IsS95.set_0 | apply IsS95.set_1 | apply IsS95.set_2 | apply IsS95.set_3) | exact HI0.out)); (case side2 => repeat (first | (with_reducible first | exact HB.out | apply below_alloc | apply pw_below_drewN | apply below_drew1 | refine below_set ?_ (IsS95.ge HI0.out)) | exact HB.out)); rintro e w9 ⟨rfl, hi, hb, hk⟩; replace HK := Aside0.mk (KeepBut.trans (by repeat (first | (with_reducible first | exact HK.out | apply KeepBut.set_ | apply keep_drewN | apply keep_drew | apply keep_alloc) | exact HK.out)) hk (.inl rfl)); replace HB := Aside0.mk (hb); replace HI0 := Aside0.mk (hi); (try clear hb); (try clear hb2); (try clear hk); (try clear hi); obtain ⟨HGz10, hgz10⟩ := HI0.out; have zaC := cellS95_0 HGz10; have zaD := cellS95_1 HGz10; have zaE := cellS95_2 HGz10; have zaF := cellS95_3 HGz10; have zaG := blk_frozen HGz10 0; have zaH := blk_frozen HGz10 1; have zaI := blk_frozen HGz10 2; have zaJ := blk_frozen HGz10 3; clear HGz10 hgz10)))
    go_ret
    exact ⟨M.eqe, by repeat (first | (with_reducible first | exact HI0.out | apply IsS95.alloc | apply IsS95.drewN | apply IsS95.drew | apply IsS95.set_0 | apply IsS95.set_1 | apply IsS95.set_2 | apply IsS95.set_3) | exact HI0.out), by repeat (first | (with_reducible first | exact HB.out | apply below_alloc | apply pw_below_drewN | apply below_drew1 | refine below_set ?_ (IsS95.ge HI0.out)) | exact HB.out), by repeat (first | (with_reducible first | exact HK.out | apply KeepBut.set_ | apply keep_drewN | apply keep_drew | apply keep_alloc) | exact HK.out)⟩
   ·rw [if_neg c8] at H
    have c8b0 := decide_eq_false c8
    clear c8
    by_cases c11 : 0 ≤ t104
    ·rw [if_pos c11] at H
     have c11b0 := eq_true c11
     have c11b1 := decide_eq_true c11
     clear c11
     by_cases c12 : t104 ≤ (wrap64 (t104 + a1))
     ·rw [if_pos c12] at H
      have c12b0 := eq_true c12
      have c12b1 := decide_eq_true c12
      by_cases c13 : (wrap64 (t104 + a1)) ≤ (t103.size : Int)
      ·rw [if_pos c13] at H
       have c13b0 := eq_true c13
       have c13b1 := decide_eq_true c13
       simp only [Option.some.injEq, Prod.mk.injEq] at H
       obtain ⟨rfl, rfl, rfl, rfl, rfl⟩ := H
       go_enter Tryd.func44, Tryd.ntmps44
       go_wp2_with (first | (go_at_call 45; (with_reducible refine (scan_Scan_Err.calls g s0_0 s0_1 s0_2 s0_3 t102 t103 t104 t105 t106 w0 _ ?side1 ?side2 A3.out).mono ?_); (case side1 => repeat (first | (with_reducible first | exact HI0.out | apply IsS95.alloc | apply IsS95.drewN | apply IsS95.drew | apply IsS95.set_0 | apply IsS95.set_1 | apply IsS95.set_2 | apply IsS95.set_3) | exact HI0.out)); (case side2 => repeat (first | (with_reducible first | exact HB.out | apply below_alloc | apply pw_below_drewN | apply below_drew1 | refine below_set ?_ (IsS95.ge HI0.out)) | exact HB.out)); rintro e w14 ⟨rfl, hi, hb, hk⟩; replace HK := Aside0.mk (KeepBut.trans (by repeat (first | (with_reducible first | exact HK.out | apply KeepBut.set_ | apply keep_drewN | apply keep_drew | apply keep_alloc) | exact HK.out)) hk (.inl rfl)); replace HB := Aside0.mk (hb); replace HI0 := Aside0.mk (hi); (try clear hb); (try clear hb2); (try clear hk); (try clear hi); obtain ⟨HGz15, hgz15⟩ := HI0.out; have zaK := cellS95_0 HGz15; have zaL := cellS95_1 HGz15; have zaM := cellS95_2 HGz15; have zaN := cellS95_3 HGz15; have zaO := blk_frozen HGz15 0; have zaP := blk_frozen HGz15 1; have zaQ := blk_frozen HGz15 2; have zaR := blk_frozen HGz15 3; clear HGz15 hgz15))
       repeat (go_quiet (first | (go_at_call 45; (with_reducible refine (scan_Scan_Err.calls g s0_0 s0_1 s0_2 s0_3 t102 t103 t104 t105 t106 w0 _ ?side1 ?side2 A3.out).mono ?_); (case side1 => repeat (first | (with_reducible first | exact HI0.out | apply IsS95.alloc | apply IsS95.drewN | apply IsS95.drew | apply IsS95.set_0 | apply IsS95.set_1 | apply IsS95.set_2 | apply IsS95.set_3) | exact HI0.out)); (case side2 => repeat (first | (with_reducible first | exact HB.out | apply below_alloc | apply pw_below_drewN | apply below_drew1 | refine below_set ?_ (IsS95.ge HI0.out)) | exact HB.out)); rintro e w14 ⟨rfl, hi, hb, hk⟩; replace HK := Aside0.mk (KeepBut.trans (by repeat (first | (with_reducible first | exact HK.out | apply KeepBut.set_ | apply keep_drewN | apply keep_drew | apply keep_alloc) | exact HK.out)) hk (.inl rfl)); replace HB := Aside0.mk (hb); replace HI0 := Aside0.mk (hi); (try clear hb); (try clear hb2); (try clear hk); (try clear hi); obtain ⟨HGz15, hgz15⟩ := HI0.out; have zaK := cellS95_0 HGz15; have zaL := cellS95_1 HGz15; have zaM := cellS95_2 HGz15; have zaN := cellS95_3 HGz15; have zaO := blk_frozen HGz15 0; have zaP := blk_frozen HGz15 1; have zaQ := blk_frozen HGz15 2; have zaR := blk_frozen HGz15 3; clear HGz15 hgz15)); try go_wp2_with (first | (go_at_call 45; (with_reducible refine (scan_Scan_Err.calls g s0_0 s0_1 s0_2 s0_3 t102 t103 t104 t105 t106 w0 _ ?side1 ?side2 A3.out).mono ?_); (case side1 => repeat (first | (with_reducible first | exact HI0.out | apply IsS95.alloc | apply IsS95.drewN | apply IsS95.drew | apply IsS95.set_0 | apply IsS95.set_1 | apply IsS95.set_2 | apply IsS95.set_3) | exact HI0.out)); (case side2 => repeat (first | (with_reducible first | exact HB.out | apply below_alloc | apply pw_below_drewN | apply below_drew1 | refine below_set ?_ (IsS95.ge HI0.out)) | exact HB.out)); rintro e w14 ⟨rfl, hi, hb, hk⟩; replace HK := Aside0.mk (KeepBut.trans (by repeat (first | (with_reducible first | exact HK.out | apply KeepBut.set_ | apply keep_drewN | apply keep_drew | apply keep_alloc) | exact HK.out)) hk (.inl rfl)); replace HB := Aside0.mk (hb); replace HI0 := Aside0.mk (hi); (try clear hb); (try clear hb2); (try clear hk); (try clear hi); obtain ⟨HGz15, hgz15⟩ := HI0.out; have zaK := cellS95_0 HGz15; have zaL := cellS95_1 HGz15; have zaM := cellS95_2 HGz15; have zaN := cellS95_3 HGz15; have zaO := blk_frozen HGz15 0; have zaP := blk_frozen HGz15 1; have zaQ := blk_frozen HGz15 2; have zaR := blk_frozen HGz15 3; clear HGz15 hgz15)))
       go_ret
       exact ⟨M.eqe, by repeat (first | (with_reducible first | exact HI0.out | apply IsS95.alloc | apply IsS95.drewN | apply IsS95.drew | apply IsS95.set_0 | apply IsS95.set_1 | apply IsS95.set_2 | apply IsS95.set_3) | exact HI0.out), by repeat (first | (with_reducible first | exact HB.out | apply below_alloc | apply pw_below_drewN | apply below_drew1 | refine below_set ?_ (IsS95.ge HI0.out)) | exact HB.out), by repeat (first | (with_reducible first | exact HK.out | apply KeepBut.set_ | apply keep_drewN | apply keep_drew | apply keep_alloc) | exact HK.out)⟩
      ·exact M.nf c13 H
     ·exact M.nf c12 H
    ·exact M.nf c11 H
 ·rw [if_neg c4] at H
  have c4b0 : (t102 == 0) = false := beq_eq_false_iff_ne.mpr c4
  have c4b1 : (t102 != 0) = true := bne_iff_ne.mpr c4
  simp only [Option.some.injEq, Prod.mk.injEq] at H
  obtain ⟨rfl, rfl, rfl, rfl, rfl⟩ := H
  go_enter Tryd.func44, Tryd.ntmps44
  go_wp2_with (first | (go_at_call 45; (with_reducible refine (scan_Scan_Err.calls g s0_0 s0_1 s0_2 s0_3 t102 t103 t104 t105 t106 w0 _ ?side1 ?side2 A3.out).mono ?_); (case side1 => repeat (first | (with_reducible first | exact HI0.out | apply IsS95.alloc | apply IsS95.drewN | apply IsS95.drew | apply IsS95.set_0 | apply IsS95.set_1 | apply IsS95.set_2 | apply IsS95.set_3) | exact HI0.out)); (case side2 => repeat (first | (with_reducible first | exact HB.out | apply below_alloc | apply pw_below_drewN | apply below_drew1 | refine below_set ?_ (IsS95.ge HI0.out)) | exact HB.out)); rintro e w16 ⟨rfl, hi, hb, hk⟩; replace HK := Aside0.mk (KeepBut.trans (by repeat (first | (with_reducible first | exact HK.out | apply KeepBut.set_ | apply keep_drewN | apply keep_drew | apply keep_alloc) | exact HK.out)) hk (.inl rfl)); replace HB := Aside0.mk (hb); replace HI0 := Aside0.mk (hi); (try clear hb); (try clear hb2); (try clear hk); (try clear hi)))
  repeat (go_quiet (first | (go_at_call 45; (with_reducible refine (scan_Scan_Err.calls g s0_0 s0_1 s0_2 s0_3 t102 t103 t104 t105 t106 w0 _ ?side1 ?side2 A3.out).mono ?_); (case side1 => repeat (first | (with_reducible first | exact HI0.out | apply IsS95.alloc | apply IsS95.drewN | apply IsS95.drew | apply IsS95.set_0 | apply IsS95.set_1 | apply IsS95.set_2 | apply IsS95.set_3) | exact HI0.out)); (case side2 => repeat (first | (with_reducible first | exact HB.out | apply below_alloc | apply pw_below_drewN | apply below_drew1 | refine below_set ?_ (IsS95.ge HI0.out)) | exact HB.out)); rintro e w16 ⟨rfl, hi, hb, hk⟩; replace HK := Aside0.mk (KeepBut.trans (by repeat (first | (with_reducible first | exact HK.out | apply KeepBut.set_ | apply keep_drewN | apply keep_drew | apply keep_alloc) | exact HK.out)) hk (.inl rfl)); replace HB := Aside0.mk (hb); replace HI0 := Aside0.mk (hi); (try clear hb); (try clear hb2); (try clear hk); (try clear hi))); try go_wp2_with (first | (go_at_call 45; (with_reducible refine (scan_Scan_Err.calls g s0_0 s0_1 s0_2 s0_3 t102 t103 t104 t105 t106 w0 _ ?side1 ?side2 A3.out).mono ?_); (case side1 => repeat (first | (with_reducible first | exact HI0.out | apply IsS95.alloc | apply IsS95.drewN | apply IsS95.drew | apply IsS95.set_0 | apply IsS95.set_1 | apply IsS95.set_2 | apply IsS95.set_3) | exact HI0.out)); (case side2 => repeat (first | (with_reducible first | exact HB.out | apply below_alloc | apply pw_below_drewN | apply below_drew1 | refine below_set ?_ (IsS95.ge HI0.out)) | exact HB.out)); rintro e w16 ⟨rfl, hi, hb, hk⟩; replace HK := Aside0.mk (KeepBut.trans (by repeat (first | (with_reducible first | exact HK.out | apply KeepBut.set_ | apply keep_drewN | apply keep_drew | apply keep_alloc) | exact HK.out)) hk (.inl rfl)); replace HB := Aside0.mk (hb); replace HI0 := Aside0.mk (hi); (try clear hb); (try clear hb2); (try clear hk); (try clear hi))))
  go_ret
  exact ⟨M.eqe, by repeat (first | (with_reducible first | exact HI0.out | apply IsS95.alloc | apply IsS95.drewN | apply IsS95.drew | apply IsS95.set_0 | apply IsS95.set_1 | apply IsS95.set_2 | apply IsS95.set_3) | exact HI0.out), by repeat (first | (with_reducible first | exact HB.out | apply below_alloc | apply pw_below_drewN | apply below_drew1 | refine below_set ?_ (IsS95.ge HI0.out)) | exact HB.out), by repeat (first | (with_reducible first | exact HK.out | apply KeepBut.set_ | apply keep_drewN | apply keep_drew | apply keep_alloc) | exact HK.out)⟩
def scan_Scan_take.f (s0_0 : ByteArray) (s0_1 : Int) (s0_2 : Int) (s0_3 : Bool) (a1 : Int) : Option (ByteArray × ByteArray × Int × Int × Bool) :=
  if s0_3 = true then (if M.sok s0_0 s0_1 ∧ -9223372036854775808 ≤ a1 ∧ a1 ≤ 9223372036854775807 then some ((M.xfix s0_0 s0_1 s0_2 a1).1, s0_0, (M.xfix s0_0 s0_1 s0_2 a1).2.1, (M.xfix s0_0 s0_1 s0_2 a1).2.2, true) else none) else some (M.sb [], s0_0, s0_1, s0_2, s0_3)
theorem scan_Scan_take.ev (s : ByteArray) (p er : Int) (md : Bool) (n : Int) (r : ByteArray × ByteArray × Int × Int × Bool) (h : scan_Scan_take.f s p er md n = some r) : scan_Scan_take_p.f s p er md n = some r := by
 unfold scan_Scan_take.f at h
 unfold scan_Scan_take_p.f scan_Scan_Err.f
 cases md with
 | false => rw [if_neg (by simp)] at h ⊢; rw [Option.bind_some]; exact h
 | true =>
  rw [if_pos rfl] at h ⊢
  rw [Option.bind_some]
  split at h
  case isFalse => cases h
  case isTrue hh =>
   obtain ⟨hs, hn, hn'⟩ := hh
   rw [← h]
   unfold M.xfix
   by_cases he : er = 0
   ·subst he
    have hc := M.fix_code s hs hn hn'
    simp only [if_true] at hc ⊢
    generalize M.sfix s p n = q at hc ⊢
    revert hc
    (repeat' split) <;> intro hc <;> first | (cases hc; rfl) | (cases hc; done)
   ·simp only [if_neg he]; rfl
theorem scan_Scan_take.calls (g : Nat) (s0_0 : ByteArray) (s0_1 : Int) (s0_2 : Int) (s0_3 : Bool) (a1 : Int) (r1 : ByteArray) (r2 : ByteArray) (r3 : Int) (r4 : Int) (r5 : Bool) (w0 w : World) (hI : IsS95 w0 w g s0_0 s0_1 s0_2 s0_3) (hB : Below w0.heap.size w0 w) (h : scan_Scan_take.f s0_0 s0_1 s0_2 s0_3 a1 = some (r1, r2, r3, r4, r5)) :
    Calls Tryd.prog 44 #[.pointer (some ⟨g, 0, none⟩), .int .i64 a1] w fun e w' => e = .returned (.string r1) ∧ IsS95 w0 w' g r2 r3 r4 r5 ∧ Below w0.heap.size w0 w' ∧ KeepBut w w' g none := by
 exact scan_Scan_take_p.calls (w := w) (h := scan_Scan_take.ev _ _ _ _ _ _ h) (hI := hI) (hB := hB)
def scan_Scan_Byte_p.f (s0_0 : ByteArray) (s0_1 : Int) (s0_2 : Int) (s0_3 : Bool) : Option (Int × ByteArray × Int × Int × Bool) := (scan_Scan_take.f s0_0 s0_1 s0_2 s0_3 1).bind fun bt107 => (if bt107.1.toList = ([] : List UInt8) then (some (0, bt107.2.1, bt107.2.2.1, bt107.2.2.2.1, bt107.2.2.2.2)) else (if 0 < (bt107.1.size : Int) then (some (wrap64 (bt bt107.1 0), bt107.2.1, bt107.2.2.1, bt107.2.2.2.1, bt107.2.2.2.2)) else (none)))
set_option maxHeartbeats 8000000 in
set_option maxRecDepth 100000 in
theorem scan_Scan_Byte_p.calls (g : Nat) (s0_0 : ByteArray) (s0_1 : Int) (s0_2 : Int) (s0_3 : Bool) (r1 : Int) (r2 : ByteArray) (r3 : Int) (r4 : Int) (r5 : Bool) (w0 w : World) (hI : IsS95 w0 w g s0_0 s0_1 s0_2 s0_3) (hB : Below w0.heap.size w0 w) (h : scan_Scan_Byte_p.f s0_0 s0_1 s0_2 s0_3 = some (r1, r2, r3, r4, r5)) :
    Calls Tryd.prog 24 #[.pointer (some ⟨g, 0, none⟩)] w fun e w' => e = .returned (.int .i64 r1) ∧ IsS95 w0 w' g r2 r3 r4 r5 ∧ Below w0.heap.size w0 w' ∧ KeepBut w w' g none := by
 have HI0 := Aside0.mk hI
 have HK := Aside0.mk (KeepBut.refl w g none)
 have HL := Aside0.mk hB.size
 clear hI
 have HW0 := Aside0.mk hB.size
 have HB := Aside0.mk hB
 clear hB
 have H : ((scan_Scan_take.f s0_0 s0_1 s0_2 s0_3 1).bind fun bt107 => (if bt107.1.toList = ([] : List UInt8) then (some (0, bt107.2.1, bt107.2.2.1, bt107.2.2.2.1, bt107.2.2.2.2)) else (if 0 < (bt107.1.size : Int) then (some (wrap64 (bt bt107.1 0), bt107.2.1, bt107.2.2.1, bt107.2.2.2.1, bt107.2.2.2.2)) else (none)))) = some (r1, r2, r3, r4, r5) := h
 clear h
 replace H := Option.bind_eq_some_iff.mp H
 obtain ⟨⟨t107, t108, t109, t110, t111⟩, A20, H⟩ := H
 replace H : (if t107.toList = ([] : List UInt8) then (some (0, t108, t109, t110, t111)) else (if 0 < (t107.size : Int) then (some (wrap64 (bt t107 0), t108, t109, t110, t111)) else (none))) = some (r1, r2, r3, r4, r5) := H
 have A2 := Aside0.mk A20
 clear A20
 by_cases c3 : t107.toList = ([] : List UInt8)
 ·rw [if_pos c3] at H
  have c3b0 : (t107.toList == ([] : List UInt8)) = true := beq_iff_eq.mpr c3
  have c3b1 : (t107.toList != ([] : List UInt8)) = false := bne_eq_false_iff_eq.mpr c3
  clear c3
  simp only [Option.some.injEq, Prod.mk.injEq] at H
  obtain ⟨rfl, rfl, rfl, rfl, rfl⟩ := H
  go_enter Tryd.func24, Tryd.ntmps24
  go_wp2_with (first | ((with_reducible refine gate_callee (f := 44) rfl ?_); refine M.goes (some 5) Tryd.func44 #[.pointer (some ⟨g, 0, none⟩), .int .i64 1] rfl ?_; (with_reducible refine (scan_Scan_take.calls g s0_0 s0_1 s0_2 s0_3 1 t107 t108 t109 t110 t111 w0 _ ?side1 ?side2 A2.out).mono ?_); (case side1 => repeat (first | (with_reducible first | exact HI0.out | apply IsS95.alloc | apply IsS95.drewN | apply IsS95.drew | apply IsS95.set_0 | apply IsS95.set_1 | apply IsS95.set_2 | apply IsS95.set_3) | exact HI0.out)); (case side2 => repeat (first | (with_reducible first | exact HB.out | apply below_alloc | apply pw_below_drewN | apply below_drew1 | refine below_set ?_ (IsS95.ge HI0.out)) | exact HB.out)); rintro e w4 ⟨rfl, hi, hb, hk⟩; refine ⟨_, rfl, ?_⟩; replace HK := Aside0.mk (KeepBut.trans (by repeat (first | (with_reducible first | exact HK.out | apply KeepBut.set_ | apply keep_drewN | apply keep_drew | apply keep_alloc) | exact HK.out)) hk (.inl rfl)); replace HB := Aside0.mk (hb); replace HI0 := Aside0.mk (hi); (try clear hb); (try clear hk); (try clear hi)))
  go_ret
  exact ⟨M.eqe, by repeat (first | (with_reducible first | exact HI0.out | apply IsS95.alloc | apply IsS95.drewN | apply IsS95.drew | apply IsS95.set_0 | apply IsS95.set_1 | apply IsS95.set_2 | apply IsS95.set_3) | exact HI0.out), by repeat (first | (with_reducible first | exact HB.out | apply below_alloc | apply pw_below_drewN | apply below_drew1 | refine below_set ?_ (IsS95.ge HI0.out)) | exact HB.out), by repeat (first | (with_reducible first | exact HK.out | apply KeepBut.set_ | apply keep_drewN | apply keep_drew | apply keep_alloc) | exact HK.out)⟩
 ·rw [if_neg c3] at H
  have c3b0 : (t107.toList == ([] : List UInt8)) = false := beq_eq_false_iff_ne.mpr c3
  have c3b1 : (t107.toList != ([] : List UInt8)) = true := bne_iff_ne.mpr c3
  by_cases c5 : 0 < (t107.size : Int)
  ·rw [if_pos c5] at H
   have c5b0 := decide_eq_true c5
   have c5b1 : decide (0 < t107.size) = true := decide_eq_true (by omega)
   clear c5
   simp only [Option.some.injEq, Prod.mk.injEq] at H
   obtain ⟨rfl, rfl, rfl, rfl, rfl⟩ := H
   go_enter Tryd.func24, Tryd.ntmps24
   go_wp2_with (first | ((with_reducible refine gate_callee (f := 44) rfl ?_); refine M.goes (some 5) Tryd.func44 #[.pointer (some ⟨g, 0, none⟩), .int .i64 1] rfl ?_; (with_reducible refine (scan_Scan_take.calls g s0_0 s0_1 s0_2 s0_3 1 t107 t108 t109 t110 t111 w0 _ ?side1 ?side2 A2.out).mono ?_); (case side1 => repeat (first | (with_reducible first | exact HI0.out | apply IsS95.alloc | apply IsS95.drewN | apply IsS95.drew | apply IsS95.set_0 | apply IsS95.set_1 | apply IsS95.set_2 | apply IsS95.set_3) | exact HI0.out)); (case side2 => repeat (first | (with_reducible first | exact HB.out | apply below_alloc | apply pw_below_drewN | apply below_drew1 | refine below_set ?_ (IsS95.ge HI0.out)) | exact HB.out)); rintro e w7 ⟨rfl, hi, hb, hk⟩; refine ⟨_, rfl, ?_⟩; replace HK := Aside0.mk (KeepBut.trans (by repeat (first | (with_reducible first | exact HK.out | apply KeepBut.set_ | apply keep_drewN | apply keep_drew | apply keep_alloc) | exact HK.out)) hk (.inl rfl)); replace HB := Aside0.mk (hb); replace HI0 := Aside0.mk (hi); (try clear hb); (try clear hk); (try clear hi); have p6 : 0 ≤ (0 : Int) := (by omega); have q6 : 0 < t107.size := (by have : (0 : Int) < (t107.size : Int) := M.dt; omega); have hx6 : ∀ h : 0 < t107.size, ((t107[0]'h).toNat : Int) = bt t107 0 := bt_at t107 0; clear p6; have qi6 : (0 < (t107.size : Int)) = True := eq_true (M.dt); replace q6 := eq_true q6))
   go_ret
   exact ⟨M.eqe, by repeat (first | (with_reducible first | exact HI0.out | apply IsS95.alloc | apply IsS95.drewN | apply IsS95.drew | apply IsS95.set_0 | apply IsS95.set_1 | apply IsS95.set_2 | apply IsS95.set_3) | exact HI0.out), by repeat (first | (with_reducible first | exact HB.out | apply below_alloc | apply pw_below_drewN | apply below_drew1 | refine below_set ?_ (IsS95.ge HI0.out)) | exact HB.out), by repeat (first | (with_reducible first | exact HK.out | apply KeepBut.set_ | apply keep_drewN | apply keep_drew | apply keep_alloc) | exact HK.out)⟩
  ·exact M.nf c5 H
def scan_Scan_Byte.f (s0_0 : ByteArray) (s0_1 : Int) (s0_2 : Int) (s0_3 : Bool) : Option (Int × ByteArray × Int × Int × Bool) :=
  if s0_3 = true then (if M.sok s0_0 s0_1 then some ((M.xbyte s0_0 s0_1 s0_2).1, s0_0, (M.xbyte s0_0 s0_1 s0_2).2.1, (M.xbyte s0_0 s0_1 s0_2).2.2, true) else none) else some (0, s0_0, s0_1, s0_2, s0_3)
theorem scan_Scan_Byte.ev (s : ByteArray) (p er : Int) (md : Bool) (r : Int × ByteArray × Int × Int × Bool) (h : scan_Scan_Byte.f s p er md = some r) : scan_Scan_Byte_p.f s p er md = some r := by
 unfold scan_Scan_Byte.f at h
 have hnil : (M.sb []).toList = ([] : List UInt8) := by rw [M.toList_bs]; rfl
 unfold scan_Scan_Byte_p.f scan_Scan_take.f
 cases md with
 | false =>
  rw [if_neg (by simp)] at h ⊢
  rw [Option.bind_some]
  simp only
  rw [if_pos hnil]; exact h
 | true =>
  rw [if_pos rfl] at h ⊢
  split at h
  case isFalse => cases h
  case isTrue hs =>
   rw [if_pos ⟨hs, by decide, by decide⟩, Option.bind_some, ← h]
   have hb := M.byte_of s hs
   unfold M.xfix M.xbyte
   by_cases he : er = 0
   ·simp only [if_pos he]
    by_cases hp : p < s.size
    ·obtain ⟨e1, e2, e3⟩ := hb hp
     unfold M.sfix
     have c2 : ¬ ((1 : Int) < 0 ∨ (s.size : Int) - p < 1) := by omega
     rw [if_neg c2, if_pos hp]
     simp only
     rw [if_neg e1, if_pos e2, e3]
    ·unfold M.sfix
     have c2 : (1 : Int) < 0 ∨ (s.size : Int) - p < 1 := by omega
     rw [if_pos c2, if_neg hp]
     simp only
     rw [if_pos hnil]
   ·simp only [if_neg he]
    rw [if_pos hnil]
theorem scan_Scan_Byte.calls (g : Nat) (s0_0 : ByteArray) (s0_1 : Int) (s0_2 : Int) (s0_3 : Bool) (r1 : Int) (r2 : ByteArray) (r3 : Int) (r4 : Int) (r5 : Bool) (w0 w : World) (hI : IsS95 w0 w g s0_0 s0_1 s0_2 s0_3) (hB : Below w0.heap.size w0 w) (h : scan_Scan_Byte.f s0_0 s0_1 s0_2 s0_3 = some (r1, r2, r3, r4, r5)) :
    Calls Tryd.prog 24 #[.pointer (some ⟨g, 0, none⟩)] w fun e w' => e = .returned (.int .i64 r1) ∧ IsS95 w0 w' g r2 r3 r4 r5 ∧ Below w0.heap.size w0 w' ∧ KeepBut w w' g none := by
 exact scan_Scan_Byte_p.calls (w := w) (h := scan_Scan_Byte.ev _ _ _ _ _ h) (hI := hI) (hB := hB)
end Go.Proofs.YtkjbhgolillidaaDoor.EMarkNames
