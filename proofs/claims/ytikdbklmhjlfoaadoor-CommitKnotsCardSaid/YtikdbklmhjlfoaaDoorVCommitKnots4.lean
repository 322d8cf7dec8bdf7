-- Laid by this session's own program (wip/tools/fold.py): this session's texts, cut to what the claim names and put together; Lean checks it.
import Derived.Test.YtikdbklmhjlfoaaDoorVCommitKnots1
import Derived.Test.YtikdbklmhjlfoaaDoorVCommitKnots3
import Derived.Test.YtikdbklmhjlfoaaDoorXCommitKnots1
namespace Go.Proofs.YtikdbklmhjlfoaaDoor.ECommitKnots
open Go.RowKit Go.Proofs.YtikdbklmhjlfoaaDoorW.PrintWords Go.Proofs.YtikdbklmhjlfoaaDoorW.PrintLast Go.Proofs.YtikdbklmhjlfoaaDoorW.PrintMore
attribute [local go_sem] M.run_leq M.run_gtr M.run_geq max2_int min2_int max_two min_two max_three min_three max_four min_four
set_option linter.unusedVariables false
set_option linter.unusedSimpArgs false
theorem sha_turned.i82 : (Tryd.prog.info? 121).map (·.size) = some 8 := by kernel_rfl
theorem sha_turned.i90 : (Tryd.prog.info? 129).map (·.size) = some 64 := by kernel_rfl
theorem sha_turned.flip {x : Nat} (h : x < 4294967296) : 4294967295 ^^^ x = 4294967295 - x := by
 apply Nat.eq_of_testBit_eq
 intro i
 rw [Nat.testBit_xor, show 4294967295 = 2 ^ 32 - 1 from rfl, Nat.testBit_two_pow_sub_one, show 2 ^ 32 - 1 - x = 2 ^ 32 - (x + 1) from by omega, Nat.testBit_two_pow_sub_succ (by omega)]
 by_cases hi : i < 32
 ·simp [hi]
 ·have : x.testBit i = false := Nat.testBit_lt_two_pow (Nat.lt_of_lt_of_le h (by rw [show 4294967296 = 2 ^ 32 from rfl]; exact Nat.pow_le_pow_right (by decide) (by omega)))
  simp [hi, this]
theorem sha_turned.len8 (s W : List Nat) (hs : s.length = 8) : ∀ n, (M.rnds s W n).length = 8
  | 0 => hs
  | n + 1 => rfl
theorem sha_turned.lt8 (s W : List Nat) (hl : ∀ x ∈ s, x < 4294967296) (hs : s.length = 8) : ∀ n, ∀ x ∈ M.rnds s W n, x < 4294967296
  | 0 => hl
  | n + 1 => by
    have ih := sha_turned.lt8 s W hl hs n
    have g : ∀ j, (M.rnds s W n).getD j 0 < 4294967296 := fun j => by
      rw [List.getD_eq_getElem?_getD]
      cases h : (M.rnds s W n)[j]? with
      | none => decide
      | some y => exact ih y (List.mem_of_getElem? h)
    intro x hx
    rw [M.rnds, M.rnd] at hx
    simp only [List.mem_cons, List.not_mem_nil, or_false] at hx
    rcases hx with h | h | h | h | h | h | h | h <;> rw [h] <;> first | exact g _ | exact Nat.mod_lt _ (by decide)
theorem sha_turned.eight : ∀ (l : List Nat), l.length = 8 → ∃ x0 x1 x2 x3 x4 x5 x6 x7, l = [x0, x1, x2, x3, x4, x5, x6, x7]
  | [x0, x1, x2, x3, x4, x5, x6, x7], _ => ⟨_, _, _, _, _, _, _, _, rfl⟩
theorem sha_turned.q {P : Program} {f : FuncId} {args : Array Value} {w : World} {n : Nat} {v : Value} (h : Calls P f args (w.drewN n) fun e w' => e = .returned v ∧ Drawn0 (w.drewN n) w') : Calls P f args (w.drewN n) fun e w'' => e = .returned v ∧ ∃ m, w'' = w.drewN m :=
  h.mono fun _ _ ⟨he, ⟨⟨m, hm⟩⟩⟩ => ⟨he, n + m, by rw [hm, World.drewN_drewN]⟩
def sha_turned.mem (r s : List Nat) (i : Nat) : List Nat := (List.range 8).map fun j => if j < i then (r.getD j 0 + s.getD j 0) % 4294967296 else r.getD j 0
theorem sha_turned.mem_len (r s : List Nat) (i : Nat) : (M.nums32 (sha_turned.mem r s i)).length = 8 := by simp [M.nums32, sha_turned.mem]
theorem sha_turned.nget (l : List Nat) (j : Nat) : (M.nums32 l).getD j 0 = ((l.getD j 0 : Nat) : Int) := by
 unfold M.nums32
 rw [List.getD_eq_getElem?_getD, List.getD_eq_getElem?_getD, List.getElem?_map]
 cases l[j]? <;> rfl
theorem sha_turned.mem_get (r s : List Nat) (j : Nat) (h : j < 8) : (M.nums32 (sha_turned.mem r s j)).getD j 0 = ((r.getD j 0 : Nat) : Int) := by
 rw [sha_turned.nget]
 unfold sha_turned.mem
 rw [List.getD_eq_getElem?_getD, List.getElem?_map, List.getElem?_range h]
 show (((if j < j then _ else _ : Nat)) : Int) = _
 rw [if_neg (Nat.lt_irrefl _)]
theorem sha_turned.mem_set (r s : List Nat) (j : Nat) (h : j < 8) : (M.nums32 (sha_turned.mem r s j)).set j ((((r.getD j 0 + s.getD j 0) % 4294967296 : Nat)) : Int) = M.nums32 (sha_turned.mem r s (j + 1)) := by
 apply List.ext_getElem
 ·rw [List.length_set, sha_turned.mem_len, sha_turned.mem_len]
 ·intro k h1 h2
  rw [List.getElem_set]
  simp only [M.nums32, sha_turned.mem, List.getElem_map, List.getElem_range]
  by_cases e : j = k
  ·subst e
   rw [if_pos rfl, if_pos (Nat.lt_succ_self _)]
  ·rw [if_neg e]
   by_cases hk : k < j
   ·rw [if_pos hk, if_pos (by omega)]
   ·rw [if_neg hk, if_neg (by omega)]
theorem sha_turned.mem_zero (r s : List Nat) (h : r.length = 8) : sha_turned.mem r s 0 = r := by
 obtain ⟨x0, x1, x2, x3, x4, x5, x6, x7, rfl⟩ := sha_turned.eight r h
 rfl
theorem sha_turned.mem_all (s : List Nat) (bl : List UInt8) : sha_turned.mem (M.rnds s (M.sched bl 64) 64) s 8 = M.turned s bl := by
 unfold sha_turned.mem M.turned
 refine List.map_congr_left fun j hj => ?_
 rw [if_pos (List.mem_range.1 hj)]
set_option maxHeartbeats 8000000 in
set_option maxRecDepth 100000 in
theorem sha_turned.calls (ad : Addr) (c0 : Nat) (s : List Nat) (bl : List UInt8) (w : World) (hs : s.length = 8) (hlt : ∀ x ∈ s, x < 4294967296) (hb : bl.length = 64) (hr0 : Kd.C (Kd.int .u8) w (some ad) 64 (bl.map fun x => (x.toNat : Int))) (hc0 : 64 ≤ c0)
    (hK : ∀ i : Nat, i < 64 → w.cell? ⟨1, i, none⟩ = some (.int .u32 ((M.shaK.getD i 0 : Nat) : Int))) :
    Calls Tryd.prog 75 #[.agg (nums .u32 (M.nums32 s)).toArray, .slice (some ad) 64 c0] w fun e w' => e = .returned (.agg (nums .u32 (M.nums32 (M.turned s bl))).toArray) ∧ Below w.heap.size w w' := by
 have HR := Aside0.mk hr0
 have HL := Aside0.mk hb
 have HS := Aside0.mk hs
 have HLT := Aside0.mk hlt
 have HK := Aside0.mk hK
 have HB := Aside0.mk (Below.refl w.heap.size w)
 have HC := Aside0.mk hc0
 have HN := Aside0.mk (show (M.nums32 (M.sched bl 64)).length = (List.replicate 64 (0 : Int)).length from by unfold M.nums32; rw [List.length_map, M.sched_len, List.length_replicate])
 clear hr0 hb hs hlt hK hc0
 go_enter Tryd.func75, Tryd.ntmps75
 have H8 := Aside0.mk (show (M.nums32 s).length = 8 from by unfold M.nums32; rw [List.length_map]; exact HS.out)
 go_wp2_with (first | ((with_reducible refine gate_dst (N := 2) rfl ?_); refine M.bx 2 121 ((nums .u32 (M.nums32 s)).toArray) ?_; intro gb hg w2 hbox hb; subst hg; have HA2 := Aside0.mk (show M.arr w2 w.heap.size 121 .u32 (M.nums32 s) from hbox); have n1_ := Aside0.mk (below_step HB.out hb); clear HB; have HB := n1_; clear n1_ hb hbox; have L1 := Aside0.mk (M.arr_lt HA2.out)) | (go_at_call 80; (with_reducible refine (sha_spread.calls ad c0 bl _ HL.out ?hr ?hc).mono ?_); (case hr => exact Kd.C_alloc (Kd.C_below HR.out HB.out) _); (case hc => exact HC.out); rintro e w3 ⟨rfl, hb3⟩; have HA3 := Aside0.mk (M.arr_below (M.arr_alloc HA2.out _) hb3); have HZ3 := Aside0.mk (M.arr_below (M.arr_new w2 121 .u32 (List.replicate 8 0)) hb3); have HB3 := Aside0.mk (below_step (below_alloc HB.out _) hb3); clear hb3; have L2 := Aside0.mk (M.arr_lt HZ3.out); clear HB HA2) | ((with_reducible refine gate_store (t := 129) (p := 5) (v := .tmp 14) rfl ?_); refine M.wp_arr_store rfl 129 _ _ rfl w3.heap.size 129 .u32 (List.replicate 64 0) (M.nums32 (M.sched bl 64)) rfl rfl (M.arr_new w3 129 .u32 (List.replicate 64 0)) HN.out sha_turned.i90 ?_; intro w4 hA4 hF4 hB4 hz4; have HW4 := Aside0.mk hA4; have HA4 := Aside0.mk (show M.arr w4 w.heap.size 121 .u32 (M.nums32 s) from (hF4 _ (by have := L1.out; have := L2.out; omega)).trans (M.arr_alloc HA3.out _)); have HZ4 := Aside0.mk (show M.arr w4 w2.heap.size 121 .u32 (List.replicate 8 0) from (hF4 _ (by have := L2.out; omega)).trans (M.arr_alloc HZ3.out _)); have HB4 := Aside0.mk (hB4 _ _ (by have := L1.out; have := L2.out; omega) (below_alloc HB3.out _)); clear hA4 hF4 hB4 hz4 HB3 HA3 HZ3; have L3 := Aside0.mk (M.arr_lt HW4.out)) | ((with_reducible refine gate_dst (N := 15) rfl ?_); refine M.wp_arr_load rfl 121 _ rfl w.heap.size 121 .u32 (M.nums32 s) rfl HA4.out _ Tryd.underlying121 rfl (by rw [H8.out]; exact sha_turned.i82) ?_) | ((with_reducible refine gate_store (t := 121) (p := 6) (v := .tmp 15) rfl ?_); refine M.wp_arr_store rfl 121 _ _ rfl w4.heap.size 121 .u32 (List.replicate 8 0) (M.nums32 s) rfl rfl (M.arr_new w4 121 .u32 (List.replicate 8 0)) H8.out sha_turned.i82 ?_; intro w5 hA5 hF5 hB5 hz5; have HS5 := Aside0.mk hA5; have HA5 := Aside0.mk (show M.arr w5 w.heap.size 121 .u32 (M.nums32 s) from (hF5 _ (by have := L1.out; have := L2.out; have := L3.out; omega)).trans (M.arr_alloc HA4.out _)); have HZ5 := Aside0.mk (show M.arr w5 w2.heap.size 121 .u32 (List.replicate 8 0) from (hF5 _ (by have := L2.out; have := L3.out; omega)).trans (M.arr_alloc HZ4.out _)); have HW5 := Aside0.mk (show M.arr w5 w3.heap.size 129 .u32 (M.nums32 (M.sched bl 64)) from (hF5 _ (by have := L3.out; omega)).trans (M.arr_alloc HW4.out _)); have HB5 := Aside0.mk (hB5 _ _ (by have := L1.out; have := L2.out; have := L3.out; omega) (below_alloc HB4.out _)); clear hA5 hF5 hB5 hz5 HB4 HA4 HZ4 HW4))
 have hg2 : ∃ g, g = w2.heap.size := ⟨_, rfl⟩
 have hg3 : ∃ g, g = w3.heap.size := ⟨_, rfl⟩
 have hg4 : ∃ g, g = w4.heap.size := ⟨_, rfl⟩
 obtain ⟨g2, hg2⟩ := hg2
 obtain ⟨g3, hg3⟩ := hg3
 obtain ⟨g4, hg4⟩ := hg4
 rw [← hg2, ← hg3, ← hg4]
 rw [← hg2] at HZ5 L1 L2
 rw [← hg3] at HW5 L2 L3
 rw [← hg4] at HS5 L3
 clear hg2 hg3 hg4
 go_loopw [16] (fun v16 wr => ∃ i : Nat, v16 = .int .i64 (i : Int) ∧ i ≤ 64 ∧ Aside0 (M.arr wr w.heap.size 121 .u32 (M.nums32 s)) ∧ Aside0 (M.arr wr g2 121 .u32 (List.replicate 8 0)) ∧ Aside0 (M.arr wr g3 129 .u32 (M.nums32 (M.sched bl 64))) ∧ Aside0 (M.arr wr g4 121 .u32 (M.nums32 (M.rnds s (M.sched bl 64) i))) ∧ Aside0 (Below w.heap.size w wr)) (fun v16 _ => 64 - (intOf v16).toNat)
 case atStart => exact ⟨0, rfl, Nat.zero_le _, HA5, HZ5, HW5, HS5, HB5⟩
 case round =>
  clear HA5 HZ5 HW5 HS5 HB5
  obtain ⟨i, rfl, hi, HA, HZ, HW, HSt, HB⟩ := hrel
  by_cases hlt : i < 64
  ·obtain ⟨x0, x1, x2, x3, x4, x5, x6, x7, hx⟩ := sha_turned.eight (M.rnds s (M.sched bl 64) i) (sha_turned.len8 s _ HS.out i)
   have hb8 := sha_turned.lt8 s (M.sched bl 64) HLT.out HS.out i
   have HN1 := Aside0.mk (show M.rnds s (M.sched bl 64) (i + 1) = M.rnd [x0, x1, x2, x3, x4, x5, x6, x7] (M.shaK.getD i 0) ((M.sched bl 64).getD i 0) from by rw [M.rnds, hx])
   rw [hx] at HSt hb8
   have b0 : x0 < 4294967296 := hb8 _ (by simp)
   have b1 : x1 < 4294967296 := hb8 _ (by simp)
   have b2 : x2 < 4294967296 := hb8 _ (by simp)
   have b3 : x3 < 4294967296 := hb8 _ (by simp)
   have b4 : x4 < 4294967296 := hb8 _ (by simp)
   have b5 : x5 < 4294967296 := hb8 _ (by simp)
   have b6 : x6 < 4294967296 := hb8 _ (by simp)
   have b7 : x7 < 4294967296 := hb8 _ (by simp)
   clear hx hb8
   have HS8 := Aside0.mk (show ∀ j, j < 8 → wr.cell? ⟨g4, j, none⟩ = some (.int .u32 ((M.nums32 [x0, x1, x2, x3, x4, x5, x6, x7]).getD j 0)) from fun j hj => M.arr_cell HSt.out j hj)
   have c0_ := HS8.out 0 (by omega)
   have c1_ := HS8.out 1 (by omega)
   have c2_ := HS8.out 2 (by omega)
   have c3_ := HS8.out 3 (by omega)
   have c4_ := HS8.out 4 (by omega)
   have c5_ := HS8.out 5 (by omega)
   have c6_ := HS8.out 6 (by omega)
   have c7_ := HS8.out 7 (by omega)
   simp only [M.nums32, List.map_cons, List.map_nil, List.getD_cons_zero, List.getD_cons_succ] at c0_ c1_ c2_ c3_ c4_ c5_ c6_ c7_
   have cw := M.arr_cell HW.out i (by unfold M.nums32; rw [List.length_map, M.sched_len]; exact hlt)
   have ck := (HB.out.cell (World.block_lt_of_cell? w _ (HK.out i hlt))).trans (HK.out i hlt)
   rw [show (M.nums32 (M.sched bl 64)).getD i 0 = (((M.sched bl 64).getD i 0 : Nat) : Int) from by
    unfold M.nums32
    simp only [List.getD_eq_getElem?_getD, List.getElem?_map, List.getElem?_eq_getElem (show i < (M.sched bl 64).length by rw [M.sched_len]; exact hlt)]
    rfl] at cw
   generalize (M.sched bl 64).getD i 0 = wd at cw HN1
   generalize M.shaK.getD i 0 = kk at ck HN1
   have g0 : (0 : Int) ≤ (i : Int) := by omega
   have g1 : (i : Int) < 64 := by omega
   have H1 : Aside0 (bits_RotateLeft32.f (x4 : Int) (-6) = some ((M.rotr x4 6 : Nat) : Int)) := ⟨by unfold bits_RotateLeft32.f; rw [if_pos (by omega)]; rfl⟩
   have H2 : Aside0 (bits_RotateLeft32.f (x4 : Int) (-11) = some ((M.rotr x4 11 : Nat) : Int)) := ⟨by unfold bits_RotateLeft32.f; rw [if_pos (by omega)]; rfl⟩
   have H3 : Aside0 (bits_RotateLeft32.f (x4 : Int) (-25) = some ((M.rotr x4 25 : Nat) : Int)) := ⟨by unfold bits_RotateLeft32.f; rw [if_pos (by omega)]; rfl⟩
   have H4 : Aside0 (bits_RotateLeft32.f (x0 : Int) (-2) = some ((M.rotr x0 2 : Nat) : Int)) := ⟨by unfold bits_RotateLeft32.f; rw [if_pos (by omega)]; rfl⟩
   have H5 : Aside0 (bits_RotateLeft32.f (x0 : Int) (-13) = some ((M.rotr x0 13 : Nat) : Int)) := ⟨by unfold bits_RotateLeft32.f; rw [if_pos (by omega)]; rfl⟩
   have H6 : Aside0 (bits_RotateLeft32.f (x0 : Int) (-22) = some ((M.rotr x0 22 : Nat) : Int)) := ⟨by unfold bits_RotateLeft32.f; rw [if_pos (by omega)]; rfl⟩
   have r1 := M.rotr_lt (n := 6) b4
   have r2 := M.rotr_lt (n := 11) b4
   have r3 := M.rotr_lt (n := 25) b4
   have r4 := M.rotr_lt (n := 2) b0
   have r5 := M.rotr_lt (n := 13) b0
   have r6 := M.rotr_lt (n := 22) b0
   have HG1 := Aside0.mk (show M.bg1 x4 = M.rotr x4 6 ^^^ M.rotr x4 11 ^^^ M.rotr x4 25 from rfl)
   have HG0 := Aside0.mk (show M.bg0 x0 = M.rotr x0 2 ^^^ M.rotr x0 13 ^^^ M.rotr x0 22 from rfl)
   generalize M.rotr x4 6 = p1 at r1 H1 HG1
   generalize M.rotr x4 11 = p2 at r2 H2 HG1
   generalize M.rotr x4 25 = p3 at r3 H3 HG1
   generalize M.rotr x0 2 = p4 at r4 H4 HG0
   generalize M.rotr x0 13 = p5 at r5 H5 HG0
   generalize M.rotr x0 22 = p6 at r6 H6 HG0
   have e1 : Go.bits .xor .u32 (Go.bits .xor .u32 (p1 : Int) (p2 : Int)) (p3 : Int) = (M.bg1 x4 : Int) := by
    rw [M.xor32 r1 r2, M.xor32 (M.xor_lt r1 r2) r3, HG1.out]
   have e2 : Go.bits .xor .u32 (Go.bits .xor .u32 (p4 : Int) (p5 : Int)) (p6 : Int) = (M.bg0 x0 : Int) := by
    rw [M.xor32 r4 r5, M.xor32 (M.xor_lt r4 r5) r6, HG0.out]
   have e3 : Go.bits .xor .u32 IntKind.u32.max (x4 : Int) = ((4294967295 - x4 : Nat) : Int) := by
    have := M.xor32 (a := 4294967295) (by decide) b4
    rw [sha_turned.flip b4] at this
    exact this
   have e4 : Go.bits .xor .u32 (Go.bits .and .u32 (x4 : Int) (x5 : Int)) (Go.bits .and .u32 ((4294967295 - x4 : Nat) : Int) (x6 : Int)) = (M.ch x4 x5 x6 : Int) := by
    rw [M.and32 b4 b5, M.and32 (by omega) b6, M.xor32 (M.and_lt b4) (M.and_lt (by omega))]; rfl
   have e5 : Go.bits .xor .u32 (Go.bits .xor .u32 (Go.bits .and .u32 (x0 : Int) (x1 : Int)) (Go.bits .and .u32 (x0 : Int) (x2 : Int))) (Go.bits .and .u32 (x1 : Int) (x2 : Int)) = (M.maj x0 x1 x2 : Int) := by
    rw [M.and32 b0 b1, M.and32 b0 b2, M.and32 b1 b2, M.xor32 (M.and_lt b0) (M.and_lt b0), M.xor32 (M.xor_lt (M.and_lt b0) (M.and_lt b0)) (M.and_lt b1)]; rfl
   clear r1 r2 r3 r4 r5 r6 HG1 HG0 hi
   go_wp2
   go_quiet ((first | (go_at_call 81; with_reducible exact sha_turned.q (bits_RotateLeft32.calls (x4 : Int) (-6) _ _ H1.out)) | (go_at_call 81; with_reducible exact sha_turned.q (bits_RotateLeft32.calls (x4 : Int) (-11) _ _ H2.out)) | (go_at_call 81; with_reducible exact sha_turned.q (bits_RotateLeft32.calls (x4 : Int) (-25) _ _ H3.out))))
   clear HS8
   replace c0_ : (wr.drewN nq).cell? ⟨g4, 0, none⟩ = some (.int .u32 (x0 : Int)) := c0_
   replace c1_ : (wr.drewN nq).cell? ⟨g4, 1, none⟩ = some (.int .u32 (x1 : Int)) := c1_
   replace c2_ : (wr.drewN nq).cell? ⟨g4, 2, none⟩ = some (.int .u32 (x2 : Int)) := c2_
   replace c3_ : (wr.drewN nq).cell? ⟨g4, 3, none⟩ = some (.int .u32 (x3 : Int)) := c3_
   replace c4_ : (wr.drewN nq).cell? ⟨g4, 4, none⟩ = some (.int .u32 (x4 : Int)) := c4_
   replace c5_ : (wr.drewN nq).cell? ⟨g4, 5, none⟩ = some (.int .u32 (x5 : Int)) := c5_
   replace c6_ : (wr.drewN nq).cell? ⟨g4, 6, none⟩ = some (.int .u32 (x6 : Int)) := c6_
   replace c7_ : (wr.drewN nq).cell? ⟨g4, 7, none⟩ = some (.int .u32 (x7 : Int)) := c7_
   replace cw : (wr.drewN nq).cell? ⟨g3, i, none⟩ = some (.int .u32 (wd : Int)) := cw
   replace ck : (wr.drewN nq).cell? ⟨1, i, none⟩ = some (.int .u32 (kk : Int)) := ck
   replace HA : Aside0 (M.arr (wr.drewN nq) w.heap.size 121 .u32 (M.nums32 s)) := ⟨M.arr_drewN HA.out _⟩
   replace HZ : Aside0 (M.arr (wr.drewN nq) g2 121 .u32 (List.replicate 8 0)) := ⟨M.arr_drewN HZ.out _⟩
   replace HW : Aside0 (M.arr (wr.drewN nq) g3 129 .u32 (M.nums32 (M.sched bl 64))) := ⟨M.arr_drewN HW.out _⟩
   replace HSt : Aside0 (M.arr (wr.drewN nq) g4 121 .u32 (M.nums32 [x0, x1, x2, x3, x4, x5, x6, x7])) := ⟨M.arr_drewN HSt.out _⟩
   replace HB : Aside0 (Below w.heap.size w (wr.drewN nq)) := ⟨pw_below_drewN HB.out _⟩
   generalize wr.drewN nq = wr at HA HZ HW HSt HB c0_ c1_ c2_ c3_ c4_ c5_ c6_ c7_ cw ck ⊢
   go_wp2
   go_quiet (fail)
   replace c0_ : (wr.drewN nq).cell? ⟨g4, 0, none⟩ = some (.int .u32 (x0 : Int)) := c0_
   replace c1_ : (wr.drewN nq).cell? ⟨g4, 1, none⟩ = some (.int .u32 (x1 : Int)) := c1_
   replace c2_ : (wr.drewN nq).cell? ⟨g4, 2, none⟩ = some (.int .u32 (x2 : Int)) := c2_
   replace c3_ : (wr.drewN nq).cell? ⟨g4, 3, none⟩ = some (.int .u32 (x3 : Int)) := c3_
   replace c4_ : (wr.drewN nq).cell? ⟨g4, 4, none⟩ = some (.int .u32 (x4 : Int)) := c4_
   replace c5_ : (wr.drewN nq).cell? ⟨g4, 5, none⟩ = some (.int .u32 (x5 : Int)) := c5_
   replace c6_ : (wr.drewN nq).cell? ⟨g4, 6, none⟩ = some (.int .u32 (x6 : Int)) := c6_
   replace c7_ : (wr.drewN nq).cell? ⟨g4, 7, none⟩ = some (.int .u32 (x7 : Int)) := c7_
   replace cw : (wr.drewN nq).cell? ⟨g3, i, none⟩ = some (.int .u32 (wd : Int)) := cw
   replace ck : (wr.drewN nq).cell? ⟨1, i, none⟩ = some (.int .u32 (kk : Int)) := ck
   replace HA : Aside0 (M.arr (wr.drewN nq) w.heap.size 121 .u32 (M.nums32 s)) := ⟨M.arr_drewN HA.out _⟩
   replace HZ : Aside0 (M.arr (wr.drewN nq) g2 121 .u32 (List.replicate 8 0)) := ⟨M.arr_drewN HZ.out _⟩
   replace HW : Aside0 (M.arr (wr.drewN nq) g3 129 .u32 (M.nums32 (M.sched bl 64))) := ⟨M.arr_drewN HW.out _⟩
   replace HSt : Aside0 (M.arr (wr.drewN nq) g4 121 .u32 (M.nums32 [x0, x1, x2, x3, x4, x5, x6, x7])) := ⟨M.arr_drewN HSt.out _⟩
   replace HB : Aside0 (Below w.heap.size w (wr.drewN nq)) := ⟨pw_below_drewN HB.out _⟩
   generalize wr.drewN nq = wr at HA HZ HW HSt HB c0_ c1_ c2_ c3_ c4_ c5_ c6_ c7_ cw ck ⊢
   go_wp2
   go_quiet ((first | (go_at_call 81; with_reducible exact sha_turned.q (bits_RotateLeft32.calls (x0 : Int) (-2) _ _ H4.out)) | (go_at_call 81; with_reducible exact sha_turned.q (bits_RotateLeft32.calls (x0 : Int) (-13) _ _ H5.out)) | (go_at_call 81; with_reducible exact sha_turned.q (bits_RotateLeft32.calls (x0 : Int) (-22) _ _ H6.out))))
   replace c0_ : (wr.drewN nq).cell? ⟨g4, 0, none⟩ = some (.int .u32 (x0 : Int)) := c0_
   replace c1_ : (wr.drewN nq).cell? ⟨g4, 1, none⟩ = some (.int .u32 (x1 : Int)) := c1_
   replace c2_ : (wr.drewN nq).cell? ⟨g4, 2, none⟩ = some (.int .u32 (x2 : Int)) := c2_
   replace c3_ : (wr.drewN nq).cell? ⟨g4, 3, none⟩ = some (.int .u32 (x3 : Int)) := c3_
   replace c4_ : (wr.drewN nq).cell? ⟨g4, 4, none⟩ = some (.int .u32 (x4 : Int)) := c4_
   replace c5_ : (wr.drewN nq).cell? ⟨g4, 5, none⟩ = some (.int .u32 (x5 : Int)) := c5_
   replace c6_ : (wr.drewN nq).cell? ⟨g4, 6, none⟩ = some (.int .u32 (x6 : Int)) := c6_
   replace c7_ : (wr.drewN nq).cell? ⟨g4, 7, none⟩ = some (.int .u32 (x7 : Int)) := c7_
   replace cw : (wr.drewN nq).cell? ⟨g3, i, none⟩ = some (.int .u32 (wd : Int)) := cw
   replace ck : (wr.drewN nq).cell? ⟨1, i, none⟩ = some (.int .u32 (kk : Int)) := ck
   replace HA : Aside0 (M.arr (wr.drewN nq) w.heap.size 121 .u32 (M.nums32 s)) := ⟨M.arr_drewN HA.out _⟩
   replace HZ : Aside0 (M.arr (wr.drewN nq) g2 121 .u32 (List.replicate 8 0)) := ⟨M.arr_drewN HZ.out _⟩
   replace HW : Aside0 (M.arr (wr.drewN nq) g3 129 .u32 (M.nums32 (M.sched bl 64))) := ⟨M.arr_drewN HW.out _⟩
   replace HSt : Aside0 (M.arr (wr.drewN nq) g4 121 .u32 (M.nums32 [x0, x1, x2, x3, x4, x5, x6, x7])) := ⟨M.arr_drewN HSt.out _⟩
   replace HB : Aside0 (Below w.heap.size w (wr.drewN nq)) := ⟨pw_below_drewN HB.out _⟩
   generalize wr.drewN nq = wr at HA HZ HW HSt HB c0_ c1_ c2_ c3_ c4_ c5_ c6_ c7_ cw ck ⊢
   have HY : Aside0 ([((x7 : Int) + (M.bg1 x4 : Nat) + (M.ch x4 x5 x6 : Nat) + (kk : Int) + (wd : Int) + ((M.bg0 x0 : Nat) + (M.maj x0 x1 x2 : Nat))) % 4294967296, (x0 : Int), (x1 : Int), (x2 : Int), ((x3 : Int) + ((x7 : Int) + (M.bg1 x4 : Nat) + (M.ch x4 x5 x6 : Nat) + (kk : Int) + (wd : Int))) % 4294967296, (x4 : Int), (x5 : Int), (x6 : Int)] = M.nums32 (M.rnds s (M.sched bl 64) (i + 1))) := ⟨by
    rw [HN1.out]
    simp only [M.rnd, M.nums32, List.map_cons, List.map_nil, List.getD_cons_zero, List.getD_cons_succ]
    generalize M.bg1 x4 = q1
    generalize M.ch x4 x5 x6 = q2
    generalize M.bg0 x0 = q3
    generalize M.maj x0 x1 x2 = q4
    congr 1
    ·omega
    ·congr 4
     omega⟩
   have HE8 : Aside0 (([((x7 : Int) + (M.bg1 x4 : Nat) + (M.ch x4 x5 x6 : Nat) + (kk : Int) + (wd : Int) + ((M.bg0 x0 : Nat) + (M.maj x0 x1 x2 : Nat))) % 4294967296, (x0 : Int), (x1 : Int), (x2 : Int), ((x3 : Int) + ((x7 : Int) + (M.bg1 x4 : Nat) + (M.ch x4 x5 x6 : Nat) + (kk : Int) + (wd : Int))) % 4294967296, (x4 : Int), (x5 : Int), (x6 : Int)] : List Int).length = (M.nums32 [x0, x1, x2, x3, x4, x5, x6, x7]).length) := ⟨by simp [M.nums32]⟩
   clear HN1
   go_wp2_with (first | ((with_reducible refine gate_store (t := 121) (p := 6) (v := .tmp 104) rfl ?_); refine M.wp_arr_store rfl 121 _ _ rfl g4 121 .u32 (M.nums32 [x0, x1, x2, x3, x4, x5, x6, x7]) [((x7 : Int) + (M.bg1 x4 : Nat) + (M.ch x4 x5 x6 : Nat) + (kk : Int) + (wd : Int) + ((M.bg0 x0 : Nat) + (M.maj x0 x1 x2 : Nat))) % 4294967296, (x0 : Int), (x1 : Int), (x2 : Int), ((x3 : Int) + ((x7 : Int) + (M.bg1 x4 : Nat) + (M.ch x4 x5 x6 : Nat) + (kk : Int) + (wd : Int))) % 4294967296, (x4 : Int), (x5 : Int), (x6 : Int)] rfl rfl HSt.out HE8.out sha_turned.i82 ?_; intro w6 hA6 hF6 hB6 hz6; have n1_ := Aside0.mk hA6; rw [HY.out] at n1_; have HA6 := Aside0.mk (show M.arr w6 w.heap.size 121 .u32 (M.nums32 s) from (hF6 _ (by have := L1.out; have := L2.out; have := L3.out; omega)).trans HA.out); have HZ6 := Aside0.mk (show M.arr w6 g2 121 .u32 (List.replicate 8 0) from (hF6 _ (by have := L2.out; have := L3.out; omega)).trans HZ.out); have HW6 := Aside0.mk (show M.arr w6 g3 129 .u32 (M.nums32 (M.sched bl 64)) from (hF6 _ (by have := L3.out; omega)).trans HW.out); have HB6 := Aside0.mk (hB6 _ _ (by have := L1.out; have := L2.out; have := L3.out; omega) HB.out); clear hA6 hF6 hB6 hz6) | fail)
   exact ⟨⟨i + 1, by go_num, by omega, HA6, HZ6, HW6, n1_, HB6⟩, by simp [intOf]; omega⟩
  ·obtain rfl : i = 64 := by omega
   clear hi hlt
   have hr8 := sha_turned.len8 s (M.sched bl 64) HS.out 64
   have HT := Aside0.mk (show sha_turned.mem (M.rnds s (M.sched bl 64) 64) s 8 = M.turned s bl from sha_turned.mem_all s bl)
   rw [← sha_turned.mem_zero _ s hr8] at HSt
   generalize M.rnds s (M.sched bl 64) 64 = r at HSt HT hr8
   go_wp2
   go_loopw [106] (fun v106 wq => ∃ j : Nat, v106 = .int .i64 (j : Int) ∧ j ≤ 8 ∧ Aside0 (M.arr wq w.heap.size 121 .u32 (M.nums32 s)) ∧ Aside0 (M.arr wq g2 121 .u32 (List.replicate 8 0)) ∧ Aside0 (M.arr wq g4 121 .u32 (M.nums32 (sha_turned.mem r s j))) ∧ Aside0 (Below w.heap.size w wq)) (fun v106 _ => 8 - (intOf v106).toNat)
   case atStart => exact ⟨0, rfl, Nat.zero_le _, HA, HZ, HSt, HB⟩
   case round =>
    clear HA HZ HSt HB HW
    obtain ⟨j, rfl, hj, HA, HZ, HSt, HB⟩ := hrel
    by_cases hlt : j < 8
    ·have ca := M.arr_cell HA.out j (by rw [H8.out]; exact hlt)
     have cs := M.arr_cell HSt.out j (by rw [sha_turned.mem_len]; exact hlt)
     have cf := M.arr_free HSt.out j
     rw [sha_turned.mem_get r s j hlt] at cs
     rw [sha_turned.nget s j] at ca
     have HX := Aside0.mk (sha_turned.mem_set r s j hlt)
     generalize r.getD j 0 = x at cs HX
     generalize s.getD j 0 = y at ca HX
     have g0 : (0 : Int) ≤ (j : Int) := by omega
     have g1 : (j : Int) < 8 := by omega
     have l4 := Aside0.mk (show w.heap.size ≠ g4 from by have := L1.out; have := L2.out; have := L3.out; omega)
     have l5 := Aside0.mk (show g2 ≠ g4 from by have := L1.out; have := L2.out; have := L3.out; omega)
     have l6 := Aside0.mk (show w.heap.size ≤ g4 from by have := L1.out; have := L2.out; have := L3.out; omega)
     go_wp2
     go_region
     all_goals
      (try go_wp2)
      refine ⟨⟨j + 1, by go_num, by omega, ⟨M.arr_drew (M.arr_far HA.out _ l4.out _)⟩, ⟨M.arr_drew (M.arr_far HZ.out _ l5.out _)⟩, ⟨?_⟩, ⟨below_drew1 (HB.out.setCell l6.out _)⟩⟩, by simp [intOf]; omega⟩
      rw [← HX.out]
      exact M.arr_drew (M.arr_set HSt.out j (((x + y) % 4294967296 : Nat) : Int))
    ·obtain rfl : j = 8 := by omega
     have HM := Aside0.mk (sha_turned.mem_len r s 8)
     go_wp2_with (first | ((with_reducible refine gate_dst (N := 118) rfl ?_); refine M.wp_arr_load rfl 121 _ rfl g4 121 .u32 (M.nums32 (sha_turned.mem r s 8)) rfl HSt.out _ Tryd.underlying121 rfl (by rw [HM.out]; exact sha_turned.i82) ?_) | ((with_reducible refine gate_store (t := 121) (p := 4) (v := .tmp 118) rfl ?_); refine M.wp_arr_store rfl 121 _ _ rfl g2 121 .u32 (List.replicate 8 0) (M.nums32 (sha_turned.mem r s 8)) rfl rfl HZ.out HM.out sha_turned.i82 ?_; intro w7 hA7 hF7 hB7 hz7; have HA7 := Aside0.mk hA7; have HB7 := Aside0.mk (hB7 _ _ (by have := L1.out; omega) HB.out); clear hA7 hF7 hB7 hz7))
     have hload := M.arr_loadVar (P := Tryd.prog) HA7.out 121 _ Tryd.underlying121 rfl (by rw [HM.out]; exact sha_turned.i82)
     refine bodyPost_ret (v := .agg (nums .u32 (M.nums32 (sha_turned.mem r s 8))).toArray) (by exact M.results_arr1 (fn := Tryd.f75) (t := 4) (ty := 121) (by rfl) _ (by rfl) hload) rfl ⟨?_, HB7.out⟩
     rw [HT.out]
theorem sha_Hash_Put.turn (ad : Addr) (c y0 y1 y2 y3 y4 y5 y6 y7 : Nat) (bl : List UInt8) (w : World) (hlt : ∀ x ∈ [y0, y1, y2, y3, y4, y5, y6, y7], x < 4294967296) (hb : bl.length = 64) (hr : ReadsInt w .u8 (some ad) 64 (bl.map fun x => (x.toNat : Int))) (hc : 64 ≤ c) (hT : M.stab w) :
    Calls Tryd.prog 75 #[.agg #[.int .u32 (y0 : Int), .int .u32 (y1 : Int), .int .u32 (y2 : Int), .int .u32 (y3 : Int), .int .u32 (y4 : Int), .int .u32 (y5 : Int), .int .u32 (y6 : Int), .int .u32 (y7 : Int)], .slice (some ad) 64 c] w fun e w' => ∃ z0 z1 z2 z3 z4 z5 z6 z7, M.turned [y0, y1, y2, y3, y4, y5, y6, y7] bl = [z0, z1, z2, z3, z4, z5, z6, z7] ∧ e = .returned (.agg #[.int .u32 (z0 : Int), .int .u32 (z1 : Int), .int .u32 (z2 : Int), .int .u32 (z3 : Int), .int .u32 (z4 : Int), .int .u32 (z5 : Int), .int .u32 (z6 : Int), .int .u32 (z7 : Int)]) ∧ Below w.heap.size w w' := by
 refine (sha_turned.calls ad c [y0, y1, y2, y3, y4, y5, y6, y7] bl w rfl hlt hb (Kd.C_of_reads (d := (0 : Int)) hr) hc hT.2).mono ?_
 rintro e w' ⟨rfl, hb⟩
 obtain ⟨z0, z1, z2, z3, z4, z5, z6, z7, hz⟩ := sha_turned.eight (M.turned [y0, y1, y2, y3, y4, y5, y6, y7] bl) (by simp [M.turned])
 refine ⟨z0, z1, z2, z3, z4, z5, z6, z7, hz, ?_, hb⟩
 rw [hz]; rfl
theorem sha_Hash_Put.lt  (s : List Nat) (bl : List UInt8) : ∀ x ∈ M.turned s bl, x < 4294967296 := by
 intro x hx
 obtain ⟨i, _, rfl⟩ := List.mem_map.1 hx
 exact Nat.mod_lt _ (by decide)
theorem sha_Hash_Put.bytes (t : ByteArray) : bytesOf t = (M.bs t).map fun x => (x.toNat : Int) := by simp [bytesOf, M.bs]
theorem sha_Hash_Put.foot_own {w : World} {base g n c : Nat} {A : Option Addr} {l : List UInt8} (h : w.ownsRow base 5 1 (.slice A n c) n (nums .u8 (l.map fun x => (x.toNat : Int)))) (hg : g < base) : M.foot w g A n l ∧ n ≤ c := by
 refine ⟨fun W' hk => ?_, ?_⟩
 ·have ho := hk.own h (fun e => by have := own_base h g e; omega) (by cases hv : Value.ownBlock (.slice A n c) <;> simp)
  obtain ⟨A', c', e, hr⟩ := own_reads ho
  injection e with e1
  subst e1
  exact hr
 ·rcases h.2 with ⟨e, _⟩ | ⟨_, _, _, e, _, _, h1, _⟩
  ·injection e with _ e1 e2
   omega
  ·injection e with _ e1 e2
   omega
set_option maxHeartbeats 8000000 in
set_option maxRecDepth 100000 in
theorem sha_Hash_Put.calls (g x0 x1 x2 x3 x4 x5 x6 x7 : Nat) (t : ByteArray) (w : World) (hH : M.hash w g 123 x0 x1 x2 x3 x4 x5 x6 x7 (.slice none 0 0) 0) (hT : M.stab w) (hg : 1 < g) (hx : ∀ x ∈ [x0, x1, x2, x3, x4, x5, x6, x7], x < 4294967296) (hs : t.size ≤ 1000000000000) :
    Calls Tryd.prog 63 #[.pointer (some ⟨g, 0, none⟩), .string t] w fun e w' => e = .returned (.int .i64 0) ∧ ∃ (y0 y1 y2 y3 y4 y5 y6 y7 : Nat) (A : Option Addr) (m c : Nat), M.eat [x0, x1, x2, x3, x4, x5, x6, x7] (M.bs t) (t.size / 64) = [y0, y1, y2, y3, y4, y5, y6, y7] ∧ M.hash w' g 123 y0 y1 y2 y3 y4 y5 y6 y7 (.slice A m c) (t.size : Int) ∧ M.foot w' g A m ((M.bs t).drop (64 * (t.size / 64))) ∧ m ≤ c ∧ 64 * (t.size / 64) + m = t.size ∧ Below g w w' := by
 have c8 : w.cell? ⟨g, 8, none⟩ = some (.slice none 0 0) := M.blk_cell hH 8 _ rfl
 have c9 : w.cell? ⟨g, 9, none⟩ = some (.int .i64 0) := M.blk_cell hH 9 _ rfl
 have f8 := M.blk_free hH 8
 have f9 := M.blk_free hH 9
 have HH := Aside0.mk hH
 have HT := Aside0.mk hT
 have HX := Aside0.mk hx
 have HG := Aside0.mk hg
 have hgl := M.lt_blk hH
 have HGL := Aside0.mk hgl
 have HHW := Aside0.mk (show M.hash (w.setCell ⟨g, 9, none⟩ (.int .i64 (t.size : Int))) g 123 x0 x1 x2 x3 x4 x5 x6 x7 (.slice none 0 0) (t.size : Int) from M.blk_set hH 9 _)
 have HBW := Aside0.mk (show Below g w (w.setCell ⟨g, 9, none⟩ (.int .i64 (t.size : Int))) from (Below.refl g w).setCell (Nat.le_refl _) _)
 have HSZ := Aside0.mk (show (w.setCell ⟨g, 9, none⟩ (.int .i64 (t.size : Int))).heap.size = w.heap.size from by simp)
 clear hH hT hx hg hgl
 go_enter Tryd.func63, Tryd.ntmps63
 go_wp2_with (first | (go_at_call 74; (with_reducible refine (sha_Hash_there.calls g x0 x1 x2 x3 x4 x5 x6 x7 _ _ _ HH.out).mono ?_); rintro e w1 ⟨rfl, rfl⟩) | (at_builtin; refine print_append_str (w0 := w.setCell ⟨g, 9, none⟩ (.int .i64 (t.size : Int))) w.heap.size rfl _ _ 76 9 5 rfl Tryd.underlying76 (by kernel_rfl) info5 (.slice none 0 0) [] t rfl rfl ⟨rfl, .inl ⟨rfl, rfl⟩⟩ (Below.refl _ _) ?hbase ?hln ?_; (case hbase => exact Nat.le_of_eq HSZ.out.symm); (case hln => simp; omega); intro v1 w2 hown hb2 hg2; rw [List.nil_append, bytesOf_length, sha_Hash_Put.bytes] at hown; obtain ⟨A1, cc, rfl⟩ := own_slice hown; obtain ⟨hft, hcc⟩ := sha_Hash_Put.foot_own hown HGL.out; have HH2 := Aside0.mk (show M.hash w2 g 123 x0 x1 x2 x3 x4 x5 x6 x7 (.slice none 0 0) (t.size : Int) from (hb2.block g HGL.out).trans HHW.out); have HB2 := Aside0.mk (HBW.out.trans (hb2.mono (Nat.le_of_lt HGL.out))); have c28 : w2.cell? ⟨g, 8, none⟩ = some (.slice none 0 0) := M.blk_cell HH2.out 8 _ rfl; have f28 := M.blk_free HH2.out 8; clear hown hb2 hg2))
 have HH3 := Aside0.mk (show M.hash (w2.setCell ⟨g, 8, none⟩ (.slice A1 t.size cc)) g 123 x0 x1 x2 x3 x4 x5 x6 x7 (.slice A1 t.size cc) (t.size : Int) from M.blk_set HH2.out 8 _)
 have HF3 := Aside0.mk (M.foot_step hft ((KeepBut.refl w2 g none).set_ 8 (.slice A1 t.size cc)))
 have HB3 := Aside0.mk (HB2.out.setCell (p := ⟨g, 8, none⟩) (Nat.le_refl _) (.slice A1 t.size cc))
 clear hft HH2 HB2 c28 f28 HHW HBW HSZ
 generalize w2.setCell ⟨g, 8, none⟩ (.slice A1 t.size cc) = w3 at HH3 HF3 HB3 ⊢
 go_loopg [] t.size (fun f wr => ∃ (k : Nat) (y0 y1 y2 y3 y4 y5 y6 y7 : Nat) (A : Option Addr) (c : Nat), Aside0 (M.eat [x0, x1, x2, x3, x4, x5, x6, x7] (M.bs t) k = [y0, y1, y2, y3, y4, y5, y6, y7]) ∧ 64 * k + f = t.size ∧ Aside0 (M.hash wr g 123 y0 y1 y2 y3 y4 y5 y6 y7 (.slice A f c) (t.size : Int)) ∧ Aside0 (M.foot wr g A f ((M.bs t).drop (64 * k))) ∧ f ≤ c ∧ Aside0 (Below g w wr))
 case atStart => exact ⟨0, x0, x1, x2, x3, x4, x5, x6, x7, A1, cc, ⟨rfl⟩, by omega, HH3, HF3, hcc, HB3⟩
 case round =>
  clear HH3 HF3 HB3 HH c8 c9 f8 f9 hcc
  obtain ⟨k, y0, y1, y2, y3, y4, y5, y6, y7, A, c, HE, hk, HH, HF, hcc, HB⟩ := hrel
  have c0_ : wr.cell? ⟨g, 0, none⟩ = some (.int .u32 (y0 : Int)) := M.blk_cell HH.out 0 _ rfl
  have c1_ : wr.cell? ⟨g, 1, none⟩ = some (.int .u32 (y1 : Int)) := M.blk_cell HH.out 1 _ rfl
  have c2_ : wr.cell? ⟨g, 2, none⟩ = some (.int .u32 (y2 : Int)) := M.blk_cell HH.out 2 _ rfl
  have c3_ : wr.cell? ⟨g, 3, none⟩ = some (.int .u32 (y3 : Int)) := M.blk_cell HH.out 3 _ rfl
  have c4_ : wr.cell? ⟨g, 4, none⟩ = some (.int .u32 (y4 : Int)) := M.blk_cell HH.out 4 _ rfl
  have c5_ : wr.cell? ⟨g, 5, none⟩ = some (.int .u32 (y5 : Int)) := M.blk_cell HH.out 5 _ rfl
  have c6_ : wr.cell? ⟨g, 6, none⟩ = some (.int .u32 (y6 : Int)) := M.blk_cell HH.out 6 _ rfl
  have c7_ : wr.cell? ⟨g, 7, none⟩ = some (.int .u32 (y7 : Int)) := M.blk_cell HH.out 7 _ rfl
  have c8_ : wr.cell? ⟨g, 8, none⟩ = some (.slice A gk c) := M.blk_cell HH.out 8 _ rfl
  by_cases hlt : 64 ≤ gk
  ·have hd : decide (64 ≤ (gk : Int)) = true := decide_eq_true (by omega)
   obtain ⟨ad, rfl, _⟩ := (M.foot_now HF.out).2.2 (by omega)
   have a82 := Tryd.isAgg82
   have z82 := Tryd.sizeOf82
   have hblk : (((M.bs t).drop (64 * k)).take 64).length = 64 := by
    have : (M.bs t).length = t.size := M.bs_length t
    simp; omega
   have HBL := Aside0.mk hblk
   have hrd := (M.foot_now HF.out).take_ 64 hlt
   rw [← List.map_take] at hrd
   have HRD := Aside0.mk hrd
   have HEn := Aside0.mk (show M.eat [x0, x1, x2, x3, x4, x5, x6, x7] (M.bs t) (k + 1) = M.turned [y0, y1, y2, y3, y4, y5, y6, y7] (((M.bs t).drop (64 * k)).take 64) from by rw [M.eat, HE.out])
   have HYL := Aside0.mk (show ∀ x ∈ [y0, y1, y2, y3, y4, y5, y6, y7], x < 4294967296 from by
    rw [← HE.out]
    cases k with
    | zero => exact HX.out
    | succ k => exact sha_Hash_Put.lt _ _)
   have HTr := Aside0.mk (M.stab_below HT.out HB.out HG.out)
   have hc64 : 64 ≤ c := by omega
   clear hblk hrd hd
   go_wp2
   go_region_with (go_at_call 75; (with_reducible refine (sha_Hash_Put.turn ad c y0 y1 y2 y3 y4 y5 y6 y7 (((M.bs t).drop (64 * k)).take 64) _ HYL.out HBL.out ?hr hc64 ?ht).mono ?_); (case hr => exact HRD.out); (case ht => exact HTr.out); rintro e w4 ⟨z0, z1, z2, z3, z4, z5, z6, z7, hz, rfl, hb4⟩; have HZ := Aside0.mk hz; have HH4 := Aside0.mk (show M.hash w4 g 123 y0 y1 y2 y3 y4 y5 y6 y7 (.slice (some ad) gk c) (t.size : Int) from (hb4.block g (M.lt_blk HH.out)).trans HH.out); have HB4 := Aside0.mk ((below_drew1 HB.out).trans (hb4.mono (Nat.le_of_lt (M.lt_blk HH.out)))); have HF4 := Aside0.mk (M.foot_step HF.out (KeepBut.of_below hb4 g none)); have e0_ : w4.cell? ⟨g, 0, none⟩ = some (.int .u32 (y0 : Int)) := M.blk_cell HH4.out 0 _ rfl; have g0_ := M.blk_free HH4.out 0; have e1_ : w4.cell? ⟨g, 1, none⟩ = some (.int .u32 (y1 : Int)) := M.blk_cell HH4.out 1 _ rfl; have g1_ := M.blk_free HH4.out 1; have e2_ : w4.cell? ⟨g, 2, none⟩ = some (.int .u32 (y2 : Int)) := M.blk_cell HH4.out 2 _ rfl; have g2_ := M.blk_free HH4.out 2; have e3_ : w4.cell? ⟨g, 3, none⟩ = some (.int .u32 (y3 : Int)) := M.blk_cell HH4.out 3 _ rfl; have g3_ := M.blk_free HH4.out 3; have e4_ : w4.cell? ⟨g, 4, none⟩ = some (.int .u32 (y4 : Int)) := M.blk_cell HH4.out 4 _ rfl; have g4_ := M.blk_free HH4.out 4; have e5_ : w4.cell? ⟨g, 5, none⟩ = some (.int .u32 (y5 : Int)) := M.blk_cell HH4.out 5 _ rfl; have g5_ := M.blk_free HH4.out 5; have e6_ : w4.cell? ⟨g, 6, none⟩ = some (.int .u32 (y6 : Int)) := M.blk_cell HH4.out 6 _ rfl; have g6_ := M.blk_free HH4.out 6; have e7_ : w4.cell? ⟨g, 7, none⟩ = some (.int .u32 (y7 : Int)) := M.blk_cell HH4.out 7 _ rfl; have g7_ := M.blk_free HH4.out 7; clear hz hb4)
   all_goals
    have HH5 := Aside0.mk (M.hash_set8 HH4.out z0 z1 z2 z3 z4 z5 z6 z7)
    have HF5 := Aside0.mk (M.foot_step HF4.out (M.keep_set8 w4 g z0 z1 z2 z3 z4 z5 z6 z7))
    have HB5 := Aside0.mk (M.below_set8 HB4.out g z0 z1 z2 z3 z4 z5 z6 z7 (Nat.le_refl _))
    clear e0_ e1_ e2_ e3_ e4_ e5_ e6_ e7_ g0_ g1_ g2_ g3_ g4_ g5_ g6_ g7_ HH4 HF4 HB4 c0_ c1_ c2_ c3_ c4_ c5_ c6_ c7_ c8_ HH HF HB HRD HTr
    generalize ((((((((w4.setCell ⟨g, 0, none⟩ (.int .u32 (z0 : Int))).setCell ⟨g, 1, none⟩ (.int .u32 (z1 : Int))).setCell ⟨g, 2, none⟩ (.int .u32 (z2 : Int))).setCell ⟨g, 3, none⟩ (.int .u32 (z3 : Int))).setCell ⟨g, 4, none⟩ (.int .u32 (z4 : Int))).setCell ⟨g, 5, none⟩ (.int .u32 (z5 : Int))).setCell ⟨g, 6, none⟩ (.int .u32 (z6 : Int))).setCell ⟨g, 7, none⟩ (.int .u32 (z7 : Int))) = w5 at HH5 HF5 HB5 ⊢
    have c8_ : w5.cell? ⟨g, 8, none⟩ = some (.slice (some ad) gk c) := M.blk_cell HH5.out 8 _ rfl
    have f8_ := M.blk_free HH5.out 8
    obtain ⟨i0, hi0, hi1⟩ := Option.map_eq_some_iff.1 info5
    simp only [Prod.mk.injEq] at hi1
    obtain ⟨A2, hcut, hrd2⟩ := print_cut (P := Tryd.prog) 76 5 .i64 Tryd.underlying76 hi0 hi1.2.1 (some ad) gk c 64 hlt
    have hcut' : ∀ W : World, (Instr.slice 76 (.slice (some ad) gk c) (some (.int .i64 64)) none none).run Tryd.prog W = .ok (.slice A2 (gk - 64) (c - 64)) W := hcut
    have HH6 := Aside0.mk (show M.hash (w5.setCell ⟨g, 8, none⟩ (.slice A2 (gk - 64) (c - 64))) g 123 z0 z1 z2 z3 z4 z5 z6 z7 (.slice A2 (gk - 64) (c - 64)) (t.size : Int) from M.blk_set HH5.out 8 _)
    have hf6 : M.foot w5 g A2 (gk - 64) ((M.bs t).drop (64 * (k + 1))) := fun W' hk' => by
     have := hrd2 W' .u8 _ hcc (HF5.out W' hk')
     rw [← List.map_drop, List.drop_drop] at this
     rw [show 64 * (k + 1) = 64 * k + 64 from by omega]
     exact this
    have HF6 := Aside0.mk (M.foot_step hf6 ((KeepBut.refl w5 g none).set_ 8 (.slice A2 (gk - 64) (c - 64))))
    have HB6 := Aside0.mk (HB5.out.setCell (p := ⟨g, 8, none⟩) (Nat.le_refl _) (.slice A2 (gk - 64) (c - 64)))
    clear hcut hrd2 hf6 HH5 HF5 HB5 hi0 hi1
    go_wp2
    go_roundg (gk - 64)
    case measure => omega
    case rel => exact ⟨k + 1, z0, z1, z2, z3, z4, z5, z6, z7, A2, c - 64, ⟨by rw [HEn.out, HZ.out]⟩, by omega, HH6, HF6, by omega, HB6⟩
  ·have hd : decide (64 ≤ (gk : Int)) = false := decide_eq_false (by omega)
   go_wp2
   go_ret
   have hkd : t.size / 64 = k := by omega
   rw [hkd]
   exact ⟨rfl, y0, y1, y2, y3, y4, y5, y6, y7, A, gk, c, HE.out, HH.out, HF.out, hcc, hk, HB.out⟩
theorem sha_text.i82 : (Tryd.prog.info? 121).map (·.size) = some 8 := by kernel_rfl
theorem sha_text.idx (xs : List Int) (hl : xs.length = 8) (j : Nat) (h : j < 8) (W : World) : (Instr.index 121 (.agg (nums .u32 xs).toArray) (.int .i64 (j : Int))).run Tryd.prog W = .ok (.int .u32 (xs.getD j 0)) W := by
 have hs : (sizeOf 116).run Tryd.prog W = .ok 1 W := by kernel_rfl
 have hk : (0 : Int) ≤ (j : Int) ∧ (j : Int) < ((8 : Nat) : Int) := by omega
 have hn := M.nums_get .u32 xs j (by omega)
 rw [List.getD_eq_getElem?_getD] at hn ⊢
 simp [Instr.index, run_underlying Tryd.underlying121, asIntOf, hk, hs, hn, h, go_sem]
def sha_text.row : List Nat → List Int
  | [] => []
  | x :: l => [((x / 16777216 % 256 : Nat) : Int), ((x / 65536 % 256 : Nat) : Int), ((x / 256 % 256 : Nat) : Int), ((x % 256 : Nat) : Int)] ++ sha_text.row l
theorem sha_text.row_app (a b : List Nat) : sha_text.row (a ++ b) = sha_text.row a ++ sha_text.row b := by
 induction a with
 | nil => rfl
 | cons x a ih => rw [List.cons_append, sha_text.row, sha_text.row, ih, List.append_assoc]
theorem sha_text.row_len (a : List Nat) : (sha_text.row a).length = 4 * a.length := by
 induction a with
 | nil => rfl
 | cons x a ih => rw [sha_text.row, List.length_append, ih]; simp; omega
theorem sha_text.row_str (a : List Nat) : strOfNums (sha_text.row a) = M.sb (M.shaText a) := by
 have h : ∀ a : List Nat, sha_text.row a = ((M.shaText a).map UInt8.toNat).map fun (n : Nat) => (n : Int) := by
  intro a
  induction a with
  | nil => rfl
  | cons x a ih =>
   rw [sha_text.row, ih]
   simp [M.shaText]
 have e := M.strOfNums_nat ((M.shaText a).map UInt8.toNat)
 rw [← h] at e
 rw [← M.sb_bs (strOfNums (sha_text.row a)), e]
 congr 1
 rw [List.map_map]
 conv => rhs; rw [← List.map_id (M.shaText a)]
 exact List.map_congr_left fun x _ => by simp
theorem sha_text.four (W : World) (e : TypeId) (a b c d : Int) : ReadsInt (W.alloc (.cells #[.int .u8 a, .int .u8 b, .int .u8 c, .int .u8 d] e)) .u8 (some ⟨W.heap.size, 0, none⟩) 4 [a, b, c, d] := by
 have h := own_lit W W.heap.size e .u8 [a, b, c, d] (Nat.le_refl _) (by simp)
 obtain ⟨A, c, e1, hr⟩ := own_reads h
 injection e1 with e1
 subst e1
 exact hr
set_option maxHeartbeats 8000000 in
set_option maxRecDepth 100000 in
theorem sha_text.calls (s : List Nat) (w : World) (hs : s.length = 8) (hlt : ∀ x ∈ s, x < 4294967296) :
    Calls Tryd.prog 76 #[.agg (nums .u32 (M.nums32 s)).toArray] w fun e w' => e = .returned (.string (M.sb (M.shaText s))) ∧ Below w.heap.size w w' := by
 have HS := Aside0.mk hs
 have HLT := Aside0.mk hlt
 have HB := Aside0.mk (Below.refl w.heap.size w)
 have H8 := Aside0.mk (show (M.nums32 s).length = 8 from by unfold M.nums32; rw [List.length_map]; exact hs)
 have hmk : ∀ W : World, (Instr.makeSlice 76 (.int .i64 0) (.int .i64 32)).run Tryd.prog W = .ok (.slice (some ⟨W.heap.size, 0, none⟩) 0 32) (W.alloc (.cells (madeCells #[.int .u8 0] 32) 5)) := by
  intro W
  obtain ⟨i0, hi, hz⟩ := Option.map_eq_some_iff.1 info5
  simp only [Prod.mk.injEq] at hz
  have := run_make (w := W) 76 5 i0 (.int .u8 0) Tryd.underlying76 hi hz.1 .i64 .i64 0 32 (by decide) (by decide) (by rw [hz.2.2]; decide) (by decide)
  rw [hz.2.1] at this
  exact this
 clear hs hlt
 go_enter Tryd.func76, Tryd.ntmps76
 go_wp2_with (first | ((with_reducible refine gate_dst (N := 1) rfl ?_); refine M.bx 1 121 ((nums .u32 (M.nums32 s)).toArray) ?_; intro gb hg w2 hbox hb; subst hg; have HA2 := Aside0.mk (show M.arr w2 w.heap.size 121 .u32 (M.nums32 s) from hbox); have n1_ := Aside0.mk (below_step HB.out hb); clear HB; have HB := n1_; clear n1_ hb hbox; have L1 := Aside0.mk (M.arr_lt HA2.out)) | ((with_reducible refine gate_dst (N := 7) rfl ?_); refine M.wp_arr_load rfl 121 _ rfl w.heap.size 121 .u32 (M.nums32 s) rfl (M.arr_alloc HA2.out _) _ Tryd.underlying121 rfl (by rw [H8.out]; exact sha_text.i82) ?_))
 obtain ⟨g3, hg3⟩ : ∃ g, g = w2.heap.size := ⟨_, rfl⟩
 have hown := own_made w2 w.heap.size 5 .u8 32 (Nat.le_of_lt L1.out) (by decide)
 have HO3 := Aside0.mk (own_take (m := 0) hown (by decide))
 have HB3 := Aside0.mk (below_alloc HB.out (.cells (madeCells #[.int .u8 0] 32) 5))
 have HA3 := Aside0.mk (M.arr_alloc HA2.out (.cells (madeCells #[.int .u8 0] 32) 5))
 clear hown HB HA2
 generalize w2.alloc (.cells (madeCells #[.int .u8 0] 32) 5) = w3 at HO3 HB3 HA3 ⊢
 go_loopw [3, 8] (fun v3 v8 wr => ∃ j : Nat, v8 = .int .i64 (j : Int) ∧ j ≤ 8 ∧ Aside0 (wr.ownsRow w.heap.size 5 1 v3 (sha_text.row (s.take j)).length (nums .u8 (sha_text.row (s.take j)))) ∧ Aside0 (Below w.heap.size w wr)) (fun _ v8 _ => 8 - (intOf v8).toNat)
 case atStart => exact ⟨0, rfl, Nat.zero_le _, HO3, HB3⟩
 case round =>
  clear HO3 HB3 HA3
  obtain ⟨j, rfl, hj, HO, HB⟩ := hrel
  by_cases hlt : j < 8
  ·have hlt' : j < s.length := by rw [HS.out]; exact hlt
   have hix := sha_text.idx (M.nums32 s) H8.out j hlt
   have hb := HLT.out _ (List.getElem_mem hlt')
   rw [show (M.nums32 s).getD j 0 = ((s[j] : Nat) : Int) from by unfold M.nums32; simp [List.getD, hlt']] at hix
   have HL := Aside0.mk (show (sha_text.row (s.take j)).length ≤ 32 from by rw [sha_text.row_len, List.length_take]; omega)
   have HX := Aside0.mk (show sha_text.row (s.take j) ++ [((s[j] : Nat) : Int) / 16777216 % 256, ((s[j] : Nat) : Int) / 65536 % 256, ((s[j] : Nat) : Int) / 256 % 256, ((s[j] : Nat) : Int) % 256] = sha_text.row (s.take (j + 1)) from by
    rw [List.take_succ_eq_append_getElem hlt', sha_text.row_app]
    rfl)
   generalize s[j] = x at hix hb HX
   generalize sha_text.row (s.take j) = xs at HO HL HX
   have g0 : (0 : Int) ≤ (j : Int) := by omega
   have g1 : (j : Int) < 8 := by omega
   obtain ⟨A3, c3, rfl⟩ := own_slice HO.out
   clear hb
   go_wp2_with (at_builtin; refine print_append_row (w0 := w) w.heap.size rfl _ _ 76 5 .u8 1 rfl Tryd.underlying76 info5 (by decide) _ xs [(x : Int) / 16777216 % 256, (x : Int) / 65536 % 256, (x : Int) / 256 % 256, (x : Int) % 256] (some ⟨wr.heap.size, 0, none⟩) 4 4 rfl rfl (HO.out.alloc _) ?hrd (below_alloc HB.out _) ?hbs ?hln ?_; (case hrd => exact sha_text.four wr 5 _ _ _ _); (case hbs => have := HB.out.size; simp; omega); (case hln => have := HL.out; omega); intro v4 w4 hO4 hB4 hg4 hat4; rw [HX.out] at hO4; have HO4 := Aside0.mk hO4; have HB4 := Aside0.mk hB4; clear hO4 hB4 hg4 hat4)
   go_roundw
   case rel => exact ⟨j + 1, by go_num, by omega, HO4, HB4⟩
   case measure => simp [intOf]; omega
  ·obtain rfl : j = 8 := by omega
   have HE := Aside0.mk (show strOfNums (sha_text.row (s.take 8)) = M.sb (M.shaText s) from by
    rw [List.take_of_length_le (Nat.le_of_eq HS.out), sha_text.row_str])
   have hconv := own_string (P := Tryd.prog) (src := 76) (dst := 9) (e := 5) (xs := sha_text.row (s.take 8)) Tryd.underlying76 (by kernel_rfl) (by kernel_rfl) HO.out
   rw [HE.out] at hconv
   go_wp2
   go_ret
   exact ⟨rfl, HB.out⟩
def sha_Hash_Sum.ns (l : List UInt8) : List Int := l.map fun x => (x.toNat : Int)
theorem sha_Hash_Sum.foot_at {w : World} {base n c : Nat} {A : Option Addr} {l : List UInt8} (h : w.ownsRow base 5 1 (.slice A n c) n (nums .u8 (sha_Hash_Sum.ns l))) : (∀ g, w.heap.size ≤ g → M.foot w g A n l) ∧ n ≤ c := by
 refine ⟨fun g hg W' hk => ?_, ?_⟩
 ·have ho := hk.own h (fun e => by
   rcases h.2 with ⟨e1, _⟩ | ⟨g1, _, _, e1, _, e2, _⟩
   ·rw [e1] at e; cases e
   ·rw [e1] at e
    injection e with e
    have := M.lt_blk e2
    have : g1 = g := e
    omega) (by cases hv : Value.ownBlock (.slice A n c) <;> simp)
  obtain ⟨A', c', e, hr⟩ := own_reads ho
  injection e with e1
  subst e1
  exact hr
 ·rcases h.2 with ⟨e, _⟩ | ⟨_, _, _, e, _, _, h1, _⟩
  ·injection e with _ e1 e2
   omega
  ·injection e with _ e1 e2
   omega
theorem sha_Hash_Sum.txt (p0 p1 p2 p3 p4 p5 p6 p7 : Nat) (w : World) (hlt : ∀ x ∈ [p0, p1, p2, p3, p4, p5, p6, p7], x < 4294967296) :
    Calls Tryd.prog 76 #[.agg #[.int .u32 (p0 : Int), .int .u32 (p1 : Int), .int .u32 (p2 : Int), .int .u32 (p3 : Int), .int .u32 (p4 : Int), .int .u32 (p5 : Int), .int .u32 (p6 : Int), .int .u32 (p7 : Int)]] w fun e w' => e = .returned (.string (M.sb (M.shaText [p0, p1, p2, p3, p4, p5, p6, p7]))) ∧ Below w.heap.size w w' := sha_text.calls [p0, p1, p2, p3, p4, p5, p6, p7] w rfl hlt
theorem sha_Hash_Sum.key (r0 : List UInt8) (N i : Nat) (h : i < 8) : sha_Hash_Sum.ns (r0 ++ (M.be8 N).take i) ++ [((N : Int) / 2 ^ (56 - 8 * i) % 256)] = sha_Hash_Sum.ns (r0 ++ (M.be8 N).take (i + 1)) := by
 obtain rfl | rfl | rfl | rfl | rfl | rfl | rfl | rfl : i = 0 ∨ i = 1 ∨ i = 2 ∨ i = 3 ∨ i = 4 ∨ i = 5 ∨ i = 6 ∨ i = 7 := by omega
 all_goals simp [sha_Hash_Sum.ns, M.be8]
set_option maxHeartbeats 8000000 in
set_option maxRecDepth 100000 in
theorem sha_Hash_Sum.calls (g y0 y1 y2 y3 y4 y5 y6 y7 m c n : Nat) (A : Option Addr) (l : List UInt8) (w : World) (hH : M.hash w g 123 y0 y1 y2 y3 y4 y5 y6 y7 (.slice A m c) (n : Int)) (hT : M.stab w) (hx : ∀ x ∈ [y0, y1, y2, y3, y4, y5, y6, y7], x < 4294967296) (hF : ReadsInt w .u8 A m (sha_Hash_Sum.ns l)) (hc : m ≤ c) (hm : m < 64) (hn : n ≤ 1000000000000) :
    Calls Tryd.prog 64 #[.pointer (some ⟨g, 0, none⟩)] w fun e w' => e = .returned (.string (M.sb (M.shaText (M.eat [y0, y1, y2, y3, y4, y5, y6, y7] (M.padlast l n) ((M.padlast l n).length / 64))))) ∧ Below w.heap.size w w' := by
 have c8 : w.cell? ⟨g, 8, none⟩ = some (.slice A m c) := M.blk_cell hH 8 _ rfl
 have HH := Aside0.mk hH
 have HGL := Aside0.mk (M.lt_blk hH)
 have HT := Aside0.mk hT
 have HX := Aside0.mk hx
 have HF := Aside0.mk hF
 have hml : (sha_Hash_Sum.ns l).length = m := hF.1
 have HB := Aside0.mk (Below.refl w.heap.size w)
 clear hH hT hx hF
 go_enter Tryd.func64, Tryd.ntmps64
 have c8b : (w.alloc (.cells #[] 5)).cell? ⟨g, 8, none⟩ = some (.slice A m c) := ((below_alloc HB.out (.cells #[] 5)).cell (p := ⟨g, 8, none⟩) HGL.out).trans c8
 have HO1 := Aside0.mk (own_lit w w.heap.size 5 .u8 [] (Nat.le_refl _) (by decide))
 have HML := Aside0.mk (show l.length = m from by rw [← hml]; simp [ns])
 have n1 : ns l ++ [128] = ns (l ++ [128] ++ List.replicate 0 0) := by simp [ns]
 have HN1 := Aside0.mk n1
 clear n1 hml
 go_wp2_with (first | (go_at_call 74; (with_reducible refine (sha_Hash_there.calls g y0 y1 y2 y3 y4 y5 y6 y7 _ _ _ HH.out).mono ?_); rintro e w1 ⟨rfl, rfl⟩) | (at_builtin; refine print_append_row (w0 := w) w.heap.size rfl (.tmp 10) (.tmp 14) 76 5 .u8 1 rfl Tryd.underlying76 info5 (by decide) _ [] (ns l) A m c rfl rfl HO1.out (HF.out.allocS _) (below_alloc HB.out _) (by simp) (by simp; omega) ?_; intro v2 w2 hown hb2 hg2 hat2; have HO2 := Aside0.mk hown; have HB2 := Aside0.mk hb2; clear hown hb2 hg2 hat2) | (at_builtin; refine print_append_num (w0 := w) w.heap.size rfl (.tmp 16) (.tmp 17) 76 5 .u8 1 rfl Tryd.underlying76 info5 (by decide) _ (ns l) 128 rfl rfl HO2.out HB2.out HB2.out.size (by simp [ns]; have := HML.out; omega) ?_; intro v3 w3 hown hb3 hg3 hat3; rw [HN1.out] at hown; have HO3 := Aside0.mk hown; have HB3 := Aside0.mk hb3; clear hown hb3 hg3 hat3 HO2 HB2))
 go_loopw [3] (fun v3 wr => ∃ j : Nat, j ≤ M.padz l.length ∧ Aside0 (wr.ownsRow w.heap.size 5 1 v3 (l.length + 1 + j) (nums .u8 (ns (l ++ [128] ++ List.replicate j 0)))) ∧ Aside0 (Below w.heap.size w wr)) (fun v3 _ => match v3 with | .slice _ n _ => l.length + 1 + M.padz l.length - n | _ => 0)
 case atStart => exact ⟨0, Nat.zero_le _, ⟨by have := HO3.out; simpa [ns] using this⟩, HB3⟩
 case round =>
  clear HO3 HB3 c8b HB
  obtain ⟨j, hj, HO, HB⟩ := hrel
  obtain ⟨A3, c3, rfl⟩ := own_slice HO.out
  have hp := M.padz_lt l.length
  have hpa := M.padz_at l.length j hj
  obtain ⟨q, hq⟩ : ∃ q, q = l.length + 1 + j := ⟨_, rfl⟩
  rw [← hq] at HO hpa ⊢
  have hq63 : q ≤ 1000 := by have := HML.out; omega
  have hmod : (q : Int).tmod 64 = ((q % 64 : Nat) : Int) := by rw [Int.tmod_eq_emod_of_nonneg (by omega)]; omega
  have HQ := Aside0.mk hq
  clear hq
  by_cases hlt : j = M.padz l.length
  ·have hd : ((q : Int) % 64 = 56) := by have := hpa.2 hlt; omega
   have c9_ : wr.cell? ⟨g, 9, none⟩ = some (.int .i64 (n : Int)) := (HB.out.cell (p := ⟨g, 9, none⟩) HGL.out).trans (M.blk_cell HH.out 9 _ rfl)
   have HQP := Aside0.mk (show (l ++ [128] ++ List.replicate j 0).length = q from by rw [HQ.out]; simp; omega)
   have HPL := Aside0.mk (show M.padlast l n = l ++ [128] ++ List.replicate j 0 ++ M.be8 (8 * n) from by rw [hlt]; rfl)
   generalize l ++ [128] ++ List.replicate j 0 = r0 at HO HQP HPL
   clear hpa hlt hj hp hmod
   go_wp2
   obtain ⟨N, hN⟩ : ∃ N : Nat, N = 8 * n := ⟨_, rfl⟩
   have hN' : (n : Int) * 8 = (N : Int) := by omega
   rw [hN']
   rw [← hN] at HPL
   have hne : ((q : Int) % 64 != 56) = false := by simp [hd]
   try rw [hne]
   clear hN hN' c9_ hd hne
   go_loopw [3, 32] (fun v3 v32 wq => ∃ i : Nat, v32 = .int .i64 (i : Int) ∧ i ≤ 8 ∧ Aside0 (wq.ownsRow w.heap.size 5 1 v3 (q + i) (nums .u8 (ns (r0 ++ (M.be8 N).take i)))) ∧ Aside0 (Below w.heap.size w wq)) (fun _ v32 _ => 8 - (intOf v32).toNat)
   case atStart => exact ⟨0, rfl, Nat.zero_le _, ⟨by have := HO.out; simpa using this⟩, HB⟩
   case round =>
    clear HO HB
    obtain ⟨i, rfl, hi, HO, HB⟩ := hrel
    obtain ⟨A4, c4, rfl⟩ := own_slice HO.out
    by_cases hlt : i < 8
    ·have hb1 := sha_Hash_Sum.key r0 N i hlt
     have HB1 := Aside0.mk hb1
     have HLn := Aside0.mk (show (ns (r0 ++ (M.be8 N).take i)).length = q + i from by have := HO.out.1; simpa [nums] using this)
     have HO' := Aside0.mk (show wr.ownsRow w.heap.size 5 1 (.slice A4 (q + i) c4) (ns (r0 ++ (M.be8 N).take i)).length (nums .u8 (ns (r0 ++ (M.be8 N).take i))) from by rw [HLn.out]; exact HO.out)
     clear hb1
     generalize ns (r0 ++ (M.be8 N).take i) = xs at HB1 HLn HO'
     go_wp2_with (first | (at_builtin; refine print_append_num (w0 := w) w.heap.size rfl (.tmp 35) (.tmp 42) 76 5 .u8 1 rfl Tryd.underlying76 info5 (by decide) _ xs ((N : Int) / 2 ^ (56 - 8 * i) % 256) rfl rfl HO'.out HB.out HB.out.size (by rw [HLn.out]; omega) ?_; intro v5 w5 hown hb5 hg5 hat5; have HO5 := Aside0.mk (show w5.ownsRow w.heap.size 5 1 v5 (q + (i + 1)) (nums .u8 (ns (r0 ++ (M.be8 N).take (i + 1)))) from by rw [List.length_append, HLn.out, HB1.out] at hown; exact hown); have HB5 := Aside0.mk hb5; clear hown hb5 hg5 hat5))
     go_roundw
     case rel => exact ⟨i + 1, by go_num, by omega, HO5, HB5⟩
     case measure => simp [intOf]; omega
    ·obtain rfl : i = 8 := by omega
     have HLL := Aside0.mk (show r0 ++ (M.be8 N).take 8 = M.padlast l n from by rw [HPL.out]; rfl)
     rw [HLL.out] at HO
     have hLlen : (M.padlast l n).length = q + 8 := by rw [HPL.out, List.length_append, HQP.out]; rfl
     have hL64 := M.padlast_len l n
     have HLT := Aside0.mk HO.out
     obtain ⟨hA4, hcap4⟩ := sha_Hash_Sum.foot_at HO.out
     have c0_ : wr.cell? ⟨g, 0, none⟩ = some (.int .u32 (y0 : Int)) := (HB.out.cell (p := ⟨g, 0, none⟩) HGL.out).trans (M.blk_cell HH.out 0 _ rfl)
     have c1_ : wr.cell? ⟨g, 1, none⟩ = some (.int .u32 (y1 : Int)) := (HB.out.cell (p := ⟨g, 1, none⟩) HGL.out).trans (M.blk_cell HH.out 1 _ rfl)
     have c2_ : wr.cell? ⟨g, 2, none⟩ = some (.int .u32 (y2 : Int)) := (HB.out.cell (p := ⟨g, 2, none⟩) HGL.out).trans (M.blk_cell HH.out 2 _ rfl)
     have c3_ : wr.cell? ⟨g, 3, none⟩ = some (.int .u32 (y3 : Int)) := (HB.out.cell (p := ⟨g, 3, none⟩) HGL.out).trans (M.blk_cell HH.out 3 _ rfl)
     have c4_ : wr.cell? ⟨g, 4, none⟩ = some (.int .u32 (y4 : Int)) := (HB.out.cell (p := ⟨g, 4, none⟩) HGL.out).trans (M.blk_cell HH.out 4 _ rfl)
     have c5_ : wr.cell? ⟨g, 5, none⟩ = some (.int .u32 (y5 : Int)) := (HB.out.cell (p := ⟨g, 5, none⟩) HGL.out).trans (M.blk_cell HH.out 5 _ rfl)
     have c6_ : wr.cell? ⟨g, 6, none⟩ = some (.int .u32 (y6 : Int)) := (HB.out.cell (p := ⟨g, 6, none⟩) HGL.out).trans (M.blk_cell HH.out 6 _ rfl)
     have c7_ : wr.cell? ⟨g, 7, none⟩ = some (.int .u32 (y7 : Int)) := (HB.out.cell (p := ⟨g, 7, none⟩) HGL.out).trans (M.blk_cell HH.out 7 _ rfl)
     have a82 := Tryd.isAgg82
     have z82 := Tryd.sizeOf82
     obtain ⟨Lq, hLq⟩ : ∃ L, L = M.padlast l n := ⟨_, rfl⟩
     rw [← hLq] at hLlen hL64 hA4
     have HLQ := Aside0.mk hLq
     clear hLq
     clear HO HPL HLL HLT HQP
     go_wp2_with (first | ((with_reducible refine gate_store (t := 121) (p := 6) (v := .tmp 48) rfl ?_); refine M.wp_arr_store rfl 121 _ _ rfl wr.heap.size 121 .u32 (List.replicate 8 0) [(y0 : Int), (y1 : Int), (y2 : Int), (y3 : Int), (y4 : Int), (y5 : Int), (y6 : Int), (y7 : Int)] rfl rfl (M.arr_new wr 121 .u32 (List.replicate 8 0)) rfl sha_text.i82 ?_; intro w6 hA6 hF6 hB6 hz6; have HA6 := Aside0.mk (show M.arr w6 wr.heap.size 121 .u32 (M.nums32 [y0, y1, y2, y3, y4, y5, y6, y7]) from hA6); have HB6 := Aside0.mk (hB6 _ _ HB.out.size (below_alloc HB.out _)); have HF6 := Aside0.mk (M.foot_step (hA4 wr.heap.size (Nat.le_refl _)) (show KeepBut wr w6 wr.heap.size none from ⟨by rw [hz6]; simp, fun i hi hne _ => (hF6 i hne).trans (Below.heap_alloc _ _ _ hi)⟩)); clear hA6 hF6 hB6 hz6))
     dsimp only [Act.put]
     try rw [show ((8 : Nat) : Int) = 8 from rfl]
     obtain ⟨g6, hg6⟩ : ∃ g, g = wr.heap.size := ⟨_, rfl⟩
     have hgb : w.heap.size ≤ g6 := by rw [hg6]; exact HB.out.size
     rw [← hg6] at HA6 HF6 ⊢
     clear hA4 c0_ c1_ c2_ c3_ c4_ c5_ c6_ c7_ hg6 HB
     have HGB := Aside0.mk hgb
     clear hgb
     go_loopw [3] (fun v3 wq => ∃ (k p0 p1 p2 p3 p4 p5 p6 p7 m' : Nat) (A' : Option Addr) (c' : Nat), v3 = .slice A' m' c' ∧ 64 * k + m' = Lq.length ∧ m' ≤ c' ∧ Aside0 (M.foot wq g6 A' m' (Lq.drop (64 * k))) ∧ Aside0 (M.arr wq g6 121 .u32 (M.nums32 [p0, p1, p2, p3, p4, p5, p6, p7])) ∧ Aside0 (M.eat [y0, y1, y2, y3, y4, y5, y6, y7] Lq k = [p0, p1, p2, p3, p4, p5, p6, p7]) ∧ Aside0 (Below w.heap.size w wq)) (fun v3 _ => match v3 with | .slice _ n _ => n | _ => 0)
     case atStart => exact ⟨0, y0, y1, y2, y3, y4, y5, y6, y7, q + 8, A4, c4, rfl, by omega, hcap4, HF6, HA6, ⟨rfl⟩, HB6⟩
     case round =>
      clear HF6 HA6 HB6 hcap4
      obtain ⟨k, p0, p1, p2, p3, p4, p5, p6, p7, m', A', c', rfl, hk, hcc, HF, HA, HE, HB⟩ := hrel
      by_cases hpos : 0 < m'
      ·have hm64 : 64 ≤ m' := by omega
       have hd : decide (0 < (m' : Int)) = true := decide_eq_true (by omega)
       obtain ⟨ad, rfl, _⟩ := (M.foot_now HF.out).2.2 hpos
       have c0_ : wr.cell? ⟨g6, 0, none⟩ = some (.int .u32 (p0 : Int)) := M.arr_cell HA.out 0 (by simp [M.nums32])
       have c1_ : wr.cell? ⟨g6, 1, none⟩ = some (.int .u32 (p1 : Int)) := M.arr_cell HA.out 1 (by simp [M.nums32])
       have c2_ : wr.cell? ⟨g6, 2, none⟩ = some (.int .u32 (p2 : Int)) := M.arr_cell HA.out 2 (by simp [M.nums32])
       have c3_ : wr.cell? ⟨g6, 3, none⟩ = some (.int .u32 (p3 : Int)) := M.arr_cell HA.out 3 (by simp [M.nums32])
       have c4_ : wr.cell? ⟨g6, 4, none⟩ = some (.int .u32 (p4 : Int)) := M.arr_cell HA.out 4 (by simp [M.nums32])
       have c5_ : wr.cell? ⟨g6, 5, none⟩ = some (.int .u32 (p5 : Int)) := M.arr_cell HA.out 5 (by simp [M.nums32])
       have c6_ : wr.cell? ⟨g6, 6, none⟩ = some (.int .u32 (p6 : Int)) := M.arr_cell HA.out 6 (by simp [M.nums32])
       have c7_ : wr.cell? ⟨g6, 7, none⟩ = some (.int .u32 (p7 : Int)) := M.arr_cell HA.out 7 (by simp [M.nums32])
       have hblk : ((Lq.drop (64 * k)).take 64).length = 64 := by simp; omega
       have HBL := Aside0.mk hblk
       have hrd := (M.foot_now HF.out).take_ 64 hm64
       rw [← List.map_take] at hrd
       have HRD := Aside0.mk hrd
       have HEn := Aside0.mk (show M.eat [y0, y1, y2, y3, y4, y5, y6, y7] Lq (k + 1) = M.turned [p0, p1, p2, p3, p4, p5, p6, p7] ((Lq.drop (64 * k)).take 64) from by rw [M.eat, HE.out])
       have HPL := Aside0.mk (show ∀ x ∈ [p0, p1, p2, p3, p4, p5, p6, p7], x < 4294967296 from by
        rw [← HE.out]
        cases k with
        | zero => exact HX.out
        | succ k => exact sha_Hash_Put.lt _ _)
       have HTr := Aside0.mk (M.stab_below HT.out HB.out (M.stab_lt HT.out))
       have hc64 : 64 ≤ c' := by omega
       clear hblk hrd hd
       go_wp2
       go_region_with (go_at_call 75; (with_reducible refine (sha_Hash_Put.turn ad c' p0 p1 p2 p3 p4 p5 p6 p7 ((Lq.drop (64 * k)).take 64) _ HPL.out HBL.out ?hr hc64 ?ht).mono ?_); (case hr => exact HRD.out); (case ht => exact HTr.out); rintro e w7 ⟨z0, z1, z2, z3, z4, z5, z6, z7, hz, rfl, hb7⟩; have HZ := Aside0.mk hz; have HA7 := Aside0.mk (show M.arr w7 g6 121 .u32 (M.nums32 [p0, p1, p2, p3, p4, p5, p6, p7]) from M.arr_below (M.arr_drew HA.out) hb7); have HB7 := Aside0.mk (below_step (below_drew1 HB.out) hb7); have HF7 := Aside0.mk (M.foot_step HF.out (KeepBut.of_below hb7 g6 none)); have e0_ : w7.cell? ⟨g6, 0, none⟩ = some (.int .u32 (p0 : Int)) := M.arr_cell HA7.out 0 (by simp [M.nums32]); have g0_ := M.arr_free HA7.out 0; have e1_ : w7.cell? ⟨g6, 1, none⟩ = some (.int .u32 (p1 : Int)) := M.arr_cell HA7.out 1 (by simp [M.nums32]); have g1_ := M.arr_free HA7.out 1; have e2_ : w7.cell? ⟨g6, 2, none⟩ = some (.int .u32 (p2 : Int)) := M.arr_cell HA7.out 2 (by simp [M.nums32]); have g2_ := M.arr_free HA7.out 2; have e3_ : w7.cell? ⟨g6, 3, none⟩ = some (.int .u32 (p3 : Int)) := M.arr_cell HA7.out 3 (by simp [M.nums32]); have g3_ := M.arr_free HA7.out 3; have e4_ : w7.cell? ⟨g6, 4, none⟩ = some (.int .u32 (p4 : Int)) := M.arr_cell HA7.out 4 (by simp [M.nums32]); have g4_ := M.arr_free HA7.out 4; have e5_ : w7.cell? ⟨g6, 5, none⟩ = some (.int .u32 (p5 : Int)) := M.arr_cell HA7.out 5 (by simp [M.nums32]); have g5_ := M.arr_free HA7.out 5; have e6_ : w7.cell? ⟨g6, 6, none⟩ = some (.int .u32 (p6 : Int)) := M.arr_cell HA7.out 6 (by simp [M.nums32]); have g6_ := M.arr_free HA7.out 6; have e7_ : w7.cell? ⟨g6, 7, none⟩ = some (.int .u32 (p7 : Int)) := M.arr_cell HA7.out 7 (by simp [M.nums32]); have g7_ := M.arr_free HA7.out 7; clear hz hb7)
       all_goals
        have HA8 := Aside0.mk (M.arr_set8 HA7.out z0 z1 z2 z3 z4 z5 z6 z7)
        have HF8 := Aside0.mk (M.foot_step HF7.out (M.keep_set8 w7 g6 z0 z1 z2 z3 z4 z5 z6 z7))
        have HB8 := Aside0.mk (M.below_set8 HB7.out g6 z0 z1 z2 z3 z4 z5 z6 z7 HGB.out)
        clear e0_ e1_ e2_ e3_ e4_ e5_ e6_ e7_ g0_ g1_ g2_ g3_ g4_ g5_ g6_ g7_ HA7 HF7 HB7 c0_ c1_ c2_ c3_ c4_ c5_ c6_ c7_ HA HF HB HRD HTr
        generalize ((((((((w7.setCell ⟨g6, 0, none⟩ (.int .u32 (z0 : Int))).setCell ⟨g6, 1, none⟩ (.int .u32 (z1 : Int))).setCell ⟨g6, 2, none⟩ (.int .u32 (z2 : Int))).setCell ⟨g6, 3, none⟩ (.int .u32 (z3 : Int))).setCell ⟨g6, 4, none⟩ (.int .u32 (z4 : Int))).setCell ⟨g6, 5, none⟩ (.int .u32 (z5 : Int))).setCell ⟨g6, 6, none⟩ (.int .u32 (z6 : Int))).setCell ⟨g6, 7, none⟩ (.int .u32 (z7 : Int))) = w8 at HA8 HF8 HB8 ⊢
        obtain ⟨i0, hi0, hi1⟩ := Option.map_eq_some_iff.1 info5
        simp only [Prod.mk.injEq] at hi1
        obtain ⟨A2, hcut, hrd2⟩ := print_cut (P := Tryd.prog) 76 5 .i64 Tryd.underlying76 hi0 hi1.2.1 (some ad) m' c' 64 hm64
        have hcut' : ∀ W : World, (Instr.slice 76 (.slice (some ad) m' c') (some (.int .i64 64)) none none).run Tryd.prog W = .ok (.slice A2 (m' - 64) (c' - 64)) W := hcut
        have HF9 := Aside0.mk (show M.foot w8 g6 A2 (m' - 64) (Lq.drop (64 * (k + 1))) from fun W' hk' => by
         have := hrd2 W' .u8 _ hcc (HF8.out W' hk')
         rw [← List.map_drop, List.drop_drop] at this
         rw [show 64 * (k + 1) = 64 * k + 64 from by omega]
         exact this)
        clear hcut hrd2 HF8 hi0 hi1
        go_wp2
        go_roundw
        case rel => exact ⟨k + 1, z0, z1, z2, z3, z4, z5, z6, z7, m' - 64, A2, c' - 64, rfl, by omega, by omega, HF9, HA8, ⟨by rw [HEn.out, HZ.out]⟩, HB8⟩
        case measure =>
         show m' - 64 < m'
         omega
      ·obtain rfl : m' = 0 := by omega
       have c0_ : wr.cell? ⟨g6, 0, none⟩ = some (.int .u32 (p0 : Int)) := M.arr_cell HA.out 0 (by simp [M.nums32])
       have c1_ : wr.cell? ⟨g6, 1, none⟩ = some (.int .u32 (p1 : Int)) := M.arr_cell HA.out 1 (by simp [M.nums32])
       have c2_ : wr.cell? ⟨g6, 2, none⟩ = some (.int .u32 (p2 : Int)) := M.arr_cell HA.out 2 (by simp [M.nums32])
       have c3_ : wr.cell? ⟨g6, 3, none⟩ = some (.int .u32 (p3 : Int)) := M.arr_cell HA.out 3 (by simp [M.nums32])
       have c4_ : wr.cell? ⟨g6, 4, none⟩ = some (.int .u32 (p4 : Int)) := M.arr_cell HA.out 4 (by simp [M.nums32])
       have c5_ : wr.cell? ⟨g6, 5, none⟩ = some (.int .u32 (p5 : Int)) := M.arr_cell HA.out 5 (by simp [M.nums32])
       have c6_ : wr.cell? ⟨g6, 6, none⟩ = some (.int .u32 (p6 : Int)) := M.arr_cell HA.out 6 (by simp [M.nums32])
       have c7_ : wr.cell? ⟨g6, 7, none⟩ = some (.int .u32 (p7 : Int)) := M.arr_cell HA.out 7 (by simp [M.nums32])
       have hkd : Lq.length / 64 = k := by omega
       have HPL := Aside0.mk (show ∀ x ∈ [p0, p1, p2, p3, p4, p5, p6, p7], x < 4294967296 from by
        rw [← HE.out]
        cases k with
        | zero => exact HX.out
        | succ k => exact sha_Hash_Put.lt _ _)
       go_wp2_with (first | (go_at_call 76; (with_reducible refine (sha_Hash_Sum.txt p0 p1 p2 p3 p4 p5 p6 p7 _ HPL.out).mono ?_); rintro e w9 ⟨rfl, hb9⟩))
       go_ret
       refine ⟨?_, below_step HB.out hb9⟩
       rw [← HLQ.out, hkd, HE.out]
       rfl
  ·have hd : ¬ ((q : Int) % 64 = 56) := by intro e; exact hlt (hpa.1 (by omega))
   have HLn := Aside0.mk (show (ns (l ++ [128] ++ List.replicate j 0)).length = q from by have := HO.out.1; simpa [nums] using this)
   have HO' := Aside0.mk (show wr.ownsRow w.heap.size 5 1 (.slice A3 q c3) (ns (l ++ [128] ++ List.replicate j 0)).length (nums .u8 (ns (l ++ [128] ++ List.replicate j 0))) from by rw [HLn.out]; exact HO.out)
   have HX1 := Aside0.mk (show ns (l ++ [128] ++ List.replicate j 0) ++ [0] = ns (l ++ [128] ++ List.replicate (j + 1) 0) from by
    rw [List.replicate_succ', ← List.append_assoc]; simp [ns])
   have hj1 : j + 1 ≤ M.padz l.length := by omega
   generalize ns (l ++ [128] ++ List.replicate j 0) = xs at HLn HO' HX1
   clear hpa hmod hp
   go_wp2_with (first | (at_builtin; refine print_append_num (w0 := w) w.heap.size rfl (.tmp 23) (.tmp 24) 76 5 .u8 1 rfl Tryd.underlying76 info5 (by decide) _ xs 0 rfl rfl HO'.out HB.out HB.out.size (by rw [HLn.out]; omega) ?_; intro v5 w5 hown hb5 hg5 hat5; rw [HX1.out] at hown; have HO5 := Aside0.mk hown; have HB5 := Aside0.mk hb5; clear hown hb5 hg5 hat5))
   obtain ⟨A5, c5, rfl⟩ := own_slice HO5.out
   go_roundw
   case rel =>
    have e : (ns (l ++ [128] ++ List.replicate (j + 1) 0)).length = l.length + 1 + (j + 1) := by simp [ns]; omega
    have h5 := HO5.out
    rw [e] at h5 ⊢
    exact ⟨j + 1, hj1, ⟨h5⟩, HB5⟩
   case measure => simp [ns]; have := HQ.out; omega
set_option maxHeartbeats 8000000 in
set_option maxRecDepth 100000 in
theorem sha_Sum.calls (ad : Addr) (c0 : Nat) (t : ByteArray) (w : World) (hT : M.stab w) (hr : w.cell? ad = some (.string t)) (hc : 1 ≤ c0) (hs : t.size ≤ 1000000000000) :
    Calls Tryd.prog 47 #[.slice (some ad) 1 c0] w fun e w' => e = .returned (.string (M.shaSum t)) ∧ Below w.heap.size w w' := by
 have HT := Aside0.mk hT
 have HR := Aside0.mk hr
 have hadl : ad.add 0 = ad := by unfold Addr.add; simp
 clear hT hr
 go_enter Tryd.func47, Tryd.ntmps47
 go_wp2_with (first | (go_at_call 62; (with_reducible refine (sha_New.calls _ HT.out).mono ?_); rintro e w1 ⟨g, rfl, hh, hb1, hgl⟩; have HH := Aside0.mk hh; have HB := Aside0.mk hb1; have HGL := Aside0.mk hgl; clear hh hb1 hgl))
 go_loopw [9] (fun v9 wr => Aside0 (Below w.heap.size w wr) ∧ ((v9 = .int .i64 0 ∧ Aside0 (M.hash wr g 123 0x6a09e667 0xbb67ae85 0x3c6ef372 0xa54ff53a 0x510e527f 0x9b05688c 0x1f83d9ab 0x5be0cd19 (.slice none 0 0) 0)) ∨ (v9 = .int .i64 1 ∧ ∃ (y0 y1 y2 y3 y4 y5 y6 y7 : Nat) (A : Option Addr) (m c : Nat), Aside0 (M.eat M.shaH (M.bs t) (t.size / 64) = [y0, y1, y2, y3, y4, y5, y6, y7]) ∧ Aside0 (M.hash wr g 123 y0 y1 y2 y3 y4 y5 y6 y7 (.slice A m c) (t.size : Int)) ∧ Aside0 (M.foot wr g A m ((M.bs t).drop (64 * (t.size / 64)))) ∧ m ≤ c ∧ 64 * (t.size / 64) + m = t.size))) (fun v9 _ => 1 - (intOf v9).toNat)
 case atStart => exact ⟨HB, .inl ⟨rfl, HH⟩⟩
 case round =>
  clear HB HH
  obtain ⟨HB, ⟨rfl, HH⟩ | ⟨rfl, y0, y1, y2, y3, y4, y5, y6, y7, A, m, c, HE, HH, HF, hmc, hm⟩⟩ := hrel
  ·have cS : wr.cell? ad = some (.string t) := (HB.out.cell (World.block_lt_of_cell? w _ HR.out)).trans HR.out
   have HTr := Aside0.mk (M.stab_below HT.out HB.out (M.stab_lt HT.out))
   have h1g : 1 < g := Nat.lt_of_lt_of_le (M.stab_lt HT.out) HGL.out
   go_wp2_with (first | (go_at_call 63; (with_reducible refine (sha_Hash_Put.calls g 0x6a09e667 0xbb67ae85 0x3c6ef372 0xa54ff53a 0x510e527f 0x9b05688c 0x1f83d9ab 0x5be0cd19 t _ HH.out HTr.out h1g (by decide) hs).mono ?_); rintro e w2 ⟨rfl, y0, y1, y2, y3, y4, y5, y6, y7, A, m, c, hE, hh2, hf2, hmc, hm, hb2⟩; have HE := Aside0.mk hE; have HH2 := Aside0.mk hh2; have HF2 := Aside0.mk hf2; have HB2 := Aside0.mk (HB.out.trans (hb2.mono HGL.out)); clear hE hh2 hf2 hb2))
   go_roundw
   case rel => exact ⟨HB2, .inr ⟨rfl, y0, y1, y2, y3, y4, y5, y6, y7, A, m, c, ⟨HE.out⟩, HH2, HF2, hmc, hm⟩⟩
   case measure => simp [intOf]
  ·have HTr := Aside0.mk (M.stab_below HT.out HB.out (M.stab_lt HT.out))
   have HYL := Aside0.mk (show ∀ x ∈ [y0, y1, y2, y3, y4, y5, y6, y7], x < 4294967296 from by
    rw [← HE.out]
    cases h : t.size / 64 with
    | zero => exact (by decide : ∀ x ∈ M.shaH, x < 4294967296)
    | succ k => exact sha_Hash_Put.lt _ _)
   have hrd : ReadsInt wr .u8 A m (sha_Hash_Sum.ns ((M.bs t).drop (64 * (t.size / 64)))) := M.foot_now HF.out
   have hm64 : m < 64 := by omega
   go_wp2_with (first | (go_at_call 64; (with_reducible refine (sha_Hash_Sum.calls g y0 y1 y2 y3 y4 y5 y6 y7 m c t.size A ((M.bs t).drop (64 * (t.size / 64))) _ HH.out HTr.out HYL.out hrd hmc hm64 hs).mono ?_); rintro e w2 ⟨rfl, hb2⟩))
   go_ret
   refine ⟨?_, below_step HB.out hb2⟩
   rw [← HE.out]
   rfl
theorem sha_Sum.lit (t : ByteArray) (w : World) (hT : M.stab w) (hs : t.size ≤ 1000000000000) :
    Calls Tryd.prog 47 #[.slice (some ⟨w.heap.size, 0, none⟩) 1 1] (w.alloc (.cells #[.string t] 9)) fun e w' => e = .returned (.string (M.shaSum t)) ∧ Below w.heap.size w w' := by
 refine (sha_Sum.calls ⟨w.heap.size, 0, none⟩ 1 t _ (M.stab_below hT (below_alloc (Below.refl w.heap.size w) _) (M.stab_lt hT)) (M.blk_cell (heap_alloc_new w _) 0 _ rfl) (Nat.le_refl _) hs).mono ?_
 rintro e w' ⟨rfl, hb⟩
 exact ⟨rfl, below_step (below_alloc (Below.refl w.heap.size w) _) hb⟩
end Go.Proofs.YtikdbklmhjlfoaaDoor.ECommitKnots
