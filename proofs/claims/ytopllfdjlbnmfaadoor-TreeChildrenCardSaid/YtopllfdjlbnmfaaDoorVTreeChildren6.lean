-- Laid by this session's own program (wip/tools/fold.py): this session's texts, cut to what the claim names and put together; Lean checks it.
import Derived.Test.YtopllfdjlbnmfaaDoorVTreeChildren1
import Derived.Test.YtopllfdjlbnmfaaDoorVTreeChildren5
import Derived.Test.YtopllfdjlbnmfaaDoorXTreeChildren1
namespace Go.Proofs.YtopllfdjlbnmfaaDoor.ETreeChildren
open Go.RowKit Go.Proofs.YtopllfdjlbnmfaaDoorW.PrintWords Go.Proofs.YtopllfdjlbnmfaaDoorW.PrintLast Go.Proofs.YtopllfdjlbnmfaaDoorW.PrintMore
attribute [local go_sem] M.run_leq M.run_gtr M.run_geq max2_int min2_int max_two min_two max_three min_three max_four min_four
set_option linter.unusedVariables false
set_option linter.unusedSimpArgs false
mutual
def pleachref03_Sum_p.l0 : Nat → List Int → ByteArray → List Int → Int → Option (ByteArray)
  | 0, _, _, _, _ => none
  | k + 1, x3, x4, x5, x6 => if x6 < (x4.size : Int) then (if 0 ≤ x6 then (if x6 ≤ (wrap64 (x6 + 64)) then (if (wrap64 (x6 + 64)) ≤ (x4.size : Int) then ((pleachref03_schedule.f (x4.extract (x6 : Int).toNat ((wrap64 (x6 + 64)) : Int).toNat)).bind fun t151 => (if 0 < (x3.length : Int) then (if 1 < (x3.length : Int) then (if 2 < (x3.length : Int) then (if 3 < (x3.length : Int) then (if 4 < (x3.length : Int) then (if 5 < (x3.length : Int) then (if 6 < (x3.length : Int) then (if 7 < (x3.length : Int) then (pleachref03_Sum_p.l1 k x3 x4 x5 x6 t151 (rd x3 0) (rd x3 1) (rd x3 2) (rd x3 3) (rd x3 4) (rd x3 5) (rd x3 6) (rd x3 7) 0) else (none)) else (none)) else (none)) else (none)) else (none)) else (none)) else (none)) else (none))) else (none)) else (none)) else (none)) else (pleachref03_Sum_p.l2 k x3 (⟨#[]⟩ : ByteArray) 0)
def pleachref03_Sum_p.l1 : Nat → List Int → ByteArray → List Int → Int → List Int → Int → Int → Int → Int → Int → Int → Int → Int → Int → Option (ByteArray)
  | 0, _, _, _, _, _, _, _, _, _, _, _, _, _, _ => none
  | k + 1, x3, x4, x5, x6, x7, x8, x9, x10, x11, x12, x13, x14, x15, x16 => if x16 < 64 then ((pleachref03_turn.f x12 6).bind fun t173 => ((pleachref03_turn.f x12 11).bind fun t174 => ((pleachref03_turn.f x12 25).bind fun t175 => (if 0 ≤ x16 then (if x16 < (x5.length : Int) then (if x16 < (x7.length : Int) then ((pleachref03_turn.f x8 2).bind fun t178 => ((pleachref03_turn.f x8 13).bind fun t179 => ((pleachref03_turn.f x8 22).bind fun t180 => (pleachref03_Sum_p.l1 k x3 x4 x5 x6 x7 ((((((((((x15 + (Go.bits .xor .u32 (Go.bits .xor .u32 t173 t174) t175)) % 4294967296) + (Go.bits .or .u32 (Go.bits .and .u32 x12 x13) (Go.bits .and .u32 ((4294967295 - x12) % 4294967296) x14))) % 4294967296) + (rd x5 x16)) % 4294967296) + (rd x7 x16)) % 4294967296) + (((Go.bits .xor .u32 (Go.bits .xor .u32 t178 t179) t180) + (Go.bits .or .u32 (Go.bits .or .u32 (Go.bits .and .u32 x8 x9) (Go.bits .and .u32 x8 x10)) (Go.bits .and .u32 x9 x10))) % 4294967296)) % 4294967296) x8 x9 x10 ((x11 + ((((((((x15 + (Go.bits .xor .u32 (Go.bits .xor .u32 t173 t174) t175)) % 4294967296) + (Go.bits .or .u32 (Go.bits .and .u32 x12 x13) (Go.bits .and .u32 ((4294967295 - x12) % 4294967296) x14))) % 4294967296) + (rd x5 x16)) % 4294967296) + (rd x7 x16)) % 4294967296)) % 4294967296) x12 x13 x14 (wrap64 (x16 + 1)))))) else (none)) else (none)) else (none))))) else (if 0 < (x3.length : Int) then (if 1 < (x3.length : Int) then (if 2 < (x3.length : Int) then (if 3 < (x3.length : Int) then (if 4 < (x3.length : Int) then (if 5 < (x3.length : Int) then (if 6 < (x3.length : Int) then (if 7 < (x3.length : Int) then (pleachref03_Sum_p.l0 k (([((rd x3 0) + x8) % 4294967296, ((rd x3 1) + x9) % 4294967296, ((rd x3 2) + x10) % 4294967296, ((rd x3 3) + x11) % 4294967296, ((rd x3 4) + x12) % 4294967296, ((rd x3 5) + x13) % 4294967296, ((rd x3 6) + x14) % 4294967296, ((rd x3 7) + x15) % 4294967296] : List Int)) x4 x5 (wrap64 (x6 + 64))) else (none)) else (none)) else (none)) else (none)) else (none)) else (none)) else (none)) else (none))
def pleachref03_Sum_p.l2 : Nat → List Int → ByteArray → Int → Option (ByteArray)
  | 0, _, _, _ => none
  | k + 1, x3, x21, x22 => if x22 < 8 then (if 0 ≤ x22 then (if x22 < (x3.length : Int) then ((some (([((rd x3 x22) / 16777216) % 256, ((rd x3 x22) / 65536) % 256, ((rd x3 x22) / 256) % 256, (rd x3 x22) % 256] : List Int) : List Int)).bind fun y185 => (if x21.size + (strOfNums y185).size ≤ 9223372036854775807 then (pleachref03_Sum_p.l2 k x3 (x21 ++ (strOfNums y185)) (wrap64 (x22 + 1))) else (none))) else (none)) else (none)) else (some x21)
end
def pleachref03_Sum_p.f (k : Nat) (a0 : ByteArray) : Option (ByteArray) := (pleachref03_padded.f a0).bind fun t147 => ((pleachref03_Constants.f).bind fun t148 => (pleachref03_Sum_p.l0 k (([1779033703, 3144134277, 1013904242, 2773480762, 1359893119, 2600822924, 528734635, 1541459225] : List Int)) t147 t148 0))
theorem pleachref03_Sum_p.mono_l : ∀ k, (∀ y0 y1 y2 y3, LeO (pleachref03_Sum_p.l0 k y0 y1 y2 y3) (pleachref03_Sum_p.l0 (k + 1) y0 y1 y2 y3)) ∧ (∀ y0 y1 y2 y3 y4 y5 y6 y7 y8 y9 y10 y11 y12 y13, LeO (pleachref03_Sum_p.l1 k y0 y1 y2 y3 y4 y5 y6 y7 y8 y9 y10 y11 y12 y13) (pleachref03_Sum_p.l1 (k + 1) y0 y1 y2 y3 y4 y5 y6 y7 y8 y9 y10 y11 y12 y13)) ∧ (∀ y0 y1 y2, LeO (pleachref03_Sum_p.l2 k y0 y1 y2) (pleachref03_Sum_p.l2 (k + 1) y0 y1 y2))
  | 0 => ⟨fun _ _ _ _ r h => by simp [pleachref03_Sum_p.l0] at h, fun _ _ _ _ _ _ _ _ _ _ _ _ _ _ r h => by simp [pleachref03_Sum_p.l1] at h, fun _ _ _ r h => by simp [pleachref03_Sum_p.l2] at h⟩
  | k + 1 => by
    obtain ⟨ih0, ih1, ih2⟩ := pleachref03_Sum_p.mono_l k
    refine ⟨?_, ?_, ?_⟩
    · intro y0 y1 y2 y3
      unfold pleachref03_Sum_p.l0
      repeat' first
      | (with_reducible exact ih1 _ _ _ _ _ _ _ _ _ _ _ _ _ _)
      | (with_reducible exact ih2 _ _ _)
      | (with_reducible exact LeO.refl _)
      | (with_reducible refine LeO.ite ?_ ?_)
      | (with_reducible refine LeO.bind ?_ (fun _ => ?_))
    · intro y0 y1 y2 y3 y4 y5 y6 y7 y8 y9 y10 y11 y12 y13
      unfold pleachref03_Sum_p.l1
      repeat' first
      | (with_reducible exact ih0 _ _ _ _)
      | (with_reducible exact ih1 _ _ _ _ _ _ _ _ _ _ _ _ _ _)
      | (with_reducible exact LeO.refl _)
      | (with_reducible refine LeO.ite ?_ ?_)
      | (with_reducible refine LeO.bind ?_ (fun _ => ?_))
    · intro y0 y1 y2
      unfold pleachref03_Sum_p.l2
      repeat' first
      | (with_reducible exact ih2 _ _ _)
      | (with_reducible exact LeO.refl _)
      | (with_reducible refine LeO.ite ?_ ?_)
      | (with_reducible refine LeO.bind ?_ (fun _ => ?_))
theorem pleachref03_Sum_p.mono : ∀ a0 k, LeO (pleachref03_Sum_p.f k a0) (pleachref03_Sum_p.f (k + 1) a0) := by
  intro a0 k
  obtain ⟨ih0, ih1, ih2⟩ := pleachref03_Sum_p.mono_l k
  unfold pleachref03_Sum_p.f
  repeat' first
      | (with_reducible exact ih0 _ _ _ _)
      | (with_reducible exact LeO.refl _)
      | (with_reducible refine LeO.bind ?_ (fun _ => ?_))
def pleachref03_Sum_p.T8 : Bool × List (List Nat × List Nat) := (true, [([], []), ([0], [0]), ([1], [1]), ([], []), ([3], [3]), ([4], [4]), ([], []), ([6], [6]), ([7], [7]), ([], []), ([9], [9]), ([10], [10]), ([], []), ([12], [12]), ([13], [13]), ([], []), ([15], [15]), ([16], [16]), ([], []), ([18], [18]), ([19], [19]), ([], []), ([21], [21]), ([22], [22]), ([2, 0, 1, 2], [2]), ([5, 24, 0, 1, 2, 3, 4, 5, 24], [5]), ([8, 25, 0, 1, 2, 3, 4, 5, 6, 7, 8, 24, 25], [8]), ([11, 26, 0, 1, 2, 3, 4, 5, 6, 7, 8, 9, 10, 11, 24, 25, 26], [11]), ([14, 27, 0, 1, 2, 3, 4, 5, 6, 7, 8, 9, 10, 11, 12, 13, 14, 24, 25, 26, 27], [14]), ([17, 28, 0, 1, 2, 3, 4, 5, 6, 7, 8, 9, 10, 11, 12, 13, 14, 15, 16, 17, 24, 25, 26, 27, 28], [17]), ([20, 29, 0, 1, 2, 3, 4, 5, 6, 7, 8, 9, 10, 11, 12, 13, 14, 15, 16, 17, 18, 19, 20, 24, 25, 26, 27, 28, 29], [20]), ([23, 30, 0, 1, 2, 3, 4, 5, 6, 7, 8, 9, 10, 11, 12, 13, 14, 15, 16, 17, 18, 19, 20, 21, 22, 23, 24, 25, 26, 27, 28, 29, 30], [23])])
def pleachref03_Sum_p.B8 : List Nat := [0, 1, 3, 0, 8, 24, 0, 64, 192, 0, 512, 1536, 0, 4096, 12288, 0, 32768, 98304, 0, 262144, 786432, 0, 2097152, 6291456, 7, 16777279, 50332159, 117444607, 251691007, 520355839, 1059061759, 2147483647]
theorem pleachref03_Sum_p.tab8 : rtab .any (opsOf Tryd.f28 8) = pleachref03_Sum_p.T8 := by kernel_rfl
theorem pleachref03_Sum_p.bits8 : waitsOk pleachref03_Sum_p.T8.2 pleachref03_Sum_p.B8 = true := by kernel_rfl
def pleachref03_Sum_p.T14 : Bool × List (List Nat × List Nat) := (true, [([], []), ([], []), ([1], [1]), ([], []), ([3, 2], [3]), ([2, 4], [2, 4]), ([], []), ([6, 4], [6]), ([5, 7], [5, 7]), ([0, 8], [0, 8]), ([], []), ([9, 10], [9, 10]), ([], []), ([], []), ([12, 13], [12, 13]), ([14], [14]), ([11, 15], [11, 15]), ([], []), ([], []), ([17, 18], [17, 18]), ([19], [19]), ([16, 20], [16, 20]), ([21, 7, 0, 1, 2, 3, 4, 5, 6, 7, 8, 9, 10, 11, 12, 13, 14, 15, 16, 17, 18, 19, 20, 21], [21])])
def pleachref03_Sum_p.B14 : List Nat := [0, 0, 2, 0, 14, 30, 0, 94, 254, 511, 0, 2047, 0, 0, 12288, 28672, 65535, 0, 0, 393216, 917504, 2097151, 4194303]
theorem pleachref03_Sum_p.tab14 : rtab .any (opsOf Tryd.f28 14) = pleachref03_Sum_p.T14 := by kernel_rfl
theorem pleachref03_Sum_p.bits14 : waitsOk pleachref03_Sum_p.T14.2 pleachref03_Sum_p.B14 = true := by kernel_rfl
def pleachref03_Sum_p.T24 : Bool × List (List Nat × List Nat) := (true, [([], []), ([0], [0]), ([1], [1]), ([], []), ([2, 3], [2, 3]), ([], []), ([5], [5]), ([6], [6]), ([], []), ([7, 8], [7, 8]), ([], []), ([10], [10]), ([11], [11]), ([], []), ([12, 13], [12, 13]), ([], []), ([15], [15]), ([16], [16]), ([], []), ([17, 18], [17, 18]), ([], []), ([20], [20]), ([21], [21]), ([], []), ([22, 23], [22, 23]), ([], []), ([25], [25]), ([26], [26]), ([], []), ([27, 28], [27, 28]), ([], []), ([30], [30]), ([31], [31]), ([], []), ([32, 33], [32, 33]), ([], []), ([35], [35]), ([36], [36]), ([], []), ([37, 38], [37, 38]), ([4, 9, 14, 19, 24, 29, 34, 39], [4, 9, 14, 19, 24, 29, 34, 39]), ([40, 0, 1, 2, 3, 4, 5, 6, 7, 8, 9, 10, 11, 12, 13, 14, 15, 16, 17, 18, 19, 20, 21, 22, 23, 24, 25, 26, 27, 28, 29, 30, 31, 32, 33, 34, 35, 36, 37, 38, 39, 40], [0, 5, 10, 15, 20, 25, 30, 35, 40])])
def pleachref03_Sum_p.B24 : List Nat := [0, 1, 3, 0, 15, 0, 32, 96, 0, 480, 0, 1024, 3072, 0, 15360, 0, 32768, 98304, 0, 491520, 0, 1048576, 3145728, 0, 15728640, 0, 33554432, 100663296, 0, 503316480, 0, 1073741824, 3221225472, 0, 16106127360, 0, 34359738368, 103079215104, 0, 515396075520, 1099511627775, 2199023255551]
theorem pleachref03_Sum_p.tab24 : rtab .any (opsOf Tryd.f28 24) = pleachref03_Sum_p.T24 := by kernel_rfl
theorem pleachref03_Sum_p.bits24 : waitsOk pleachref03_Sum_p.T24.2 pleachref03_Sum_p.B24 = true := by kernel_rfl
def pleachref03_Sum_p.T29 : Bool × List (List Nat × List Nat) := (true, [([], []), ([], []), ([], []), ([1, 2], [1, 2]), ([3], [3]), ([4], [4]), ([5], [5]), ([], []), ([], []), ([7, 8], [7, 8]), ([9], [9]), ([10], [10]), ([11], [11]), ([], []), ([], []), ([13, 14], [13, 14]), ([15], [15]), ([16], [16]), ([17], [17]), ([], []), ([], []), ([19, 20], [19, 20]), ([21], [21]), ([22], [22]), ([6, 12, 18, 23], [6, 12, 18, 23]), ([24], [24]), ([0, 25], [0, 25]), ([26, 0, 1, 2, 3, 4, 5, 6, 7, 8, 9, 10, 11, 12, 13, 14, 15, 16, 17, 18, 19, 20, 21, 22, 23, 24, 25, 26], [0, 26])])
def pleachref03_Sum_p.B29 : List Nat := [0, 0, 0, 6, 14, 30, 62, 0, 0, 384, 896, 1920, 3968, 0, 0, 24576, 57344, 122880, 253952, 0, 0, 1572864, 3670016, 7864320, 16777214, 33554430, 67108863, 134217727]
theorem pleachref03_Sum_p.tab29 : rtab .any (opsOf Tryd.f28 29) = pleachref03_Sum_p.T29 := by kernel_rfl
theorem pleachref03_Sum_p.bits29 : waitsOk pleachref03_Sum_p.T29.2 pleachref03_Sum_p.B29 = true := by kernel_rfl
set_option maxHeartbeats 8000000 in
set_option maxRecDepth 100000 in
theorem pleachref03_Sum_p.calls (k : Nat) (a0 : ByteArray) (r : ByteArray) (w : World) (h : pleachref03_Sum_p.f k a0 = some r) :
    Calls Tryd.prog 28 #[.string a0] w fun e w' => e = .returned (.string r) ∧ Below w.heap.size w w' := by
 have HB := Aside0.mk (Below.refl w.heap.size w)
 have H := h; unfold pleachref03_Sum_p.f at H
 clear h
 obtain ⟨y144, hy144⟩ : ∃ y_ : List Int, y_ = (([1779033703, 3144134277, 1013904242, 2773480762, 1359893119, 2600822924, 528734635, 1541459225] : List Int)) := ⟨_, rfl⟩
 rw [← hy144] at H
 have Ny144 := Aside0.mk hy144
 clear hy144
 replace H := Option.bind_eq_some_iff.mp H
 obtain ⟨t147, A20, H⟩ := H
 try simp only at H
 have A2 := Aside0.mk A20
 clear A20
 replace H := Option.bind_eq_some_iff.mp H
 obtain ⟨t148, A30, H⟩ := H
 try simp only at H
 have A3 := Aside0.mk A30
 clear A30
 have H' := Aside0.mk H
 clear H
 go_enter Tryd.func28, Tryd.ntmps28
 go_wp2_with (first | ((with_reducible refine gate_dst (N := 23) rfl ?_); refine Kd.R_lit (Kd.int .u32) _ 95 ?hg (N := 23) ?hd (xs := ([1779033703, 3144134277, 1013904242, 2773480762, 1359893119, 2600822924, 528734635, 1541459225] : List Int)) (inner := [.int .u32 1779033703, .int .u32 3144134277, .int .u32 1013904242, .int .u32 2773480762, .int .u32 1359893119, .int .u32 2600822924, .int .u32 528734635, .int .u32 1541459225]) (ok := fun _ => True) (okp := fun _ => True) ?hr ?hp (fun _ hk => hk) trivial (Below.refl _ _) (Nat.le_refl _) (by simp) ?_; (case hd => rfl); (case hg => rfl); (case hr => (go_simp; done)); (case hp => exact (Reps.one (show Kd.M (Kd.int .u32) _ _ _ 1779033703 [.int .u32 1779033703] from rfl) (Reps.one (show Kd.M (Kd.int .u32) _ _ _ 3144134277 [.int .u32 3144134277] from rfl) (Reps.one (show Kd.M (Kd.int .u32) _ _ _ 1013904242 [.int .u32 1013904242] from rfl) (Reps.one (show Kd.M (Kd.int .u32) _ _ _ 2773480762 [.int .u32 2773480762] from rfl) (Reps.one (show Kd.M (Kd.int .u32) _ _ _ 1359893119 [.int .u32 1359893119] from rfl) (Reps.one (show Kd.M (Kd.int .u32) _ _ _ 2600822924 [.int .u32 2600822924] from rfl) (Reps.one (show Kd.M (Kd.int .u32) _ _ _ 528734635 [.int .u32 528734635] from rfl) (Reps.one (show Kd.M (Kd.int .u32) _ _ _ 1541459225 [.int .u32 1541459225] from rfl) (Reps.none _ _)))))))))); intro v145 w4 ho5 hb hg_ hnew_; clear hg_ hnew_; ((rw [← Ny144.out] at ho5)); have HO146 := Aside0.mk (Kd.R_lower ho5 (below_size (M.up HB))); replace HB := M.upS HB hb; clear hb ho5) | ((with_reducible refine gate_callee (f := 46) rfl ?_); refine M.goes (some 25) Tryd.func46 #[.string a0] rfl ?_; (with_reducible refine (pleachref03_padded.calls a0 t147 _ A2.out).mono ?_); rintro e w6 ⟨rfl, hb⟩; refine ⟨_, rfl, ?_⟩; replace HO146 := M.roB HO146 hb; replace HB := M.upS HB hb; clear hb) | ((with_reducible refine gate_callee (f := 47) rfl ?_); refine M.goes (some 26) Tryd.func47 #[] rfl ?_; (with_reducible refine (pleachref03_Constants.calls  t148 _ A3.out).mono ?_); rintro e w7 ⟨v149, rfl, ho0, hb⟩; refine ⟨_, rfl, ?_⟩; have HO150 := Aside0.mk (Kd.R_lower (Kd.R_new' ho0 (Kd.R_lt (M.ro HO146))) (below_size (M.up HB))); replace HO146 := Aside0.mk (Kd.R_elder' (M.ro HO146) (Kd.R_base ho0) hb); replace HB := M.upS HB hb; clear hb ho0))
 go_loopg [3, 6] k (fun kq v3 v6 w' => ∃ (x3_1 : List Int) (x6_1 : Int), v6 = .int .i64 x6_1 ∧ Aside0 (pleachref03_Sum_p.l0 kq x3_1 t147 t148 x6_1 = some r) ∧ Aside0 (kq ≤ k) ∧ Aside0 (Kd.R (Kd.int .u32) 95 w' w.heap.size (fun k_ => some k_ ≠ (v149 : Value).ownBlock) v3 x3_1) ∧ Aside0 (Kd.R (Kd.int .u32) 95 w' w.heap.size (fun k_ => some k_ ≠ (v3 : Value).ownBlock) v149 t148) ∧ Aside0 (Below w.heap.size w w'))
 case atStart => exact ⟨(y144), (0), M.eqv, H', ⟨Nat.le_refl _⟩, ⟨by (with_reducible repeat (first | apply Kd.R_alloc | apply Kd.R_drewN | apply Kd.R_drew)); exact Kd.R_mono HO146.out (fun _ hk => hk.2)⟩, ⟨by (with_reducible repeat (first | apply Kd.R_alloc | apply Kd.R_drewN | apply Kd.R_drew)); exact Kd.R_mono HO150.out (fun _ hk => hk.2)⟩, ⟨M.up HB⟩⟩
 case round =>
  clear H'
  obtain ⟨x3_1, x6_1, rfl, HA, HK1, zaa, zab, HB⟩ := hrel
  cases gk with
  | zero => exact absurd HA.out (by simp [pleachref03_Sum_p.l0])
  | succ k1 =>
   have H := HA.out
   clear HA
   simp only [pleachref03_Sum_p.l0] at H
   by_cases c8 : x6_1 < (t147.size : Int)
   ·rw [if_pos c8] at H
    have c8b0 := decide_eq_true c8
    clear c8
    by_cases c9 : 0 ≤ x6_1
    ·rw [if_pos c9] at H
     have c9b0 := eq_true c9
     have c9b1 := decide_eq_true c9
     clear c9
     by_cases c10 : x6_1 ≤ (wrap64 (x6_1 + 64))
     ·rw [if_pos c10] at H
      have c10b0 := eq_true c10
      have c10b1 := decide_eq_true c10
      by_cases c11 : (wrap64 (x6_1 + 64)) ≤ (t147.size : Int)
      ·rw [if_pos c11] at H
       have c11b0 := eq_true c11
       have c11b1 := decide_eq_true c11
       replace H := Option.bind_eq_some_iff.mp H
       obtain ⟨t151, A120, H⟩ := H
       try simp only at H
       have A12 := Aside0.mk A120
       clear A120
       by_cases c13 : 0 < (x3_1.length : Int)
       ·rw [if_pos c13] at H
        have c13b0 := decide_eq_true c13
        have c13b1 : decide (0 < x3_1.length) = true := decide_eq_true (by omega)
        clear c13
        by_cases c14 : 1 < (x3_1.length : Int)
        ·rw [if_pos c14] at H
         have c14b0 := decide_eq_true c14
         have c14b1 : decide (1 < x3_1.length) = true := decide_eq_true (by omega)
         clear c14
         by_cases c15 : 2 < (x3_1.length : Int)
         ·rw [if_pos c15] at H
          have c15b0 := decide_eq_true c15
          have c15b1 : decide (2 < x3_1.length) = true := decide_eq_true (by omega)
          clear c15
          by_cases c16 : 3 < (x3_1.length : Int)
          ·rw [if_pos c16] at H
           have c16b0 := decide_eq_true c16
           have c16b1 : decide (3 < x3_1.length) = true := decide_eq_true (by omega)
           clear c16
           by_cases c17 : 4 < (x3_1.length : Int)
           ·rw [if_pos c17] at H
            have c17b0 := decide_eq_true c17
            have c17b1 : decide (4 < x3_1.length) = true := decide_eq_true (by omega)
            clear c17
            by_cases c18 : 5 < (x3_1.length : Int)
            ·rw [if_pos c18] at H
             have c18b0 := decide_eq_true c18
             have c18b1 : decide (5 < x3_1.length) = true := decide_eq_true (by omega)
             clear c18
             by_cases c19 : 6 < (x3_1.length : Int)
             ·rw [if_pos c19] at H
              have c19b0 := decide_eq_true c19
              have c19b1 : decide (6 < x3_1.length) = true := decide_eq_true (by omega)
              clear c19
              by_cases c20 : 7 < (x3_1.length : Int)
              ·rw [if_pos c20] at H
               have c20b0 := decide_eq_true c20
               have c20b1 : decide (7 < x3_1.length) = true := decide_eq_true (by omega)
               clear c20
               have H' := Aside0.mk H
               clear H
               try go_wp2_with (((with_reducible refine gate_callee (f := 48) rfl ?_); refine M.goes (some 38) Tryd.func48 #[.string (t147.extract (x6_1 : Int).toNat ((wrap64 (x6_1 + 64)) : Int).toNat)] rfl ?_; (with_reducible refine (pleachref03_schedule.calls (t147.extract (x6_1 : Int).toNat ((wrap64 (x6_1 + 64)) : Int).toNat) t151 _ A12.out).mono ?_); rintro e w21 ⟨v152, rfl, ho0, hb⟩; refine ⟨_, rfl, ?_⟩; have HO153 := Aside0.mk (Kd.R_lower (Kd.R_new' (Kd.R_new' ho0 (Kd.R_lt (M.ro zaa))) (Kd.R_lt (M.ro zab))) (below_size (M.up HB))); replace zaa := Aside0.mk (Kd.R_elder' (M.ro zaa) (Kd.R_base ho0) hb); replace zab := Aside0.mk (Kd.R_elder' (M.ro zab) (Kd.R_base ho0) hb); replace HB := M.upS HB hb; clear hb ho0))
               replace zaa := Aside0.mk (Kd.R_drew zaa.out); replace zab := Aside0.mk (Kd.R_drew zab.out); replace HO153 := Aside0.mk (Kd.R_drew HO153.out); replace HB := Aside0.mk (below_drew1 HB.out)
               obtain ⟨Ao23, co23, eo23⟩ := Kd.R_slice zaa.out
               ((subst eo23))
               have p154 : 0 ≤ (0 : Int) := (by omega)
               have q154 : 0 < (x3_1.length : Int) := M.dt
               obtain ⟨ad154, e154, hx154_0⟩ := Kd.at_int (Kd.R_reads' zaa.out).2.2 0 p154 q154
               cases e154
               have qi154 : (0 < x3_1.length) = True := eq_true (by omega)
               (rw [show ((0 : Int)).toNat = 0 from rfl] at hx154_0)
               rw [Addr.add_zero'] at hx154_0
               replace p154 := eq_true p154
               replace q154 := eq_true q154
               have p155 : 0 ≤ (1 : Int) := (by omega)
               have q155 : 1 < (x3_1.length : Int) := M.dt
               obtain ⟨ad155, e155, hx155_0⟩ := Kd.at_int (Kd.R_reads' zaa.out).2.2 1 p155 q155
               obtain rfl : ad154 = ad155 := (by injection e155)
               simp only [show (1 : Int).toNat = 1 from rfl, Nat.reduceMul, Nat.reduceEqDiff, Go.Addr.add, ↓reduceIte] at hx155_0
               have qi155 : (1 < x3_1.length) = True := eq_true (by omega)
               replace p155 := eq_true p155
               replace q155 := eq_true q155
               have p156 : 0 ≤ (2 : Int) := (by omega)
               have q156 : 2 < (x3_1.length : Int) := M.dt
               obtain ⟨ad156, e156, hx156_0⟩ := Kd.at_int (Kd.R_reads' zaa.out).2.2 2 p156 q156
               obtain rfl : ad154 = ad156 := (by injection e156)
               simp only [show (2 : Int).toNat = 2 from rfl, Nat.reduceMul, Nat.reduceEqDiff, Go.Addr.add, ↓reduceIte] at hx156_0
               have qi156 : (2 < x3_1.length) = True := eq_true (by omega)
               replace p156 := eq_true p156
               replace q156 := eq_true q156
               have p157 : 0 ≤ (3 : Int) := (by omega)
               have q157 : 3 < (x3_1.length : Int) := M.dt
               obtain ⟨ad157, e157, hx157_0⟩ := Kd.at_int (Kd.R_reads' zaa.out).2.2 3 p157 q157
               obtain rfl : ad154 = ad157 := (by injection e157)
               simp only [show (3 : Int).toNat = 3 from rfl, Nat.reduceMul, Nat.reduceEqDiff, Go.Addr.add, ↓reduceIte] at hx157_0
               have qi157 : (3 < x3_1.length) = True := eq_true (by omega)
               replace p157 := eq_true p157
               replace q157 := eq_true q157
               have p158 : 0 ≤ (4 : Int) := (by omega)
               have q158 : 4 < (x3_1.length : Int) := M.dt
               obtain ⟨ad158, e158, hx158_0⟩ := Kd.at_int (Kd.R_reads' zaa.out).2.2 4 p158 q158
               obtain rfl : ad154 = ad158 := (by injection e158)
               simp only [show (4 : Int).toNat = 4 from rfl, Nat.reduceMul, Nat.reduceEqDiff, Go.Addr.add, ↓reduceIte] at hx158_0
               have qi158 : (4 < x3_1.length) = True := eq_true (by omega)
               replace p158 := eq_true p158
               replace q158 := eq_true q158
               have p159 : 0 ≤ (5 : Int) := (by omega)
               have q159 : 5 < (x3_1.length : Int) := M.dt
               obtain ⟨ad159, e159, hx159_0⟩ := Kd.at_int (Kd.R_reads' zaa.out).2.2 5 p159 q159
               obtain rfl : ad154 = ad159 := (by injection e159)
               simp only [show (5 : Int).toNat = 5 from rfl, Nat.reduceMul, Nat.reduceEqDiff, Go.Addr.add, ↓reduceIte] at hx159_0
               have qi159 : (5 < x3_1.length) = True := eq_true (by omega)
               replace p159 := eq_true p159
               replace q159 := eq_true q159
               have p160 : 0 ≤ (6 : Int) := (by omega)
               have q160 : 6 < (x3_1.length : Int) := M.dt
               obtain ⟨ad160, e160, hx160_0⟩ := Kd.at_int (Kd.R_reads' zaa.out).2.2 6 p160 q160
               obtain rfl : ad154 = ad160 := (by injection e160)
               simp only [show (6 : Int).toNat = 6 from rfl, Nat.reduceMul, Nat.reduceEqDiff, Go.Addr.add, ↓reduceIte] at hx160_0
               have qi160 : (6 < x3_1.length) = True := eq_true (by omega)
               replace p160 := eq_true p160
               replace q160 := eq_true q160
               have p161 : 0 ≤ (7 : Int) := (by omega)
               have q161 : 7 < (x3_1.length : Int) := M.dt
               obtain ⟨ad161, e161, hx161_0⟩ := Kd.at_int (Kd.R_reads' zaa.out).2.2 7 p161 q161
               obtain rfl : ad154 = ad161 := (by injection e161)
               simp only [show (7 : Int).toNat = 7 from rfl, Nat.reduceMul, Nat.reduceEqDiff, Go.Addr.add, ↓reduceIte] at hx161_0
               have qi161 : (7 < x3_1.length) = True := eq_true (by omega)
               replace p161 := eq_true p161
               replace q161 := eq_true q161
               refine start_ (n := 32) (S := fun w' => w'.cell? ad154 = some (.int .u32 (rd x3_1 0)) ∧ w'.cell? ⟨ad154.block, ad154.off + 1, none⟩ = some (.int .u32 (rd x3_1 1)) ∧ w'.cell? ⟨ad154.block, ad154.off + 2, none⟩ = some (.int .u32 (rd x3_1 2)) ∧ w'.cell? ⟨ad154.block, ad154.off + 3, none⟩ = some (.int .u32 (rd x3_1 3)) ∧ w'.cell? ⟨ad154.block, ad154.off + 4, none⟩ = some (.int .u32 (rd x3_1 4)) ∧ w'.cell? ⟨ad154.block, ad154.off + 5, none⟩ = some (.int .u32 (rd x3_1 5)) ∧ w'.cell? ⟨ad154.block, ad154.off + 6, none⟩ = some (.int .u32 (rd x3_1 6)) ∧ w'.cell? ⟨ad154.block, ad154.off + 7, none⟩ = some (.int .u32 (rd x3_1 7))) (ds := []) (M.tf [0, 32]) (by kernel_rfl) rfl rfl ⟨hx154_0, hx155_0, hx156_0, hx157_0, hx158_0, hx159_0, hx160_0, hx161_0⟩ (fun hHeld => ?_); refine with_tabW pleachref03_Sum_p.tab8 pleachref03_Sum_p.bits8 (fun HT_ HW_ => ?_)
               generalize w21.drew = w22 at zaa zab HO153 HB hx154_0 hx155_0 hx156_0 hx157_0 hx158_0 hx159_0 hx160_0 hx161_0 hHeld ⊢
               refine M.pu 0 39 [1, 31] HT_ ?_
               refine M.pu 1 40 [2, 30] HT_ ?_
               refine M.pu 3 42 [2, 1, 1, 28] HT_ ?_
               refine M.pu 4 43 [2, 1, 2, 27] HT_ ?_
               refine M.pu 6 45 [2, 1, 2, 1, 1, 25] HT_ ?_
               refine M.pu 7 46 [2, 1, 2, 1, 2, 24] HT_ ?_
               refine M.pu 9 48 [2, 1, 2, 1, 2, 1, 1, 22] HT_ ?_
               refine M.pu 10 49 [2, 1, 2, 1, 2, 1, 2, 21] HT_ ?_
               refine M.pu 12 51 [2, 1, 2, 1, 2, 1, 2, 1, 1, 19] HT_ ?_
               refine M.pu 13 52 [2, 1, 2, 1, 2, 1, 2, 1, 2, 18] HT_ ?_
               refine M.pu 15 54 [2, 1, 2, 1, 2, 1, 2, 1, 2, 1, 1, 16] HT_ ?_
               refine M.pu 16 55 [2, 1, 2, 1, 2, 1, 2, 1, 2, 1, 2, 15] HT_ ?_
               refine M.pu 18 57 [2, 1, 2, 1, 2, 1, 2, 1, 2, 1, 2, 1, 1, 13] HT_ ?_
               refine M.pu 19 58 [2, 1, 2, 1, 2, 1, 2, 1, 2, 1, 2, 1, 2, 12] HT_ ?_
               refine M.pu 21 60 [2, 1, 2, 1, 2, 1, 2, 1, 2, 1, 2, 1, 2, 1, 1, 10] HT_ ?_
               refine M.pu 22 61 [2, 1, 2, 1, 2, 1, 2, 1, 2, 1, 2, 1, 2, 1, 2, 9] HT_ ?_
               refine M.tk 2 41 [5, 1, 2, 1, 2, 1, 2, 1, 2, 1, 2, 1, 2, 9] HT_ HW_ hHeld ?_
               refine M.pu 24 8 [5, 1, 2, 1, 2, 1, 2, 1, 2, 1, 2, 1, 2, 1, 1, 7] HT_ ?_
               refine M.tk 5 44 [8, 1, 2, 1, 2, 1, 2, 1, 2, 1, 2, 1, 1, 7] HT_ HW_ hHeld ?_
               refine M.pu 25 9 [8, 1, 2, 1, 2, 1, 2, 1, 2, 1, 2, 1, 2, 6] HT_ ?_
               refine M.tk 8 47 [11, 1, 2, 1, 2, 1, 2, 1, 2, 1, 2, 6] HT_ HW_ hHeld ?_
               refine M.pu 26 10 [11, 1, 2, 1, 2, 1, 2, 1, 2, 1, 3, 5] HT_ ?_
               refine M.tk 11 50 [14, 1, 2, 1, 2, 1, 2, 1, 3, 5] HT_ HW_ hHeld ?_
               refine M.pu 27 11 [14, 1, 2, 1, 2, 1, 2, 1, 4, 4] HT_ ?_
               refine M.tk 14 53 [17, 1, 2, 1, 2, 1, 4, 4] HT_ HW_ hHeld ?_
               refine M.pu 28 12 [17, 1, 2, 1, 2, 1, 5, 3] HT_ ?_
               refine M.tk 17 56 [20, 1, 2, 1, 5, 3] HT_ HW_ hHeld ?_
               refine M.pu 29 13 [20, 1, 2, 1, 6, 2] HT_ ?_
               refine M.tk 20 59 [23, 1, 6, 2] HT_ HW_ hHeld ?_
               refine M.pu 30 14 [23, 1, 7, 1] HT_ ?_
               refine M.tk 23 62 [31, 1] HT_ HW_ hHeld ?_
               refine M.pu 31 15 [32] HT_ ?_
               refine done_ (done_of HT_.out (by kernel_rfl)) ?_
               try go_wp2
               go_loopg [8, 9, 10, 11, 12, 13, 14, 15, 16] k1 (fun kq v8 v9 v10 v11 v12 v13 v14 v15 v16 w' => ∃ (x8_2 : Int) (x9_2 : Int) (x10_2 : Int) (x11_2 : Int) (x12_2 : Int) (x13_2 : Int) (x14_2 : Int) (x15_2 : Int) (x16_2 : Int), v8 = .int .u32 x8_2 ∧ v9 = .int .u32 x9_2 ∧ v10 = .int .u32 x10_2 ∧ v11 = .int .u32 x11_2 ∧ v12 = .int .u32 x12_2 ∧ v13 = .int .u32 x13_2 ∧ v14 = .int .u32 x14_2 ∧ v15 = .int .u32 x15_2 ∧ v16 = .int .i64 x16_2 ∧ Aside0 (pleachref03_Sum_p.l1 kq x3_1 t147 t148 x6_1 t151 x8_2 x9_2 x10_2 x11_2 x12_2 x13_2 x14_2 x15_2 x16_2 = some r) ∧ Aside0 (kq ≤ k1) ∧ Aside0 (Kd.R (Kd.int .u32) 95 w' w.heap.size (fun k_ => some k_ ≠ (v149 : Value).ownBlock ∧ some k_ ≠ (v152 : Value).ownBlock) (.slice (some ad154) x3_1.length co23) x3_1) ∧ Aside0 (Kd.R (Kd.int .u32) 95 w' w.heap.size (fun k_ => some k_ ≠ ((.slice (some ad154) x3_1.length co23) : Value).ownBlock ∧ some k_ ≠ (v152 : Value).ownBlock) v149 t148) ∧ Aside0 (Kd.R (Kd.int .u32) 95 w' w.heap.size (fun k_ => some k_ ≠ ((.slice (some ad154) x3_1.length co23) : Value).ownBlock ∧ some k_ ≠ (v149 : Value).ownBlock) v152 t151) ∧ Aside0 (Below w.heap.size w w'))
               case atStart => exact ⟨(rd x3_1 0), (rd x3_1 1), (rd x3_1 2), (rd x3_1 3), (rd x3_1 4), (rd x3_1 5), (rd x3_1 6), (rd x3_1 7), (0), M.eqv, M.eqv, M.eqv, M.eqv, M.eqv, M.eqv, M.eqv, M.eqv, M.eqv, H', ⟨Nat.le_refl _⟩, ⟨by (with_reducible repeat (first | apply Kd.R_alloc | apply Kd.R_drewN | apply Kd.R_drew)); exact zaa.out⟩, ⟨by (with_reducible repeat (first | apply Kd.R_alloc | apply Kd.R_drewN | apply Kd.R_drew)); exact zab.out⟩, ⟨by (with_reducible repeat (first | apply Kd.R_alloc | apply Kd.R_drewN | apply Kd.R_drew)); exact Kd.R_mono HO153.out (fun _ hk => ⟨hk.1.2, hk.2⟩)⟩, ⟨M.up HB⟩⟩
               case round =>
                clear H'
                clear c8b0 c9b0 c9b1 c10 c10b0 c10b1 c11 c11b0 c11b1 c13b0 c13b1 c14b0 c14b1 c15b0 c15b1 c16b0 c16b1 c17b0 c17b1 c18b0 c18b1 c19b0 c19b1 c20b0 c20b1 hx154_0 hx155_0 hx156_0 hx157_0 hx158_0 hx159_0 hx160_0 hx161_0 p154 p155 p156 p157 p158 p159 p160 p161 q154 q155 q156 q157 q158 q159 q160 q161
                obtain ⟨x8_2, x9_2, x10_2, x11_2, x12_2, x13_2, x14_2, x15_2, x16_2, rfl, rfl, rfl, rfl, rfl, rfl, rfl, rfl, rfl, HA, HK2, zaa, zab, zac, HB⟩ := hrel
                cases gk with
                | zero => exact absurd HA.out (by simp [pleachref03_Sum_p.l1])
                | succ k2 =>
                 have H := HA.out
                 clear HA
                 simp only [pleachref03_Sum_p.l1] at H
                 by_cases c24 : x16_2 < 64
                 ·rw [if_pos c24] at H
                  have c24b0 := decide_eq_true c24
                  clear c24
                  replace H := Option.bind_eq_some_iff.mp H
                  obtain ⟨t173, A250, H⟩ := H
                  try simp only at H
                  have A25 := Aside0.mk A250
                  clear A250
                  replace H := Option.bind_eq_some_iff.mp H
                  obtain ⟨t174, A260, H⟩ := H
                  try simp only at H
                  have A26 := Aside0.mk A260
                  clear A260
                  replace H := Option.bind_eq_some_iff.mp H
                  obtain ⟨t175, A270, H⟩ := H
                  try simp only at H
                  have A27 := Aside0.mk A270
                  clear A270
                  by_cases c28 : 0 ≤ x16_2
                  ·rw [if_pos c28] at H
                   have c28b0 := decide_eq_true c28
                   clear c28
                   by_cases c29 : x16_2 < (t148.length : Int)
                   ·rw [if_pos c29] at H
                    have c29b0 := decide_eq_true c29
                    clear c29
                    by_cases c30 : x16_2 < (t151.length : Int)
                    ·rw [if_pos c30] at H
                     have c30b0 := decide_eq_true c30
                     clear c30
                     replace H := Option.bind_eq_some_iff.mp H
                     obtain ⟨t178, A310, H⟩ := H
                     try simp only at H
                     have A31 := Aside0.mk A310
                     clear A310
                     replace H := Option.bind_eq_some_iff.mp H
                     obtain ⟨t179, A320, H⟩ := H
                     try simp only at H
                     have A32 := Aside0.mk A320
                     clear A320
                     replace H := Option.bind_eq_some_iff.mp H
                     obtain ⟨t180, A330, H⟩ := H
                     try simp only at H
                     have A33 := Aside0.mk A330
                     clear A330
                     have H' := Aside0.mk H
                     clear H
                     try go_wp2
                     replace zaa := Aside0.mk (Kd.R_drew zaa.out); replace zab := Aside0.mk (Kd.R_drew zab.out); replace zac := Aside0.mk (Kd.R_drew zac.out); replace HB := Aside0.mk (below_drew1 HB.out)
                     obtain ⟨Ao35, co35, eo35⟩ := Kd.R_slice zab.out
                     ((subst eo35))
                     have p176 : 0 ≤ (x16_2 : Int) := M.dt
                     have q176 : x16_2 < (t148.length : Int) := M.dt
                     obtain ⟨ad176, e176, hx176_0⟩ := Kd.at_int (Kd.R_reads' zab.out).2.2 x16_2 p176 q176
                     cases e176
                     replace p176 := eq_true p176
                     replace q176 := eq_true q176
                     obtain ⟨Ao36, co36, eo36⟩ := Kd.R_slice zac.out
                     ((subst eo36))
                     have p177 : 0 ≤ (x16_2 : Int) := M.dt
                     have q177 : x16_2 < (t151.length : Int) := M.dt
                     obtain ⟨ad177, e177, hx177_0⟩ := Kd.at_int (Kd.R_reads' zac.out).2.2 x16_2 p177 q177
                     cases e177
                     replace p177 := eq_true p177
                     replace q177 := eq_true q177
                     refine start_ (n := 23) (S := fun w' => w'.cell? (ad176.add (x16_2).toNat) = some (.int .u32 (rd t148 x16_2)) ∧ w'.cell? (ad177.add (x16_2).toNat) = some (.int .u32 (rd t151 x16_2))) (ds := []) (M.tf [0, 23]) (by kernel_rfl) rfl rfl ⟨hx176_0, hx177_0⟩ (fun hHeld => ?_); refine with_tabW pleachref03_Sum_p.tab14 pleachref03_Sum_p.bits14 (fun HT_ HW_ => ?_)
                     generalize wr.drew = w34 at zaa zab zac HB hx176_0 hx177_0 hHeld ⊢
                     refine M.pu 0 86 [1, 22] HT_ ?_
                     refine M.pu 1 87 [2, 21] HT_ ?_
                     refine M.pu 3 89 [2, 1, 1, 19] HT_ ?_
                     refine M.pu 6 92 [2, 1, 1, 2, 1, 16] HT_ ?_
                     refine M.pu 10 96 [2, 1, 1, 2, 1, 3, 1, 12] HT_ ?_
                     refine M.pu 12 98 [2, 1, 1, 2, 1, 3, 1, 1, 1, 10] HT_ ?_
                     refine M.pu 13 99 [2, 1, 1, 2, 1, 3, 1, 1, 2, 9] HT_ ?_
                     refine M.pu 14 100 [2, 1, 1, 2, 1, 3, 1, 1, 3, 8] HT_ ?_
                     refine M.pu 17 103 [2, 1, 1, 2, 1, 3, 1, 1, 3, 2, 1, 5] HT_ ?_
                     refine M.pu 18 104 [2, 1, 1, 2, 1, 3, 1, 1, 3, 2, 2, 4] HT_ ?_
                     refine M.pu 19 105 [2, 1, 1, 2, 1, 3, 1, 1, 3, 2, 3, 3] HT_ ?_
                     refine M.tk 15 101 [2, 1, 1, 2, 1, 3, 1, 1, 4, 1, 3, 3] HT_ HW_ hHeld ?_
                     refine M.tk 20 106 [2, 1, 1, 2, 1, 3, 1, 1, 4, 1, 4, 2] HT_ HW_ hHeld ?_
                     refine one_ (i := 2) (N := some 88) (M.tf [4, 2, 1, 3, 1, 1, 4, 1, 4, 2]) rfl rfl (one_of HT_.out (by kernel_rfl)) (by decide) (fun K hK => ?_)
                     refine goes_ Tryd.func49 (by kernel_rfl) rfl #[.int .u32 x12_2, .int .u64 6] (by rfl) rfl rfl (by simp only [List.map_toArray, List.map_cons, List.map_nil]; (rfl)) ?_
                     with_reducible refine (pleachref03_turn.calls x12_2 6 t173 _ A25.out).mono ?_
                     rintro e w' ⟨rfl, ⟨nd, rfl⟩⟩
                     refine ⟨_, rfl, ?_⟩
                     refine hK.out _ _ ⟨hHeld.1, hHeld.2⟩ (fun hHeld => ?_)
                     clear hK K
                     refine norm_ (a' := ?_) ?_ ?_
                     rotate_left
                     ·show Act.put _ (some 88) _ = _
                      simp only [Act.put, List.setIfInBounds_toArray, List.set_cons_zero, List.set_cons_succ, i64_w, i32_w]
                      rfl
                     refine one_ (i := 4) (N := some 90) (M.tf [5, 1, 1, 3, 1, 1, 4, 1, 4, 2]) rfl rfl (one_of HT_.out (by kernel_rfl)) (by decide) (fun K hK => ?_)
                     refine goes_ Tryd.func49 (by kernel_rfl) rfl #[.int .u32 x12_2, .int .u64 11] (by rfl) rfl rfl (by simp only [List.map_toArray, List.map_cons, List.map_nil]; (rfl)) ?_
                     with_reducible refine (pleachref03_turn.calls x12_2 11 t174 _ A26.out).mono ?_
                     rintro e w' ⟨rfl, ⟨nd, rfl⟩⟩
                     refine ⟨_, rfl, ?_⟩
                     refine hK.out _ _ ⟨hHeld.1, hHeld.2⟩ (fun hHeld => ?_)
                     clear hK K
                     refine norm_ (a' := ?_) ?_ ?_
                     rotate_left
                     ·show Act.put _ (some 90) _ = _
                      simp only [Act.put, List.setIfInBounds_toArray, List.set_cons_zero, List.set_cons_succ, i64_w, i32_w]
                      rfl
                     refine M.pu 5 91 [7, 3, 1, 1, 4, 1, 4, 2] HT_ ?_
                     refine one_ (i := 7) (N := some 93) (M.tf [8, 2, 1, 1, 4, 1, 4, 2]) rfl rfl (one_of HT_.out (by kernel_rfl)) (by decide) (fun K hK => ?_)
                     refine goes_ Tryd.func49 (by kernel_rfl) rfl #[.int .u32 x12_2, .int .u64 25] (by rfl) rfl rfl (by simp only [List.map_toArray, List.map_cons, List.map_nil]; (rfl)) ?_
                     with_reducible refine (pleachref03_turn.calls x12_2 25 t175 _ A27.out).mono ?_
                     rintro e w' ⟨rfl, ⟨nd, rfl⟩⟩
                     refine ⟨_, rfl, ?_⟩
                     refine hK.out _ _ ⟨hHeld.1, hHeld.2⟩ (fun hHeld => ?_)
                     clear hK K
                     refine norm_ (a' := ?_) ?_ ?_
                     rotate_left
                     ·show Act.put _ (some 93) _ = _
                      simp only [Act.put, List.setIfInBounds_toArray, List.set_cons_zero, List.set_cons_succ, i64_w, i32_w]
                      rfl
                     refine M.pu 8 94 [9, 1, 1, 1, 4, 1, 4, 2] HT_ ?_
                     refine M.pu 9 95 [11, 1, 4, 1, 4, 2] HT_ ?_
                     refine M.pu 11 97 [16, 1, 4, 2] HT_ ?_
                     refine M.pu 16 102 [21, 2] HT_ ?_
                     refine M.pu 21 107 [22, 1] HT_ ?_
                     refine M.pu 22 19 [23] HT_ ?_
                     refine done_ (done_of HT_.out (by kernel_rfl)) ?_
                     try go_wp2_with (first | ((with_reducible refine gate_callee (f := 49) rfl ?_); refine M.goes (some 109) Tryd.func49 #[.int .u32 x8_2, .int .u64 2] rfl ?_; (with_reducible refine (pleachref03_turn.calls x8_2 2 t178 _ A31.out).mono ?_); rintro e w' ⟨rfl, ⟨nd, rfl⟩⟩; refine ⟨_, rfl, ?_⟩) | ((with_reducible refine gate_callee (f := 49) rfl ?_); refine M.goes (some 111) Tryd.func49 #[.int .u32 x8_2, .int .u64 13] rfl ?_; (with_reducible refine (pleachref03_turn.calls x8_2 13 t179 _ A32.out).mono ?_); rintro e w' ⟨rfl, ⟨nd, rfl⟩⟩; refine ⟨_, rfl, ?_⟩) | ((with_reducible refine gate_callee (f := 49) rfl ?_); refine M.goes (some 114) Tryd.func49 #[.int .u32 x8_2, .int .u64 22] rfl ?_; (with_reducible refine (pleachref03_turn.calls x8_2 22 t180 _ A33.out).mono ?_); rintro e w' ⟨rfl, ⟨nd, rfl⟩⟩; refine ⟨_, rfl, ?_⟩))
                     go_roundg k2
                     case measure => have := HK1.out; have := HK2.out; omega
                     case rel => exact ⟨((((((((((x15_2 + (Go.bits .xor .u32 (Go.bits .xor .u32 t173 t174) t175)) % 4294967296) + (Go.bits .or .u32 (Go.bits .and .u32 x12_2 x13_2) (Go.bits .and .u32 ((4294967295 - x12_2) % 4294967296) x14_2))) % 4294967296) + (rd t148 x16_2)) % 4294967296) + (rd t151 x16_2)) % 4294967296) + (((Go.bits .xor .u32 (Go.bits .xor .u32 t178 t179) t180) + (Go.bits .or .u32 (Go.bits .or .u32 (Go.bits .and .u32 x8_2 x9_2) (Go.bits .and .u32 x8_2 x10_2)) (Go.bits .and .u32 x9_2 x10_2))) % 4294967296)) % 4294967296), (x8_2), (x9_2), (x10_2), ((x11_2 + ((((((((x15_2 + (Go.bits .xor .u32 (Go.bits .xor .u32 t173 t174) t175)) % 4294967296) + (Go.bits .or .u32 (Go.bits .and .u32 x12_2 x13_2) (Go.bits .and .u32 ((4294967295 - x12_2) % 4294967296) x14_2))) % 4294967296) + (rd t148 x16_2)) % 4294967296) + (rd t151 x16_2)) % 4294967296)) % 4294967296), (x12_2), (x13_2), (x14_2), (wrap64 (x16_2 + 1)), M.eqv, M.eqv, M.eqv, M.eqv, M.eqv, M.eqv, M.eqv, M.eqv, M.eqv, H', ⟨by have := HK1.out; have := HK2.out; omega⟩, ⟨by (with_reducible repeat ((apply Kd.R_drewN))); exact zaa.out⟩, ⟨by (with_reducible repeat ((apply Kd.R_drewN))); exact zab.out⟩, ⟨by (with_reducible repeat ((apply Kd.R_drewN))); exact zac.out⟩, ⟨M.up HB⟩⟩
                    ·exact M.nf c30 H
                   ·exact M.nf c29 H
                  ·exact M.nf c28 H
                 ·rw [if_neg c24] at H
                  have c24b0 := decide_eq_false c24
                  clear c24
                  by_cases c37 : 0 < (x3_1.length : Int)
                  ·rw [if_pos c37] at H
                   have c37b0 := decide_eq_true c37
                   have c37b1 : decide (0 < x3_1.length) = true := decide_eq_true (by omega)
                   clear c37
                   by_cases c38 : 1 < (x3_1.length : Int)
                   ·rw [if_pos c38] at H
                    have c38b0 := decide_eq_true c38
                    have c38b1 : decide (1 < x3_1.length) = true := decide_eq_true (by omega)
                    clear c38
                    by_cases c39 : 2 < (x3_1.length : Int)
                    ·rw [if_pos c39] at H
                     have c39b0 := decide_eq_true c39
                     have c39b1 : decide (2 < x3_1.length) = true := decide_eq_true (by omega)
                     clear c39
                     by_cases c40 : 3 < (x3_1.length : Int)
                     ·rw [if_pos c40] at H
                      have c40b0 := decide_eq_true c40
                      have c40b1 : decide (3 < x3_1.length) = true := decide_eq_true (by omega)
                      clear c40
                      by_cases c41 : 4 < (x3_1.length : Int)
                      ·rw [if_pos c41] at H
                       have c41b0 := decide_eq_true c41
                       have c41b1 : decide (4 < x3_1.length) = true := decide_eq_true (by omega)
                       clear c41
                       by_cases c42 : 5 < (x3_1.length : Int)
                       ·rw [if_pos c42] at H
                        have c42b0 := decide_eq_true c42
                        have c42b1 : decide (5 < x3_1.length) = true := decide_eq_true (by omega)
                        clear c42
                        by_cases c43 : 6 < (x3_1.length : Int)
                        ·rw [if_pos c43] at H
                         have c43b0 := decide_eq_true c43
                         have c43b1 : decide (6 < x3_1.length) = true := decide_eq_true (by omega)
                         clear c43
                         by_cases c44 : 7 < (x3_1.length : Int)
                         ·rw [if_pos c44] at H
                          have c44b0 := decide_eq_true c44
                          have c44b1 : decide (7 < x3_1.length) = true := decide_eq_true (by omega)
                          clear c44
                          obtain ⟨y170, hy170⟩ : ∃ y_ : List Int, y_ = (([((rd x3_1 0) + x8_2) % 4294967296, ((rd x3_1 1) + x9_2) % 4294967296, ((rd x3_1 2) + x10_2) % 4294967296, ((rd x3_1 3) + x11_2) % 4294967296, ((rd x3_1 4) + x12_2) % 4294967296, ((rd x3_1 5) + x13_2) % 4294967296, ((rd x3_1 6) + x14_2) % 4294967296, ((rd x3_1 7) + x15_2) % 4294967296] : List Int)) := ⟨_, rfl⟩
                          rw [← hy170] at H
                          have Ny170 := Aside0.mk hy170
                          clear hy170
                          have H' := Aside0.mk H
                          clear H
                          try go_wp2
                          replace zaa := Aside0.mk (Kd.R_drew zaa.out); replace zab := Aside0.mk (Kd.R_drew zab.out); replace zac := Aside0.mk (Kd.R_drew zac.out); replace HB := Aside0.mk (below_drew1 HB.out)
                          have p162 : 0 ≤ (0 : Int) := (by omega)
                          have q162 : 0 < (x3_1.length : Int) := M.dt
                          obtain ⟨ad162, e162, hx162_0⟩ := Kd.at_int (Kd.R_reads' zaa.out).2.2 0 p162 q162
                          obtain rfl : ad154 = ad162 := (by injection e162)
                          have qi162 : (0 < x3_1.length) = True := eq_true (by omega)
                          (rw [show ((0 : Int)).toNat = 0 from rfl] at hx162_0)
                          rw [Addr.add_zero'] at hx162_0
                          replace p162 := eq_true p162
                          replace q162 := eq_true q162
                          have p163 : 0 ≤ (1 : Int) := (by omega)
                          have q163 : 1 < (x3_1.length : Int) := M.dt
                          obtain ⟨ad163, e163, hx163_0⟩ := Kd.at_int (Kd.R_reads' zaa.out).2.2 1 p163 q163
                          obtain rfl : ad154 = ad163 := (by injection e163)
                          simp only [show (1 : Int).toNat = 1 from rfl, Nat.reduceMul, Nat.reduceEqDiff, Go.Addr.add, ↓reduceIte] at hx163_0
                          have qi163 : (1 < x3_1.length) = True := eq_true (by omega)
                          replace p163 := eq_true p163
                          replace q163 := eq_true q163
                          have p164 : 0 ≤ (2 : Int) := (by omega)
                          have q164 : 2 < (x3_1.length : Int) := M.dt
                          obtain ⟨ad164, e164, hx164_0⟩ := Kd.at_int (Kd.R_reads' zaa.out).2.2 2 p164 q164
                          obtain rfl : ad154 = ad164 := (by injection e164)
                          simp only [show (2 : Int).toNat = 2 from rfl, Nat.reduceMul, Nat.reduceEqDiff, Go.Addr.add, ↓reduceIte] at hx164_0
                          have qi164 : (2 < x3_1.length) = True := eq_true (by omega)
                          replace p164 := eq_true p164
                          replace q164 := eq_true q164
                          have p165 : 0 ≤ (3 : Int) := (by omega)
                          have q165 : 3 < (x3_1.length : Int) := M.dt
                          obtain ⟨ad165, e165, hx165_0⟩ := Kd.at_int (Kd.R_reads' zaa.out).2.2 3 p165 q165
                          obtain rfl : ad154 = ad165 := (by injection e165)
                          simp only [show (3 : Int).toNat = 3 from rfl, Nat.reduceMul, Nat.reduceEqDiff, Go.Addr.add, ↓reduceIte] at hx165_0
                          have qi165 : (3 < x3_1.length) = True := eq_true (by omega)
                          replace p165 := eq_true p165
                          replace q165 := eq_true q165
                          have p166 : 0 ≤ (4 : Int) := (by omega)
                          have q166 : 4 < (x3_1.length : Int) := M.dt
                          obtain ⟨ad166, e166, hx166_0⟩ := Kd.at_int (Kd.R_reads' zaa.out).2.2 4 p166 q166
                          obtain rfl : ad154 = ad166 := (by injection e166)
                          simp only [show (4 : Int).toNat = 4 from rfl, Nat.reduceMul, Nat.reduceEqDiff, Go.Addr.add, ↓reduceIte] at hx166_0
                          have qi166 : (4 < x3_1.length) = True := eq_true (by omega)
                          replace p166 := eq_true p166
                          replace q166 := eq_true q166
                          have p167 : 0 ≤ (5 : Int) := (by omega)
                          have q167 : 5 < (x3_1.length : Int) := M.dt
                          obtain ⟨ad167, e167, hx167_0⟩ := Kd.at_int (Kd.R_reads' zaa.out).2.2 5 p167 q167
                          obtain rfl : ad154 = ad167 := (by injection e167)
                          simp only [show (5 : Int).toNat = 5 from rfl, Nat.reduceMul, Nat.reduceEqDiff, Go.Addr.add, ↓reduceIte] at hx167_0
                          have qi167 : (5 < x3_1.length) = True := eq_true (by omega)
                          replace p167 := eq_true p167
                          replace q167 := eq_true q167
                          have p168 : 0 ≤ (6 : Int) := (by omega)
                          have q168 : 6 < (x3_1.length : Int) := M.dt
                          obtain ⟨ad168, e168, hx168_0⟩ := Kd.at_int (Kd.R_reads' zaa.out).2.2 6 p168 q168
                          obtain rfl : ad154 = ad168 := (by injection e168)
                          simp only [show (6 : Int).toNat = 6 from rfl, Nat.reduceMul, Nat.reduceEqDiff, Go.Addr.add, ↓reduceIte] at hx168_0
                          have qi168 : (6 < x3_1.length) = True := eq_true (by omega)
                          replace p168 := eq_true p168
                          replace q168 := eq_true q168
                          have p169 : 0 ≤ (7 : Int) := (by omega)
                          have q169 : 7 < (x3_1.length : Int) := M.dt
                          obtain ⟨ad169, e169, hx169_0⟩ := Kd.at_int (Kd.R_reads' zaa.out).2.2 7 p169 q169
                          obtain rfl : ad154 = ad169 := (by injection e169)
                          simp only [show (7 : Int).toNat = 7 from rfl, Nat.reduceMul, Nat.reduceEqDiff, Go.Addr.add, ↓reduceIte] at hx169_0
                          have qi169 : (7 < x3_1.length) = True := eq_true (by omega)
                          replace p169 := eq_true p169
                          replace q169 := eq_true q169
                          refine start_ (n := 42) (S := fun w' => w'.cell? ad154 = some (.int .u32 (rd x3_1 0)) ∧ w'.cell? ⟨ad154.block, ad154.off + 1, none⟩ = some (.int .u32 (rd x3_1 1)) ∧ w'.cell? ⟨ad154.block, ad154.off + 2, none⟩ = some (.int .u32 (rd x3_1 2)) ∧ w'.cell? ⟨ad154.block, ad154.off + 3, none⟩ = some (.int .u32 (rd x3_1 3)) ∧ w'.cell? ⟨ad154.block, ad154.off + 4, none⟩ = some (.int .u32 (rd x3_1 4)) ∧ w'.cell? ⟨ad154.block, ad154.off + 5, none⟩ = some (.int .u32 (rd x3_1 5)) ∧ w'.cell? ⟨ad154.block, ad154.off + 6, none⟩ = some (.int .u32 (rd x3_1 6)) ∧ w'.cell? ⟨ad154.block, ad154.off + 7, none⟩ = some (.int .u32 (rd x3_1 7))) (ds := []) (M.tf [0, 42]) (by kernel_rfl) rfl rfl ⟨hx162_0, hx163_0, hx164_0, hx165_0, hx166_0, hx167_0, hx168_0, hx169_0⟩ (fun hHeld => ?_); refine with_tabW pleachref03_Sum_p.tab24 pleachref03_Sum_p.bits24 (fun HT_ HW_ => ?_)
                          generalize wr.drew = w45 at zaa zab zac HB hx162_0 hx163_0 hx164_0 hx165_0 hx166_0 hx167_0 hx168_0 hx169_0 hHeld ⊢
                          refine M.pu 0 130 [1, 41] HT_ ?_
                          refine M.pu 1 131 [2, 40] HT_ ?_
                          refine M.pu 3 133 [2, 1, 1, 38] HT_ ?_
                          refine M.pu 5 135 [2, 1, 1, 1, 1, 36] HT_ ?_
                          refine M.pu 6 136 [2, 1, 1, 1, 2, 35] HT_ ?_
                          refine M.pu 8 138 [2, 1, 1, 1, 2, 1, 1, 33] HT_ ?_
                          refine M.pu 10 140 [2, 1, 1, 1, 2, 1, 1, 1, 1, 31] HT_ ?_
                          refine M.pu 11 141 [2, 1, 1, 1, 2, 1, 1, 1, 2, 30] HT_ ?_
                          refine M.pu 13 143 [2, 1, 1, 1, 2, 1, 1, 1, 2, 1, 1, 28] HT_ ?_
                          refine M.pu 15 145 [2, 1, 1, 1, 2, 1, 1, 1, 2, 1, 1, 1, 1, 26] HT_ ?_
                          refine M.pu 16 146 [2, 1, 1, 1, 2, 1, 1, 1, 2, 1, 1, 1, 2, 25] HT_ ?_
                          refine M.pu 18 148 [2, 1, 1, 1, 2, 1, 1, 1, 2, 1, 1, 1, 2, 1, 1, 23] HT_ ?_
                          refine M.pu 20 150 [2, 1, 1, 1, 2, 1, 1, 1, 2, 1, 1, 1, 2, 1, 1, 1, 1, 21] HT_ ?_
                          refine M.pu 21 151 [2, 1, 1, 1, 2, 1, 1, 1, 2, 1, 1, 1, 2, 1, 1, 1, 2, 20] HT_ ?_
                          refine M.pu 23 153 [2, 1, 1, 1, 2, 1, 1, 1, 2, 1, 1, 1, 2, 1, 1, 1, 2, 1, 1, 18] HT_ ?_
                          refine M.pu 25 155 [2, 1, 1, 1, 2, 1, 1, 1, 2, 1, 1, 1, 2, 1, 1, 1, 2, 1, 1, 1, 1, 16] HT_ ?_
                          refine M.pu 26 156 [2, 1, 1, 1, 2, 1, 1, 1, 2, 1, 1, 1, 2, 1, 1, 1, 2, 1, 1, 1, 2, 15] HT_ ?_
                          refine M.pu 28 158 [2, 1, 1, 1, 2, 1, 1, 1, 2, 1, 1, 1, 2, 1, 1, 1, 2, 1, 1, 1, 2, 1, 1, 13] HT_ ?_
                          refine M.pu 30 160 [2, 1, 1, 1, 2, 1, 1, 1, 2, 1, 1, 1, 2, 1, 1, 1, 2, 1, 1, 1, 2, 1, 1, 1, 1, 11] HT_ ?_
                          refine M.pu 31 161 [2, 1, 1, 1, 2, 1, 1, 1, 2, 1, 1, 1, 2, 1, 1, 1, 2, 1, 1, 1, 2, 1, 1, 1, 2, 10] HT_ ?_
                          refine M.pu 33 163 [2, 1, 1, 1, 2, 1, 1, 1, 2, 1, 1, 1, 2, 1, 1, 1, 2, 1, 1, 1, 2, 1, 1, 1, 2, 1, 1, 8] HT_ ?_
                          refine M.pu 35 165 [2, 1, 1, 1, 2, 1, 1, 1, 2, 1, 1, 1, 2, 1, 1, 1, 2, 1, 1, 1, 2, 1, 1, 1, 2, 1, 1, 1, 1, 6] HT_ ?_
                          refine M.pu 36 166 [2, 1, 1, 1, 2, 1, 1, 1, 2, 1, 1, 1, 2, 1, 1, 1, 2, 1, 1, 1, 2, 1, 1, 1, 2, 1, 1, 1, 2, 5] HT_ ?_
                          refine M.pu 38 168 [2, 1, 1, 1, 2, 1, 1, 1, 2, 1, 1, 1, 2, 1, 1, 1, 2, 1, 1, 1, 2, 1, 1, 1, 2, 1, 1, 1, 2, 1, 1, 3] HT_ ?_
                          refine M.tk 2 132 [4, 1, 2, 1, 1, 1, 2, 1, 1, 1, 2, 1, 1, 1, 2, 1, 1, 1, 2, 1, 1, 1, 2, 1, 1, 1, 2, 1, 1, 3] HT_ HW_ hHeld ?_
                          refine M.pu 4 134 [7, 1, 1, 1, 2, 1, 1, 1, 2, 1, 1, 1, 2, 1, 1, 1, 2, 1, 1, 1, 2, 1, 1, 1, 2, 1, 1, 3] HT_ ?_
                          refine M.tk 7 137 [9, 1, 2, 1, 1, 1, 2, 1, 1, 1, 2, 1, 1, 1, 2, 1, 1, 1, 2, 1, 1, 1, 2, 1, 1, 3] HT_ HW_ hHeld ?_
                          refine M.pu 9 139 [12, 1, 1, 1, 2, 1, 1, 1, 2, 1, 1, 1, 2, 1, 1, 1, 2, 1, 1, 1, 2, 1, 1, 3] HT_ ?_
                          refine M.tk 12 142 [14, 1, 2, 1, 1, 1, 2, 1, 1, 1, 2, 1, 1, 1, 2, 1, 1, 1, 2, 1, 1, 3] HT_ HW_ hHeld ?_
                          refine M.pu 14 144 [17, 1, 1, 1, 2, 1, 1, 1, 2, 1, 1, 1, 2, 1, 1, 1, 2, 1, 1, 3] HT_ ?_
                          refine M.tk 17 147 [19, 1, 2, 1, 1, 1, 2, 1, 1, 1, 2, 1, 1, 1, 2, 1, 1, 3] HT_ HW_ hHeld ?_
                          refine M.pu 19 149 [22, 1, 1, 1, 2, 1, 1, 1, 2, 1, 1, 1, 2, 1, 1, 3] HT_ ?_
                          refine M.tk 22 152 [24, 1, 2, 1, 1, 1, 2, 1, 1, 1, 2, 1, 1, 3] HT_ HW_ hHeld ?_
                          refine M.pu 24 154 [27, 1, 1, 1, 2, 1, 1, 1, 2, 1, 1, 3] HT_ ?_
                          refine M.tk 27 157 [29, 1, 2, 1, 1, 1, 2, 1, 1, 3] HT_ HW_ hHeld ?_
                          refine M.pu 29 159 [32, 1, 1, 1, 2, 1, 1, 3] HT_ ?_
                          refine M.tk 32 162 [34, 1, 2, 1, 1, 3] HT_ HW_ hHeld ?_
                          refine M.pu 34 164 [37, 1, 1, 3] HT_ ?_
                          refine M.tk 37 167 [39, 3] HT_ HW_ hHeld ?_
                          refine M.pu 39 169 [40, 2] HT_ ?_
                          refine one_ (i := 40) (N := some 170) (M.tf [41, 1]) rfl rfl (one_of HT_.out (by kernel_rfl)) (by decide) (fun K hK => ?_)
                          refine Kd.R_lit_step (Kd.int .u32) _ 95 ?hg (N := 170) ?hd (xs := ([((rd x3_1 0) + x8_2) % 4294967296, ((rd x3_1 1) + x9_2) % 4294967296, ((rd x3_1 2) + x10_2) % 4294967296, ((rd x3_1 3) + x11_2) % 4294967296, ((rd x3_1 4) + x12_2) % 4294967296, ((rd x3_1 5) + x13_2) % 4294967296, ((rd x3_1 6) + x14_2) % 4294967296, ((rd x3_1 7) + x15_2) % 4294967296] : List Int)) (inner := [.int .u32 (((rd x3_1 0) + x8_2) % 4294967296), .int .u32 (((rd x3_1 1) + x9_2) % 4294967296), .int .u32 (((rd x3_1 2) + x10_2) % 4294967296), .int .u32 (((rd x3_1 3) + x11_2) % 4294967296), .int .u32 (((rd x3_1 4) + x12_2) % 4294967296), .int .u32 (((rd x3_1 5) + x13_2) % 4294967296), .int .u32 (((rd x3_1 6) + x14_2) % 4294967296), .int .u32 (((rd x3_1 7) + x15_2) % 4294967296)]) (ok := fun _ => True) (okp := fun _ => True) ?hr ?hp (fun _ hk => hk) trivial (Below.refl _ _) (Nat.le_refl _) (by simp) ?_; (case hd => rfl); (case hg => rfl); (case hr => (go_simp; rfl)); (case hp => exact (Reps.one (show Kd.M (Kd.int .u32) _ _ _ (((rd x3_1 0) + x8_2) % 4294967296) [.int .u32 (((rd x3_1 0) + x8_2) % 4294967296)] from rfl) (Reps.one (show Kd.M (Kd.int .u32) _ _ _ (((rd x3_1 1) + x9_2) % 4294967296) [.int .u32 (((rd x3_1 1) + x9_2) % 4294967296)] from rfl) (Reps.one (show Kd.M (Kd.int .u32) _ _ _ (((rd x3_1 2) + x10_2) % 4294967296) [.int .u32 (((rd x3_1 2) + x10_2) % 4294967296)] from rfl) (Reps.one (show Kd.M (Kd.int .u32) _ _ _ (((rd x3_1 3) + x11_2) % 4294967296) [.int .u32 (((rd x3_1 3) + x11_2) % 4294967296)] from rfl) (Reps.one (show Kd.M (Kd.int .u32) _ _ _ (((rd x3_1 4) + x12_2) % 4294967296) [.int .u32 (((rd x3_1 4) + x12_2) % 4294967296)] from rfl) (Reps.one (show Kd.M (Kd.int .u32) _ _ _ (((rd x3_1 5) + x13_2) % 4294967296) [.int .u32 (((rd x3_1 5) + x13_2) % 4294967296)] from rfl) (Reps.one (show Kd.M (Kd.int .u32) _ _ _ (((rd x3_1 6) + x14_2) % 4294967296) [.int .u32 (((rd x3_1 6) + x14_2) % 4294967296)] from rfl) (Reps.one (show Kd.M (Kd.int .u32) _ _ _ (((rd x3_1 7) + x15_2) % 4294967296) [.int .u32 (((rd x3_1 7) + x15_2) % 4294967296)] from rfl) (Reps.none _ _))))))))))
                          intro v171 w46 ho47 hb hg_ hnew_
                          have HS0_ := (hb.cell (World.block_lt_of_cell? _ _ (hHeld.1))).trans (hHeld.1)
                          have HS1_ := (hb.cell (World.block_lt_of_cell? _ _ (hHeld.2.1))).trans (hHeld.2.1)
                          have HS2_ := (hb.cell (World.block_lt_of_cell? _ _ (hHeld.2.2.1))).trans (hHeld.2.2.1)
                          have HS3_ := (hb.cell (World.block_lt_of_cell? _ _ (hHeld.2.2.2.1))).trans (hHeld.2.2.2.1)
                          have HS4_ := (hb.cell (World.block_lt_of_cell? _ _ (hHeld.2.2.2.2.1))).trans (hHeld.2.2.2.2.1)
                          have HS5_ := (hb.cell (World.block_lt_of_cell? _ _ (hHeld.2.2.2.2.2.1))).trans (hHeld.2.2.2.2.2.1)
                          have HS6_ := (hb.cell (World.block_lt_of_cell? _ _ (hHeld.2.2.2.2.2.2.1))).trans (hHeld.2.2.2.2.2.2.1)
                          have HS7_ := (hb.cell (World.block_lt_of_cell? _ _ (hHeld.2.2.2.2.2.2.2))).trans (hHeld.2.2.2.2.2.2.2)
                          clear hg_ hnew_
                          ((rw [← Ny170.out] at ho47))
                          have HO172 := Aside0.mk (Kd.R_lower (Kd.R_new' (Kd.R_new' (Kd.R_new' ho47 (Kd.R_lt (M.ro zaa))) (Kd.R_lt (M.ro zab))) (Kd.R_lt (M.ro zac))) (below_size (M.up HB))); replace zaa := Aside0.mk (Kd.R_elder' (M.ro zaa) (Kd.R_base ho47) hb); replace zab := Aside0.mk (Kd.R_elder' (M.ro zab) (Kd.R_base ho47) hb); replace zac := Aside0.mk (Kd.R_elder' (M.ro zac) (Kd.R_base ho47) hb); replace HB := M.upS HB hb
                          clear hb ho47
                          refine hK.out _ _ ⟨HS0_, HS1_, HS2_, HS3_, HS4_, HS5_, HS6_, HS7_⟩ (fun hHeld => ?_)
                          clear hK K
                          refine norm_ (a' := ?_) ?_ ?_
                          rotate_left
                          ·show Act.put _ (some 170) _ = _
                           simp only [Act.put, List.setIfInBounds_toArray, List.set_cons_zero, List.set_cons_succ, i64_w, i32_w]
                           rfl
                          refine M.pu 41 3 [42] HT_ ?_
                          refine done_ (done_of HT_.out (by kernel_rfl)) ?_
                          try go_wp2
                          go_roundg k2
                          case measure => have := HK1.out; have := HK2.out; omega
                          case rel => exact ⟨(y170), (wrap64 (x6_1 + 64)), M.eqv, H', ⟨by have := HK1.out; have := HK2.out; omega⟩, ⟨by (with_reducible repeat (first | apply Kd.R_alloc | apply Kd.R_drewN | apply Kd.R_drew)); exact Kd.R_mono HO172.out (fun _ hk => hk.1.2)⟩, ⟨by (with_reducible repeat (first | apply Kd.R_alloc | apply Kd.R_drewN | apply Kd.R_drew)); exact Kd.R_mono zab.out (fun _ hk => hk.2)⟩, ⟨M.up HB⟩⟩
                         ·exact M.nf c44 H
                        ·exact M.nf c43 H
                       ·exact M.nf c42 H
                      ·exact M.nf c41 H
                     ·exact M.nf c40 H
                    ·exact M.nf c39 H
                   ·exact M.nf c38 H
                  ·exact M.nf c37 H
              ·exact M.nf c20 H
             ·exact M.nf c19 H
            ·exact M.nf c18 H
           ·exact M.nf c17 H
          ·exact M.nf c16 H
         ·exact M.nf c15 H
        ·exact M.nf c14 H
       ·exact M.nf c13 H
      ·exact M.nf c11 H
     ·exact M.nf c10 H
    ·exact M.nf c9 H
   ·rw [if_neg c8] at H
    have c8b0 := decide_eq_false c8
    clear c8
    have H' := Aside0.mk H
    clear H
    go_wp2
    go_loopg [21, 22] k1 (fun kq v21 v22 w' => ∃ (x21_2 : ByteArray) (x22_2 : Int), v21 = .string x21_2 ∧ v22 = .int .i64 x22_2 ∧ Aside0 (pleachref03_Sum_p.l2 kq x3_1 x21_2 x22_2 = some r) ∧ Aside0 (kq ≤ k1) ∧ Aside0 (Kd.R (Kd.int .u32) 95 w' w.heap.size (fun _ => True) u3 x3_1) ∧ Aside0 (Below w.heap.size w w'))
    case atStart => exact ⟨((⟨#[]⟩ : ByteArray)), (0), M.eqv, M.eqv, H', ⟨Nat.le_refl _⟩, ⟨by (with_reducible repeat (first | apply Kd.R_alloc | apply Kd.R_drewN | apply Kd.R_drew)); exact Kd.R_mono zaa.out (fun _ hk => trivial)⟩, ⟨M.up HB⟩⟩
    case round =>
     clear H'
     clear c8b0
     obtain ⟨x21_2, x22_2, rfl, rfl, HA, HK2, zaa, HB⟩ := hrel
     cases gk with
     | zero => exact absurd HA.out (by simp [pleachref03_Sum_p.l2])
     | succ k2 =>
      have H := HA.out
      clear HA
      simp only [pleachref03_Sum_p.l2] at H
      by_cases c48 : x22_2 < 8
      ·rw [if_pos c48] at H
       have c48b0 := decide_eq_true c48
       clear c48
       by_cases c49 : 0 ≤ x22_2
       ·rw [if_pos c49] at H
        have c49b0 := decide_eq_true c49
        clear c49
        by_cases c50 : x22_2 < (x3_1.length : Int)
        ·rw [if_pos c50] at H
         have c50b0 := decide_eq_true c50
         clear c50
         obtain ⟨y185, hy185⟩ : ∃ y_ : List Int, y_ = (([((rd x3_1 x22_2) / 16777216) % 256, ((rd x3_1 x22_2) / 65536) % 256, ((rd x3_1 x22_2) / 256) % 256, (rd x3_1 x22_2) % 256] : List Int)) := ⟨_, rfl⟩
         rw [Option.bind_some, ← hy185] at H
         have Ny185 := Aside0.mk hy185
         clear hy185
         by_cases c51 : x21_2.size + (strOfNums y185).size ≤ 9223372036854775807
         ·rw [if_pos c51] at H
          have c51b0 := eq_true c51
          have c51b1 := decide_eq_true c51
          try have c51b2 : (9223372036854775807 < x21_2.size + (strOfNums y185).size) = False := eq_false (Nat.not_lt.2 c51)
          have H' := Aside0.mk H
          clear H
          try go_wp2
          replace zaa := Aside0.mk (Kd.R_drew zaa.out); replace HB := Aside0.mk (below_drew1 HB.out)
          obtain ⟨Ao53, co53, eo53⟩ := Kd.R_slice zaa.out
          ((subst eo53))
          have p181 : 0 ≤ (x22_2 : Int) := M.dt
          have q181 : x22_2 < (x3_1.length : Int) := M.dt
          obtain ⟨ad181, e181, hx181_0⟩ := Kd.at_int (Kd.R_reads' zaa.out).2.2 x22_2 p181 q181
          cases e181
          replace p181 := eq_true p181
          replace q181 := eq_true q181
          have p182 : 0 ≤ (x22_2 : Int) := M.dt
          have q182 : x22_2 < (x3_1.length : Int) := M.dt
          obtain ⟨ad182, e182, hx182_0⟩ := Kd.at_int (Kd.R_reads' zaa.out).2.2 x22_2 p182 q182
          obtain rfl : ad181 = ad182 := (by injection e182)
          replace p182 := eq_true p182
          replace q182 := eq_true q182
          have p183 : 0 ≤ (x22_2 : Int) := M.dt
          have q183 : x22_2 < (x3_1.length : Int) := M.dt
          obtain ⟨ad183, e183, hx183_0⟩ := Kd.at_int (Kd.R_reads' zaa.out).2.2 x22_2 p183 q183
          obtain rfl : ad181 = ad183 := (by injection e183)
          replace p183 := eq_true p183
          replace q183 := eq_true q183
          have p184 : 0 ≤ (x22_2 : Int) := M.dt
          have q184 : x22_2 < (x3_1.length : Int) := M.dt
          obtain ⟨ad184, e184, hx184_0⟩ := Kd.at_int (Kd.R_reads' zaa.out).2.2 x22_2 p184 q184
          obtain rfl : ad181 = ad184 := (by injection e184)
          replace p184 := eq_true p184
          replace q184 := eq_true q184
          refine start_ (n := 28) (S := fun w' => w'.cell? (ad181.add (x22_2).toNat) = some (.int .u32 (rd x3_1 x22_2)) ∧ w'.cell? (ad181.add (x22_2).toNat) = some (.int .u32 (rd x3_1 x22_2)) ∧ w'.cell? (ad181.add (x22_2).toNat) = some (.int .u32 (rd x3_1 x22_2)) ∧ w'.cell? (ad181.add (x22_2).toNat) = some (.int .u32 (rd x3_1 x22_2))) (ds := [25]) (M.tf [0, 28]) (by kernel_rfl) rfl rfl ⟨hx181_0, hx182_0, hx183_0, hx184_0⟩ (fun hHeld => ?_); refine with_tabW pleachref03_Sum_p.tab29 pleachref03_Sum_p.bits29 (fun HT_ HW_ => ?_)
          generalize wr.drew = w52 at zaa HB hx181_0 hx182_0 hx183_0 hx184_0 hHeld ⊢
          refine M.pu 0 175 [1, 27] HT_ ?_
          refine M.pu 1 176 [2, 26] HT_ ?_
          refine M.pu 2 177 [3, 25] HT_ ?_
          refine M.pu 3 178 [4, 24] HT_ ?_
          refine M.pu 7 182 [4, 3, 1, 20] HT_ ?_
          refine M.pu 8 183 [4, 3, 2, 19] HT_ ?_
          refine M.pu 9 184 [4, 3, 3, 18] HT_ ?_
          refine M.pu 13 188 [4, 3, 3, 3, 1, 14] HT_ ?_
          refine M.pu 14 189 [4, 3, 3, 3, 2, 13] HT_ ?_
          refine M.pu 15 190 [4, 3, 3, 3, 3, 12] HT_ ?_
          refine M.pu 19 194 [4, 3, 3, 3, 3, 3, 1, 8] HT_ ?_
          refine M.pu 20 195 [4, 3, 3, 3, 3, 3, 2, 7] HT_ ?_
          refine M.pu 21 196 [4, 3, 3, 3, 3, 3, 3, 6] HT_ ?_
          refine M.tk 4 179 [5, 2, 3, 3, 3, 3, 3, 6] HT_ HW_ hHeld ?_
          refine M.pu 5 180 [6, 1, 3, 3, 3, 3, 3, 6] HT_ ?_
          refine M.pu 6 181 [10, 3, 3, 3, 3, 6] HT_ ?_
          refine M.tk 10 185 [11, 2, 3, 3, 3, 6] HT_ HW_ hHeld ?_
          refine M.pu 11 186 [12, 1, 3, 3, 3, 6] HT_ ?_
          refine M.pu 12 187 [16, 3, 3, 6] HT_ ?_
          refine M.tk 16 191 [17, 2, 3, 6] HT_ HW_ hHeld ?_
          refine M.pu 17 192 [18, 1, 3, 6] HT_ ?_
          refine M.pu 18 193 [22, 6] HT_ ?_
          refine M.tk 22 197 [23, 5] HT_ HW_ hHeld ?_
          refine M.pu 23 198 [24, 4] HT_ ?_
          refine one_ (i := 24) (N := some 199) (M.tf [25, 3]) rfl rfl (one_of HT_.out (by kernel_rfl)) (by decide) (fun K hK => ?_)
          refine Kd.R_lit_step (Kd.int .u8) _ 5 ?hg (N := 199) ?hd (xs := ([((rd x3_1 x22_2) / 16777216) % 256, ((rd x3_1 x22_2) / 65536) % 256, ((rd x3_1 x22_2) / 256) % 256, (rd x3_1 x22_2) % 256] : List Int)) (inner := [.int .u8 (((rd x3_1 x22_2) / 16777216) % 256), .int .u8 (((rd x3_1 x22_2) / 65536) % 256), .int .u8 (((rd x3_1 x22_2) / 256) % 256), .int .u8 ((rd x3_1 x22_2) % 256)]) (ok := fun _ => True) (okp := fun _ => True) ?hr ?hp (fun _ hk => hk) trivial (Below.refl _ _) (Nat.le_refl _) (by simp) ?_; (case hd => rfl); (case hg => rfl); (case hr => (go_simp; rfl)); (case hp => exact (Reps.one (show Kd.M (Kd.int .u8) _ _ _ (((rd x3_1 x22_2) / 16777216) % 256) [.int .u8 (((rd x3_1 x22_2) / 16777216) % 256)] from rfl) (Reps.one (show Kd.M (Kd.int .u8) _ _ _ (((rd x3_1 x22_2) / 65536) % 256) [.int .u8 (((rd x3_1 x22_2) / 65536) % 256)] from rfl) (Reps.one (show Kd.M (Kd.int .u8) _ _ _ (((rd x3_1 x22_2) / 256) % 256) [.int .u8 (((rd x3_1 x22_2) / 256) % 256)] from rfl) (Reps.one (show Kd.M (Kd.int .u8) _ _ _ ((rd x3_1 x22_2) % 256) [.int .u8 ((rd x3_1 x22_2) % 256)] from rfl) (Reps.none _ _))))))
          intro v186 w54 ho55 hb hg_ hnew_
          have HS0_ := (hb.cell (World.block_lt_of_cell? _ _ (hHeld.1))).trans (hHeld.1)
          have HS1_ := (hb.cell (World.block_lt_of_cell? _ _ (hHeld.2.1))).trans (hHeld.2.1)
          have HS2_ := (hb.cell (World.block_lt_of_cell? _ _ (hHeld.2.2.1))).trans (hHeld.2.2.1)
          have HS3_ := (hb.cell (World.block_lt_of_cell? _ _ (hHeld.2.2.2))).trans (hHeld.2.2.2)
          clear hg_ hnew_
          ((rw [← Ny185.out] at ho55))
          replace zaa := M.roB zaa hb; have HO187 := Aside0.mk (Kd.R_lower ho55 (below_size (M.up HB))); replace HB := M.upS HB hb
          clear hb ho55
          refine hK.out _ _ ⟨HS0_, HS1_, HS2_, HS3_⟩ (fun hHeld => ?_)
          clear hK K
          refine norm_ (a' := ?_) ?_ ?_
          rotate_left
          ·show Act.put _ (some 199) _ = _
           simp only [Act.put, List.setIfInBounds_toArray, List.set_cons_zero, List.set_cons_succ, i64_w, i32_w]
           rfl
          refine last_ (i := 25) (N := some 200) (M.tf [26, 2]) rfl rfl (one_of HT_.out (by kernel_rfl)) (by decide) (fun K hK => ?_)
          have hcv56 := own_string (P := Tryd.prog) Tryd.underlying101 Tryd.underlying5 Tryd.underlying9 (Kd.own_of_R HO187.out)
          refine value_ (w1 := ?_) (v := ?_) (by rfl) rfl ?_ ?_
          rotate_left 2
          ·go_simp
           constructor
           ·rfl
           ·rfl
          clear hcv56
          refine hK.out _ _ ?_
          clear hK K
          refine norm_ (a' := ?_) ?_ ?_
          rotate_left
          ·show Act.put _ (some 200) _ = _
           simp only [Act.put, List.setIfInBounds_toArray, List.set_cons_zero, List.set_cons_succ, i64_w, i32_w]
           rfl
          refine M.pu 26 201 [27, 1] HT_ ?_
          refine M.pu 27 21 [28] HT_ ?_
          refine done_ (done_of HT_.out (by kernel_rfl)) ?_
          try go_wp2
          go_roundg k2
          case measure => have := HK1.out; have := HK2.out; omega
          case rel => exact ⟨(x21_2 ++ (strOfNums y185)), (wrap64 (x22_2 + 1)), M.eqv, M.eqv, H', ⟨by have := HK1.out; have := HK2.out; omega⟩, ⟨by (with_reducible repeat (first | apply Kd.R_alloc | apply Kd.R_drewN | apply Kd.R_drew)); exact zaa.out⟩, ⟨M.up HB⟩⟩
         ·exact M.nf c51 H
        ·exact M.nf c50 H
       ·exact M.nf c49 H
      ·rw [if_neg c48] at H
       have c48b0 := decide_eq_false c48
       clear c48
       obtain rfl := Option.some.inj H
       go_wp2
       go_ret
       exact M.fin (M.up HB)
def pleachref03_Sum.f (t : ByteArray) : Option ByteArray := if t.size ≤ 1000000000000 then some (M.shaSum t) else none
theorem pleachref03_Sum.eq_ (t : ByteArray) (h : t.size ≤ 1000000000000) : pleachref03_Sum.f t = some (M.shaSum t) := if_pos h
theorem pleachref03_Sum.choose (e f g : Nat) (he : e < 4294967296) : (e &&& f) ||| ((4294967295 - e) &&& g) = M.ch e f g := by
 unfold M.ch
 apply Nat.eq_of_testBit_eq
 intro i
 have h := Nat.testBit_two_pow_sub_succ (n := 32) (x := e) he i
 rw [show (2 : Nat) ^ 32 - (e + 1) = 4294967295 - e from by omega] at h
 rw [Nat.testBit_or, Nat.testBit_xor, Nat.testBit_and, Nat.testBit_and, h]
 cases e.testBit i <;> cases decide (i < 32) <;> cases f.testBit i <;> cases g.testBit i <;> rfl
theorem pleachref03_Sum.most (a b c : Nat) : ((a &&& b) ||| (a &&& c)) ||| (b &&& c) = M.maj a b c := by
 unfold M.maj
 apply Nat.eq_of_testBit_eq
 intro i
 rw [Nat.testBit_or, Nat.testBit_or, Nat.testBit_xor, Nat.testBit_xor, Nat.testBit_and, Nat.testBit_and, Nat.testBit_and]
 cases a.testBit i <;> cases b.testBit i <;> cases c.testBit i <;> rfl
theorem pleachref03_Sum.xor3 (a b c : Nat) (ha : a < 4294967296) (hb : b < 4294967296) (hc : c < 4294967296) : Go.bits .xor .u32 (Go.bits .xor .u32 (a : Int) (b : Int)) (c : Int) = ((a ^^^ b ^^^ c : Nat) : Int) := by
 rw [M.xor32 ha hb, M.xor32 (M.xor_lt ha hb) hc]
theorem pleachref03_Sum.choose32 (e f g : Nat) (he : e < 4294967296) (hf : f < 4294967296) (hg : g < 4294967296) : Go.bits .or .u32 (Go.bits .and .u32 (e : Int) (f : Int)) (Go.bits .and .u32 ((4294967295 - (e : Int)) % 4294967296) (g : Int)) = ((M.ch e f g : Nat) : Int) := by
 rw [show (4294967295 - (e : Int)) % 4294967296 = ((4294967295 - e : Nat) : Int) from by omega, M.and32 he hf, M.and32 (by omega) hg, M.or32 (M.and_lt he) (M.and_lt (by omega)), pleachref03_Sum.choose e f g he]
theorem pleachref03_Sum.most32 (a b c : Nat) (ha : a < 4294967296) (hb : b < 4294967296) (hc : c < 4294967296) : Go.bits .or .u32 (Go.bits .or .u32 (Go.bits .and .u32 (a : Int) (b : Int)) (Go.bits .and .u32 (a : Int) (c : Int))) (Go.bits .and .u32 (b : Int) (c : Int)) = ((M.maj a b c : Nat) : Int) := by
 rw [M.and32 ha hb, M.and32 ha hc, M.and32 hb hc, M.or32 (M.and_lt ha) (M.and_lt ha), M.or32 (M.or_lt (M.and_lt ha) (M.and_lt ha)) (M.and_lt hb), pleachref03_Sum.most]
theorem pleachref03_Sum.shaK_lt (i : Nat) : M.shaK.getD i 0 < 4294967296 := by
 by_cases h : i < 64
 ·have key : ∀ j : Fin 64, M.shaK.getD j.val 0 < 4294967296 := by decide +kernel
  exact key ⟨i, h⟩
 ·rw [List.getD_eq_getElem?_getD, List.getElem?_eq_none (by show 64 ≤ i; omega)]; decide
theorem pleachref03_Sum.getD_lt {l : List Nat} {B : Nat} [NeZero B] (h : ∀ x ∈ l, x < B) (j : Nat) : l.getD j 0 < B := by
 rw [List.getD_eq_getElem?_getD]
 cases hq : l[j]? with
 | none => exact Nat.pos_of_ne_zero (NeZero.ne B)
 | some x => exact h x (List.mem_of_getElem? hq)
theorem pleachref03_Sum.rnds_lt (s : List Nat) (hs : ∀ j, s.getD j 0 < 4294967296) (w : List Nat) : ∀ (n j : Nat), (M.rnds s w n).getD j 0 < 4294967296
  | 0, j => hs j
  | n + 1, j => by
    rw [M.rnds]
    have h := pleachref03_Sum.rnds_lt s hs w n
    generalize M.rnds s w n = q at h
    apply pleachref03_Sum.getD_lt
    intro x hx
    simp only [M.rnd, List.mem_cons, List.not_mem_nil, or_false] at hx
    rcases hx with hx | hx | hx | hx | hx | hx | hx | hx
    · rw [hx]; exact Nat.mod_lt _ (by decide)
    · rw [hx]; exact h 0
    · rw [hx]; exact h 1
    · rw [hx]; exact h 2
    · rw [hx]; exact Nat.mod_lt _ (by decide)
    · rw [hx]; exact h 4
    · rw [hx]; exact h 5
    · rw [hx]; exact h 6
theorem pleachref03_Sum.loop1 (h : List Nat) (hh : ∀ j, h.getD j 0 < 4294967296) (h8 : h.length = 8) (p : ByteArray) (x6 : Int) (w : List Nat) (hw : ∀ j, w.getD j 0 < 4294967296) (hwl : w.length = 64) (F : Nat) : ∀ (d i : Nat), i + d = 64 →
    pleachref03_Sum_p.l1 (d + F + 1) (M.nums32 h) p (M.nums32 M.shaK) x6 (M.nums32 w) (((M.rnds h w i).getD 0 0 : Nat) : Int) (((M.rnds h w i).getD 1 0 : Nat) : Int) (((M.rnds h w i).getD 2 0 : Nat) : Int) (((M.rnds h w i).getD 3 0 : Nat) : Int) (((M.rnds h w i).getD 4 0 : Nat) : Int) (((M.rnds h w i).getD 5 0 : Nat) : Int) (((M.rnds h w i).getD 6 0 : Nat) : Int) (((M.rnds h w i).getD 7 0 : Nat) : Int) (i : Int)
      = pleachref03_Sum_p.l0 F (M.nums32 ((List.range 8).map fun i => ((M.rnds h w 64).getD i 0 + h.getD i 0) % 4294967296)) p (M.nums32 M.shaK) (wrap64 (x6 + 64)) := by
 intro d
 induction d with
 | zero =>
  intro i hi
  obtain rfl : i = 64 := by omega
  have hl : ((M.nums32 h).length : Int) = 8 := by simp [M.nums32, h8]
  rw [show 0 + F + 1 = F + 1 from by omega, pleachref03_Sum_p.l1, if_neg (by omega), hl]
  simp only [show (0 : Int) < 8 from by decide, show (1 : Int) < 8 from by decide, show (2 : Int) < 8 from by decide, show (3 : Int) < 8 from by decide, show (4 : Int) < 8 from by decide, show (5 : Int) < 8 from by decide, show (6 : Int) < 8 from by decide, show (7 : Int) < 8 from by decide, if_true, Option.bind_some]
  have hg := pleachref03_schedule.get h
  have e0 : rd (M.nums32 h) 0 = _ := hg 0
  have e1 : rd (M.nums32 h) 1 = _ := hg 1
  have e2 : rd (M.nums32 h) 2 = _ := hg 2
  have e3 : rd (M.nums32 h) 3 = _ := hg 3
  have e4 : rd (M.nums32 h) 4 = _ := hg 4
  have e5 : rd (M.nums32 h) 5 = _ := hg 5
  have e6 : rd (M.nums32 h) 6 = _ := hg 6
  have e7 : rd (M.nums32 h) 7 = _ := hg 7
  rw [e0, e1, e2, e3, e4, e5, e6, e7]
  congr 1
  simp only [M.nums32, List.map_map, List.range, List.range.loop, List.map_cons, List.map_nil, Function.comp]
  simp only [Int.natCast_emod, Int.natCast_add, Int.add_comm]
  rfl
 | succ d ih =>
  intro i hi
  have hr := pleachref03_Sum.rnds_lt h hh w i
  have hk := pleachref03_Sum.shaK_lt i
  have hwi := hw i
  have hn := ih (i + 1) (by omega)
  rw [M.rnds] at hn
  generalize M.rnds h w i = q at *
  have q0 := hr 0; have q1 := hr 1; have q2 := hr 2; have q3 := hr 3; have q4 := hr 4; have q5 := hr 5; have q6 := hr 6; have q7 := hr 7
  have hlk : ((M.nums32 M.shaK).length : Int) = 64 := by decide
  have hlw : ((M.nums32 w).length : Int) = 64 := by simp [M.nums32, hwl]
  rw [show d + 1 + F + 1 = (d + F + 1) + 1 from by omega, pleachref03_Sum_p.l1, if_pos (by omega)]
  rw [pleachref03_turn.eq_ _ 6 q4 (by decide) (by decide), Option.bind_some, pleachref03_turn.eq_ _ 11 q4 (by decide) (by decide), Option.bind_some, pleachref03_turn.eq_ _ 25 q4 (by decide) (by decide), Option.bind_some, hlk, hlw, if_pos (by omega), if_pos (by omega), if_pos (by omega)]
  rw [pleachref03_turn.eq_ _ 2 q0 (by decide) (by decide), Option.bind_some, pleachref03_turn.eq_ _ 13 q0 (by decide) (by decide), Option.bind_some, pleachref03_turn.eq_ _ 22 q0 (by decide) (by decide), Option.bind_some]
  rw [pleachref03_schedule.get, pleachref03_schedule.get]
  have x4 := pleachref03_Sum.xor3 (M.rotr (q.getD 4 0) 6) (M.rotr (q.getD 4 0) 11) (M.rotr (q.getD 4 0) 25) (M.rotr_lt q4) (M.rotr_lt q4) (M.rotr_lt q4)
  have x0 := pleachref03_Sum.xor3 (M.rotr (q.getD 0 0) 2) (M.rotr (q.getD 0 0) 13) (M.rotr (q.getD 0 0) 22) (M.rotr_lt q0) (M.rotr_lt q0) (M.rotr_lt q0)
  have c4 := pleachref03_Sum.choose32 _ _ _ q4 q5 q6
  have m0 := pleachref03_Sum.most32 _ _ _ q0 q1 q2
  simp only [show (6 : Int).toNat = 6 from rfl, show (11 : Int).toNat = 11 from rfl, show (25 : Int).toNat = 25 from rfl, show (2 : Int).toNat = 2 from rfl, show (13 : Int).toNat = 13 from rfl, show (22 : Int).toNat = 22 from rfl]
  rw [x4, x0, c4, m0, M.wrap64_id (by omega) (by omega)]
  simp only [M.rnd, List.getD_cons_zero, List.getD_cons_succ] at hn
  refine Eq.trans ?_ hn
  unfold M.bg1 M.bg0
  congr 1
  ·omega
  ·omega
theorem pleachref03_Sum.turned_lt (s : List Nat) (b : List UInt8) : ∀ x ∈ M.turned s b, x < 4294967296 := by
 intro x hx
 unfold M.turned at hx
 obtain ⟨i, _, rfl⟩ := List.mem_map.1 hx
 exact Nat.mod_lt _ (by decide)
theorem pleachref03_Sum.eat_lt (l : List UInt8) : ∀ k, ∀ x ∈ M.eat M.shaH l k, x < 4294967296
  | 0 => (by decide : ∀ x ∈ M.shaH, x < 4294967296)
  | k + 1 => pleachref03_Sum.turned_lt _ _
theorem pleachref03_Sum.loop0 (p : List UInt8) (n : Nat) (hp : p.length = 64 * n) (hn : n ≤ 100000000000) (F : Nat) : ∀ (d j : Nat), j + d = n →
    pleachref03_Sum_p.l0 (66 * d + F + 1) (M.nums32 (M.eat M.shaH p j)) (M.sb p) (M.nums32 M.shaK) ((64 * j : Nat) : Int) = pleachref03_Sum_p.l2 F (M.nums32 (M.eat M.shaH p n)) (M.sb []) 0 := by
 intro d
 induction d with
 | zero =>
  intro j hj
  obtain rfl : j = n := by omega
  rw [show 66 * 0 + F + 1 = F + 1 from by omega, pleachref03_Sum_p.l0, if_neg (by rw [M.size_sb]; omega)]
  rfl
 | succ d ih =>
  intro j hj
  have hl := M.eat_len M.shaH p rfl j
  have hlt := pleachref03_Sum.eat_lt p j
  have hw : wrap64 (((64 * j : Nat) : Int) + 64) = ((64 * (j + 1) : Nat) : Int) := by rw [M.wrap64_id (by omega) (by omega)]; omega
  have hx : (M.sb p).extract (64 * j) (64 * (j + 1)) = M.sb ((p.drop (64 * j)).take 64) := by
   apply M.bs_inj
   rw [M.bs_extract, M.bs_sb, M.bs_sb, show 64 * (j + 1) - 64 * j = 64 from by omega]
  have hsz : (M.sb ((p.drop (64 * j)).take 64)).size = 64 := by rw [M.size_sb, List.length_take, List.length_drop]; omega
  have hsc : pleachref03_schedule.f (M.sb ((p.drop (64 * j)).take 64)) = some (M.nums32 (M.sched ((p.drop (64 * j)).take 64) 64)) := by
   unfold pleachref03_schedule.f
   rw [if_pos hsz, M.bs_sb]
  have he : M.eat M.shaH p (j + 1) = (List.range 8).map fun i => ((M.rnds (M.eat M.shaH p j) (M.sched ((p.drop (64 * j)).take 64) 64) 64).getD i 0 + (M.eat M.shaH p j).getD i 0) % 4294967296 := rfl
  generalize M.eat M.shaH p j = h at *
  have hll : ((M.nums32 h).length : Int) = 8 := by simp [M.nums32, hl]
  have hg := pleachref03_schedule.get h
  have e0 : rd (M.nums32 h) 0 = _ := hg 0
  have e1 : rd (M.nums32 h) 1 = _ := hg 1
  have e2 : rd (M.nums32 h) 2 = _ := hg 2
  have e3 : rd (M.nums32 h) 3 = _ := hg 3
  have e4 : rd (M.nums32 h) 4 = _ := hg 4
  have e5 : rd (M.nums32 h) 5 = _ := hg 5
  have e6 : rd (M.nums32 h) 6 = _ := hg 6
  have e7 : rd (M.nums32 h) 7 = _ := hg 7
  rw [show 66 * (d + 1) + F + 1 = (64 + (66 * d + F + 1) + 1) + 1 from by omega, pleachref03_Sum_p.l0, if_pos (by rw [M.size_sb]; omega), if_pos (by omega), hw, if_pos (by omega), if_pos (by rw [M.size_sb]; omega), Int.toNat_natCast, Int.toNat_natCast, hx, hsc, Option.bind_some, hll]
  simp only [show (0 : Int) < 8 from by decide, show (1 : Int) < 8 from by decide, show (2 : Int) < 8 from by decide, show (3 : Int) < 8 from by decide, show (4 : Int) < 8 from by decide, show (5 : Int) < 8 from by decide, show (6 : Int) < 8 from by decide, show (7 : Int) < 8 from by decide, if_true]
  rw [e0, e1, e2, e3, e4, e5, e6, e7]
  refine (pleachref03_Sum.loop1 h (pleachref03_Sum.getD_lt hlt) hl (M.sb p) ((64 * j : Nat) : Int) (M.sched ((p.drop (64 * j)).take 64) 64) (M.sched_lt _ 64) (M.sched_len _ 64) (66 * d + F + 1) 64 0 rfl).trans ?_
  rw [← he, hw]
  exact ih (j + 1) (by omega)
theorem pleachref03_Sum.loop2 (h : List Nat) (hl : h.length = 8) (hlt : ∀ x ∈ h, x < 4294967296) (F : Nat) : ∀ (d i : Nat), i + d = 8 →
    pleachref03_Sum_p.l2 (d + F + 1) (M.nums32 h) (M.sb (M.shaText (h.take i))) (i : Int) = some (M.sb (M.shaText h)) := by
 have hll : ((M.nums32 h).length : Int) = 8 := by simp [M.nums32, hl]
 intro d
 induction d with
 | zero =>
  intro i hi
  obtain rfl : i = 8 := by omega
  rw [show 0 + F + 1 = F + 1 from by omega, pleachref03_Sum_p.l2, if_neg (by omega), List.take_of_length_le (by omega)]
 | succ d ih =>
  intro i hi
  have hil : i < h.length := by omega
  have hx := hlt h[i] (List.getElem_mem hil)
  have hgd : h.getD i 0 = h[i] := by simp [List.getD, hil]
  rw [show d + 1 + F + 1 = (d + F + 1) + 1 from by omega, pleachref03_Sum_p.l2, if_pos (by omega), hll, if_pos (by omega), if_pos (by omega), pleachref03_schedule.get, hgd, Option.bind_some]
  have e4 : strOfNums ([((h[i] : Nat) : Int) / 16777216 % 256, ((h[i] : Nat) : Int) / 65536 % 256, ((h[i] : Nat) : Int) / 256 % 256, ((h[i] : Nat) : Int) % 256]) = M.sb (M.shaText [h[i]]) := by
   have := M.strOfNums_nat [h[i] / 16777216 % 256, h[i] / 65536 % 256, h[i] / 256 % 256, h[i] % 256]
   simp only [List.map_cons, List.map_nil, Int.natCast_emod, Int.natCast_ediv] at this
   apply M.bs_inj
   rw [M.bs_sb]
   refine this.trans ?_
   simp only [M.shaText, List.flatMap_cons, List.flatMap_nil, List.append_nil]
   have hm : ∀ q : Nat, UInt8.ofNat (q % 256) = UInt8.ofNat q := fun q => by
    apply UInt8.toNat_inj.1
    rw [UInt8.toNat_ofNat', UInt8.toNat_ofNat']
    omega
   rw [hm, hm, hm, hm]
  rw [e4, ← M.sb_append]
  have e5 : M.shaText (h.take i) ++ M.shaText [h[i]] = M.shaText (h.take (i + 1)) := by
   rw [List.take_succ_eq_append_getElem hil]
   simp only [M.shaText, List.flatMap_append]
  rw [if_pos (by rw [M.size_sb, M.size_sb, M.shaText_len, M.shaText_len, List.length_take]; simp only [List.length_cons, List.length_nil]; omega), e5, M.wrap64_id (by omega) (by omega)]
  exact ih (i + 1) (by omega)
theorem pleachref03_Sum.eat_split (s : List Nat) (p : List UInt8) (q : Nat) : ∀ m, M.eat s p (q + m) = M.eat (M.eat s p q) (p.drop (64 * q)) m
  | 0 => rfl
  | m + 1 => by
    rw [← Nat.add_assoc, M.eat, pleachref03_Sum.eat_split s p q m, M.eat, List.drop_drop]
    congr 3
    omega
theorem pleachref03_Sum.eat_front (s : List Nat) (l r : List UInt8) : ∀ q, 64 * q ≤ l.length → M.eat s (l ++ r) q = M.eat s l q
  | 0, _ => rfl
  | q + 1, h => by
    rw [M.eat, M.eat, pleachref03_Sum.eat_front s l r q (by omega), List.drop_append_of_le_length (by omega), List.take_append_of_le_length (by rw [List.length_drop]; omega)]
theorem pleachref03_Sum.whole (t : ByteArray) : M.eat M.shaH (M.padlast (M.bs t) t.size) ((M.padlast (M.bs t) t.size).length / 64) = M.eat (M.eat M.shaH (M.bs t) (t.size / 64)) (M.padlast ((M.bs t).drop (64 * (t.size / 64))) t.size) ((M.padlast ((M.bs t).drop (64 * (t.size / 64))) t.size).length / 64) := by
 have hz : M.padz ((M.bs t).drop (64 * (t.size / 64))).length = M.padz (M.bs t).length := by
  unfold M.padz
  rw [List.length_drop, M.bs_length]
  congr 2
  omega
 have hd : M.padlast ((M.bs t).drop (64 * (t.size / 64))) t.size = (M.padlast (M.bs t) t.size).drop (64 * (t.size / 64)) := by
  unfold M.padlast
  rw [hz]
  have hle : 64 * (t.size / 64) ≤ (M.bs t).length := by rw [M.bs_length]; omega
  rw [List.drop_append_of_le_length (by simp only [List.length_append, List.length_cons, List.length_nil, List.length_replicate]; omega), List.drop_append_of_le_length (by simp only [List.length_append, List.length_cons, List.length_nil]; omega), List.drop_append_of_le_length hle]
 have hq : (M.padlast (M.bs t) t.size).length / 64 = t.size / 64 + (M.padlast ((M.bs t).drop (64 * (t.size / 64))) t.size).length / 64 := by
  rw [hd, List.length_drop]
  have : t.size ≤ (M.padlast (M.bs t) t.size).length := by
   unfold M.padlast
   simp only [List.length_append, M.bs_length]; omega
  omega
 rw [hq, pleachref03_Sum.eat_split, ← hd]
 congr 1
 unfold M.padlast
 rw [List.append_assoc, List.append_assoc]
 exact pleachref03_Sum.eat_front _ _ _ _ (by rw [M.bs_length]; omega)
theorem pleachref03_Sum.ev (b r : ByteArray) (h : pleachref03_Sum.f b = some r) : ∃ k, pleachref03_Sum_p.f k b = some r := by
 unfold pleachref03_Sum.f at h
 split at h
 case isFalse => cases h
 case isTrue hs =>
  have hp := M.padlast_len (M.bs b) b.size
  have hpl := M.padlast_le (M.bs b) b.size
  rw [M.bs_length] at hpl
  have hc : pleachref03_Constants.f = some (M.nums32 M.shaK) := rfl
  obtain ⟨n, hn⟩ : ∃ n, (M.padlast (M.bs b) b.size).length = 64 * n := ⟨(M.padlast (M.bs b) b.size).length / 64, by omega⟩
  refine ⟨66 * n + (8 + 0 + 1) + 1, ?_⟩
  rw [← h]
  unfold pleachref03_Sum_p.f pleachref03_padded.f
  rw [if_pos hs, Option.bind_some, hc, Option.bind_some]
  refine (pleachref03_Sum.loop0 _ n hn (by omega) (8 + 0 + 1) n 0 (by omega)).trans ?_
  have := pleachref03_Sum.loop2 (M.eat M.shaH (M.padlast (M.bs b) b.size) n) (M.eat_len _ _ rfl _) (pleachref03_Sum.eat_lt _ _) 0 8 0 rfl
  refine this.trans ?_
  have hw := pleachref03_Sum.whole b
  rw [hn, show 64 * n / 64 = n from by omega] at hw
  rw [hw]
  rfl
theorem pleachref03_Sum.calls (a0 : ByteArray) (r : ByteArray) (w : World) (h : pleachref03_Sum.f a0 = some r) :
    Calls Tryd.prog 28 #[.string a0] w fun e w' => e = .returned (.string r) ∧ Below w.heap.size w w' := by
 obtain ⟨k, hk⟩ := pleachref03_Sum.ev _ _ h
 exact pleachref03_Sum_p.calls (k := k) (w := w) (h := hk)
end Go.Proofs.YtopllfdjlbnmfaaDoor.ETreeChildren
