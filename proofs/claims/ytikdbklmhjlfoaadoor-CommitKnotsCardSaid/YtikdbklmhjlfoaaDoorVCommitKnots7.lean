-- Laid by this session's own program (wip/tools/fold.py): this session's texts, cut to what the claim names and put together; Lean checks it.
import Derived.Test.YtikdbklmhjlfoaaDoorVCommitKnots1
import Derived.Test.YtikdbklmhjlfoaaDoorVCommitKnots5
import Derived.Test.YtikdbklmhjlfoaaDoorVCommitKnots6
import Derived.Test.YtikdbklmhjlfoaaDoorXCommitKnots1
namespace Go.Proofs.YtikdbklmhjlfoaaDoor.ECommitKnots
open Go.RowKit Go.Proofs.YtikdbklmhjlfoaaDoorW.PrintWords Go.Proofs.YtikdbklmhjlfoaaDoorW.PrintLast Go.Proofs.YtikdbklmhjlfoaaDoorW.PrintMore
attribute [local go_sem] M.run_leq M.run_gtr M.run_geq max2_int min2_int max_two min_two max_three min_three max_four min_four
set_option linter.unusedVariables false
set_option linter.unusedSimpArgs false
mutual
def pleachref03_Sum_p.l0 : Nat → List Int → ByteArray → List Int → Int → Option (ByteArray)
  | 0, _, _, _, _ => none
  | k + 1, x3, x4, x5, x6 => if x6 < (x4.size : Int) then (if 0 ≤ x6 then (if x6 ≤ (wrap64 (x6 + 64)) then (if (wrap64 (x6 + 64)) ≤ (x4.size : Int) then ((pleachref03_schedule.f (x4.extract (x6 : Int).toNat ((wrap64 (x6 + 64)) : Int).toNat)).bind fun t213 => (if 0 < (x3.length : Int) then (if 1 < (x3.length : Int) then (if 2 < (x3.length : Int) then (if 3 < (x3.length : Int) then (if 4 < (x3.length : Int) then (if 5 < (x3.length : Int) then (if 6 < (x3.length : Int) then (if 7 < (x3.length : Int) then (pleachref03_Sum_p.l1 k x3 x4 x5 x6 t213 (rd x3 0) (rd x3 1) (rd x3 2) (rd x3 3) (rd x3 4) (rd x3 5) (rd x3 6) (rd x3 7) 0) else (none)) else (none)) else (none)) else (none)) else (none)) else (none)) else (none)) else (none))) else (none)) else (none)) else (none)) else (pleachref03_Sum_p.l2 k x3 (⟨#[]⟩ : ByteArray) 0)
def pleachref03_Sum_p.l1 : Nat → List Int → ByteArray → List Int → Int → List Int → Int → Int → Int → Int → Int → Int → Int → Int → Int → Option (ByteArray)
  | 0, _, _, _, _, _, _, _, _, _, _, _, _, _, _ => none
  | k + 1, x3, x4, x5, x6, x7, x8, x9, x10, x11, x12, x13, x14, x15, x16 => if x16 < 64 then ((pleachref03_turn.f x12 6).bind fun t235 => ((pleachref03_turn.f x12 11).bind fun t236 => ((pleachref03_turn.f x12 25).bind fun t237 => (if 0 ≤ x16 then (if x16 < (x5.length : Int) then (if x16 < (x7.length : Int) then ((pleachref03_turn.f x8 2).bind fun t240 => ((pleachref03_turn.f x8 13).bind fun t241 => ((pleachref03_turn.f x8 22).bind fun t242 => (pleachref03_Sum_p.l1 k x3 x4 x5 x6 x7 ((((((((((x15 + (Go.bits .xor .u32 (Go.bits .xor .u32 t235 t236) t237)) % 4294967296) + (Go.bits .or .u32 (Go.bits .and .u32 x12 x13) (Go.bits .and .u32 ((4294967295 - x12) % 4294967296) x14))) % 4294967296) + (rd x5 x16)) % 4294967296) + (rd x7 x16)) % 4294967296) + (((Go.bits .xor .u32 (Go.bits .xor .u32 t240 t241) t242) + (Go.bits .or .u32 (Go.bits .or .u32 (Go.bits .and .u32 x8 x9) (Go.bits .and .u32 x8 x10)) (Go.bits .and .u32 x9 x10))) % 4294967296)) % 4294967296) x8 x9 x10 ((x11 + ((((((((x15 + (Go.bits .xor .u32 (Go.bits .xor .u32 t235 t236) t237)) % 4294967296) + (Go.bits .or .u32 (Go.bits .and .u32 x12 x13) (Go.bits .and .u32 ((4294967295 - x12) % 4294967296) x14))) % 4294967296) + (rd x5 x16)) % 4294967296) + (rd x7 x16)) % 4294967296)) % 4294967296) x12 x13 x14 (wrap64 (x16 + 1)))))) else (none)) else (none)) else (none))))) else (if 0 < (x3.length : Int) then (if 1 < (x3.length : Int) then (if 2 < (x3.length : Int) then (if 3 < (x3.length : Int) then (if 4 < (x3.length : Int) then (if 5 < (x3.length : Int) then (if 6 < (x3.length : Int) then (if 7 < (x3.length : Int) then (pleachref03_Sum_p.l0 k (([((rd x3 0) + x8) % 4294967296, ((rd x3 1) + x9) % 4294967296, ((rd x3 2) + x10) % 4294967296, ((rd x3 3) + x11) % 4294967296, ((rd x3 4) + x12) % 4294967296, ((rd x3 5) + x13) % 4294967296, ((rd x3 6) + x14) % 4294967296, ((rd x3 7) + x15) % 4294967296] : List Int)) x4 x5 (wrap64 (x6 + 64))) else (none)) else (none)) else (none)) else (none)) else (none)) else (none)) else (none)) else (none))
def pleachref03_Sum_p.l2 : Nat → List Int → ByteArray → Int → Option (ByteArray)
  | 0, _, _, _ => none
  | k + 1, x3, x21, x22 => if x22 < 8 then (if 0 ≤ x22 then (if x22 < (x3.length : Int) then ((some (([((rd x3 x22) / 16777216) % 256, ((rd x3 x22) / 65536) % 256, ((rd x3 x22) / 256) % 256, (rd x3 x22) % 256] : List Int) : List Int)).bind fun y247 => (if x21.size + (strOfNums y247).size ≤ 9223372036854775807 then (pleachref03_Sum_p.l2 k x3 (x21 ++ (strOfNums y247)) (wrap64 (x22 + 1))) else (none))) else (none)) else (none)) else (some x21)
end
def pleachref03_Sum_p.f (k : Nat) (a0 : ByteArray) : Option (ByteArray) := (pleachref03_padded.f a0).bind fun t209 => ((pleachref03_Constants.f).bind fun t210 => (pleachref03_Sum_p.l0 k (([1779033703, 3144134277, 1013904242, 2773480762, 1359893119, 2600822924, 528734635, 1541459225] : List Int)) t209 t210 0))
theorem pleachref03_Sum_p.mono_l : ∀ k, (∀ y0 y1 y2 y3, LeO (pleachref03_Sum_p.l0 k y0 y1 y2 y3) (pleachref03_Sum_p.l0 (k + 1) y0 y1 y2 y3)) ∧ (∀ y0 y1 y2 y3 y4 y5 y6 y7 y8 y9 y10 y11 y12 y13, LeO (pleachref03_Sum_p.l1 k y0 y1 y2 y3 y4 y5 y6 y7 y8 y9 y10 y11 y12 y13) (pleachref03_Sum_p.l1 (k + 1) y0 y1 y2 y3 y4 y5 y6 y7 y8 y9 y10 y11 y12 y13)) ∧ (∀ y0 y1 y2, LeO (pleachref03_Sum_p.l2 k y0 y1 y2) (pleachref03_Sum_p.l2 (k + 1) y0 y1 y2))
  | 0 => ⟨fun _ _ _ _ r h => by simp [pleachref03_Sum_p.l0] at h, fun _ _ _ _ _ _ _ _ _ _ _ _ _ _ r h => by simp [pleachref03_Sum_p.l1] at h, fun _ _ _ r h => by simp [pleachref03_Sum_p.l2] at h⟩
  | k + 1 => by
    obtain ⟨ih0, ih1, ih2⟩ := pleachref03_Sum_p.mono_l k
    refine ⟨?_, ?_, ?_⟩
    · intro y0 y1 y2 y3
      unfold pleachref03_Sum_p.l0
      repeat' first
      | (with_reducible exact ih0 _ _ _ _)
      | (with_reducible exact ih1 _ _ _ _ _ _ _ _ _ _ _ _ _ _)
      | (with_reducible exact ih2 _ _ _)
      | (with_reducible exact LeO.refl _)
      | (with_reducible exact LeO.none _)
      | (with_reducible refine LeO.ite ?_ ?_)
      | (with_reducible refine LeO.bind ?_ (fun _ => ?_))
      | exact ih0 _ _ _ _
      | exact ih1 _ _ _ _ _ _ _ _ _ _ _ _ _ _
      | exact ih2 _ _ _
      | exact LeO.none _
      | refine LeO.ite ?_ ?_
      | refine LeO.bind ?_ (fun _ => ?_)
    · intro y0 y1 y2 y3 y4 y5 y6 y7 y8 y9 y10 y11 y12 y13
      unfold pleachref03_Sum_p.l1
      repeat' first
      | (with_reducible exact ih0 _ _ _ _)
      | (with_reducible exact ih1 _ _ _ _ _ _ _ _ _ _ _ _ _ _)
      | (with_reducible exact ih2 _ _ _)
      | (with_reducible exact LeO.refl _)
      | (with_reducible exact LeO.none _)
      | (with_reducible refine LeO.ite ?_ ?_)
      | (with_reducible refine LeO.bind ?_ (fun _ => ?_))
      | exact ih0 _ _ _ _
      | exact ih1 _ _ _ _ _ _ _ _ _ _ _ _ _ _
      | exact ih2 _ _ _
      | exact LeO.none _
      | refine LeO.ite ?_ ?_
      | refine LeO.bind ?_ (fun _ => ?_)
    · intro y0 y1 y2
      unfold pleachref03_Sum_p.l2
      repeat' first
      | (with_reducible exact ih0 _ _ _ _)
      | (with_reducible exact ih1 _ _ _ _ _ _ _ _ _ _ _ _ _ _)
      | (with_reducible exact ih2 _ _ _)
      | (with_reducible exact LeO.refl _)
      | (with_reducible exact LeO.none _)
      | (with_reducible refine LeO.ite ?_ ?_)
      | (with_reducible refine LeO.bind ?_ (fun _ => ?_))
      | exact ih0 _ _ _ _
      | exact ih1 _ _ _ _ _ _ _ _ _ _ _ _ _ _
      | exact ih2 _ _ _
      | exact LeO.none _
      | refine LeO.ite ?_ ?_
      | refine LeO.bind ?_ (fun _ => ?_)
theorem pleachref03_Sum_p.mono : ∀ a0 k, LeO (pleachref03_Sum_p.f k a0) (pleachref03_Sum_p.f (k + 1) a0) := by
  intro a0 k
  obtain ⟨ih0, ih1, ih2⟩ := pleachref03_Sum_p.mono_l k
  unfold pleachref03_Sum_p.f
  repeat' first
      | (with_reducible exact ih0 _ _ _ _)
      | (with_reducible exact ih1 _ _ _ _ _ _ _ _ _ _ _ _ _ _)
      | (with_reducible exact ih2 _ _ _)
      | (with_reducible exact LeO.refl _)
      | (with_reducible exact LeO.none _)
      | (with_reducible refine LeO.ite ?_ ?_)
      | (with_reducible refine LeO.bind ?_ (fun _ => ?_))
      | exact ih0 _ _ _ _
      | exact ih1 _ _ _ _ _ _ _ _ _ _ _ _ _ _
      | exact ih2 _ _ _
      | exact LeO.none _
      | refine LeO.ite ?_ ?_
      | refine LeO.bind ?_ (fun _ => ?_)
def pleachref03_Sum_p.T8 : Bool × List (List Nat × List Nat) := (true, [([], []), ([0], [0]), ([1], [1]), ([], []), ([3], [3]), ([4], [4]), ([], []), ([6], [6]), ([7], [7]), ([], []), ([9], [9]), ([10], [10]), ([], []), ([12], [12]), ([13], [13]), ([], []), ([15], [15]), ([16], [16]), ([], []), ([18], [18]), ([19], [19]), ([], []), ([21], [21]), ([22], [22]), ([2, 0, 1, 2], [2]), ([5, 24, 0, 1, 2, 3, 4, 5, 24], [5]), ([8, 25, 0, 1, 2, 3, 4, 5, 6, 7, 8, 24, 25], [8]), ([11, 26, 0, 1, 2, 3, 4, 5, 6, 7, 8, 9, 10, 11, 24, 25, 26], [11]), ([14, 27, 0, 1, 2, 3, 4, 5, 6, 7, 8, 9, 10, 11, 12, 13, 14, 24, 25, 26, 27], [14]), ([17, 28, 0, 1, 2, 3, 4, 5, 6, 7, 8, 9, 10, 11, 12, 13, 14, 15, 16, 17, 24, 25, 26, 27, 28], [17]), ([20, 29, 0, 1, 2, 3, 4, 5, 6, 7, 8, 9, 10, 11, 12, 13, 14, 15, 16, 17, 18, 19, 20, 24, 25, 26, 27, 28, 29], [20]), ([23, 30, 0, 1, 2, 3, 4, 5, 6, 7, 8, 9, 10, 11, 12, 13, 14, 15, 16, 17, 18, 19, 20, 21, 22, 23, 24, 25, 26, 27, 28, 29, 30], [23])])
def pleachref03_Sum_p.B8 : List Nat := [0, 1, 3, 0, 8, 24, 0, 64, 192, 0, 512, 1536, 0, 4096, 12288, 0, 32768, 98304, 0, 262144, 786432, 0, 2097152, 6291456, 7, 16777279, 50332159, 117444607, 251691007, 520355839, 1059061759, 2147483647]
theorem pleachref03_Sum_p.tab8 : rtab .any (opsOf Tryd.f61 8) = pleachref03_Sum_p.T8 := by kernel_rfl
theorem pleachref03_Sum_p.bits8 : waitsOk pleachref03_Sum_p.T8.2 pleachref03_Sum_p.B8 = true := by kernel_rfl
def pleachref03_Sum_p.T14 : Bool × List (List Nat × List Nat) := (true, [([], []), ([], []), ([1], [1]), ([], []), ([3, 2], [3]), ([2, 4], [2, 4]), ([], []), ([6, 4], [6]), ([5, 7], [5, 7]), ([0, 8], [0, 8]), ([], []), ([9, 10], [9, 10]), ([], []), ([], []), ([12, 13], [12, 13]), ([14], [14]), ([11, 15], [11, 15]), ([], []), ([], []), ([17, 18], [17, 18]), ([19], [19]), ([16, 20], [16, 20]), ([21, 7, 0, 1, 2, 3, 4, 5, 6, 7, 8, 9, 10, 11, 12, 13, 14, 15, 16, 17, 18, 19, 20, 21], [21])])
def pleachref03_Sum_p.B14 : List Nat := [0, 0, 2, 0, 14, 30, 0, 94, 254, 511, 0, 2047, 0, 0, 12288, 28672, 65535, 0, 0, 393216, 917504, 2097151, 4194303]
theorem pleachref03_Sum_p.tab14 : rtab .any (opsOf Tryd.f61 14) = pleachref03_Sum_p.T14 := by kernel_rfl
theorem pleachref03_Sum_p.bits14 : waitsOk pleachref03_Sum_p.T14.2 pleachref03_Sum_p.B14 = true := by kernel_rfl
def pleachref03_Sum_p.T24 : Bool × List (List Nat × List Nat) := (true, [([], []), ([0], [0]), ([1], [1]), ([], []), ([2, 3], [2, 3]), ([], []), ([5], [5]), ([6], [6]), ([], []), ([7, 8], [7, 8]), ([], []), ([10], [10]), ([11], [11]), ([], []), ([12, 13], [12, 13]), ([], []), ([15], [15]), ([16], [16]), ([], []), ([17, 18], [17, 18]), ([], []), ([20], [20]), ([21], [21]), ([], []), ([22, 23], [22, 23]), ([], []), ([25], [25]), ([26], [26]), ([], []), ([27, 28], [27, 28]), ([], []), ([30], [30]), ([31], [31]), ([], []), ([32, 33], [32, 33]), ([], []), ([35], [35]), ([36], [36]), ([], []), ([37, 38], [37, 38]), ([4, 9, 14, 19, 24, 29, 34, 39], [4, 9, 14, 19, 24, 29, 34, 39]), ([40, 0, 1, 2, 3, 4, 5, 6, 7, 8, 9, 10, 11, 12, 13, 14, 15, 16, 17, 18, 19, 20, 21, 22, 23, 24, 25, 26, 27, 28, 29, 30, 31, 32, 33, 34, 35, 36, 37, 38, 39, 40], [0, 5, 10, 15, 20, 25, 30, 35, 40])])
def pleachref03_Sum_p.B24 : List Nat := [0, 1, 3, 0, 15, 0, 32, 96, 0, 480, 0, 1024, 3072, 0, 15360, 0, 32768, 98304, 0, 491520, 0, 1048576, 3145728, 0, 15728640, 0, 33554432, 100663296, 0, 503316480, 0, 1073741824, 3221225472, 0, 16106127360, 0, 34359738368, 103079215104, 0, 515396075520, 1099511627775, 2199023255551]
theorem pleachref03_Sum_p.tab24 : rtab .any (opsOf Tryd.f61 24) = pleachref03_Sum_p.T24 := by kernel_rfl
theorem pleachref03_Sum_p.bits24 : waitsOk pleachref03_Sum_p.T24.2 pleachref03_Sum_p.B24 = true := by kernel_rfl
def pleachref03_Sum_p.T29 : Bool × List (List Nat × List Nat) := (true, [([], []), ([], []), ([], []), ([1, 2], [1, 2]), ([3], [3]), ([4], [4]), ([5], [5]), ([], []), ([], []), ([7, 8], [7, 8]), ([9], [9]), ([10], [10]), ([11], [11]), ([], []), ([], []), ([13, 14], [13, 14]), ([15], [15]), ([16], [16]), ([17], [17]), ([], []), ([], []), ([19, 20], [19, 20]), ([21], [21]), ([22], [22]), ([6, 12, 18, 23], [6, 12, 18, 23]), ([24], [24]), ([0, 25], [0, 25]), ([26, 0, 1, 2, 3, 4, 5, 6, 7, 8, 9, 10, 11, 12, 13, 14, 15, 16, 17, 18, 19, 20, 21, 22, 23, 24, 25, 26], [0, 26])])
def pleachref03_Sum_p.B29 : List Nat := [0, 0, 0, 6, 14, 30, 62, 0, 0, 384, 896, 1920, 3968, 0, 0, 24576, 57344, 122880, 253952, 0, 0, 1572864, 3670016, 7864320, 16777214, 33554430, 67108863, 134217727]
theorem pleachref03_Sum_p.tab29 : rtab .any (opsOf Tryd.f61 29) = pleachref03_Sum_p.T29 := by kernel_rfl
theorem pleachref03_Sum_p.bits29 : waitsOk pleachref03_Sum_p.T29.2 pleachref03_Sum_p.B29 = true := by kernel_rfl
set_option maxHeartbeats 8000000 in
set_option maxRecDepth 100000 in
theorem pleachref03_Sum_p.calls (k : Nat) (a0 : ByteArray) (r : ByteArray) (w : World) (h : pleachref03_Sum_p.f k a0 = some r) :
    Calls Tryd.prog 61 #[.string a0] w fun e w' => e = .returned (.string r) ∧ Below w.heap.size w w' := by
 have HB := Aside0.mk (Below.refl w.heap.size w)
 have H : ((pleachref03_padded.f a0).bind fun t209 => ((pleachref03_Constants.f).bind fun t210 => (pleachref03_Sum_p.l0 k (([1779033703, 3144134277, 1013904242, 2773480762, 1359893119, 2600822924, 528734635, 1541459225] : List Int)) t209 t210 0))) = some r := h
 clear h
 obtain ⟨y206, hy206⟩ : ∃ y_ : List Int, y_ = (([1779033703, 3144134277, 1013904242, 2773480762, 1359893119, 2600822924, 528734635, 1541459225] : List Int)) := ⟨_, rfl⟩
 replace H : ((pleachref03_padded.f a0).bind fun t209 => ((pleachref03_Constants.f).bind fun t210 => (pleachref03_Sum_p.l0 k y206 t209 t210 0))) = some r := by first | (rw [hy206]; with_reducible exact H) | (have H2_ := (Option.bind_some _ _).symm.trans H; rw [hy206]; with_reducible exact H2_) | (have H2_ := (Option.bind_some _ _).symm.trans H; with_reducible exact H2_) | with_reducible exact H | (rw [hy206]; exact H) | exact H
 have Ny206 := Aside0.mk hy206
 clear hy206
 replace H := Option.bind_eq_some_iff.mp H
 obtain ⟨t209, A20, H⟩ := H
 replace H : ((pleachref03_Constants.f).bind fun t210 => (pleachref03_Sum_p.l0 k y206 t209 t210 0)) = some r := H
 have A2 := Aside0.mk A20
 clear A20
 replace H := Option.bind_eq_some_iff.mp H
 obtain ⟨t210, A30, H⟩ := H
 replace H : (pleachref03_Sum_p.l0 k y206 t209 t210 0) = some r := H
 have A3 := Aside0.mk A30
 clear A30
 have H' := Aside0.mk H
 clear H
 go_enter Tryd.func61, Tryd.ntmps61
 go_wp2_with (first | ((with_reducible refine gate_dst (N := 23) rfl ?_); refine Kd.R_lit (Kd.int .u32) _ 116 ?hg (N := 23) ?hd (xs := ([1779033703, 3144134277, 1013904242, 2773480762, 1359893119, 2600822924, 528734635, 1541459225] : List Int)) (inner := [.int .u32 1779033703, .int .u32 3144134277, .int .u32 1013904242, .int .u32 2773480762, .int .u32 1359893119, .int .u32 2600822924, .int .u32 528734635, .int .u32 1541459225]) (ok := fun _ => True) (okp := fun _ => True) ?hr ?hp (fun _ hk => hk) trivial (Below.refl _ _) (Nat.le_refl _) (by simp) ?_; (case hd => rfl); (case hg => rfl); (case hr => first | (go_simp; done) | (go_simp; rfl)); (case hp => exact (Reps.one (show Kd.M (Kd.int .u32) _ _ _ 1779033703 [.int .u32 1779033703] from rfl) (Reps.one (show Kd.M (Kd.int .u32) _ _ _ 3144134277 [.int .u32 3144134277] from rfl) (Reps.one (show Kd.M (Kd.int .u32) _ _ _ 1013904242 [.int .u32 1013904242] from rfl) (Reps.one (show Kd.M (Kd.int .u32) _ _ _ 2773480762 [.int .u32 2773480762] from rfl) (Reps.one (show Kd.M (Kd.int .u32) _ _ _ 1359893119 [.int .u32 1359893119] from rfl) (Reps.one (show Kd.M (Kd.int .u32) _ _ _ 2600822924 [.int .u32 2600822924] from rfl) (Reps.one (show Kd.M (Kd.int .u32) _ _ _ 528734635 [.int .u32 528734635] from rfl) (Reps.one (show Kd.M (Kd.int .u32) _ _ _ 1541459225 [.int .u32 1541459225] from rfl) (Reps.none _ _)))))))))); intro v207 w4 ho5 hb hg_ hnew_; clear hg_ hnew_; (first | rw [← Ny206.out] at ho5 | (simp only [Int.reduceToNat] at ho5; rw [← Ny206.out] at ho5)); have HO208 := Aside0.mk (Kd.R_lower ho5 (below_size (M.up HB))); replace HB := M.upS HB hb; clear hb ho5) | ((with_reducible refine gate_callee (f := 70) rfl ?_); refine M.goes (some 25) Tryd.func70 #[.string a0] rfl ?_; (with_reducible refine (pleachref03_padded.calls a0 t209 _ A2.out).mono ?_); rintro e w6 ⟨rfl, hb⟩; refine ⟨_, rfl, ?_⟩; replace HO208 := M.roB HO208 hb; replace HB := M.upS HB hb; (try clear hb)) | ((with_reducible refine gate_callee (f := 71) rfl ?_); refine M.goes (some 26) Tryd.func71 #[] rfl ?_; (with_reducible refine (pleachref03_Constants.calls  t210 _ A3.out).mono ?_); rintro e w7 ⟨v211, rfl, ho0, hb⟩; refine ⟨_, rfl, ?_⟩; have HO212 := Aside0.mk (Kd.R_lower (Kd.R_new' ho0 (Kd.R_lt (M.ro HO208))) (below_size (M.up HB))); replace HO208 := Aside0.mk (Kd.R_elder' (M.ro HO208) (Kd.R_base ho0) hb); replace HB := M.upS HB hb; (try clear hb); (try clear ho0)))
 go_loopg [3, 6] k (fun kq v3 v6 w' => ∃ (x3_1 : List Int) (x6_1 : Int), v6 = .int .i64 x6_1 ∧ Aside0 (pleachref03_Sum_p.l0 kq x3_1 t209 t210 x6_1 = some r) ∧ Aside0 (kq ≤ k) ∧ Aside0 (Kd.R (Kd.int .u32) 116 w' w.heap.size (fun k_ => some k_ ≠ (v211 : Value).ownBlock) v3 x3_1) ∧ Aside0 (Kd.R (Kd.int .u32) 116 w' w.heap.size (fun k_ => some k_ ≠ (v3 : Value).ownBlock) v211 t210) ∧ Aside0 (Below w.heap.size w w'))
 case atStart => exact ⟨(y206), (0), M.eqv, H', ⟨Nat.le_refl _⟩, ⟨by (with_reducible repeat (first | apply Kd.R_alloc | apply Kd.R_drewN | apply Kd.R_drew)); exact Kd.R_mono HO208.out (fun _ hk => hk.2)⟩, ⟨by (with_reducible repeat (first | apply Kd.R_alloc | apply Kd.R_drewN | apply Kd.R_drew)); exact Kd.R_mono HO212.out (fun _ hk => hk.2)⟩, ⟨M.up HB⟩⟩
 case round =>
  clear H'
  (try clear p2); (try clear c6); (try clear c7)
  obtain ⟨x3_1, x6_1, rfl, HA, HK1, zaa, zab, HB⟩ := hrel
  cases gk with
  | zero => exact absurd HA.out (by simp [pleachref03_Sum_p.l0])
  | succ k1 =>
   have H := HA.out
   clear HA
   simp only [pleachref03_Sum_p.l0] at H
   by_cases c8 : x6_1 < (t209.size : Int)
   ·rw [if_pos c8] at H
    have c8b0 := decide_eq_true c8
    clear c8
    by_cases c9 : 0 ≤ x6_1
    ·rw [if_pos c9] at H
     have c9b0 := eq_true c9
     have c9b1 := decide_eq_true c9
     clear c9
     by_cases c10 : x6_1 ≤ (wrap64 (x6_1 + 64))
     ·rw [if_pos c10] at H
      have c10b0 := eq_true c10
      have c10b1 := decide_eq_true c10
      by_cases c11 : (wrap64 (x6_1 + 64)) ≤ (t209.size : Int)
      ·rw [if_pos c11] at H
       have c11b0 := eq_true c11
       have c11b1 := decide_eq_true c11
       replace H := Option.bind_eq_some_iff.mp H
       obtain ⟨t213, A120, H⟩ := H
       replace H : (if 0 < (x3_1.length : Int) then (if 1 < (x3_1.length : Int) then (if 2 < (x3_1.length : Int) then (if 3 < (x3_1.length : Int) then (if 4 < (x3_1.length : Int) then (if 5 < (x3_1.length : Int) then (if 6 < (x3_1.length : Int) then (if 7 < (x3_1.length : Int) then (pleachref03_Sum_p.l1 k1 x3_1 t209 t210 x6_1 t213 (rd x3_1 0) (rd x3_1 1) (rd x3_1 2) (rd x3_1 3) (rd x3_1 4) (rd x3_1 5) (rd x3_1 6) (rd x3_1 7) 0) else (none)) else (none)) else (none)) else (none)) else (none)) else (none)) else (none)) else (none)) = some r := H
       have A12 := Aside0.mk A120
       clear A120
       by_cases c13 : 0 < (x3_1.length : Int)
       ·rw [if_pos c13] at H
        have c13b0 := decide_eq_true c13
        have c13b1 : decide (0 < x3_1.length) = true := decide_eq_true (by omega)
        clear c13
        by_cases c14 : 1 < (x3_1.length : Int)
        ·rw [if_pos c14] at H
         have c14b0 := decide_eq_true c14
         have c14b1 : decide (1 < x3_1.length) = true := decide_eq_true (by omega)
         clear c14
         by_cases c15 : 2 < (x3_1.length : Int)
         ·rw [if_pos c15] at H
          have c15b0 := decide_eq_true c15
          have c15b1 : decide (2 < x3_1.length) = true := decide_eq_true (by omega)
          clear c15
          by_cases c16 : 3 < (x3_1.length : Int)
          ·rw [if_pos c16] at H
           have c16b0 := decide_eq_true c16
           have c16b1 : decide (3 < x3_1.length) = true := decide_eq_true (by omega)
           clear c16
           by_cases c17 : 4 < (x3_1.length : Int)
           ·rw [if_pos c17] at H
            have c17b0 := decide_eq_true c17
            have c17b1 : decide (4 < x3_1.length) = true := decide_eq_true (by omega)
            clear c17
            by_cases c18 : 5 < (x3_1.length : Int)
            ·rw [if_pos c18] at H
             have c18b0 := decide_eq_true c18
             have c18b1 : decide (5 < x3_1.length) = true := decide_eq_true (by omega)
             clear c18
             by_cases c19 : 6 < (x3_1.length : Int)
             ·rw [if_pos c19] at H
              have c19b0 := decide_eq_true c19
              have c19b1 : decide (6 < x3_1.length) = true := decide_eq_true (by omega)
              clear c19
              by_cases c20 : 7 < (x3_1.length : Int)
              ·rw [if_pos c20] at H
               have c20b0 := decide_eq_true c20
               have c20b1 : decide (7 < x3_1.length) = true := decide_eq_true (by omega)
               clear c20
               have H' := Aside0.mk H
               clear H
               try go_wp2_with (first | ((with_reducible refine gate_callee (f := 72) rfl ?_); refine M.goes (some 38) Tryd.func72 #[.string (t209.extract (x6_1 : Int).toNat ((wrap64 (x6_1 + 64)) : Int).toNat)] rfl ?_; (with_reducible refine (pleachref03_schedule.calls (t209.extract (x6_1 : Int).toNat ((wrap64 (x6_1 + 64)) : Int).toNat) t213 _ A12.out).mono ?_); rintro e w21 ⟨v214, rfl, ho0, hb⟩; refine ⟨_, rfl, ?_⟩; have HO215 := Aside0.mk (Kd.R_lower (Kd.R_new' (Kd.R_new' ho0 (Kd.R_lt (M.ro zaa))) (Kd.R_lt (M.ro zab))) (below_size (M.up HB))); replace zaa := Aside0.mk (Kd.R_elder' (M.ro zaa) (Kd.R_base ho0) hb); replace zab := Aside0.mk (Kd.R_elder' (M.ro zab) (Kd.R_base ho0) hb); replace HB := M.upS HB hb; (try clear hb); (try clear ho0)))
               replace zaa := Aside0.mk (Kd.R_drew zaa.out); replace zab := Aside0.mk (Kd.R_drew zab.out); replace HO215 := Aside0.mk (Kd.R_drew HO215.out); replace HB := Aside0.mk (below_drew1 HB.out)
               obtain ⟨Ao23, co23, eo23⟩ := Kd.R_slice zaa.out
               (first | subst eo23 | (injection eo23 with f1_ f2_ f3_; have f4_ := f1_.symm; have f5_ := f3_.symm; clear f1_ f2_ f3_; subst f4_; subst f5_))
               have p216 : 0 ≤ (0 : Int) := (by omega)
               have q216 : 0 < (x3_1.length : Int) := M.dt
               obtain ⟨ad216, e216, hx216_0⟩ := Kd.at_int (Kd.R_reads' zaa.out).2.2 0 p216 q216
               cases e216
               have qi216 : (0 < x3_1.length) = True := eq_true (by omega)
               (try rw [show ((0 : Int)).toNat = 0 from rfl] at hx216_0)
               (try rw [Addr.add_zero'] at hx216_0)
               replace p216 := eq_true p216
               replace q216 := eq_true q216
               have p217 : 0 ≤ (1 : Int) := (by omega)
               have q217 : 1 < (x3_1.length : Int) := M.dt
               obtain ⟨ad217, e217, hx217_0⟩ := Kd.at_int (Kd.R_reads' zaa.out).2.2 1 p217 q217
               obtain rfl : ad216 = ad217 := (by injection e217)
               (try simp only [show (1 : Int).toNat = 1 from rfl, Nat.reduceMul, Nat.reduceEqDiff, Go.Addr.add, ↓reduceIte] at hx217_0)
               have qi217 : (1 < x3_1.length) = True := eq_true (by omega)
               (try rw [show ((1 : Int)).toNat = 1 from rfl] at hx217_0)
               replace p217 := eq_true p217
               replace q217 := eq_true q217
               have p218 : 0 ≤ (2 : Int) := (by omega)
               have q218 : 2 < (x3_1.length : Int) := M.dt
               obtain ⟨ad218, e218, hx218_0⟩ := Kd.at_int (Kd.R_reads' zaa.out).2.2 2 p218 q218
               obtain rfl : ad216 = ad218 := (by injection e218)
               (try simp only [show (2 : Int).toNat = 2 from rfl, Nat.reduceMul, Nat.reduceEqDiff, Go.Addr.add, ↓reduceIte] at hx218_0)
               have qi218 : (2 < x3_1.length) = True := eq_true (by omega)
               (try rw [show ((2 : Int)).toNat = 2 from rfl] at hx218_0)
               replace p218 := eq_true p218
               replace q218 := eq_true q218
               have p219 : 0 ≤ (3 : Int) := (by omega)
               have q219 : 3 < (x3_1.length : Int) := M.dt
               obtain ⟨ad219, e219, hx219_0⟩ := Kd.at_int (Kd.R_reads' zaa.out).2.2 3 p219 q219
               obtain rfl : ad216 = ad219 := (by injection e219)
               (try simp only [show (3 : Int).toNat = 3 from rfl, Nat.reduceMul, Nat.reduceEqDiff, Go.Addr.add, ↓reduceIte] at hx219_0)
               have qi219 : (3 < x3_1.length) = True := eq_true (by omega)
               (try rw [show ((3 : Int)).toNat = 3 from rfl] at hx219_0)
               replace p219 := eq_true p219
               replace q219 := eq_true q219
               have p220 : 0 ≤ (4 : Int) := (by omega)
               have q220 : 4 < (x3_1.length : Int) := M.dt
               obtain ⟨ad220, e220, hx220_0⟩ := Kd.at_int (Kd.R_reads' zaa.out).2.2 4 p220 q220
               obtain rfl : ad216 = ad220 := (by injection e220)
               (try simp only [show (4 : Int).toNat = 4 from rfl, Nat.reduceMul, Nat.reduceEqDiff, Go.Addr.add, ↓reduceIte] at hx220_0)
               have qi220 : (4 < x3_1.length) = True := eq_true (by omega)
               (try rw [show ((4 : Int)).toNat = 4 from rfl] at hx220_0)
               replace p220 := eq_true p220
               replace q220 := eq_true q220
               have p221 : 0 ≤ (5 : Int) := (by omega)
               have q221 : 5 < (x3_1.length : Int) := M.dt
               obtain ⟨ad221, e221, hx221_0⟩ := Kd.at_int (Kd.R_reads' zaa.out).2.2 5 p221 q221
               obtain rfl : ad216 = ad221 := (by injection e221)
               (try simp only [show (5 : Int).toNat = 5 from rfl, Nat.reduceMul, Nat.reduceEqDiff, Go.Addr.add, ↓reduceIte] at hx221_0)
               have qi221 : (5 < x3_1.length) = True := eq_true (by omega)
               (try rw [show ((5 : Int)).toNat = 5 from rfl] at hx221_0)
               replace p221 := eq_true p221
               replace q221 := eq_true q221
               have p222 : 0 ≤ (6 : Int) := (by omega)
               have q222 : 6 < (x3_1.length : Int) := M.dt
               obtain ⟨ad222, e222, hx222_0⟩ := Kd.at_int (Kd.R_reads' zaa.out).2.2 6 p222 q222
               obtain rfl : ad216 = ad222 := (by injection e222)
               (try simp only [show (6 : Int).toNat = 6 from rfl, Nat.reduceMul, Nat.reduceEqDiff, Go.Addr.add, ↓reduceIte] at hx222_0)
               have qi222 : (6 < x3_1.length) = True := eq_true (by omega)
               (try rw [show ((6 : Int)).toNat = 6 from rfl] at hx222_0)
               replace p222 := eq_true p222
               replace q222 := eq_true q222
               have p223 : 0 ≤ (7 : Int) := (by omega)
               have q223 : 7 < (x3_1.length : Int) := M.dt
               obtain ⟨ad223, e223, hx223_0⟩ := Kd.at_int (Kd.R_reads' zaa.out).2.2 7 p223 q223
               obtain rfl : ad216 = ad223 := (by injection e223)
               (try simp only [show (7 : Int).toNat = 7 from rfl, Nat.reduceMul, Nat.reduceEqDiff, Go.Addr.add, ↓reduceIte] at hx223_0)
               have qi223 : (7 < x3_1.length) = True := eq_true (by omega)
               (try rw [show ((7 : Int)).toNat = 7 from rfl] at hx223_0)
               replace p223 := eq_true p223
               replace q223 := eq_true q223
               refine start_ (n := 32) (S := fun w' => w'.cell? ad216 = some (.int .u32 (rd x3_1 0)) ∧ w'.cell? ⟨ad216.block, ad216.off + 1, none⟩ = some (.int .u32 (rd x3_1 1)) ∧ w'.cell? ⟨ad216.block, ad216.off + 2, none⟩ = some (.int .u32 (rd x3_1 2)) ∧ w'.cell? ⟨ad216.block, ad216.off + 3, none⟩ = some (.int .u32 (rd x3_1 3)) ∧ w'.cell? ⟨ad216.block, ad216.off + 4, none⟩ = some (.int .u32 (rd x3_1 4)) ∧ w'.cell? ⟨ad216.block, ad216.off + 5, none⟩ = some (.int .u32 (rd x3_1 5)) ∧ w'.cell? ⟨ad216.block, ad216.off + 6, none⟩ = some (.int .u32 (rd x3_1 6)) ∧ w'.cell? ⟨ad216.block, ad216.off + 7, none⟩ = some (.int .u32 (rd x3_1 7))) (ds := []) (M.tf [0, 32]) (by kernel_rfl) rfl rfl ⟨hx216_0, hx217_0, hx218_0, hx219_0, hx220_0, hx221_0, hx222_0, hx223_0⟩ (fun hHeld => ?_); refine with_tabW pleachref03_Sum_p.tab8 pleachref03_Sum_p.bits8 (fun HT_ HW_ => ?_)
               generalize w21.drew = w22 at zaa zab HO215 HB hx216_0 hx217_0 hx218_0 hx219_0 hx220_0 hx221_0 hx222_0 hx223_0 hHeld ⊢
               refine M.pu 0 39 [1, 31] HT_ ?_
               refine M.pu 1 40 [2, 30] HT_ ?_
               refine M.pu 3 42 [2, 1, 1, 28] HT_ ?_
               refine M.pu 4 43 [2, 1, 2, 27] HT_ ?_
               refine M.pu 6 45 [2, 1, 2, 1, 1, 25] HT_ ?_
               refine M.pu 7 46 [2, 1, 2, 1, 2, 24] HT_ ?_
               refine M.pu 9 48 [2, 1, 2, 1, 2, 1, 1, 22] HT_ ?_
               refine M.pu 10 49 [2, 1, 2, 1, 2, 1, 2, 21] HT_ ?_
               refine M.pu 12 51 [2, 1, 2, 1, 2, 1, 2, 1, 1, 19] HT_ ?_
               refine M.pu 13 52 [2, 1, 2, 1, 2, 1, 2, 1, 2, 18] HT_ ?_
               refine M.pu 15 54 [2, 1, 2, 1, 2, 1, 2, 1, 2, 1, 1, 16] HT_ ?_
               refine M.pu 16 55 [2, 1, 2, 1, 2, 1, 2, 1, 2, 1, 2, 15] HT_ ?_
               refine M.pu 18 57 [2, 1, 2, 1, 2, 1, 2, 1, 2, 1, 2, 1, 1, 13] HT_ ?_
               refine M.pu 19 58 [2, 1, 2, 1, 2, 1, 2, 1, 2, 1, 2, 1, 2, 12] HT_ ?_
               refine M.pu 21 60 [2, 1, 2, 1, 2, 1, 2, 1, 2, 1, 2, 1, 2, 1, 1, 10] HT_ ?_
               refine M.pu 22 61 [2, 1, 2, 1, 2, 1, 2, 1, 2, 1, 2, 1, 2, 1, 2, 9] HT_ ?_
               refine M.tk 2 41 [5, 1, 2, 1, 2, 1, 2, 1, 2, 1, 2, 1, 2, 9] HT_ HW_ hHeld ?_
               refine M.pu 24 8 [5, 1, 2, 1, 2, 1, 2, 1, 2, 1, 2, 1, 2, 1, 1, 7] HT_ ?_
               refine M.tk 5 44 [8, 1, 2, 1, 2, 1, 2, 1, 2, 1, 2, 1, 1, 7] HT_ HW_ hHeld ?_
               refine M.pu 25 9 [8, 1, 2, 1, 2, 1, 2, 1, 2, 1, 2, 1, 2, 6] HT_ ?_
               refine M.tk 8 47 [11, 1, 2, 1, 2, 1, 2, 1, 2, 1, 2, 6] HT_ HW_ hHeld ?_
               refine M.pu 26 10 [11, 1, 2, 1, 2, 1, 2, 1, 2, 1, 3, 5] HT_ ?_
               refine M.tk 11 50 [14, 1, 2, 1, 2, 1, 2, 1, 3, 5] HT_ HW_ hHeld ?_
               refine M.pu 27 11 [14, 1, 2, 1, 2, 1, 2, 1, 4, 4] HT_ ?_
               refine M.tk 14 53 [17, 1, 2, 1, 2, 1, 4, 4] HT_ HW_ hHeld ?_
               refine M.pu 28 12 [17, 1, 2, 1, 2, 1, 5, 3] HT_ ?_
               refine M.tk 17 56 [20, 1, 2, 1, 5, 3] HT_ HW_ hHeld ?_
               refine M.pu 29 13 [20, 1, 2, 1, 6, 2] HT_ ?_
               refine M.tk 20 59 [23, 1, 6, 2] HT_ HW_ hHeld ?_
               refine M.pu 30 14 [23, 1, 7, 1] HT_ ?_
               refine M.tk 23 62 [31, 1] HT_ HW_ hHeld ?_
               refine M.pu 31 15 [32] HT_ ?_
               refine done_ (done_of HT_.out (by kernel_rfl)) ?_
               try go_wp2
               go_loopg [8, 9, 10, 11, 12, 13, 14, 15, 16] k1 (fun kq v8 v9 v10 v11 v12 v13 v14 v15 v16 w' => ∃ (x8_2 : Int) (x9_2 : Int) (x10_2 : Int) (x11_2 : Int) (x12_2 : Int) (x13_2 : Int) (x14_2 : Int) (x15_2 : Int) (x16_2 : Int), v8 = .int .u32 x8_2 ∧ v9 = .int .u32 x9_2 ∧ v10 = .int .u32 x10_2 ∧ v11 = .int .u32 x11_2 ∧ v12 = .int .u32 x12_2 ∧ v13 = .int .u32 x13_2 ∧ v14 = .int .u32 x14_2 ∧ v15 = .int .u32 x15_2 ∧ v16 = .int .i64 x16_2 ∧ Aside0 (pleachref03_Sum_p.l1 kq x3_1 t209 t210 x6_1 t213 x8_2 x9_2 x10_2 x11_2 x12_2 x13_2 x14_2 x15_2 x16_2 = some r) ∧ Aside0 (kq ≤ k1) ∧ Aside0 (Kd.R (Kd.int .u32) 116 w' w.heap.size (fun k_ => some k_ ≠ (v211 : Value).ownBlock ∧ some k_ ≠ (v214 : Value).ownBlock) (.slice (some ad216) x3_1.length co23) x3_1) ∧ Aside0 (Kd.R (Kd.int .u32) 116 w' w.heap.size (fun k_ => some k_ ≠ ((.slice (some ad216) x3_1.length co23) : Value).ownBlock ∧ some k_ ≠ (v214 : Value).ownBlock) v211 t210) ∧ Aside0 (Kd.R (Kd.int .u32) 116 w' w.heap.size (fun k_ => some k_ ≠ ((.slice (some ad216) x3_1.length co23) : Value).ownBlock ∧ some k_ ≠ (v211 : Value).ownBlock) v214 t213) ∧ Aside0 (Below w.heap.size w w'))
               case atStart => exact ⟨(rd x3_1 0), (rd x3_1 1), (rd x3_1 2), (rd x3_1 3), (rd x3_1 4), (rd x3_1 5), (rd x3_1 6), (rd x3_1 7), (0), M.eqv, M.eqv, M.eqv, M.eqv, M.eqv, M.eqv, M.eqv, M.eqv, M.eqv, H', ⟨Nat.le_refl _⟩, ⟨by (with_reducible repeat (first | apply Kd.R_alloc | apply Kd.R_drewN | apply Kd.R_drew)); exact zaa.out⟩, ⟨by (with_reducible repeat (first | apply Kd.R_alloc | apply Kd.R_drewN | apply Kd.R_drew)); exact zab.out⟩, ⟨by (with_reducible repeat (first | apply Kd.R_alloc | apply Kd.R_drewN | apply Kd.R_drew)); exact Kd.R_mono HO215.out (fun _ hk => ⟨hk.1.2, hk.2⟩)⟩, ⟨M.up HB⟩⟩
               case round =>
                clear H'
                (try clear c1); (try clear c2); (try clear p2); (try clear q2); (try clear hx2); (try clear qi2); (try clear c6); (try clear p6); (try clear c7); (try clear c8); (try clear c8b0); (try clear c9); (try clear c9b0); (try clear c9b1); (try clear c10); (try clear c10b0); (try clear c10b1); (try clear c11); (try clear c11b0); (try clear c11b1); (try clear c13); (try clear c13b0); (try clear c13b1); (try clear c14); (try clear c14b0); (try clear c14b1); (try clear c15); (try clear c15b0); (try clear c15b1); (try clear c16); (try clear c16b0); (try clear c16b1); (try clear c17); (try clear c17b0); (try clear c17b1); (try clear c18); (try clear c18b0); (try clear c18b1); (try clear c19); (try clear c19b0); (try clear c19b1); (try clear c20); (try clear c20b0); (try clear c20b1); (try clear p21); (try clear q21); (try clear hx21); (try clear qi21); (try clear p22); (try clear q22); (try clear hx22); (try clear qi22); (try clear hx216_0); (try clear hx217_0); (try clear hx218_0); (try clear hx219_0); (try clear hx220_0); (try clear hx221_0); (try clear hx222_0); (try clear hx223_0); (try clear p2); (try clear p216); (try clear p217); (try clear p218); (try clear p219); (try clear p220); (try clear p221); (try clear p222); (try clear p223); (try clear q216); (try clear q217); (try clear q218); (try clear q219); (try clear q220); (try clear q221); (try clear q222); (try clear q223)
                obtain ⟨x8_2, x9_2, x10_2, x11_2, x12_2, x13_2, x14_2, x15_2, x16_2, rfl, rfl, rfl, rfl, rfl, rfl, rfl, rfl, rfl, HA, HK2, zaa, zab, zac, HB⟩ := hrel
                cases gk with
                | zero => exact absurd HA.out (by simp [pleachref03_Sum_p.l1])
                | succ k2 =>
                 have H := HA.out
                 clear HA
                 simp only [pleachref03_Sum_p.l1] at H
                 by_cases c24 : x16_2 < 64
                 ·rw [if_pos c24] at H
                  have c24b0 := decide_eq_true c24
                  clear c24
                  replace H := Option.bind_eq_some_iff.mp H
                  obtain ⟨t235, A250, H⟩ := H
                  replace H : ((pleachref03_turn.f x12_2 11).bind fun t236 => ((pleachref03_turn.f x12_2 25).bind fun t237 => (if 0 ≤ x16_2 then (if x16_2 < (t210.length : Int) then (if x16_2 < (t213.length : Int) then ((pleachref03_turn.f x8_2 2).bind fun t240 => ((pleachref03_turn.f x8_2 13).bind fun t241 => ((pleachref03_turn.f x8_2 22).bind fun t242 => (pleachref03_Sum_p.l1 k2 x3_1 t209 t210 x6_1 t213 ((((((((((x15_2 + (Go.bits .xor .u32 (Go.bits .xor .u32 t235 t236) t237)) % 4294967296) + (Go.bits .or .u32 (Go.bits .and .u32 x12_2 x13_2) (Go.bits .and .u32 ((4294967295 - x12_2) % 4294967296) x14_2))) % 4294967296) + (rd t210 x16_2)) % 4294967296) + (rd t213 x16_2)) % 4294967296) + (((Go.bits .xor .u32 (Go.bits .xor .u32 t240 t241) t242) + (Go.bits .or .u32 (Go.bits .or .u32 (Go.bits .and .u32 x8_2 x9_2) (Go.bits .and .u32 x8_2 x10_2)) (Go.bits .and .u32 x9_2 x10_2))) % 4294967296)) % 4294967296) x8_2 x9_2 x10_2 ((x11_2 + ((((((((x15_2 + (Go.bits .xor .u32 (Go.bits .xor .u32 t235 t236) t237)) % 4294967296) + (Go.bits .or .u32 (Go.bits .and .u32 x12_2 x13_2) (Go.bits .and .u32 ((4294967295 - x12_2) % 4294967296) x14_2))) % 4294967296) + (rd t210 x16_2)) % 4294967296) + (rd t213 x16_2)) % 4294967296)) % 4294967296) x12_2 x13_2 x14_2 (wrap64 (x16_2 + 1)))))) else (none)) else (none)) else (none)))) = some r := H
                  have A25 := Aside0.mk A250
                  clear A250
                  replace H := Option.bind_eq_some_iff.mp H
                  obtain ⟨t236, A260, H⟩ := H
                  replace H : ((pleachref03_turn.f x12_2 25).bind fun t237 => (if 0 ≤ x16_2 then (if x16_2 < (t210.length : Int) then (if x16_2 < (t213.length : Int) then ((pleachref03_turn.f x8_2 2).bind fun t240 => ((pleachref03_turn.f x8_2 13).bind fun t241 => ((pleachref03_turn.f x8_2 22).bind fun t242 => (pleachref03_Sum_p.l1 k2 x3_1 t209 t210 x6_1 t213 ((((((((((x15_2 + (Go.bits .xor .u32 (Go.bits .xor .u32 t235 t236) t237)) % 4294967296) + (Go.bits .or .u32 (Go.bits .and .u32 x12_2 x13_2) (Go.bits .and .u32 ((4294967295 - x12_2) % 4294967296) x14_2))) % 4294967296) + (rd t210 x16_2)) % 4294967296) + (rd t213 x16_2)) % 4294967296) + (((Go.bits .xor .u32 (Go.bits .xor .u32 t240 t241) t242) + (Go.bits .or .u32 (Go.bits .or .u32 (Go.bits .and .u32 x8_2 x9_2) (Go.bits .and .u32 x8_2 x10_2)) (Go.bits .and .u32 x9_2 x10_2))) % 4294967296)) % 4294967296) x8_2 x9_2 x10_2 ((x11_2 + ((((((((x15_2 + (Go.bits .xor .u32 (Go.bits .xor .u32 t235 t236) t237)) % 4294967296) + (Go.bits .or .u32 (Go.bits .and .u32 x12_2 x13_2) (Go.bits .and .u32 ((4294967295 - x12_2) % 4294967296) x14_2))) % 4294967296) + (rd t210 x16_2)) % 4294967296) + (rd t213 x16_2)) % 4294967296)) % 4294967296) x12_2 x13_2 x14_2 (wrap64 (x16_2 + 1)))))) else (none)) else (none)) else (none))) = some r := H
                  have A26 := Aside0.mk A260
                  clear A260
                  replace H := Option.bind_eq_some_iff.mp H
                  obtain ⟨t237, A270, H⟩ := H
                  replace H : (if 0 ≤ x16_2 then (if x16_2 < (t210.length : Int) then (if x16_2 < (t213.length : Int) then ((pleachref03_turn.f x8_2 2).bind fun t240 => ((pleachref03_turn.f x8_2 13).bind fun t241 => ((pleachref03_turn.f x8_2 22).bind fun t242 => (pleachref03_Sum_p.l1 k2 x3_1 t209 t210 x6_1 t213 ((((((((((x15_2 + (Go.bits .xor .u32 (Go.bits .xor .u32 t235 t236) t237)) % 4294967296) + (Go.bits .or .u32 (Go.bits .and .u32 x12_2 x13_2) (Go.bits .and .u32 ((4294967295 - x12_2) % 4294967296) x14_2))) % 4294967296) + (rd t210 x16_2)) % 4294967296) + (rd t213 x16_2)) % 4294967296) + (((Go.bits .xor .u32 (Go.bits .xor .u32 t240 t241) t242) + (Go.bits .or .u32 (Go.bits .or .u32 (Go.bits .and .u32 x8_2 x9_2) (Go.bits .and .u32 x8_2 x10_2)) (Go.bits .and .u32 x9_2 x10_2))) % 4294967296)) % 4294967296) x8_2 x9_2 x10_2 ((x11_2 + ((((((((x15_2 + (Go.bits .xor .u32 (Go.bits .xor .u32 t235 t236) t237)) % 4294967296) + (Go.bits .or .u32 (Go.bits .and .u32 x12_2 x13_2) (Go.bits .and .u32 ((4294967295 - x12_2) % 4294967296) x14_2))) % 4294967296) + (rd t210 x16_2)) % 4294967296) + (rd t213 x16_2)) % 4294967296)) % 4294967296) x12_2 x13_2 x14_2 (wrap64 (x16_2 + 1)))))) else (none)) else (none)) else (none)) = some r := H
                  have A27 := Aside0.mk A270
                  clear A270
                  by_cases c28 : 0 ≤ x16_2
                  ·rw [if_pos c28] at H
                   have c28b0 := decide_eq_true c28
                   clear c28
                   by_cases c29 : x16_2 < (t210.length : Int)
                   ·rw [if_pos c29] at H
                    have c29b0 := decide_eq_true c29
                    clear c29
                    by_cases c30 : x16_2 < (t213.length : Int)
                    ·rw [if_pos c30] at H
                     have c30b0 := decide_eq_true c30
                     clear c30
                     replace H := Option.bind_eq_some_iff.mp H
                     obtain ⟨t240, A310, H⟩ := H
                     replace H : ((pleachref03_turn.f x8_2 13).bind fun t241 => ((pleachref03_turn.f x8_2 22).bind fun t242 => (pleachref03_Sum_p.l1 k2 x3_1 t209 t210 x6_1 t213 ((((((((((x15_2 + (Go.bits .xor .u32 (Go.bits .xor .u32 t235 t236) t237)) % 4294967296) + (Go.bits .or .u32 (Go.bits .and .u32 x12_2 x13_2) (Go.bits .and .u32 ((4294967295 - x12_2) % 4294967296) x14_2))) % 4294967296) + (rd t210 x16_2)) % 4294967296) + (rd t213 x16_2)) % 4294967296) + (((Go.bits .xor .u32 (Go.bits .xor .u32 t240 t241) t242) + (Go.bits .or .u32 (Go.bits .or .u32 (Go.bits .and .u32 x8_2 x9_2) (Go.bits .and .u32 x8_2 x10_2)) (Go.bits .and .u32 x9_2 x10_2))) % 4294967296)) % 4294967296) x8_2 x9_2 x10_2 ((x11_2 + ((((((((x15_2 + (Go.bits .xor .u32 (Go.bits .xor .u32 t235 t236) t237)) % 4294967296) + (Go.bits .or .u32 (Go.bits .and .u32 x12_2 x13_2) (Go.bits .and .u32 ((4294967295 - x12_2) % 4294967296) x14_2))) % 4294967296) + (rd t210 x16_2)) % 4294967296) + (rd t213 x16_2)) % 4294967296)) % 4294967296) x12_2 x13_2 x14_2 (wrap64 (x16_2 + 1))))) = some r := H
                     have A31 := Aside0.mk A310
                     clear A310
                     replace H := Option.bind_eq_some_iff.mp H
                     obtain ⟨t241, A320, H⟩ := H
                     replace H : ((pleachref03_turn.f x8_2 22).bind fun t242 => (pleachref03_Sum_p.l1 k2 x3_1 t209 t210 x6_1 t213 ((((((((((x15_2 + (Go.bits .xor .u32 (Go.bits .xor .u32 t235 t236) t237)) % 4294967296) + (Go.bits .or .u32 (Go.bits .and .u32 x12_2 x13_2) (Go.bits .and .u32 ((4294967295 - x12_2) % 4294967296) x14_2))) % 4294967296) + (rd t210 x16_2)) % 4294967296) + (rd t213 x16_2)) % 4294967296) + (((Go.bits .xor .u32 (Go.bits .xor .u32 t240 t241) t242) + (Go.bits .or .u32 (Go.bits .or .u32 (Go.bits .and .u32 x8_2 x9_2) (Go.bits .and .u32 x8_2 x10_2)) (Go.bits .and .u32 x9_2 x10_2))) % 4294967296)) % 4294967296) x8_2 x9_2 x10_2 ((x11_2 + ((((((((x15_2 + (Go.bits .xor .u32 (Go.bits .xor .u32 t235 t236) t237)) % 4294967296) + (Go.bits .or .u32 (Go.bits .and .u32 x12_2 x13_2) (Go.bits .and .u32 ((4294967295 - x12_2) % 4294967296) x14_2))) % 4294967296) + (rd t210 x16_2)) % 4294967296) + (rd t213 x16_2)) % 4294967296)) % 4294967296) x12_2 x13_2 x14_2 (wrap64 (x16_2 + 1)))) = some r := H
                     have A32 := Aside0.mk A320
                     clear A320
                     replace H := Option.bind_eq_some_iff.mp H
                     obtain ⟨t242, A330, H⟩ := H
                     replace H : (pleachref03_Sum_p.l1 k2 x3_1 t209 t210 x6_1 t213 ((((((((((x15_2 + (Go.bits .xor .u32 (Go.bits .xor .u32 t235 t236) t237)) % 4294967296) + (Go.bits .or .u32 (Go.bits .and .u32 x12_2 x13_2) (Go.bits .and .u32 ((4294967295 - x12_2) % 4294967296) x14_2))) % 4294967296) + (rd t210 x16_2)) % 4294967296) + (rd t213 x16_2)) % 4294967296) + (((Go.bits .xor .u32 (Go.bits .xor .u32 t240 t241) t242) + (Go.bits .or .u32 (Go.bits .or .u32 (Go.bits .and .u32 x8_2 x9_2) (Go.bits .and .u32 x8_2 x10_2)) (Go.bits .and .u32 x9_2 x10_2))) % 4294967296)) % 4294967296) x8_2 x9_2 x10_2 ((x11_2 + ((((((((x15_2 + (Go.bits .xor .u32 (Go.bits .xor .u32 t235 t236) t237)) % 4294967296) + (Go.bits .or .u32 (Go.bits .and .u32 x12_2 x13_2) (Go.bits .and .u32 ((4294967295 - x12_2) % 4294967296) x14_2))) % 4294967296) + (rd t210 x16_2)) % 4294967296) + (rd t213 x16_2)) % 4294967296)) % 4294967296) x12_2 x13_2 x14_2 (wrap64 (x16_2 + 1))) = some r := H
                     have A33 := Aside0.mk A330
                     clear A330
                     have H' := Aside0.mk H
                     clear H
                     try go_wp2
                     replace zaa := Aside0.mk (Kd.R_drew zaa.out); replace zab := Aside0.mk (Kd.R_drew zab.out); replace zac := Aside0.mk (Kd.R_drew zac.out); replace HB := Aside0.mk (below_drew1 HB.out)
                     obtain ⟨Ao35, co35, eo35⟩ := Kd.R_slice zab.out
                     (first | subst eo35 | (injection eo35 with f1_ f2_ f3_; have f4_ := f1_.symm; have f5_ := f3_.symm; clear f1_ f2_ f3_; subst f4_; subst f5_))
                     have p238 : 0 ≤ (x16_2 : Int) := M.dt
                     have q238 : x16_2 < (t210.length : Int) := M.dt
                     obtain ⟨ad238, e238, hx238_0⟩ := Kd.at_int (Kd.R_reads' zab.out).2.2 x16_2 p238 q238
                     cases e238
                     replace p238 := eq_true p238
                     replace q238 := eq_true q238
                     obtain ⟨Ao36, co36, eo36⟩ := Kd.R_slice zac.out
                     (first | subst eo36 | (injection eo36 with f1_ f2_ f3_; have f4_ := f1_.symm; have f5_ := f3_.symm; clear f1_ f2_ f3_; subst f4_; subst f5_))
                     have p239 : 0 ≤ (x16_2 : Int) := M.dt
                     have q239 : x16_2 < (t213.length : Int) := M.dt
                     obtain ⟨ad239, e239, hx239_0⟩ := Kd.at_int (Kd.R_reads' zac.out).2.2 x16_2 p239 q239
                     cases e239
                     replace p239 := eq_true p239
                     replace q239 := eq_true q239
                     refine start_ (n := 23) (S := fun w' => w'.cell? (ad238.add (x16_2).toNat) = some (.int .u32 (rd t210 x16_2)) ∧ w'.cell? (ad239.add (x16_2).toNat) = some (.int .u32 (rd t213 x16_2))) (ds := []) (M.tf [0, 23]) (by kernel_rfl) rfl rfl ⟨hx238_0, hx239_0⟩ (fun hHeld => ?_); refine with_tabW pleachref03_Sum_p.tab14 pleachref03_Sum_p.bits14 (fun HT_ HW_ => ?_)
                     generalize wr.drew = w34 at zaa zab zac HB hx238_0 hx239_0 hHeld ⊢
                     refine M.pu 0 86 [1, 22] HT_ ?_
                     refine M.pu 1 87 [2, 21] HT_ ?_
                     refine M.pu 3 89 [2, 1, 1, 19] HT_ ?_
                     refine M.pu 6 92 [2, 1, 1, 2, 1, 16] HT_ ?_
                     refine M.pu 10 96 [2, 1, 1, 2, 1, 3, 1, 12] HT_ ?_
                     refine M.pu 12 98 [2, 1, 1, 2, 1, 3, 1, 1, 1, 10] HT_ ?_
                     refine M.pu 13 99 [2, 1, 1, 2, 1, 3, 1, 1, 2, 9] HT_ ?_
                     refine M.pu 14 100 [2, 1, 1, 2, 1, 3, 1, 1, 3, 8] HT_ ?_
                     refine M.pu 17 103 [2, 1, 1, 2, 1, 3, 1, 1, 3, 2, 1, 5] HT_ ?_
                     refine M.pu 18 104 [2, 1, 1, 2, 1, 3, 1, 1, 3, 2, 2, 4] HT_ ?_
                     refine M.pu 19 105 [2, 1, 1, 2, 1, 3, 1, 1, 3, 2, 3, 3] HT_ ?_
                     refine M.tk 15 101 [2, 1, 1, 2, 1, 3, 1, 1, 4, 1, 3, 3] HT_ HW_ hHeld ?_
                     refine M.tk 20 106 [2, 1, 1, 2, 1, 3, 1, 1, 4, 1, 4, 2] HT_ HW_ hHeld ?_
                     refine one_ (i := 2) (N := some 88) (M.tf [4, 2, 1, 3, 1, 1, 4, 1, 4, 2]) rfl rfl (one_of HT_.out (by kernel_rfl)) (by decide) (fun K hK => ?_)
                     refine goes_ Tryd.func73 (by kernel_rfl) rfl #[.int .u32 x12_2, .int .u64 6] (by rfl) rfl rfl (by (try simp only [List.map_toArray, List.map_cons, List.map_nil]); first | done | rfl | (simp only [List.length_drop, List.length_take]; rfl)) ?_
                     with_reducible refine (pleachref03_turn.calls x12_2 6 t235 _ A25.out).mono ?_
                     rintro e w' ⟨rfl, ⟨nd, rfl⟩⟩
                     refine ⟨_, rfl, ?_⟩
                     refine hK.out _ _ ⟨hHeld.1, hHeld.2⟩ (fun hHeld => ?_)
                     clear hK K
                     refine norm_ (a' := ?_) ?_ ?_
                     rotate_left
                     ·show Act.put _ (some 88) _ = _
                      simp only [Act.put, List.setIfInBounds_toArray, List.set_cons_zero, List.set_cons_succ, i64_w, i32_w]
                      rfl
                     refine one_ (i := 4) (N := some 90) (M.tf [5, 1, 1, 3, 1, 1, 4, 1, 4, 2]) rfl rfl (one_of HT_.out (by kernel_rfl)) (by decide) (fun K hK => ?_)
                     refine goes_ Tryd.func73 (by kernel_rfl) rfl #[.int .u32 x12_2, .int .u64 11] (by rfl) rfl rfl (by (try simp only [List.map_toArray, List.map_cons, List.map_nil]); first | done | rfl | (simp only [List.length_drop, List.length_take]; rfl)) ?_
                     with_reducible refine (pleachref03_turn.calls x12_2 11 t236 _ A26.out).mono ?_
                     rintro e w' ⟨rfl, ⟨nd, rfl⟩⟩
                     refine ⟨_, rfl, ?_⟩
                     refine hK.out _ _ ⟨hHeld.1, hHeld.2⟩ (fun hHeld => ?_)
                     clear hK K
                     refine norm_ (a' := ?_) ?_ ?_
                     rotate_left
                     ·show Act.put _ (some 90) _ = _
                      simp only [Act.put, List.setIfInBounds_toArray, List.set_cons_zero, List.set_cons_succ, i64_w, i32_w]
                      rfl
                     refine M.pu 5 91 [7, 3, 1, 1, 4, 1, 4, 2] HT_ ?_
                     refine one_ (i := 7) (N := some 93) (M.tf [8, 2, 1, 1, 4, 1, 4, 2]) rfl rfl (one_of HT_.out (by kernel_rfl)) (by decide) (fun K hK => ?_)
                     refine goes_ Tryd.func73 (by kernel_rfl) rfl #[.int .u32 x12_2, .int .u64 25] (by rfl) rfl rfl (by (try simp only [List.map_toArray, List.map_cons, List.map_nil]); first | done | rfl | (simp only [List.length_drop, List.length_take]; rfl)) ?_
                     with_reducible refine (pleachref03_turn.calls x12_2 25 t237 _ A27.out).mono ?_
                     rintro e w' ⟨rfl, ⟨nd, rfl⟩⟩
                     refine ⟨_, rfl, ?_⟩
                     refine hK.out _ _ ⟨hHeld.1, hHeld.2⟩ (fun hHeld => ?_)
                     clear hK K
                     refine norm_ (a' := ?_) ?_ ?_
                     rotate_left
                     ·show Act.put _ (some 93) _ = _
                      simp only [Act.put, List.setIfInBounds_toArray, List.set_cons_zero, List.set_cons_succ, i64_w, i32_w]
                      rfl
                     refine M.pu 8 94 [9, 1, 1, 1, 4, 1, 4, 2] HT_ ?_
                     refine M.pu 9 95 [11, 1, 4, 1, 4, 2] HT_ ?_
                     refine M.pu 11 97 [16, 1, 4, 2] HT_ ?_
                     refine M.pu 16 102 [21, 2] HT_ ?_
                     refine M.pu 21 107 [22, 1] HT_ ?_
                     refine M.pu 22 19 [23] HT_ ?_
                     refine done_ (done_of HT_.out (by kernel_rfl)) ?_
                     try go_wp2_with (first | ((with_reducible refine gate_callee (f := 73) rfl ?_); refine M.goes (some 109) Tryd.func73 #[.int .u32 x8_2, .int .u64 2] rfl ?_; (with_reducible refine (pleachref03_turn.calls x8_2 2 t240 _ A31.out).mono ?_); rintro e w' ⟨rfl, ⟨nd, rfl⟩⟩; refine ⟨_, rfl, ?_⟩) | ((with_reducible refine gate_callee (f := 73) rfl ?_); refine M.goes (some 111) Tryd.func73 #[.int .u32 x8_2, .int .u64 13] rfl ?_; (with_reducible refine (pleachref03_turn.calls x8_2 13 t241 _ A32.out).mono ?_); rintro e w' ⟨rfl, ⟨nd, rfl⟩⟩; refine ⟨_, rfl, ?_⟩) | ((with_reducible refine gate_callee (f := 73) rfl ?_); refine M.goes (some 114) Tryd.func73 #[.int .u32 x8_2, .int .u64 22] rfl ?_; (with_reducible refine (pleachref03_turn.calls x8_2 22 t242 _ A33.out).mono ?_); rintro e w' ⟨rfl, ⟨nd, rfl⟩⟩; refine ⟨_, rfl, ?_⟩))
                     go_roundg k2
                     case measure => have := HK1.out; have := HK2.out; omega
                     case rel => exact ⟨((((((((((x15_2 + (Go.bits .xor .u32 (Go.bits .xor .u32 t235 t236) t237)) % 4294967296) + (Go.bits .or .u32 (Go.bits .and .u32 x12_2 x13_2) (Go.bits .and .u32 ((4294967295 - x12_2) % 4294967296) x14_2))) % 4294967296) + (rd t210 x16_2)) % 4294967296) + (rd t213 x16_2)) % 4294967296) + (((Go.bits .xor .u32 (Go.bits .xor .u32 t240 t241) t242) + (Go.bits .or .u32 (Go.bits .or .u32 (Go.bits .and .u32 x8_2 x9_2) (Go.bits .and .u32 x8_2 x10_2)) (Go.bits .and .u32 x9_2 x10_2))) % 4294967296)) % 4294967296), (x8_2), (x9_2), (x10_2), ((x11_2 + ((((((((x15_2 + (Go.bits .xor .u32 (Go.bits .xor .u32 t235 t236) t237)) % 4294967296) + (Go.bits .or .u32 (Go.bits .and .u32 x12_2 x13_2) (Go.bits .and .u32 ((4294967295 - x12_2) % 4294967296) x14_2))) % 4294967296) + (rd t210 x16_2)) % 4294967296) + (rd t213 x16_2)) % 4294967296)) % 4294967296), (x12_2), (x13_2), (x14_2), (wrap64 (x16_2 + 1)), M.eqv, M.eqv, M.eqv, M.eqv, M.eqv, M.eqv, M.eqv, M.eqv, M.eqv, H', ⟨by have := HK1.out; have := HK2.out; omega⟩, ⟨by (with_reducible repeat (first | apply Kd.R_alloc | apply Kd.R_drewN | apply Kd.R_drew)); exact zaa.out⟩, ⟨by (with_reducible repeat (first | apply Kd.R_alloc | apply Kd.R_drewN | apply Kd.R_drew)); exact zab.out⟩, ⟨by (with_reducible repeat (first | apply Kd.R_alloc | apply Kd.R_drewN | apply Kd.R_drew)); exact zac.out⟩, ⟨M.up HB⟩⟩
                    ·exact M.nf c30 H
                   ·exact M.nf c29 H
                  ·exact M.nf c28 H
                 ·rw [if_neg c24] at H
                  have c24b0 := decide_eq_false c24
                  clear c24
                  by_cases c37 : 0 < (x3_1.length : Int)
                  ·rw [if_pos c37] at H
                   have c37b0 := decide_eq_true c37
                   have c37b1 : decide (0 < x3_1.length) = true := decide_eq_true (by omega)
                   clear c37
                   by_cases c38 : 1 < (x3_1.length : Int)
                   ·rw [if_pos c38] at H
                    have c38b0 := decide_eq_true c38
                    have c38b1 : decide (1 < x3_1.length) = true := decide_eq_true (by omega)
                    clear c38
                    by_cases c39 : 2 < (x3_1.length : Int)
                    ·rw [if_pos c39] at H
                     have c39b0 := decide_eq_true c39
                     have c39b1 : decide (2 < x3_1.length) = true := decide_eq_true (by omega)
                     clear c39
                     by_cases c40 : 3 < (x3_1.length : Int)
                     ·rw [if_pos c40] at H
                      have c40b0 := decide_eq_true c40
                      have c40b1 : decide (3 < x3_1.length) = true := decide_eq_true (by omega)
                      clear c40
                      by_cases c41 : 4 < (x3_1.length : Int)
                      ·rw [if_pos c41] at H
                       have c41b0 := decide_eq_true c41
                       have c41b1 : decide (4 < x3_1.length) = true := decide_eq_true (by omega)
                       clear c41
                       by_cases c42 : 5 < (x3_1.length : Int)
                       ·rw [if_pos c42] at H
                        have c42b0 := decide_eq_true c42
                        have c42b1 : decide (5 < x3_1.length) = true := decide_eq_true (by omega)
                        clear c42
                        by_cases c43 : 6 < (x3_1.length : Int)
                        ·rw [if_pos c43] at H
                         have c43b0 := decide_eq_true c43
                         have c43b1 : decide (6 < x3_1.length) = true := decide_eq_true (by omega)
                         clear c43
                         by_cases c44 : 7 < (x3_1.length : Int)
                         ·rw [if_pos c44] at H
                          have c44b0 := decide_eq_true c44
                          have c44b1 : decide (7 < x3_1.length) = true := decide_eq_true (by omega)
                          clear c44
                          obtain ⟨y232, hy232⟩ : ∃ y_ : List Int, y_ = (([((rd x3_1 0) + x8_2) % 4294967296, ((rd x3_1 1) + x9_2) % 4294967296, ((rd x3_1 2) + x10_2) % 4294967296, ((rd x3_1 3) + x11_2) % 4294967296, ((rd x3_1 4) + x12_2) % 4294967296, ((rd x3_1 5) + x13_2) % 4294967296, ((rd x3_1 6) + x14_2) % 4294967296, ((rd x3_1 7) + x15_2) % 4294967296] : List Int)) := ⟨_, rfl⟩
                          replace H : (pleachref03_Sum_p.l0 k2 y232 t209 t210 (wrap64 (x6_1 + 64))) = some r := by first | (rw [hy232]; with_reducible exact H) | (have H2_ := (Option.bind_some _ _).symm.trans H; rw [hy232]; with_reducible exact H2_) | (have H2_ := (Option.bind_some _ _).symm.trans H; with_reducible exact H2_) | with_reducible exact H | (rw [hy232]; exact H) | exact H
                          have Ny232 := Aside0.mk hy232
                          clear hy232
                          have H' := Aside0.mk H
                          clear H
                          try go_wp2
                          replace zaa := Aside0.mk (Kd.R_drew zaa.out); replace zab := Aside0.mk (Kd.R_drew zab.out); replace zac := Aside0.mk (Kd.R_drew zac.out); replace HB := Aside0.mk (below_drew1 HB.out)
                          have p224 : 0 ≤ (0 : Int) := (by omega)
                          have q224 : 0 < (x3_1.length : Int) := M.dt
                          obtain ⟨ad224, e224, hx224_0⟩ := Kd.at_int (Kd.R_reads' zaa.out).2.2 0 p224 q224
                          obtain rfl : ad216 = ad224 := (by injection e224)
                          have qi224 : (0 < x3_1.length) = True := eq_true (by omega)
                          (try rw [show ((0 : Int)).toNat = 0 from rfl] at hx224_0)
                          (try rw [Addr.add_zero'] at hx224_0)
                          replace p224 := eq_true p224
                          replace q224 := eq_true q224
                          have p225 : 0 ≤ (1 : Int) := (by omega)
                          have q225 : 1 < (x3_1.length : Int) := M.dt
                          obtain ⟨ad225, e225, hx225_0⟩ := Kd.at_int (Kd.R_reads' zaa.out).2.2 1 p225 q225
                          obtain rfl : ad216 = ad225 := (by injection e225)
                          (try simp only [show (1 : Int).toNat = 1 from rfl, Nat.reduceMul, Nat.reduceEqDiff, Go.Addr.add, ↓reduceIte] at hx225_0)
                          have qi225 : (1 < x3_1.length) = True := eq_true (by omega)
                          (try rw [show ((1 : Int)).toNat = 1 from rfl] at hx225_0)
                          replace p225 := eq_true p225
                          replace q225 := eq_true q225
                          have p226 : 0 ≤ (2 : Int) := (by omega)
                          have q226 : 2 < (x3_1.length : Int) := M.dt
                          obtain ⟨ad226, e226, hx226_0⟩ := Kd.at_int (Kd.R_reads' zaa.out).2.2 2 p226 q226
                          obtain rfl : ad216 = ad226 := (by injection e226)
                          (try simp only [show (2 : Int).toNat = 2 from rfl, Nat.reduceMul, Nat.reduceEqDiff, Go.Addr.add, ↓reduceIte] at hx226_0)
                          have qi226 : (2 < x3_1.length) = True := eq_true (by omega)
                          (try rw [show ((2 : Int)).toNat = 2 from rfl] at hx226_0)
                          replace p226 := eq_true p226
                          replace q226 := eq_true q226
                          have p227 : 0 ≤ (3 : Int) := (by omega)
                          have q227 : 3 < (x3_1.length : Int) := M.dt
                          obtain ⟨ad227, e227, hx227_0⟩ := Kd.at_int (Kd.R_reads' zaa.out).2.2 3 p227 q227
                          obtain rfl : ad216 = ad227 := (by injection e227)
                          (try simp only [show (3 : Int).toNat = 3 from rfl, Nat.reduceMul, Nat.reduceEqDiff, Go.Addr.add, ↓reduceIte] at hx227_0)
                          have qi227 : (3 < x3_1.length) = True := eq_true (by omega)
                          (try rw [show ((3 : Int)).toNat = 3 from rfl] at hx227_0)
                          replace p227 := eq_true p227
                          replace q227 := eq_true q227
                          have p228 : 0 ≤ (4 : Int) := (by omega)
                          have q228 : 4 < (x3_1.length : Int) := M.dt
                          obtain ⟨ad228, e228, hx228_0⟩ := Kd.at_int (Kd.R_reads' zaa.out).2.2 4 p228 q228
                          obtain rfl : ad216 = ad228 := (by injection e228)
                          (try simp only [show (4 : Int).toNat = 4 from rfl, Nat.reduceMul, Nat.reduceEqDiff, Go.Addr.add, ↓reduceIte] at hx228_0)
                          have qi228 : (4 < x3_1.length) = True := eq_true (by omega)
                          (try rw [show ((4 : Int)).toNat = 4 from rfl] at hx228_0)
                          replace p228 := eq_true p228
                          replace q228 := eq_true q228
                          have p229 : 0 ≤ (5 : Int) := (by omega)
                          have q229 : 5 < (x3_1.length : Int) := M.dt
                          obtain ⟨ad229, e229, hx229_0⟩ := Kd.at_int (Kd.R_reads' zaa.out).2.2 5 p229 q229
                          obtain rfl : ad216 = ad229 := (by injection e229)
                          (try simp only [show (5 : Int).toNat = 5 from rfl, Nat.reduceMul, Nat.reduceEqDiff, Go.Addr.add, ↓reduceIte] at hx229_0)
                          have qi229 : (5 < x3_1.length) = True := eq_true (by omega)
                          (try rw [show ((5 : Int)).toNat = 5 from rfl] at hx229_0)
                          replace p229 := eq_true p229
                          replace q229 := eq_true q229
                          have p230 : 0 ≤ (6 : Int) := (by omega)
                          have q230 : 6 < (x3_1.length : Int) := M.dt
                          obtain ⟨ad230, e230, hx230_0⟩ := Kd.at_int (Kd.R_reads' zaa.out).2.2 6 p230 q230
                          obtain rfl : ad216 = ad230 := (by injection e230)
                          (try simp only [show (6 : Int).toNat = 6 from rfl, Nat.reduceMul, Nat.reduceEqDiff, Go.Addr.add, ↓reduceIte] at hx230_0)
                          have qi230 : (6 < x3_1.length) = True := eq_true (by omega)
                          (try rw [show ((6 : Int)).toNat = 6 from rfl] at hx230_0)
                          replace p230 := eq_true p230
                          replace q230 := eq_true q230
                          have p231 : 0 ≤ (7 : Int) := (by omega)
                          have q231 : 7 < (x3_1.length : Int) := M.dt
                          obtain ⟨ad231, e231, hx231_0⟩ := Kd.at_int (Kd.R_reads' zaa.out).2.2 7 p231 q231
                          obtain rfl : ad216 = ad231 := (by injection e231)
                          (try simp only [show (7 : Int).toNat = 7 from rfl, Nat.reduceMul, Nat.reduceEqDiff, Go.Addr.add, ↓reduceIte] at hx231_0)
                          have qi231 : (7 < x3_1.length) = True := eq_true (by omega)
                          (try rw [show ((7 : Int)).toNat = 7 from rfl] at hx231_0)
                          replace p231 := eq_true p231
                          replace q231 := eq_true q231
                          refine start_ (n := 42) (S := fun w' => w'.cell? ad216 = some (.int .u32 (rd x3_1 0)) ∧ w'.cell? ⟨ad216.block, ad216.off + 1, none⟩ = some (.int .u32 (rd x3_1 1)) ∧ w'.cell? ⟨ad216.block, ad216.off + 2, none⟩ = some (.int .u32 (rd x3_1 2)) ∧ w'.cell? ⟨ad216.block, ad216.off + 3, none⟩ = some (.int .u32 (rd x3_1 3)) ∧ w'.cell? ⟨ad216.block, ad216.off + 4, none⟩ = some (.int .u32 (rd x3_1 4)) ∧ w'.cell? ⟨ad216.block, ad216.off + 5, none⟩ = some (.int .u32 (rd x3_1 5)) ∧ w'.cell? ⟨ad216.block, ad216.off + 6, none⟩ = some (.int .u32 (rd x3_1 6)) ∧ w'.cell? ⟨ad216.block, ad216.off + 7, none⟩ = some (.int .u32 (rd x3_1 7))) (ds := []) (M.tf [0, 42]) (by kernel_rfl) rfl rfl ⟨hx224_0, hx225_0, hx226_0, hx227_0, hx228_0, hx229_0, hx230_0, hx231_0⟩ (fun hHeld => ?_); refine with_tabW pleachref03_Sum_p.tab24 pleachref03_Sum_p.bits24 (fun HT_ HW_ => ?_)
                          generalize wr.drew = w45 at zaa zab zac HB hx224_0 hx225_0 hx226_0 hx227_0 hx228_0 hx229_0 hx230_0 hx231_0 hHeld ⊢
                          refine M.pu 0 130 [1, 41] HT_ ?_
                          refine M.pu 1 131 [2, 40] HT_ ?_
                          refine M.pu 3 133 [2, 1, 1, 38] HT_ ?_
                          refine M.pu 5 135 [2, 1, 1, 1, 1, 36] HT_ ?_
                          refine M.pu 6 136 [2, 1, 1, 1, 2, 35] HT_ ?_
                          refine M.pu 8 138 [2, 1, 1, 1, 2, 1, 1, 33] HT_ ?_
                          refine M.pu 10 140 [2, 1, 1, 1, 2, 1, 1, 1, 1, 31] HT_ ?_
                          refine M.pu 11 141 [2, 1, 1, 1, 2, 1, 1, 1, 2, 30] HT_ ?_
                          refine M.pu 13 143 [2, 1, 1, 1, 2, 1, 1, 1, 2, 1, 1, 28] HT_ ?_
                          refine M.pu 15 145 [2, 1, 1, 1, 2, 1, 1, 1, 2, 1, 1, 1, 1, 26] HT_ ?_
                          refine M.pu 16 146 [2, 1, 1, 1, 2, 1, 1, 1, 2, 1, 1, 1, 2, 25] HT_ ?_
                          refine M.pu 18 148 [2, 1, 1, 1, 2, 1, 1, 1, 2, 1, 1, 1, 2, 1, 1, 23] HT_ ?_
                          refine M.pu 20 150 [2, 1, 1, 1, 2, 1, 1, 1, 2, 1, 1, 1, 2, 1, 1, 1, 1, 21] HT_ ?_
                          refine M.pu 21 151 [2, 1, 1, 1, 2, 1, 1, 1, 2, 1, 1, 1, 2, 1, 1, 1, 2, 20] HT_ ?_
                          refine M.pu 23 153 [2, 1, 1, 1, 2, 1, 1, 1, 2, 1, 1, 1, 2, 1, 1, 1, 2, 1, 1, 18] HT_ ?_
                          refine M.pu 25 155 [2, 1, 1, 1, 2, 1, 1, 1, 2, 1, 1, 1, 2, 1, 1, 1, 2, 1, 1, 1, 1, 16] HT_ ?_
                          refine M.pu 26 156 [2, 1, 1, 1, 2, 1, 1, 1, 2, 1, 1, 1, 2, 1, 1, 1, 2, 1, 1, 1, 2, 15] HT_ ?_
                          refine M.pu 28 158 [2, 1, 1, 1, 2, 1, 1, 1, 2, 1, 1, 1, 2, 1, 1, 1, 2, 1, 1, 1, 2, 1, 1, 13] HT_ ?_
                          refine M.pu 30 160 [2, 1, 1, 1, 2, 1, 1, 1, 2, 1, 1, 1, 2, 1, 1, 1, 2, 1, 1, 1, 2, 1, 1, 1, 1, 11] HT_ ?_
                          refine M.pu 31 161 [2, 1, 1, 1, 2, 1, 1, 1, 2, 1, 1, 1, 2, 1, 1, 1, 2, 1, 1, 1, 2, 1, 1, 1, 2, 10] HT_ ?_
                          refine M.pu 33 163 [2, 1, 1, 1, 2, 1, 1, 1, 2, 1, 1, 1, 2, 1, 1, 1, 2, 1, 1, 1, 2, 1, 1, 1, 2, 1, 1, 8] HT_ ?_
                          refine M.pu 35 165 [2, 1, 1, 1, 2, 1, 1, 1, 2, 1, 1, 1, 2, 1, 1, 1, 2, 1, 1, 1, 2, 1, 1, 1, 2, 1, 1, 1, 1, 6] HT_ ?_
                          refine M.pu 36 166 [2, 1, 1, 1, 2, 1, 1, 1, 2, 1, 1, 1, 2, 1, 1, 1, 2, 1, 1, 1, 2, 1, 1, 1, 2, 1, 1, 1, 2, 5] HT_ ?_
                          refine M.pu 38 168 [2, 1, 1, 1, 2, 1, 1, 1, 2, 1, 1, 1, 2, 1, 1, 1, 2, 1, 1, 1, 2, 1, 1, 1, 2, 1, 1, 1, 2, 1, 1, 3] HT_ ?_
                          refine M.tk 2 132 [4, 1, 2, 1, 1, 1, 2, 1, 1, 1, 2, 1, 1, 1, 2, 1, 1, 1, 2, 1, 1, 1, 2, 1, 1, 1, 2, 1, 1, 3] HT_ HW_ hHeld ?_
                          refine M.pu 4 134 [7, 1, 1, 1, 2, 1, 1, 1, 2, 1, 1, 1, 2, 1, 1, 1, 2, 1, 1, 1, 2, 1, 1, 1, 2, 1, 1, 3] HT_ ?_
                          refine M.tk 7 137 [9, 1, 2, 1, 1, 1, 2, 1, 1, 1, 2, 1, 1, 1, 2, 1, 1, 1, 2, 1, 1, 1, 2, 1, 1, 3] HT_ HW_ hHeld ?_
                          refine M.pu 9 139 [12, 1, 1, 1, 2, 1, 1, 1, 2, 1, 1, 1, 2, 1, 1, 1, 2, 1, 1, 1, 2, 1, 1, 3] HT_ ?_
                          refine M.tk 12 142 [14, 1, 2, 1, 1, 1, 2, 1, 1, 1, 2, 1, 1, 1, 2, 1, 1, 1, 2, 1, 1, 3] HT_ HW_ hHeld ?_
                          refine M.pu 14 144 [17, 1, 1, 1, 2, 1, 1, 1, 2, 1, 1, 1, 2, 1, 1, 1, 2, 1, 1, 3] HT_ ?_
                          refine M.tk 17 147 [19, 1, 2, 1, 1, 1, 2, 1, 1, 1, 2, 1, 1, 1, 2, 1, 1, 3] HT_ HW_ hHeld ?_
                          refine M.pu 19 149 [22, 1, 1, 1, 2, 1, 1, 1, 2, 1, 1, 1, 2, 1, 1, 3] HT_ ?_
                          refine M.tk 22 152 [24, 1, 2, 1, 1, 1, 2, 1, 1, 1, 2, 1, 1, 3] HT_ HW_ hHeld ?_
                          refine M.pu 24 154 [27, 1, 1, 1, 2, 1, 1, 1, 2, 1, 1, 3] HT_ ?_
                          refine M.tk 27 157 [29, 1, 2, 1, 1, 1, 2, 1, 1, 3] HT_ HW_ hHeld ?_
                          refine M.pu 29 159 [32, 1, 1, 1, 2, 1, 1, 3] HT_ ?_
                          refine M.tk 32 162 [34, 1, 2, 1, 1, 3] HT_ HW_ hHeld ?_
                          refine M.pu 34 164 [37, 1, 1, 3] HT_ ?_
                          refine M.tk 37 167 [39, 3] HT_ HW_ hHeld ?_
                          refine M.pu 39 169 [40, 2] HT_ ?_
                          refine one_ (i := 40) (N := some 170) (M.tf [41, 1]) rfl rfl (one_of HT_.out (by kernel_rfl)) (by decide) (fun K hK => ?_)
                          refine Kd.R_lit_step (Kd.int .u32) _ 116 ?hg (N := 170) ?hd (xs := ([((rd x3_1 0) + x8_2) % 4294967296, ((rd x3_1 1) + x9_2) % 4294967296, ((rd x3_1 2) + x10_2) % 4294967296, ((rd x3_1 3) + x11_2) % 4294967296, ((rd x3_1 4) + x12_2) % 4294967296, ((rd x3_1 5) + x13_2) % 4294967296, ((rd x3_1 6) + x14_2) % 4294967296, ((rd x3_1 7) + x15_2) % 4294967296] : List Int)) (inner := [.int .u32 (((rd x3_1 0) + x8_2) % 4294967296), .int .u32 (((rd x3_1 1) + x9_2) % 4294967296), .int .u32 (((rd x3_1 2) + x10_2) % 4294967296), .int .u32 (((rd x3_1 3) + x11_2) % 4294967296), .int .u32 (((rd x3_1 4) + x12_2) % 4294967296), .int .u32 (((rd x3_1 5) + x13_2) % 4294967296), .int .u32 (((rd x3_1 6) + x14_2) % 4294967296), .int .u32 (((rd x3_1 7) + x15_2) % 4294967296)]) (ok := fun _ => True) (okp := fun _ => True) ?hr ?hp (fun _ hk => hk) trivial (Below.refl _ _) (Nat.le_refl _) (by simp) ?_; (case hd => rfl); (case hg => rfl); (case hr => first | (go_simp; done) | (go_simp; rfl)); (case hp => exact (Reps.one (show Kd.M (Kd.int .u32) _ _ _ (((rd x3_1 0) + x8_2) % 4294967296) [.int .u32 (((rd x3_1 0) + x8_2) % 4294967296)] from rfl) (Reps.one (show Kd.M (Kd.int .u32) _ _ _ (((rd x3_1 1) + x9_2) % 4294967296) [.int .u32 (((rd x3_1 1) + x9_2) % 4294967296)] from rfl) (Reps.one (show Kd.M (Kd.int .u32) _ _ _ (((rd x3_1 2) + x10_2) % 4294967296) [.int .u32 (((rd x3_1 2) + x10_2) % 4294967296)] from rfl) (Reps.one (show Kd.M (Kd.int .u32) _ _ _ (((rd x3_1 3) + x11_2) % 4294967296) [.int .u32 (((rd x3_1 3) + x11_2) % 4294967296)] from rfl) (Reps.one (show Kd.M (Kd.int .u32) _ _ _ (((rd x3_1 4) + x12_2) % 4294967296) [.int .u32 (((rd x3_1 4) + x12_2) % 4294967296)] from rfl) (Reps.one (show Kd.M (Kd.int .u32) _ _ _ (((rd x3_1 5) + x13_2) % 4294967296) [.int .u32 (((rd x3_1 5) + x13_2) % 4294967296)] from rfl) (Reps.one (show Kd.M (Kd.int .u32) _ _ _ (((rd x3_1 6) + x14_2) % 4294967296) [.int .u32 (((rd x3_1 6) + x14_2) % 4294967296)] from rfl) (Reps.one (show Kd.M (Kd.int .u32) _ _ _ (((rd x3_1 7) + x15_2) % 4294967296) [.int .u32 (((rd x3_1 7) + x15_2) % 4294967296)] from rfl) (Reps.none _ _))))))))))
                          intro v233 w46 ho47 hb hg_ hnew_
                          have HS0_ := (hb.cell (World.block_lt_of_cell? _ _ (hHeld.1))).trans (hHeld.1)
                          have HS1_ := (hb.cell (World.block_lt_of_cell? _ _ (hHeld.2.1))).trans (hHeld.2.1)
                          have HS2_ := (hb.cell (World.block_lt_of_cell? _ _ (hHeld.2.2.1))).trans (hHeld.2.2.1)
                          have HS3_ := (hb.cell (World.block_lt_of_cell? _ _ (hHeld.2.2.2.1))).trans (hHeld.2.2.2.1)
                          have HS4_ := (hb.cell (World.block_lt_of_cell? _ _ (hHeld.2.2.2.2.1))).trans (hHeld.2.2.2.2.1)
                          have HS5_ := (hb.cell (World.block_lt_of_cell? _ _ (hHeld.2.2.2.2.2.1))).trans (hHeld.2.2.2.2.2.1)
                          have HS6_ := (hb.cell (World.block_lt_of_cell? _ _ (hHeld.2.2.2.2.2.2.1))).trans (hHeld.2.2.2.2.2.2.1)
                          have HS7_ := (hb.cell (World.block_lt_of_cell? _ _ (hHeld.2.2.2.2.2.2.2))).trans (hHeld.2.2.2.2.2.2.2)
                          clear hg_ hnew_
                          (first | rw [← Ny232.out] at ho47 | (simp only [Int.reduceToNat] at ho47; rw [← Ny232.out] at ho47))
                          have HO234 := Aside0.mk (Kd.R_lower (Kd.R_new' (Kd.R_new' (Kd.R_new' ho47 (Kd.R_lt (M.ro zaa))) (Kd.R_lt (M.ro zab))) (Kd.R_lt (M.ro zac))) (below_size (M.up HB))); replace zaa := Aside0.mk (Kd.R_elder' (M.ro zaa) (Kd.R_base ho47) hb); replace zab := Aside0.mk (Kd.R_elder' (M.ro zab) (Kd.R_base ho47) hb); replace zac := Aside0.mk (Kd.R_elder' (M.ro zac) (Kd.R_base ho47) hb); replace HB := M.upS HB hb
                          clear hb ho47
                          refine hK.out _ _ ⟨HS0_, HS1_, HS2_, HS3_, HS4_, HS5_, HS6_, HS7_⟩ (fun hHeld => ?_)
                          clear hK K
                          refine norm_ (a' := ?_) ?_ ?_
                          rotate_left
                          ·show Act.put _ (some 170) _ = _
                           simp only [Act.put, List.setIfInBounds_toArray, List.set_cons_zero, List.set_cons_succ, i64_w, i32_w]
                           rfl
                          refine M.pu 41 3 [42] HT_ ?_
                          refine done_ (done_of HT_.out (by kernel_rfl)) ?_
                          try go_wp2
                          go_roundg k2
                          case measure => have := HK1.out; have := HK2.out; omega
                          case rel => exact ⟨(y232), (wrap64 (x6_1 + 64)), M.eqv, H', ⟨by have := HK1.out; have := HK2.out; omega⟩, ⟨by (with_reducible repeat (first | apply Kd.R_alloc | apply Kd.R_drewN | apply Kd.R_drew)); exact Kd.R_mono HO234.out (fun _ hk => hk.1.2)⟩, ⟨by (with_reducible repeat (first | apply Kd.R_alloc | apply Kd.R_drewN | apply Kd.R_drew)); exact Kd.R_mono zab.out (fun _ hk => hk.2)⟩, ⟨M.up HB⟩⟩
                         ·exact M.nf c44 H
                        ·exact M.nf c43 H
                       ·exact M.nf c42 H
                      ·exact M.nf c41 H
                     ·exact M.nf c40 H
                    ·exact M.nf c39 H
                   ·exact M.nf c38 H
                  ·exact M.nf c37 H
              ·exact M.nf c20 H
             ·exact M.nf c19 H
            ·exact M.nf c18 H
           ·exact M.nf c17 H
          ·exact M.nf c16 H
         ·exact M.nf c15 H
        ·exact M.nf c14 H
       ·exact M.nf c13 H
      ·exact M.nf c11 H
     ·exact M.nf c10 H
    ·exact M.nf c9 H
   ·rw [if_neg c8] at H
    have c8b0 := decide_eq_false c8
    clear c8
    have H' := Aside0.mk H
    clear H
    go_wp2
    go_loopg [21, 22] k1 (fun kq v21 v22 w' => ∃ (x21_2 : ByteArray) (x22_2 : Int), v21 = .string x21_2 ∧ v22 = .int .i64 x22_2 ∧ Aside0 (pleachref03_Sum_p.l2 kq x3_1 x21_2 x22_2 = some r) ∧ Aside0 (kq ≤ k1) ∧ Aside0 (Kd.R (Kd.int .u32) 116 w' w.heap.size (fun _ => True) u3 x3_1) ∧ Aside0 (Below w.heap.size w w'))
    case atStart => exact ⟨((⟨#[]⟩ : ByteArray)), (0), M.eqv, M.eqv, H', ⟨Nat.le_refl _⟩, ⟨by (with_reducible repeat (first | apply Kd.R_alloc | apply Kd.R_drewN | apply Kd.R_drew)); exact Kd.R_mono zaa.out (fun _ hk => trivial)⟩, ⟨M.up HB⟩⟩
    case round =>
     clear H'
     (try clear c1); (try clear c2); (try clear p2); (try clear q2); (try clear hx2); (try clear qi2); (try clear c3); (try clear c4); (try clear p6); (try clear c7); (try clear c8); (try clear c8b0); (try clear c9); (try clear c10); (try clear c11); (try clear c13); (try clear c14); (try clear c15); (try clear c16); (try clear c17); (try clear c18); (try clear c19); (try clear c20); (try clear p22); (try clear q22); (try clear hx22); (try clear qi22); (try clear p23); (try clear q23); (try clear hx23); (try clear qi23); (try clear c24); (try clear c24b0); (try clear c28); (try clear c29); (try clear c30); (try clear c37); (try clear c37b0); (try clear c37b1); (try clear c38); (try clear c38b0); (try clear c38b1); (try clear c39); (try clear c39b0); (try clear c39b1); (try clear c40); (try clear c40b0); (try clear c40b1); (try clear c41); (try clear c41b0); (try clear c41b1); (try clear c42); (try clear c42b0); (try clear c42b1); (try clear c43); (try clear c43b0); (try clear c43b1); (try clear c44); (try clear c44b0); (try clear c44b1); (try clear hx224_0); (try clear hx225_0); (try clear hx226_0); (try clear hx227_0); (try clear hx228_0); (try clear hx229_0); (try clear hx230_0); (try clear hx231_0); (try clear p224); (try clear p225); (try clear p226); (try clear p227); (try clear p228); (try clear p229); (try clear p230); (try clear p231); (try clear q224); (try clear q225); (try clear q226); (try clear q227); (try clear q228); (try clear q229); (try clear q230); (try clear q231)
     obtain ⟨x21_2, x22_2, rfl, rfl, HA, HK2, zaa, HB⟩ := hrel
     cases gk with
     | zero => exact absurd HA.out (by simp [pleachref03_Sum_p.l2])
     | succ k2 =>
      have H := HA.out
      clear HA
      simp only [pleachref03_Sum_p.l2] at H
      by_cases c48 : x22_2 < 8
      ·rw [if_pos c48] at H
       have c48b0 := decide_eq_true c48
       clear c48
       by_cases c49 : 0 ≤ x22_2
       ·rw [if_pos c49] at H
        have c49b0 := decide_eq_true c49
        clear c49
        by_cases c50 : x22_2 < (x3_1.length : Int)
        ·rw [if_pos c50] at H
         have c50b0 := decide_eq_true c50
         clear c50
         obtain ⟨y247, hy247⟩ : ∃ y_ : List Int, y_ = (([((rd x3_1 x22_2) / 16777216) % 256, ((rd x3_1 x22_2) / 65536) % 256, ((rd x3_1 x22_2) / 256) % 256, (rd x3_1 x22_2) % 256] : List Int)) := ⟨_, rfl⟩
         replace H : (if x21_2.size + (strOfNums y247).size ≤ 9223372036854775807 then (pleachref03_Sum_p.l2 k2 x3_1 (x21_2 ++ (strOfNums y247)) (wrap64 (x22_2 + 1))) else (none)) = some r := by first | (rw [hy247]; with_reducible exact H) | (have H2_ := (Option.bind_some _ _).symm.trans H; rw [hy247]; with_reducible exact H2_) | (have H2_ := (Option.bind_some _ _).symm.trans H; with_reducible exact H2_) | with_reducible exact H | (rw [hy247]; exact H) | exact H
         have Ny247 := Aside0.mk hy247
         clear hy247
         by_cases c51 : x21_2.size + (strOfNums y247).size ≤ 9223372036854775807
         ·rw [if_pos c51] at H
          have c51b0 := eq_true c51
          have c51b1 := decide_eq_true c51
          try have c51b2 : (9223372036854775807 < x21_2.size + (strOfNums y247).size) = False := eq_false (Nat.not_lt.2 c51)
          have H' := Aside0.mk H
          clear H
          try go_wp2
          replace zaa := Aside0.mk (Kd.R_drew zaa.out); replace HB := Aside0.mk (below_drew1 HB.out)
          obtain ⟨Ao53, co53, eo53⟩ := Kd.R_slice zaa.out
          (first | subst eo53 | (injection eo53 with f1_ f2_ f3_; have f4_ := f1_.symm; have f5_ := f3_.symm; clear f1_ f2_ f3_; subst f4_; subst f5_))
          have p243 : 0 ≤ (x22_2 : Int) := M.dt
          have q243 : x22_2 < (x3_1.length : Int) := M.dt
          obtain ⟨ad243, e243, hx243_0⟩ := Kd.at_int (Kd.R_reads' zaa.out).2.2 x22_2 p243 q243
          cases e243
          replace p243 := eq_true p243
          replace q243 := eq_true q243
          have p244 : 0 ≤ (x22_2 : Int) := M.dt
          have q244 : x22_2 < (x3_1.length : Int) := M.dt
          obtain ⟨ad244, e244, hx244_0⟩ := Kd.at_int (Kd.R_reads' zaa.out).2.2 x22_2 p244 q244
          obtain rfl : ad243 = ad244 := (by injection e244)
          replace p244 := eq_true p244
          replace q244 := eq_true q244
          have p245 : 0 ≤ (x22_2 : Int) := M.dt
          have q245 : x22_2 < (x3_1.length : Int) := M.dt
          obtain ⟨ad245, e245, hx245_0⟩ := Kd.at_int (Kd.R_reads' zaa.out).2.2 x22_2 p245 q245
          obtain rfl : ad243 = ad245 := (by injection e245)
          replace p245 := eq_true p245
          replace q245 := eq_true q245
          have p246 : 0 ≤ (x22_2 : Int) := M.dt
          have q246 : x22_2 < (x3_1.length : Int) := M.dt
          obtain ⟨ad246, e246, hx246_0⟩ := Kd.at_int (Kd.R_reads' zaa.out).2.2 x22_2 p246 q246
          obtain rfl : ad243 = ad246 := (by injection e246)
          replace p246 := eq_true p246
          replace q246 := eq_true q246
          refine start_ (n := 28) (S := fun w' => w'.cell? (ad243.add (x22_2).toNat) = some (.int .u32 (rd x3_1 x22_2)) ∧ w'.cell? (ad243.add (x22_2).toNat) = some (.int .u32 (rd x3_1 x22_2)) ∧ w'.cell? (ad243.add (x22_2).toNat) = some (.int .u32 (rd x3_1 x22_2)) ∧ w'.cell? (ad243.add (x22_2).toNat) = some (.int .u32 (rd x3_1 x22_2))) (ds := [25]) (M.tf [0, 28]) (by kernel_rfl) rfl rfl ⟨hx243_0, hx244_0, hx245_0, hx246_0⟩ (fun hHeld => ?_); refine with_tabW pleachref03_Sum_p.tab29 pleachref03_Sum_p.bits29 (fun HT_ HW_ => ?_)
          generalize wr.drew = w52 at zaa HB hx243_0 hx244_0 hx245_0 hx246_0 hHeld ⊢
          refine M.pu 0 175 [1, 27] HT_ ?_
          refine M.pu 1 176 [2, 26] HT_ ?_
          refine M.pu 2 177 [3, 25] HT_ ?_
          refine M.pu 3 178 [4, 24] HT_ ?_
          refine M.pu 7 182 [4, 3, 1, 20] HT_ ?_
          refine M.pu 8 183 [4, 3, 2, 19] HT_ ?_
          refine M.pu 9 184 [4, 3, 3, 18] HT_ ?_
          refine M.pu 13 188 [4, 3, 3, 3, 1, 14] HT_ ?_
          refine M.pu 14 189 [4, 3, 3, 3, 2, 13] HT_ ?_
          refine M.pu 15 190 [4, 3, 3, 3, 3, 12] HT_ ?_
          refine M.pu 19 194 [4, 3, 3, 3, 3, 3, 1, 8] HT_ ?_
          refine M.pu 20 195 [4, 3, 3, 3, 3, 3, 2, 7] HT_ ?_
          refine M.pu 21 196 [4, 3, 3, 3, 3, 3, 3, 6] HT_ ?_
          refine M.tk 4 179 [5, 2, 3, 3, 3, 3, 3, 6] HT_ HW_ hHeld ?_
          refine M.pu 5 180 [6, 1, 3, 3, 3, 3, 3, 6] HT_ ?_
          refine M.pu 6 181 [10, 3, 3, 3, 3, 6] HT_ ?_
          refine M.tk 10 185 [11, 2, 3, 3, 3, 6] HT_ HW_ hHeld ?_
          refine M.pu 11 186 [12, 1, 3, 3, 3, 6] HT_ ?_
          refine M.pu 12 187 [16, 3, 3, 6] HT_ ?_
          refine M.tk 16 191 [17, 2, 3, 6] HT_ HW_ hHeld ?_
          refine M.pu 17 192 [18, 1, 3, 6] HT_ ?_
          refine M.pu 18 193 [22, 6] HT_ ?_
          refine M.tk 22 197 [23, 5] HT_ HW_ hHeld ?_
          refine M.pu 23 198 [24, 4] HT_ ?_
          refine one_ (i := 24) (N := some 199) (M.tf [25, 3]) rfl rfl (one_of HT_.out (by kernel_rfl)) (by decide) (fun K hK => ?_)
          refine Kd.R_lit_step (Kd.int .u8) _ 5 ?hg (N := 199) ?hd (xs := ([((rd x3_1 x22_2) / 16777216) % 256, ((rd x3_1 x22_2) / 65536) % 256, ((rd x3_1 x22_2) / 256) % 256, (rd x3_1 x22_2) % 256] : List Int)) (inner := [.int .u8 (((rd x3_1 x22_2) / 16777216) % 256), .int .u8 (((rd x3_1 x22_2) / 65536) % 256), .int .u8 (((rd x3_1 x22_2) / 256) % 256), .int .u8 ((rd x3_1 x22_2) % 256)]) (ok := fun _ => True) (okp := fun _ => True) ?hr ?hp (fun _ hk => hk) trivial (Below.refl _ _) (Nat.le_refl _) (by simp) ?_; (case hd => rfl); (case hg => rfl); (case hr => first | (go_simp; done) | (go_simp; rfl)); (case hp => exact (Reps.one (show Kd.M (Kd.int .u8) _ _ _ (((rd x3_1 x22_2) / 16777216) % 256) [.int .u8 (((rd x3_1 x22_2) / 16777216) % 256)] from rfl) (Reps.one (show Kd.M (Kd.int .u8) _ _ _ (((rd x3_1 x22_2) / 65536) % 256) [.int .u8 (((rd x3_1 x22_2) / 65536) % 256)] from rfl) (Reps.one (show Kd.M (Kd.int .u8) _ _ _ (((rd x3_1 x22_2) / 256) % 256) [.int .u8 (((rd x3_1 x22_2) / 256) % 256)] from rfl) (Reps.one (show Kd.M (Kd.int .u8) _ _ _ ((rd x3_1 x22_2) % 256) [.int .u8 ((rd x3_1 x22_2) % 256)] from rfl) (Reps.none _ _))))))
          intro v248 w54 ho55 hb hg_ hnew_
          have HS0_ := (hb.cell (World.block_lt_of_cell? _ _ (hHeld.1))).trans (hHeld.1)
          have HS1_ := (hb.cell (World.block_lt_of_cell? _ _ (hHeld.2.1))).trans (hHeld.2.1)
          have HS2_ := (hb.cell (World.block_lt_of_cell? _ _ (hHeld.2.2.1))).trans (hHeld.2.2.1)
          have HS3_ := (hb.cell (World.block_lt_of_cell? _ _ (hHeld.2.2.2))).trans (hHeld.2.2.2)
          clear hg_ hnew_
          (first | rw [← Ny247.out] at ho55 | (simp only [Int.reduceToNat] at ho55; rw [← Ny247.out] at ho55))
          replace zaa := M.roB zaa hb; have HO249 := Aside0.mk (Kd.R_lower ho55 (below_size (M.up HB))); replace HB := M.upS HB hb
          clear hb ho55
          refine hK.out _ _ ⟨HS0_, HS1_, HS2_, HS3_⟩ (fun hHeld => ?_)
          clear hK K
          refine norm_ (a' := ?_) ?_ ?_
          rotate_left
          ·show Act.put _ (some 199) _ = _
           simp only [Act.put, List.setIfInBounds_toArray, List.set_cons_zero, List.set_cons_succ, i64_w, i32_w]
           rfl
          refine last_ (i := 25) (N := some 200) (M.tf [26, 2]) rfl rfl (one_of HT_.out (by kernel_rfl)) (by decide) (fun K hK => ?_)
          have hcv56 := own_string (P := Tryd.prog) Tryd.underlying76 Tryd.underlying5 Tryd.underlying9 (Kd.own_of_R HO249.out)
          refine value_ (w1 := ?_) (v := ?_) (by rfl) rfl ?_ ?_
          rotate_left 2
          ·go_simp
           constructor
           ·rfl
           ·rfl
          clear hcv56
          refine hK.out _ _ ?_
          clear hK K
          refine norm_ (a' := ?_) ?_ ?_
          rotate_left
          ·show Act.put _ (some 200) _ = _
           simp only [Act.put, List.setIfInBounds_toArray, List.set_cons_zero, List.set_cons_succ, i64_w, i32_w]
           rfl
          refine M.pu 26 201 [27, 1] HT_ ?_
          refine M.pu 27 21 [28] HT_ ?_
          refine done_ (done_of HT_.out (by kernel_rfl)) ?_
          try go_wp2
          go_roundg k2
          case measure => have := HK1.out; have := HK2.out; omega
          case rel => exact ⟨(x21_2 ++ (strOfNums y247)), (wrap64 (x22_2 + 1)), M.eqv, M.eqv, H', ⟨by have := HK1.out; have := HK2.out; omega⟩, ⟨by (with_reducible repeat (first | apply Kd.R_alloc | apply Kd.R_drewN | apply Kd.R_drew)); exact zaa.out⟩, ⟨M.up HB⟩⟩
         ·exact M.nf c51 H
        ·exact M.nf c50 H
       ·exact M.nf c49 H
      ·rw [if_neg c48] at H
       have c48b0 := decide_eq_false c48
       clear c48
       obtain rfl := Option.some.inj H
       go_wp2
       go_ret
       exact M.fin (M.up HB)
def pleachref03_Sum.f (t : ByteArray) : Option ByteArray := if t.size ≤ 1000000000000 then some (M.shaSum t) else none
theorem pleachref03_Sum.eq_ (t : ByteArray) (h : t.size ≤ 1000000000000) : pleachref03_Sum.f t = some (M.shaSum t) := if_pos h
theorem pleachref03_Sum.choose (e f g : Nat) (he : e < 4294967296) : (e &&& f) ||| ((4294967295 - e) &&& g) = M.ch e f g := by
 unfold M.ch
 apply Nat.eq_of_testBit_eq
 intro i
 have h := Nat.testBit_two_pow_sub_succ (n := 32) (x := e) he i
 rw [show (2 : Nat) ^ 32 - (e + 1) = 4294967295 - e from by omega] at h
 rw [Nat.testBit_or, Nat.testBit_xor, Nat.testBit_and, Nat.testBit_and, h]
 cases e.testBit i <;> cases decide (i < 32) <;> cases f.testBit i <;> cases g.testBit i <;> rfl
theorem pleachref03_Sum.most (a b c : Nat) : ((a &&& b) ||| (a &&& c)) ||| (b &&& c) = M.maj a b c := by
 unfold M.maj
 apply Nat.eq_of_testBit_eq
 intro i
 rw [Nat.testBit_or, Nat.testBit_or, Nat.testBit_xor, Nat.testBit_xor, Nat.testBit_and, Nat.testBit_and, Nat.testBit_and]
 cases a.testBit i <;> cases b.testBit i <;> cases c.testBit i <;> rfl
theorem pleachref03_Sum.xor3 (a b c : Nat) (ha : a < 4294967296) (hb : b < 4294967296) (hc : c < 4294967296) : Go.bits .xor .u32 (Go.bits .xor .u32 (a : Int) (b : Int)) (c : Int) = ((a ^^^ b ^^^ c : Nat) : Int) := by
 rw [M.xor32 ha hb, M.xor32 (M.xor_lt ha hb) hc]
theorem pleachref03_Sum.choose32 (e f g : Nat) (he : e < 4294967296) (hf : f < 4294967296) (hg : g < 4294967296) : Go.bits .or .u32 (Go.bits .and .u32 (e : Int) (f : Int)) (Go.bits .and .u32 ((4294967295 - (e : Int)) % 4294967296) (g : Int)) = ((M.ch e f g : Nat) : Int) := by
 rw [show (4294967295 - (e : Int)) % 4294967296 = ((4294967295 - e : Nat) : Int) from by omega, M.and32 he hf, M.and32 (by omega) hg, M.or32 (M.and_lt he) (M.and_lt (by omega)), pleachref03_Sum.choose e f g he]
theorem pleachref03_Sum.most32 (a b c : Nat) (ha : a < 4294967296) (hb : b < 4294967296) (hc : c < 4294967296) : Go.bits .or .u32 (Go.bits .or .u32 (Go.bits .and .u32 (a : Int) (b : Int)) (Go.bits .and .u32 (a : Int) (c : Int))) (Go.bits .and .u32 (b : Int) (c : Int)) = ((M.maj a b c : Nat) : Int) := by
 rw [M.and32 ha hb, M.and32 ha hc, M.and32 hb hc, M.or32 (M.and_lt ha) (M.and_lt ha), M.or32 (M.or_lt (M.and_lt ha) (M.and_lt ha)) (M.and_lt hb), pleachref03_Sum.most]
theorem pleachref03_Sum.shaK_lt (i : Nat) : M.shaK.getD i 0 < 4294967296 := by
 by_cases h : i < 64
 ·have key : ∀ j : Fin 64, M.shaK.getD j.val 0 < 4294967296 := by decide +kernel
  exact key ⟨i, h⟩
 ·rw [List.getD_eq_getElem?_getD, List.getElem?_eq_none (by show 64 ≤ i; omega)]; decide
theorem pleachref03_Sum.getD_lt {l : List Nat} {B : Nat} [NeZero B] (h : ∀ x ∈ l, x < B) (j : Nat) : l.getD j 0 < B := by
 rw [List.getD_eq_getElem?_getD]
 cases hq : l[j]? with
 | none => exact Nat.pos_of_ne_zero (NeZero.ne B)
 | some x => exact h x (List.mem_of_getElem? hq)
theorem pleachref03_Sum.rnds_lt (s : List Nat) (hs : ∀ j, s.getD j 0 < 4294967296) (w : List Nat) : ∀ (n j : Nat), (M.rnds s w n).getD j 0 < 4294967296
  | 0, j => hs j
  | n + 1, j => by
    rw [M.rnds]
    have h := pleachref03_Sum.rnds_lt s hs w n
    generalize M.rnds s w n = q at h
    apply pleachref03_Sum.getD_lt
    intro x hx
    simp only [M.rnd, List.mem_cons, List.not_mem_nil, or_false] at hx
    rcases hx with hx | hx | hx | hx | hx | hx | hx | hx
    · rw [hx]; exact Nat.mod_lt _ (by decide)
    · rw [hx]; exact h 0
    · rw [hx]; exact h 1
    · rw [hx]; exact h 2
    · rw [hx]; exact Nat.mod_lt _ (by decide)
    · rw [hx]; exact h 4
    · rw [hx]; exact h 5
    · rw [hx]; exact h 6
theorem pleachref03_Sum.loop1 (h : List Nat) (hh : ∀ j, h.getD j 0 < 4294967296) (h8 : h.length = 8) (p : ByteArray) (x6 : Int) (w : List Nat) (hw : ∀ j, w.getD j 0 < 4294967296) (hwl : w.length = 64) (F : Nat) : ∀ (d i : Nat), i + d = 64 →
    pleachref03_Sum_p.l1 (d + F + 1) (M.nums32 h) p (M.nums32 M.shaK) x6 (M.nums32 w) (((M.rnds h w i).getD 0 0 : Nat) : Int) (((M.rnds h w i).getD 1 0 : Nat) : Int) (((M.rnds h w i).getD 2 0 : Nat) : Int) (((M.rnds h w i).getD 3 0 : Nat) : Int) (((M.rnds h w i).getD 4 0 : Nat) : Int) (((M.rnds h w i).getD 5 0 : Nat) : Int) (((M.rnds h w i).getD 6 0 : Nat) : Int) (((M.rnds h w i).getD 7 0 : Nat) : Int) (i : Int)
      = pleachref03_Sum_p.l0 F (M.nums32 ((List.range 8).map fun i => ((M.rnds h w 64).getD i 0 + h.getD i 0) % 4294967296)) p (M.nums32 M.shaK) (wrap64 (x6 + 64)) := by
 intro d
 induction d with
 | zero =>
  intro i hi
  obtain rfl : i = 64 := by omega
  have hl : ((M.nums32 h).length : Int) = 8 := by simp [M.nums32, h8]
  rw [show 0 + F + 1 = F + 1 from by omega, pleachref03_Sum_p.l1, if_neg (by omega), hl]
  simp only [show (0 : Int) < 8 from by decide, show (1 : Int) < 8 from by decide, show (2 : Int) < 8 from by decide, show (3 : Int) < 8 from by decide, show (4 : Int) < 8 from by decide, show (5 : Int) < 8 from by decide, show (6 : Int) < 8 from by decide, show (7 : Int) < 8 from by decide, if_true, Option.bind_some]
  have hg := pleachref03_schedule.get h
  have e0 : rd (M.nums32 h) 0 = _ := hg 0
  have e1 : rd (M.nums32 h) 1 = _ := hg 1
  have e2 : rd (M.nums32 h) 2 = _ := hg 2
  have e3 : rd (M.nums32 h) 3 = _ := hg 3
  have e4 : rd (M.nums32 h) 4 = _ := hg 4
  have e5 : rd (M.nums32 h) 5 = _ := hg 5
  have e6 : rd (M.nums32 h) 6 = _ := hg 6
  have e7 : rd (M.nums32 h) 7 = _ := hg 7
  rw [e0, e1, e2, e3, e4, e5, e6, e7]
  congr 1
  simp only [M.nums32, List.map_map, List.range, List.range.loop, List.map_cons, List.map_nil, Function.comp]
  simp only [Int.natCast_emod, Int.natCast_add, Int.add_comm]
  rfl
 | succ d ih =>
  intro i hi
  have hr := pleachref03_Sum.rnds_lt h hh w i
  have hk := pleachref03_Sum.shaK_lt i
  have hwi := hw i
  have hn := ih (i + 1) (by omega)
  rw [M.rnds] at hn
  generalize M.rnds h w i = q at *
  have q0 := hr 0; have q1 := hr 1; have q2 := hr 2; have q3 := hr 3; have q4 := hr 4; have q5 := hr 5; have q6 := hr 6; have q7 := hr 7
  have hlk : ((M.nums32 M.shaK).length : Int) = 64 := by decide
  have hlw : ((M.nums32 w).length : Int) = 64 := by simp [M.nums32, hwl]
  rw [show d + 1 + F + 1 = (d + F + 1) + 1 from by omega, pleachref03_Sum_p.l1, if_pos (by omega)]
  rw [pleachref03_turn.eq_ _ 6 q4 (by decide) (by decide), Option.bind_some, pleachref03_turn.eq_ _ 11 q4 (by decide) (by decide), Option.bind_some, pleachref03_turn.eq_ _ 25 q4 (by decide) (by decide), Option.bind_some, hlk, hlw, if_pos (by omega), if_pos (by omega), if_pos (by omega)]
  rw [pleachref03_turn.eq_ _ 2 q0 (by decide) (by decide), Option.bind_some, pleachref03_turn.eq_ _ 13 q0 (by decide) (by decide), Option.bind_some, pleachref03_turn.eq_ _ 22 q0 (by decide) (by decide), Option.bind_some]
  rw [pleachref03_schedule.get, pleachref03_schedule.get]
  have x4 := pleachref03_Sum.xor3 (M.rotr (q.getD 4 0) 6) (M.rotr (q.getD 4 0) 11) (M.rotr (q.getD 4 0) 25) (M.rotr_lt q4) (M.rotr_lt q4) (M.rotr_lt q4)
  have x0 := pleachref03_Sum.xor3 (M.rotr (q.getD 0 0) 2) (M.rotr (q.getD 0 0) 13) (M.rotr (q.getD 0 0) 22) (M.rotr_lt q0) (M.rotr_lt q0) (M.rotr_lt q0)
  have c4 := pleachref03_Sum.choose32 _ _ _ q4 q5 q6
  have m0 := pleachref03_Sum.most32 _ _ _ q0 q1 q2
  simp only [show (6 : Int).toNat = 6 from rfl, show (11 : Int).toNat = 11 from rfl, show (25 : Int).toNat = 25 from rfl, show (2 : Int).toNat = 2 from rfl, show (13 : Int).toNat = 13 from rfl, show (22 : Int).toNat = 22 from rfl]
  rw [x4, x0, c4, m0, M.wrap64_id (by omega) (by omega)]
  simp only [M.rnd, List.getD_cons_zero, List.getD_cons_succ] at hn
  refine Eq.trans ?_ hn
  unfold M.bg1 M.bg0
  congr 1
  ·omega
  ·omega
theorem pleachref03_Sum.turned_lt (s : List Nat) (b : List UInt8) : ∀ x ∈ M.turned s b, x < 4294967296 := by
 intro x hx
 unfold M.turned at hx
 obtain ⟨i, _, rfl⟩ := List.mem_map.1 hx
 exact Nat.mod_lt _ (by decide)
theorem pleachref03_Sum.eat_lt (l : List UInt8) : ∀ k, ∀ x ∈ M.eat M.shaH l k, x < 4294967296
  | 0 => (by decide : ∀ x ∈ M.shaH, x < 4294967296)
  | k + 1 => pleachref03_Sum.turned_lt _ _
theorem pleachref03_Sum.loop0 (p : List UInt8) (n : Nat) (hp : p.length = 64 * n) (hn : n ≤ 100000000000) (F : Nat) : ∀ (d j : Nat), j + d = n →
    pleachref03_Sum_p.l0 (66 * d + F + 1) (M.nums32 (M.eat M.shaH p j)) (M.sb p) (M.nums32 M.shaK) ((64 * j : Nat) : Int) = pleachref03_Sum_p.l2 F (M.nums32 (M.eat M.shaH p n)) (M.sb []) 0 := by
 intro d
 induction d with
 | zero =>
  intro j hj
  obtain rfl : j = n := by omega
  rw [show 66 * 0 + F + 1 = F + 1 from by omega, pleachref03_Sum_p.l0, if_neg (by rw [M.size_sb]; omega)]
  rfl
 | succ d ih =>
  intro j hj
  have hl := M.eat_len M.shaH p rfl j
  have hlt := pleachref03_Sum.eat_lt p j
  have hw : wrap64 (((64 * j : Nat) : Int) + 64) = ((64 * (j + 1) : Nat) : Int) := by rw [M.wrap64_id (by omega) (by omega)]; omega
  have hx : (M.sb p).extract (64 * j) (64 * (j + 1)) = M.sb ((p.drop (64 * j)).take 64) := by
   apply M.bs_inj
   rw [M.bs_extract, M.bs_sb, M.bs_sb, show 64 * (j + 1) - 64 * j = 64 from by omega]
  have hsz : (M.sb ((p.drop (64 * j)).take 64)).size = 64 := by rw [M.size_sb, List.length_take, List.length_drop]; omega
  have hsc : pleachref03_schedule.f (M.sb ((p.drop (64 * j)).take 64)) = some (M.nums32 (M.sched ((p.drop (64 * j)).take 64) 64)) := by
   unfold pleachref03_schedule.f
   rw [if_pos hsz, M.bs_sb]
  have he : M.eat M.shaH p (j + 1) = (List.range 8).map fun i => ((M.rnds (M.eat M.shaH p j) (M.sched ((p.drop (64 * j)).take 64) 64) 64).getD i 0 + (M.eat M.shaH p j).getD i 0) % 4294967296 := rfl
  generalize M.eat M.shaH p j = h at *
  have hll : ((M.nums32 h).length : Int) = 8 := by simp [M.nums32, hl]
  have hg := pleachref03_schedule.get h
  have e0 : rd (M.nums32 h) 0 = _ := hg 0
  have e1 : rd (M.nums32 h) 1 = _ := hg 1
  have e2 : rd (M.nums32 h) 2 = _ := hg 2
  have e3 : rd (M.nums32 h) 3 = _ := hg 3
  have e4 : rd (M.nums32 h) 4 = _ := hg 4
  have e5 : rd (M.nums32 h) 5 = _ := hg 5
  have e6 : rd (M.nums32 h) 6 = _ := hg 6
  have e7 : rd (M.nums32 h) 7 = _ := hg 7
  rw [show 66 * (d + 1) + F + 1 = (64 + (66 * d + F + 1) + 1) + 1 from by omega, pleachref03_Sum_p.l0, if_pos (by rw [M.size_sb]; omega), if_pos (by omega), hw, if_pos (by omega), if_pos (by rw [M.size_sb]; omega), Int.toNat_natCast, Int.toNat_natCast, hx, hsc, Option.bind_some, hll]
  simp only [show (0 : Int) < 8 from by decide, show (1 : Int) < 8 from by decide, show (2 : Int) < 8 from by decide, show (3 : Int) < 8 from by decide, show (4 : Int) < 8 from by decide, show (5 : Int) < 8 from by decide, show (6 : Int) < 8 from by decide, show (7 : Int) < 8 from by decide, if_true]
  rw [e0, e1, e2, e3, e4, e5, e6, e7]
  refine (pleachref03_Sum.loop1 h (pleachref03_Sum.getD_lt hlt) hl (M.sb p) ((64 * j : Nat) : Int) (M.sched ((p.drop (64 * j)).take 64) 64) (M.sched_lt _ 64) (M.sched_len _ 64) (66 * d + F + 1) 64 0 rfl).trans ?_
  rw [← he, hw]
  exact ih (j + 1) (by omega)
theorem pleachref03_Sum.loop2 (h : List Nat) (hl : h.length = 8) (hlt : ∀ x ∈ h, x < 4294967296) (F : Nat) : ∀ (d i : Nat), i + d = 8 →
    pleachref03_Sum_p.l2 (d + F + 1) (M.nums32 h) (M.sb (M.shaText (h.take i))) (i : Int) = some (M.sb (M.shaText h)) := by
 have hll : ((M.nums32 h).length : Int) = 8 := by simp [M.nums32, hl]
 intro d
 induction d with
 | zero =>
  intro i hi
  obtain rfl : i = 8 := by omega
  rw [show 0 + F + 1 = F + 1 from by omega, pleachref03_Sum_p.l2, if_neg (by omega), List.take_of_length_le (by omega)]
 | succ d ih =>
  intro i hi
  have hil : i < h.length := by omega
  have hx := hlt h[i] (List.getElem_mem hil)
  have hgd : h.getD i 0 = h[i] := by simp [List.getD, hil]
  rw [show d + 1 + F + 1 = (d + F + 1) + 1 from by omega, pleachref03_Sum_p.l2, if_pos (by omega), hll, if_pos (by omega), if_pos (by omega), pleachref03_schedule.get, hgd, Option.bind_some]
  have e4 : strOfNums ([((h[i] : Nat) : Int) / 16777216 % 256, ((h[i] : Nat) : Int) / 65536 % 256, ((h[i] : Nat) : Int) / 256 % 256, ((h[i] : Nat) : Int) % 256]) = M.sb (M.shaText [h[i]]) := by
   have := M.strOfNums_nat [h[i] / 16777216 % 256, h[i] / 65536 % 256, h[i] / 256 % 256, h[i] % 256]
   simp only [List.map_cons, List.map_nil, Int.natCast_emod, Int.natCast_ediv] at this
   apply M.bs_inj
   rw [M.bs_sb]
   refine this.trans ?_
   simp only [M.shaText, List.flatMap_cons, List.flatMap_nil, List.append_nil]
   have hm : ∀ q : Nat, UInt8.ofNat (q % 256) = UInt8.ofNat q := fun q => by
    apply UInt8.toNat_inj.1
    rw [UInt8.toNat_ofNat', UInt8.toNat_ofNat']
    omega
   rw [hm, hm, hm, hm]
  rw [e4, ← M.sb_append]
  have e5 : M.shaText (h.take i) ++ M.shaText [h[i]] = M.shaText (h.take (i + 1)) := by
   rw [List.take_succ_eq_append_getElem hil]
   simp only [M.shaText, List.flatMap_append]
  rw [if_pos (by rw [M.size_sb, M.size_sb, M.shaText_len, M.shaText_len, List.length_take]; simp only [List.length_cons, List.length_nil]; omega), e5, M.wrap64_id (by omega) (by omega)]
  exact ih (i + 1) (by omega)
theorem pleachref03_Sum.eat_split (s : List Nat) (p : List UInt8) (q : Nat) : ∀ m, M.eat s p (q + m) = M.eat (M.eat s p q) (p.drop (64 * q)) m
  | 0 => rfl
  | m + 1 => by
    rw [← Nat.add_assoc, M.eat, pleachref03_Sum.eat_split s p q m, M.eat, List.drop_drop]
    congr 3
    omega
theorem pleachref03_Sum.eat_front (s : List Nat) (l r : List UInt8) : ∀ q, 64 * q ≤ l.length → M.eat s (l ++ r) q = M.eat s l q
  | 0, _ => rfl
  | q + 1, h => by
    rw [M.eat, M.eat, pleachref03_Sum.eat_front s l r q (by omega), List.drop_append_of_le_length (by omega), List.take_append_of_le_length (by rw [List.length_drop]; omega)]
theorem pleachref03_Sum.whole (t : ByteArray) : M.eat M.shaH (M.padlast (M.bs t) t.size) ((M.padlast (M.bs t) t.size).length / 64) = M.eat (M.eat M.shaH (M.bs t) (t.size / 64)) (M.padlast ((M.bs t).drop (64 * (t.size / 64))) t.size) ((M.padlast ((M.bs t).drop (64 * (t.size / 64))) t.size).length / 64) := by
 have hz : M.padz ((M.bs t).drop (64 * (t.size / 64))).length = M.padz (M.bs t).length := by
  unfold M.padz
  rw [List.length_drop, M.bs_length]
  congr 2
  omega
 have hd : M.padlast ((M.bs t).drop (64 * (t.size / 64))) t.size = (M.padlast (M.bs t) t.size).drop (64 * (t.size / 64)) := by
  unfold M.padlast
  rw [hz]
  have hle : 64 * (t.size / 64) ≤ (M.bs t).length := by rw [M.bs_length]; omega
  rw [List.drop_append_of_le_length (by simp only [List.length_append, List.length_cons, List.length_nil, List.length_replicate]; omega), List.drop_append_of_le_length (by simp only [List.length_append, List.length_cons, List.length_nil]; omega), List.drop_append_of_le_length hle]
 have hq : (M.padlast (M.bs t) t.size).length / 64 = t.size / 64 + (M.padlast ((M.bs t).drop (64 * (t.size / 64))) t.size).length / 64 := by
  rw [hd, List.length_drop]
  have : t.size ≤ (M.padlast (M.bs t) t.size).length := by
   unfold M.padlast
   simp only [List.length_append, M.bs_length]; omega
  omega
 rw [hq, pleachref03_Sum.eat_split, ← hd]
 congr 1
 unfold M.padlast
 rw [List.append_assoc, List.append_assoc]
 exact pleachref03_Sum.eat_front _ _ _ _ (by rw [M.bs_length]; omega)
theorem pleachref03_Sum.ev (b r : ByteArray) (h : pleachref03_Sum.f b = some r) : ∃ k, pleachref03_Sum_p.f k b = some r := by
 unfold pleachref03_Sum.f at h
 split at h
 case isFalse => cases h
 case isTrue hs =>
  have hp := M.padlast_len (M.bs b) b.size
  have hpl := M.padlast_le (M.bs b) b.size
  rw [M.bs_length] at hpl
  have hc : pleachref03_Constants.f = some (M.nums32 M.shaK) := rfl
  obtain ⟨n, hn⟩ : ∃ n, (M.padlast (M.bs b) b.size).length = 64 * n := ⟨(M.padlast (M.bs b) b.size).length / 64, by omega⟩
  refine ⟨66 * n + (8 + 0 + 1) + 1, ?_⟩
  rw [← h]
  unfold pleachref03_Sum_p.f pleachref03_padded.f
  rw [if_pos hs, Option.bind_some, hc, Option.bind_some]
  refine (pleachref03_Sum.loop0 _ n hn (by omega) (8 + 0 + 1) n 0 (by omega)).trans ?_
  have := pleachref03_Sum.loop2 (M.eat M.shaH (M.padlast (M.bs b) b.size) n) (M.eat_len _ _ rfl _) (pleachref03_Sum.eat_lt _ _) 0 8 0 rfl
  refine this.trans ?_
  have hw := pleachref03_Sum.whole b
  rw [hn, show 64 * n / 64 = n from by omega] at hw
  rw [hw]
  rfl
theorem pleachref03_Sum.calls (a0 : ByteArray) (r : ByteArray) (w : World) (h : pleachref03_Sum.f a0 = some r) :
    Calls Tryd.prog 61 #[.string a0] w fun e w' => e = .returned (.string r) ∧ Below w.heap.size w w' := by
 obtain ⟨k, hk⟩ := pleachref03_Sum.ev _ _ h
 exact pleachref03_Sum_p.calls (k := k) (w := w) (h := hk)
end Go.Proofs.YtikdbklmhjlfoaaDoor.ECommitKnots
