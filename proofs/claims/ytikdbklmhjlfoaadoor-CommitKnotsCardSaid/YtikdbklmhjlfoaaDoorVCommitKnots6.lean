-- Laid by this session's own program (wip/tools/fold.py): this session's texts, cut to what the claim names and put together; Lean checks it.
import Derived.Test.YtikdbklmhjlfoaaDoorVCommitKnots1
import Derived.Test.YtikdbklmhjlfoaaDoorVCommitKnots5
import Derived.Test.YtikdbklmhjlfoaaDoorXCommitKnots1
namespace Go.Proofs.YtikdbklmhjlfoaaDoor.ECommitKnots
open Go.RowKit Go.Proofs.YtikdbklmhjlfoaaDoorW.PrintWords Go.Proofs.YtikdbklmhjlfoaaDoorW.PrintLast Go.Proofs.YtikdbklmhjlfoaaDoorW.PrintMore
attribute [local go_sem] M.run_leq M.run_gtr M.run_geq max2_int min2_int max_two min_two max_three min_three max_four min_four
set_option linter.unusedVariables false
set_option linter.unusedSimpArgs false
mutual
def pleachref03_schedule_p.l0 : Nat → ByteArray → List Int → Int → Option (List Int)
  | 0, _, _, _ => none
  | k + 1, x0, x3, x4 => if x4 < 16 then (pleachref03_schedule_p.l1 k x0 x3 x4 0 0) else (pleachref03_schedule_p.l2 k x3 16)
def pleachref03_schedule_p.l1 : Nat → ByteArray → List Int → Int → Int → Int → Option (List Int)
  | 0, _, _, _, _, _ => none
  | k + 1, x0, x3, x4, x5, x6 => if x6 < 4 then (if 0 ≤ (wrap64 ((wrap64 (4 * x4)) + x6)) then (if (wrap64 ((wrap64 (4 * x4)) + x6)) < (x0.size : Int) then (pleachref03_schedule_p.l1 k x0 x3 x4 ((((x5 * 256) % 4294967296) + ((bt x0 (wrap64 ((wrap64 (4 * x4)) + x6))) % 4294967296)) % 4294967296) (wrap64 (x6 + 1))) else (none)) else (none)) else (if x3.length < 35184372088832 then (pleachref03_schedule_p.l0 k x0 (x3 ++ [x5]) (wrap64 (x4 + 1))) else (none))
def pleachref03_schedule_p.l2 : Nat → List Int → Int → Option (List Int)
  | 0, _, _ => none
  | k + 1, x3, x7 => if x7 < 64 then (if 0 ≤ (wrap64 (x7 - 15)) then (if (wrap64 (x7 - 15)) < (x3.length : Int) then ((pleachref03_turn.f (rd x3 (wrap64 (x7 - 15))) 7).bind fun t192 => ((pleachref03_turn.f (rd x3 (wrap64 (x7 - 15))) 18).bind fun t194 => (if 0 ≤ (wrap64 (x7 - 2)) then (if (wrap64 (x7 - 2)) < (x3.length : Int) then ((pleachref03_turn.f (rd x3 (wrap64 (x7 - 2))) 17).bind fun t197 => ((pleachref03_turn.f (rd x3 (wrap64 (x7 - 2))) 19).bind fun t199 => (if 0 ≤ (wrap64 (x7 - 7)) then (if (wrap64 (x7 - 7)) < (x3.length : Int) then (if 0 ≤ (wrap64 (x7 - 16)) then (if (wrap64 (x7 - 16)) < (x3.length : Int) then (if x3.length < 35184372088832 then (pleachref03_schedule_p.l2 k (x3 ++ [((((((Go.bits .xor .u32 (Go.bits .xor .u32 t197 t199) ((rd x3 (wrap64 (x7 - 2))) / 1024)) + (rd x3 (wrap64 (x7 - 7)))) % 4294967296) + (Go.bits .xor .u32 (Go.bits .xor .u32 t192 t194) ((rd x3 (wrap64 (x7 - 15))) / 8))) % 4294967296) + (rd x3 (wrap64 (x7 - 16)))) % 4294967296]) (wrap64 (x7 + 1))) else (none)) else (none)) else (none)) else (none)) else (none)))) else (none)) else (none)))) else (none)) else (none)) else (some x3)
end
def pleachref03_schedule_p.f (k : Nat) (a0 : ByteArray) : Option (List Int) := pleachref03_schedule_p.l0 k a0 ([] : List Int) 0
theorem pleachref03_schedule_p.mono_l : ∀ k, (∀ y0 y1 y2, LeO (pleachref03_schedule_p.l0 k y0 y1 y2) (pleachref03_schedule_p.l0 (k + 1) y0 y1 y2)) ∧ (∀ y0 y1 y2 y3 y4, LeO (pleachref03_schedule_p.l1 k y0 y1 y2 y3 y4) (pleachref03_schedule_p.l1 (k + 1) y0 y1 y2 y3 y4)) ∧ (∀ y0 y1, LeO (pleachref03_schedule_p.l2 k y0 y1) (pleachref03_schedule_p.l2 (k + 1) y0 y1))
  | 0 => ⟨fun _ _ _ r h => by simp [pleachref03_schedule_p.l0] at h, fun _ _ _ _ _ r h => by simp [pleachref03_schedule_p.l1] at h, fun _ _ r h => by simp [pleachref03_schedule_p.l2] at h⟩
  | k + 1 => by
    obtain ⟨ih0, ih1, ih2⟩ := pleachref03_schedule_p.mono_l k
    refine ⟨?_, ?_, ?_⟩
    · intro y0 y1 y2
      unfold pleachref03_schedule_p.l0
      repeat' first
      | (with_reducible exact ih0 _ _ _)
      | (with_reducible exact ih1 _ _ _ _ _)
      | (with_reducible exact ih2 _ _)
      | (with_reducible exact LeO.refl _)
      | (with_reducible exact LeO.none _)
      | (with_reducible refine LeO.ite ?_ ?_)
      | (with_reducible refine LeO.bind ?_ (fun _ => ?_))
      | exact ih0 _ _ _
      | exact ih1 _ _ _ _ _
      | exact ih2 _ _
      | exact LeO.none _
      | refine LeO.ite ?_ ?_
      | refine LeO.bind ?_ (fun _ => ?_)
    · intro y0 y1 y2 y3 y4
      unfold pleachref03_schedule_p.l1
      repeat' first
      | (with_reducible exact ih0 _ _ _)
      | (with_reducible exact ih1 _ _ _ _ _)
      | (with_reducible exact ih2 _ _)
      | (with_reducible exact LeO.refl _)
      | (with_reducible exact LeO.none _)
      | (with_reducible refine LeO.ite ?_ ?_)
      | (with_reducible refine LeO.bind ?_ (fun _ => ?_))
      | exact ih0 _ _ _
      | exact ih1 _ _ _ _ _
      | exact ih2 _ _
      | exact LeO.none _
      | refine LeO.ite ?_ ?_
      | refine LeO.bind ?_ (fun _ => ?_)
    · intro y0 y1
      unfold pleachref03_schedule_p.l2
      repeat' first
      | (with_reducible exact ih0 _ _ _)
      | (with_reducible exact ih1 _ _ _ _ _)
      | (with_reducible exact ih2 _ _)
      | (with_reducible exact LeO.refl _)
      | (with_reducible exact LeO.none _)
      | (with_reducible refine LeO.ite ?_ ?_)
      | (with_reducible refine LeO.bind ?_ (fun _ => ?_))
      | exact ih0 _ _ _
      | exact ih1 _ _ _ _ _
      | exact ih2 _ _
      | exact LeO.none _
      | refine LeO.ite ?_ ?_
      | refine LeO.bind ?_ (fun _ => ?_)
theorem pleachref03_schedule_p.mono : ∀ a0 k, LeO (pleachref03_schedule_p.f k a0) (pleachref03_schedule_p.f (k + 1) a0) := by
  intro a0 k
  obtain ⟨ih0, ih1, ih2⟩ := pleachref03_schedule_p.mono_l k
  unfold pleachref03_schedule_p.f
  repeat' first
      | (with_reducible exact ih0 _ _ _)
      | (with_reducible exact ih1 _ _ _ _ _)
      | (with_reducible exact ih2 _ _)
      | (with_reducible exact LeO.refl _)
      | (with_reducible exact LeO.none _)
      | (with_reducible refine LeO.ite ?_ ?_)
      | (with_reducible refine LeO.bind ?_ (fun _ => ?_))
      | exact ih0 _ _ _
      | exact ih1 _ _ _ _ _
      | exact ih2 _ _
      | exact LeO.none _
      | refine LeO.ite ?_ ?_
      | refine LeO.bind ?_ (fun _ => ?_)
def pleachref03_schedule_p.T14 : Bool × List (List Nat × List Nat) := (true, [([], []), ([], []), ([1], [1]), ([0, 2], [0, 2]), ([3], [3]), ([4], [4]), ([], []), ([], []), ([7], [7]), ([6, 8], [6, 8]), ([9], [9]), ([10, 5], [10]), ([5, 11], [5, 11]), ([], []), ([], []), ([14], [14]), ([13, 15], [13, 15]), ([16], [16]), ([17], [17]), ([12, 18], [12, 18]), ([19, 11, 0, 1, 2, 3, 4, 5, 6, 7, 8, 9, 10, 11, 12, 13, 14, 15, 16, 17, 18, 19], [19])])
def pleachref03_schedule_p.B14 : List Nat := [0, 0, 2, 7, 15, 31, 0, 0, 128, 448, 960, 2047, 4095, 0, 0, 16384, 57344, 122880, 253952, 524287, 1048575]
theorem pleachref03_schedule_p.tab14 : rtab .any (opsOf Tryd.f72 14) = pleachref03_schedule_p.T14 := by kernel_rfl
theorem pleachref03_schedule_p.bits14 : waitsOk pleachref03_schedule_p.T14.2 pleachref03_schedule_p.B14 = true := by kernel_rfl
def pleachref03_schedule_p.T15 : Bool × List (List Nat × List Nat) := (true, [([], []), ([], []), ([1], [1]), ([0, 2], [0, 2]), ([3], [3]), ([4], [4]), ([], []), ([], []), ([7], [7]), ([6, 8], [6, 8]), ([9], [9]), ([10, 5], [10]), ([5, 11], [5, 11]), ([], []), ([], []), ([14], [14]), ([13, 15], [13, 15]), ([16], [16]), ([17], [17]), ([12, 18], [12, 18]), ([19, 11, 0, 1, 2, 3, 4, 5, 6, 7, 8, 9, 10, 11, 12, 13, 14, 15, 16, 17, 18, 19], [19])])
def pleachref03_schedule_p.B15 : List Nat := [0, 0, 2, 7, 15, 31, 0, 0, 128, 448, 960, 2047, 4095, 0, 0, 16384, 57344, 122880, 253952, 524287, 1048575]
theorem pleachref03_schedule_p.tab15 : rtab .any (opsOf Tryd.f72 15) = pleachref03_schedule_p.T15 := by kernel_rfl
theorem pleachref03_schedule_p.bits15 : waitsOk pleachref03_schedule_p.T15.2 pleachref03_schedule_p.B15 = true := by kernel_rfl
def pleachref03_schedule_p.T16 : Bool × List (List Nat × List Nat) := (true, [([], []), ([], []), ([], []), ([], []), ([3], [3]), ([2, 4], [2, 4]), ([5], [5]), ([1, 6], [1, 6]), ([], []), ([7, 8], [7, 8]), ([], []), ([], []), ([11], [11]), ([10, 12], [10, 12]), ([13], [13]), ([9, 14], [9, 14]), ([15], [15]), ([0, 16], [0, 16]), ([17, 17, 0, 1, 2, 3, 4, 5, 6, 7, 8, 9, 10, 11, 12, 13, 14, 15, 16, 17], [0, 2, 10, 17])])
def pleachref03_schedule_p.B16 : List Nat := [0, 0, 0, 0, 8, 28, 60, 126, 0, 510, 0, 0, 2048, 7168, 15360, 32766, 65534, 131071, 262143]
theorem pleachref03_schedule_p.tab16 : rtab .any (opsOf Tryd.f72 16) = pleachref03_schedule_p.T16 := by kernel_rfl
theorem pleachref03_schedule_p.bits16 : waitsOk pleachref03_schedule_p.T16.2 pleachref03_schedule_p.B16 = true := by kernel_rfl
set_option maxHeartbeats 8000000 in
set_option maxRecDepth 100000 in
theorem pleachref03_schedule_p.calls (k : Nat) (a0 : ByteArray) (r : List Int) (w : World) (h : pleachref03_schedule_p.f k a0 = some r) :
    Calls Tryd.prog 72 #[.string a0] w fun e w' => ∃ v0_ : Value, e = .returned (v0_) ∧ Kd.R (Kd.int .u32) 116 w' w.heap.size (fun _ => True) v0_ r ∧ Below w.heap.size w w' := by
 have HB := Aside0.mk (Below.refl w.heap.size w)
 have H : (pleachref03_schedule_p.l0 k a0 ([] : List Int) 0) = some r := h
 clear h
 have H' := Aside0.mk H
 clear H
 go_enter Tryd.func72, Tryd.ntmps72
 go_wp2
 go_loopg [3, 4] k (fun kq v3 v4 w' => ∃ (x3_1 : List Int) (x4_1 : Int), v4 = .int .i64 x4_1 ∧ Aside0 (pleachref03_schedule_p.l0 kq a0 x3_1 x4_1 = some r) ∧ Aside0 (kq ≤ k) ∧ Aside0 (Kd.R (Kd.int .u32) 116 w' w.heap.size (fun _ => True) v3 x3_1) ∧ Aside0 (Below w.heap.size w w'))
 case atStart => exact ⟨(([] : List Int)), (0), M.eqv, H', ⟨Nat.le_refl _⟩, ⟨M.nl⟩, ⟨M.up HB⟩⟩
 case round =>
  clear H'
  obtain ⟨x3_1, x4_1, rfl, HA, HK1, zaa, HB⟩ := hrel
  cases gk with
  | zero => exact absurd HA.out (by simp [pleachref03_schedule_p.l0])
  | succ k1 =>
   have H := HA.out
   clear HA
   simp only [pleachref03_schedule_p.l0] at H
   by_cases c2 : x4_1 < 16
   ·rw [if_pos c2] at H
    have c2b0 := decide_eq_true c2
    clear c2
    have H' := Aside0.mk H
    clear H
    go_wp2
    go_loopg [5, 6] k1 (fun kq v5 v6 w' => ∃ (x5_2 : Int) (x6_2 : Int), v5 = .int .u32 x5_2 ∧ v6 = .int .i64 x6_2 ∧ Aside0 (pleachref03_schedule_p.l1 kq a0 x3_1 x4_1 x5_2 x6_2 = some r) ∧ Aside0 (kq ≤ k1) ∧ Aside0 (Kd.R (Kd.int .u32) 116 w' w.heap.size (fun _ => True) u3 x3_1) ∧ Aside0 (Below w.heap.size w w'))
    case atStart => exact ⟨(0), (0), M.eqv, M.eqv, H', ⟨Nat.le_refl _⟩, ⟨by (with_reducible repeat (first | apply Kd.R_alloc | apply Kd.R_drewN | apply Kd.R_drew)); exact zaa.out⟩, ⟨M.up HB⟩⟩
    case round =>
     clear H'
     (try clear c2); (try clear c2b0); (try clear p2)
     obtain ⟨x5_2, x6_2, rfl, rfl, HA, HK2, zaa, HB⟩ := hrel
     cases gk with
     | zero => exact absurd HA.out (by simp [pleachref03_schedule_p.l1])
     | succ k2 =>
      have H := HA.out
      clear HA
      simp only [pleachref03_schedule_p.l1] at H
      by_cases c3 : x6_2 < 4
      ·rw [if_pos c3] at H
       have c3b0 := decide_eq_true c3
       clear c3
       obtain ⟨ji4, hji4⟩ : ∃ j_ : Int, (wrap64 ((wrap64 (4 * x4_1)) + x6_2)) = j_ := ⟨_, rfl⟩
       replace H : (if 0 ≤ (ji4) then (if (ji4) < (a0.size : Int) then (pleachref03_schedule_p.l1 k2 a0 x3_1 x4_1 ((((x5_2 * 256) % 4294967296) + ((bt a0 (ji4)) % 4294967296)) % 4294967296) (wrap64 (x6_2 + 1))) else (none)) else (none)) = some r := by first | (rw [hji4] at H; exact H) | (simp only [hji4] at H ⊢; exact H)
       have hji4w : (IntKind.i64.wrap ((wrap64 (4 * x4_1)) + x6_2)) = ji4 := (i64_w _).trans hji4
       by_cases c5 : 0 ≤ (ji4)
       ·rw [if_pos c5] at H
        have c5b0 := decide_eq_true c5
        clear c5
        by_cases c6 : (ji4) < (a0.size : Int)
        ·rw [if_pos c6] at H
         have c6b0 := decide_eq_true c6
         clear c6
         have H' := Aside0.mk H
         clear H
         have p7 : 0 ≤ ((ji4) : Int) := M.dt
         have q7 : (ji4) < (a0.size : Int) := M.dt
         have hx7 := bt_at a0 (ji4)
         replace p7 := eq_true p7
         replace q7 := eq_true q7
         go_wp2
         go_roundg k2
         case measure => have := HK1.out; have := HK2.out; omega
         case rel => exact ⟨((((x5_2 * 256) % 4294967296) + ((bt a0 (ji4)) % 4294967296)) % 4294967296), (wrap64 (x6_2 + 1)), (by first | rfl | (simp; done) | (simp only [← hji4] <;> (first | rfl | simp)) | (simp [*]; done)), M.eqv, H', ⟨by have := HK1.out; have := HK2.out; omega⟩, ⟨by (with_reducible repeat (first | apply Kd.R_alloc | apply Kd.R_drewN | apply Kd.R_drew)); exact zaa.out⟩, ⟨M.up HB⟩⟩
        ·exact M.nf c6 H
       ·exact M.nf c5 H
      ·rw [if_neg c3] at H
       have c3b0 := decide_eq_false c3
       clear c3
       by_cases c8 : x3_1.length < 35184372088832
       ·rw [if_pos c8] at H
        have LMc8 := Aside0.mk c8
        clear c8
        obtain ⟨y188, hy188⟩ : ∃ y_ : List Int, y_ = (x3_1 ++ [x5_2]) := ⟨_, rfl⟩
        replace H : (pleachref03_schedule_p.l0 k2 a0 y188 (wrap64 (x4_1 + 1))) = some r := by first | (rw [hy188]; with_reducible exact H) | (have H2_ := (Option.bind_some _ _).symm.trans H; rw [hy188]; with_reducible exact H2_) | (have H2_ := (Option.bind_some _ _).symm.trans H; with_reducible exact H2_) | with_reducible exact H | (rw [hy188]; exact H) | exact H
        have Ny188 := Aside0.mk hy188
        clear hy188
        have H' := Aside0.mk H
        clear H
        go_wp2_with (first | ((with_reducible refine gate_builtin (b := .append) (xs := #[.tmp 28, .tmp 30]) rfl ?_); at_builtin; refine Kd.R_append (Kd.int .u32) (w0 := w) w.heap.size rfl (.tmp 28) (.tmp 30) 117 116 (.int .u32 0) 4 rfl Tryd.underlying117 info116 rfl (by decide) (by omega) u3 x3_1 x5_2 [.int .u32 x5_2] (fun _ => True) (fun _ => False) rfl rfl ?aP (fun _ hk => hk.elim) ?aF ?aO ?aB ?aS ?aL ?_; (case aP => exact rfl); (case aB => exact (M.up HB)); (case aF => exact (fun _ _ => trivial)); (case aO => exact (M.ro zaa)); (case aS => exact (below_size (M.up HB))); (case aL => have := LMc8.out; omega); intro v189 w9 ho hb hg hat; rw [← Ny188.out] at ho; replace HB := Aside0.mk (hb); have HO190 := Aside0.mk (ho); clear zaa; clear ho hb hg hat))
        go_roundg k2
        case measure => have := HK1.out; have := HK2.out; omega
        case rel => exact ⟨(y188), (wrap64 (x4_1 + 1)), M.eqv, H', ⟨by have := HK1.out; have := HK2.out; omega⟩, ⟨by (with_reducible repeat (first | apply Kd.R_alloc | apply Kd.R_drewN | apply Kd.R_drew)); exact HO190.out⟩, ⟨M.up HB⟩⟩
       ·exact M.nf c8 H
   ·rw [if_neg c2] at H
    have c2b0 := decide_eq_false c2
    clear c2
    have H' := Aside0.mk H
    clear H
    go_wp2
    go_loopg [3, 7] k1 (fun kq v3 v7 w' => ∃ (x3_2 : List Int) (x7_2 : Int), v7 = .int .i64 x7_2 ∧ Aside0 (pleachref03_schedule_p.l2 kq x3_2 x7_2 = some r) ∧ Aside0 (kq ≤ k1) ∧ Aside0 (Kd.R (Kd.int .u32) 116 w' w.heap.size (fun _ => True) v3 x3_2) ∧ Aside0 (Below w.heap.size w w'))
    case atStart => exact ⟨(x3_1), (16), M.eqv, H', ⟨Nat.le_refl _⟩, ⟨by (with_reducible repeat (first | apply Kd.R_alloc | apply Kd.R_drewN | apply Kd.R_drew)); exact zaa.out⟩, ⟨M.up HB⟩⟩
    case round =>
     clear H'
     (try clear c2); (try clear c2b0); (try clear p2); (try clear c3); (try clear c3b0); (try clear c5); (try clear c5b0); (try clear c6); (try clear c6b0); (try clear p6); (try clear c7); (try clear p7); (try clear q7); (try clear hx7); (try clear c8); (try clear p2); (try clear p7); (try clear q7)
     obtain ⟨x3_2, x7_2, rfl, HA, HK2, zaa, HB⟩ := hrel
     cases gk with
     | zero => exact absurd HA.out (by simp [pleachref03_schedule_p.l2])
     | succ k2 =>
      have H := HA.out
      clear HA
      simp only [pleachref03_schedule_p.l2] at H
      by_cases c10 : x7_2 < 64
      ·rw [if_pos c10] at H
       have c10b0 := decide_eq_true c10
       clear c10
       obtain ⟨ji11, hji11⟩ : ∃ j_ : Int, (wrap64 (x7_2 - 15)) = j_ := ⟨_, rfl⟩
       replace H : (if 0 ≤ (ji11) then (if (ji11) < (x3_2.length : Int) then ((pleachref03_turn.f (rd x3_2 (ji11)) 7).bind fun t192 => ((pleachref03_turn.f (rd x3_2 (ji11)) 18).bind fun t194 => (if 0 ≤ (wrap64 (x7_2 - 2)) then (if (wrap64 (x7_2 - 2)) < (x3_2.length : Int) then ((pleachref03_turn.f (rd x3_2 (wrap64 (x7_2 - 2))) 17).bind fun t197 => ((pleachref03_turn.f (rd x3_2 (wrap64 (x7_2 - 2))) 19).bind fun t199 => (if 0 ≤ (wrap64 (x7_2 - 7)) then (if (wrap64 (x7_2 - 7)) < (x3_2.length : Int) then (if 0 ≤ (wrap64 (x7_2 - 16)) then (if (wrap64 (x7_2 - 16)) < (x3_2.length : Int) then (if x3_2.length < 35184372088832 then (pleachref03_schedule_p.l2 k2 (x3_2 ++ [((((((Go.bits .xor .u32 (Go.bits .xor .u32 t197 t199) ((rd x3_2 (wrap64 (x7_2 - 2))) / 1024)) + (rd x3_2 (wrap64 (x7_2 - 7)))) % 4294967296) + (Go.bits .xor .u32 (Go.bits .xor .u32 t192 t194) ((rd x3_2 (ji11)) / 8))) % 4294967296) + (rd x3_2 (wrap64 (x7_2 - 16)))) % 4294967296]) (wrap64 (x7_2 + 1))) else (none)) else (none)) else (none)) else (none)) else (none)))) else (none)) else (none)))) else (none)) else (none)) = some r := by first | (rw [hji11] at H; exact H) | (simp only [hji11] at H ⊢; exact H)
       have hji11w : (IntKind.i64.wrap (x7_2 - 15)) = ji11 := (i64_w _).trans hji11
       by_cases c12 : 0 ≤ (ji11)
       ·rw [if_pos c12] at H
        have c12b0 := decide_eq_true c12
        clear c12
        by_cases c13 : (ji11) < (x3_2.length : Int)
        ·rw [if_pos c13] at H
         have c13b0 := decide_eq_true c13
         clear c13
         replace H := Option.bind_eq_some_iff.mp H
         obtain ⟨t192, A140, H⟩ := H
         replace H : ((pleachref03_turn.f (rd x3_2 (ji11)) 18).bind fun t194 => (if 0 ≤ (wrap64 (x7_2 - 2)) then (if (wrap64 (x7_2 - 2)) < (x3_2.length : Int) then ((pleachref03_turn.f (rd x3_2 (wrap64 (x7_2 - 2))) 17).bind fun t197 => ((pleachref03_turn.f (rd x3_2 (wrap64 (x7_2 - 2))) 19).bind fun t199 => (if 0 ≤ (wrap64 (x7_2 - 7)) then (if (wrap64 (x7_2 - 7)) < (x3_2.length : Int) then (if 0 ≤ (wrap64 (x7_2 - 16)) then (if (wrap64 (x7_2 - 16)) < (x3_2.length : Int) then (if x3_2.length < 35184372088832 then (pleachref03_schedule_p.l2 k2 (x3_2 ++ [((((((Go.bits .xor .u32 (Go.bits .xor .u32 t197 t199) ((rd x3_2 (wrap64 (x7_2 - 2))) / 1024)) + (rd x3_2 (wrap64 (x7_2 - 7)))) % 4294967296) + (Go.bits .xor .u32 (Go.bits .xor .u32 t192 t194) ((rd x3_2 (ji11)) / 8))) % 4294967296) + (rd x3_2 (wrap64 (x7_2 - 16)))) % 4294967296]) (wrap64 (x7_2 + 1))) else (none)) else (none)) else (none)) else (none)) else (none)))) else (none)) else (none))) = some r := H
         have A14 := Aside0.mk A140
         clear A140
         replace H := Option.bind_eq_some_iff.mp H
         obtain ⟨t194, A150, H⟩ := H
         replace H : (if 0 ≤ (wrap64 (x7_2 - 2)) then (if (wrap64 (x7_2 - 2)) < (x3_2.length : Int) then ((pleachref03_turn.f (rd x3_2 (wrap64 (x7_2 - 2))) 17).bind fun t197 => ((pleachref03_turn.f (rd x3_2 (wrap64 (x7_2 - 2))) 19).bind fun t199 => (if 0 ≤ (wrap64 (x7_2 - 7)) then (if (wrap64 (x7_2 - 7)) < (x3_2.length : Int) then (if 0 ≤ (wrap64 (x7_2 - 16)) then (if (wrap64 (x7_2 - 16)) < (x3_2.length : Int) then (if x3_2.length < 35184372088832 then (pleachref03_schedule_p.l2 k2 (x3_2 ++ [((((((Go.bits .xor .u32 (Go.bits .xor .u32 t197 t199) ((rd x3_2 (wrap64 (x7_2 - 2))) / 1024)) + (rd x3_2 (wrap64 (x7_2 - 7)))) % 4294967296) + (Go.bits .xor .u32 (Go.bits .xor .u32 t192 t194) ((rd x3_2 (ji11)) / 8))) % 4294967296) + (rd x3_2 (wrap64 (x7_2 - 16)))) % 4294967296]) (wrap64 (x7_2 + 1))) else (none)) else (none)) else (none)) else (none)) else (none)))) else (none)) else (none)) = some r := H
         have A15 := Aside0.mk A150
         clear A150
         obtain ⟨ji16, hji16⟩ : ∃ j_ : Int, (wrap64 (x7_2 - 2)) = j_ := ⟨_, rfl⟩
         replace H : (if 0 ≤ (ji16) then (if (ji16) < (x3_2.length : Int) then ((pleachref03_turn.f (rd x3_2 (ji16)) 17).bind fun t197 => ((pleachref03_turn.f (rd x3_2 (ji16)) 19).bind fun t199 => (if 0 ≤ (wrap64 (x7_2 - 7)) then (if (wrap64 (x7_2 - 7)) < (x3_2.length : Int) then (if 0 ≤ (wrap64 (x7_2 - 16)) then (if (wrap64 (x7_2 - 16)) < (x3_2.length : Int) then (if x3_2.length < 35184372088832 then (pleachref03_schedule_p.l2 k2 (x3_2 ++ [((((((Go.bits .xor .u32 (Go.bits .xor .u32 t197 t199) ((rd x3_2 (ji16)) / 1024)) + (rd x3_2 (wrap64 (x7_2 - 7)))) % 4294967296) + (Go.bits .xor .u32 (Go.bits .xor .u32 t192 t194) ((rd x3_2 (ji11)) / 8))) % 4294967296) + (rd x3_2 (wrap64 (x7_2 - 16)))) % 4294967296]) (wrap64 (x7_2 + 1))) else (none)) else (none)) else (none)) else (none)) else (none)))) else (none)) else (none)) = some r := by first | (rw [hji16] at H; exact H) | (simp only [hji16] at H ⊢; exact H)
         (try rw [hji16] at A14)
         (try rw [hji16] at A15)
         have hji16w : (IntKind.i64.wrap (x7_2 - 2)) = ji16 := (i64_w _).trans hji16
         by_cases c17 : 0 ≤ (ji16)
         ·rw [if_pos c17] at H
          have c17b0 := decide_eq_true c17
          clear c17
          by_cases c18 : (ji16) < (x3_2.length : Int)
          ·rw [if_pos c18] at H
           have c18b0 := decide_eq_true c18
           clear c18
           replace H := Option.bind_eq_some_iff.mp H
           obtain ⟨t197, A190, H⟩ := H
           replace H : ((pleachref03_turn.f (rd x3_2 (ji16)) 19).bind fun t199 => (if 0 ≤ (wrap64 (x7_2 - 7)) then (if (wrap64 (x7_2 - 7)) < (x3_2.length : Int) then (if 0 ≤ (wrap64 (x7_2 - 16)) then (if (wrap64 (x7_2 - 16)) < (x3_2.length : Int) then (if x3_2.length < 35184372088832 then (pleachref03_schedule_p.l2 k2 (x3_2 ++ [((((((Go.bits .xor .u32 (Go.bits .xor .u32 t197 t199) ((rd x3_2 (ji16)) / 1024)) + (rd x3_2 (wrap64 (x7_2 - 7)))) % 4294967296) + (Go.bits .xor .u32 (Go.bits .xor .u32 t192 t194) ((rd x3_2 (ji11)) / 8))) % 4294967296) + (rd x3_2 (wrap64 (x7_2 - 16)))) % 4294967296]) (wrap64 (x7_2 + 1))) else (none)) else (none)) else (none)) else (none)) else (none))) = some r := H
           have A19 := Aside0.mk A190
           clear A190
           replace H := Option.bind_eq_some_iff.mp H
           obtain ⟨t199, A200, H⟩ := H
           replace H : (if 0 ≤ (wrap64 (x7_2 - 7)) then (if (wrap64 (x7_2 - 7)) < (x3_2.length : Int) then (if 0 ≤ (wrap64 (x7_2 - 16)) then (if (wrap64 (x7_2 - 16)) < (x3_2.length : Int) then (if x3_2.length < 35184372088832 then (pleachref03_schedule_p.l2 k2 (x3_2 ++ [((((((Go.bits .xor .u32 (Go.bits .xor .u32 t197 t199) ((rd x3_2 (ji16)) / 1024)) + (rd x3_2 (wrap64 (x7_2 - 7)))) % 4294967296) + (Go.bits .xor .u32 (Go.bits .xor .u32 t192 t194) ((rd x3_2 (ji11)) / 8))) % 4294967296) + (rd x3_2 (wrap64 (x7_2 - 16)))) % 4294967296]) (wrap64 (x7_2 + 1))) else (none)) else (none)) else (none)) else (none)) else (none)) = some r := H
           have A20 := Aside0.mk A200
           clear A200
           obtain ⟨ji21, hji21⟩ : ∃ j_ : Int, (wrap64 (x7_2 - 7)) = j_ := ⟨_, rfl⟩
           replace H : (if 0 ≤ (ji21) then (if (ji21) < (x3_2.length : Int) then (if 0 ≤ (wrap64 (x7_2 - 16)) then (if (wrap64 (x7_2 - 16)) < (x3_2.length : Int) then (if x3_2.length < 35184372088832 then (pleachref03_schedule_p.l2 k2 (x3_2 ++ [((((((Go.bits .xor .u32 (Go.bits .xor .u32 t197 t199) ((rd x3_2 (ji16)) / 1024)) + (rd x3_2 (ji21))) % 4294967296) + (Go.bits .xor .u32 (Go.bits .xor .u32 t192 t194) ((rd x3_2 (ji11)) / 8))) % 4294967296) + (rd x3_2 (wrap64 (x7_2 - 16)))) % 4294967296]) (wrap64 (x7_2 + 1))) else (none)) else (none)) else (none)) else (none)) else (none)) = some r := by first | (rw [hji21] at H; exact H) | (simp only [hji21] at H ⊢; exact H)
           (try rw [hji21] at A14)
           (try rw [hji21] at A15)
           (try rw [hji21] at A19)
           (try rw [hji21] at A20)
           have hji21w : (IntKind.i64.wrap (x7_2 - 7)) = ji21 := (i64_w _).trans hji21
           by_cases c22 : 0 ≤ (ji21)
           ·rw [if_pos c22] at H
            have c22b0 := decide_eq_true c22
            clear c22
            by_cases c23 : (ji21) < (x3_2.length : Int)
            ·rw [if_pos c23] at H
             have c23b0 := decide_eq_true c23
             clear c23
             obtain ⟨ji24, hji24⟩ : ∃ j_ : Int, (wrap64 (x7_2 - 16)) = j_ := ⟨_, rfl⟩
             replace H : (if 0 ≤ (ji24) then (if (ji24) < (x3_2.length : Int) then (if x3_2.length < 35184372088832 then (pleachref03_schedule_p.l2 k2 (x3_2 ++ [((((((Go.bits .xor .u32 (Go.bits .xor .u32 t197 t199) ((rd x3_2 (ji16)) / 1024)) + (rd x3_2 (ji21))) % 4294967296) + (Go.bits .xor .u32 (Go.bits .xor .u32 t192 t194) ((rd x3_2 (ji11)) / 8))) % 4294967296) + (rd x3_2 (ji24))) % 4294967296]) (wrap64 (x7_2 + 1))) else (none)) else (none)) else (none)) = some r := by first | (rw [hji24] at H; exact H) | (simp only [hji24] at H ⊢; exact H)
             (try rw [hji24] at A14)
             (try rw [hji24] at A15)
             (try rw [hji24] at A19)
             (try rw [hji24] at A20)
             have hji24w : (IntKind.i64.wrap (x7_2 - 16)) = ji24 := (i64_w _).trans hji24
             by_cases c25 : 0 ≤ (ji24)
             ·rw [if_pos c25] at H
              have c25b0 := decide_eq_true c25
              clear c25
              by_cases c26 : (ji24) < (x3_2.length : Int)
              ·rw [if_pos c26] at H
               have c26b0 := decide_eq_true c26
               clear c26
               by_cases c27 : x3_2.length < 35184372088832
               ·rw [if_pos c27] at H
                have LMc27 := Aside0.mk c27
                clear c27
                obtain ⟨y203, hy203⟩ : ∃ y_ : List Int, y_ = (x3_2 ++ [((((((Go.bits .xor .u32 (Go.bits .xor .u32 t197 t199) ((rd x3_2 (ji16)) / 1024)) + (rd x3_2 (ji21))) % 4294967296) + (Go.bits .xor .u32 (Go.bits .xor .u32 t192 t194) ((rd x3_2 (ji11)) / 8))) % 4294967296) + (rd x3_2 (ji24))) % 4294967296]) := ⟨_, rfl⟩
                replace H : (pleachref03_schedule_p.l2 k2 y203 (wrap64 (x7_2 + 1))) = some r := by first | (rw [hy203]; with_reducible exact H) | (have H2_ := (Option.bind_some _ _).symm.trans H; rw [hy203]; with_reducible exact H2_) | (have H2_ := (Option.bind_some _ _).symm.trans H; with_reducible exact H2_) | with_reducible exact H | (rw [hy203]; exact H) | exact H
                have Ny203 := Aside0.mk hy203
                clear hy203
                have H' := Aside0.mk H
                clear H
                try go_wp2
                replace zaa := Aside0.mk (Kd.R_drew zaa.out); replace HB := Aside0.mk (below_drew1 HB.out)
                obtain ⟨Ao29, co29, eo29⟩ := Kd.R_slice zaa.out
                (first | subst eo29 | (injection eo29 with f1_ f2_ f3_; have f4_ := f1_.symm; have f5_ := f3_.symm; clear f1_ f2_ f3_; subst f4_; subst f5_))
                have p191 : 0 ≤ ((ji11) : Int) := M.dt
                have q191 : (ji11) < (x3_2.length : Int) := M.dt
                obtain ⟨ad191, e191, hx191_0⟩ := Kd.at_int (Kd.R_reads' zaa.out).2.2 (ji11) p191 q191
                cases e191
                replace p191 := eq_true p191
                replace q191 := eq_true q191
                have p193 : 0 ≤ ((ji11) : Int) := M.dt
                have q193 : (ji11) < (x3_2.length : Int) := M.dt
                obtain ⟨ad193, e193, hx193_0⟩ := Kd.at_int (Kd.R_reads' zaa.out).2.2 (ji11) p193 q193
                obtain rfl : ad191 = ad193 := (by injection e193)
                replace p193 := eq_true p193
                replace q193 := eq_true q193
                have p195 : 0 ≤ ((ji11) : Int) := M.dt
                have q195 : (ji11) < (x3_2.length : Int) := M.dt
                obtain ⟨ad195, e195, hx195_0⟩ := Kd.at_int (Kd.R_reads' zaa.out).2.2 (ji11) p195 q195
                obtain rfl : ad191 = ad195 := (by injection e195)
                replace p195 := eq_true p195
                replace q195 := eq_true q195
                refine start_ (n := 21) (S := fun w' => w'.cell? (ad191.add ((ji11)).toNat) = some (.int .u32 (rd x3_2 (ji11))) ∧ w'.cell? (ad191.add ((ji11)).toNat) = some (.int .u32 (rd x3_2 (ji11))) ∧ w'.cell? (ad191.add ((ji11)).toNat) = some (.int .u32 (rd x3_2 (ji11)))) (ds := []) (M.tf [0, 21]) (by kernel_rfl) rfl rfl ⟨hx191_0, hx193_0, hx195_0⟩ (fun hHeld => ?_); refine with_tabW pleachref03_schedule_p.tab14 pleachref03_schedule_p.bits14 (fun HT_ HW_ => ?_)
                generalize wr.drew = w28 at zaa HB hx191_0 hx193_0 hx195_0 hHeld ⊢
                refine M.pu 0 36 [1, 20] HT_ ?_
                refine M.pu 1 37 [2, 19] HT_ ?_
                refine M.pu 2 38 [3, 18] HT_ ?_
                refine M.pu 3 39 [4, 17] HT_ ?_
                refine M.pu 6 42 [4, 2, 1, 14] HT_ ?_
                refine M.pu 7 43 [4, 2, 2, 13] HT_ ?_
                refine M.pu 8 44 [4, 2, 3, 12] HT_ ?_
                refine M.pu 9 45 [4, 2, 4, 11] HT_ ?_
                refine M.pu 13 49 [4, 2, 4, 3, 1, 7] HT_ ?_
                refine M.pu 14 50 [4, 2, 4, 3, 2, 6] HT_ ?_
                refine M.pu 15 51 [4, 2, 4, 3, 3, 5] HT_ ?_
                refine M.pu 16 52 [4, 2, 4, 3, 4, 4] HT_ ?_
                refine M.tk 4 40 [5, 1, 4, 3, 4, 4] HT_ HW_ hHeld ?_
                refine M.tk 10 46 [5, 1, 5, 2, 4, 4] HT_ HW_ hHeld ?_
                refine M.tk 17 53 [5, 1, 5, 2, 5, 3] HT_ HW_ hHeld ?_
                refine M.pu 18 54 [5, 1, 5, 2, 6, 2] HT_ ?_
                refine one_ (i := 5) (N := some 41) (M.tf [11, 2, 6, 2]) rfl rfl (one_of HT_.out (by kernel_rfl)) (by decide) (fun K hK => ?_)
                refine goes_ Tryd.func73 (by kernel_rfl) rfl #[.int .u32 (rd x3_2 (ji11)), .int .u64 7] (by rfl) rfl rfl (by (try simp only [List.map_toArray, List.map_cons, List.map_nil]); first | done | (simp only [hji11]; rfl) | rfl | (simp only [List.length_drop, List.length_take]; rfl)) ?_
                with_reducible refine (pleachref03_turn.calls (rd x3_2 (ji11)) 7 t192 _ A14.out).mono ?_
                rintro e w' ⟨rfl, ⟨nd, rfl⟩⟩
                refine ⟨_, rfl, ?_⟩
                refine hK.out _ _ ⟨hHeld.1, hHeld.2.1, hHeld.2.2⟩ (fun hHeld => ?_)
                clear hK K
                refine norm_ (a' := ?_) ?_ ?_
                rotate_left
                ·show Act.put _ (some 41) _ = _
                 simp only [Act.put, List.setIfInBounds_toArray, List.set_cons_zero, List.set_cons_succ, i64_w, i32_w]
                 rfl
                refine one_ (i := 11) (N := some 47) (M.tf [12, 1, 6, 2]) rfl rfl (one_of HT_.out (by kernel_rfl)) (by decide) (fun K hK => ?_)
                refine goes_ Tryd.func73 (by kernel_rfl) rfl #[.int .u32 (rd x3_2 (ji11)), .int .u64 18] (by rfl) rfl rfl (by (try simp only [List.map_toArray, List.map_cons, List.map_nil]); first | done | (simp only [hji11]; rfl) | rfl | (simp only [List.length_drop, List.length_take]; rfl)) ?_
                with_reducible refine (pleachref03_turn.calls (rd x3_2 (ji11)) 18 t194 _ A15.out).mono ?_
                rintro e w' ⟨rfl, ⟨nd, rfl⟩⟩
                refine ⟨_, rfl, ?_⟩
                refine hK.out _ _ ⟨hHeld.1, hHeld.2.1, hHeld.2.2⟩ (fun hHeld => ?_)
                clear hK K
                refine norm_ (a' := ?_) ?_ ?_
                rotate_left
                ·show Act.put _ (some 47) _ = _
                 simp only [Act.put, List.setIfInBounds_toArray, List.set_cons_zero, List.set_cons_succ, i64_w, i32_w]
                 rfl
                refine M.pu 12 48 [19, 2] HT_ ?_
                refine M.pu 19 55 [20, 1] HT_ ?_
                refine M.pu 20 8 [21] HT_ ?_
                refine done_ (done_of HT_.out (by kernel_rfl)) ?_
                try go_wp2
                (try (rw [drewN_self w28]; generalize hq_ : World.drewN w28 _ = w28; have n0_ : Aside0 (Kd.R (Kd.int .u32) 116 w28 w.heap.size (fun _ => True) (.slice (some ad191) x3_2.length co29) x3_2) := ⟨by rw [← hq_]; exact (M.ro zaa)⟩; have n1_ : Aside0 (Below w.heap.size w w28) := ⟨by rw [← hq_]; exact (M.up HB)⟩; clear zaa HB hq_; have zaa := n0_; have HB := n1_; clear n0_ n1_))
                replace zaa := Aside0.mk (Kd.R_drew zaa.out); replace HB := Aside0.mk (below_drew1 HB.out)
                have p196 : 0 ≤ ((ji16) : Int) := M.dt
                have q196 : (ji16) < (x3_2.length : Int) := M.dt
                obtain ⟨ad196, e196, hx196_0⟩ := Kd.at_int (Kd.R_reads' zaa.out).2.2 (ji16) p196 q196
                obtain rfl : ad191 = ad196 := (by injection e196)
                replace p196 := eq_true p196
                replace q196 := eq_true q196
                have p198 : 0 ≤ ((ji16) : Int) := M.dt
                have q198 : (ji16) < (x3_2.length : Int) := M.dt
                obtain ⟨ad198, e198, hx198_0⟩ := Kd.at_int (Kd.R_reads' zaa.out).2.2 (ji16) p198 q198
                obtain rfl : ad191 = ad198 := (by injection e198)
                replace p198 := eq_true p198
                replace q198 := eq_true q198
                have p200 : 0 ≤ ((ji16) : Int) := M.dt
                have q200 : (ji16) < (x3_2.length : Int) := M.dt
                obtain ⟨ad200, e200, hx200_0⟩ := Kd.at_int (Kd.R_reads' zaa.out).2.2 (ji16) p200 q200
                obtain rfl : ad191 = ad200 := (by injection e200)
                replace p200 := eq_true p200
                replace q200 := eq_true q200
                refine start_ (n := 21) (S := fun w' => w'.cell? (ad191.add ((ji16)).toNat) = some (.int .u32 (rd x3_2 (ji16))) ∧ w'.cell? (ad191.add ((ji16)).toNat) = some (.int .u32 (rd x3_2 (ji16))) ∧ w'.cell? (ad191.add ((ji16)).toNat) = some (.int .u32 (rd x3_2 (ji16)))) (ds := []) (M.tf [0, 21]) (by kernel_rfl) rfl rfl ⟨hx196_0, hx198_0, hx200_0⟩ (fun hHeld => ?_); refine with_tabW pleachref03_schedule_p.tab15 pleachref03_schedule_p.bits15 (fun HT_ HW_ => ?_)
                generalize w28.drew = w30 at zaa HB hx196_0 hx198_0 hx200_0 hHeld ⊢
                refine M.pu 0 56 [1, 20] HT_ ?_
                refine M.pu 1 57 [2, 19] HT_ ?_
                refine M.pu 2 58 [3, 18] HT_ ?_
                refine M.pu 3 59 [4, 17] HT_ ?_
                refine M.pu 6 62 [4, 2, 1, 14] HT_ ?_
                refine M.pu 7 63 [4, 2, 2, 13] HT_ ?_
                refine M.pu 8 64 [4, 2, 3, 12] HT_ ?_
                refine M.pu 9 65 [4, 2, 4, 11] HT_ ?_
                refine M.pu 13 69 [4, 2, 4, 3, 1, 7] HT_ ?_
                refine M.pu 14 70 [4, 2, 4, 3, 2, 6] HT_ ?_
                refine M.pu 15 71 [4, 2, 4, 3, 3, 5] HT_ ?_
                refine M.pu 16 72 [4, 2, 4, 3, 4, 4] HT_ ?_
                refine M.tk 4 60 [5, 1, 4, 3, 4, 4] HT_ HW_ hHeld ?_
                refine M.tk 10 66 [5, 1, 5, 2, 4, 4] HT_ HW_ hHeld ?_
                refine M.tk 17 73 [5, 1, 5, 2, 5, 3] HT_ HW_ hHeld ?_
                refine M.pu 18 74 [5, 1, 5, 2, 6, 2] HT_ ?_
                refine one_ (i := 5) (N := some 61) (M.tf [11, 2, 6, 2]) rfl rfl (one_of HT_.out (by kernel_rfl)) (by decide) (fun K hK => ?_)
                refine goes_ Tryd.func73 (by kernel_rfl) rfl #[.int .u32 (rd x3_2 (ji16)), .int .u64 17] (by rfl) rfl rfl (by (try simp only [List.map_toArray, List.map_cons, List.map_nil]); first | done | (simp only [hji16]; rfl) | rfl | (simp only [List.length_drop, List.length_take]; rfl)) ?_
                with_reducible refine (pleachref03_turn.calls (rd x3_2 (ji16)) 17 t197 _ A19.out).mono ?_
                rintro e w' ⟨rfl, ⟨nd, rfl⟩⟩
                refine ⟨_, rfl, ?_⟩
                refine hK.out _ _ ⟨hHeld.1, hHeld.2.1, hHeld.2.2⟩ (fun hHeld => ?_)
                clear hK K
                refine norm_ (a' := ?_) ?_ ?_
                rotate_left
                ·show Act.put _ (some 61) _ = _
                 simp only [Act.put, List.setIfInBounds_toArray, List.set_cons_zero, List.set_cons_succ, i64_w, i32_w]
                 rfl
                refine one_ (i := 11) (N := some 67) (M.tf [12, 1, 6, 2]) rfl rfl (one_of HT_.out (by kernel_rfl)) (by decide) (fun K hK => ?_)
                refine goes_ Tryd.func73 (by kernel_rfl) rfl #[.int .u32 (rd x3_2 (ji16)), .int .u64 19] (by rfl) rfl rfl (by (try simp only [List.map_toArray, List.map_cons, List.map_nil]); first | done | (simp only [hji16]; rfl) | rfl | (simp only [List.length_drop, List.length_take]; rfl)) ?_
                with_reducible refine (pleachref03_turn.calls (rd x3_2 (ji16)) 19 t199 _ A20.out).mono ?_
                rintro e w' ⟨rfl, ⟨nd, rfl⟩⟩
                refine ⟨_, rfl, ?_⟩
                refine hK.out _ _ ⟨hHeld.1, hHeld.2.1, hHeld.2.2⟩ (fun hHeld => ?_)
                clear hK K
                refine norm_ (a' := ?_) ?_ ?_
                rotate_left
                ·show Act.put _ (some 67) _ = _
                 simp only [Act.put, List.setIfInBounds_toArray, List.set_cons_zero, List.set_cons_succ, i64_w, i32_w]
                 rfl
                refine M.pu 12 68 [19, 2] HT_ ?_
                refine M.pu 19 75 [20, 1] HT_ ?_
                refine M.pu 20 9 [21] HT_ ?_
                refine done_ (done_of HT_.out (by kernel_rfl)) ?_
                try go_wp2
                (try (rw [drewN_self w30]; generalize hq_ : World.drewN w30 _ = w30; have n0_ : Aside0 (Kd.R (Kd.int .u32) 116 w30 w.heap.size (fun _ => True) (.slice (some ad191) x3_2.length co29) x3_2) := ⟨by rw [← hq_]; exact (M.ro zaa)⟩; have n1_ : Aside0 (Below w.heap.size w w30) := ⟨by rw [← hq_]; exact (M.up HB)⟩; clear zaa HB hq_; have zaa := n0_; have HB := n1_; clear n0_ n1_))
                replace zaa := Aside0.mk (Kd.R_drew zaa.out); replace HB := Aside0.mk (below_drew1 HB.out)
                have p201 : 0 ≤ ((ji21) : Int) := M.dt
                have q201 : (ji21) < (x3_2.length : Int) := M.dt
                obtain ⟨ad201, e201, hx201_0⟩ := Kd.at_int (Kd.R_reads' zaa.out).2.2 (ji21) p201 q201
                obtain rfl : ad191 = ad201 := (by injection e201)
                replace p201 := eq_true p201
                replace q201 := eq_true q201
                have p202 : 0 ≤ ((ji24) : Int) := M.dt
                have q202 : (ji24) < (x3_2.length : Int) := M.dt
                obtain ⟨ad202, e202, hx202_0⟩ := Kd.at_int (Kd.R_reads' zaa.out).2.2 (ji24) p202 q202
                obtain rfl : ad191 = ad202 := (by injection e202)
                replace p202 := eq_true p202
                replace q202 := eq_true q202
                refine start_ (n := 19) (S := fun w' => w'.cell? (ad191.add ((ji21)).toNat) = some (.int .u32 (rd x3_2 (ji21))) ∧ w'.cell? (ad191.add ((ji24)).toNat) = some (.int .u32 (rd x3_2 (ji24)))) (ds := [16, 17]) (M.tf [0, 19]) (by kernel_rfl) rfl rfl ⟨hx201_0, hx202_0⟩ (fun hHeld => ?_); refine with_tabW pleachref03_schedule_p.tab16 pleachref03_schedule_p.bits16 (fun HT_ HW_ => ?_)
                generalize w30.drew = w31 at zaa HB hx201_0 hx202_0 hHeld ⊢
                refine M.pu 0 76 [1, 18] HT_ ?_
                refine M.pu 1 77 [2, 17] HT_ ?_
                refine M.pu 2 78 [3, 16] HT_ ?_
                refine M.pu 3 79 [4, 15] HT_ ?_
                refine M.pu 4 80 [5, 14] HT_ ?_
                refine M.pu 5 81 [6, 13] HT_ ?_
                refine M.pu 8 84 [6, 2, 1, 10] HT_ ?_
                refine M.pu 10 86 [6, 2, 1, 1, 1, 8] HT_ ?_
                refine M.pu 11 87 [6, 2, 1, 1, 2, 7] HT_ ?_
                refine M.pu 12 88 [6, 2, 1, 1, 3, 6] HT_ ?_
                refine M.pu 13 89 [6, 2, 1, 1, 4, 5] HT_ ?_
                refine M.tk 6 82 [7, 1, 1, 1, 4, 5] HT_ HW_ hHeld ?_
                refine M.pu 7 83 [9, 1, 4, 5] HT_ ?_
                refine M.pu 9 85 [14, 5] HT_ ?_
                refine M.tk 14 90 [15, 4] HT_ HW_ hHeld ?_
                refine M.pu 15 91 [16, 3] HT_ ?_
                refine last_ (i := 16) (N := some 92) (M.tf [17, 2]) rfl rfl (one_of HT_.out (by kernel_rfl)) (by decide) (fun K hK => ?_)
                refine value_ (w1 := ?_) (v := ?_) (by rfl) rfl ?_ ?_
                rotate_left 2
                ·go_simp
                 constructor
                 ·rfl
                 ·rfl
                refine hK.out _ _ ?_
                clear hK K
                refine norm_ (a' := ?_) ?_ ?_
                rotate_left
                ·show Act.put _ (some 92) _ = _
                 simp only [Act.put, List.setIfInBounds_toArray, List.set_cons_zero, List.set_cons_succ, i64_w, i32_w]
                 rfl
                refine last_ (i := 17) (N := some 93) (M.tf [18, 1]) rfl rfl (one_of HT_.out (by kernel_rfl)) (by decide) (fun K hK => ?_)
                refine Kd.R_append_step (Kd.int .u32) (w0 := w) w.heap.size (by rfl) (.tmp 76) (.tmp 92) 117 116 (.int .u32 0) 4 rfl Tryd.underlying117 info116 rfl (by decide) (by omega) (.slice (some ad191) x3_2.length co29) x3_2 (((((((Go.bits .xor .u32 (Go.bits .xor .u32 t197 t199) ((rd x3_2 (ji16)) / 1024)) + (rd x3_2 (ji21))) % 4294967296) + (Go.bits .xor .u32 (Go.bits .xor .u32 t192 t194) ((rd x3_2 (ji11)) / 8))) % 4294967296) + (rd x3_2 (ji24))) % 4294967296) [.int .u32 (((((((Go.bits .xor .u32 (Go.bits .xor .u32 t197 t199) ((rd x3_2 (ji16)) / 1024)) + (rd x3_2 (ji21))) % 4294967296) + (Go.bits .xor .u32 (Go.bits .xor .u32 t192 t194) ((rd x3_2 (ji11)) / 8))) % 4294967296) + (rd x3_2 (ji24))) % 4294967296)] (fun _ => True) (fun _ => False) rfl rfl ?aP (fun _ hk => hk.elim) ?aF ?aO ?aB ?aS ?aL ?_
                (case aP => exact rfl)
                (case aB => exact (M.up HB))
                (case aF => exact (fun _ _ => trivial))
                (case aO => exact (M.ro zaa))
                (case aS => exact (below_size (M.up HB)))
                (case aL => have := LMc27.out; omega)
                intro v204 w32 ho hb hg hat
                rw [← Ny203.out] at ho
                replace HB := Aside0.mk (hb); have HO205 := Aside0.mk (ho); clear zaa
                clear ho hb hg hat
                refine hK.out _ _ ?_
                clear hK K
                refine norm_ (a' := ?_) ?_ ?_
                rotate_left
                ·show Act.put _ (some 93) _ = _
                 simp only [Act.put, List.setIfInBounds_toArray, List.set_cons_zero, List.set_cons_succ, i64_w, i32_w]
                 rfl
                refine M.pu 18 3 [19] HT_ ?_
                refine done_ (done_of HT_.out (by kernel_rfl)) ?_
                try go_wp2
                go_roundg k2
                case measure => have := HK1.out; have := HK2.out; omega
                case rel => exact ⟨(y203), (wrap64 (x7_2 + 1)), M.eqv, H', ⟨by have := HK1.out; have := HK2.out; omega⟩, ⟨by (with_reducible repeat (first | apply Kd.R_alloc | apply Kd.R_drewN | apply Kd.R_drew)); exact HO205.out⟩, ⟨M.up HB⟩⟩
               ·exact M.nf c27 H
              ·exact M.nf c26 H
             ·exact M.nf c25 H
            ·exact M.nf c23 H
           ·exact M.nf c22 H
          ·exact M.nf c18 H
         ·exact M.nf c17 H
        ·exact M.nf c13 H
       ·exact M.nf c12 H
      ·rw [if_neg c10] at H
       have c10b0 := decide_eq_false c10
       clear c10
       obtain rfl := Option.some.inj H
       go_wp2
       go_ret
       exact ⟨_, M.eqe, by (with_reducible repeat (first | apply Kd.R_alloc | apply Kd.R_drewN | apply Kd.R_drew)); exact zaa.out, M.up HB⟩
def pleachref03_schedule.f (b : ByteArray) : Option (List Int) := if b.size = 64 then some (M.nums32 (M.sched (M.bs b) 64)) else none
theorem pleachref03_schedule.byte (b : ByteArray) (hb : b.size = 64) (j : Nat) (hj : j < 64) : bt b (j : Int) = ((((M.bs b).getD j 0).toNat : Nat) : Int) := by
 rw [M.bt_bs b j (by rw [M.bs_length]; omega)]
 simp [List.getD, M.bs_length, hb, hj]
theorem pleachref03_schedule.step1 (b : ByteArray) (hb : b.size = 64) (w : List Int) (i : Nat) (hi : i < 16) (F x k : Nat) (hk : k < 4) (hx : x < 16777216) :
    pleachref03_schedule_p.l1 (F + 1) b w (i : Int) (x : Int) (k : Int) = pleachref03_schedule_p.l1 F b w (i : Int) ((x * 256 + ((M.bs b).getD (4 * i + k) 0).toNat : Nat) : Int) ((k + 1 : Nat) : Int) := by
 have e1 : wrap64 (wrap64 (4 * (i : Int)) + (k : Int)) = ((4 * i + k : Nat) : Int) := by rw [M.wrap64_id (i := 4 * (i : Int)) (by omega) (by omega), M.wrap64_id (by omega) (by omega)]; omega
 have hB := UInt8.toNat_lt ((M.bs b).getD (4 * i + k) 0)
 rw [pleachref03_schedule_p.l1, if_pos (by omega), e1, if_pos (by omega), if_pos (by omega), pleachref03_schedule.byte b hb _ (by omega), M.wrap64_id (by omega) (by omega)]
 congr 1
 omega
theorem pleachref03_schedule.loop1 (b : ByteArray) (hb : b.size = 64) (w : List Int) (hw : w.length < 100) (i : Nat) (hi : i < 16) (F : Nat) :
    pleachref03_schedule_p.l1 (F + 5) b w (i : Int) 0 0 = pleachref03_schedule_p.l0 F b (w ++ [((M.word (M.bs b) i : Nat) : Int)]) ((i + 1 : Nat) : Int) := by
 have b0 := UInt8.toNat_lt ((M.bs b).getD (4 * i + 0) 0)
 have b1 := UInt8.toNat_lt ((M.bs b).getD (4 * i + 1) 0)
 have b2 := UInt8.toNat_lt ((M.bs b).getD (4 * i + 2) 0)
 have h0 := pleachref03_schedule.step1 b hb w i hi (F + 4) 0 0 (by omega) (by omega)
 have h1 := pleachref03_schedule.step1 b hb w i hi (F + 3) (0 * 256 + ((M.bs b).getD (4 * i + 0) 0).toNat) 1 (by omega) (by omega)
 have h2 := pleachref03_schedule.step1 b hb w i hi (F + 2) ((0 * 256 + ((M.bs b).getD (4 * i + 0) 0).toNat) * 256 + ((M.bs b).getD (4 * i + 1) 0).toNat) 2 (by omega) (by omega)
 have h3 := pleachref03_schedule.step1 b hb w i hi (F + 1) (((0 * 256 + ((M.bs b).getD (4 * i + 0) 0).toNat) * 256 + ((M.bs b).getD (4 * i + 1) 0).toNat) * 256 + ((M.bs b).getD (4 * i + 2) 0).toNat) 3 (by omega) (by omega)
 refine h0.trans (h1.trans (h2.trans (h3.trans ?_)))
 rw [pleachref03_schedule_p.l1, if_neg (by omega), if_pos (by omega), M.wrap64_id (by omega) (by omega)]
 have e : (((0 * 256 + ((M.bs b).getD (4 * i + 0) 0).toNat) * 256 + ((M.bs b).getD (4 * i + 1) 0).toNat) * 256 + ((M.bs b).getD (4 * i + 2) 0).toNat) * 256 + ((M.bs b).getD (4 * i + 3) 0).toNat = M.word (M.bs b) i := by
  unfold M.word
  rw [Nat.add_zero]; omega
 rw [e]
 rfl
theorem pleachref03_schedule.loop0 (b : ByteArray) (hb : b.size = 64) (F : Nat) : ∀ (d i : Nat), i + d = 16 →
    pleachref03_schedule_p.l0 (6 * d + F + 1) b (M.nums32 (M.sched (M.bs b) i)) (i : Int) = pleachref03_schedule_p.l2 F (M.nums32 (M.sched (M.bs b) 16)) 16 := by
 intro d
 induction d with
 | zero =>
  intro i hi
  obtain rfl : i = 16 := by omega
  rw [show 6 * 0 + F + 1 = F + 1 from by omega, pleachref03_schedule_p.l0, if_neg (by omega)]
 | succ d ih =>
  intro i hi
  rw [show 6 * (d + 1) + F + 1 = (6 * d + F + 1 + 5) + 1 from by omega, pleachref03_schedule_p.l0, if_pos (by omega)]
  rw [pleachref03_schedule.loop1 b hb _ (by simp [M.nums32, M.sched_len]; omega) i (by omega)]
  have e : M.nums32 (M.sched (M.bs b) i) ++ [((M.word (M.bs b) i : Nat) : Int)] = M.nums32 (M.sched (M.bs b) (i + 1)) := by
   rw [M.sched, if_pos (by omega)]; simp [M.nums32]
  rw [e]
  exact ih (i + 1) (by omega)
theorem pleachref03_schedule.get (l : List Nat) (i : Nat) : rd (M.nums32 l) (i : Int) = ((l.getD i 0 : Nat) : Int) := by
 unfold rd M.nums32
 rw [Int.toNat_natCast]
 simp only [List.getD_eq_getElem?_getD, List.getElem?_map]
 cases l[i]? <;> rfl
theorem pleachref03_schedule.loop2 (b : ByteArray) (F : Nat) : ∀ (d i : Nat), i + d = 64 → 16 ≤ i →
    pleachref03_schedule_p.l2 (d + F + 1) (M.nums32 (M.sched (M.bs b) i)) (i : Int) = some (M.nums32 (M.sched (M.bs b) 64)) := by
 intro d
 induction d with
 | zero =>
  intro i hi _
  obtain rfl : i = 64 := by omega
  rw [show 0 + F + 1 = F + 1 from by omega, pleachref03_schedule_p.l2, if_neg (by omega)]
 | succ d ih =>
  intro i hi h16
  have hl : (M.nums32 (M.sched (M.bs b) i)).length = i := by simp [M.nums32, M.sched_len]
  have k15 := M.sched_lt (M.bs b) i (i - 15)
  have k2 := M.sched_lt (M.bs b) i (i - 2)
  have k7 := M.sched_lt (M.bs b) i (i - 7)
  have k16 := M.sched_lt (M.bs b) i (i - 16)
  have w15 : wrap64 ((i : Int) - 15) = ((i - 15 : Nat) : Int) := by rw [M.wrap64_id (by omega) (by omega)]; omega
  have w2 : wrap64 ((i : Int) - 2) = ((i - 2 : Nat) : Int) := by rw [M.wrap64_id (by omega) (by omega)]; omega
  have w7 : wrap64 ((i : Int) - 7) = ((i - 7 : Nat) : Int) := by rw [M.wrap64_id (by omega) (by omega)]; omega
  have w16 : wrap64 ((i : Int) - 16) = ((i - 16 : Nat) : Int) := by rw [M.wrap64_id (by omega) (by omega)]; omega
  rw [show d + 1 + F + 1 = (d + F + 1) + 1 from by omega, pleachref03_schedule_p.l2, if_pos (by omega), w15, w2, w7, w16, hl, if_pos (by omega), if_pos (by omega)]
  rw [pleachref03_schedule.get, pleachref03_schedule.get, pleachref03_schedule.get, pleachref03_schedule.get]
  have hs : M.sched (M.bs b) (i + 1) = M.sched (M.bs b) i ++ [((M.sched (M.bs b) i).getD (i - 16) 0 + M.sg0 ((M.sched (M.bs b) i).getD (i - 15) 0) + (M.sched (M.bs b) i).getD (i - 7) 0 + M.sg1 ((M.sched (M.bs b) i).getD (i - 2) 0)) % 4294967296] := by
   rw [M.sched, if_neg (by omega)]
  generalize hx15 : (M.sched (M.bs b) i).getD (i - 15) 0 = y15 at *
  generalize hx2 : (M.sched (M.bs b) i).getD (i - 2) 0 = y2 at *
  generalize hx7 : (M.sched (M.bs b) i).getD (i - 7) 0 = y7 at *
  generalize hx16 : (M.sched (M.bs b) i).getD (i - 16) 0 = y16 at *
  rw [pleachref03_turn.eq_ y15 7 k15 (by decide) (by decide), Option.bind_some, pleachref03_turn.eq_ y15 18 k15 (by decide) (by decide), Option.bind_some, if_pos (by omega), if_pos (by omega)]
  rw [pleachref03_turn.eq_ y2 17 k2 (by decide) (by decide), Option.bind_some, pleachref03_turn.eq_ y2 19 k2 (by decide) (by decide), Option.bind_some, if_pos (by omega), if_pos (by omega), if_pos (by omega), if_pos (by omega), if_pos (by omega)]
  have e0 : Go.bits .xor .u32 (Go.bits .xor .u32 ((M.rotr y15 (7 : Int).toNat : Nat) : Int) ((M.rotr y15 (18 : Int).toNat : Nat) : Int)) ((y15 : Int) / 8) = ((M.sg0 y15 : Nat) : Int) := by
   rw [M.xor32 (M.rotr_lt k15) (M.rotr_lt k15), show ((y15 : Int) / 8) = ((y15 / 8 : Nat) : Int) from by omega, M.xor32 (M.xor_lt (M.rotr_lt k15) (M.rotr_lt k15)) (by omega)]
   rfl
  have e1 : Go.bits .xor .u32 (Go.bits .xor .u32 ((M.rotr y2 (17 : Int).toNat : Nat) : Int) ((M.rotr y2 (19 : Int).toNat : Nat) : Int)) ((y2 : Int) / 1024) = ((M.sg1 y2 : Nat) : Int) := by
   rw [M.xor32 (M.rotr_lt k2) (M.rotr_lt k2), show ((y2 : Int) / 1024) = ((y2 / 1024 : Nat) : Int) from by omega, M.xor32 (M.xor_lt (M.rotr_lt k2) (M.rotr_lt k2)) (by omega)]
   rfl
  rw [e0, e1, M.wrap64_id (by omega) (by omega)]
  have e2 : M.nums32 (M.sched (M.bs b) i) ++ [((((M.sg1 y2 : Nat) : Int) + (y7 : Int)) % 4294967296 + ((M.sg0 y15 : Nat) : Int)) % 4294967296 + (y16 : Int)].map (· % 4294967296) = M.nums32 (M.sched (M.bs b) (i + 1)) := by
   rw [hs]
   simp only [M.nums32, List.map_append, List.map_cons, List.map_nil]
   congr 2
   omega
  have := ih (i + 1) (by omega) (by omega)
  rw [← e2] at this
  exact this
theorem pleachref03_schedule.ev (b : ByteArray) (r : List Int) (h : pleachref03_schedule.f b = some r) : ∃ k, pleachref03_schedule_p.f k b = some r := by
 unfold pleachref03_schedule.f at h
 split at h
 case isFalse => cases h
 case isTrue hb =>
  refine ⟨6 * 16 + (48 + 0 + 1) + 1, ?_⟩
  rw [← h]
  unfold pleachref03_schedule_p.f
  exact (pleachref03_schedule.loop0 b hb (48 + 0 + 1) 16 0 rfl).trans (pleachref03_schedule.loop2 b 0 48 16 rfl (Nat.le_refl _))
theorem pleachref03_schedule.calls (a0 : ByteArray) (r : List Int) (w : World) (h : pleachref03_schedule.f a0 = some r) :
    Calls Tryd.prog 72 #[.string a0] w fun e w' => ∃ v0_ : Value, e = .returned (v0_) ∧ Kd.R (Kd.int .u32) 116 w' w.heap.size (fun _ => True) v0_ r ∧ Below w.heap.size w w' := by
 obtain ⟨k, hk⟩ := pleachref03_schedule.ev _ _ h
 exact pleachref03_schedule_p.calls (k := k) (w := w) (h := hk)
end Go.Proofs.YtikdbklmhjlfoaaDoor.ECommitKnots
