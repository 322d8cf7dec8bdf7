-- Written by this session's own program (wip/tools/ext.py) for this claim; Lean checks it.
import Derived.Test.YtaooolfledfhoaaEVarintRowsx0
namespace Go.Proofs.Ytaooolfledfhoaa.EVarintRows
open Go.RowKit Go.Proofs.YtaooolfledfhoaaW.PrintWords Go.Proofs.YtaooolfledfhoaaW.PrintLast Go.Proofs.YtaooolfledfhoaaW.PrintMore
attribute [local go_sem] M.run_leq M.run_gtr M.run_geq max2_int min2_int max_two min_two max_three min_three max_four min_four   -- for this text's walks alone
set_option linter.unusedVariables false
set_option linter.unusedSimpArgs false

/-! ### varint_Put: function 8 -/
def varint_Put.f (a0 : Int) : Option ByteArray := if 0 ≤ a0 ∧ a0 < 18446744073709551616 then some (M.sb (M.vb a0.toNat)) else none

def varint_Put.inv (W w : World) (a0 : Nat) (m k : Nat) (pre : List Int) : Prop :=
  k ≤ 9 ∧ pre.length = k ∧ m < 2 * 128 ^ (9 - k) ∧ pre ++ M.vput m = M.vput a0 ∧
  W.ownsRow w.heap.size 43 1 (.slice (some ⟨w.heap.size, 0, none⟩) 10 10) 10 (nums .u8 (pre ++ List.replicate (10 - k) 0)) ∧ Below w.heap.size w W

theorem varint_Put.slice_ (b k : Nat) (hk : k ≤ 9) (W : World) :
    (Instr.sliceAt 43 (.pointer (some ⟨b, 0, none⟩)) none (some (.int .i64 ((k : Int) + 1))) none).run Try.prog W = .ok (.slice (some ⟨b, 0, none⟩) (k + 1) 10) W := by
  have ha : Try.prog.arrayLen 43 = 10 := by kernel_rfl
  rw [run_sliceAt_array_h W 43 _ (by kernel_rfl) .i64 _ (by omega) (by rw [ha]; omega), ha]
  have hs : (sizeOf (Try.prog.elem 43)).run Try.prog W = .ok 1 W := by kernel_rfl
  rw [hs]
  simp [Result.andThen, slicedAt, add_plain]

set_option maxHeartbeats 1000000 in
theorem varint_Put.nat (a0 : Nat) (w : World) (h1 : a0 < 18446744073709551616) :
    Calls Try.prog 8 #[.int .u64 a0] w fun e w' => e = .returned (.string (strOfNums (M.vput a0))) ∧ Below w.heap.size w w' := by
  go_enter Try.func8, Try.ntmps8
  go_wp2
  go_loopw [0, 4] (fun n i wr => ∃ (m k : Nat) (pre : List Int), n = .int .u64 m ∧ i = .int .i64 k ∧ varint_Put.inv wr w a0 m k pre) (fun n _ _ => (intOf n).toNat)
  case atStart =>
    refine ⟨a0, 0, [], rfl, rfl, Nat.zero_le _, rfl, by simpa using h1, rfl, ?_, below_alloc (Below.refl _ _) _⟩
    exact World.ownsRow_lit (base := w.heap.size) (e := 43) (size := 1) w #[Value.int IntKind.u8 0, Value.int IntKind.u8 0, Value.int IntKind.u8 0, Value.int IntKind.u8 0, Value.int IntKind.u8 0, Value.int IntKind.u8 0, Value.int IntKind.u8 0, Value.int IntKind.u8 0, Value.int IntKind.u8 0, Value.int IntKind.u8 0] 10 (Nat.le_refl _) (by decide) rfl
  case round =>
    obtain ⟨m, k, pre, rfl, rfl, hk, hl, hm, he, ho, hb⟩ := hrel
    obtain ⟨hc, hf⟩ := own_at ho (k : Int) (by omega) (by omega)
    have hm64 := M.put_m64 hm
    by_cases hlt : m < 128
    · have ht : decide ((m : Int) ≥ 128) = false := by simp; omega
      have hs := own_store ho (k : Int) ((m : Nat) : Int)
      rw [M.put_set pre k _ hk hl] at hs
      have ht2 := own_take (m := k + 1) hs.1 (by omega)
      have hconv := own_string (P := Try.prog) (src := 45) (dst := 9) (e := 5) (xs := (pre ++ [(m : Int)])) (by kernel_rfl) (by kernel_rfl) (by kernel_rfl) (by
        have e : List.take ((k + 1) * 1) (nums .u8 (pre ++ [(m : Int)] ++ List.replicate (10 - (k + 1)) 0)) = nums .u8 (pre ++ [(m : Int)]) := by
          rw [nums_append, Nat.mul_one, List.take_left' (by simp [nums, hl])]
        rw [e] at ht2; exact ht2)
      rw [← M.vput_low hlt, he] at hconv
      have hb' : Below w.heap.size w (wr.setCell ⟨w.heap.size, (k : Int).toNat, none⟩ (.int .u8 m)) := pw_below_grown hb _ hb.size hs.2 (fun q hq => by cases hq; exact Nat.le_refl _)
      have hsl := fun W => varint_Put.slice_ w.heap.size k hk W
      rw [Int.toNat_natCast] at hc hf hconv hb'
      clear ht2 hl he hs ho hm
      go_wp2
      go_ret
      exact ⟨rfl, hb'⟩
    · have ht : decide ((m : Int) ≥ 128) = true := by simp; omega
      obtain ⟨hk8, hm8⟩ := M.put_bound hk hm hlt
      have hs := own_store ho (k : Int) ((m % 128 + 128 : Nat) : Int)
      rw [M.put_set pre k _ hk hl] at hs
      have hb' : Below w.heap.size w (wr.setCell ⟨w.heap.size, (k : Int).toNat, none⟩ (.int .u8 ((m % 128 + 128 : Nat) : Int))) := pw_below_grown hb _ hb.size hs.2 (fun q hq => by cases hq; exact Nat.le_refl _)
      rw [Int.toNat_natCast] at hc hf hb' hs
      have HH : varint_Put.inv (wr.setCell ⟨w.heap.size, k, none⟩ (.int .u8 ((m % 128 + 128 : Nat) : Int))) w a0 (m / 128) (k + 1) (pre ++ [((m % 128 + 128 : Nat) : Int)]) :=
        ⟨hk8, by simp [hl], hm8, by rw [← he, M.vput_high hlt]; simp, hs.1, hb'⟩
      clear hs hb' hl he ho hm hm8
      have H := Aside0.mk HH
      clear HH
      have hor := M.or128 m
      go_wp2
      go_roundw
      case rel => exact ⟨m / 128, k + 1, _, by go_num, by go_num, H.out⟩
      case measure => simp [intOf]; omega

theorem varint_Put.calls (a0 : Int) (r : ByteArray) (w : World) (h : varint_Put.f a0 = some r) :
    Calls Try.prog 8 #[.int .u64 a0] w fun e w' => e = .returned (.string r) ∧ Below w.heap.size w w' := by
  unfold varint_Put.f at h
  split at h
  · rename_i hh
    obtain ⟨n, rfl⟩ := Int.eq_ofNat_of_zero_le hh.1
    obtain rfl := Option.some.inj h
    have := varint_Put.nat n w (by omega)
    rw [M.vput_vb] at this
    exact this
  · cases h

/-! ### varint_Get_p: function 9 -/
mutual
def varint_Get_p.l0 : Nat → ByteArray → Int → Int → Int → Option (Int × Int × Bool)
  | 0, _, _, _, _ => none
  | k + 1, x0, x2, x9, x10 => if x10 < x9 then (if 0 ≤ x10 then (if x10 < (x0.size : Int) then (if x10 = 9 then (varint_Get_p.j1 k x0 x2 x10 (IntKind.u64.wrap (bt x0 x10)) x9 x10 (decide ((IntKind.u64.wrap (bt x0 x10)) > 1))) else (varint_Get_p.j1 k x0 x2 x10 (IntKind.u64.wrap (bt x0 x10)) x9 x10 false)) else (none)) else (none)) else (some (0, 0, false))
def varint_Get_p.j1 : Nat → ByteArray → Int → Int → Int → Int → Int → Bool → Option (Int × Int × Bool)
  | 0, _, _, _, _, _, _, _ => none
  | k + 1, x0, x2, x5, x6, x9, x10, x22 => if x22 = true then (some (0, 0, false)) else (if 0 ≤ (wrap64 (7 * x5)) then (if x6 ≥ 128 then (varint_Get_p.l0 k x0 (Go.bits .or .u64 x2 (shl .u64 (Go.bits .and .u64 x6 127) (wrap64 (7 * x5)))) x9 (wrap64 (x10 + 1))) else (if x6 = 0 then (if x5 > 0 then (some (0, 0, false)) else (some (Go.bits .or .u64 x2 (shl .u64 (Go.bits .and .u64 x6 127) (wrap64 (7 * x5))), wrap64 (x5 + 1), true))) else (some (Go.bits .or .u64 x2 (shl .u64 (Go.bits .and .u64 x6 127) (wrap64 (7 * x5))), wrap64 (x5 + 1), true)))) else (none))
end
def varint_Get_p.f (k : Nat) (a0 : ByteArray) : Option (Int × Int × Bool) := varint_Get_p.l0 k a0 0 (mn (a0.size : Int) 10) 0
theorem varint_Get_p.mono_l : ∀ k, (∀ y0 y1 y2 y3, LeO (varint_Get_p.l0 k y0 y1 y2 y3) (varint_Get_p.l0 (k + 1) y0 y1 y2 y3)) ∧ (∀ y0 y1 y2 y3 y4 y5 y6, LeO (varint_Get_p.j1 k y0 y1 y2 y3 y4 y5 y6) (varint_Get_p.j1 (k + 1) y0 y1 y2 y3 y4 y5 y6))
  | 0 => ⟨fun _ _ _ _ r h => by simp [varint_Get_p.l0] at h, fun _ _ _ _ _ _ _ r h => by simp [varint_Get_p.j1] at h⟩
  | k + 1 => by
    obtain ⟨ih0, ih1⟩ := varint_Get_p.mono_l k
    refine ⟨?_, ?_⟩
    · intro y0 y1 y2 y3
      unfold varint_Get_p.l0
      repeat' first
      | (with_reducible exact ih0 _ _ _ _)
      | (with_reducible exact ih1 _ _ _ _ _ _ _)
      | (with_reducible exact LeO.refl _)
      | (with_reducible exact LeO.none _)
      | (with_reducible refine LeO.ite ?_ ?_)
      | (with_reducible refine LeO.bind ?_ (fun _ => ?_))
      | exact ih0 _ _ _ _
      | exact ih1 _ _ _ _ _ _ _
      | exact LeO.none _
      | refine LeO.ite ?_ ?_
      | refine LeO.bind ?_ (fun _ => ?_)
    · intro y0 y1 y2 y3 y4 y5 y6
      unfold varint_Get_p.j1
      repeat' first
      | (with_reducible exact ih0 _ _ _ _)
      | (with_reducible exact ih1 _ _ _ _ _ _ _)
      | (with_reducible exact LeO.refl _)
      | (with_reducible exact LeO.none _)
      | (with_reducible refine LeO.ite ?_ ?_)
      | (with_reducible refine LeO.bind ?_ (fun _ => ?_))
      | exact ih0 _ _ _ _
      | exact ih1 _ _ _ _ _ _ _
      | exact LeO.none _
      | refine LeO.ite ?_ ?_
      | refine LeO.bind ?_ (fun _ => ?_)
theorem varint_Get_p.mono : ∀ a0 k, LeO (varint_Get_p.f k a0) (varint_Get_p.f (k + 1) a0) := by
  intro a0 k
  obtain ⟨ih0, ih1⟩ := varint_Get_p.mono_l k
  unfold varint_Get_p.f
  repeat' first
      | (with_reducible exact ih0 _ _ _ _)
      | (with_reducible exact ih1 _ _ _ _ _ _ _)
      | (with_reducible exact LeO.refl _)
      | (with_reducible exact LeO.none _)
      | (with_reducible refine LeO.ite ?_ ?_)
      | (with_reducible refine LeO.bind ?_ (fun _ => ?_))
      | exact ih0 _ _ _ _
      | exact ih1 _ _ _ _ _ _ _
      | exact LeO.none _
      | refine LeO.ite ?_ ?_
      | refine LeO.bind ?_ (fun _ => ?_)
set_option maxHeartbeats 8000000 in
set_option maxRecDepth 100000 in
theorem varint_Get_p.calls (k : Nat) (a0 : ByteArray) (r1 : Int) (r2 : Int) (r3 : Bool) (w : World) (h : varint_Get_p.f k a0 = some (r1, r2, r3)) :
    Calls Try.prog 9 #[.string a0] w fun e w' => e = .returned (.tuple #[.int .u64 r1, .int .i64 r2, .bool r3]) ∧ Below w.heap.size w w' := by
  have HB := Aside0.mk (Below.refl w.heap.size w)
  have H : (varint_Get_p.l0 k a0 0 (mn (a0.size : Int) 10) 0) = some (r1, r2, r3) := h
  clear h
  obtain ⟨ji2, hji2⟩ : ∃ j_ : Int, (mn (a0.size : Int) 10) = j_ := ⟨_, rfl⟩
  replace H : (varint_Get_p.l0 k a0 0 ji2 0) = some (r1, r2, r3) := by first | (rw [hji2] at H; exact H) | (simp only [hji2] at H ⊢; exact H)
  (try (have hji2h : ji2 ≤ 10 := by (rw [← hji2]; unfold mn; (repeat' split) <;> omega)))
  (try (have hji2g : ji2 ≤ 64 := by omega))
  (try (have hji2l : 0 ≤ ji2 := by (rw [← hji2]; unfold mn; (repeat' split) <;> omega)))
  (try (have hji2m : 0 ≤ ji2 := by omega))
  have hji2_ : (if 10 < (a0.size : Int) then 10 else (a0.size : Int)) = ji2 := hji2
  have H' := Aside0.mk H
  clear H
  go_enter Try.func9, Try.ntmps9
  go_wp2
  go_loopg [2, 10] k (fun kq v2 v10 w' => ∃ (x2_1 : Int) (x10_1 : Int), v2 = .int .u64 x2_1 ∧ v10 = .int .i64 x10_1 ∧ Aside0 (varint_Get_p.l0 kq a0 x2_1 ji2 x10_1 = some (r1, r2, r3)) ∧ Aside0 (kq ≤ k) ∧ Aside0 (Below w.heap.size w w'))
  case atStart => exact ⟨(0), (0), (by first | rfl | (simp; done) | (simp [*]; done) | (simp [M.isEmpty_bne]; done)), (by first | rfl | (simp; done) | (simp [*]; done) | (simp [M.isEmpty_bne]; done)), H', ⟨Nat.le_refl _⟩, ⟨M.up HB⟩⟩
  case round =>
    clear H'
    try clear p2
    obtain ⟨x2_1, x10_1, rfl, rfl, HA, HK1, HB⟩ := hrel
    cases gk with
    | zero => exact absurd HA.out (by simp [varint_Get_p.l0])
    | succ k1 =>
      have H := HA.out
      clear HA
      simp only [varint_Get_p.l0] at H
      by_cases c3 : x10_1 < ji2
      · rw [if_pos c3] at H
        have c3b0 : decide (x10_1 < ji2) = true := decide_eq_true c3
        clear c3
        by_cases c4 : 0 ≤ x10_1
        · rw [if_pos c4] at H
          have c4b0 : decide (0 ≤ x10_1) = true := decide_eq_true c4
          clear c4
          by_cases c5 : x10_1 < (a0.size : Int)
          · rw [if_pos c5] at H
            have c5b0 : decide (x10_1 < (a0.size : Int)) = true := decide_eq_true c5
            clear c5
            have HC7 := Aside0.mk H
            clear H
            have p6 : 0 ≤ (x10_1 : Int) := of_decide_eq_true (by first | (with_reducible assumption) | assumption)
            have q6 : x10_1 < (a0.size : Int) := of_decide_eq_true (by first | (with_reducible assumption) | assumption)
            have hx6 := bt_at a0 x10_1
            replace p6 := eq_true p6
            replace q6 := eq_true q6
            go_upto_region 5 with (fail)
            go_cut [22] (fun v22 wc => ∃ (kq : Nat) (x22_6 : Bool), v22 = .bool x22_6 ∧ Aside0 (varint_Get_p.j1 kq a0 x2_1 x10_1 (IntKind.u64.wrap (bt a0 x10_1)) ji2 x10_1 x22_6 = some (r1, r2, r3)) ∧ Aside0 (kq ≤ k1) ∧ Aside0 (Below w.heap.size w wc))
            case first =>
              have H := HC7.out
              clear HC7
              by_cases c8 : x10_1 = 9
              · rw [if_pos c8] at H
                have c8b0 : (x10_1 == 9) = true := beq_iff_eq.mpr c8
                have c8b1 : (x10_1 != 9) = false := bne_eq_false_iff_eq.mpr c8
                clear c8
                (first | rw [c8b0] | (simp only [i64_w, i32_w]; rw [c8b0]) | skip)
                have H' := Aside0.mk H
                clear H
                go_wp2
                go_meet
                case rel => exact ⟨_, (decide ((IntKind.u64.wrap (bt a0 x10_1)) > 1)), (by first | rfl | (simp; done) | (simp [*]; done) | (simp [M.isEmpty_bne]; done)), H', ⟨by have := HK1.out; first | omega | exact Nat.le_refl _⟩, ⟨M.up HB⟩⟩
              · rw [if_neg c8] at H
                have c8b0 : (x10_1 == 9) = false := beq_eq_false_iff_ne.mpr c8
                have c8b1 : (x10_1 != 9) = true := bne_iff_ne.mpr c8
                (first | rw [c8b0] | (simp only [i64_w, i32_w]; rw [c8b0]) | skip)
                have H' := Aside0.mk H
                clear H
                go_wp2
                go_meet
                case rel => exact ⟨_, (false), (by first | rfl | (simp; done) | (simp [*]; done) | (simp [M.isEmpty_bne]; done)), H', ⟨by have := HK1.out; first | omega | exact Nat.le_refl _⟩, ⟨M.up HB⟩⟩
            case rest =>
              clear HC7
              try clear p2
              try clear c3
              try clear c3b0
              try clear c4
              try clear c4b0
              try clear c5
              try clear c5b0
              try clear p6
              try clear q6
              try clear hx6
              try clear c8
              try clear c8b0
              try clear c8b1
              try clear p2
              try clear p6
              try clear q6
              obtain ⟨kq, x22_6, rfl, HA, HJ6, HB⟩ := hcut
              cases kq with
              | zero => exact absurd HA.out (by simp [varint_Get_p.j1])
              | succ kj6 =>
                have H := HA.out
                clear HA
                simp only [varint_Get_p.j1] at H
                by_cases c9 : x22_6 = true
                · subst c9
                  have H1 : (some (0, 0, false)) = some (r1, r2, r3) := by rw [if_pos rfl] at H; exact H
                  clear H
                  have H := H1
                  clear H1
                  simp only [Option.some.injEq, Prod.mk.injEq] at H
                  obtain ⟨rfl, rfl, rfl⟩ := H
                  go_wp2
                  go_ret3
                  exact ⟨by first | rfl | (simp [errW_none, errW_some] <;> rfl) | (simp only [← hji2]; first | rfl | (simp [errW_none, errW_some] <;> rfl)) | (simp [*, errW_none, errW_some] <;> rfl), M.up HB⟩
                · replace c9 := Bool.eq_false_iff.mpr c9
                  subst c9
                  have H1 : (if 0 ≤ (wrap64 (7 * x10_1)) then (if (IntKind.u64.wrap (bt a0 x10_1)) ≥ 128 then (varint_Get_p.l0 kj6 a0 (Go.bits .or .u64 x2_1 (shl .u64 (Go.bits .and .u64 (IntKind.u64.wrap (bt a0 x10_1)) 127) (wrap64 (7 * x10_1)))) ji2 (wrap64 (x10_1 + 1))) else (if (IntKind.u64.wrap (bt a0 x10_1)) = 0 then (if x10_1 > 0 then (some (0, 0, false)) else (some (Go.bits .or .u64 x2_1 (shl .u64 (Go.bits .and .u64 (IntKind.u64.wrap (bt a0 x10_1)) 127) (wrap64 (7 * x10_1))), wrap64 (x10_1 + 1), true))) else (some (Go.bits .or .u64 x2_1 (shl .u64 (Go.bits .and .u64 (IntKind.u64.wrap (bt a0 x10_1)) 127) (wrap64 (7 * x10_1))), wrap64 (x10_1 + 1), true)))) else (none)) = some (r1, r2, r3) := by rw [if_neg (show ¬ (false = true) by decide)] at H; exact H
                  clear H
                  have H := H1
                  clear H1
                  obtain ⟨ji10, hji10⟩ : ∃ j_ : Int, (wrap64 (7 * x10_1)) = j_ := ⟨_, rfl⟩
                  replace H : (if 0 ≤ (ji10) then (if (IntKind.u64.wrap (bt a0 x10_1)) ≥ 128 then (varint_Get_p.l0 kj6 a0 (Go.bits .or .u64 x2_1 (shl .u64 (Go.bits .and .u64 (IntKind.u64.wrap (bt a0 x10_1)) 127) (ji10))) ji2 (wrap64 (x10_1 + 1))) else (if (IntKind.u64.wrap (bt a0 x10_1)) = 0 then (if x10_1 > 0 then (some (0, 0, false)) else (some (Go.bits .or .u64 x2_1 (shl .u64 (Go.bits .and .u64 (IntKind.u64.wrap (bt a0 x10_1)) 127) (ji10)), wrap64 (x10_1 + 1), true))) else (some (Go.bits .or .u64 x2_1 (shl .u64 (Go.bits .and .u64 (IntKind.u64.wrap (bt a0 x10_1)) 127) (ji10)), wrap64 (x10_1 + 1), true)))) else (none)) = some (r1, r2, r3) := by first | (rw [hji10] at H; exact H) | (simp only [hji10] at H ⊢; exact H)
                  have hji10w : (IntKind.i64.wrap (7 * x10_1)) = ji10 := (i64_w _).trans hji10
                  by_cases c11 : 0 ≤ (ji10)
                  · rw [if_pos c11] at H
                    have c11b0 := eq_true c11
                    have c11b1 : decide (0 ≤ (ji10)) = true := decide_eq_true c11
                    clear c11
                    obtain ⟨ji12, hji12⟩ : ∃ j_ : Int, (shl .u64 (Go.bits .and .u64 (IntKind.u64.wrap (bt a0 x10_1)) 127) (ji10)) = j_ := ⟨_, rfl⟩
                    replace H : (if (IntKind.u64.wrap (bt a0 x10_1)) ≥ 128 then (varint_Get_p.l0 kj6 a0 (Go.bits .or .u64 x2_1 (ji12)) ji2 (wrap64 (x10_1 + 1))) else (if (IntKind.u64.wrap (bt a0 x10_1)) = 0 then (if x10_1 > 0 then (some (0, 0, false)) else (some (Go.bits .or .u64 x2_1 (ji12), wrap64 (x10_1 + 1), true))) else (some (Go.bits .or .u64 x2_1 (ji12), wrap64 (x10_1 + 1), true)))) = some (r1, r2, r3) := by first | (rw [hji12] at H; exact H) | (simp only [hji12] at H ⊢; exact H)
                    have hji12_ : (IntKind.u64.wrap ((Go.bits .and .u64 (IntKind.u64.wrap (bt a0 x10_1)) 127) * 2 ^ min (ji10).toNat 64)) = ji12 := hji12
                    have hji12z : (ji10) ≤ 64 → (IntKind.u64.wrap ((Go.bits .and .u64 (IntKind.u64.wrap (bt a0 x10_1)) 127) * 2 ^ (ji10).toNat)) = ji12 := shl_small hji12
                    by_cases c13 : (IntKind.u64.wrap (bt a0 x10_1)) ≥ 128
                    · rw [if_pos c13] at H
                      have c13b0 : decide (128 ≤ (IntKind.u64.wrap (bt a0 x10_1))) = true := decide_eq_true c13
                      clear c13
                      have H' := Aside0.mk H
                      clear H
                      go_wp2
                      go_roundg kj6
                      case measure => have := HK1.out; have := HJ6.out; omega
                      case rel => exact ⟨(Go.bits .or .u64 x2_1 (ji12)), (wrap64 (x10_1 + 1)), (by first | rfl | (simp; done) | (simp only [← hji12] <;> (first | rfl | simp)) | (simp [*]; done)), (by first | rfl | (simp; done) | (simp [*]; done) | (simp [M.isEmpty_bne]; done)), H', ⟨by have := HK1.out; have := HJ6.out; omega⟩, ⟨M.up HB⟩⟩
                    · rw [if_neg c13] at H
                      have c13b0 : decide (128 ≤ (IntKind.u64.wrap (bt a0 x10_1))) = false := decide_eq_false c13
                      clear c13
                      by_cases c14 : (IntKind.u64.wrap (bt a0 x10_1)) = 0
                      · rw [if_pos c14] at H
                        have c14b0 : ((IntKind.u64.wrap (bt a0 x10_1)) == 0) = true := beq_iff_eq.mpr c14
                        have c14b1 : ((IntKind.u64.wrap (bt a0 x10_1)) != 0) = false := bne_eq_false_iff_eq.mpr c14
                        clear c14
                        by_cases c15 : x10_1 > 0
                        · rw [if_pos c15] at H
                          have c15b0 : decide (0 < x10_1) = true := decide_eq_true c15
                          clear c15
                          simp only [Option.some.injEq, Prod.mk.injEq] at H
                          obtain ⟨rfl, rfl, rfl⟩ := H
                          go_wp2
                          go_ret3
                          exact ⟨by first | rfl | (simp [errW_none, errW_some] <;> rfl) | (simp only [← hji2, ← hji10, ← hji12]; first | rfl | (simp [errW_none, errW_some] <;> rfl)) | (simp [*, errW_none, errW_some] <;> rfl), M.up HB⟩
                        · rw [if_neg c15] at H
                          have c15b0 : decide (0 < x10_1) = false := decide_eq_false c15
                          clear c15
                          simp only [Option.some.injEq, Prod.mk.injEq] at H
                          obtain ⟨rfl, rfl, rfl⟩ := H
                          go_wp2
                          go_ret3
                          exact ⟨by first | rfl | (simp [errW_none, errW_some] <;> rfl) | (simp only [← hji2, ← hji10, ← hji12]; first | rfl | (simp [errW_none, errW_some] <;> rfl)) | (simp [*, errW_none, errW_some] <;> rfl), M.up HB⟩
                      · rw [if_neg c14] at H
                        have c14b0 : ((IntKind.u64.wrap (bt a0 x10_1)) == 0) = false := beq_eq_false_iff_ne.mpr c14
                        have c14b1 : ((IntKind.u64.wrap (bt a0 x10_1)) != 0) = true := bne_iff_ne.mpr c14
                        simp only [Option.some.injEq, Prod.mk.injEq] at H
                        obtain ⟨rfl, rfl, rfl⟩ := H
                        go_wp2
                        go_ret3
                        exact ⟨by first | rfl | (simp [errW_none, errW_some] <;> rfl) | (simp only [← hji2, ← hji10, ← hji12]; first | rfl | (simp [errW_none, errW_some] <;> rfl)) | (simp [*, errW_none, errW_some] <;> rfl), M.up HB⟩
                  · rw [if_neg c11] at H
                    exact absurd H (by simp)
          · rw [if_neg c5] at H
            exact absurd H (by simp)
        · rw [if_neg c4] at H
          exact absurd H (by simp)
      · rw [if_neg c3] at H
        have c3b0 : decide (x10_1 < ji2) = false := decide_eq_false c3
        clear c3
        simp only [Option.some.injEq, Prod.mk.injEq] at H
        obtain ⟨rfl, rfl, rfl⟩ := H
        go_wp2
        go_ret3
        exact ⟨by first | rfl | (simp [errW_none, errW_some] <;> rfl) | (simp only [← hji2]; first | rfl | (simp [errW_none, errW_some] <;> rfl)) | (simp [*, errW_none, errW_some] <;> rfl), M.up HB⟩

-- this session's own plain form
def varint_Get.f (a0 : ByteArray) : Option (Int × Int × Bool) := some (M.vget a0)
theorem varint_Get.step (s : ByteArray) (i n q c : Nat) (hm : (i : Int) < mn (s.size : Int) 10) (hlt : i < s.size) (hi : i ≤ 9) (h9 : i = 9 → c ≤ 1)
    (hw : IntKind.u64.wrap (bt s (i : Int)) = (c : Int)) (hj : Go.bits .or .u64 (n : Int) (shl .u64 (Go.bits .and .u64 (c : Int) 127) (wrap64 (7 * (i : Int)))) = (q : Int)) (k : Nat) :
    varint_Get_p.l0 (k + 2) s (n : Int) (mn (s.size : Int) 10) (i : Int) =
      if (c : Int) ≥ 128 then varint_Get_p.l0 k s (q : Int) (mn (s.size : Int) 10) ((i + 1 : Nat) : Int)
      else if (c : Int) = 0 then (if (i : Int) > 0 then some (0, 0, false) else some ((q : Int), ((i + 1 : Nat) : Int), true))
      else some ((q : Int), ((i + 1 : Nat) : Int), true) := by
  have hi1 : wrap64 ((i : Int) + 1) = ((i + 1 : Nat) : Int) := by rw [M.wrap64_id (by omega) (by omega)]; omega
  have h7 : 0 ≤ wrap64 (7 * (i : Int)) := by rw [M.wrap64_id (by omega) (by omega)]; omega
  have hx : (if (i : Int) = 9 then varint_Get_p.j1 (k + 1) s (n : Int) (i : Int) (c : Int) (mn (s.size : Int) 10) (i : Int) (decide ((c : Int) > 1)) else varint_Get_p.j1 (k + 1) s (n : Int) (i : Int) (c : Int) (mn (s.size : Int) 10) (i : Int) false) =
      varint_Get_p.j1 (k + 1) s (n : Int) (i : Int) (c : Int) (mn (s.size : Int) 10) (i : Int) false := by
    split
    · rw [decide_eq_false (by omega)]
    · rfl
  simp only [varint_Get_p.l0]
  rw [if_pos hm, if_pos (Int.natCast_nonneg _), if_pos (Int.ofNat_lt.2 hlt), hw, hx]
  simp only [varint_Get_p.j1]
  rw [if_neg (by simp), if_pos h7, hj, hi1]
theorem varint_Get.loop (s : ByteArray) (d : Nat) : ∀ (i n : Nat), i + d = 9 → n < 128 ^ i → i ≤ s.size →
    ∃ k, varint_Get_p.l0 k s (n : Int) (mn (s.size : Int) 10) (i : Int) = some (M.vgo i n ((M.bs s).drop i)) := by
  induction d with
  | zero => ?_
  | succ d ih => ?_
  all_goals
    intro i n hd hn hi
    by_cases hlt : i < s.size
    case neg =>
      refine ⟨1, ?_⟩
      simp only [varint_Get_p.l0]
      rw [if_neg (by unfold mn; split <;> omega), List.drop_of_length_le (by rw [M.bs_length]; omega)]
      rfl
    case pos =>
      have hl : i < (M.bs s).length := by rw [M.bs_length]; exact hlt
      have hb := M.bt_bs s i hl
      have hdrop : (M.bs s).drop i = (M.bs s)[i] :: (M.bs s).drop (i + 1) := List.drop_eq_getElem_cons hl
      generalize (M.bs s)[i] = c at hb hdrop
      have hc := c.toNat_lt
      have hw : IntKind.u64.wrap (bt s (i : Int)) = (c.toNat : Int) := by rw [hb, M.u64_id (by omega) (by omega)]
      have hm : (i : Int) < mn (s.size : Int) 10 := by unfold mn; split <;> omega
      have hi9 : i ≤ 9 := by omega
      rw [hdrop]
      by_cases h9 : i = 9 ∧ 1 < c.toNat
      · refine ⟨2, ?_⟩
        simp only [varint_Get_p.l0, varint_Get_p.j1]
        rw [if_pos hm, if_pos (Int.natCast_nonneg _), if_pos (Int.ofNat_lt.2 hlt), if_pos (by omega), hw, if_pos (by simp; omega)]
        obtain ⟨rfl, h1⟩ := h9
        rw [M.vgo_nine n _ h1]
      · have h9' : i = 9 → c.toNat ≤ 1 := fun e => Nat.le_of_not_lt fun h => h9 ⟨e, h⟩
        have h64 := M.pow_64 (c := c.toNat) hi9 hn h9'
        have hj : Go.bits .or .u64 (n : Int) (shl .u64 (Go.bits .and .u64 (c.toNat : Int) 127) (wrap64 (7 * (i : Int)))) = ((n + c.toNat % 128 * 128 ^ i : Nat) : Int) := by
          rw [M.and127 hc, M.wrap64_id (by omega) (by omega), M.join64 hn (Nat.lt_of_le_of_lt (Nat.le_add_left _ _) h64) (Nat.lt_of_le_of_lt (Nat.le_add_right _ _) h64) hi9]
        have hstep := varint_Get.step s i n _ c.toNat hm hlt hi9 h9' hw hj
        clear hj hw hb hm h9
        by_cases h128 : c.toNat < 128
        · refine ⟨2, ?_⟩
          rw [hstep 0, if_neg (by omega), M.vgo_low _ _ _ h128]
          rw [Nat.mod_eq_of_lt h128] at h64 ⊢
          by_cases h0 : c.toNat = 0
          · rw [if_pos (by omega)]
            by_cases hi0 : i = 0
            · rw [if_neg (by omega), if_pos ⟨fun h => absurd hi0 h, h64⟩]
            · rw [if_pos (by omega), if_neg (fun h => h.1 hi0 h0)]
          · rw [if_neg (by omega), if_pos ⟨fun _ => h0, h64⟩]
        · have h8 : i ≤ 8 := by
            by_cases e : i = 9
            · have := h9' e; omega
            · omega
          first
          | (exfalso; omega)
          | (have hn' := M.pow_step (c := c.toNat) hn
             rw [M.vgo_high _ _ _ h128]
             generalize n + c.toNat % 128 * 128 ^ i = q at hstep hn' h64 ⊢
             obtain ⟨k, hk⟩ := ih (i + 1) q (by omega) hn' hlt
             refine ⟨k + 2, ?_⟩
             rw [hstep k, if_pos (by omega), hk]
             done)
theorem varint_Get.ev (a0 : ByteArray) (r : Int × Int × Bool) (h : varint_Get.f a0 = some r) : ∃ k, varint_Get_p.f k a0 = some r := by
  obtain rfl := Option.some.inj h
  obtain ⟨k, hk⟩ := varint_Get.loop a0 9 0 0 rfl (by decide) (Nat.zero_le _)
  refine ⟨k, ?_⟩
  unfold varint_Get_p.f
  rw [M.vgo_zero] at hk
  exact hk
theorem varint_Get.calls (a0 : ByteArray) (r1 : Int) (r2 : Int) (r3 : Bool) (w : World) (h : varint_Get.f a0 = some (r1, r2, r3)) :
    Calls Try.prog 9 #[.string a0] w fun e w' => e = .returned (.tuple #[.int .u64 r1, .int .i64 r2, .bool r3]) ∧ Below w.heap.size w w' := by
  obtain ⟨k, hk⟩ := varint_Get.ev _ _ h
  exact varint_Get_p.calls (k := k) (w := w) (h := hk)

/-! ### varint_Zag_p: function 14 -/
def varint_Zag_p.f (a0 : Int) : Option (Int) := some (Go.bits .xor .i64 (wrap64 (a0 / 2)) (wrap64 (-(wrap64 (Go.bits .and .u64 a0 1)))))
set_option maxHeartbeats 8000000 in
set_option maxRecDepth 100000 in
theorem varint_Zag_p.calls (a0 : Int) (r : Int) (w : World) (h : varint_Zag_p.f a0 = some r) :
    Calls Try.prog 14 #[.int .u64 a0] w fun e w' => e = .returned (.int .i64 r) ∧ Drawn0 w w' := by
  have H : (some (Go.bits .xor .i64 (wrap64 (a0 / 2)) (wrap64 (-(wrap64 (Go.bits .and .u64 a0 1)))))) = some r := h
  clear h
  obtain rfl := Option.some.inj H
  go_enter Try.func14, Try.ntmps14
  go_wp2
  go_ret
  exact ⟨by first | rfl | (simp; done) | (simp [*]; done), by repeat (first | exact Drawn0.refl _ | apply Drawn0.step)⟩

-- this session's own plain form
def varint_Zag.f (a0 : Int) : Option Int := if 0 ≤ a0 ∧ a0 < 18446744073709551616 then some (M.zag a0) else none
theorem varint_Zag.ev (a0 r : Int) (h : varint_Zag.f a0 = some r) : varint_Zag_p.f a0 = some r := by
  unfold varint_Zag.f at h
  split at h
  · rename_i hh
    obtain rfl := Option.some.inj h
    exact congrArg some (M.zag_code hh.1 hh.2)
  · cases h
theorem varint_Zag.calls (a0 : Int) (r : Int) (w : World) (h : varint_Zag.f a0 = some r) :
    Calls Try.prog 14 #[.int .u64 a0] w fun e w' => e = .returned (.int .i64 r) ∧ Drawn0 w w' := by
  exact varint_Zag_p.calls (w := w) (h := varint_Zag.ev _ _ h)

/-! ### varint_GetInt_p: function 10 -/
def varint_GetInt_p.f (a0 : ByteArray) : Option (Int × Int × Bool) := (varint_Get.f a0).bind fun bt101 => ((varint_Zag.f bt101.1).bind fun t104 => (some (t104, bt101.2.1, bt101.2.2)))
set_option maxHeartbeats 8000000 in
set_option maxRecDepth 100000 in
theorem varint_GetInt_p.calls (a0 : ByteArray) (r1 : Int) (r2 : Int) (r3 : Bool) (w : World) (h : varint_GetInt_p.f a0 = some (r1, r2, r3)) :
    Calls Try.prog 10 #[.string a0] w fun e w' => e = .returned (.tuple #[.int .i64 r1, .int .i64 r2, .bool r3]) ∧ Below w.heap.size w w' := by
  have HB := Aside0.mk (Below.refl w.heap.size w)
  have H : ((varint_Get.f a0).bind fun bt101 => ((varint_Zag.f bt101.1).bind fun t104 => (some (t104, bt101.2.1, bt101.2.2)))) = some (r1, r2, r3) := h
  clear h
  replace H := Option.bind_eq_some_iff.mp H
  obtain ⟨⟨t101, t102, t103⟩, A20, H⟩ := H
  replace H : ((varint_Zag.f t101).bind fun t104 => (some (t104, t102, t103))) = some (r1, r2, r3) := H
  have A2 := Aside0.mk A20
  clear A20
  replace H := Option.bind_eq_some_iff.mp H
  obtain ⟨t104, A30, H⟩ := H
  replace H : (some (t104, t102, t103)) = some (r1, r2, r3) := H
  have A3 := Aside0.mk A30
  clear A30
  simp only [Option.some.injEq, Prod.mk.injEq] at H
  obtain ⟨rfl, rfl, rfl⟩ := H
  go_enter Try.func10, Try.ntmps10
  go_wp2_with (first | ((with_reducible refine gate_callee (f := 9) rfl ?_); refine M.goes (some 8) Try.func9 #[.string a0] rfl ?_; (with_reducible refine (varint_Get.calls a0 t101 t102 t103 _ A2.out).mono ?_); rintro e w4 ⟨rfl, hb⟩; refine ⟨_, rfl, ?_⟩; have n0_ := M.upS HB hb; clear HB; have HB := n0_; clear n0_; (try clear hb)) | ((with_reducible refine gate_callee (f := 14) rfl ?_); refine M.goes (some 13) Try.func14 #[.int .u64 t101] rfl ?_; (with_reducible refine (varint_Zag.calls t101 t104 _ A3.out).mono ?_); rintro e w' ⟨rfl, ⟨nd, rfl⟩⟩; refine ⟨_, rfl, ?_⟩))
  go_ret3
  exact M.fin (M.up HB)

-- this session's own plain form
def varint_GetInt.f (a0 : ByteArray) : Option (Int × Int × Bool) := some (M.vgeti a0)
theorem varint_GetInt.ev (a0 : ByteArray) (r : Int × Int × Bool) (h : varint_GetInt.f a0 = some r) : varint_GetInt_p.f a0 = some r := by
  obtain rfl := Option.some.inj h
  have hr := M.vget_range a0
  unfold varint_GetInt_p.f varint_Get.f varint_Zag.f
  simp only [Option.bind_some]
  rw [if_pos ⟨hr.1, hr.2.1⟩]
  rfl
theorem varint_GetInt.calls (a0 : ByteArray) (r1 : Int) (r2 : Int) (r3 : Bool) (w : World) (h : varint_GetInt.f a0 = some (r1, r2, r3)) :
    Calls Try.prog 10 #[.string a0] w fun e w' => e = .returned (.tuple #[.int .i64 r1, .int .i64 r2, .bool r3]) ∧ Below w.heap.size w w' := by
  exact varint_GetInt_p.calls (w := w) (h := varint_GetInt.ev _ _ h)

/-! ### varint_Zig_p: function 12 -/
def varint_Zig_p.f (a0 : Int) : Option (Int) := some (Go.bits .xor .u64 (IntKind.u64.wrap ((IntKind.u64.wrap (a0)) * 2)) (IntKind.u64.wrap (a0 / 9223372036854775808)))
set_option maxHeartbeats 8000000 in
set_option maxRecDepth 100000 in
theorem varint_Zig_p.calls (a0 : Int) (r : Int) (w : World) (h : varint_Zig_p.f a0 = some r) :
    Calls Try.prog 12 #[.int .i64 a0] w fun e w' => e = .returned (.int .u64 r) ∧ Drawn0 w w' := by
  have H : (some (Go.bits .xor .u64 (IntKind.u64.wrap ((IntKind.u64.wrap (a0)) * 2)) (IntKind.u64.wrap (a0 / 9223372036854775808)))) = some r := h
  clear h
  obtain rfl := Option.some.inj H
  go_enter Try.func12, Try.ntmps12
  go_wp2
  go_ret
  exact ⟨by first | rfl | (simp; done) | (simp [*]; done), by repeat (first | exact Drawn0.refl _ | apply Drawn0.step)⟩

-- this session's own plain form
def varint_Zig.f (a0 : Int) : Option Int := if -9223372036854775808 ≤ a0 ∧ a0 ≤ 9223372036854775807 then some (M.zig a0) else none
theorem varint_Zig.ev (a0 r : Int) (h : varint_Zig.f a0 = some r) : varint_Zig_p.f a0 = some r := by
  unfold varint_Zig.f at h
  split at h
  · rename_i hh
    obtain rfl := Option.some.inj h
    exact congrArg some (M.zig_code hh.1 hh.2)
  · cases h
theorem varint_Zig.calls (a0 : Int) (r : Int) (w : World) (h : varint_Zig.f a0 = some r) :
    Calls Try.prog 12 #[.int .i64 a0] w fun e w' => e = .returned (.int .u64 r) ∧ Drawn0 w w' := by
  exact varint_Zig_p.calls (w := w) (h := varint_Zig.ev _ _ h)

/-! ### varint_Int_p: function 16 -/
def varint_Int_p.f (a0 : Int) : Option (ByteArray) := (varint_Zig.f a0).bind fun t105 => ((varint_Put.f t105).bind fun t106 => (some t106))
set_option maxHeartbeats 8000000 in
set_option maxRecDepth 100000 in
theorem varint_Int_p.calls (a0 : Int) (r : ByteArray) (w : World) (h : varint_Int_p.f a0 = some r) :
    Calls Try.prog 16 #[.int .i64 a0] w fun e w' => e = .returned (.string r) ∧ Below w.heap.size w w' := by
  have HB := Aside0.mk (Below.refl w.heap.size w)
  have H : ((varint_Zig.f a0).bind fun t105 => ((varint_Put.f t105).bind fun t106 => (some t106))) = some r := h
  clear h
  replace H := Option.bind_eq_some_iff.mp H
  obtain ⟨t105, A20, H⟩ := H
  replace H : ((varint_Put.f t105).bind fun t106 => (some t106)) = some r := H
  have A2 := Aside0.mk A20
  clear A20
  replace H := Option.bind_eq_some_iff.mp H
  obtain ⟨t106, A30, H⟩ := H
  replace H : (some t106) = some r := H
  have A3 := Aside0.mk A30
  clear A30
  obtain rfl := Option.some.inj H
  go_enter Try.func16, Try.ntmps16
  go_wp2_with (first | ((with_reducible refine gate_callee (f := 12) rfl ?_); refine M.goes (some 4) Try.func12 #[.int .i64 a0] rfl ?_; (with_reducible refine (varint_Zig.calls a0 t105 _ A2.out).mono ?_); rintro e w' ⟨rfl, ⟨nd, rfl⟩⟩; refine ⟨_, rfl, ?_⟩) | ((with_reducible refine gate_callee (f := 8) rfl ?_); refine M.goes (some 5) Try.func8 #[.int .u64 t105] rfl ?_; (with_reducible refine (varint_Put.calls t105 t106 _ A3.out).mono ?_); rintro e w4 ⟨rfl, hb⟩; refine ⟨_, rfl, ?_⟩; have n0_ := M.upS HB hb; clear HB; have HB := n0_; clear n0_; (try clear hb)))
  go_ret
  exact M.fin (M.up HB)

-- this session's own plain form
def varint_Int.f (a0 : Int) : Option ByteArray := if -9223372036854775808 ≤ a0 ∧ a0 ≤ 9223372036854775807 then some (M.sb (M.vb (M.zig a0).toNat)) else none
theorem varint_Int.ev (a0 : Int) (r : ByteArray) (h : varint_Int.f a0 = some r) : varint_Int_p.f a0 = some r := by
  unfold varint_Int.f at h
  split at h
  · rename_i hh
    obtain rfl := Option.some.inj h
    have hr := M.zig_range hh.1 hh.2
    unfold varint_Int_p.f varint_Zig.f varint_Put.f
    rw [if_pos hh]
    simp only [Option.bind_some]
    rw [if_pos hr]
    rfl
  · cases h
theorem varint_Int.calls (a0 : Int) (r : ByteArray) (w : World) (h : varint_Int.f a0 = some r) :
    Calls Try.prog 16 #[.int .i64 a0] w fun e w' => e = .returned (.string r) ∧ Below w.heap.size w w' := by
  exact varint_Int_p.calls (w := w) (h := varint_Int.ev _ _ h)

/-! ### pleachlaw01_awake_p: function 7 -/
def pleachlaw01_awake_p.f  : Option (Bool) := (varint_Get.f (⟨#[128, 0]⟩ : ByteArray)).bind fun bt107 => ((varint_GetInt.f (⟨#[1, 120]⟩ : ByteArray)).bind fun bt110 => ((varint_Put.f 300).bind fun t113 => (if t113.toList = ([172, 2] : List UInt8) then (if bt107.2.2 = true then (some false) else (if bt110.1 = (-1) then (if bt110.2.1 = 1 then (if bt110.2.2 = true then ((varint_Int.f (-1)).bind fun t114 => (some (t114.toList == ([1] : List UInt8)))) else (some false)) else (some false)) else (some false))) else (some false))))
set_option maxHeartbeats 8000000 in
set_option maxRecDepth 100000 in
theorem pleachlaw01_awake_p.calls  (r : Bool) (w : World) (h : pleachlaw01_awake_p.f  = some r) :
    Calls Try.prog 7 #[] w fun e w' => e = .returned (.bool r) ∧ Below w.heap.size w w' := by
  have HB := Aside0.mk (Below.refl w.heap.size w)
  have H : ((varint_Get.f (⟨#[128, 0]⟩ : ByteArray)).bind fun bt107 => ((varint_GetInt.f (⟨#[1, 120]⟩ : ByteArray)).bind fun bt110 => ((varint_Put.f 300).bind fun t113 => (if t113.toList = ([172, 2] : List UInt8) then (if bt107.2.2 = true then (some false) else (if bt110.1 = (-1) then (if bt110.2.1 = 1 then (if bt110.2.2 = true then ((varint_Int.f (-1)).bind fun t114 => (some (t114.toList == ([1] : List UInt8)))) else (some false)) else (some false)) else (some false))) else (some false))))) = some r := h
  clear h
  replace H := Option.bind_eq_some_iff.mp H
  obtain ⟨⟨t107, t108, t109⟩, A10, H⟩ := H
  replace H : ((varint_GetInt.f (⟨#[1, 120]⟩ : ByteArray)).bind fun bt110 => ((varint_Put.f 300).bind fun t113 => (if t113.toList = ([172, 2] : List UInt8) then (if t109 = true then (some false) else (if bt110.1 = (-1) then (if bt110.2.1 = 1 then (if bt110.2.2 = true then ((varint_Int.f (-1)).bind fun t114 => (some (t114.toList == ([1] : List UInt8)))) else (some false)) else (some false)) else (some false))) else (some false)))) = some r := H
  have A1 := Aside0.mk A10
  clear A10
  replace H := Option.bind_eq_some_iff.mp H
  obtain ⟨⟨t110, t111, t112⟩, A20, H⟩ := H
  replace H : ((varint_Put.f 300).bind fun t113 => (if t113.toList = ([172, 2] : List UInt8) then (if t109 = true then (some false) else (if t110 = (-1) then (if t111 = 1 then (if t112 = true then ((varint_Int.f (-1)).bind fun t114 => (some (t114.toList == ([1] : List UInt8)))) else (some false)) else (some false)) else (some false))) else (some false))) = some r := H
  have A2 := Aside0.mk A20
  clear A20
  replace H := Option.bind_eq_some_iff.mp H
  obtain ⟨t113, A30, H⟩ := H
  replace H : (if t113.toList = ([172, 2] : List UInt8) then (if t109 = true then (some false) else (if t110 = (-1) then (if t111 = 1 then (if t112 = true then ((varint_Int.f (-1)).bind fun t114 => (some (t114.toList == ([1] : List UInt8)))) else (some false)) else (some false)) else (some false))) else (some false)) = some r := H
  have A3 := Aside0.mk A30
  clear A30
  by_cases c4 : t113.toList = ([172, 2] : List UInt8)
  · rw [if_pos c4] at H
    have c4b0 : (t113.toList == ([172, 2] : List UInt8)) = true := beq_iff_eq.mpr c4
    have c4b1 : (t113.toList != ([172, 2] : List UInt8)) = false := bne_eq_false_iff_eq.mpr c4
    clear c4
    by_cases c5 : t109 = true
    · subst c5
      have H1 : (some false) = some r := by rw [if_pos rfl] at H; exact H
      clear H
      have H := H1
      clear H1
      obtain rfl := Option.some.inj H
      go_enter Try.func7, Try.ntmps7
      go_wp2_with (first | ((with_reducible refine gate_callee (f := 9) rfl ?_); refine M.goes (some 8) Try.func9 #[.string (⟨#[128, 0]⟩ : ByteArray)] rfl ?_; (with_reducible refine (varint_Get.calls (⟨#[128, 0]⟩ : ByteArray) t107 t108 true _ A1.out).mono ?_); rintro e w6 ⟨rfl, hb⟩; refine ⟨_, rfl, ?_⟩; have n0_ := M.upS HB hb; clear HB; have HB := n0_; clear n0_; (try clear hb)) | ((with_reducible refine gate_callee (f := 10) rfl ?_); refine M.goes (some 13) Try.func10 #[.string (⟨#[1, 120]⟩ : ByteArray)] rfl ?_; (with_reducible refine (varint_GetInt.calls (⟨#[1, 120]⟩ : ByteArray) t110 t111 t112 _ A2.out).mono ?_); rintro e w7 ⟨rfl, hb⟩; refine ⟨_, rfl, ?_⟩; have n0_ := M.upS HB hb; clear HB; have HB := n0_; clear n0_; (try clear hb)) | ((with_reducible refine gate_callee (f := 8) rfl ?_); refine M.goes (some 17) Try.func8 #[.int .u64 300] rfl ?_; (with_reducible refine (varint_Put.calls 300 t113 _ A3.out).mono ?_); rintro e w8 ⟨rfl, hb⟩; refine ⟨_, rfl, ?_⟩; have n0_ := M.upS HB hb; clear HB; have HB := n0_; clear n0_; (try clear hb)))
      go_ret
      exact M.fin (M.up HB)
    · replace c5 := Bool.eq_false_iff.mpr c5
      subst c5
      have H1 : (if t110 = (-1) then (if t111 = 1 then (if t112 = true then ((varint_Int.f (-1)).bind fun t114 => (some (t114.toList == ([1] : List UInt8)))) else (some false)) else (some false)) else (some false)) = some r := by rw [if_neg (show ¬ (false = true) by decide)] at H; exact H
      clear H
      have H := H1
      clear H1
      by_cases c9 : t110 = (-1)
      · rw [if_pos c9] at H
        have c9b0 : (t110 == (-1)) = true := beq_iff_eq.mpr c9
        have c9b1 : (t110 != (-1)) = false := bne_eq_false_iff_eq.mpr c9
        clear c9
        by_cases c10 : t111 = 1
        · rw [if_pos c10] at H
          have c10b0 : (t111 == 1) = true := beq_iff_eq.mpr c10
          have c10b1 : (t111 != 1) = false := bne_eq_false_iff_eq.mpr c10
          clear c10
          by_cases c11 : t112 = true
          · subst c11
            have H1 : ((varint_Int.f (-1)).bind fun t114 => (some (t114.toList == ([1] : List UInt8)))) = some r := by rw [if_pos rfl] at H; exact H
            clear H
            have H := H1
            clear H1
            replace H := Option.bind_eq_some_iff.mp H
            obtain ⟨t114, A120, H⟩ := H
            replace H : (some (t114.toList == ([1] : List UInt8))) = some r := H
            have A12 := Aside0.mk A120
            clear A120
            obtain rfl := Option.some.inj H
            go_enter Try.func7, Try.ntmps7
            go_wp2_with (first | ((with_reducible refine gate_callee (f := 9) rfl ?_); refine M.goes (some 8) Try.func9 #[.string (⟨#[128, 0]⟩ : ByteArray)] rfl ?_; (with_reducible refine (varint_Get.calls (⟨#[128, 0]⟩ : ByteArray) t107 t108 false _ A1.out).mono ?_); rintro e w13 ⟨rfl, hb⟩; refine ⟨_, rfl, ?_⟩; have n0_ := M.upS HB hb; clear HB; have HB := n0_; clear n0_; (try clear hb)) | ((with_reducible refine gate_callee (f := 10) rfl ?_); refine M.goes (some 13) Try.func10 #[.string (⟨#[1, 120]⟩ : ByteArray)] rfl ?_; (with_reducible refine (varint_GetInt.calls (⟨#[1, 120]⟩ : ByteArray) t110 t111 true _ A2.out).mono ?_); rintro e w14 ⟨rfl, hb⟩; refine ⟨_, rfl, ?_⟩; have n0_ := M.upS HB hb; clear HB; have HB := n0_; clear n0_; (try clear hb)) | ((with_reducible refine gate_callee (f := 8) rfl ?_); refine M.goes (some 17) Try.func8 #[.int .u64 300] rfl ?_; (with_reducible refine (varint_Put.calls 300 t113 _ A3.out).mono ?_); rintro e w15 ⟨rfl, hb⟩; refine ⟨_, rfl, ?_⟩; have n0_ := M.upS HB hb; clear HB; have HB := n0_; clear n0_; (try clear hb)) | (go_at_call 16; (with_reducible refine (varint_Int.calls (-1) t114 _ A12.out).mono ?_); rintro e w16 ⟨rfl, hb⟩; have n0_ := M.upS HB hb; clear HB; have HB := n0_; clear n0_; (try clear hb); (try clear hb2); (try clear hk); (try clear hi)))
            go_ret
            exact M.fin (M.up HB)
          · replace c11 := Bool.eq_false_iff.mpr c11
            subst c11
            have H1 : (some false) = some r := by rw [if_neg (show ¬ (false = true) by decide)] at H; exact H
            clear H
            have H := H1
            clear H1
            obtain rfl := Option.some.inj H
            go_enter Try.func7, Try.ntmps7
            go_wp2_with (first | ((with_reducible refine gate_callee (f := 9) rfl ?_); refine M.goes (some 8) Try.func9 #[.string (⟨#[128, 0]⟩ : ByteArray)] rfl ?_; (with_reducible refine (varint_Get.calls (⟨#[128, 0]⟩ : ByteArray) t107 t108 false _ A1.out).mono ?_); rintro e w17 ⟨rfl, hb⟩; refine ⟨_, rfl, ?_⟩; have n0_ := M.upS HB hb; clear HB; have HB := n0_; clear n0_; (try clear hb)) | ((with_reducible refine gate_callee (f := 10) rfl ?_); refine M.goes (some 13) Try.func10 #[.string (⟨#[1, 120]⟩ : ByteArray)] rfl ?_; (with_reducible refine (varint_GetInt.calls (⟨#[1, 120]⟩ : ByteArray) t110 t111 false _ A2.out).mono ?_); rintro e w18 ⟨rfl, hb⟩; refine ⟨_, rfl, ?_⟩; have n0_ := M.upS HB hb; clear HB; have HB := n0_; clear n0_; (try clear hb)) | ((with_reducible refine gate_callee (f := 8) rfl ?_); refine M.goes (some 17) Try.func8 #[.int .u64 300] rfl ?_; (with_reducible refine (varint_Put.calls 300 t113 _ A3.out).mono ?_); rintro e w19 ⟨rfl, hb⟩; refine ⟨_, rfl, ?_⟩; have n0_ := M.upS HB hb; clear HB; have HB := n0_; clear n0_; (try clear hb)))
            go_ret
            exact M.fin (M.up HB)
        · rw [if_neg c10] at H
          have c10b0 : (t111 == 1) = false := beq_eq_false_iff_ne.mpr c10
          have c10b1 : (t111 != 1) = true := bne_iff_ne.mpr c10
          obtain rfl := Option.some.inj H
          go_enter Try.func7, Try.ntmps7
          go_wp2_with (first | ((with_reducible refine gate_callee (f := 9) rfl ?_); refine M.goes (some 8) Try.func9 #[.string (⟨#[128, 0]⟩ : ByteArray)] rfl ?_; (with_reducible refine (varint_Get.calls (⟨#[128, 0]⟩ : ByteArray) t107 t108 false _ A1.out).mono ?_); rintro e w20 ⟨rfl, hb⟩; refine ⟨_, rfl, ?_⟩; have n0_ := M.upS HB hb; clear HB; have HB := n0_; clear n0_; (try clear hb)) | ((with_reducible refine gate_callee (f := 10) rfl ?_); refine M.goes (some 13) Try.func10 #[.string (⟨#[1, 120]⟩ : ByteArray)] rfl ?_; (with_reducible refine (varint_GetInt.calls (⟨#[1, 120]⟩ : ByteArray) t110 t111 t112 _ A2.out).mono ?_); rintro e w21 ⟨rfl, hb⟩; refine ⟨_, rfl, ?_⟩; have n0_ := M.upS HB hb; clear HB; have HB := n0_; clear n0_; (try clear hb)) | ((with_reducible refine gate_callee (f := 8) rfl ?_); refine M.goes (some 17) Try.func8 #[.int .u64 300] rfl ?_; (with_reducible refine (varint_Put.calls 300 t113 _ A3.out).mono ?_); rintro e w22 ⟨rfl, hb⟩; refine ⟨_, rfl, ?_⟩; have n0_ := M.upS HB hb; clear HB; have HB := n0_; clear n0_; (try clear hb)))
          go_ret
          exact M.fin (M.up HB)
      · rw [if_neg c9] at H
        have c9b0 : (t110 == (-1)) = false := beq_eq_false_iff_ne.mpr c9
        have c9b1 : (t110 != (-1)) = true := bne_iff_ne.mpr c9
        obtain rfl := Option.some.inj H
        go_enter Try.func7, Try.ntmps7
        go_wp2_with (first | ((with_reducible refine gate_callee (f := 9) rfl ?_); refine M.goes (some 8) Try.func9 #[.string (⟨#[128, 0]⟩ : ByteArray)] rfl ?_; (with_reducible refine (varint_Get.calls (⟨#[128, 0]⟩ : ByteArray) t107 t108 false _ A1.out).mono ?_); rintro e w23 ⟨rfl, hb⟩; refine ⟨_, rfl, ?_⟩; have n0_ := M.upS HB hb; clear HB; have HB := n0_; clear n0_; (try clear hb)) | ((with_reducible refine gate_callee (f := 10) rfl ?_); refine M.goes (some 13) Try.func10 #[.string (⟨#[1, 120]⟩ : ByteArray)] rfl ?_; (with_reducible refine (varint_GetInt.calls (⟨#[1, 120]⟩ : ByteArray) t110 t111 t112 _ A2.out).mono ?_); rintro e w24 ⟨rfl, hb⟩; refine ⟨_, rfl, ?_⟩; have n0_ := M.upS HB hb; clear HB; have HB := n0_; clear n0_; (try clear hb)) | ((with_reducible refine gate_callee (f := 8) rfl ?_); refine M.goes (some 17) Try.func8 #[.int .u64 300] rfl ?_; (with_reducible refine (varint_Put.calls 300 t113 _ A3.out).mono ?_); rintro e w25 ⟨rfl, hb⟩; refine ⟨_, rfl, ?_⟩; have n0_ := M.upS HB hb; clear HB; have HB := n0_; clear n0_; (try clear hb)))
        go_ret
        exact M.fin (M.up HB)
  · rw [if_neg c4] at H
    have c4b0 : (t113.toList == ([172, 2] : List UInt8)) = false := beq_eq_false_iff_ne.mpr c4
    have c4b1 : (t113.toList != ([172, 2] : List UInt8)) = true := bne_iff_ne.mpr c4
    obtain rfl := Option.some.inj H
    go_enter Try.func7, Try.ntmps7
    go_wp2_with (first | ((with_reducible refine gate_callee (f := 9) rfl ?_); refine M.goes (some 8) Try.func9 #[.string (⟨#[128, 0]⟩ : ByteArray)] rfl ?_; (with_reducible refine (varint_Get.calls (⟨#[128, 0]⟩ : ByteArray) t107 t108 t109 _ A1.out).mono ?_); rintro e w26 ⟨rfl, hb⟩; refine ⟨_, rfl, ?_⟩; have n0_ := M.upS HB hb; clear HB; have HB := n0_; clear n0_; (try clear hb)) | ((with_reducible refine gate_callee (f := 10) rfl ?_); refine M.goes (some 13) Try.func10 #[.string (⟨#[1, 120]⟩ : ByteArray)] rfl ?_; (with_reducible refine (varint_GetInt.calls (⟨#[1, 120]⟩ : ByteArray) t110 t111 t112 _ A2.out).mono ?_); rintro e w27 ⟨rfl, hb⟩; refine ⟨_, rfl, ?_⟩; have n0_ := M.upS HB hb; clear HB; have HB := n0_; clear n0_; (try clear hb)) | ((with_reducible refine gate_callee (f := 8) rfl ?_); refine M.goes (some 17) Try.func8 #[.int .u64 300] rfl ?_; (with_reducible refine (varint_Put.calls 300 t113 _ A3.out).mono ?_); rintro e w28 ⟨rfl, hb⟩; refine ⟨_, rfl, ?_⟩; have n0_ := M.upS HB hb; clear HB; have HB := n0_; clear n0_; (try clear hb)))
    go_ret
    exact M.fin (M.up HB)

-- this session's own plain form
def pleachlaw01_awake.f : Option Bool := some true
theorem pleachlaw01_awake.ev (r : Bool) (h : pleachlaw01_awake.f = some r) : pleachlaw01_awake_p.f = some r := by
  obtain rfl := Option.some.inj h
  have e1 : M.vget (⟨#[128, 0]⟩ : ByteArray) = (0, 0, false) := by
    show M.vgetL [128, 0] = _
    simp [M.vgetL, M.vdec]
  have e2 : M.vget (⟨#[1, 120]⟩ : ByteArray) = (1, 1, true) := by
    show M.vgetL [1, 120] = _
    simp [M.vgetL, M.vdec]
  have e3 : M.vb 300 = [172, 2] := by rw [M.vb_high (by decide), M.vb_low (by decide)]; rfl
  have e4 : M.vb 1 = [1] := by rw [M.vb_low (by decide)]; rfl
  unfold pleachlaw01_awake_p.f varint_Get.f varint_GetInt.f varint_Put.f varint_Int.f M.vgeti
  simp only [Option.bind_some, e1, e2]
  simp [M.zag, M.zig, e3, e4, M.toList_bs, M.bs_sb]
theorem pleachlaw01_awake.calls  (r : Bool) (w : World) (h : pleachlaw01_awake.f  = some r) :
    Calls Try.prog 7 #[] w fun e w' => e = .returned (.bool r) ∧ Below w.heap.size w w' := by
  exact pleachlaw01_awake_p.calls (w := w) (h := pleachlaw01_awake.ev _ h)

/-! ### varint_Row_p: function 20 -/
def varint_Row_p.l0 : Nat → ByteArray → List Int → Int → Int → Option (ByteArray)
  | 0, _, _, _, _ => none
  | k + 1, x3, x6, x7, x8 => if x8 < x7 then (if 0 ≤ x8 then (if x8 < (x6.length : Int) then ((varint_Put.f (rd x6 x8)).bind fun t116 => (if x3.size + t116.size ≤ 9223372036854775807 then (varint_Row_p.l0 k (x3 ++ t116) x6 x7 (wrap64 (x8 + 1))) else (none))) else (none)) else (none)) else (some x3)
def varint_Row_p.f (k : Nat) (l0 : List Int) : Option (ByteArray) := varint_Row_p.l0 k (⟨#[]⟩ : ByteArray) l0 (l0.length : Int) 0
theorem varint_Row_p.mono_l : ∀ k, (∀ y0 y1 y2 y3, LeO (varint_Row_p.l0 k y0 y1 y2 y3) (varint_Row_p.l0 (k + 1) y0 y1 y2 y3))
  | 0 => fun _ _ _ _ r h => by simp [varint_Row_p.l0] at h
  | k + 1 => by
    have ih0 := varint_Row_p.mono_l k
    · intro y0 y1 y2 y3
      unfold varint_Row_p.l0
      repeat' first
      | (with_reducible exact ih0 _ _ _ _)
      | (with_reducible exact LeO.refl _)
      | (with_reducible exact LeO.none _)
      | (with_reducible refine LeO.ite ?_ ?_)
      | (with_reducible refine LeO.bind ?_ (fun _ => ?_))
      | exact ih0 _ _ _ _
      | exact LeO.none _
      | refine LeO.ite ?_ ?_
      | refine LeO.bind ?_ (fun _ => ?_)
theorem varint_Row_p.mono : ∀ a0 k, LeO (varint_Row_p.f k a0) (varint_Row_p.f (k + 1) a0) := by
  intro a0 k
  have ih0 := varint_Row_p.mono_l k
  unfold varint_Row_p.f
  repeat' first
      | (with_reducible exact ih0 _ _ _ _)
      | (with_reducible exact LeO.refl _)
      | (with_reducible exact LeO.none _)
      | (with_reducible refine LeO.ite ?_ ?_)
      | (with_reducible refine LeO.bind ?_ (fun _ => ?_))
      | exact ih0 _ _ _ _
      | exact LeO.none _
      | refine LeO.ite ?_ ?_
      | refine LeO.bind ?_ (fun _ => ?_)
set_option maxHeartbeats 8000000 in
set_option maxRecDepth 100000 in
theorem varint_Row_p.calls (k : Nat) (A0 : Option Addr) (c0 : Nat) (l0 : List Int) (r : ByteArray) (w : World) (hr0 : Kd.C (Kd.int .u64) w A0 l0.length l0) (hc0 : l0.length ≤ c0) (h : varint_Row_p.f k l0 = some r) :
    Calls Try.prog 20 #[.slice A0 l0.length c0] w fun e w' => e = .returned (.string r) ∧ Below w.heap.size w w' := by
  have HR0 := Aside0.mk hr0
  have HC0 := Aside0.mk hc0
  clear hr0 hc0
  have HB := Aside0.mk (Below.refl w.heap.size w)
  have H : (varint_Row_p.l0 k (⟨#[]⟩ : ByteArray) l0 (l0.length : Int) 0) = some r := h
  clear h
  have H' := Aside0.mk H
  clear H
  go_enter Try.func20, Try.ntmps20
  go_wp2
  go_loopg [3, 8] k (fun kq v3 v8 w' => ∃ (x3_1 : ByteArray) (x8_1 : Int), v3 = .string x3_1 ∧ v8 = .int .i64 x8_1 ∧ Aside0 (varint_Row_p.l0 kq x3_1 l0 (l0.length : Int) x8_1 = some r) ∧ Aside0 (kq ≤ k) ∧ Aside0 (Below w.heap.size w w'))
  case atStart => exact ⟨((⟨#[]⟩ : ByteArray)), (0), (by first | rfl | (simp; done) | (simp [*]; done) | (simp [M.isEmpty_bne]; done)), (by first | rfl | (simp; done) | (simp [*]; done) | (simp [M.isEmpty_bne]; done)), H', ⟨Nat.le_refl _⟩, ⟨M.up HB⟩⟩
  case round =>
    clear H'
    obtain ⟨x3_1, x8_1, rfl, rfl, HA, HK1, HB⟩ := hrel
    cases gk with
    | zero => exact absurd HA.out (by simp [varint_Row_p.l0])
    | succ k1 =>
      have H := HA.out
      clear HA
      simp only [varint_Row_p.l0] at H
      by_cases c2 : x8_1 < (l0.length : Int)
      · rw [if_pos c2] at H
        have c2b0 : decide (x8_1 < (l0.length : Int)) = true := decide_eq_true c2
        clear c2
        by_cases c3 : 0 ≤ x8_1
        · rw [if_pos c3] at H
          have c3b0 : decide (0 ≤ x8_1) = true := decide_eq_true c3
          clear c3
          by_cases c4 : x8_1 < (l0.length : Int)
          · rw [if_pos c4] at H
            have c4b0 : decide (x8_1 < (l0.length : Int)) = true := decide_eq_true c4
            clear c4
            replace H := Option.bind_eq_some_iff.mp H
            obtain ⟨t116, A50, H⟩ := H
            replace H : (if x3_1.size + t116.size ≤ 9223372036854775807 then (varint_Row_p.l0 k1 (x3_1 ++ t116) l0 (l0.length : Int) (wrap64 (x8_1 + 1))) else (none)) = some r := H
            have A5 := Aside0.mk A50
            clear A50
            by_cases c6 : x3_1.size + t116.size ≤ 9223372036854775807
            · rw [if_pos c6] at H
              have c6b0 := eq_true c6
              have c6b1 : decide (x3_1.size + t116.size ≤ 9223372036854775807) = true := decide_eq_true c6
              try have c6b2 : (9223372036854775807 < x3_1.size + t116.size) = False := eq_false (Nat.not_lt.2 c6)
              have H' := Aside0.mk H
              clear H
              have p115 : 0 ≤ (x8_1 : Int) := of_decide_eq_true (by first | (with_reducible assumption) | assumption)
              have q115 : x8_1 < (l0.length : Int) := of_decide_eq_true (by first | (with_reducible assumption) | assumption)
              obtain ⟨ad115, e115, hx115_0⟩ := Kd.at_int HR0.out x8_1 p115 q115
              cases e115
              replace hx115_0 := (HB.out.cell (World.block_lt_of_cell? w _ hx115_0)).trans hx115_0
              replace p115 := eq_true p115
              replace q115 := eq_true q115
              go_wp2_with (first | ((with_reducible refine gate_callee (f := 8) rfl ?_); refine M.goes (some 14) Try.func8 #[.int .u64 (rd l0 x8_1)] rfl ?_; (with_reducible refine (varint_Put.calls (rd l0 x8_1) t116 _ A5.out).mono ?_); rintro e w7 ⟨rfl, hb⟩; refine ⟨_, rfl, ?_⟩; have n0_ := M.upS HB hb; clear HB; have HB := n0_; clear n0_; (try clear hb)))
              go_roundg k1
              case measure => have := HK1.out; omega
              case rel => exact ⟨(x3_1 ++ t116), (wrap64 (x8_1 + 1)), (by first | rfl | (simp; done) | (simp [*]; done) | (simp [M.isEmpty_bne]; done)), (by first | rfl | (simp; done) | (simp [*]; done) | (simp [M.isEmpty_bne]; done)), H', ⟨by have := HK1.out; omega⟩, ⟨M.up HB⟩⟩
            · rw [if_neg c6] at H
              exact absurd H (by simp)
          · rw [if_neg c4] at H
            exact absurd H (by simp)
        · rw [if_neg c3] at H
          exact absurd H (by simp)
      · rw [if_neg c2] at H
        have c2b0 : decide (x8_1 < (l0.length : Int)) = false := decide_eq_false c2
        clear c2
        obtain rfl := Option.some.inj H
        go_wp2
        go_ret
        exact M.fin (M.up HB)

-- this session's own plain form
def varint_Row.bytes : List Int → List UInt8
  | [] => []
  | n :: l => M.vb n.toNat ++ varint_Row.bytes l
def varint_Row.f (l : List Int) : Option ByteArray := if l.length ≤ 1000000 ∧ (∀ n ∈ l, 0 ≤ n ∧ n < 18446744073709551616) then some (M.sb (varint_Row.bytes l)) else none
theorem varint_Row.bytes_le (l : List Int) (h : ∀ n ∈ l, 0 ≤ n ∧ n < 18446744073709551616) : (varint_Row.bytes l).length ≤ 10 * l.length := by
  induction l with
  | nil => simp [varint_Row.bytes]
  | cons n l ih =>
    have := ih (fun m hm => h m (List.mem_cons_of_mem _ hm))
    have hn := h n List.mem_cons_self
    have := M.vb_le n.toNat (by omega)
    rw [varint_Row.bytes, List.length_append, List.length_cons]; omega
theorem varint_Row.loop (l : List Int) (hl : l.length ≤ 1000000) (hr : ∀ n ∈ l, 0 ≤ n ∧ n < 18446744073709551616) (d : Nat) : ∀ (i : Nat) (acc : ByteArray), i + d = l.length → acc.size + 10 * d ≤ 100000000 →
    varint_Row_p.l0 (d + 1) acc l (l.length : Int) (i : Int) = some (acc ++ M.sb (varint_Row.bytes (l.drop i))) := by
  induction d with
  | zero =>
    intro i acc hi _
    rw [varint_Row_p.l0, if_neg (by omega), List.drop_of_length_le (by omega)]
    rw [show acc ++ M.sb (varint_Row.bytes []) = acc from M.bs_inj (by rw [M.bs_append, M.bs_sb]; simp [varint_Row.bytes])]
  | succ d ih =>
    intro i acc hi hz
    have hlt : i < l.length := by omega
    have hrd : rd l (i : Int) = l[i] := by simp [rd, List.getD, hlt]
    have hn := hr _ (List.getElem_mem hlt)
    rw [varint_Row_p.l0, if_pos (by omega), if_pos (by omega), if_pos (by omega), hrd, List.drop_eq_getElem_cons hlt]
    generalize l[i] = n at hn
    have hv := M.vb_le n.toNat (by omega)
    unfold varint_Put.f
    rw [if_pos hn, Option.bind_some, if_pos (by rw [M.size_sb]; omega), M.wrap64_id (i := (i : Int) + 1) (by omega) (by omega), show (i : Int) + 1 = ((i + 1 : Nat) : Int) from by omega, ih (i + 1) _ (by omega) (by rw [M.size_append, M.size_sb]; omega)]
    congr 1
    apply M.bs_inj
    simp only [M.bs_append, M.bs_sb, varint_Row.bytes, List.append_assoc]
theorem varint_Row.ev (l : List Int) (r : ByteArray) (h : varint_Row.f l = some r) : ∃ k, varint_Row_p.f k l = some r := by
  unfold varint_Row.f at h
  split at h
  case isFalse => cases h
  case isTrue hh =>
    refine ⟨l.length + 1, ?_⟩
    have := varint_Row.loop l hh.1 hh.2 l.length 0 ⟨#[]⟩ (by omega) (by show 0 + _ ≤ _; omega)
    unfold varint_Row_p.f
    rw [show (0 : Int) = ((0 : Nat) : Int) from rfl, this, ← h, List.drop_zero]
    exact congrArg some (M.bs_inj (by rw [M.bs_append]; rfl))
theorem varint_Row.calls (A0 : Option Addr) (c0 : Nat) (l0 : List Int) (r : ByteArray) (w : World) (hr0 : Kd.C (Kd.int .u64) w A0 l0.length l0) (hc0 : l0.length ≤ c0) (h : varint_Row.f l0 = some r) :
    Calls Try.prog 20 #[.slice A0 l0.length c0] w fun e w' => e = .returned (.string r) ∧ Below w.heap.size w w' := by
  obtain ⟨k, hk⟩ := varint_Row.ev _ _ h
  exact varint_Row_p.calls (k := k) (w := w) (h := hk) (hr0 := hr0) (hc0 := hc0)

end Go.Proofs.Ytaooolfledfhoaa.EVarintRows
