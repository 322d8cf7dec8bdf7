-- Written by this session's own program (wip/tools/ext.py) for this claim; Lean checks it.
import Derived.Test.YtaooolfledfhoaaEVarintRowsx0
import Derived.Test.YtaooolfledfhoaaEVarintRowsx2
namespace Go.Proofs.Ytaooolfledfhoaa.EVarintRows
open Go.RowKit Go.Proofs.YtaooolfledfhoaaW.PrintWords Go.Proofs.YtaooolfledfhoaaW.PrintLast Go.Proofs.YtaooolfledfhoaaW.PrintMore
attribute [local go_sem] M.run_leq M.run_gtr M.run_geq max2_int min2_int max_two min_two max_three min_three max_four min_four   -- for this text's walks alone
set_option linter.unusedVariables false
set_option linter.unusedSimpArgs false

/-! ### pleachref01_Get_p: function 11 -/
mutual
def pleachref01_Get_p.j1 : Nat → ByteArray → Int → Option (Int × Int × Bool)
  | 0, _, _ => none
  | k + 1, x0, x5 => if x5 ≥ (x0.size : Int) then (pleachref01_Get_p.j2 k x0 x5 true) else (pleachref01_Get_p.j2 k x0 x5 (decide (x5 > 9)))
def pleachref01_Get_p.j2 : Nat → ByteArray → Int → Bool → Option (Int × Int × Bool)
  | 0, _, _, _ => none
  | k + 1, x0, x5, x27 => if x27 = true then (some (0, 0, false)) else (pleachref01_Get_p.l1 k x0 x5 0 x5)
def pleachref01_Get_p.l1 : Nat → ByteArray → Int → Int → Int → Option (Int × Int × Bool)
  | 0, _, _, _, _ => none
  | k + 1, x0, x5, x6, x7 => if x7 ≥ 0 then (if 0 ≤ x7 then (if x7 < (x0.size : Int) then (pleachref01_Get_p.l1 k x0 x5 (IntKind.u64.wrap ((IntKind.u64.wrap (x6 * 128)) + (Int.tmod (IntKind.u64.wrap (bt x0 x7)) 128))) (wrap64 (x7 - 1))) else (none)) else (none)) else ((pleachref01_Put.f x6).bind fun t135 => (if 0 ≤ (wrap64 (x5 + 1)) then (if (wrap64 (x5 + 1)) ≤ (x0.size : Int) then (if t135.toList = (x0.extract 0 ((wrap64 (x5 + 1)) : Int).toNat).toList then (some (x6, wrap64 (x5 + 1), true)) else (some (0, 0, false))) else (none)) else (none)))
def pleachref01_Get_p.l0 : Nat → ByteArray → Int → Option (Int × Int × Bool)
  | 0, _, _ => none
  | k + 1, x0, x5 => if x5 < (x0.size : Int) then (if 0 ≤ x5 then (if (bt x0 x5) ≥ 128 then (pleachref01_Get_p.l0 k x0 (wrap64 (x5 + 1))) else (pleachref01_Get_p.j1 k x0 x5)) else (none)) else (pleachref01_Get_p.j1 k x0 x5)
end
def pleachref01_Get_p.f (k : Nat) (a0 : ByteArray) : Option (Int × Int × Bool) := pleachref01_Get_p.l0 k a0 0
theorem pleachref01_Get_p.mono_l : ∀ k, (∀ y0 y1, LeO (pleachref01_Get_p.j1 k y0 y1) (pleachref01_Get_p.j1 (k + 1) y0 y1)) ∧ (∀ y0 y1 y2, LeO (pleachref01_Get_p.j2 k y0 y1 y2) (pleachref01_Get_p.j2 (k + 1) y0 y1 y2)) ∧ (∀ y0 y1 y2 y3, LeO (pleachref01_Get_p.l1 k y0 y1 y2 y3) (pleachref01_Get_p.l1 (k + 1) y0 y1 y2 y3)) ∧ (∀ y0 y1, LeO (pleachref01_Get_p.l0 k y0 y1) (pleachref01_Get_p.l0 (k + 1) y0 y1))
  | 0 => ⟨fun _ _ r h => by simp [pleachref01_Get_p.j1] at h, fun _ _ _ r h => by simp [pleachref01_Get_p.j2] at h, fun _ _ _ _ r h => by simp [pleachref01_Get_p.l1] at h, fun _ _ r h => by simp [pleachref01_Get_p.l0] at h⟩
  | k + 1 => by
    obtain ⟨ih0, ih1, ih2, ih3⟩ := pleachref01_Get_p.mono_l k
    refine ⟨?_, ?_, ?_, ?_⟩
    · intro y0 y1
      unfold pleachref01_Get_p.j1
      repeat' first
      | (with_reducible exact ih0 _ _)
      | (with_reducible exact ih1 _ _ _)
      | (with_reducible exact ih2 _ _ _ _)
      | (with_reducible exact ih3 _ _)
      | (with_reducible exact LeO.refl _)
      | (with_reducible exact LeO.none _)
      | (with_reducible refine LeO.ite ?_ ?_)
      | (with_reducible refine LeO.bind ?_ (fun _ => ?_))
      | exact ih0 _ _
      | exact ih1 _ _ _
      | exact ih2 _ _ _ _
      | exact ih3 _ _
      | exact LeO.none _
      | refine LeO.ite ?_ ?_
      | refine LeO.bind ?_ (fun _ => ?_)
    · intro y0 y1 y2
      unfold pleachref01_Get_p.j2
      repeat' first
      | (with_reducible exact ih0 _ _)
      | (with_reducible exact ih1 _ _ _)
      | (with_reducible exact ih2 _ _ _ _)
      | (with_reducible exact ih3 _ _)
      | (with_reducible exact LeO.refl _)
      | (with_reducible exact LeO.none _)
      | (with_reducible refine LeO.ite ?_ ?_)
      | (with_reducible refine LeO.bind ?_ (fun _ => ?_))
      | exact ih0 _ _
      | exact ih1 _ _ _
      | exact ih2 _ _ _ _
      | exact ih3 _ _
      | exact LeO.none _
      | refine LeO.ite ?_ ?_
      | refine LeO.bind ?_ (fun _ => ?_)
    · intro y0 y1 y2 y3
      unfold pleachref01_Get_p.l1
      repeat' first
      | (with_reducible exact ih0 _ _)
      | (with_reducible exact ih1 _ _ _)
      | (with_reducible exact ih2 _ _ _ _)
      | (with_reducible exact ih3 _ _)
      | (with_reducible exact LeO.refl _)
      | (with_reducible exact LeO.none _)
      | (with_reducible refine LeO.ite ?_ ?_)
      | (with_reducible refine LeO.bind ?_ (fun _ => ?_))
      | exact ih0 _ _
      | exact ih1 _ _ _
      | exact ih2 _ _ _ _
      | exact ih3 _ _
      | exact LeO.none _
      | refine LeO.ite ?_ ?_
      | refine LeO.bind ?_ (fun _ => ?_)
    · intro y0 y1
      unfold pleachref01_Get_p.l0
      repeat' first
      | (with_reducible exact ih0 _ _)
      | (with_reducible exact ih1 _ _ _)
      | (with_reducible exact ih2 _ _ _ _)
      | (with_reducible exact ih3 _ _)
      | (with_reducible exact LeO.refl _)
      | (with_reducible exact LeO.none _)
      | (with_reducible refine LeO.ite ?_ ?_)
      | (with_reducible refine LeO.bind ?_ (fun _ => ?_))
      | exact ih0 _ _
      | exact ih1 _ _ _
      | exact ih2 _ _ _ _
      | exact ih3 _ _
      | exact LeO.none _
      | refine LeO.ite ?_ ?_
      | refine LeO.bind ?_ (fun _ => ?_)
theorem pleachref01_Get_p.mono : ∀ a0 k, LeO (pleachref01_Get_p.f k a0) (pleachref01_Get_p.f (k + 1) a0) := by
  intro a0 k
  obtain ⟨ih0, ih1, ih2, ih3⟩ := pleachref01_Get_p.mono_l k
  unfold pleachref01_Get_p.f
  repeat' first
      | (with_reducible exact ih0 _ _)
      | (with_reducible exact ih1 _ _ _)
      | (with_reducible exact ih2 _ _ _ _)
      | (with_reducible exact ih3 _ _)
      | (with_reducible exact LeO.refl _)
      | (with_reducible exact LeO.none _)
      | (with_reducible refine LeO.ite ?_ ?_)
      | (with_reducible refine LeO.bind ?_ (fun _ => ?_))
      | exact ih0 _ _
      | exact ih1 _ _ _
      | exact ih2 _ _ _ _
      | exact ih3 _ _
      | exact LeO.none _
      | refine LeO.ite ?_ ?_
      | refine LeO.bind ?_ (fun _ => ?_)
set_option maxHeartbeats 8000000 in
set_option maxRecDepth 100000 in
theorem pleachref01_Get_p.calls (k : Nat) (a0 : ByteArray) (r1 : Int) (r2 : Int) (r3 : Bool) (w : World) (h : pleachref01_Get_p.f k a0 = some (r1, r2, r3)) :
    Calls Try.prog 11 #[.string a0] w fun e w' => e = .returned (.tuple #[.int .u64 r1, .int .i64 r2, .bool r3]) ∧ Below w.heap.size w w' := by
  have HB := Aside0.mk (Below.refl w.heap.size w)
  have H : (pleachref01_Get_p.l0 k a0 0) = some (r1, r2, r3) := h
  clear h
  have HC2 := Aside0.mk H
  clear H
  go_enter Try.func11, Try.ntmps11
  go_upto_block 0 with (fail)
  go_cut [5] (fun v5 wc => ∃ (kq : Nat) (x5_1 : Int), v5 = .int .i64 x5_1 ∧ Aside0 (pleachref01_Get_p.j1 kq a0 x5_1 = some (r1, r2, r3)) ∧ Aside0 (kq ≤ k) ∧ Aside0 (Below w.heap.size w wc))
  case first =>
    have H := HC2.out
    clear HC2
    have H' := Aside0.mk H
    clear H
    go_wp2
    go_loopg [5] k (fun kq v5 w' => ∃ (x5_1 : Int), v5 = .int .i64 x5_1 ∧ Aside0 (pleachref01_Get_p.l0 kq a0 x5_1 = some (r1, r2, r3)) ∧ Aside0 (kq ≤ k) ∧ Aside0 (Below w.heap.size w w'))
    case atStart => exact ⟨(0), (by first | rfl | (simp; done) | (simp [*]; done) | (simp [M.isEmpty_bne]; done)), H', ⟨Nat.le_refl _⟩, ⟨M.up HB⟩⟩
    case round =>
      clear H'
      try clear c1
      try clear p2
      obtain ⟨x5_1, rfl, HA, HK1, HB⟩ := hrel
      cases gk with
      | zero => exact absurd HA.out (by simp [pleachref01_Get_p.l0])
      | succ k1 =>
        have H := HA.out
        clear HA
        simp only [pleachref01_Get_p.l0] at H
        by_cases c3 : x5_1 < (a0.size : Int)
        · rw [if_pos c3] at H
          have c3b0 : decide (x5_1 < (a0.size : Int)) = true := decide_eq_true c3
          clear c3
          (first | rw [c3b0] | (simp only [i64_w, i32_w]; rw [c3b0]) | skip)
          by_cases c4 : 0 ≤ x5_1
          · rw [if_pos c4] at H
            have c4b0 : decide (0 ≤ x5_1) = true := decide_eq_true c4
            clear c4
            by_cases c6 : (bt a0 x5_1) ≥ 128
            · rw [if_pos c6] at H
              have c6b0 : decide (128 ≤ (bt a0 x5_1)) = true := decide_eq_true c6
              clear c6
              have H' := Aside0.mk H
              clear H
              have p5 : 0 ≤ (x5_1 : Int) := of_decide_eq_true (by first | (with_reducible assumption) | assumption)
              have q5 : x5_1 < (a0.size : Int) := of_decide_eq_true (by first | (with_reducible assumption) | assumption)
              have hx5 := bt_at a0 x5_1
              replace p5 := eq_true p5
              replace q5 := eq_true q5
              go_wp2
              go_roundg k1
              case measure => have := HK1.out; omega
              case rel => exact ⟨(wrap64 (x5_1 + 1)), (by first | rfl | (simp; done) | (simp [*]; done) | (simp [M.isEmpty_bne]; done)), H', ⟨by have := HK1.out; omega⟩, ⟨M.up HB⟩⟩
            · rw [if_neg c6] at H
              have c6b0 : decide (128 ≤ (bt a0 x5_1)) = false := decide_eq_false c6
              clear c6
              have H' := Aside0.mk H
              clear H
              have p5 : 0 ≤ (x5_1 : Int) := of_decide_eq_true (by first | (with_reducible assumption) | assumption)
              have q5 : x5_1 < (a0.size : Int) := of_decide_eq_true (by first | (with_reducible assumption) | assumption)
              have hx5 := bt_at a0 x5_1
              replace p5 := eq_true p5
              replace q5 := eq_true q5
              go_wp2
              go_meet
              case rel => exact ⟨_, (x5_1), (by first | rfl | (simp; done) | (simp [*]; done) | (simp [M.isEmpty_bne]; done)), H', ⟨by have := HK1.out; first | omega | exact Nat.le_refl _⟩, ⟨M.up HB⟩⟩
          · rw [if_neg c4] at H
            exact absurd H (by simp)
        · rw [if_neg c3] at H
          have c3b0 : decide (x5_1 < (a0.size : Int)) = false := decide_eq_false c3
          clear c3
          (first | rw [c3b0] | (simp only [i64_w, i32_w]; rw [c3b0]) | skip)
          have H' := Aside0.mk H
          clear H
          go_wp2
          go_meet
          case rel => exact ⟨_, (x5_1), (by first | rfl | (simp; done) | (simp [*]; done) | (simp [M.isEmpty_bne]; done)), H', ⟨by have := HK1.out; first | omega | exact Nat.le_refl _⟩, ⟨M.up HB⟩⟩
  case rest =>
    clear HC2
    try clear c1
    try clear p2
    try clear c3
    try clear c3b0
    try clear c4
    try clear c4b0
    try clear p5
    try clear q5
    try clear hx5
    try clear c6
    try clear c6b0
    try clear p6
    try clear p2
    try clear p5
    try clear q5
    obtain ⟨kq, x5_1, rfl, HA, HJ1, HB⟩ := hcut
    cases kq with
    | zero => exact absurd HA.out (by simp [pleachref01_Get_p.j1])
    | succ kj1 =>
      have H := HA.out
      clear HA
      simp only [pleachref01_Get_p.j1] at H
      have HC7 := Aside0.mk H
      clear H
      go_upto_region 4 with (fail)
      go_cut [27] (fun v27 wc => ∃ (kq : Nat) (x27_6 : Bool), v27 = .bool x27_6 ∧ Aside0 (pleachref01_Get_p.j2 kq a0 x5_1 x27_6 = some (r1, r2, r3)) ∧ Aside0 (kq ≤ kj1) ∧ Aside0 (Below w.heap.size w wc))
      case first =>
        have H := HC7.out
        clear HC7
        by_cases c8 : x5_1 ≥ (a0.size : Int)
        · rw [if_pos c8] at H
          have c8b0 : decide ((a0.size : Int) ≤ x5_1) = true := decide_eq_true c8
          clear c8
          (first | rw [c8b0] | (simp only [i64_w, i32_w]; rw [c8b0]) | skip)
          have H' := Aside0.mk H
          clear H
          go_wp2
          go_meet
          case rel => exact ⟨_, (true), (by first | rfl | (simp; done) | (simp [*]; done) | (simp [M.isEmpty_bne]; done)), H', ⟨by have := HJ1.out; first | omega | exact Nat.le_refl _⟩, ⟨M.up HB⟩⟩
        · rw [if_neg c8] at H
          have c8b0 : decide ((a0.size : Int) ≤ x5_1) = false := decide_eq_false c8
          clear c8
          (first | rw [c8b0] | (simp only [i64_w, i32_w]; rw [c8b0]) | skip)
          have H' := Aside0.mk H
          clear H
          go_wp2
          go_meet
          case rel => exact ⟨_, (decide (x5_1 > 9)), (by first | rfl | (simp; done) | (simp [*]; done) | (simp [M.isEmpty_bne]; done)), H', ⟨by have := HJ1.out; first | omega | exact Nat.le_refl _⟩, ⟨M.up HB⟩⟩
      case rest =>
        clear HC7
        try clear c1
        try clear p2
        try clear c3
        try clear c3b0
        try clear c4
        try clear c4b0
        try clear p5
        try clear q5
        try clear hx5
        try clear c6
        try clear c6b0
        try clear p6
        try clear c8
        try clear c8b0
        try clear p2
        try clear p5
        try clear p6
        try clear q5
        obtain ⟨kq, x27_6, rfl, HA, HJ6, HB⟩ := hcut
        cases kq with
        | zero => exact absurd HA.out (by simp [pleachref01_Get_p.j2])
        | succ kj6 =>
          have H := HA.out
          clear HA
          simp only [pleachref01_Get_p.j2] at H
          by_cases c9 : x27_6 = true
          · subst c9
            have H1 : (some (0, 0, false)) = some (r1, r2, r3) := by rw [if_pos rfl] at H; exact H
            clear H
            have H := H1
            clear H1
            simp only [Option.some.injEq, Prod.mk.injEq] at H
            obtain ⟨rfl, rfl, rfl⟩ := H
            go_wp2
            go_ret3
            exact M.fin (M.up HB)
          · replace c9 := Bool.eq_false_iff.mpr c9
            subst c9
            have H1 : (pleachref01_Get_p.l1 kj6 a0 x5_1 0 x5_1) = some (r1, r2, r3) := by rw [if_neg (show ¬ (false = true) by decide)] at H; exact H
            clear H
            have H := H1
            clear H1
            have H' := Aside0.mk H
            clear H
            go_wp2
            go_loopg [6, 7] kj6 (fun kq v6 v7 w' => ∃ (x6_3 : Int) (x7_3 : Int), v6 = .int .u64 x6_3 ∧ v7 = .int .i64 x7_3 ∧ Aside0 (pleachref01_Get_p.l1 kq a0 x5_1 x6_3 x7_3 = some (r1, r2, r3)) ∧ Aside0 (kq ≤ kj6) ∧ Aside0 (Below w.heap.size w w'))
            case atStart => exact ⟨(0), (x5_1), (by first | rfl | (simp; done) | (simp [*]; done) | (simp [M.isEmpty_bne]; done)), (by first | rfl | (simp; done) | (simp [*]; done) | (simp [M.isEmpty_bne]; done)), H', ⟨Nat.le_refl _⟩, ⟨M.up HB⟩⟩
            case round =>
              clear H'
              try clear c1
              try clear p2
              try clear c3
              try clear c3b0
              try clear c4
              try clear c4b0
              try clear p5
              try clear q5
              try clear hx5
              try clear c6
              try clear c6b0
              try clear p6
              try clear c8
              try clear c8b0
              try clear c9
              try clear p2
              try clear p5
              try clear p6
              try clear q5
              obtain ⟨x6_3, x7_3, rfl, rfl, HA, HK3, HB⟩ := hrel
              cases gk with
              | zero => exact absurd HA.out (by simp [pleachref01_Get_p.l1])
              | succ k3 =>
                have H := HA.out
                clear HA
                simp only [pleachref01_Get_p.l1] at H
                by_cases c10 : x7_3 ≥ 0
                · rw [if_pos c10] at H
                  have c10b0 : decide (0 ≤ x7_3) = true := decide_eq_true c10
                  clear c10
                  by_cases c11 : 0 ≤ x7_3
                  · rw [if_pos c11] at H
                    have c11b0 : decide (0 ≤ x7_3) = true := decide_eq_true c11
                    clear c11
                    by_cases c12 : x7_3 < (a0.size : Int)
                    · rw [if_pos c12] at H
                      have c12b0 : decide (x7_3 < (a0.size : Int)) = true := decide_eq_true c12
                      clear c12
                      have H' := Aside0.mk H
                      clear H
                      have p13 : 0 ≤ (x7_3 : Int) := of_decide_eq_true (by first | (with_reducible assumption) | assumption)
                      have q13 : x7_3 < (a0.size : Int) := of_decide_eq_true (by first | (with_reducible assumption) | assumption)
                      have hx13 := bt_at a0 x7_3
                      replace p13 := eq_true p13
                      replace q13 := eq_true q13
                      go_wp2
                      go_roundg k3
                      case measure => have := HJ1.out; have := HJ6.out; have := HK3.out; omega
                      case rel => exact ⟨(IntKind.u64.wrap ((IntKind.u64.wrap (x6_3 * 128)) + (Int.tmod (IntKind.u64.wrap (bt a0 x7_3)) 128))), (wrap64 (x7_3 - 1)), (by first | rfl | (simp; done) | (simp [*]; done) | (simp [M.isEmpty_bne]; done)), (by first | rfl | (simp; done) | (simp [*]; done) | (simp [M.isEmpty_bne]; done)), H', ⟨by have := HJ1.out; have := HJ6.out; have := HK3.out; omega⟩, ⟨M.up HB⟩⟩
                    · rw [if_neg c12] at H
                      exact absurd H (by simp)
                  · rw [if_neg c11] at H
                    exact absurd H (by simp)
                · rw [if_neg c10] at H
                  have c10b0 : decide (0 ≤ x7_3) = false := decide_eq_false c10
                  clear c10
                  replace H := Option.bind_eq_some_iff.mp H
                  obtain ⟨t135, A140, H⟩ := H
                  replace H : (if 0 ≤ (wrap64 (x5_1 + 1)) then (if (wrap64 (x5_1 + 1)) ≤ (a0.size : Int) then (if t135.toList = (a0.extract 0 ((wrap64 (x5_1 + 1)) : Int).toNat).toList then (some (x6_3, wrap64 (x5_1 + 1), true)) else (some (0, 0, false))) else (none)) else (none)) = some (r1, r2, r3) := H
                  have A14 := Aside0.mk A140
                  clear A140
                  obtain ⟨ji15, hji15⟩ : ∃ j_ : Int, (wrap64 (x5_1 + 1)) = j_ := ⟨_, rfl⟩
                  replace H : (if 0 ≤ (ji15) then (if (ji15) ≤ (a0.size : Int) then (if t135.toList = (a0.extract 0 ((ji15) : Int).toNat).toList then (some (x6_3, ji15, true)) else (some (0, 0, false))) else (none)) else (none)) = some (r1, r2, r3) := by first | (rw [hji15] at H; exact H) | (simp only [hji15] at H ⊢; exact H)
                  (try rw [hji15] at A14)
                  have hji15w : (IntKind.i64.wrap (x5_1 + 1)) = ji15 := (i64_w _).trans hji15
                  by_cases c16 : 0 ≤ (ji15)
                  · rw [if_pos c16] at H
                    have c16b0 := eq_true c16
                    have c16b1 : decide (0 ≤ (ji15)) = true := decide_eq_true c16
                    clear c16
                    by_cases c17 : (ji15) ≤ (a0.size : Int)
                    · rw [if_pos c17] at H
                      have c17b0 := eq_true c17
                      have c17b1 : decide ((ji15) ≤ (a0.size : Int)) = true := decide_eq_true c17
                      clear c17
                      by_cases c18 : t135.toList = (a0.extract 0 ((ji15) : Int).toNat).toList
                      · rw [if_pos c18] at H
                        have c18b0 : (t135.toList == (a0.extract 0 ((ji15) : Int).toNat).toList) = true := beq_iff_eq.mpr c18
                        have c18b1 : (t135.toList != (a0.extract 0 ((ji15) : Int).toNat).toList) = false := bne_eq_false_iff_eq.mpr c18
                        clear c18
                        simp only [Option.some.injEq, Prod.mk.injEq] at H
                        obtain ⟨rfl, rfl, rfl⟩ := H
                        try go_wp2
                        have n0_ := Aside0.mk (below_drew1 HB.out)
                        clear HB
                        have HB := n0_
                        clear n0_
                        refine start_ (n := 7) (S := fun w' => True) (ds := []) #[false, false, false, false, false, false, false] (by kernel_rfl) rfl rfl trivial (fun hHeld => ?_)
                        generalize wr.drew = w19 at HB hHeld ⊢
                        refine pure_ (i := 0) (N := some 41) (v := ?_) (a' := ?_) #[true, false, false, false, false, false, false] rfl rfl (by kernel_rfl) (fun _ _ _ h => h) (Or.inl ⟨by rfl, ?_⟩) ?_ ?_
                        rotate_left
                        · intro w'
                          go_simp
                          with_reducible rfl
                        rotate_left
                        · simp only [Act.put, List.setIfInBounds_toArray, List.set_cons_zero, List.set_cons_succ, i64_w, i32_w]
                          rfl
                        refine pure_ (i := 2) (N := some 43) (v := ?_) (a' := ?_) #[true, false, true, false, false, false, false] rfl rfl (by kernel_rfl) (fun _ _ _ h => h) (Or.inl ⟨by rfl, ?_⟩) ?_ ?_
                        rotate_left
                        · intro w'
                          go_simp
                          with_reducible rfl
                        rotate_left
                        · simp only [Act.put, List.setIfInBounds_toArray, List.set_cons_zero, List.set_cons_succ, i64_w, i32_w]
                          rfl
                        refine pure_ (i := 3) (N := some 44) (v := ?_) (a' := ?_) #[true, false, true, true, false, false, false] rfl rfl (by kernel_rfl) (fun _ _ _ h => h) (Or.inl ⟨by rfl, ?_⟩) ?_ ?_
                        rotate_left
                        · intro w'
                          go_simp
                          with_reducible rfl
                        rotate_left
                        · simp only [Act.put, List.setIfInBounds_toArray, List.set_cons_zero, List.set_cons_succ, i64_w, i32_w]
                          rfl
                        refine pure_ (i := 4) (N := some 45) (v := ?_) (a' := ?_) #[true, false, true, true, true, false, false] rfl rfl (by kernel_rfl) (fun _ _ _ h => h) (Or.inl ⟨by rfl, ?_⟩) ?_ ?_
                        rotate_left
                        · intro w'
                          go_simp
                          with_reducible rfl
                        rotate_left
                        · simp only [Act.put, List.setIfInBounds_toArray, List.set_cons_zero, List.set_cons_succ, i64_w, i32_w]
                          rfl
                        refine pure_ (i := 5) (N := some 46) (v := ?_) (a' := ?_) #[true, false, true, true, true, true, false] rfl rfl (by kernel_rfl) (fun _ _ _ h => h) (Or.inl ⟨by rfl, ?_⟩) ?_ ?_
                        rotate_left
                        · intro w'
                          go_simp
                          with_reducible rfl
                        rotate_left
                        · simp only [Act.put, List.setIfInBounds_toArray, List.set_cons_zero, List.set_cons_succ, i64_w, i32_w]
                          rfl
                        refine one_ (i := 1) (N := some 42) #[true, true, true, true, true, true, false] rfl rfl (by kernel_rfl) (by decide) (fun K hK => ?_)
                        refine goes_ Try.func17 (by kernel_rfl) rfl #[.int .u64 x6_3] (by rfl) rfl rfl (by (try simp only [List.map_toArray, List.map_cons, List.map_nil]); first | done | rfl | (simp only [List.length_drop, List.length_take]; rfl)) ?_
                        with_reducible refine (pleachref01_Put.calls x6_3 t135 _ A14.out).mono ?_
                        rintro e w20 ⟨rfl, hb⟩
                        refine ⟨_, rfl, ?_⟩
                        have n0_ := M.upS HB hb
                        clear HB
                        have HB := n0_
                        clear n0_
                        (try clear hb)
                        (try clear hb2)
                        (try clear hk)
                        (try clear hi)
                        refine hK.out _ _ trivial (fun hHeld => ?_)
                        clear hK K
                        refine norm_ (a' := ?_) ?_ ?_
                        rotate_left
                        · show Act.put _ (some 42) _ = _
                          simp only [Act.put, List.setIfInBounds_toArray, List.set_cons_zero, List.set_cons_succ, i64_w, i32_w]
                          rfl
                        refine pure_ (i := 6) (N := some 47) (v := ?_) (a' := ?_) #[true, true, true, true, true, true, true] rfl rfl (by kernel_rfl) (fun _ _ _ h => h) (Or.inl ⟨by rfl, ?_⟩) ?_ ?_
                        rotate_left
                        · intro w'
                          go_simp
                          with_reducible rfl
                        rotate_left
                        · simp only [Act.put, List.setIfInBounds_toArray, List.set_cons_zero, List.set_cons_succ, i64_w, i32_w]
                          rfl
                        refine done_ (by kernel_rfl) ?_
                        try go_wp2
                        go_ret3
                        exact ⟨by first | rfl | (simp [errW_none, errW_some] <;> rfl) | (simp only [← hji15]; first | rfl | (simp [errW_none, errW_some] <;> rfl)) | (simp [*, errW_none, errW_some] <;> rfl), M.up HB⟩
                      · rw [if_neg c18] at H
                        have c18b0 : (t135.toList == (a0.extract 0 ((ji15) : Int).toNat).toList) = false := beq_eq_false_iff_ne.mpr c18
                        have c18b1 : (t135.toList != (a0.extract 0 ((ji15) : Int).toNat).toList) = true := bne_iff_ne.mpr c18
                        simp only [Option.some.injEq, Prod.mk.injEq] at H
                        obtain ⟨rfl, rfl, rfl⟩ := H
                        try go_wp2
                        have n0_ := Aside0.mk (below_drew1 HB.out)
                        clear HB
                        have HB := n0_
                        clear n0_
                        refine start_ (n := 7) (S := fun w' => True) (ds := []) #[false, false, false, false, false, false, false] (by kernel_rfl) rfl rfl trivial (fun hHeld => ?_)
                        generalize wr.drew = w21 at HB hHeld ⊢
                        refine pure_ (i := 0) (N := some 41) (v := ?_) (a' := ?_) #[true, false, false, false, false, false, false] rfl rfl (by kernel_rfl) (fun _ _ _ h => h) (Or.inl ⟨by rfl, ?_⟩) ?_ ?_
                        rotate_left
                        · intro w'
                          go_simp
                          with_reducible rfl
                        rotate_left
                        · simp only [Act.put, List.setIfInBounds_toArray, List.set_cons_zero, List.set_cons_succ, i64_w, i32_w]
                          rfl
                        refine pure_ (i := 2) (N := some 43) (v := ?_) (a' := ?_) #[true, false, true, false, false, false, false] rfl rfl (by kernel_rfl) (fun _ _ _ h => h) (Or.inl ⟨by rfl, ?_⟩) ?_ ?_
                        rotate_left
                        · intro w'
                          go_simp
                          with_reducible rfl
                        rotate_left
                        · simp only [Act.put, List.setIfInBounds_toArray, List.set_cons_zero, List.set_cons_succ, i64_w, i32_w]
                          rfl
                        refine pure_ (i := 3) (N := some 44) (v := ?_) (a' := ?_) #[true, false, true, true, false, false, false] rfl rfl (by kernel_rfl) (fun _ _ _ h => h) (Or.inl ⟨by rfl, ?_⟩) ?_ ?_
                        rotate_left
                        · intro w'
                          go_simp
                          with_reducible rfl
                        rotate_left
                        · simp only [Act.put, List.setIfInBounds_toArray, List.set_cons_zero, List.set_cons_succ, i64_w, i32_w]
                          rfl
                        refine pure_ (i := 4) (N := some 45) (v := ?_) (a' := ?_) #[true, false, true, true, true, false, false] rfl rfl (by kernel_rfl) (fun _ _ _ h => h) (Or.inl ⟨by rfl, ?_⟩) ?_ ?_
                        rotate_left
                        · intro w'
                          go_simp
                          with_reducible rfl
                        rotate_left
                        · simp only [Act.put, List.setIfInBounds_toArray, List.set_cons_zero, List.set_cons_succ, i64_w, i32_w]
                          rfl
                        refine pure_ (i := 5) (N := some 46) (v := ?_) (a' := ?_) #[true, false, true, true, true, true, false] rfl rfl (by kernel_rfl) (fun _ _ _ h => h) (Or.inl ⟨by rfl, ?_⟩) ?_ ?_
                        rotate_left
                        · intro w'
                          go_simp
                          with_reducible rfl
                        rotate_left
                        · simp only [Act.put, List.setIfInBounds_toArray, List.set_cons_zero, List.set_cons_succ, i64_w, i32_w]
                          rfl
                        refine one_ (i := 1) (N := some 42) #[true, true, true, true, true, true, false] rfl rfl (by kernel_rfl) (by decide) (fun K hK => ?_)
                        refine goes_ Try.func17 (by kernel_rfl) rfl #[.int .u64 x6_3] (by rfl) rfl rfl (by (try simp only [List.map_toArray, List.map_cons, List.map_nil]); first | done | rfl | (simp only [List.length_drop, List.length_take]; rfl)) ?_
                        with_reducible refine (pleachref01_Put.calls x6_3 t135 _ A14.out).mono ?_
                        rintro e w22 ⟨rfl, hb⟩
                        refine ⟨_, rfl, ?_⟩
                        have n0_ := M.upS HB hb
                        clear HB
                        have HB := n0_
                        clear n0_
                        (try clear hb)
                        (try clear hb2)
                        (try clear hk)
                        (try clear hi)
                        refine hK.out _ _ trivial (fun hHeld => ?_)
                        clear hK K
                        refine norm_ (a' := ?_) ?_ ?_
                        rotate_left
                        · show Act.put _ (some 42) _ = _
                          simp only [Act.put, List.setIfInBounds_toArray, List.set_cons_zero, List.set_cons_succ, i64_w, i32_w]
                          rfl
                        refine pure_ (i := 6) (N := some 47) (v := ?_) (a' := ?_) #[true, true, true, true, true, true, true] rfl rfl (by kernel_rfl) (fun _ _ _ h => h) (Or.inl ⟨by rfl, ?_⟩) ?_ ?_
                        rotate_left
                        · intro w'
                          go_simp
                          with_reducible rfl
                        rotate_left
                        · simp only [Act.put, List.setIfInBounds_toArray, List.set_cons_zero, List.set_cons_succ, i64_w, i32_w]
                          rfl
                        refine done_ (by kernel_rfl) ?_
                        try go_wp2
                        go_ret3
                        exact ⟨by first | rfl | (simp [errW_none, errW_some] <;> rfl) | (simp only [← hji15]; first | rfl | (simp [errW_none, errW_some] <;> rfl)) | (simp [*, errW_none, errW_some] <;> rfl), M.up HB⟩
                    · rw [if_neg c17] at H
                      exact absurd H (by simp)
                  · rw [if_neg c16] at H
                    exact absurd H (by simp)

-- this session's own plain form
def pleachref01_Get.f (a0 : ByteArray) : Option (Int × Int × Bool) := if a0.size ≤ 9223372036854775806 then some (M.vget a0) else none
theorem pleachref01_Get.end_ (s : ByteArray) (hs : s.size ≤ 9223372036854775806) (j d : Nat) : ∀ i, i ≤ s.size → M.lead ((M.bs s).drop i) = d →
    pleachref01_Get_p.l0 (d + 1 + j) s (i : Int) = pleachref01_Get_p.j1 j s ((i + d : Nat) : Int) := by
  induction d with
  | zero =>
    intro i hi hd
    rw [show 0 + 1 + j = j + 1 from by omega]
    simp only [pleachref01_Get_p.l0]
    by_cases hlt : i < s.size
    · have hl : i < (M.bs s).length := by rw [M.bs_length]; exact hlt
      have hb := M.bt_bs s i hl
      rw [List.drop_eq_getElem_cons hl] at hd
      have hc : ((M.bs s)[i]).toNat < 128 := by
        by_cases h : ((M.bs s)[i]).toNat < 128
        · exact h
        · rw [M.lead_high h] at hd; omega
      rw [if_pos (by omega), if_pos (by omega), hb, if_neg (by omega)]; rfl
    · rw [if_neg (by omega)]; rfl
  | succ d ih =>
    intro i hi hd
    by_cases hlt : i < s.size
    · have hl : i < (M.bs s).length := by rw [M.bs_length]; exact hlt
      have hb := M.bt_bs s i hl
      rw [List.drop_eq_getElem_cons hl] at hd
      have hc : ¬ ((M.bs s)[i]).toNat < 128 := fun h => by rw [M.lead_low h] at hd; omega
      rw [M.lead_high hc] at hd
      have hw : wrap64 ((i : Int) + 1) = ((i + 1 : Nat) : Int) := by rw [M.wrap64_id (by omega) (by omega)]; omega
      rw [show d + 1 + 1 + j = (d + 1 + j) + 1 from by omega]
      simp only [pleachref01_Get_p.l0]
      rw [if_pos (by omega), if_pos (by omega), hb, if_pos (by omega), hw, ih (i + 1) (by omega) (by omega)]
      congr 2; omega
    · rw [List.drop_of_length_le (by rw [M.bs_length]; omega)] at hd
      cases hd
theorem pleachref01_Get.fold (s : ByteArray) (e : Nat) (hs : s.size ≤ 9223372036854775806) (he : e < s.size) (j : Nat) : ∀ i, i ≤ e + 1 →
    pleachref01_Get_p.l1 (i + j) s (e : Int) ((M.vval (((M.bs s).take (e + 1)).drop i) % 18446744073709551616 : Nat) : Int) ((i : Int) - 1) =
    pleachref01_Get_p.l1 j s (e : Int) ((M.vval ((M.bs s).take (e + 1)) % 18446744073709551616 : Nat) : Int) (-1) := by
  intro i
  induction i with
  | zero => intro _; simp
  | succ i ih =>
    intro hi
    have hl : i < (M.bs s).length := by rw [M.bs_length]; omega
    have hlt : i < ((M.bs s).take (e + 1)).length := by rw [List.length_take, M.bs_length]; omega
    have hb := M.bt_bs s i hl
    have hc := ((M.bs s)[i]).toNat_lt
    have hd : M.vval (((M.bs s).take (e + 1)).drop i) = ((M.bs s)[i]).toNat % 128 + 128 * M.vval (((M.bs s).take (e + 1)).drop (i + 1)) := by
      rw [List.drop_eq_getElem_cons hlt, M.vval, List.getElem_take]
    rw [show i + 1 + j = (i + j) + 1 from by omega]
    simp only [pleachref01_Get_p.l1]
    have hx : ((i + 1 : Nat) : Int) - 1 = (i : Int) := by omega
    rw [hx, if_pos (by omega), if_pos (by omega), if_pos (by omega), hb]
    have hw : wrap64 ((i : Int) - 1) = (i : Int) - 1 := M.wrap64_id (by omega) (by omega)
    have hv : IntKind.u64.wrap ((IntKind.u64.wrap (((M.vval (((M.bs s).take (e + 1)).drop (i + 1)) % 18446744073709551616 : Nat) : Int) * 128)) + (Int.tmod (IntKind.u64.wrap (((M.bs s)[i]).toNat : Int)) 128)) = ((M.vval (((M.bs s).take (e + 1)).drop i) % 18446744073709551616 : Nat) : Int) := by
      rw [hd, M.u64_id (i := (((M.bs s)[i]).toNat : Int)) (by omega) (by omega), Int.tmod_eq_emod_of_nonneg (by omega), M.u64_wrap, M.u64_wrap]
      omega
    rw [hw, hv]
    exact ih (by omega)
theorem pleachref01_Get.last_ (s : ByteArray) (e v j : Nat) (p : ByteArray) (hp : pleachref01_Put.f (v : Int) = some p) (he : e < s.size) (hs : s.size ≤ 9223372036854775806) :
    pleachref01_Get_p.l1 (j + 1) s (e : Int) (v : Int) (-1) = some (if M.bs p = (M.bs s).take (e + 1) then ((v : Int), ((e + 1 : Nat) : Int), true) else (0, 0, false)) := by
  have hw : wrap64 ((e : Int) + 1) = ((e + 1 : Nat) : Int) := by rw [M.wrap64_id (by omega) (by omega)]; omega
  simp only [pleachref01_Get_p.l1]
  rw [if_neg (by omega), hp, Option.bind_some, hw, if_pos (by omega), if_pos (by omega), M.toList_bs, M.toList_bs, M.bs_take, Int.toNat_natCast]
  by_cases hc : M.bs p = (M.bs s).take (e + 1)
  · rw [if_pos hc, if_pos hc]
  · rw [if_neg hc, if_neg hc]
theorem pleachref01_Get.last (s : ByteArray) (e v j : Nat) (he : e < s.size) (hs : s.size ≤ 9223372036854775806) (hv : v < 18446744073709551616) :
    pleachref01_Get_p.l1 (j + 1) s (e : Int) (v : Int) (-1) = some (if M.vb v = (M.bs s).take (e + 1) then ((v : Int), ((e + 1 : Nat) : Int), true) else (0, 0, false)) := by
  have hp : pleachref01_Put.f (v : Int) = some (M.sb (M.vb v)) := by unfold pleachref01_Put.f; rw [if_pos ⟨by omega, by omega⟩, Int.toNat_natCast]
  rw [pleachref01_Get.last_ s e v j _ hp he hs, M.bs_sb]
theorem pleachref01_Get.ev (a0 : ByteArray) (r : Int × Int × Bool) (h : pleachref01_Get.f a0 = some r) : ∃ k, pleachref01_Get_p.f k a0 = some r := by
  unfold pleachref01_Get.f at h
  split at h
  case isFalse => cases h
  rename_i hs
  obtain rfl := Option.some.inj h
  obtain ⟨e, he⟩ : ∃ e, e = M.lead (M.bs a0) := ⟨_, rfl⟩
  have hle := M.lead_le (M.bs a0)
  have hl := M.bs_length a0
  rw [← M.vget_ref a0 e he]
  refine ⟨e + 1 + (((e + 1) + 1) + 2), ?_⟩
  unfold pleachref01_Get_p.f
  have h1 := pleachref01_Get.end_ a0 hs (((e + 1) + 1) + 2) e 0 (Nat.zero_le _) (by simp [he])
  rw [show ((0 : Nat) : Int) = 0 from rfl] at h1
  rw [h1, Nat.zero_add]
  have hj : pleachref01_Get_p.j1 (((e + 1) + 1) + 2) a0 (e : Int) = pleachref01_Get_p.j2 (((e + 1) + 1) + 1) a0 (e : Int) (decide (a0.size ≤ e ∨ 9 < e)) := by
    rw [show ((e + 1) + 1) + 2 = (((e + 1) + 1) + 1) + 1 from rfl]
    simp only [pleachref01_Get_p.j1]
    split
    · rw [decide_eq_true (by omega)]
    · congr 1
      apply decide_eq_decide.2; omega
  rw [hj]
  rw [show ((e + 1) + 1) + 1 = ((e + 1) + 1) + 1 from rfl]
  simp only [pleachref01_Get_p.j2]
  by_cases hb : a0.size ≤ e ∨ 9 < e
  · rw [if_pos (by simpa using hb), if_pos hb]
  · rw [if_neg (by simpa using hb), if_neg hb]
    have h2 := pleachref01_Get.fold a0 e hs (by omega) 1 (e + 1) (Nat.le_refl _)
    have hv0 : M.vval [] % 18446744073709551616 = 0 := by rw [M.vval]
    rw [List.drop_of_length_le (by rw [List.length_take]; omega), hv0, show ((0 : Nat) : Int) = 0 from rfl] at h2
    have h3 : ((e + 1 : Nat) : Int) - 1 = (e : Int) := by omega
    rw [h3] at h2
    refine Eq.trans h2 ?_
    have hN : M.vval ((M.bs a0).take (e + 1)) % 18446744073709551616 < 18446744073709551616 := Nat.mod_lt _ (by decide)
    generalize M.vval ((M.bs a0).take (e + 1)) % 18446744073709551616 = v at hN ⊢
    exact pleachref01_Get.last a0 e v 0 (by omega) hs hN
theorem pleachref01_Get.calls (a0 : ByteArray) (r1 : Int) (r2 : Int) (r3 : Bool) (w : World) (h : pleachref01_Get.f a0 = some (r1, r2, r3)) :
    Calls Try.prog 11 #[.string a0] w fun e w' => e = .returned (.tuple #[.int .u64 r1, .int .i64 r2, .bool r3]) ∧ Below w.heap.size w w' := by
  obtain ⟨k, hk⟩ := pleachref01_Get.ev _ _ h
  exact pleachref01_Get_p.calls (k := k) (w := w) (h := hk)

/-! ### pleachref01_Rows_p: function 23 -/
def pleachref01_Rows_p.l0 : Nat → ByteArray → Int → List Int → Int → Int → Option (List Int × Int × Bool)
  | 0, _, _, _, _, _ => none
  | k + 1, x0, x1, x7, x8, x9 => if x9 < x1 then (if 0 ≤ x8 then (if x8 ≤ (x0.size : Int) then ((pleachref01_Get.f (x0.extract (x8 : Int).toNat x0.size)).bind fun bt136 => (if bt136.2.2 = true then (if x7.length < 17592186044416 then (pleachref01_Rows_p.l0 k x0 x1 (x7 ++ [bt136.1]) (wrap64 (x8 + bt136.2.1)) (wrap64 (x9 + 1))) else (none)) else (some (([] : List Int), 0, false)))) else (none)) else (none)) else (some (x7, x8, true))
def pleachref01_Rows_p.f (k : Nat) (a0 : ByteArray) (a1 : Int) : Option (List Int × Int × Bool) := pleachref01_Rows_p.l0 k a0 a1 ([] : List Int) 0 0
theorem pleachref01_Rows_p.mono_l : ∀ k, (∀ y0 y1 y2 y3 y4, LeO (pleachref01_Rows_p.l0 k y0 y1 y2 y3 y4) (pleachref01_Rows_p.l0 (k + 1) y0 y1 y2 y3 y4))
  | 0 => fun _ _ _ _ _ r h => by simp [pleachref01_Rows_p.l0] at h
  | k + 1 => by
    have ih0 := pleachref01_Rows_p.mono_l k
    · intro y0 y1 y2 y3 y4
      unfold pleachref01_Rows_p.l0
      repeat' first
      | (with_reducible exact ih0 _ _ _ _ _)
      | (with_reducible exact LeO.refl _)
      | (with_reducible exact LeO.none _)
      | (with_reducible refine LeO.ite ?_ ?_)
      | (with_reducible refine LeO.bind ?_ (fun _ => ?_))
      | exact ih0 _ _ _ _ _
      | exact LeO.none _
      | refine LeO.ite ?_ ?_
      | refine LeO.bind ?_ (fun _ => ?_)
theorem pleachref01_Rows_p.mono : ∀ a0 a1 k, LeO (pleachref01_Rows_p.f k a0 a1) (pleachref01_Rows_p.f (k + 1) a0 a1) := by
  intro a0 a1 k
  have ih0 := pleachref01_Rows_p.mono_l k
  unfold pleachref01_Rows_p.f
  repeat' first
      | (with_reducible exact ih0 _ _ _ _ _)
      | (with_reducible exact LeO.refl _)
      | (with_reducible exact LeO.none _)
      | (with_reducible refine LeO.ite ?_ ?_)
      | (with_reducible refine LeO.bind ?_ (fun _ => ?_))
      | exact ih0 _ _ _ _ _
      | exact LeO.none _
      | refine LeO.ite ?_ ?_
      | refine LeO.bind ?_ (fun _ => ?_)
set_option maxHeartbeats 8000000 in
set_option maxRecDepth 100000 in
theorem pleachref01_Rows_p.calls (k : Nat) (a0 : ByteArray) (a1 : Int) (r1 : List Int) (r2 : Int) (r3 : Bool) (w : World) (h : pleachref01_Rows_p.f k a0 a1 = some (r1, r2, r3)) :
    Calls Try.prog 23 #[.string a0, .int .i64 a1] w fun e w' => ∃ v0_ : Value, e = .returned (.tuple #[v0_, .int .i64 r2, .bool r3]) ∧ Kd.R (Kd.int .u64) 22 w' w.heap.size (fun _ => True) v0_ r1 ∧ Below w.heap.size w w' := by
  have HB := Aside0.mk (Below.refl w.heap.size w)
  have H : (pleachref01_Rows_p.l0 k a0 a1 ([] : List Int) 0 0) = some (r1, r2, r3) := h
  clear h
  have H' := Aside0.mk H
  clear H
  go_enter Try.func23, Try.ntmps23
  go_wp2
  go_loopg [7, 8, 9] k (fun kq v7 v8 v9 w' => ∃ (x7_1 : List Int) (x8_1 : Int) (x9_1 : Int), v8 = .int .i64 x8_1 ∧ v9 = .int .i64 x9_1 ∧ Aside0 (pleachref01_Rows_p.l0 kq a0 a1 x7_1 x8_1 x9_1 = some (r1, r2, r3)) ∧ Aside0 (kq ≤ k) ∧ Aside0 (Kd.R (Kd.int .u64) 22 w' w.heap.size (fun _ => True) v7 x7_1) ∧ Aside0 (Below w.heap.size w w'))
  case atStart => exact ⟨(([] : List Int)), (0), (0), (by first | rfl | (simp; done) | (simp [*]; done) | (simp [M.isEmpty_bne]; done)), (by first | rfl | (simp; done) | (simp [*]; done) | (simp [M.isEmpty_bne]; done)), H', ⟨Nat.le_refl _⟩, ⟨by first | exact Kd.R_nil _ _ _ _ _ | exact Kd.N_nil _ _ _ _ _ | exact Kd.V_nil _ _ _ _ _ | exact Kd.Q_nil _ _ _ _ _ | exact Kd.S_nil _ _ _ _ _⟩, ⟨M.up HB⟩⟩
  case round =>
    clear H'
    try clear c2
    try clear p2
    obtain ⟨x7_1, x8_1, x9_1, rfl, rfl, HA, HK1, zaa, HB⟩ := hrel
    cases gk with
    | zero => exact absurd HA.out (by simp [pleachref01_Rows_p.l0])
    | succ k1 =>
      have H := HA.out
      clear HA
      simp only [pleachref01_Rows_p.l0] at H
      by_cases c3 : x9_1 < a1
      · rw [if_pos c3] at H
        have c3b0 : decide (x9_1 < a1) = true := decide_eq_true c3
        clear c3
        by_cases c4 : 0 ≤ x8_1
        · rw [if_pos c4] at H
          have c4b0 := eq_true c4
          have c4b1 : decide (0 ≤ x8_1) = true := decide_eq_true c4
          clear c4
          by_cases c5 : x8_1 ≤ (a0.size : Int)
          · rw [if_pos c5] at H
            have c5b0 := eq_true c5
            have c5b1 : decide (x8_1 ≤ (a0.size : Int)) = true := decide_eq_true c5
            clear c5
            replace H := Option.bind_eq_some_iff.mp H
            obtain ⟨⟨t136, t137, t138⟩, A60, H⟩ := H
            replace H : (if t138 = true then (if x7_1.length < 17592186044416 then (pleachref01_Rows_p.l0 k1 a0 a1 (x7_1 ++ [t136]) (wrap64 (x8_1 + t137)) (wrap64 (x9_1 + 1))) else (none)) else (some (([] : List Int), 0, false))) = some (r1, r2, r3) := H
            have A6 := Aside0.mk A60
            clear A60
            by_cases c7 : t138 = true
            · subst c7
              have H1 : (if x7_1.length < 17592186044416 then (pleachref01_Rows_p.l0 k1 a0 a1 (x7_1 ++ [t136]) (wrap64 (x8_1 + t137)) (wrap64 (x9_1 + 1))) else (none)) = some (r1, r2, r3) := by rw [if_pos rfl] at H; exact H
              clear H
              have H := H1
              clear H1
              by_cases c8 : x7_1.length < 17592186044416
              · rw [if_pos c8] at H
                have LMc8 := Aside0.mk c8
                clear c8
                obtain ⟨y139, hy139⟩ : ∃ y_ : List Int, y_ = (x7_1 ++ [t136]) := ⟨_, rfl⟩
                replace H : (pleachref01_Rows_p.l0 k1 a0 a1 y139 (wrap64 (x8_1 + t137)) (wrap64 (x9_1 + 1))) = some (r1, r2, r3) := by first | (rw [hy139]; with_reducible exact H) | (have H2_ := (Option.bind_some _ _).symm.trans H; rw [hy139]; with_reducible exact H2_) | (have H2_ := (Option.bind_some _ _).symm.trans H; with_reducible exact H2_) | with_reducible exact H | (rw [hy139]; exact H) | exact H
                have Ny139 := Aside0.mk hy139
                clear hy139
                have H' := Aside0.mk H
                clear H
                go_wp2_with (first | ((with_reducible refine gate_callee (f := 11) rfl ?_); refine M.goes (some 22) Try.func11 #[.string (a0.extract (x8_1 : Int).toNat a0.size)] rfl ?_; (with_reducible refine (pleachref01_Get.calls (a0.extract (x8_1 : Int).toNat a0.size) t136 t137 true _ A6.out).mono ?_); rintro e w9 ⟨rfl, hb⟩; refine ⟨_, rfl, ?_⟩; have n0_ := M.roB zaa hb; have n1_ := M.upS HB hb; clear zaa HB; have zaa := n0_; have HB := n1_; clear n0_ n1_; (try clear hb)) | ((with_reducible refine gate_builtin (b := .append) (xs := #[.tmp 28, .tmp 30]) rfl ?_); at_builtin; refine Kd.R_append (Kd.int .u64) (w0 := w) w.heap.size rfl (.tmp 28) (.tmp 30) 37 22 (.int .u64 0) 8 rfl Try.underlying37 info22 rfl (by decide) (by omega) u7 x7_1 t136 [.int .u64 t136] (fun _ => True) (fun _ => False) rfl rfl ?aP (fun _ hk => hk.elim) ?aF ?aO ?aB ?aS ?aL ?_; (case aP => exact rfl); (case aB => exact (M.up HB)); (case aF => exact (fun _ _ => trivial)); (case aO => exact (M.ro zaa)); (case aS => exact (below_size (M.up HB))); (case aL => have := LMc8.out; omega); intro v140 w10 ho hb hg hat; rw [← Ny139.out] at ho; have n0_ := Aside0.mk (hb); have n1_ := Aside0.mk (ho); clear HB zaa; have HB := n0_; have HO141 := n1_; clear n0_ n1_; clear ho hb hg hat))
                go_roundg k1
                case measure => have := HK1.out; omega
                case rel => exact ⟨(y139), (wrap64 (x8_1 + t137)), (wrap64 (x9_1 + 1)), (by first | rfl | (simp; done) | (simp [*]; done) | (simp [M.isEmpty_bne]; done)), (by first | rfl | (simp; done) | (simp [*]; done) | (simp [M.isEmpty_bne]; done)), H', ⟨by have := HK1.out; omega⟩, ⟨by (with_reducible repeat (first | apply Kd.R_alloc | apply Kd.R_drewN | apply Kd.R_drew)); exact HO141.out⟩, ⟨M.up HB⟩⟩
              · rw [if_neg c8] at H
                exact absurd H (by simp)
            · replace c7 := Bool.eq_false_iff.mpr c7
              subst c7
              have H1 : (some (([] : List Int), 0, false)) = some (r1, r2, r3) := by rw [if_neg (show ¬ (false = true) by decide)] at H; exact H
              clear H
              have H := H1
              clear H1
              simp only [Option.some.injEq, Prod.mk.injEq] at H
              obtain ⟨rfl, rfl, rfl⟩ := H
              go_wp2_with (first | ((with_reducible refine gate_callee (f := 11) rfl ?_); refine M.goes (some 22) Try.func11 #[.string (a0.extract (x8_1 : Int).toNat a0.size)] rfl ?_; (with_reducible refine (pleachref01_Get.calls (a0.extract (x8_1 : Int).toNat a0.size) t136 t137 false _ A6.out).mono ?_); rintro e w11 ⟨rfl, hb⟩; refine ⟨_, rfl, ?_⟩; have n0_ := M.roB zaa hb; have n1_ := M.upS HB hb; clear zaa HB; have zaa := n0_; have HB := n1_; clear n0_ n1_; (try clear hb)))
              go_ret3
              exact ⟨_, by first | rfl | (simp [errW_none, errW_some] <;> rfl) | (simp [*, errW_none, errW_some] <;> rfl), by first | exact Kd.R_nil _ _ _ _ _ | exact Kd.N_nil _ _ _ _ _ | exact Kd.V_nil _ _ _ _ _ | exact Kd.Q_nil _ _ _ _ _ | exact Kd.S_nil _ _ _ _ _, M.up HB⟩
          · rw [if_neg c5] at H
            exact absurd H (by simp)
        · rw [if_neg c4] at H
          exact absurd H (by simp)
      · rw [if_neg c3] at H
        have c3b0 : decide (x9_1 < a1) = false := decide_eq_false c3
        clear c3
        simp only [Option.some.injEq, Prod.mk.injEq] at H
        obtain ⟨rfl, rfl, rfl⟩ := H
        go_wp2
        go_ret3
        exact ⟨_, by first | rfl | (simp [errW_none, errW_some] <;> rfl) | (simp [*, errW_none, errW_some] <;> rfl), by (with_reducible repeat (first | apply Kd.R_alloc | apply Kd.R_drewN | apply Kd.R_drew)); exact zaa.out, M.up HB⟩

-- this session's own plain form
def pleachref01_Rows.f (s : ByteArray) (count : Int) : Option (List Int × Int × Bool) := varint_Rows.f s count
theorem pleachref01_Rows.loop (s : ByteArray) (hs : s.size ≤ 1000000) (count : Int) (f : Nat) : ∀ (out : List Int) (p : Nat), p ≤ s.size → out.length ≤ p → s.size < f + p →
    ∃ k, pleachref01_Rows_p.l0 k s count out (p : Int) (out.length : Int) = some (varint_Rows.go s count f out (p : Int)) := by
  induction f with
  | zero => intro out p h1 _ h2; omega
  | succ f ih =>
    intro out p h1 h2 h3
    rw [varint_Rows.go, Int.toNat_natCast]
    by_cases hc : (out.length : Int) < count
    · rw [if_pos hc]
      have hat := M.vget_at s (p := (p : Int)) ⟨by omega, by omega, by omega⟩
      have hpos := varint_Rows.vget_pos (s.extract p s.size)
      have hgt : ∀ c : Int × Int × Bool → Option (List Int × Int × Bool), (pleachref01_Get.f (s.extract p s.size)).bind c = c (M.vget (s.extract p s.size)) := by
        intro c
        unfold pleachref01_Get.f
        rw [if_pos (by rw [ByteArray.size_extract]; omega)]; rfl
      rw [Int.toNat_natCast] at hat
      generalize M.vget (s.extract p s.size) = q at hat hpos hgt ⊢
      obtain ⟨n, k, b⟩ := q
      cases b with
      | false =>
        refine ⟨0 + 1, ?_⟩
        rw [pleachref01_Rows_p.l0, if_pos hc, if_pos (by omega), if_pos (by omega), Int.toNat_natCast, hgt]
        rfl
      | true =>
        simp only at hat hpos
        have hpos := hpos trivial
        obtain ⟨m, rfl⟩ := Int.eq_ofNat_of_zero_le (show 0 ≤ k by omega)
        obtain ⟨j, hj⟩ := ih (out ++ [n]) (p + m) (by omega) (by rw [List.length_append, List.length_singleton]; omega) (by omega)
        refine ⟨j + 1, ?_⟩
        rw [pleachref01_Rows_p.l0, if_pos hc, if_pos (by omega), if_pos (by omega), Int.toNat_natCast, hgt]
        simp only [if_true]
        rw [if_pos (by omega), M.wrap64_id (by omega) (by omega), M.wrap64_id (by omega) (by omega)]
        rw [List.length_append, List.length_singleton] at hj
        rw [show (p : Int) + (m : Int) = ((p + m : Nat) : Int) from by omega, show (out.length : Int) + 1 = ((out.length + 1 : Nat) : Int) from by omega]
        exact hj
    · rw [if_neg hc]
      exact ⟨0 + 1, by rw [pleachref01_Rows_p.l0, if_neg hc]⟩
theorem pleachref01_Rows.ev (s : ByteArray) (count : Int) (r : List Int × Int × Bool) (h : pleachref01_Rows.f s count = some r) : ∃ k, pleachref01_Rows_p.f k s count = some r := by
  unfold pleachref01_Rows.f varint_Rows.f at h
  split at h
  case isFalse => cases h
  case isTrue hh =>
    rw [← h]
    exact pleachref01_Rows.loop s hh count (s.size + 1) [] 0 (Nat.zero_le _) (Nat.le_refl _) (by omega)
theorem pleachref01_Rows.calls (a0 : ByteArray) (a1 : Int) (r1 : List Int) (r2 : Int) (r3 : Bool) (w : World) (h : pleachref01_Rows.f a0 a1 = some (r1, r2, r3)) :
    Calls Try.prog 23 #[.string a0, .int .i64 a1] w fun e w' => ∃ v0_ : Value, e = .returned (.tuple #[v0_, .int .i64 r2, .bool r3]) ∧ Kd.R (Kd.int .u64) 22 w' w.heap.size (fun _ => True) v0_ r1 ∧ Below w.heap.size w w' := by
  obtain ⟨k, hk⟩ := pleachref01_Rows.ev _ _ _ h
  exact pleachref01_Rows_p.calls (k := k) (w := w) (h := hk)

end Go.Proofs.Ytaooolfledfhoaa.EVarintRows
