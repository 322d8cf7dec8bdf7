-- Written by this session's own program (wip/tools/ext.py) for this claim; Lean checks it.
import Derived.Test.YtkaglpjdeinbhaaERefsPlaysx0
import Derived.Test.YtkaglpjdeinbhaaERefsPlaysx2
import Derived.Test.YtkaglpjdeinbhaaERefsPlaysx7
namespace Go.Proofs.Ytkaglpjdeinbhaa.ERefsPlays
open Go.RowKit Go.Proofs.YtkaglpjdeinbhaaW.PrintWords Go.Proofs.YtkaglpjdeinbhaaW.PrintLast Go.Proofs.YtkaglpjdeinbhaaW.PrintMore
attribute [local go_sem] M.run_leq M.run_gtr M.run_geq max2_int min2_int max_two min_two max_three min_three max_four min_four   -- for this text's walks alone
set_option linter.unusedVariables false
set_option linter.unusedSimpArgs false

/-! ### pleachref37_Set_p: function 11 -/
mutual
def pleachref37_Set_p.j0 : Nat → List (S42) → Int → ByteArray → ByteArray → ByteArray → Bool → Option ((List (S42)) × Int)
  | 0, _, _, _, _, _, _ => none
  | k + 1, x0, x1, x2, x3, x4, x37 => if x37 = true then (some (([] : List (S42)), 2)) else ((pleachref37_Get.f x0 x1 x2).bind fun t164 => (if t164.toList = x3.toList then (if x3.toList = ([] : List UInt8) then (pleachref37_Set_p.j1 k x0 x1 x2 x4 (decide ((x0.length : Int) ≥ 64))) else (pleachref37_Set_p.j1 k x0 x1 x2 x4 false)) else (if x3.toList = ([] : List UInt8) then (some (([] : List (S42)), 10)) else (if t164.toList = ([] : List UInt8) then (some (([] : List (S42)), 9)) else (some (([] : List (S42)), 12))))))
def pleachref37_Set_p.j1 : Nat → List (S42) → Int → ByteArray → ByteArray → Bool → Option ((List (S42)) × Int)
  | 0, _, _, _, _, _ => none
  | k + 1, x0, x1, x2, x4, x55 => if x55 = true then (some (([] : List (S42)), 5)) else (pleachref37_Set_p.l0 k x0 x4 ([] : List (S42)) x0 (x0.length : Int) 0 x1 x2 x4)
def pleachref37_Set_p.l0 : Nat → List (S42) → ByteArray → List (S42) → List (S42) → Int → Int → Int → ByteArray → ByteArray → Option ((List (S42)) × Int)
  | 0, _, _, _, _, _, _, _, _, _ => none
  | k + 1, x0, x4, x14, x60, x61, x62, zaa, zab, zac => if x62 < x61 then (if 0 ≤ x62 then (if x62 < (x60.length : Int) then ((pleachref37_Less.f ((rd_T42 x60 x62).f0) ((rd_T42 x60 x62).f1) ((rd_T42 x60 x62).f2) zaa zab zac).bind fun t168 => (if t168 = true then (if x14.length < 3518437208883 then (pleachref37_Set_p.l0 k x0 x4 (x14 ++ [(⟨(rd_T42 x60 x62).f0, (rd_T42 x60 x62).f1, (rd_T42 x60 x62).f2⟩ : S42)]) x60 x61 (wrap64 (x62 + 1)) zaa zab zac) else (none)) else (pleachref37_Set_p.l0 k x0 x4 x14 x60 x61 (wrap64 (x62 + 1)) zaa zab zac))) else (none)) else (none)) else (if x4.toList = ([] : List UInt8) then (pleachref37_Set_p.j3 k x0 x14 zaa zab zac) else (if x14.length < 3518437208883 then (pleachref37_Set_p.j3 k x0 (x14 ++ [(⟨zaa, zab, zac⟩ : S42)]) zaa zab zac) else (none)))
def pleachref37_Set_p.j3 : Nat → List (S42) → List (S42) → Int → ByteArray → ByteArray → Option ((List (S42)) × Int)
  | 0, _, _, _, _, _ => none
  | k + 1, x0, x14, zaa, zab, zac => pleachref37_Set_p.l1 k x14 x0 (x0.length : Int) 0 zaa zab zac
def pleachref37_Set_p.l1 : Nat → List (S42) → List (S42) → Int → Int → Int → ByteArray → ByteArray → Option ((List (S42)) × Int)
  | 0, _, _, _, _, _, _, _ => none
  | k + 1, x14, x80, x81, x82, zaa, zab, zac => if x82 < x81 then (if 0 ≤ x82 then (if x82 < (x80.length : Int) then ((pleachref37_Less.f zaa zab zac ((rd_T42 x80 x82).f0) ((rd_T42 x80 x82).f1) ((rd_T42 x80 x82).f2)).bind fun t177 => (if t177 = true then (if x14.length < 3518437208883 then (pleachref37_Set_p.l1 k (x14 ++ [(⟨(rd_T42 x80 x82).f0, (rd_T42 x80 x82).f1, (rd_T42 x80 x82).f2⟩ : S42)]) x80 x81 (wrap64 (x82 + 1)) zaa zab zac) else (none)) else (pleachref37_Set_p.l1 k x14 x80 x81 (wrap64 (x82 + 1)) zaa zab zac))) else (none)) else (none)) else (some (x14, 0))
end
def pleachref37_Set_p.f (k : Nat) (l0 : List (S42)) (a1 : Int) (a2 : ByteArray) (a3 : ByteArray) (a4 : ByteArray) : Option ((List (S42)) × Int) := if a1 < 1 then (pleachref37_Set_p.j0 k l0 a1 a2 a3 a4 true) else (if a1 > 2 then (pleachref37_Set_p.j0 k l0 a1 a2 a3 a4 true) else ((pleachref05_Is.f a2).bind fun t163 => (if t163 = true then (if a3.toList = ([] : List UInt8) then (pleachref37_Set_p.j0 k l0 a1 a2 a3 a4 (a4.toList == ([] : List UInt8))) else (pleachref37_Set_p.j0 k l0 a1 a2 a3 a4 false)) else (pleachref37_Set_p.j0 k l0 a1 a2 a3 a4 true))))
theorem pleachref37_Set_p.mono_l : ∀ k, (∀ y0 y1 y2 y3 y4 y5, LeO (pleachref37_Set_p.j0 k y0 y1 y2 y3 y4 y5) (pleachref37_Set_p.j0 (k + 1) y0 y1 y2 y3 y4 y5)) ∧ (∀ y0 y1 y2 y3 y4, LeO (pleachref37_Set_p.j1 k y0 y1 y2 y3 y4) (pleachref37_Set_p.j1 (k + 1) y0 y1 y2 y3 y4)) ∧ (∀ y0 y1 y2 y3 y4 y5 y6 y7 y8, LeO (pleachref37_Set_p.l0 k y0 y1 y2 y3 y4 y5 y6 y7 y8) (pleachref37_Set_p.l0 (k + 1) y0 y1 y2 y3 y4 y5 y6 y7 y8)) ∧ (∀ y0 y1 y2 y3 y4, LeO (pleachref37_Set_p.j3 k y0 y1 y2 y3 y4) (pleachref37_Set_p.j3 (k + 1) y0 y1 y2 y3 y4)) ∧ (∀ y0 y1 y2 y3 y4 y5 y6, LeO (pleachref37_Set_p.l1 k y0 y1 y2 y3 y4 y5 y6) (pleachref37_Set_p.l1 (k + 1) y0 y1 y2 y3 y4 y5 y6))
  | 0 => ⟨fun _ _ _ _ _ _ r h => by simp [pleachref37_Set_p.j0] at h, fun _ _ _ _ _ r h => by simp [pleachref37_Set_p.j1] at h, fun _ _ _ _ _ _ _ _ _ r h => by simp [pleachref37_Set_p.l0] at h, fun _ _ _ _ _ r h => by simp [pleachref37_Set_p.j3] at h, fun _ _ _ _ _ _ _ r h => by simp [pleachref37_Set_p.l1] at h⟩
  | k + 1 => by
    obtain ⟨ih0, ih1, ih2, ih3, ih4⟩ := pleachref37_Set_p.mono_l k
    refine ⟨?_, ?_, ?_, ?_, ?_⟩
    · intro y0 y1 y2 y3 y4 y5
      unfold pleachref37_Set_p.j0
      repeat' first
      | (with_reducible exact ih0 _ _ _ _ _ _)
      | (with_reducible exact ih1 _ _ _ _ _)
      | (with_reducible exact ih2 _ _ _ _ _ _ _ _ _)
      | (with_reducible exact ih3 _ _ _ _ _)
      | (with_reducible exact ih4 _ _ _ _ _ _ _)
      | (with_reducible exact LeO.refl _)
      | (with_reducible exact LeO.none _)
      | (with_reducible refine LeO.ite ?_ ?_)
      | (with_reducible refine LeO.bind ?_ (fun _ => ?_))
      | exact ih0 _ _ _ _ _ _
      | exact ih1 _ _ _ _ _
      | exact ih2 _ _ _ _ _ _ _ _ _
      | exact ih3 _ _ _ _ _
      | exact ih4 _ _ _ _ _ _ _
      | exact LeO.none _
      | refine LeO.ite ?_ ?_
      | refine LeO.bind ?_ (fun _ => ?_)
    · intro y0 y1 y2 y3 y4
      unfold pleachref37_Set_p.j1
      repeat' first
      | (with_reducible exact ih0 _ _ _ _ _ _)
      | (with_reducible exact ih1 _ _ _ _ _)
      | (with_reducible exact ih2 _ _ _ _ _ _ _ _ _)
      | (with_reducible exact ih3 _ _ _ _ _)
      | (with_reducible exact ih4 _ _ _ _ _ _ _)
      | (with_reducible exact LeO.refl _)
      | (with_reducible exact LeO.none _)
      | (with_reducible refine LeO.ite ?_ ?_)
      | (with_reducible refine LeO.bind ?_ (fun _ => ?_))
      | exact ih0 _ _ _ _ _ _
      | exact ih1 _ _ _ _ _
      | exact ih2 _ _ _ _ _ _ _ _ _
      | exact ih3 _ _ _ _ _
      | exact ih4 _ _ _ _ _ _ _
      | exact LeO.none _
      | refine LeO.ite ?_ ?_
      | refine LeO.bind ?_ (fun _ => ?_)
    · intro y0 y1 y2 y3 y4 y5 y6 y7 y8
      unfold pleachref37_Set_p.l0
      repeat' first
      | (with_reducible exact ih0 _ _ _ _ _ _)
      | (with_reducible exact ih1 _ _ _ _ _)
      | (with_reducible exact ih2 _ _ _ _ _ _ _ _ _)
      | (with_reducible exact ih3 _ _ _ _ _)
      | (with_reducible exact ih4 _ _ _ _ _ _ _)
      | (with_reducible exact LeO.refl _)
      | (with_reducible exact LeO.none _)
      | (with_reducible refine LeO.ite ?_ ?_)
      | (with_reducible refine LeO.bind ?_ (fun _ => ?_))
      | exact ih0 _ _ _ _ _ _
      | exact ih1 _ _ _ _ _
      | exact ih2 _ _ _ _ _ _ _ _ _
      | exact ih3 _ _ _ _ _
      | exact ih4 _ _ _ _ _ _ _
      | exact LeO.none _
      | refine LeO.ite ?_ ?_
      | refine LeO.bind ?_ (fun _ => ?_)
    · intro y0 y1 y2 y3 y4
      unfold pleachref37_Set_p.j3
      repeat' first
      | (with_reducible exact ih0 _ _ _ _ _ _)
      | (with_reducible exact ih1 _ _ _ _ _)
      | (with_reducible exact ih2 _ _ _ _ _ _ _ _ _)
      | (with_reducible exact ih3 _ _ _ _ _)
      | (with_reducible exact ih4 _ _ _ _ _ _ _)
      | (with_reducible exact LeO.refl _)
      | (with_reducible exact LeO.none _)
      | (with_reducible refine LeO.ite ?_ ?_)
      | (with_reducible refine LeO.bind ?_ (fun _ => ?_))
      | exact ih0 _ _ _ _ _ _
      | exact ih1 _ _ _ _ _
      | exact ih2 _ _ _ _ _ _ _ _ _
      | exact ih3 _ _ _ _ _
      | exact ih4 _ _ _ _ _ _ _
      | exact LeO.none _
      | refine LeO.ite ?_ ?_
      | refine LeO.bind ?_ (fun _ => ?_)
    · intro y0 y1 y2 y3 y4 y5 y6
      unfold pleachref37_Set_p.l1
      repeat' first
      | (with_reducible exact ih0 _ _ _ _ _ _)
      | (with_reducible exact ih1 _ _ _ _ _)
      | (with_reducible exact ih2 _ _ _ _ _ _ _ _ _)
      | (with_reducible exact ih3 _ _ _ _ _)
      | (with_reducible exact ih4 _ _ _ _ _ _ _)
      | (with_reducible exact LeO.refl _)
      | (with_reducible exact LeO.none _)
      | (with_reducible refine LeO.ite ?_ ?_)
      | (with_reducible refine LeO.bind ?_ (fun _ => ?_))
      | exact ih0 _ _ _ _ _ _
      | exact ih1 _ _ _ _ _
      | exact ih2 _ _ _ _ _ _ _ _ _
      | exact ih3 _ _ _ _ _
      | exact ih4 _ _ _ _ _ _ _
      | exact LeO.none _
      | refine LeO.ite ?_ ?_
      | refine LeO.bind ?_ (fun _ => ?_)
theorem pleachref37_Set_p.mono : ∀ a0 a1 a2 a3 a4 k, LeO (pleachref37_Set_p.f k a0 a1 a2 a3 a4) (pleachref37_Set_p.f (k + 1) a0 a1 a2 a3 a4) := by
  intro a0 a1 a2 a3 a4 k
  obtain ⟨ih0, ih1, ih2, ih3, ih4⟩ := pleachref37_Set_p.mono_l k
  unfold pleachref37_Set_p.f
  repeat' first
      | (with_reducible exact ih0 _ _ _ _ _ _)
      | (with_reducible exact ih1 _ _ _ _ _)
      | (with_reducible exact ih2 _ _ _ _ _ _ _ _ _)
      | (with_reducible exact ih3 _ _ _ _ _)
      | (with_reducible exact ih4 _ _ _ _ _ _ _)
      | (with_reducible exact LeO.refl _)
      | (with_reducible exact LeO.none _)
      | (with_reducible refine LeO.ite ?_ ?_)
      | (with_reducible refine LeO.bind ?_ (fun _ => ?_))
      | exact ih0 _ _ _ _ _ _
      | exact ih1 _ _ _ _ _
      | exact ih2 _ _ _ _ _ _ _ _ _
      | exact ih3 _ _ _ _ _
      | exact ih4 _ _ _ _ _ _ _
      | exact LeO.none _
      | refine LeO.ite ?_ ?_
      | refine LeO.bind ?_ (fun _ => ?_)
set_option maxHeartbeats 8000000 in
set_option maxRecDepth 100000 in
theorem pleachref37_Set_p.calls (k : Nat) (A0 : Option Addr) (c0 : Nat) (l0 : List (S42)) (a1 : Int) (a2 : ByteArray) (a3 : ByteArray) (a4 : ByteArray) (r1 : List (S42)) (r2 : Int) (w : World) (hr0 : Kd.C k42 w A0 l0.length l0) (hc0 : l0.length ≤ c0) (h : pleachref37_Set_p.f k l0 a1 a2 a3 a4 = some (r1, r2)) :
    Calls Try.prog 11 #[.slice A0 l0.length c0, .int .i64 a1, .string a2, .string a3, .string a4] w fun e w' => ∃ v0_ : Value, e = .returned (.tuple #[v0_, .int .i64 r2]) ∧ Kd.R k42 42 w' w.heap.size (fun _ => True) v0_ r1 ∧ Below w.heap.size w w' := by
  have hu42 := Try.underlying42
  have HR0 := Aside0.mk hr0
  have HC0 := Aside0.mk hc0
  clear hr0 hc0
  have HB := Aside0.mk (Below.refl w.heap.size w)
  have H : (if a1 < 1 then (pleachref37_Set_p.j0 k l0 a1 a2 a3 a4 true) else (if a1 > 2 then (pleachref37_Set_p.j0 k l0 a1 a2 a3 a4 true) else ((pleachref05_Is.f a2).bind fun t163 => (if t163 = true then (if a3.toList = ([] : List UInt8) then (pleachref37_Set_p.j0 k l0 a1 a2 a3 a4 (a4.toList == ([] : List UInt8))) else (pleachref37_Set_p.j0 k l0 a1 a2 a3 a4 false)) else (pleachref37_Set_p.j0 k l0 a1 a2 a3 a4 true))))) = some (r1, r2) := h
  clear h
  have HC6 := Aside0.mk H
  clear H
  go_enter Try.func11, Try.ntmps11
  go_upto_region 1 with (fail)
  go_cut [37] (fun v37 wc => ∃ (kq : Nat) (x37_5 : Bool), v37 = .bool x37_5 ∧ Aside0 (pleachref37_Set_p.j0 kq l0 a1 a2 a3 a4 x37_5 = some (r1, r2)) ∧ Aside0 (kq ≤ k) ∧ Aside0 (Below w.heap.size w wc))
  case first =>
    have H := HC6.out
    clear HC6
    by_cases c7 : a1 < 1
    · rw [if_pos c7] at H
      have c7b0 : decide (a1 < 1) = true := decide_eq_true c7
      clear c7
      (first | rw [c7b0] | (simp only [i64_w, i32_w]; rw [c7b0]) | skip)
      have H' := Aside0.mk H
      clear H
      go_wp2
      go_meet
      case rel => exact ⟨_, (true), (by first | rfl | (simp; done) | (simp [*]; done) | (simp [M.isEmpty_bne]; done)), H', ⟨by first | omega | exact Nat.le_refl _⟩, ⟨M.up HB⟩⟩
    · rw [if_neg c7] at H
      have c7b0 : decide (a1 < 1) = false := decide_eq_false c7
      clear c7
      (first | rw [c7b0] | (simp only [i64_w, i32_w]; rw [c7b0]) | skip)
      by_cases c8 : a1 > 2
      · rw [if_pos c8] at H
        have c8b0 : decide (2 < a1) = true := decide_eq_true c8
        clear c8
        have H' := Aside0.mk H
        clear H
        go_wp2
        go_meet
        case rel => exact ⟨_, (true), (by first | rfl | (simp; done) | (simp [*]; done) | (simp [M.isEmpty_bne]; done)), H', ⟨by first | omega | exact Nat.le_refl _⟩, ⟨M.up HB⟩⟩
      · rw [if_neg c8] at H
        have c8b0 : decide (2 < a1) = false := decide_eq_false c8
        clear c8
        replace H := Option.bind_eq_some_iff.mp H
        obtain ⟨t163, A90, H⟩ := H
        replace H : (if t163 = true then (if a3.toList = ([] : List UInt8) then (pleachref37_Set_p.j0 k l0 a1 a2 a3 a4 (a4.toList == ([] : List UInt8))) else (pleachref37_Set_p.j0 k l0 a1 a2 a3 a4 false)) else (pleachref37_Set_p.j0 k l0 a1 a2 a3 a4 true)) = some (r1, r2) := H
        have A9 := Aside0.mk A90
        clear A90
        by_cases c10 : t163 = true
        · subst c10
          have H1 : (if a3.toList = ([] : List UInt8) then (pleachref37_Set_p.j0 k l0 a1 a2 a3 a4 (a4.toList == ([] : List UInt8))) else (pleachref37_Set_p.j0 k l0 a1 a2 a3 a4 false)) = some (r1, r2) := by rw [if_pos rfl] at H; exact H
          clear H
          have H := H1
          clear H1
          by_cases c11 : a3.toList = ([] : List UInt8)
          · rw [if_pos c11] at H
            have c11b0 : (a3.toList == ([] : List UInt8)) = true := beq_iff_eq.mpr c11
            have c11b1 : (a3.toList != ([] : List UInt8)) = false := bne_eq_false_iff_eq.mpr c11
            have c11e : a3.toList.isEmpty = true := by simpa [M.isEmpty_bne] using c11b1
            have c11f : (!a3.toList.isEmpty) = false := by rw [c11e]; rfl
            clear c11
            have H' := Aside0.mk H
            clear H
            go_wp2_with (first | (go_at_call 24; (with_reducible refine (pleachref05_Is.calls a2 true _ A9.out).mono ?_); rintro e w' ⟨rfl, ⟨nd, rfl⟩⟩))
            go_meet
            case rel => exact ⟨_, ((a4.toList == ([] : List UInt8))), (by first | rfl | (simp; done) | (simp [*]; done) | (simp [M.isEmpty_bne]; done)), H', ⟨by first | omega | exact Nat.le_refl _⟩, ⟨M.up HB⟩⟩
          · rw [if_neg c11] at H
            have c11b0 : (a3.toList == ([] : List UInt8)) = false := beq_eq_false_iff_ne.mpr c11
            have c11b1 : (a3.toList != ([] : List UInt8)) = true := bne_iff_ne.mpr c11
            have c11e : a3.toList.isEmpty = false := by simpa [M.isEmpty_bne] using c11b1
            have c11f : (!a3.toList.isEmpty) = true := by rw [c11e]; rfl
            have H' := Aside0.mk H
            clear H
            go_wp2_with (first | (go_at_call 24; (with_reducible refine (pleachref05_Is.calls a2 true _ A9.out).mono ?_); rintro e w' ⟨rfl, ⟨nd, rfl⟩⟩))
            go_meet
            case rel => exact ⟨_, (false), (by first | rfl | (simp; done) | (simp [*]; done) | (simp [M.isEmpty_bne]; done)), H', ⟨by first | omega | exact Nat.le_refl _⟩, ⟨M.up HB⟩⟩
        · replace c10 := Bool.eq_false_iff.mpr c10
          subst c10
          have H1 : (pleachref37_Set_p.j0 k l0 a1 a2 a3 a4 true) = some (r1, r2) := by rw [if_neg (show ¬ (false = true) by decide)] at H; exact H
          clear H
          have H := H1
          clear H1
          have H' := Aside0.mk H
          clear H
          go_wp2_with (first | (go_at_call 24; (with_reducible refine (pleachref05_Is.calls a2 false _ A9.out).mono ?_); rintro e w' ⟨rfl, ⟨nd, rfl⟩⟩))
          go_meet
          case rel => exact ⟨_, (true), (by first | rfl | (simp; done) | (simp [*]; done) | (simp [M.isEmpty_bne]; done)), H', ⟨by first | omega | exact Nat.le_refl _⟩, ⟨M.up HB⟩⟩
  case rest =>
    clear HC6
    try clear c1
    try clear p2
    try clear c7
    try clear c7b0
    try clear c8
    try clear c8b0
    try clear c10
    try clear c11
    try clear c11b0
    try clear c11b1
    obtain ⟨kq, x37_5, rfl, HA, HJ5, HB⟩ := hcut
    cases kq with
    | zero => exact absurd HA.out (by simp [pleachref37_Set_p.j0])
    | succ kj5 =>
      have H := HA.out
      clear HA
      simp only [pleachref37_Set_p.j0] at H
      by_cases c12 : x37_5 = true
      · subst c12
        have H1 : (some (([] : List (S42)), 2)) = some (r1, r2) := by rw [if_pos rfl] at H; exact H
        clear H
        have H := H1
        clear H1
        simp only [Option.some.injEq, Prod.mk.injEq] at H
        obtain ⟨rfl, rfl⟩ := H
        go_wp2
        go_ret2
        exact ⟨_, by first | rfl | (simp [errW_none, errW_some] <;> rfl) | (simp [*, errW_none, errW_some] <;> rfl), by first | exact Kd.R_nil _ _ _ _ _ | exact Kd.N_nil _ _ _ _ _ | exact Kd.V_nil _ _ _ _ _ | exact Kd.Q_nil _ _ _ _ _ | exact Kd.S_nil _ _ _ _ _, M.up HB⟩
      · replace c12 := Bool.eq_false_iff.mpr c12
        subst c12
        have H1 : ((pleachref37_Get.f l0 a1 a2).bind fun t164 => (if t164.toList = a3.toList then (if a3.toList = ([] : List UInt8) then (pleachref37_Set_p.j1 kj5 l0 a1 a2 a4 (decide ((l0.length : Int) ≥ 64))) else (pleachref37_Set_p.j1 kj5 l0 a1 a2 a4 false)) else (if a3.toList = ([] : List UInt8) then (some (([] : List (S42)), 10)) else (if t164.toList = ([] : List UInt8) then (some (([] : List (S42)), 9)) else (some (([] : List (S42)), 12)))))) = some (r1, r2) := by rw [if_neg (show ¬ (false = true) by decide)] at H; exact H
        clear H
        have H := H1
        clear H1
        replace H := Option.bind_eq_some_iff.mp H
        obtain ⟨t164, A130, H⟩ := H
        replace H : (if t164.toList = a3.toList then (if a3.toList = ([] : List UInt8) then (pleachref37_Set_p.j1 kj5 l0 a1 a2 a4 (decide ((l0.length : Int) ≥ 64))) else (pleachref37_Set_p.j1 kj5 l0 a1 a2 a4 false)) else (if a3.toList = ([] : List UInt8) then (some (([] : List (S42)), 10)) else (if t164.toList = ([] : List UInt8) then (some (([] : List (S42)), 9)) else (some (([] : List (S42)), 12))))) = some (r1, r2) := H
        have A13 := Aside0.mk A130
        clear A130
        by_cases c14 : t164.toList = a3.toList
        · rw [if_pos c14] at H
          have c14b0 : (t164.toList == a3.toList) = true := beq_iff_eq.mpr c14
          have c14b1 : (t164.toList != a3.toList) = false := bne_eq_false_iff_eq.mpr c14
          clear c14
          have HC15 := Aside0.mk H
          clear H
          go_upto_region 10 with (first | ((with_reducible refine gate_callee (f := 14) rfl ?_); refine M.goes (some 41) Try.func14 #[.slice A0 l0.length c0, .int .i64 a1, .string a2] rfl ?_; (with_reducible refine (pleachref37_Get.calls _ _ l0 a1 a2 t164 _ ?side1 ?side2 A13.out).mono ?_); (case side1 => exact M.cB HR0 HB); (case side2 => exact HC0.out); rintro e w16 ⟨rfl, hb⟩; refine ⟨_, rfl, ?_⟩; have n0_ := M.upS HB hb; clear HB; have HB := n0_; clear n0_; (try clear hb)))
          (try simp only [Act.put, List.setIfInBounds_toArray, List.set_cons_zero, List.set_cons_succ])
          go_cut [55] (fun v55 wc => ∃ (kq : Nat) (x55_14 : Bool), v55 = .bool x55_14 ∧ Aside0 (pleachref37_Set_p.j1 kq l0 a1 a2 a4 x55_14 = some (r1, r2)) ∧ Aside0 (kq ≤ kj5) ∧ Aside0 (Below w.heap.size w wc))
          case first =>
            have H := HC15.out
            clear HC15
            by_cases c17 : a3.toList = ([] : List UInt8)
            · rw [if_pos c17] at H
              have c17b0 : (a3.toList == ([] : List UInt8)) = true := beq_iff_eq.mpr c17
              have c17b1 : (a3.toList != ([] : List UInt8)) = false := bne_eq_false_iff_eq.mpr c17
              have c17e : a3.toList.isEmpty = true := by simpa [M.isEmpty_bne] using c17b1
              have c17f : (!a3.toList.isEmpty) = false := by rw [c17e]; rfl
              clear c17
              (first | rw [c17f] | rw [c17b0] | (simp only [i64_w, i32_w]; rw [c17b0]) | skip)
              have H' := Aside0.mk H
              clear H
              go_wp2
              go_meet
              case rel => exact ⟨_, (decide ((l0.length : Int) ≥ 64)), (by first | rfl | (simp; done) | (simp [*]; done) | (simp [M.isEmpty_bne]; done)), H', ⟨by have := HJ5.out; first | omega | exact Nat.le_refl _⟩, ⟨M.up HB⟩⟩
            · rw [if_neg c17] at H
              have c17b0 : (a3.toList == ([] : List UInt8)) = false := beq_eq_false_iff_ne.mpr c17
              have c17b1 : (a3.toList != ([] : List UInt8)) = true := bne_iff_ne.mpr c17
              have c17e : a3.toList.isEmpty = false := by simpa [M.isEmpty_bne] using c17b1
              have c17f : (!a3.toList.isEmpty) = true := by rw [c17e]; rfl
              (first | rw [c17f] | rw [c17b0] | (simp only [i64_w, i32_w]; rw [c17b0]) | skip)
              have H' := Aside0.mk H
              clear H
              go_wp2
              go_meet
              case rel => exact ⟨_, (false), (by first | rfl | (simp; done) | (simp [*]; done) | (simp [M.isEmpty_bne]; done)), H', ⟨by have := HJ5.out; first | omega | exact Nat.le_refl _⟩, ⟨M.up HB⟩⟩
          case rest =>
            clear HC15
            try clear c1
            try clear p2
            try clear c7
            try clear c7b0
            try clear c8
            try clear c8b0
            try clear c10
            try clear c11
            try clear c11b0
            try clear c11b1
            try clear c12
            try clear c14
            try clear c14b0
            try clear c14b1
            try clear c17
            try clear c17b0
            try clear c17b1
            try clear p2
            obtain ⟨kq, x55_14, rfl, HA, HJ14, HB⟩ := hcut
            cases kq with
            | zero => exact absurd HA.out (by simp [pleachref37_Set_p.j1])
            | succ kj14 =>
              have H := HA.out
              clear HA
              simp only [pleachref37_Set_p.j1] at H
              by_cases c18 : x55_14 = true
              · subst c18
                have H1 : (some (([] : List (S42)), 5)) = some (r1, r2) := by rw [if_pos rfl] at H; exact H
                clear H
                have H := H1
                clear H1
                simp only [Option.some.injEq, Prod.mk.injEq] at H
                obtain ⟨rfl, rfl⟩ := H
                go_wp2
                go_ret2
                exact ⟨_, by first | rfl | (simp [errW_none, errW_some] <;> rfl) | (simp [*, errW_none, errW_some] <;> rfl), by first | exact Kd.R_nil _ _ _ _ _ | exact Kd.N_nil _ _ _ _ _ | exact Kd.V_nil _ _ _ _ _ | exact Kd.Q_nil _ _ _ _ _ | exact Kd.S_nil _ _ _ _ _, M.up HB⟩
              · replace c18 := Bool.eq_false_iff.mpr c18
                subst c18
                have H1 : (pleachref37_Set_p.l0 kj14 l0 a4 ([] : List (S42)) l0 (l0.length : Int) 0 a1 a2 a4) = some (r1, r2) := by rw [if_neg (show ¬ (false = true) by decide)] at H; exact H
                clear H
                have H := H1
                clear H1
                have H' := Aside0.mk H
                clear H
                go_wp2_with (first | ((with_reducible refine gate_dst (N := 13) rfl ?_); (try (refine gate_guard (by rfl) ?_; dsimp only)); refine box_event ?hg (N := 13) ?hd (cs := #[.int .i64 0, .string (⟨#[]⟩ : ByteArray), .string (⟨#[]⟩ : ByteArray)]) (t := 42) ?hr ?_; (case hd => rfl); (case hg => rfl); (case hr => first | (go_simp; done) | (go_simp; rfl)); intro zad hg w19 hbox hb; have n0_ := M.upS HB hb; have n1_ := Aside0.mk (hbox); have n2_ := M.upG HB hg; have n3_ := M.upG HB hg; clear HB; have HB := n0_; have zae := n1_; have zaf := n2_; have zag := n3_; clear n0_ n1_ n2_ n3_; clear hb hbox hg; obtain ⟨zah, zai, zaj⟩ := M.bc3 (w := w19) (a := .int .i64 0) (b := .string (⟨#[]⟩ : ByteArray)) (c := .string (⟨#[]⟩ : ByteArray)) zae.out; obtain ⟨zak, zal, zam⟩ := M.bf3 zae))
                go_loopg [14, 62] kj14 (fun kq v14 v62 w' => ∃ (x14_3 : List (S42)) (x62_3 : Int), v62 = .int .i64 x62_3 ∧ Aside0 (pleachref37_Set_p.l0 kq l0 a4 x14_3 l0 (l0.length : Int) x62_3 a1 a2 a4 = some (r1, r2)) ∧ Aside0 (kq ≤ kj14) ∧ Aside0 (Kd.R k42 42 w' w.heap.size (fun k_ => k_ ≠ zad) v14 x14_3) ∧ Aside0 (w'.heap[zad]? = some (.cells #[.int .i64 a1, .string a2, .string a4] 42 (0, 0))) ∧ Aside0 (Below w.heap.size w w'))
                case atStart => exact ⟨(([] : List (S42))), (0), (by first | rfl | (simp; done) | (simp [*]; done) | (simp [M.isEmpty_bne]; done)), H', ⟨Nat.le_refl _⟩, ⟨by first | exact Kd.R_nil _ _ _ _ _ | exact Kd.N_nil _ _ _ _ _ | exact Kd.V_nil _ _ _ _ _ | exact Kd.Q_nil _ _ _ _ _ | exact Kd.S_nil _ _ _ _ _⟩, ⟨by (with_reducible repeat (first | refine blk_drewN ?_ _ | refine blk_drew ?_ | refine blk_alloc ?_ _)); refine blk_put (cs := #[.int .i64 a1, .string a2, .string (⟨#[]⟩ : ByteArray)]) ?_ 2 _ rfl; (with_reducible repeat (first | refine blk_drewN ?_ _ | refine blk_drew ?_ | refine blk_alloc ?_ _)); refine blk_put (cs := #[.int .i64 a1, .string (⟨#[]⟩ : ByteArray), .string (⟨#[]⟩ : ByteArray)]) ?_ 1 _ rfl; (with_reducible repeat (first | refine blk_drewN ?_ _ | refine blk_drew ?_ | refine blk_alloc ?_ _)); refine blk_put (cs := #[.int .i64 0, .string (⟨#[]⟩ : ByteArray), .string (⟨#[]⟩ : ByteArray)]) ?_ 0 _ rfl; (with_reducible repeat (first | refine blk_drewN ?_ _ | refine blk_drew ?_ | refine blk_alloc ?_ _)); exact zae.out⟩, ⟨M.up HB⟩⟩
                case round =>
                  clear H'
                  try clear c1
                  try clear p2
                  try clear c7
                  try clear c7b0
                  try clear c8
                  try clear c8b0
                  try clear c10
                  try clear c11
                  try clear c11b0
                  try clear c11b1
                  try clear c12
                  try clear c14
                  try clear c14b0
                  try clear c14b1
                  try clear c17
                  try clear c17b0
                  try clear c17b1
                  try clear c18
                  try clear zah
                  try clear zai
                  try clear zaj
                  try clear zak
                  try clear zal
                  try clear zam
                  try clear p2
                  obtain ⟨x14_3, x62_3, rfl, HA, HK3, zan, zae, HB⟩ := hrel
                  cases gk with
                  | zero => exact absurd HA.out (by simp [pleachref37_Set_p.l0])
                  | succ k3 =>
                    have H := HA.out
                    clear HA
                    simp only [pleachref37_Set_p.l0] at H
                    by_cases c21 : x62_3 < (l0.length : Int)
                    · rw [if_pos c21] at H
                      have c21b0 : decide (x62_3 < (l0.length : Int)) = true := decide_eq_true c21
                      clear c21
                      by_cases c22 : 0 ≤ x62_3
                      · rw [if_pos c22] at H
                        have c22b0 : decide (0 ≤ x62_3) = true := decide_eq_true c22
                        clear c22
                        by_cases c23 : x62_3 < (l0.length : Int)
                        · rw [if_pos c23] at H
                          have c23b0 : decide (x62_3 < (l0.length : Int)) = true := decide_eq_true c23
                          clear c23
                          replace H := Option.bind_eq_some_iff.mp H
                          obtain ⟨t168, A240, H⟩ := H
                          replace H : (if t168 = true then (if x14_3.length < 3518437208883 then (pleachref37_Set_p.l0 k3 l0 a4 (x14_3 ++ [(⟨(rd_T42 l0 x62_3).f0, (rd_T42 l0 x62_3).f1, (rd_T42 l0 x62_3).f2⟩ : S42)]) l0 (l0.length : Int) (wrap64 (x62_3 + 1)) a1 a2 a4) else (none)) else (pleachref37_Set_p.l0 k3 l0 a4 x14_3 l0 (l0.length : Int) (wrap64 (x62_3 + 1)) a1 a2 a4)) = some (r1, r2) := H
                          have A24 := Aside0.mk A240
                          clear A240
                          by_cases c25 : t168 = true
                          · subst c25
                            have H1 : (if x14_3.length < 3518437208883 then (pleachref37_Set_p.l0 k3 l0 a4 (x14_3 ++ [(⟨(rd_T42 l0 x62_3).f0, (rd_T42 l0 x62_3).f1, (rd_T42 l0 x62_3).f2⟩ : S42)]) l0 (l0.length : Int) (wrap64 (x62_3 + 1)) a1 a2 a4) else (none)) = some (r1, r2) := by rw [if_pos rfl] at H; exact H
                            clear H
                            have H := H1
                            clear H1
                            by_cases c26 : x14_3.length < 3518437208883
                            · rw [if_pos c26] at H
                              have LMc26 := Aside0.mk c26
                              clear c26
                              obtain ⟨y169, hy169⟩ : ∃ y_ : List (S42), y_ = (x14_3 ++ [(⟨(rd_T42 l0 x62_3).f0, (rd_T42 l0 x62_3).f1, (rd_T42 l0 x62_3).f2⟩ : S42)]) := ⟨_, rfl⟩
                              replace H : (pleachref37_Set_p.l0 k3 l0 a4 y169 l0 (l0.length : Int) (wrap64 (x62_3 + 1)) a1 a2 a4) = some (r1, r2) := by first | (rw [hy169]; with_reducible exact H) | (have H2_ := (Option.bind_some _ _).symm.trans H; rw [hy169]; with_reducible exact H2_) | (have H2_ := (Option.bind_some _ _).symm.trans H; with_reducible exact H2_) | with_reducible exact H | (rw [hy169]; exact H) | exact H
                              have Ny169 := Aside0.mk hy169
                              clear hy169
                              have H' := Aside0.mk H
                              clear H
                              have p166 : 0 ≤ (x62_3 : Int) := of_decide_eq_true (by first | (with_reducible assumption) | assumption)
                              have q166 : x62_3 < (l0.length : Int) := of_decide_eq_true (by first | (with_reducible assumption) | assumption)
                              obtain ⟨ad166, e166, hx166_0, hx166_1, hx166_2⟩ := at_T42 HR0.out x62_3 p166 q166
                              cases e166
                              replace hx166_0 := (HB.out.cell (World.block_lt_of_cell? w _ hx166_0)).trans hx166_0
                              replace hx166_1 := (HB.out.cell (World.block_lt_of_cell? w _ hx166_1)).trans hx166_1
                              replace hx166_2 := (HB.out.cell (World.block_lt_of_cell? w _ hx166_2)).trans hx166_2
                              replace p166 := eq_true p166
                              replace q166 := eq_true q166
                              go_wp2_with (first | ((with_reducible refine gate_dst (N := 16) rfl ?_); (try (refine gate_guard (by rfl) ?_; dsimp only)); refine box_event ?hg (N := 16) ?hd (cs := #[.int .i64 0, .string (⟨#[]⟩ : ByteArray), .string (⟨#[]⟩ : ByteArray)]) (t := 42) ?hr ?_; (case hd => rfl); (case hg => rfl); (case hr => first | (go_simp; done) | (go_simp; rfl)); intro zao hg w27 hbox hb; have n0_ := Aside0.mk (Kd.R_below (Kd.R_elderB (M.ro zan) zao (Nat.le_of_eq hg.symm)) hb); have n1_ := M.bkB zae hb; have n2_ := M.upS HB hb; have n3_ := Aside0.mk (hbox); have n4_ := M.upG HB hg; have n5_ := M.upG HB hg; have n6_ := M.bkL zae hg; have n7_ := M.bkG zae hg; clear zan zae HB; have zan := n0_; have zae := n1_; have HB := n2_; have zap := n3_; have zaq := n4_; have zar := n5_; have zas := n6_; have zat := n7_; clear n0_ n1_ n2_ n3_ n4_ n5_ n6_ n7_; clear hb hbox hg; have zau := zat.out; have zav := zas.out; obtain ⟨zaw, zax, zay⟩ := M.bc3 (w := w27) (a := .int .i64 0) (b := .string (⟨#[]⟩ : ByteArray)) (c := .string (⟨#[]⟩ : ByteArray)) zap.out; obtain ⟨zaz, zaA, zaB⟩ := M.bf3 zap; obtain ⟨zaC, zaD, zaE⟩ := M.bc3 (w := w27) (a := .int .i64 a1) (b := .string a2) (c := .string a4) zae.out; obtain ⟨zaF, zaG, zaH⟩ := M.bf3 zae) | ((with_reducible refine gate_callee (f := 17) rfl ?_); refine M.goes (some 68) Try.func17 #[.agg #[.int .i64 ((rd_T42 l0 x62_3).f0), .string ((rd_T42 l0 x62_3).f1), .string ((rd_T42 l0 x62_3).f2)], .agg #[.int .i64 a1, .string a2, .string a4]] rfl ?_; (with_reducible refine (pleachref37_Less.calls ((rd_T42 l0 x62_3).f0) ((rd_T42 l0 x62_3).f1) ((rd_T42 l0 x62_3).f2) a1 a2 a4 true _ A24.out).mono ?_); rintro e w31 ⟨rfl, hb⟩; refine ⟨_, rfl, ?_⟩; have n0_ := Aside0.mk (Kd.R_below (by (with_reducible repeat (first | apply Kd.R_alloc | apply Kd.R_drewN | apply Kd.R_drew)); exact (Kd.R_mono (Kd.R_far (p := ⟨zao, 2, none⟩) (Kd.R_far (p := ⟨zao, 1, none⟩) (Kd.R_far (p := ⟨zao, 0, none⟩) (Kd.R_mono zan.out (fun k_ hk => (⟨hk, hk.2⟩ : _ ∧ k_ ≠ zao))) (fun _ hk => hk.2) (.int .i64 ((rd_T42 l0 x62_3).f0))) (fun _ hk => hk.2) (.string ((rd_T42 l0 x62_3).f1))) (fun _ hk => hk.2) (.string ((rd_T42 l0 x62_3).f2))) (fun _ h_ => h_.1))) hb); have n1_ := Aside0.mk (blk_below (g := zad) (o := .cells #[.int .i64 a1, .string a2, .string a4] 42 (0, 0)) (by (with_reducible repeat (first | refine blk_drewN ?_ _ | refine blk_drew ?_ | refine blk_alloc ?_ _)); refine blk_far ?_ zas.out _; (with_reducible repeat (first | refine blk_drewN ?_ _ | refine blk_drew ?_ | refine blk_alloc ?_ _)); refine blk_far ?_ zas.out _; (with_reducible repeat (first | refine blk_drewN ?_ _ | refine blk_drew ?_ | refine blk_alloc ?_ _)); refine blk_far ?_ zas.out _; (with_reducible repeat (first | refine blk_drewN ?_ _ | refine blk_drew ?_ | refine blk_alloc ?_ _)); exact zae.out) hb); have n2_ := Aside0.mk (blk_below (g := zao) (o := .cells #[.int .i64 ((rd_T42 l0 x62_3).f0), .string ((rd_T42 l0 x62_3).f1), .string ((rd_T42 l0 x62_3).f2)] 42 (0, 0)) (by (with_reducible repeat (first | refine blk_drewN ?_ _ | refine blk_drew ?_ | refine blk_alloc ?_ _)); refine blk_put (cs := #[.int .i64 ((rd_T42 l0 x62_3).f0), .string ((rd_T42 l0 x62_3).f1), .string (⟨#[]⟩ : ByteArray)]) ?_ 2 _ rfl; (with_reducible repeat (first | refine blk_drewN ?_ _ | refine blk_drew ?_ | refine blk_alloc ?_ _)); refine blk_put (cs := #[.int .i64 ((rd_T42 l0 x62_3).f0), .string (⟨#[]⟩ : ByteArray), .string (⟨#[]⟩ : ByteArray)]) ?_ 1 _ rfl; (with_reducible repeat (first | refine blk_drewN ?_ _ | refine blk_drew ?_ | refine blk_alloc ?_ _)); refine blk_put (cs := #[.int .i64 0, .string (⟨#[]⟩ : ByteArray), .string (⟨#[]⟩ : ByteArray)]) ?_ 0 _ rfl; (with_reducible repeat (first | refine blk_drewN ?_ _ | refine blk_drew ?_ | refine blk_alloc ?_ _)); exact zap.out) hb); have n3_ := M.upS HB hb; clear zan zae zap HB; have zan := n0_; have zae := n1_; have zap := n2_; have HB := n3_; clear n0_ n1_ n2_ n3_; (try clear hb); obtain ⟨zaI, zaJ, zaK⟩ := M.bc3 (w := w31) (a := .int .i64 ((rd_T42 l0 x62_3).f0)) (b := .string ((rd_T42 l0 x62_3).f1)) (c := .string ((rd_T42 l0 x62_3).f2)) zap.out; obtain ⟨zaL, zaM, zaN⟩ := M.bf3 zap) | ((with_reducible refine gate_builtin (b := .append) (xs := #[.tmp 69, .tmp 71]) rfl ?_); (try (refine gate_guard (by rfl) ?_; dsimp only)); at_builtin; refine Kd.R_append k42 (w0 := w) w.heap.size rfl (.tmp 69) (.tmp 71) 22 42 (.agg #[(.int .i64 0), (.string ⟨#[]⟩), (.string ⟨#[]⟩)]) 40 rfl Try.underlying22 info42 rfl (by decide) (by omega) u14 x14_3 (⟨(rd_T42 l0 x62_3).f0, (rd_T42 l0 x62_3).f1, (rd_T42 l0 x62_3).f2⟩ : S42) [.int .i64 ((rd_T42 l0 x62_3).f0), .string ((rd_T42 l0 x62_3).f1), .string ((rd_T42 l0 x62_3).f2)] (fun k_ => k_ ≠ zad ∧ k_ ≠ zao) (fun _ => False) rfl rfl ?aP (fun _ hk => hk.elim) ?aF ?aO ?aB ?aS ?aL ?_; (case aP => exact k42_mkM _ _ _ (⟨(rd_T42 l0 x62_3).f0, (rd_T42 l0 x62_3).f1, (rd_T42 l0 x62_3).f2⟩ : S42)); (case aB => exact (M.up HB)); (case aF => exact (fun k_ hk => ⟨Kd.freshB (g := zad) (o := .cells #[.int .i64 a1, .string a2, .string a4] 42 (0, 0)) (M.bk zae) k_ hk, Kd.freshB (g := zao) (o := .cells #[.int .i64 ((rd_T42 l0 x62_3).f0), .string ((rd_T42 l0 x62_3).f1), .string ((rd_T42 l0 x62_3).f2)] 42 (0, 0)) (M.bk zap) k_ hk⟩)); (case aO => exact (M.ro zan)); (case aS => exact (below_size (M.up HB))); (case aL => have := LMc26.out; omega); intro v170 w33 ho hb hg hat; rw [← Ny169.out] at ho; have n0_ := Aside0.mk (blk_grown (g := zad) (o := .cells #[.int .i64 a1, .string a2, .string a4] 42 (0, 0)) (M.bk zae) hg (Kd.R_away zan.out (fun _ hk => hk.1))); have n1_ := Aside0.mk (blk_grown (g := zao) (o := .cells #[.int .i64 ((rd_T42 l0 x62_3).f0), .string ((rd_T42 l0 x62_3).f1), .string ((rd_T42 l0 x62_3).f2)] 42 (0, 0)) (M.bk zap) hg (Kd.R_away zan.out (fun _ hk => hk.2))); have n2_ := Aside0.mk (hb); have n3_ := Aside0.mk (ho); clear zae zap HB zan; have zae := n0_; have zap := n1_; have HB := n2_; have HO171 := n3_; clear n0_ n1_ n2_ n3_; clear ho hb hg hat))
                              go_roundg k3
                              case measure => have := HJ5.out; have := HJ14.out; have := HK3.out; omega
                              case rel => exact ⟨(y169), (wrap64 (x62_3 + 1)), (by first | rfl | (simp; done) | (simp [*]; done) | (simp [M.isEmpty_bne]; done)), H', ⟨by have := HJ5.out; have := HJ14.out; have := HK3.out; omega⟩, ⟨by (with_reducible repeat (first | apply Kd.R_alloc | apply Kd.R_drewN | apply Kd.R_drew)); exact Kd.R_mono HO171.out (fun _ hk => hk.1)⟩, ⟨by (with_reducible repeat (first | refine blk_drewN ?_ _ | refine blk_drew ?_ | refine blk_alloc ?_ _)); exact zae.out⟩, ⟨M.up HB⟩⟩
                            · rw [if_neg c26] at H
                              exact absurd H (by simp)
                          · replace c25 := Bool.eq_false_iff.mpr c25
                            subst c25
                            have H1 : (pleachref37_Set_p.l0 k3 l0 a4 x14_3 l0 (l0.length : Int) (wrap64 (x62_3 + 1)) a1 a2 a4) = some (r1, r2) := by rw [if_neg (show ¬ (false = true) by decide)] at H; exact H
                            clear H
                            have H := H1
                            clear H1
                            have H' := Aside0.mk H
                            clear H
                            have p166 : 0 ≤ (x62_3 : Int) := of_decide_eq_true (by first | (with_reducible assumption) | assumption)
                            have q166 : x62_3 < (l0.length : Int) := of_decide_eq_true (by first | (with_reducible assumption) | assumption)
                            obtain ⟨ad166, e166, hx166_0, hx166_1, hx166_2⟩ := at_T42 HR0.out x62_3 p166 q166
                            cases e166
                            replace hx166_0 := (HB.out.cell (World.block_lt_of_cell? w _ hx166_0)).trans hx166_0
                            replace hx166_1 := (HB.out.cell (World.block_lt_of_cell? w _ hx166_1)).trans hx166_1
                            replace hx166_2 := (HB.out.cell (World.block_lt_of_cell? w _ hx166_2)).trans hx166_2
                            replace p166 := eq_true p166
                            replace q166 := eq_true q166
                            go_wp2_with (first | ((with_reducible refine gate_dst (N := 16) rfl ?_); (try (refine gate_guard (by rfl) ?_; dsimp only)); refine box_event ?hg (N := 16) ?hd (cs := #[.int .i64 0, .string (⟨#[]⟩ : ByteArray), .string (⟨#[]⟩ : ByteArray)]) (t := 42) ?hr ?_; (case hd => rfl); (case hg => rfl); (case hr => first | (go_simp; done) | (go_simp; rfl)); intro zao hg w34 hbox hb; have n0_ := Aside0.mk (Kd.R_below (Kd.R_elderB (M.ro zan) zao (Nat.le_of_eq hg.symm)) hb); have n1_ := M.bkB zae hb; have n2_ := M.upS HB hb; have n3_ := Aside0.mk (hbox); have n4_ := M.upG HB hg; have n5_ := M.upG HB hg; have n6_ := M.bkL zae hg; have n7_ := M.bkG zae hg; clear zan zae HB; have zan := n0_; have zae := n1_; have HB := n2_; have zap := n3_; have zaq := n4_; have zar := n5_; have zas := n6_; have zat := n7_; clear n0_ n1_ n2_ n3_ n4_ n5_ n6_ n7_; clear hb hbox hg; have zaO := zat.out; have zaP := zas.out; obtain ⟨zaQ, zaR, zaS⟩ := M.bc3 (w := w34) (a := .int .i64 0) (b := .string (⟨#[]⟩ : ByteArray)) (c := .string (⟨#[]⟩ : ByteArray)) zap.out; obtain ⟨zaT, zaU, zaV⟩ := M.bf3 zap; obtain ⟨zaW, zaX, zaY⟩ := M.bc3 (w := w34) (a := .int .i64 a1) (b := .string a2) (c := .string a4) zae.out; obtain ⟨zaZ, za0, za1⟩ := M.bf3 zae) | ((with_reducible refine gate_callee (f := 17) rfl ?_); refine M.goes (some 68) Try.func17 #[.agg #[.int .i64 ((rd_T42 l0 x62_3).f0), .string ((rd_T42 l0 x62_3).f1), .string ((rd_T42 l0 x62_3).f2)], .agg #[.int .i64 a1, .string a2, .string a4]] rfl ?_; (with_reducible refine (pleachref37_Less.calls ((rd_T42 l0 x62_3).f0) ((rd_T42 l0 x62_3).f1) ((rd_T42 l0 x62_3).f2) a1 a2 a4 false _ A24.out).mono ?_); rintro e w38 ⟨rfl, hb⟩; refine ⟨_, rfl, ?_⟩; have n0_ := Aside0.mk (Kd.R_below (by (with_reducible repeat (first | apply Kd.R_alloc | apply Kd.R_drewN | apply Kd.R_drew)); exact (Kd.R_mono (Kd.R_far (p := ⟨zao, 2, none⟩) (Kd.R_far (p := ⟨zao, 1, none⟩) (Kd.R_far (p := ⟨zao, 0, none⟩) (Kd.R_mono zan.out (fun k_ hk => (⟨hk, hk.2⟩ : _ ∧ k_ ≠ zao))) (fun _ hk => hk.2) (.int .i64 ((rd_T42 l0 x62_3).f0))) (fun _ hk => hk.2) (.string ((rd_T42 l0 x62_3).f1))) (fun _ hk => hk.2) (.string ((rd_T42 l0 x62_3).f2))) (fun _ h_ => h_.1))) hb); have n1_ := Aside0.mk (blk_below (g := zad) (o := .cells #[.int .i64 a1, .string a2, .string a4] 42 (0, 0)) (by (with_reducible repeat (first | refine blk_drewN ?_ _ | refine blk_drew ?_ | refine blk_alloc ?_ _)); refine blk_far ?_ zas.out _; (with_reducible repeat (first | refine blk_drewN ?_ _ | refine blk_drew ?_ | refine blk_alloc ?_ _)); refine blk_far ?_ zas.out _; (with_reducible repeat (first | refine blk_drewN ?_ _ | refine blk_drew ?_ | refine blk_alloc ?_ _)); refine blk_far ?_ zas.out _; (with_reducible repeat (first | refine blk_drewN ?_ _ | refine blk_drew ?_ | refine blk_alloc ?_ _)); exact zae.out) hb); have n2_ := Aside0.mk (blk_below (g := zao) (o := .cells #[.int .i64 ((rd_T42 l0 x62_3).f0), .string ((rd_T42 l0 x62_3).f1), .string ((rd_T42 l0 x62_3).f2)] 42 (0, 0)) (by (with_reducible repeat (first | refine blk_drewN ?_ _ | refine blk_drew ?_ | refine blk_alloc ?_ _)); refine blk_put (cs := #[.int .i64 ((rd_T42 l0 x62_3).f0), .string ((rd_T42 l0 x62_3).f1), .string (⟨#[]⟩ : ByteArray)]) ?_ 2 _ rfl; (with_reducible repeat (first | refine blk_drewN ?_ _ | refine blk_drew ?_ | refine blk_alloc ?_ _)); refine blk_put (cs := #[.int .i64 ((rd_T42 l0 x62_3).f0), .string (⟨#[]⟩ : ByteArray), .string (⟨#[]⟩ : ByteArray)]) ?_ 1 _ rfl; (with_reducible repeat (first | refine blk_drewN ?_ _ | refine blk_drew ?_ | refine blk_alloc ?_ _)); refine blk_put (cs := #[.int .i64 0, .string (⟨#[]⟩ : ByteArray), .string (⟨#[]⟩ : ByteArray)]) ?_ 0 _ rfl; (with_reducible repeat (first | refine blk_drewN ?_ _ | refine blk_drew ?_ | refine blk_alloc ?_ _)); exact zap.out) hb); have n3_ := M.upS HB hb; clear zan zae zap HB; have zan := n0_; have zae := n1_; have zap := n2_; have HB := n3_; clear n0_ n1_ n2_ n3_; (try clear hb)))
                            go_roundg k3
                            case measure => have := HJ5.out; have := HJ14.out; have := HK3.out; omega
                            case rel => exact ⟨(x14_3), (wrap64 (x62_3 + 1)), (by first | rfl | (simp; done) | (simp [*]; done) | (simp [M.isEmpty_bne]; done)), H', ⟨by have := HJ5.out; have := HJ14.out; have := HK3.out; omega⟩, ⟨by (with_reducible repeat (first | apply Kd.R_alloc | apply Kd.R_drewN | apply Kd.R_drew)); exact Kd.R_mono zan.out (fun _ hk => hk.1)⟩, ⟨by (with_reducible repeat (first | refine blk_drewN ?_ _ | refine blk_drew ?_ | refine blk_alloc ?_ _)); exact zae.out⟩, ⟨M.up HB⟩⟩
                        · rw [if_neg c23] at H
                          exact absurd H (by simp)
                      · rw [if_neg c22] at H
                        exact absurd H (by simp)
                    · rw [if_neg c21] at H
                      have c21b0 : decide (x62_3 < (l0.length : Int)) = false := decide_eq_false c21
                      clear c21
                      have HC39 := Aside0.mk H
                      clear H
                      go_upto_if 75 with (fail)
                      go_cut [14] (fun v14 wc => ∃ (kq : Nat) (x14_38 : List (S42)), Aside0 (pleachref37_Set_p.j3 kq l0 x14_38 a1 a2 a4 = some (r1, r2)) ∧ Aside0 (kq ≤ k3) ∧ Aside0 (Kd.R k42 42 wc w.heap.size (fun k_ => k_ ≠ zad) v14 x14_38) ∧ Aside0 (wc.heap[zad]? = some (.cells #[.int .i64 a1, .string a2, .string a4] 42 (0, 0))) ∧ Aside0 (Below w.heap.size w wc))
                      case first =>
                        have H := HC39.out
                        clear HC39
                        by_cases c40 : a4.toList = ([] : List UInt8)
                        · rw [if_pos c40] at H
                          have c40b0 : (a4.toList == ([] : List UInt8)) = true := beq_iff_eq.mpr c40
                          have c40b1 : (a4.toList != ([] : List UInt8)) = false := bne_eq_false_iff_eq.mpr c40
                          have c40e : a4.toList.isEmpty = true := by simpa [M.isEmpty_bne] using c40b1
                          have c40f : (!a4.toList.isEmpty) = false := by rw [c40e]; rfl
                          clear c40
                          (first | rw [c40f] | rw [c40b0] | (simp only [i64_w, i32_w]; rw [c40b0]) | skip)
                          have H' := Aside0.mk H
                          clear H
                          go_wp2
                          go_meet
                          case rel => exact ⟨_, (x14_3), H', ⟨by have := HJ5.out; have := HJ14.out; have := HK3.out; first | omega | exact Nat.le_refl _⟩, ⟨by (with_reducible repeat (first | apply Kd.R_alloc | apply Kd.R_drewN | apply Kd.R_drew)); exact zan.out⟩, ⟨by (with_reducible repeat (first | refine blk_drewN ?_ _ | refine blk_drew ?_ | refine blk_alloc ?_ _)); exact zae.out⟩, ⟨M.up HB⟩⟩
                        · rw [if_neg c40] at H
                          have c40b0 : (a4.toList == ([] : List UInt8)) = false := beq_eq_false_iff_ne.mpr c40
                          have c40b1 : (a4.toList != ([] : List UInt8)) = true := bne_iff_ne.mpr c40
                          have c40e : a4.toList.isEmpty = false := by simpa [M.isEmpty_bne] using c40b1
                          have c40f : (!a4.toList.isEmpty) = true := by rw [c40e]; rfl
                          (first | rw [c40f] | rw [c40b0] | (simp only [i64_w, i32_w]; rw [c40b0]) | skip)
                          by_cases c41 : x14_3.length < 3518437208883
                          · rw [if_pos c41] at H
                            have LMc41 := Aside0.mk c41
                            clear c41
                            obtain ⟨y172, hy172⟩ : ∃ y_ : List (S42), y_ = (x14_3 ++ [(⟨a1, a2, a4⟩ : S42)]) := ⟨_, rfl⟩
                            replace H : (pleachref37_Set_p.j3 k3 l0 y172 a1 a2 a4) = some (r1, r2) := by first | (rw [hy172]; with_reducible exact H) | (have H2_ := (Option.bind_some _ _).symm.trans H; rw [hy172]; with_reducible exact H2_) | (have H2_ := (Option.bind_some _ _).symm.trans H; with_reducible exact H2_) | with_reducible exact H | (rw [hy172]; exact H) | exact H
                            have Ny172 := Aside0.mk hy172
                            clear hy172
                            have H' := Aside0.mk H
                            clear H
                            obtain ⟨za2, za3, za4⟩ := M.bc3 (w := wr) (a := .int .i64 a1) (b := .string a2) (c := .string a4) zae.out
                            obtain ⟨za5, za6, za7⟩ := M.bf3 zae
                            go_wp2_with (first | ((with_reducible refine gate_builtin (b := .append) (xs := #[.tmp 76, .tmp 78]) rfl ?_); (try (refine gate_guard (by rfl) ?_; dsimp only)); at_builtin; refine Kd.R_append k42 (w0 := w) w.heap.size rfl (.tmp 76) (.tmp 78) 22 42 (.agg #[(.int .i64 0), (.string ⟨#[]⟩), (.string ⟨#[]⟩)]) 40 rfl Try.underlying22 info42 rfl (by decide) (by omega) u14 x14_3 (⟨a1, a2, a4⟩ : S42) [.int .i64 a1, .string a2, .string a4] (fun k_ => k_ ≠ zad) (fun _ => False) rfl rfl ?aP (fun _ hk => hk.elim) ?aF ?aO ?aB ?aS ?aL ?_; (case aP => exact k42_mkM _ _ _ (⟨a1, a2, a4⟩ : S42)); (case aB => exact (M.up HB)); (case aF => exact (fun k_ hk => Kd.freshB (g := zad) (o := .cells #[.int .i64 a1, .string a2, .string a4] 42 (0, 0)) (M.bk zae) k_ hk)); (case aO => exact (M.ro zan)); (case aS => exact (below_size (M.up HB))); (case aL => have := LMc41.out; omega); intro v173 w43 ho hb hg hat; rw [← Ny172.out] at ho; have n0_ := Aside0.mk (blk_grown (g := zad) (o := .cells #[.int .i64 a1, .string a2, .string a4] 42 (0, 0)) (M.bk zae) hg (Kd.R_away zan.out (fun _ hk => hk))); have n1_ := Aside0.mk (hb); have n2_ := Aside0.mk (ho); clear zae HB zan; have zae := n0_; have HB := n1_; have HO174 := n2_; clear n0_ n1_ n2_; clear ho hb hg hat))
                            go_meet
                            case rel => exact ⟨_, (y172), H', ⟨by have := HJ5.out; have := HJ14.out; have := HK3.out; first | omega | exact Nat.le_refl _⟩, ⟨by (with_reducible repeat (first | apply Kd.R_alloc | apply Kd.R_drewN | apply Kd.R_drew)); exact HO174.out⟩, ⟨by (with_reducible repeat (first | refine blk_drewN ?_ _ | refine blk_drew ?_ | refine blk_alloc ?_ _)); exact zae.out⟩, ⟨M.up HB⟩⟩
                          · rw [if_neg c41] at H
                            exact absurd H (by simp)
                      case rest =>
                        clear HC39
                        try clear c1
                        try clear p1
                        try clear q1
                        try clear hx1
                        try clear c2
                        try clear p2
                        try clear c3
                        try clear c4
                        try clear p6
                        try clear c7
                        try clear c7b0
                        try clear c8
                        try clear c8b0
                        try clear c10
                        try clear c11
                        try clear c11b0
                        try clear c11b1
                        try clear c12
                        try clear c14
                        try clear c14b0
                        try clear c14b1
                        try clear p16
                        try clear q16
                        try clear hx16
                        try clear c17
                        try clear c17b0
                        try clear c17b1
                        try clear c18
                        try clear c21
                        try clear c21b0
                        try clear c22
                        try clear c22b0
                        try clear c23
                        try clear c23b0
                        try clear c25
                        try clear c26
                        try clear c28
                        try clear c35
                        try clear c40
                        try clear c40b0
                        try clear c40b1
                        try clear c41
                        try clear zah
                        try clear zai
                        try clear zaj
                        try clear zaw
                        try clear zax
                        try clear zay
                        try clear zaC
                        try clear zaD
                        try clear zaE
                        try clear zaI
                        try clear zaJ
                        try clear zaK
                        try clear zaQ
                        try clear zaR
                        try clear zaS
                        try clear zaW
                        try clear zaX
                        try clear zaY
                        try clear za2
                        try clear za3
                        try clear za4
                        try clear zak
                        try clear zal
                        try clear zam
                        try clear zaz
                        try clear zaA
                        try clear zaB
                        try clear zaF
                        try clear zaG
                        try clear zaH
                        try clear zaL
                        try clear zaM
                        try clear zaN
                        try clear zaT
                        try clear zaU
                        try clear zaV
                        try clear zaZ
                        try clear za0
                        try clear za1
                        try clear za5
                        try clear za6
                        try clear za7
                        try clear hx166_0
                        try clear hx166_1
                        try clear hx166_2
                        try clear p166
                        try clear p2
                        try clear q166
                        obtain ⟨kq, x14_38, HA, HJ38, zan, zae, HB⟩ := hcut
                        cases kq with
                        | zero => exact absurd HA.out (by simp [pleachref37_Set_p.j3])
                        | succ kj38 =>
                          have H := HA.out
                          clear HA
                          simp only [pleachref37_Set_p.j3] at H
                          have H' := Aside0.mk H
                          clear H
                          go_wp2
                          go_loopg [14, 82] kj38 (fun kq v14 v82 w' => ∃ (x14_5 : List (S42)) (x82_5 : Int), v82 = .int .i64 x82_5 ∧ Aside0 (pleachref37_Set_p.l1 kq x14_5 l0 (l0.length : Int) x82_5 a1 a2 a4 = some (r1, r2)) ∧ Aside0 (kq ≤ kj38) ∧ Aside0 (Kd.R k42 42 w' w.heap.size (fun k_ => k_ ≠ zad) v14 x14_5) ∧ Aside0 (w'.heap[zad]? = some (.cells #[.int .i64 a1, .string a2, .string a4] 42 (0, 0))) ∧ Aside0 (Below w.heap.size w w'))
                          case atStart => exact ⟨(x14_38), (0), (by first | rfl | (simp; done) | (simp [*]; done) | (simp [M.isEmpty_bne]; done)), H', ⟨Nat.le_refl _⟩, ⟨by (with_reducible repeat (first | apply Kd.R_alloc | apply Kd.R_drewN | apply Kd.R_drew)); exact zan.out⟩, ⟨by (with_reducible repeat (first | refine blk_drewN ?_ _ | refine blk_drew ?_ | refine blk_alloc ?_ _)); exact zae.out⟩, ⟨M.up HB⟩⟩
                          case round =>
                            clear H'
                            try clear c1
                            try clear p1
                            try clear q1
                            try clear hx1
                            try clear c2
                            try clear p2
                            try clear c3
                            try clear c4
                            try clear p6
                            try clear c7
                            try clear c7b0
                            try clear c8
                            try clear c8b0
                            try clear c10
                            try clear c11
                            try clear c11b0
                            try clear c11b1
                            try clear c12
                            try clear c14
                            try clear c14b0
                            try clear c14b1
                            try clear p16
                            try clear q16
                            try clear hx16
                            try clear c17
                            try clear c17b0
                            try clear c17b1
                            try clear c18
                            try clear c21
                            try clear c21b0
                            try clear c22
                            try clear c22b0
                            try clear c23
                            try clear c23b0
                            try clear c25
                            try clear c26
                            try clear c28
                            try clear c35
                            try clear c40
                            try clear c40b0
                            try clear c40b1
                            try clear c41
                            try clear zah
                            try clear zai
                            try clear zaj
                            try clear zaw
                            try clear zax
                            try clear zay
                            try clear zaC
                            try clear zaD
                            try clear zaE
                            try clear zaI
                            try clear zaJ
                            try clear zaK
                            try clear zaQ
                            try clear zaR
                            try clear zaS
                            try clear zaW
                            try clear zaX
                            try clear zaY
                            try clear za2
                            try clear za3
                            try clear za4
                            try clear zak
                            try clear zal
                            try clear zam
                            try clear zaz
                            try clear zaA
                            try clear zaB
                            try clear zaF
                            try clear zaG
                            try clear zaH
                            try clear zaL
                            try clear zaM
                            try clear zaN
                            try clear zaT
                            try clear zaU
                            try clear zaV
                            try clear zaZ
                            try clear za0
                            try clear za1
                            try clear za5
                            try clear za6
                            try clear za7
                            try clear hx166_0
                            try clear hx166_1
                            try clear hx166_2
                            try clear p1
                            try clear p16
                            try clear p166
                            try clear p2
                            try clear p6
                            try clear q1
                            try clear q16
                            try clear q166
                            obtain ⟨x14_5, x82_5, rfl, HA, HK5, zan, zae, HB⟩ := hrel
                            cases gk with
                            | zero => exact absurd HA.out (by simp [pleachref37_Set_p.l1])
                            | succ k5 =>
                              have H := HA.out
                              clear HA
                              simp only [pleachref37_Set_p.l1] at H
                              by_cases c44 : x82_5 < (l0.length : Int)
                              · rw [if_pos c44] at H
                                have c44b0 : decide (x82_5 < (l0.length : Int)) = true := decide_eq_true c44
                                clear c44
                                by_cases c45 : 0 ≤ x82_5
                                · rw [if_pos c45] at H
                                  have c45b0 : decide (0 ≤ x82_5) = true := decide_eq_true c45
                                  clear c45
                                  by_cases c46 : x82_5 < (l0.length : Int)
                                  · rw [if_pos c46] at H
                                    have c46b0 : decide (x82_5 < (l0.length : Int)) = true := decide_eq_true c46
                                    clear c46
                                    replace H := Option.bind_eq_some_iff.mp H
                                    obtain ⟨t177, A470, H⟩ := H
                                    replace H : (if t177 = true then (if x14_5.length < 3518437208883 then (pleachref37_Set_p.l1 k5 (x14_5 ++ [(⟨(rd_T42 l0 x82_5).f0, (rd_T42 l0 x82_5).f1, (rd_T42 l0 x82_5).f2⟩ : S42)]) l0 (l0.length : Int) (wrap64 (x82_5 + 1)) a1 a2 a4) else (none)) else (pleachref37_Set_p.l1 k5 x14_5 l0 (l0.length : Int) (wrap64 (x82_5 + 1)) a1 a2 a4)) = some (r1, r2) := H
                                    have A47 := Aside0.mk A470
                                    clear A470
                                    by_cases c48 : t177 = true
                                    · subst c48
                                      have H1 : (if x14_5.length < 3518437208883 then (pleachref37_Set_p.l1 k5 (x14_5 ++ [(⟨(rd_T42 l0 x82_5).f0, (rd_T42 l0 x82_5).f1, (rd_T42 l0 x82_5).f2⟩ : S42)]) l0 (l0.length : Int) (wrap64 (x82_5 + 1)) a1 a2 a4) else (none)) = some (r1, r2) := by rw [if_pos rfl] at H; exact H
                                      clear H
                                      have H := H1
                                      clear H1
                                      by_cases c49 : x14_5.length < 3518437208883
                                      · rw [if_pos c49] at H
                                        have LMc49 := Aside0.mk c49
                                        clear c49
                                        obtain ⟨y178, hy178⟩ : ∃ y_ : List (S42), y_ = (x14_5 ++ [(⟨(rd_T42 l0 x82_5).f0, (rd_T42 l0 x82_5).f1, (rd_T42 l0 x82_5).f2⟩ : S42)]) := ⟨_, rfl⟩
                                        replace H : (pleachref37_Set_p.l1 k5 y178 l0 (l0.length : Int) (wrap64 (x82_5 + 1)) a1 a2 a4) = some (r1, r2) := by first | (rw [hy178]; with_reducible exact H) | (have H2_ := (Option.bind_some _ _).symm.trans H; rw [hy178]; with_reducible exact H2_) | (have H2_ := (Option.bind_some _ _).symm.trans H; with_reducible exact H2_) | with_reducible exact H | (rw [hy178]; exact H) | exact H
                                        have Ny178 := Aside0.mk hy178
                                        clear hy178
                                        have H' := Aside0.mk H
                                        clear H
                                        have p175 : 0 ≤ (x82_5 : Int) := of_decide_eq_true (by first | (with_reducible assumption) | assumption)
                                        have q175 : x82_5 < (l0.length : Int) := of_decide_eq_true (by first | (with_reducible assumption) | assumption)
                                        obtain ⟨ad175, e175, hx175_0, hx175_1, hx175_2⟩ := at_T42 HR0.out x82_5 p175 q175
                                        cases e175
                                        replace hx175_0 := (HB.out.cell (World.block_lt_of_cell? w _ hx175_0)).trans hx175_0
                                        replace hx175_1 := (HB.out.cell (World.block_lt_of_cell? w _ hx175_1)).trans hx175_1
                                        replace hx175_2 := (HB.out.cell (World.block_lt_of_cell? w _ hx175_2)).trans hx175_2
                                        replace p175 := eq_true p175
                                        replace q175 := eq_true q175
                                        go_wp2_with (first | ((with_reducible refine gate_dst (N := 18) rfl ?_); (try (refine gate_guard (by rfl) ?_; dsimp only)); refine box_event ?hg (N := 18) ?hd (cs := #[.int .i64 0, .string (⟨#[]⟩ : ByteArray), .string (⟨#[]⟩ : ByteArray)]) (t := 42) ?hr ?_; (case hd => rfl); (case hg => rfl); (case hr => first | (go_simp; done) | (go_simp; rfl)); intro za8 hg w50 hbox hb; have n0_ := Aside0.mk (Kd.R_below (Kd.R_elderB (M.ro zan) za8 (Nat.le_of_eq hg.symm)) hb); have n1_ := M.bkB zae hb; have n2_ := M.upS HB hb; have n3_ := Aside0.mk (hbox); have n4_ := M.upG HB hg; have n5_ := M.upG HB hg; have n6_ := M.bkL zae hg; have n7_ := M.bkG zae hg; clear zan zae HB; have zan := n0_; have zae := n1_; have HB := n2_; have za9 := n3_; have zba := n4_; have zbb := n5_; have zbc := n6_; have zbd := n7_; clear n0_ n1_ n2_ n3_ n4_ n5_ n6_ n7_; clear hb hbox hg; have zbe := zbd.out; have zbf := zbc.out; obtain ⟨zbg, zbh, zbi⟩ := M.bc3 (w := w50) (a := .int .i64 0) (b := .string (⟨#[]⟩ : ByteArray)) (c := .string (⟨#[]⟩ : ByteArray)) za9.out; obtain ⟨zbj, zbk, zbl⟩ := M.bf3 za9; obtain ⟨zbm, zbn, zbo⟩ := M.bc3 (w := w50) (a := .int .i64 a1) (b := .string a2) (c := .string a4) zae.out; obtain ⟨zbp, zbq, zbr⟩ := M.bf3 zae) | ((with_reducible refine gate_callee (f := 17) rfl ?_); refine M.goes (some 88) Try.func17 #[.agg #[.int .i64 a1, .string a2, .string a4], .agg #[.int .i64 ((rd_T42 l0 x82_5).f0), .string ((rd_T42 l0 x82_5).f1), .string ((rd_T42 l0 x82_5).f2)]] rfl ?_; (with_reducible refine (pleachref37_Less.calls a1 a2 a4 ((rd_T42 l0 x82_5).f0) ((rd_T42 l0 x82_5).f1) ((rd_T42 l0 x82_5).f2) true _ A47.out).mono ?_); rintro e w54 ⟨rfl, hb⟩; refine ⟨_, rfl, ?_⟩; have n0_ := Aside0.mk (Kd.R_below (by (with_reducible repeat (first | apply Kd.R_alloc | apply Kd.R_drewN | apply Kd.R_drew)); exact (Kd.R_mono (Kd.R_far (p := ⟨za8, 2, none⟩) (Kd.R_far (p := ⟨za8, 1, none⟩) (Kd.R_far (p := ⟨za8, 0, none⟩) (Kd.R_mono zan.out (fun k_ hk => (⟨hk, hk.2⟩ : _ ∧ k_ ≠ za8))) (fun _ hk => hk.2) (.int .i64 ((rd_T42 l0 x82_5).f0))) (fun _ hk => hk.2) (.string ((rd_T42 l0 x82_5).f1))) (fun _ hk => hk.2) (.string ((rd_T42 l0 x82_5).f2))) (fun _ h_ => h_.1))) hb); have n1_ := Aside0.mk (blk_below (g := zad) (o := .cells #[.int .i64 a1, .string a2, .string a4] 42 (0, 0)) (by (with_reducible repeat (first | refine blk_drewN ?_ _ | refine blk_drew ?_ | refine blk_alloc ?_ _)); refine blk_far ?_ zbc.out _; (with_reducible repeat (first | refine blk_drewN ?_ _ | refine blk_drew ?_ | refine blk_alloc ?_ _)); refine blk_far ?_ zbc.out _; (with_reducible repeat (first | refine blk_drewN ?_ _ | refine blk_drew ?_ | refine blk_alloc ?_ _)); refine blk_far ?_ zbc.out _; (with_reducible repeat (first | refine blk_drewN ?_ _ | refine blk_drew ?_ | refine blk_alloc ?_ _)); exact zae.out) hb); have n2_ := Aside0.mk (blk_below (g := za8) (o := .cells #[.int .i64 ((rd_T42 l0 x82_5).f0), .string ((rd_T42 l0 x82_5).f1), .string ((rd_T42 l0 x82_5).f2)] 42 (0, 0)) (by (with_reducible repeat (first | refine blk_drewN ?_ _ | refine blk_drew ?_ | refine blk_alloc ?_ _)); refine blk_put (cs := #[.int .i64 ((rd_T42 l0 x82_5).f0), .string ((rd_T42 l0 x82_5).f1), .string (⟨#[]⟩ : ByteArray)]) ?_ 2 _ rfl; (with_reducible repeat (first | refine blk_drewN ?_ _ | refine blk_drew ?_ | refine blk_alloc ?_ _)); refine blk_put (cs := #[.int .i64 ((rd_T42 l0 x82_5).f0), .string (⟨#[]⟩ : ByteArray), .string (⟨#[]⟩ : ByteArray)]) ?_ 1 _ rfl; (with_reducible repeat (first | refine blk_drewN ?_ _ | refine blk_drew ?_ | refine blk_alloc ?_ _)); refine blk_put (cs := #[.int .i64 0, .string (⟨#[]⟩ : ByteArray), .string (⟨#[]⟩ : ByteArray)]) ?_ 0 _ rfl; (with_reducible repeat (first | refine blk_drewN ?_ _ | refine blk_drew ?_ | refine blk_alloc ?_ _)); exact za9.out) hb); have n3_ := M.upS HB hb; clear zan zae za9 HB; have zan := n0_; have zae := n1_; have za9 := n2_; have HB := n3_; clear n0_ n1_ n2_ n3_; (try clear hb); obtain ⟨zbs, zbt, zbu⟩ := M.bc3 (w := w54) (a := .int .i64 ((rd_T42 l0 x82_5).f0)) (b := .string ((rd_T42 l0 x82_5).f1)) (c := .string ((rd_T42 l0 x82_5).f2)) za9.out; obtain ⟨zbv, zbw, zbx⟩ := M.bf3 za9) | ((with_reducible refine gate_builtin (b := .append) (xs := #[.tmp 89, .tmp 91]) rfl ?_); (try (refine gate_guard (by rfl) ?_; dsimp only)); at_builtin; refine Kd.R_append k42 (w0 := w) w.heap.size rfl (.tmp 89) (.tmp 91) 22 42 (.agg #[(.int .i64 0), (.string ⟨#[]⟩), (.string ⟨#[]⟩)]) 40 rfl Try.underlying22 info42 rfl (by decide) (by omega) u14 x14_5 (⟨(rd_T42 l0 x82_5).f0, (rd_T42 l0 x82_5).f1, (rd_T42 l0 x82_5).f2⟩ : S42) [.int .i64 ((rd_T42 l0 x82_5).f0), .string ((rd_T42 l0 x82_5).f1), .string ((rd_T42 l0 x82_5).f2)] (fun k_ => k_ ≠ zad ∧ k_ ≠ za8) (fun _ => False) rfl rfl ?aP (fun _ hk => hk.elim) ?aF ?aO ?aB ?aS ?aL ?_; (case aP => exact k42_mkM _ _ _ (⟨(rd_T42 l0 x82_5).f0, (rd_T42 l0 x82_5).f1, (rd_T42 l0 x82_5).f2⟩ : S42)); (case aB => exact (M.up HB)); (case aF => exact (fun k_ hk => ⟨Kd.freshB (g := zad) (o := .cells #[.int .i64 a1, .string a2, .string a4] 42 (0, 0)) (M.bk zae) k_ hk, Kd.freshB (g := za8) (o := .cells #[.int .i64 ((rd_T42 l0 x82_5).f0), .string ((rd_T42 l0 x82_5).f1), .string ((rd_T42 l0 x82_5).f2)] 42 (0, 0)) (M.bk za9) k_ hk⟩)); (case aO => exact (M.ro zan)); (case aS => exact (below_size (M.up HB))); (case aL => have := LMc49.out; omega); intro v179 w56 ho hb hg hat; rw [← Ny178.out] at ho; have n0_ := Aside0.mk (blk_grown (g := zad) (o := .cells #[.int .i64 a1, .string a2, .string a4] 42 (0, 0)) (M.bk zae) hg (Kd.R_away zan.out (fun _ hk => hk.1))); have n1_ := Aside0.mk (blk_grown (g := za8) (o := .cells #[.int .i64 ((rd_T42 l0 x82_5).f0), .string ((rd_T42 l0 x82_5).f1), .string ((rd_T42 l0 x82_5).f2)] 42 (0, 0)) (M.bk za9) hg (Kd.R_away zan.out (fun _ hk => hk.2))); have n2_ := Aside0.mk (hb); have n3_ := Aside0.mk (ho); clear zae za9 HB zan; have zae := n0_; have za9 := n1_; have HB := n2_; have HO180 := n3_; clear n0_ n1_ n2_ n3_; clear ho hb hg hat))
                                        go_roundg k5
                                        case measure => have := HJ5.out; have := HJ14.out; have := HK3.out; have := HJ38.out; have := HK5.out; omega
                                        case rel => exact ⟨(y178), (wrap64 (x82_5 + 1)), (by first | rfl | (simp; done) | (simp [*]; done) | (simp [M.isEmpty_bne]; done)), H', ⟨by have := HJ5.out; have := HJ14.out; have := HK3.out; have := HJ38.out; have := HK5.out; omega⟩, ⟨by (with_reducible repeat (first | apply Kd.R_alloc | apply Kd.R_drewN | apply Kd.R_drew)); exact Kd.R_mono HO180.out (fun _ hk => hk.1)⟩, ⟨by (with_reducible repeat (first | refine blk_drewN ?_ _ | refine blk_drew ?_ | refine blk_alloc ?_ _)); exact zae.out⟩, ⟨M.up HB⟩⟩
                                      · rw [if_neg c49] at H
                                        exact absurd H (by simp)
                                    · replace c48 := Bool.eq_false_iff.mpr c48
                                      subst c48
                                      have H1 : (pleachref37_Set_p.l1 k5 x14_5 l0 (l0.length : Int) (wrap64 (x82_5 + 1)) a1 a2 a4) = some (r1, r2) := by rw [if_neg (show ¬ (false = true) by decide)] at H; exact H
                                      clear H
                                      have H := H1
                                      clear H1
                                      have H' := Aside0.mk H
                                      clear H
                                      have p175 : 0 ≤ (x82_5 : Int) := of_decide_eq_true (by first | (with_reducible assumption) | assumption)
                                      have q175 : x82_5 < (l0.length : Int) := of_decide_eq_true (by first | (with_reducible assumption) | assumption)
                                      obtain ⟨ad175, e175, hx175_0, hx175_1, hx175_2⟩ := at_T42 HR0.out x82_5 p175 q175
                                      cases e175
                                      replace hx175_0 := (HB.out.cell (World.block_lt_of_cell? w _ hx175_0)).trans hx175_0
                                      replace hx175_1 := (HB.out.cell (World.block_lt_of_cell? w _ hx175_1)).trans hx175_1
                                      replace hx175_2 := (HB.out.cell (World.block_lt_of_cell? w _ hx175_2)).trans hx175_2
                                      replace p175 := eq_true p175
                                      replace q175 := eq_true q175
                                      go_wp2_with (first | ((with_reducible refine gate_dst (N := 18) rfl ?_); (try (refine gate_guard (by rfl) ?_; dsimp only)); refine box_event ?hg (N := 18) ?hd (cs := #[.int .i64 0, .string (⟨#[]⟩ : ByteArray), .string (⟨#[]⟩ : ByteArray)]) (t := 42) ?hr ?_; (case hd => rfl); (case hg => rfl); (case hr => first | (go_simp; done) | (go_simp; rfl)); intro za8 hg w57 hbox hb; have n0_ := Aside0.mk (Kd.R_below (Kd.R_elderB (M.ro zan) za8 (Nat.le_of_eq hg.symm)) hb); have n1_ := M.bkB zae hb; have n2_ := M.upS HB hb; have n3_ := Aside0.mk (hbox); have n4_ := M.upG HB hg; have n5_ := M.upG HB hg; have n6_ := M.bkL zae hg; have n7_ := M.bkG zae hg; clear zan zae HB; have zan := n0_; have zae := n1_; have HB := n2_; have za9 := n3_; have zba := n4_; have zbb := n5_; have zbc := n6_; have zbd := n7_; clear n0_ n1_ n2_ n3_ n4_ n5_ n6_ n7_; clear hb hbox hg; have zby := zbd.out; have zbz := zbc.out; obtain ⟨zbA, zbB, zbC⟩ := M.bc3 (w := w57) (a := .int .i64 0) (b := .string (⟨#[]⟩ : ByteArray)) (c := .string (⟨#[]⟩ : ByteArray)) za9.out; obtain ⟨zbD, zbE, zbF⟩ := M.bf3 za9; obtain ⟨zbG, zbH, zbI⟩ := M.bc3 (w := w57) (a := .int .i64 a1) (b := .string a2) (c := .string a4) zae.out; obtain ⟨zbJ, zbK, zbL⟩ := M.bf3 zae) | ((with_reducible refine gate_callee (f := 17) rfl ?_); refine M.goes (some 88) Try.func17 #[.agg #[.int .i64 a1, .string a2, .string a4], .agg #[.int .i64 ((rd_T42 l0 x82_5).f0), .string ((rd_T42 l0 x82_5).f1), .string ((rd_T42 l0 x82_5).f2)]] rfl ?_; (with_reducible refine (pleachref37_Less.calls a1 a2 a4 ((rd_T42 l0 x82_5).f0) ((rd_T42 l0 x82_5).f1) ((rd_T42 l0 x82_5).f2) false _ A47.out).mono ?_); rintro e w61 ⟨rfl, hb⟩; refine ⟨_, rfl, ?_⟩; have n0_ := Aside0.mk (Kd.R_below (by (with_reducible repeat (first | apply Kd.R_alloc | apply Kd.R_drewN | apply Kd.R_drew)); exact (Kd.R_mono (Kd.R_far (p := ⟨za8, 2, none⟩) (Kd.R_far (p := ⟨za8, 1, none⟩) (Kd.R_far (p := ⟨za8, 0, none⟩) (Kd.R_mono zan.out (fun k_ hk => (⟨hk, hk.2⟩ : _ ∧ k_ ≠ za8))) (fun _ hk => hk.2) (.int .i64 ((rd_T42 l0 x82_5).f0))) (fun _ hk => hk.2) (.string ((rd_T42 l0 x82_5).f1))) (fun _ hk => hk.2) (.string ((rd_T42 l0 x82_5).f2))) (fun _ h_ => h_.1))) hb); have n1_ := Aside0.mk (blk_below (g := zad) (o := .cells #[.int .i64 a1, .string a2, .string a4] 42 (0, 0)) (by (with_reducible repeat (first | refine blk_drewN ?_ _ | refine blk_drew ?_ | refine blk_alloc ?_ _)); refine blk_far ?_ zbc.out _; (with_reducible repeat (first | refine blk_drewN ?_ _ | refine blk_drew ?_ | refine blk_alloc ?_ _)); refine blk_far ?_ zbc.out _; (with_reducible repeat (first | refine blk_drewN ?_ _ | refine blk_drew ?_ | refine blk_alloc ?_ _)); refine blk_far ?_ zbc.out _; (with_reducible repeat (first | refine blk_drewN ?_ _ | refine blk_drew ?_ | refine blk_alloc ?_ _)); exact zae.out) hb); have n2_ := Aside0.mk (blk_below (g := za8) (o := .cells #[.int .i64 ((rd_T42 l0 x82_5).f0), .string ((rd_T42 l0 x82_5).f1), .string ((rd_T42 l0 x82_5).f2)] 42 (0, 0)) (by (with_reducible repeat (first | refine blk_drewN ?_ _ | refine blk_drew ?_ | refine blk_alloc ?_ _)); refine blk_put (cs := #[.int .i64 ((rd_T42 l0 x82_5).f0), .string ((rd_T42 l0 x82_5).f1), .string (⟨#[]⟩ : ByteArray)]) ?_ 2 _ rfl; (with_reducible repeat (first | refine blk_drewN ?_ _ | refine blk_drew ?_ | refine blk_alloc ?_ _)); refine blk_put (cs := #[.int .i64 ((rd_T42 l0 x82_5).f0), .string (⟨#[]⟩ : ByteArray), .string (⟨#[]⟩ : ByteArray)]) ?_ 1 _ rfl; (with_reducible repeat (first | refine blk_drewN ?_ _ | refine blk_drew ?_ | refine blk_alloc ?_ _)); refine blk_put (cs := #[.int .i64 0, .string (⟨#[]⟩ : ByteArray), .string (⟨#[]⟩ : ByteArray)]) ?_ 0 _ rfl; (with_reducible repeat (first | refine blk_drewN ?_ _ | refine blk_drew ?_ | refine blk_alloc ?_ _)); exact za9.out) hb); have n3_ := M.upS HB hb; clear zan zae za9 HB; have zan := n0_; have zae := n1_; have za9 := n2_; have HB := n3_; clear n0_ n1_ n2_ n3_; (try clear hb)))
                                      go_roundg k5
                                      case measure => have := HJ5.out; have := HJ14.out; have := HK3.out; have := HJ38.out; have := HK5.out; omega
                                      case rel => exact ⟨(x14_5), (wrap64 (x82_5 + 1)), (by first | rfl | (simp; done) | (simp [*]; done) | (simp [M.isEmpty_bne]; done)), H', ⟨by have := HJ5.out; have := HJ14.out; have := HK3.out; have := HJ38.out; have := HK5.out; omega⟩, ⟨by (with_reducible repeat (first | apply Kd.R_alloc | apply Kd.R_drewN | apply Kd.R_drew)); exact Kd.R_mono zan.out (fun _ hk => hk.1)⟩, ⟨by (with_reducible repeat (first | refine blk_drewN ?_ _ | refine blk_drew ?_ | refine blk_alloc ?_ _)); exact zae.out⟩, ⟨M.up HB⟩⟩
                                  · rw [if_neg c46] at H
                                    exact absurd H (by simp)
                                · rw [if_neg c45] at H
                                  exact absurd H (by simp)
                              · rw [if_neg c44] at H
                                have c44b0 : decide (x82_5 < (l0.length : Int)) = false := decide_eq_false c44
                                clear c44
                                simp only [Option.some.injEq, Prod.mk.injEq] at H
                                obtain ⟨rfl, rfl⟩ := H
                                go_wp2
                                go_ret2
                                exact ⟨_, by first | rfl | (simp [errW_none, errW_some] <;> rfl) | (simp [*, errW_none, errW_some] <;> rfl), by (with_reducible repeat (first | apply Kd.R_alloc | apply Kd.R_drewN | apply Kd.R_drew)); exact Kd.R_mono zan.out (fun _ hk => trivial), M.up HB⟩
        · rw [if_neg c14] at H
          have c14b0 : (t164.toList == a3.toList) = false := beq_eq_false_iff_ne.mpr c14
          have c14b1 : (t164.toList != a3.toList) = true := bne_iff_ne.mpr c14
          by_cases c62 : a3.toList = ([] : List UInt8)
          · rw [if_pos c62] at H
            have c62b0 : (a3.toList == ([] : List UInt8)) = true := beq_iff_eq.mpr c62
            have c62b1 : (a3.toList != ([] : List UInt8)) = false := bne_eq_false_iff_eq.mpr c62
            have c62e : a3.toList.isEmpty = true := by simpa [M.isEmpty_bne] using c62b1
            have c62f : (!a3.toList.isEmpty) = false := by rw [c62e]; rfl
            clear c62
            simp only [Option.some.injEq, Prod.mk.injEq] at H
            obtain ⟨rfl, rfl⟩ := H
            go_wp2_with (first | ((with_reducible refine gate_callee (f := 14) rfl ?_); refine M.goes (some 41) Try.func14 #[.slice A0 l0.length c0, .int .i64 a1, .string a2] rfl ?_; (with_reducible refine (pleachref37_Get.calls _ _ l0 a1 a2 t164 _ ?side1 ?side2 A13.out).mono ?_); (case side1 => exact M.cB HR0 HB); (case side2 => exact HC0.out); rintro e w63 ⟨rfl, hb⟩; refine ⟨_, rfl, ?_⟩; have n0_ := M.upS HB hb; clear HB; have HB := n0_; clear n0_; (try clear hb)))
            go_ret2
            exact ⟨_, by first | rfl | (simp [errW_none, errW_some] <;> rfl) | (simp [*, errW_none, errW_some] <;> rfl), by first | exact Kd.R_nil _ _ _ _ _ | exact Kd.N_nil _ _ _ _ _ | exact Kd.V_nil _ _ _ _ _ | exact Kd.Q_nil _ _ _ _ _ | exact Kd.S_nil _ _ _ _ _, M.up HB⟩
          · rw [if_neg c62] at H
            have c62b0 : (a3.toList == ([] : List UInt8)) = false := beq_eq_false_iff_ne.mpr c62
            have c62b1 : (a3.toList != ([] : List UInt8)) = true := bne_iff_ne.mpr c62
            have c62e : a3.toList.isEmpty = false := by simpa [M.isEmpty_bne] using c62b1
            have c62f : (!a3.toList.isEmpty) = true := by rw [c62e]; rfl
            by_cases c64 : t164.toList = ([] : List UInt8)
            · rw [if_pos c64] at H
              have c64b0 : (t164.toList == ([] : List UInt8)) = true := beq_iff_eq.mpr c64
              have c64b1 : (t164.toList != ([] : List UInt8)) = false := bne_eq_false_iff_eq.mpr c64
              have c64e : t164.toList.isEmpty = true := by simpa [M.isEmpty_bne] using c64b1
              have c64f : (!t164.toList.isEmpty) = false := by rw [c64e]; rfl
              clear c64
              simp only [Option.some.injEq, Prod.mk.injEq] at H
              obtain ⟨rfl, rfl⟩ := H
              go_wp2_with (first | ((with_reducible refine gate_callee (f := 14) rfl ?_); refine M.goes (some 41) Try.func14 #[.slice A0 l0.length c0, .int .i64 a1, .string a2] rfl ?_; (with_reducible refine (pleachref37_Get.calls _ _ l0 a1 a2 t164 _ ?side1 ?side2 A13.out).mono ?_); (case side1 => exact M.cB HR0 HB); (case side2 => exact HC0.out); rintro e w65 ⟨rfl, hb⟩; refine ⟨_, rfl, ?_⟩; have n0_ := M.upS HB hb; clear HB; have HB := n0_; clear n0_; (try clear hb)))
              go_ret2
              exact ⟨_, by first | rfl | (simp [errW_none, errW_some] <;> rfl) | (simp [*, errW_none, errW_some] <;> rfl), by first | exact Kd.R_nil _ _ _ _ _ | exact Kd.N_nil _ _ _ _ _ | exact Kd.V_nil _ _ _ _ _ | exact Kd.Q_nil _ _ _ _ _ | exact Kd.S_nil _ _ _ _ _, M.up HB⟩
            · rw [if_neg c64] at H
              have c64b0 : (t164.toList == ([] : List UInt8)) = false := beq_eq_false_iff_ne.mpr c64
              have c64b1 : (t164.toList != ([] : List UInt8)) = true := bne_iff_ne.mpr c64
              have c64e : t164.toList.isEmpty = false := by simpa [M.isEmpty_bne] using c64b1
              have c64f : (!t164.toList.isEmpty) = true := by rw [c64e]; rfl
              simp only [Option.some.injEq, Prod.mk.injEq] at H
              obtain ⟨rfl, rfl⟩ := H
              go_wp2_with (first | ((with_reducible refine gate_callee (f := 14) rfl ?_); refine M.goes (some 41) Try.func14 #[.slice A0 l0.length c0, .int .i64 a1, .string a2] rfl ?_; (with_reducible refine (pleachref37_Get.calls _ _ l0 a1 a2 t164 _ ?side1 ?side2 A13.out).mono ?_); (case side1 => exact M.cB HR0 HB); (case side2 => exact HC0.out); rintro e w66 ⟨rfl, hb⟩; refine ⟨_, rfl, ?_⟩; have n0_ := M.upS HB hb; clear HB; have HB := n0_; clear n0_; (try clear hb)))
              go_ret2
              exact ⟨_, by first | rfl | (simp [errW_none, errW_some] <;> rfl) | (simp [*, errW_none, errW_some] <;> rfl), by first | exact Kd.R_nil _ _ _ _ _ | exact Kd.N_nil _ _ _ _ _ | exact Kd.V_nil _ _ _ _ _ | exact Kd.Q_nil _ _ _ _ _ | exact Kd.S_nil _ _ _ _ _, M.up HB⟩

-- this session's own plain form
def pleachref37_Set.f (l0 : List S42) (a1 : Int) (a2 a3 a4 : ByteArray) : Option ((List S42) × Int) := if a2.size ≤ 9223372036854775807 ∧ l0.length ≤ 1000000 then some (M.rset S42.f0 S42.f1 S42.f2 S42.mk l0 a1 a2 a3 a4) else none
theorem pleachref37_Set.rd_drop (l : List S42) (i : Nat) (h : i < l.length) : l.drop i = rd_T42 l (i : Int) :: l.drop (i + 1) := by
  rw [List.drop_eq_getElem_cons h]
  congr 1
  unfold rd_T42
  simp [h]
theorem pleachref37_Set.loop1 (l : List S42) (hl : l.length ≤ 1000000) (k : Int) (s now : ByteArray) (d : Nat) : ∀ (i : Nat) (out : List S42), i + d = l.length → out.length + d ≤ 3000000 → pleachref37_Set_p.l1 (d + 1) out l (l.length : Int) (i : Int) k s now = some (out ++ (l.drop i).filter (M.rmore S42.f0 S42.f1 k s), 0) := by
  induction d with
  | zero =>
    intro i out hi ho
    rw [pleachref37_Set_p.l1, if_neg (by omega), List.drop_of_length_le (by omega), List.filter_nil, List.append_nil]
  | succ d ih =>
    intro i out hi ho
    rw [pleachref37_Set_p.l1, if_pos (by omega), if_pos (by omega), if_pos (by omega), M.wrap64_id (by omega) (by omega), show (i : Int) + 1 = ((i + 1 : Nat) : Int) by omega, pleachref37_Set.rd_drop l i (by omega)]
    generalize rd_T42 l (i : Int) = x
    unfold pleachref37_Less.f
    rw [Option.bind_some]
    by_cases c : M.rless k s x.f0 x.f1
    · rw [decide_eq_true c, if_pos rfl, if_pos (by omega), ih (i + 1) _ (by omega) (by rw [List.length_append, List.length_singleton]; omega), List.filter_cons_of_pos (show M.rmore S42.f0 S42.f1 k s x = true from decide_eq_true c), List.append_assoc]; rfl
    · rw [decide_eq_false c, if_neg (by decide), ih (i + 1) _ (by omega) (by omega), List.filter_cons_of_neg (by rw [show M.rmore S42.f0 S42.f1 k s x = false from decide_eq_false c]; decide)]
theorem pleachref37_Set.loop0 (l : List S42) (hl : l.length ≤ 1000000) (k : Int) (s now : ByteArray) (d : Nat) : ∀ (i : Nat) (out : List S42), i + d = l.length → out.length + d ≤ 1000000 → pleachref37_Set_p.l0 (d + 1 + 1 + (l.length + 1)) l now out l (l.length : Int) (i : Int) k s now = some (out ++ (l.drop i).filter (M.rless_ S42.f0 S42.f1 k s) ++ (if now = ⟨#[]⟩ then [] else [S42.mk k s now]) ++ l.filter (M.rmore S42.f0 S42.f1 k s), 0) := by
  induction d with
  | zero =>
    intro i out hi ho
    have h1 := fun o ho => pleachref37_Set.loop1 l hl k s now l.length 0 o (by omega) ho
    rw [Int.ofNat_zero, List.drop_zero] at h1
    rw [show 0 + 1 + 1 + (l.length + 1) = (l.length + 1) + 1 + 1 by omega, pleachref37_Set_p.l0, if_neg (by omega), List.drop_of_length_le (by omega), List.filter_nil, List.append_nil]
    by_cases c : now = ⟨#[]⟩
    · rw [if_pos (M.text_none.2 c), if_pos c, pleachref37_Set_p.j3, h1 out (by omega), List.append_nil]
    · rw [if_neg (fun z => c (M.text_none.1 z)), if_neg c, if_pos (by omega), pleachref37_Set_p.j3, h1 _ (by rw [List.length_append, List.length_singleton]; omega)]
  | succ d ih =>
    intro i out hi ho
    rw [show d + 1 + 1 + 1 + (l.length + 1) = (d + 1 + 1 + (l.length + 1)) + 1 by omega, pleachref37_Set_p.l0, if_pos (by omega), if_pos (by omega), if_pos (by omega), M.wrap64_id (by omega) (by omega), show (i : Int) + 1 = ((i + 1 : Nat) : Int) by omega, pleachref37_Set.rd_drop l i (by omega)]
    generalize rd_T42 l (i : Int) = x
    unfold pleachref37_Less.f
    rw [Option.bind_some]
    by_cases c : M.rless x.f0 x.f1 k s
    · rw [decide_eq_true c, if_pos rfl, if_pos (by omega), ih (i + 1) _ (by omega) (by rw [List.length_append, List.length_singleton]; omega), List.filter_cons_of_pos (show M.rless_ S42.f0 S42.f1 k s x = true from decide_eq_true c), List.append_assoc out]; rfl
    · rw [decide_eq_false c, if_neg (by decide), ih (i + 1) _ (by omega) (by omega), List.filter_cons_of_neg (by rw [show M.rless_ S42.f0 S42.f1 k s x = false from decide_eq_false c]; decide)]
theorem pleachref37_Set.ev (l : List S42) (k : Int) (s old now : ByteArray) (r : (List S42) × Int) (h : pleachref37_Set.f l k s old now = some r) : ∃ n, pleachref37_Set_p.f n l k s old now = some r := by
  unfold pleachref37_Set.f at h
  split at h
  case isFalse => cases h
  case isTrue hh =>
    obtain ⟨hs, hl⟩ := hh
    obtain rfl := Option.some.inj h
    refine ⟨l.length + 1 + 1 + (l.length + 1) + 1 + 1, ?_⟩
    have e : pleachref05_Is.f s = some (M.isName s) := by unfold pleachref05_Is.f; rw [if_pos hs]
    have hg : pleachref37_Get.f l k s = some (M.rget S42.f0 S42.f1 S42.f2 l k s) := by unfold pleachref37_Get.f; rw [if_pos (by omega)]
    have h2 : ∀ n, pleachref37_Set_p.j0 (n + 1) l k s old now true = some ([], 2) := fun n => by rw [pleachref37_Set_p.j0, if_pos rfl]
    have h0 := pleachref37_Set.loop0 l hl k s now l.length 0 [] (by omega) (by simp only [List.length_nil]; omega)
    rw [Int.ofNat_zero, List.drop_zero, List.nil_append] at h0
    have hj : ((k = 1 ∨ k = 2) ∧ M.isName s = true) → ¬ (old = ⟨#[]⟩ ∧ now = ⟨#[]⟩) → pleachref37_Set_p.j0 (l.length + 1 + 1 + (l.length + 1) + 1 + 1) l k s old now false = some (M.rset S42.f0 S42.f1 S42.f2 S42.mk l k s old now) := by
      intro c1 c2
      rw [pleachref37_Set_p.j0, if_neg (by decide), hg, Option.bind_some]
      unfold M.rset
      have c0 : ¬ (¬ ((k = 1 ∨ k = 2) ∧ M.isName s = true) ∨ (old = ⟨#[]⟩ ∧ now = ⟨#[]⟩)) := fun z => z.elim (fun z => z c1) c2
      rw [if_neg c0]
      by_cases c3 : M.rget S42.f0 S42.f1 S42.f2 l k s = old
      · rw [if_pos (M.text_inj.2 c3), if_pos c3]
        by_cases c4 : old = ⟨#[]⟩
        · rw [if_pos (M.text_none.2 c4), pleachref37_Set_p.j1]
          by_cases c5 : 64 ≤ l.length
          · rw [if_pos (decide_eq_true (by omega)), if_pos ⟨c4, c5⟩]
          · rw [if_neg (by simp; omega), if_neg (fun z => c5 z.2), h0]
        · rw [if_neg (fun z => c4 (M.text_none.1 z)), pleachref37_Set_p.j1, if_neg (by decide), if_neg (fun z => c4 z.1), h0]
      · rw [if_neg (fun z => c3 (M.text_inj.1 z)), if_neg c3]
        by_cases c4 : old = ⟨#[]⟩
        · rw [if_pos (M.text_none.2 c4), if_pos c4]
        · rw [if_neg (fun z => c4 (M.text_none.1 z)), if_neg c4]
          by_cases c5 : M.rget S42.f0 S42.f1 S42.f2 l k s = ⟨#[]⟩
          · rw [if_pos (M.text_none.2 c5), if_pos c5]
          · rw [if_neg (fun z => c5 (M.text_none.1 z)), if_neg c5]
    have hbad : ¬ ((k = 1 ∨ k = 2) ∧ M.isName s = true) ∨ (old = ⟨#[]⟩ ∧ now = ⟨#[]⟩) → M.rset S42.f0 S42.f1 S42.f2 S42.mk l k s old now = ([], 2) := fun z => by unfold M.rset; rw [if_pos z]
    unfold pleachref37_Set_p.f
    by_cases b1 : k < 1
    · rw [if_pos b1, h2, hbad (.inl (fun z => by have := z.1; omega))]
    rw [if_neg b1]
    by_cases b2 : k > 2
    · rw [if_pos b2, h2, hbad (.inl (fun z => by have := z.1; omega))]
    rw [if_neg b2, e, Option.bind_some]
    by_cases b3 : M.isName s = true
    · have c1 : (k = 1 ∨ k = 2) ∧ M.isName s = true := ⟨by omega, b3⟩
      rw [if_pos b3]
      by_cases b4 : old = ⟨#[]⟩
      · rw [if_pos (M.text_none.2 b4)]
        by_cases b5 : now = ⟨#[]⟩
        · rw [M.text_none.2 b5, show (([] : List UInt8) == []) = true from rfl, h2, hbad (.inr ⟨b4, b5⟩)]
        · rw [show (now.toList == ([] : List UInt8)) = false from beq_eq_false_iff_ne.2 (fun z => b5 (M.text_none.1 z)), hj c1 (fun z => b5 z.2)]
      · rw [if_neg (fun z => b4 (M.text_none.1 z)), hj c1 (fun z => b4 z.1)]
    · rw [if_neg b3, h2, hbad (.inl (fun z => b3 z.2))]
theorem pleachref37_Set.calls (A0 : Option Addr) (c0 : Nat) (l0 : List (S42)) (a1 : Int) (a2 : ByteArray) (a3 : ByteArray) (a4 : ByteArray) (r1 : List (S42)) (r2 : Int) (w : World) (hr0 : Kd.C k42 w A0 l0.length l0) (hc0 : l0.length ≤ c0) (h : pleachref37_Set.f l0 a1 a2 a3 a4 = some (r1, r2)) :
    Calls Try.prog 11 #[.slice A0 l0.length c0, .int .i64 a1, .string a2, .string a3, .string a4] w fun e w' => ∃ v0_ : Value, e = .returned (.tuple #[v0_, .int .i64 r2]) ∧ Kd.R k42 42 w' w.heap.size (fun _ => True) v0_ r1 ∧ Below w.heap.size w w' := by
  obtain ⟨k, hk⟩ := pleachref37_Set.ev _ _ _ _ _ _ h
  exact pleachref37_Set_p.calls (k := k) (w := w) (h := hk) (hr0 := hr0) (hc0 := hc0)

end Go.Proofs.Ytkaglpjdeinbhaa.ERefsPlays
