-- Written by this session's own program (wip/tools/ext.py) for this claim; Lean checks it.
import Derived.Test.YtadpicphohobbaaEDeltaPiecesx0
import Derived.Test.YtadpicphohobbaaEDeltaPiecesx2
import Derived.Test.YtadpicphohobbaaEDeltaPiecesx3
namespace Go.Proofs.Ytadpicphohobbaa.EDeltaPieces
open Go.RowKit Go.Proofs.YtadpicphohobbaaW.PrintWords Go.Proofs.YtadpicphohobbaaW.PrintLast Go.Proofs.YtadpicphohobbaaW.PrintMore
attribute [local go_sem] M.run_leq M.run_gtr M.run_geq max2_int min2_int max_two min_two max_three min_three max_four min_four   -- for this text's walks alone
set_option linter.unusedVariables false
set_option linter.unusedSimpArgs false

/-! ### pleachref11_Pieces_p: function 8 -/
mutual
def pleachref11_Pieces_p.l0 : Nat → ByteArray → ByteArray → List (S34) → ByteArray → Int → Option ((List (S34)))
  | 0, _, _, _, _, _ => none
  | k + 1, x0, x1, x5, x6, x7 => if x7 < (x1.size : Int) then (if (wrap64 (x7 + 8)) ≤ (x1.size : Int) then (if 0 ≤ x7 then (if x7 ≤ (wrap64 (x7 + 8)) then ((pleachref11_stands.f x0 (x1.extract (x7 : Int).toNat ((wrap64 (x7 + 8)) : Int).toNat)).bind fun t110 => (pleachref11_Pieces_p.j1 k x0 x1 x5 x6 x7 t110)) else (none)) else (none)) else (pleachref11_Pieces_p.j1 k x0 x1 x5 x6 x7 (-1))) else (if x6.toList = ([] : List UInt8) then (some x5) else (if x5.length < 3518437208883 then (some (x5 ++ [(⟨false, 0, (x6.size : Int), x6⟩ : S34)])) else (none)))
def pleachref11_Pieces_p.j1 : Nat → ByteArray → ByteArray → List (S34) → ByteArray → Int → Int → Option ((List (S34)))
  | 0, _, _, _, _, _, _ => none
  | k + 1, x0, x1, x5, x6, x7, x8 => if x8 < 0 then (if 0 ≤ x7 then (if x7 ≤ (wrap64 (x7 + 1)) then (if (wrap64 (x7 + 1)) ≤ (x1.size : Int) then (if x6.size + (x1.extract (x7 : Int).toNat ((wrap64 (x7 + 1)) : Int).toNat).size ≤ 9223372036854775807 then (pleachref11_Pieces_p.l0 k x0 x1 x5 (x6 ++ (x1.extract (x7 : Int).toNat ((wrap64 (x7 + 1)) : Int).toNat)) (wrap64 (x7 + 1))) else (none)) else (none)) else (none)) else (none)) else (if x6.toList = ([] : List UInt8) then (pleachref11_Pieces_p.j2 k x0 x1 x5 x6 x7 x8) else (if x5.length < 3518437208883 then (pleachref11_Pieces_p.j2 k x0 x1 (x5 ++ [(⟨false, 0, (x6.size : Int), x6⟩ : S34)]) (⟨#[]⟩ : ByteArray) x7 x8) else (none)))
def pleachref11_Pieces_p.j2 : Nat → ByteArray → ByteArray → List (S34) → ByteArray → Int → Int → Option ((List (S34)))
  | 0, _, _, _, _, _, _ => none
  | k + 1, x0, x1, x5, x6, x7, x8 => pleachref11_Pieces_p.l1 k x0 x1 x5 x6 x7 x8 0
def pleachref11_Pieces_p.l1 : Nat → ByteArray → ByteArray → List (S34) → ByteArray → Int → Int → Int → Option ((List (S34)))
  | 0, _, _, _, _, _, _, _ => none
  | k + 1, x0, x1, x5, x6, x7, x8, x9 => if (wrap64 (x7 + x9)) < (x1.size : Int) then (if (wrap64 (x8 + x9)) < (x0.size : Int) then (if 0 ≤ (wrap64 (x7 + x9)) then (if 0 ≤ (wrap64 (x8 + x9)) then (pleachref11_Pieces_p.j4 k x0 x1 x5 x6 x7 x8 x9 ((bt x1 (wrap64 (x7 + x9))) == (bt x0 (wrap64 (x8 + x9))))) else (none)) else (none)) else (pleachref11_Pieces_p.j4 k x0 x1 x5 x6 x7 x8 x9 false)) else (pleachref11_Pieces_p.j4 k x0 x1 x5 x6 x7 x8 x9 false)
def pleachref11_Pieces_p.j4 : Nat → ByteArray → ByteArray → List (S34) → ByteArray → Int → Int → Int → Bool → Option ((List (S34)))
  | 0, _, _, _, _, _, _, _, _ => none
  | k + 1, x0, x1, x5, x6, x7, x8, x9, x72 => if x72 = true then (pleachref11_Pieces_p.l1 k x0 x1 x5 x6 x7 x8 (wrap64 (x9 + 1))) else (if x5.length < 3518437208883 then (pleachref11_Pieces_p.l0 k x0 x1 (x5 ++ [(⟨true, x8, x9, (⟨#[]⟩ : ByteArray)⟩ : S34)]) x6 (wrap64 (x7 + x9))) else (none))
end
def pleachref11_Pieces_p.f (k : Nat) (a0 : ByteArray) (a1 : ByteArray) : Option ((List (S34))) := pleachref11_Pieces_p.l0 k a0 a1 ([] : List (S34)) (⟨#[]⟩ : ByteArray) 0
theorem pleachref11_Pieces_p.mono_l : ∀ k, (∀ y0 y1 y2 y3 y4, LeO (pleachref11_Pieces_p.l0 k y0 y1 y2 y3 y4) (pleachref11_Pieces_p.l0 (k + 1) y0 y1 y2 y3 y4)) ∧ (∀ y0 y1 y2 y3 y4 y5, LeO (pleachref11_Pieces_p.j1 k y0 y1 y2 y3 y4 y5) (pleachref11_Pieces_p.j1 (k + 1) y0 y1 y2 y3 y4 y5)) ∧ (∀ y0 y1 y2 y3 y4 y5, LeO (pleachref11_Pieces_p.j2 k y0 y1 y2 y3 y4 y5) (pleachref11_Pieces_p.j2 (k + 1) y0 y1 y2 y3 y4 y5)) ∧ (∀ y0 y1 y2 y3 y4 y5 y6, LeO (pleachref11_Pieces_p.l1 k y0 y1 y2 y3 y4 y5 y6) (pleachref11_Pieces_p.l1 (k + 1) y0 y1 y2 y3 y4 y5 y6)) ∧ (∀ y0 y1 y2 y3 y4 y5 y6 y7, LeO (pleachref11_Pieces_p.j4 k y0 y1 y2 y3 y4 y5 y6 y7) (pleachref11_Pieces_p.j4 (k + 1) y0 y1 y2 y3 y4 y5 y6 y7))
  | 0 => ⟨fun _ _ _ _ _ r h => by simp [pleachref11_Pieces_p.l0] at h, fun _ _ _ _ _ _ r h => by simp [pleachref11_Pieces_p.j1] at h, fun _ _ _ _ _ _ r h => by simp [pleachref11_Pieces_p.j2] at h, fun _ _ _ _ _ _ _ r h => by simp [pleachref11_Pieces_p.l1] at h, fun _ _ _ _ _ _ _ _ r h => by simp [pleachref11_Pieces_p.j4] at h⟩
  | k + 1 => by
    obtain ⟨ih0, ih1, ih2, ih3, ih4⟩ := pleachref11_Pieces_p.mono_l k
    refine ⟨?_, ?_, ?_, ?_, ?_⟩
    · intro y0 y1 y2 y3 y4
      unfold pleachref11_Pieces_p.l0
      repeat' first
      | (with_reducible exact ih0 _ _ _ _ _)
      | (with_reducible exact ih1 _ _ _ _ _ _)
      | (with_reducible exact ih2 _ _ _ _ _ _)
      | (with_reducible exact ih3 _ _ _ _ _ _ _)
      | (with_reducible exact ih4 _ _ _ _ _ _ _ _)
      | (with_reducible exact LeO.refl _)
      | (with_reducible exact LeO.none _)
      | (with_reducible refine LeO.ite ?_ ?_)
      | (with_reducible refine LeO.bind ?_ (fun _ => ?_))
      | exact ih0 _ _ _ _ _
      | exact ih1 _ _ _ _ _ _
      | exact ih2 _ _ _ _ _ _
      | exact ih3 _ _ _ _ _ _ _
      | exact ih4 _ _ _ _ _ _ _ _
      | exact LeO.none _
      | refine LeO.ite ?_ ?_
      | refine LeO.bind ?_ (fun _ => ?_)
    · intro y0 y1 y2 y3 y4 y5
      unfold pleachref11_Pieces_p.j1
      repeat' first
      | (with_reducible exact ih0 _ _ _ _ _)
      | (with_reducible exact ih1 _ _ _ _ _ _)
      | (with_reducible exact ih2 _ _ _ _ _ _)
      | (with_reducible exact ih3 _ _ _ _ _ _ _)
      | (with_reducible exact ih4 _ _ _ _ _ _ _ _)
      | (with_reducible exact LeO.refl _)
      | (with_reducible exact LeO.none _)
      | (with_reducible refine LeO.ite ?_ ?_)
      | (with_reducible refine LeO.bind ?_ (fun _ => ?_))
      | exact ih0 _ _ _ _ _
      | exact ih1 _ _ _ _ _ _
      | exact ih2 _ _ _ _ _ _
      | exact ih3 _ _ _ _ _ _ _
      | exact ih4 _ _ _ _ _ _ _ _
      | exact LeO.none _
      | refine LeO.ite ?_ ?_
      | refine LeO.bind ?_ (fun _ => ?_)
    · intro y0 y1 y2 y3 y4 y5
      unfold pleachref11_Pieces_p.j2
      repeat' first
      | (with_reducible exact ih0 _ _ _ _ _)
      | (with_reducible exact ih1 _ _ _ _ _ _)
      | (with_reducible exact ih2 _ _ _ _ _ _)
      | (with_reducible exact ih3 _ _ _ _ _ _ _)
      | (with_reducible exact ih4 _ _ _ _ _ _ _ _)
      | (with_reducible exact LeO.refl _)
      | (with_reducible exact LeO.none _)
      | (with_reducible refine LeO.ite ?_ ?_)
      | (with_reducible refine LeO.bind ?_ (fun _ => ?_))
      | exact ih0 _ _ _ _ _
      | exact ih1 _ _ _ _ _ _
      | exact ih2 _ _ _ _ _ _
      | exact ih3 _ _ _ _ _ _ _
      | exact ih4 _ _ _ _ _ _ _ _
      | exact LeO.none _
      | refine LeO.ite ?_ ?_
      | refine LeO.bind ?_ (fun _ => ?_)
    · intro y0 y1 y2 y3 y4 y5 y6
      unfold pleachref11_Pieces_p.l1
      repeat' first
      | (with_reducible exact ih0 _ _ _ _ _)
      | (with_reducible exact ih1 _ _ _ _ _ _)
      | (with_reducible exact ih2 _ _ _ _ _ _)
      | (with_reducible exact ih3 _ _ _ _ _ _ _)
      | (with_reducible exact ih4 _ _ _ _ _ _ _ _)
      | (with_reducible exact LeO.refl _)
      | (with_reducible exact LeO.none _)
      | (with_reducible refine LeO.ite ?_ ?_)
      | (with_reducible refine LeO.bind ?_ (fun _ => ?_))
      | exact ih0 _ _ _ _ _
      | exact ih1 _ _ _ _ _ _
      | exact ih2 _ _ _ _ _ _
      | exact ih3 _ _ _ _ _ _ _
      | exact ih4 _ _ _ _ _ _ _ _
      | exact LeO.none _
      | refine LeO.ite ?_ ?_
      | refine LeO.bind ?_ (fun _ => ?_)
    · intro y0 y1 y2 y3 y4 y5 y6 y7
      unfold pleachref11_Pieces_p.j4
      repeat' first
      | (with_reducible exact ih0 _ _ _ _ _)
      | (with_reducible exact ih1 _ _ _ _ _ _)
      | (with_reducible exact ih2 _ _ _ _ _ _)
      | (with_reducible exact ih3 _ _ _ _ _ _ _)
      | (with_reducible exact ih4 _ _ _ _ _ _ _ _)
      | (with_reducible exact LeO.refl _)
      | (with_reducible exact LeO.none _)
      | (with_reducible refine LeO.ite ?_ ?_)
      | (with_reducible refine LeO.bind ?_ (fun _ => ?_))
      | exact ih0 _ _ _ _ _
      | exact ih1 _ _ _ _ _ _
      | exact ih2 _ _ _ _ _ _
      | exact ih3 _ _ _ _ _ _ _
      | exact ih4 _ _ _ _ _ _ _ _
      | exact LeO.none _
      | refine LeO.ite ?_ ?_
      | refine LeO.bind ?_ (fun _ => ?_)
theorem pleachref11_Pieces_p.mono : ∀ a0 a1 k, LeO (pleachref11_Pieces_p.f k a0 a1) (pleachref11_Pieces_p.f (k + 1) a0 a1) := by
  intro a0 a1 k
  obtain ⟨ih0, ih1, ih2, ih3, ih4⟩ := pleachref11_Pieces_p.mono_l k
  unfold pleachref11_Pieces_p.f
  repeat' first
      | (with_reducible exact ih0 _ _ _ _ _)
      | (with_reducible exact ih1 _ _ _ _ _ _)
      | (with_reducible exact ih2 _ _ _ _ _ _)
      | (with_reducible exact ih3 _ _ _ _ _ _ _)
      | (with_reducible exact ih4 _ _ _ _ _ _ _ _)
      | (with_reducible exact LeO.refl _)
      | (with_reducible exact LeO.none _)
      | (with_reducible refine LeO.ite ?_ ?_)
      | (with_reducible refine LeO.bind ?_ (fun _ => ?_))
      | exact ih0 _ _ _ _ _
      | exact ih1 _ _ _ _ _ _
      | exact ih2 _ _ _ _ _ _
      | exact ih3 _ _ _ _ _ _ _
      | exact ih4 _ _ _ _ _ _ _ _
      | exact LeO.none _
      | refine LeO.ite ?_ ?_
      | refine LeO.bind ?_ (fun _ => ?_)
set_option maxHeartbeats 8000000 in
set_option maxRecDepth 100000 in
theorem pleachref11_Pieces_p.calls (k : Nat) (a0 : ByteArray) (a1 : ByteArray) (r : List (S34)) (w : World) (h : pleachref11_Pieces_p.f k a0 a1 = some r) :
    Calls Try.prog 8 #[.string a0, .string a1] w fun e w' => ∃ v0_ : Value, e = .returned (v0_) ∧ Kd.R k34 34 w' w.heap.size (fun _ => True) v0_ r ∧ Below w.heap.size w w' := by
  have hu34 := Try.underlying34
  have HB := Aside0.mk (Below.refl w.heap.size w)
  have H : (pleachref11_Pieces_p.l0 k a0 a1 ([] : List (S34)) (⟨#[]⟩ : ByteArray) 0) = some r := h
  clear h
  have H' := Aside0.mk H
  clear H
  go_enter Try.func8, Try.ntmps8
  go_wp2
  repeat (go_quiet (fail); try go_wp2)
  go_loopg [5, 6, 7] k (fun kq v5 v6 v7 w' => ∃ (x5_1 : List (S34)) (x6_1 : ByteArray) (x7_1 : Int), v6 = .string x6_1 ∧ v7 = .int .i64 x7_1 ∧ Aside0 (pleachref11_Pieces_p.l0 kq a0 a1 x5_1 x6_1 x7_1 = some r) ∧ Aside0 (kq ≤ k) ∧ Aside0 (Kd.R k34 34 w' w.heap.size (fun _ => True) v5 x5_1) ∧ Aside0 (Below w.heap.size w w'))
  case atStart => exact ⟨(([] : List (S34))), ((⟨#[]⟩ : ByteArray)), (0), (by first | rfl | (simp; done) | (simp [*]; done) | (simp [M.isEmpty_bne]; done)), (by first | rfl | (simp; done) | (simp [*]; done) | (simp [M.isEmpty_bne]; done)), H', ⟨Nat.le_refl _⟩, ⟨by first | exact Kd.R_nil _ _ _ _ _ | exact Kd.N_nil _ _ _ _ _ | exact Kd.V_nil _ _ _ _ _ | exact Kd.Q_nil _ _ _ _ _ | exact Kd.S_nil _ _ _ _ _⟩, ⟨M.up HB⟩⟩
  case round =>
    clear H'
    try clear p2
    obtain ⟨x5_1, x6_1, x7_1, rfl, rfl, HA, HK1, zaa, HB⟩ := hrel
    cases gk with
    | zero => exact absurd HA.out (by simp [pleachref11_Pieces_p.l0])
    | succ k1 =>
      have H := HA.out
      clear HA
      simp only [pleachref11_Pieces_p.l0] at H
      by_cases c3 : x7_1 < (a1.size : Int)
      · rw [if_pos c3] at H
        have c3b0 : decide (x7_1 < (a1.size : Int)) = true := decide_eq_true c3
        clear c3
        have HC4 := Aside0.mk H
        clear H
        go_upto_if 18 with (fail)
        repeat (go_quiet (fail); go_upto_if 18 with (fail))
        go_cut [8] (fun v8 wc => ∃ (kq : Nat) (x8_3 : Int), v8 = .int .i64 x8_3 ∧ Aside0 (pleachref11_Pieces_p.j1 kq a0 a1 x5_1 x6_1 x7_1 x8_3 = some r) ∧ Aside0 (kq ≤ k1) ∧ Aside0 (Kd.R k34 34 wc w.heap.size (fun _ => True) u5 x5_1) ∧ Aside0 (Below w.heap.size w wc))
        case first =>
          have H := HC4.out
          clear HC4
          by_cases c5 : (wrap64 (x7_1 + 8)) ≤ (a1.size : Int)
          · rw [if_pos c5] at H
            have c5b0 : decide ((wrap64 (x7_1 + 8)) ≤ (a1.size : Int)) = true := decide_eq_true c5
            clear c5
            (first | rw [c5b0] | (simp only [i64_w, i32_w]; rw [c5b0]) | skip)
            by_cases c6 : 0 ≤ x7_1
            · rw [if_pos c6] at H
              have c6b0 := eq_true c6
              have c6b1 : decide (0 ≤ x7_1) = true := decide_eq_true c6
              clear c6
              by_cases c7 : x7_1 ≤ (wrap64 (x7_1 + 8))
              · rw [if_pos c7] at H
                have c7b0 := eq_true c7
                have c7b1 : decide (x7_1 ≤ (wrap64 (x7_1 + 8))) = true := decide_eq_true c7
                have c8b0 := eq_true (of_decide_eq_true (by first | (with_reducible assumption) | assumption) : (wrap64 (x7_1 + 8)) ≤ (a1.size : Int))
                replace H := Option.bind_eq_some_iff.mp H
                obtain ⟨t110, A90, H⟩ := H
                replace H : (pleachref11_Pieces_p.j1 k1 a0 a1 x5_1 x6_1 x7_1 t110) = some r := H
                have A9 := Aside0.mk A90
                clear A90
                have H' := Aside0.mk H
                clear H
                go_wp2_with (first | (go_at_call 23; (with_reducible refine (pleachref11_stands.calls a0 (a1.extract (x7_1 : Int).toNat ((wrap64 (x7_1 + 8)) : Int).toNat) t110 _ A9.out).mono ?_); rintro e w' ⟨rfl, ⟨nd, rfl⟩⟩; (try first | exact ⟨rfl, _, World.drewN_drewN _ _ _⟩ | exact ⟨rfl, _, Eq.trans (World.drewN_drewN _ _ _) (congrArg (World.drewN _) (Nat.add_assoc _ _ _))⟩)))
                repeat (go_quiet (first | (go_at_call 23; (with_reducible refine (pleachref11_stands.calls a0 (a1.extract (x7_1 : Int).toNat ((wrap64 (x7_1 + 8)) : Int).toNat) t110 _ A9.out).mono ?_); rintro e w' ⟨rfl, ⟨nd, rfl⟩⟩; (try first | exact ⟨rfl, _, World.drewN_drewN _ _ _⟩ | exact ⟨rfl, _, Eq.trans (World.drewN_drewN _ _ _) (congrArg (World.drewN _) (Nat.add_assoc _ _ _))⟩))); try go_wp2_with (first | (go_at_call 23; (with_reducible refine (pleachref11_stands.calls a0 (a1.extract (x7_1 : Int).toNat ((wrap64 (x7_1 + 8)) : Int).toNat) t110 _ A9.out).mono ?_); rintro e w' ⟨rfl, ⟨nd, rfl⟩⟩; (try first | exact ⟨rfl, _, World.drewN_drewN _ _ _⟩ | exact ⟨rfl, _, Eq.trans (World.drewN_drewN _ _ _) (congrArg (World.drewN _) (Nat.add_assoc _ _ _))⟩))))
                go_meet
                case rel => exact ⟨_, (t110), (by first | rfl | (simp; done) | (simp [*]; done) | (simp [M.isEmpty_bne]; done)), H', ⟨by have := HK1.out; first | omega | exact Nat.le_refl _⟩, ⟨by (with_reducible repeat (first | apply Kd.R_alloc | apply Kd.R_drewN | apply Kd.R_drew)); exact zaa.out⟩, ⟨M.up HB⟩⟩
              · rw [if_neg c7] at H
                exact absurd H (by simp)
            · rw [if_neg c6] at H
              exact absurd H (by simp)
          · rw [if_neg c5] at H
            have c5b0 : decide ((wrap64 (x7_1 + 8)) ≤ (a1.size : Int)) = false := decide_eq_false c5
            clear c5
            (first | rw [c5b0] | (simp only [i64_w, i32_w]; rw [c5b0]) | skip)
            have H' := Aside0.mk H
            clear H
            go_wp2
            repeat (go_quiet (fail); try go_wp2)
            go_meet
            case rel => exact ⟨_, ((-1)), (by first | rfl | (simp; done) | (simp [*]; done) | (simp [M.isEmpty_bne]; done)), H', ⟨by have := HK1.out; first | omega | exact Nat.le_refl _⟩, ⟨by (with_reducible repeat (first | apply Kd.R_alloc | apply Kd.R_drewN | apply Kd.R_drew)); exact zaa.out⟩, ⟨M.up HB⟩⟩
        case rest =>
          clear HC4
          try clear p2
          try clear c3
          try clear c3b0
          try clear c5
          try clear c5b0
          try clear c6
          try clear c6b0
          try clear c6b1
          try clear p6
          try clear c7
          try clear c7b0
          try clear c7b1
          try clear c8
          try clear c8b0
          try clear p2
          obtain ⟨kq, x8_3, rfl, HA, HJ3, zaa, HB⟩ := hcut
          cases kq with
          | zero => exact absurd HA.out (by simp [pleachref11_Pieces_p.j1])
          | succ kj3 =>
            have H := HA.out
            clear HA
            simp only [pleachref11_Pieces_p.j1] at H
            by_cases c10 : x8_3 < 0
            · rw [if_pos c10] at H
              have c10b0 : decide (x8_3 < 0) = true := decide_eq_true c10
              clear c10
              by_cases c11 : 0 ≤ x7_1
              · rw [if_pos c11] at H
                have c11b0 := eq_true c11
                have c11b1 : decide (0 ≤ x7_1) = true := decide_eq_true c11
                clear c11
                by_cases c12 : x7_1 ≤ (wrap64 (x7_1 + 1))
                · rw [if_pos c12] at H
                  have c12b0 := eq_true c12
                  have c12b1 : decide (x7_1 ≤ (wrap64 (x7_1 + 1))) = true := decide_eq_true c12
                  by_cases c13 : (wrap64 (x7_1 + 1)) ≤ (a1.size : Int)
                  · rw [if_pos c13] at H
                    have c13b0 := eq_true c13
                    have c13b1 : decide ((wrap64 (x7_1 + 1)) ≤ (a1.size : Int)) = true := decide_eq_true c13
                    by_cases c14 : x6_1.size + (a1.extract (x7_1 : Int).toNat ((wrap64 (x7_1 + 1)) : Int).toNat).size ≤ 9223372036854775807
                    · rw [if_pos c14] at H
                      have c14b0 := eq_true c14
                      have c14b1 : decide (x6_1.size + (a1.extract (x7_1 : Int).toNat ((wrap64 (x7_1 + 1)) : Int).toNat).size ≤ 9223372036854775807) = true := decide_eq_true c14
                      try have c14b2 : (9223372036854775807 < x6_1.size + (a1.extract (x7_1 : Int).toNat ((wrap64 (x7_1 + 1)) : Int).toNat).size) = False := eq_false (Nat.not_lt.2 c14)
                      have H' := Aside0.mk H
                      clear H
                      go_wp2
                      repeat (go_quiet (fail); try go_wp2)
                      go_roundg kj3
                      case measure => have := HK1.out; have := HJ3.out; omega
                      case rel => exact ⟨(x5_1), (x6_1 ++ (a1.extract (x7_1 : Int).toNat ((wrap64 (x7_1 + 1)) : Int).toNat)), (wrap64 (x7_1 + 1)), (by first | rfl | (simp; done) | (simp [*]; done) | (simp [M.isEmpty_bne]; done)), (by first | rfl | (simp; done) | (simp [*]; done) | (simp [M.isEmpty_bne]; done)), H', ⟨by have := HK1.out; have := HJ3.out; omega⟩, ⟨by (with_reducible repeat (first | apply Kd.R_alloc | apply Kd.R_drewN | apply Kd.R_drew)); exact zaa.out⟩, ⟨M.up HB⟩⟩
                    · rw [if_neg c14] at H
                      exact absurd H (by simp)
                  · rw [if_neg c13] at H
                    exact absurd H (by simp)
                · rw [if_neg c12] at H
                  exact absurd H (by simp)
              · rw [if_neg c11] at H
                exact absurd H (by simp)
            · rw [if_neg c10] at H
              have c10b0 : decide (x8_3 < 0) = false := decide_eq_false c10
              clear c10
              have HC15 := Aside0.mk H
              clear H
              go_upto_if 38 with (fail)
              repeat (go_quiet (fail); go_upto_if 38 with (fail))
              go_cut [5, 6] (fun v5 v6 wc => ∃ (kq : Nat) (x5_14 : List (S34)) (x6_14 : ByteArray), v6 = .string x6_14 ∧ Aside0 (pleachref11_Pieces_p.j2 kq a0 a1 x5_14 x6_14 x7_1 x8_3 = some r) ∧ Aside0 (kq ≤ kj3) ∧ Aside0 (Kd.R k34 34 wc w.heap.size (fun _ => True) v5 x5_14) ∧ Aside0 (Below w.heap.size w wc))
              case first =>
                have H := HC15.out
                clear HC15
                by_cases c16 : x6_1.toList = ([] : List UInt8)
                · rw [if_pos c16] at H
                  have c16b0 : (x6_1.toList == ([] : List UInt8)) = true := beq_iff_eq.mpr c16
                  have c16b1 : (x6_1.toList != ([] : List UInt8)) = false := bne_eq_false_iff_eq.mpr c16
                  have c16e : x6_1.toList.isEmpty = true := by simpa [M.isEmpty_bne] using c16b1
                  have c16f : (!x6_1.toList.isEmpty) = false := by rw [c16e]; rfl
                  clear c16
                  (first | rw [c16f] | rw [c16b0] | (simp only [i64_w, i32_w]; rw [c16b0]) | skip)
                  have H' := Aside0.mk H
                  clear H
                  go_wp2
                  repeat (go_quiet (fail); try go_wp2)
                  go_meet
                  case rel => exact ⟨_, (x5_1), (x6_1), (by first | rfl | (simp; done) | (simp [*]; done) | (simp [M.isEmpty_bne]; done)), H', ⟨by have := HK1.out; have := HJ3.out; first | omega | exact Nat.le_refl _⟩, ⟨by (with_reducible repeat (first | apply Kd.R_alloc | apply Kd.R_drewN | apply Kd.R_drew)); exact zaa.out⟩, ⟨M.up HB⟩⟩
                · rw [if_neg c16] at H
                  have c16b0 : (x6_1.toList == ([] : List UInt8)) = false := beq_eq_false_iff_ne.mpr c16
                  have c16b1 : (x6_1.toList != ([] : List UInt8)) = true := bne_iff_ne.mpr c16
                  have c16e : x6_1.toList.isEmpty = false := by simpa [M.isEmpty_bne] using c16b1
                  have c16f : (!x6_1.toList.isEmpty) = true := by rw [c16e]; rfl
                  (first | rw [c16f] | rw [c16b0] | (simp only [i64_w, i32_w]; rw [c16b0]) | skip)
                  by_cases c17 : x5_1.length < 3518437208883
                  · rw [if_pos c17] at H
                    have LMc17 := Aside0.mk c17
                    clear c17
                    obtain ⟨y111, hy111⟩ : ∃ y_ : List (S34), y_ = (x5_1 ++ [(⟨false, 0, (x6_1.size : Int), x6_1⟩ : S34)]) := ⟨_, rfl⟩
                    replace H : (pleachref11_Pieces_p.j2 kj3 a0 a1 y111 (⟨#[]⟩ : ByteArray) x7_1 x8_3) = some r := by first | (rw [hy111]; with_reducible exact H) | (have H2_ := (Option.bind_some _ _).symm.trans H; rw [hy111]; with_reducible exact H2_) | (have H2_ := (Option.bind_some _ _).symm.trans H; with_reducible exact H2_) | with_reducible exact H | (rw [hy111]; exact H) | exact H
                    have Ny111 := Aside0.mk hy111
                    clear hy111
                    have H' := Aside0.mk H
                    clear H
                    go_wp2_with (first | ((with_reducible refine gate_builtin (b := .append) (xs := #[.tmp 39, .tmp 44]) rfl ?_); (try (refine gate_guard (by rfl) ?_; dsimp only)); at_builtin; refine Kd.R_append k34 (w0 := w) w.heap.size rfl (.tmp 39) (.tmp 44) 23 34 (.agg #[(.bool false), (.int .i64 0), (.int .i64 0), (.string ⟨#[]⟩)]) 40 rfl Try.underlying23 info34 rfl (by decide) (by omega) u5 x5_1 (⟨false, 0, (x6_1.size : Int), x6_1⟩ : S34) [.bool false, .int .i64 0, .int .i64 (x6_1.size : Int), .string x6_1] (fun _ => True) (fun _ => False) rfl rfl ?aP (fun _ hk => hk.elim) ?aF ?aO ?aB ?aS ?aL ?_; (case aP => exact k34_mkM _ _ _ (⟨false, 0, (x6_1.size : Int), x6_1⟩ : S34)); (case aB => exact (M.up HB)); (case aF => exact (fun _ _ => trivial)); (case aO => exact (M.ro zaa)); (case aS => exact (below_size (M.up HB))); (case aL => have := LMc17.out; omega); intro v112 w18 ho hb hg hat; rw [← Ny111.out] at ho; have n0_ := Aside0.mk (hb); have n1_ := Aside0.mk (ho); clear HB zaa; have HB := n0_; have HO113 := n1_; clear n0_ n1_; clear ho hb hg hat))
                    repeat (go_quiet (first | ((with_reducible refine gate_builtin (b := .append) (xs := #[.tmp 39, .tmp 44]) rfl ?_); (try (refine gate_guard (by rfl) ?_; dsimp only)); at_builtin; refine Kd.R_append k34 (w0 := w) w.heap.size rfl (.tmp 39) (.tmp 44) 23 34 (.agg #[(.bool false), (.int .i64 0), (.int .i64 0), (.string ⟨#[]⟩)]) 40 rfl Try.underlying23 info34 rfl (by decide) (by omega) u5 x5_1 (⟨false, 0, (x6_1.size : Int), x6_1⟩ : S34) [.bool false, .int .i64 0, .int .i64 (x6_1.size : Int), .string x6_1] (fun _ => True) (fun _ => False) rfl rfl ?aP (fun _ hk => hk.elim) ?aF ?aO ?aB ?aS ?aL ?_; (case aP => exact k34_mkM _ _ _ (⟨false, 0, (x6_1.size : Int), x6_1⟩ : S34)); (case aB => exact (M.up HB)); (case aF => exact (fun _ _ => trivial)); (case aO => exact (M.ro zaa)); (case aS => exact (below_size (M.up HB))); (case aL => have := LMc17.out; omega); intro v112 w18 ho hb hg hat; rw [← Ny111.out] at ho; have n0_ := Aside0.mk (hb); have n1_ := Aside0.mk (ho); clear HB zaa; have HB := n0_; have HO113 := n1_; clear n0_ n1_; clear ho hb hg hat)); try go_wp2_with (first | ((with_reducible refine gate_builtin (b := .append) (xs := #[.tmp 39, .tmp 44]) rfl ?_); (try (refine gate_guard (by rfl) ?_; dsimp only)); at_builtin; refine Kd.R_append k34 (w0 := w) w.heap.size rfl (.tmp 39) (.tmp 44) 23 34 (.agg #[(.bool false), (.int .i64 0), (.int .i64 0), (.string ⟨#[]⟩)]) 40 rfl Try.underlying23 info34 rfl (by decide) (by omega) u5 x5_1 (⟨false, 0, (x6_1.size : Int), x6_1⟩ : S34) [.bool false, .int .i64 0, .int .i64 (x6_1.size : Int), .string x6_1] (fun _ => True) (fun _ => False) rfl rfl ?aP (fun _ hk => hk.elim) ?aF ?aO ?aB ?aS ?aL ?_; (case aP => exact k34_mkM _ _ _ (⟨false, 0, (x6_1.size : Int), x6_1⟩ : S34)); (case aB => exact (M.up HB)); (case aF => exact (fun _ _ => trivial)); (case aO => exact (M.ro zaa)); (case aS => exact (below_size (M.up HB))); (case aL => have := LMc17.out; omega); intro v112 w18 ho hb hg hat; rw [← Ny111.out] at ho; have n0_ := Aside0.mk (hb); have n1_ := Aside0.mk (ho); clear HB zaa; have HB := n0_; have HO113 := n1_; clear n0_ n1_; clear ho hb hg hat)))
                    go_meet
                    case rel => exact ⟨_, (y111), ((⟨#[]⟩ : ByteArray)), (by first | rfl | (simp; done) | (simp [*]; done) | (simp [M.isEmpty_bne]; done)), H', ⟨by have := HK1.out; have := HJ3.out; first | omega | exact Nat.le_refl _⟩, ⟨by (with_reducible repeat (first | apply Kd.R_alloc | apply Kd.R_drewN | apply Kd.R_drew)); exact HO113.out⟩, ⟨M.up HB⟩⟩
                  · rw [if_neg c17] at H
                    exact absurd H (by simp)
              case rest =>
                clear HC15
                try clear c1
                try clear p2
                try clear c3
                try clear c3b0
                try clear c5
                try clear c5b0
                try clear c6
                try clear c6b0
                try clear c6b1
                try clear p6
                try clear c7
                try clear c7b0
                try clear c7b1
                try clear c8
                try clear c8b0
                try clear c10
                try clear c10b0
                try clear c11
                try clear c11b0
                try clear c11b1
                try clear c12
                try clear c12b0
                try clear c12b1
                try clear c13
                try clear c13b0
                try clear c13b1
                try clear c14
                try clear c14b0
                try clear c14b1
                try clear c14b2
                try clear c16
                try clear c16b0
                try clear c16b1
                try clear c17
                try clear p2
                try clear p6
                obtain ⟨kq, x5_14, x6_14, rfl, HA, HJ14, zaa, HB⟩ := hcut
                cases kq with
                | zero => exact absurd HA.out (by simp [pleachref11_Pieces_p.j2])
                | succ kj14 =>
                  have H := HA.out
                  clear HA
                  simp only [pleachref11_Pieces_p.j2] at H
                  have H' := Aside0.mk H
                  clear H
                  go_wp2
                  repeat (go_quiet (fail); try go_wp2)
                  go_loopg [9] kj14 (fun kq v9 w' => ∃ (x9_4 : Int), v9 = .int .i64 x9_4 ∧ Aside0 (pleachref11_Pieces_p.l1 kq a0 a1 x5_14 x6_14 x7_1 x8_3 x9_4 = some r) ∧ Aside0 (kq ≤ kj14) ∧ Aside0 (Kd.R k34 34 w' w.heap.size (fun _ => True) u5 x5_14) ∧ Aside0 (Below w.heap.size w w'))
                  case atStart => exact ⟨(0), (by first | rfl | (simp; done) | (simp [*]; done) | (simp [M.isEmpty_bne]; done)), H', ⟨Nat.le_refl _⟩, ⟨by (with_reducible repeat (first | apply Kd.R_alloc | apply Kd.R_drewN | apply Kd.R_drew)); exact zaa.out⟩, ⟨M.up HB⟩⟩
                  case round =>
                    clear H'
                    try clear c1
                    try clear p2
                    try clear c3
                    try clear c3b0
                    try clear c5
                    try clear c5b0
                    try clear c6
                    try clear c6b0
                    try clear c6b1
                    try clear p6
                    try clear c7
                    try clear c7b0
                    try clear c7b1
                    try clear c8
                    try clear c8b0
                    try clear c10
                    try clear c10b0
                    try clear c11
                    try clear c11b0
                    try clear c11b1
                    try clear c12
                    try clear c12b0
                    try clear c12b1
                    try clear c13
                    try clear c13b0
                    try clear c13b1
                    try clear c14
                    try clear c14b0
                    try clear c14b1
                    try clear c14b2
                    try clear c16
                    try clear c16b0
                    try clear c16b1
                    try clear c17
                    try clear p2
                    try clear p6
                    obtain ⟨x9_4, rfl, HA, HK4, zaa, HB⟩ := hrel
                    cases gk with
                    | zero => exact absurd HA.out (by simp [pleachref11_Pieces_p.l1])
                    | succ k4 =>
                      have H := HA.out
                      clear HA
                      simp only [pleachref11_Pieces_p.l1] at H
                      have HC19 := Aside0.mk H
                      clear H
                      go_upto_region 15 with (fail)
                      repeat (go_quiet (fail); go_upto_region 15 with (fail))
                      go_cut [72] (fun v72 wc => ∃ (kq : Nat) (x72_18 : Bool), v72 = .bool x72_18 ∧ Aside0 (pleachref11_Pieces_p.j4 kq a0 a1 x5_14 x6_14 x7_1 x8_3 x9_4 x72_18 = some r) ∧ Aside0 (kq ≤ k4) ∧ Aside0 (Kd.R k34 34 wc w.heap.size (fun _ => True) u5 x5_14) ∧ Aside0 (Below w.heap.size w wc))
                      case first =>
                        have H := HC19.out
                        clear HC19
                        by_cases c20 : (wrap64 (x7_1 + x9_4)) < (a1.size : Int)
                        · rw [if_pos c20] at H
                          have c20b0 : decide ((wrap64 (x7_1 + x9_4)) < (a1.size : Int)) = true := decide_eq_true c20
                          clear c20
                          (first | rw [c20b0] | (simp only [i64_w, i32_w]; rw [c20b0]) | skip)
                          by_cases c21 : (wrap64 (x8_3 + x9_4)) < (a0.size : Int)
                          · rw [if_pos c21] at H
                            have c21b0 : decide ((wrap64 (x8_3 + x9_4)) < (a0.size : Int)) = true := decide_eq_true c21
                            clear c21
                            obtain ⟨ji22, hji22⟩ : ∃ j_ : Int, (wrap64 (x7_1 + x9_4)) = j_ := ⟨_, rfl⟩
                            replace H : (if 0 ≤ (ji22) then (if 0 ≤ (wrap64 (x8_3 + x9_4)) then (pleachref11_Pieces_p.j4 k4 a0 a1 x5_14 x6_14 x7_1 x8_3 x9_4 ((bt a1 (ji22)) == (bt a0 (wrap64 (x8_3 + x9_4))))) else (none)) else (none)) = some r := by first | (rw [hji22] at H; exact H) | (simp only [hji22] at H ⊢; exact H)
                            (try rw [hji22] at c20b0)
                            have hji22w : (IntKind.i64.wrap (x7_1 + x9_4)) = ji22 := (i64_w _).trans hji22
                            by_cases c23 : 0 ≤ (ji22)
                            · rw [if_pos c23] at H
                              have c23b0 : decide (0 ≤ (ji22)) = true := decide_eq_true c23
                              clear c23
                              obtain ⟨ji25, hji25⟩ : ∃ j_ : Int, (wrap64 (x8_3 + x9_4)) = j_ := ⟨_, rfl⟩
                              replace H : (if 0 ≤ (ji25) then (pleachref11_Pieces_p.j4 k4 a0 a1 x5_14 x6_14 x7_1 x8_3 x9_4 ((bt a1 (ji22)) == (bt a0 (ji25)))) else (none)) = some r := by first | (rw [hji25] at H; exact H) | (simp only [hji25] at H ⊢; exact H)
                              (try rw [hji25] at c21b0)
                              have hji25w : (IntKind.i64.wrap (x8_3 + x9_4)) = ji25 := (i64_w _).trans hji25
                              by_cases c26 : 0 ≤ (ji25)
                              · rw [if_pos c26] at H
                                have c26b0 : decide (0 ≤ (ji25)) = true := decide_eq_true c26
                                clear c26
                                have H' := Aside0.mk H
                                clear H
                                have p24 : 0 ≤ ((ji22) : Int) := of_decide_eq_true (by first | (with_reducible assumption) | assumption)
                                have q24 : (ji22) < (a1.size : Int) := of_decide_eq_true (by first | (with_reducible assumption) | assumption)
                                have hx24 := bt_at a1 (ji22)
                                replace p24 := eq_true p24
                                replace q24 := eq_true q24
                                have p27 : 0 ≤ ((ji25) : Int) := of_decide_eq_true (by first | (with_reducible assumption) | assumption)
                                have q27 : (ji25) < (a0.size : Int) := of_decide_eq_true (by first | (with_reducible assumption) | assumption)
                                have hx27 := bt_at a0 (ji25)
                                replace p27 := eq_true p27
                                replace q27 := eq_true q27
                                go_wp2
                                repeat (go_quiet (fail); try go_wp2)
                                go_meet
                                case rel => exact ⟨_, (((bt a1 (ji22)) == (bt a0 (ji25)))), (by first | rfl | (simp; done) | (simp only [← hji22, ← hji25] <;> (first | rfl | simp)) | (simp [*]; done)), H', ⟨by have := HK1.out; have := HJ3.out; have := HJ14.out; have := HK4.out; first | omega | exact Nat.le_refl _⟩, ⟨by (with_reducible repeat (first | apply Kd.R_alloc | apply Kd.R_drewN | apply Kd.R_drew)); exact zaa.out⟩, ⟨M.up HB⟩⟩
                              · rw [if_neg c26] at H
                                exact absurd H (by simp)
                            · rw [if_neg c23] at H
                              exact absurd H (by simp)
                          · rw [if_neg c21] at H
                            have c21b0 : decide ((wrap64 (x8_3 + x9_4)) < (a0.size : Int)) = false := decide_eq_false c21
                            clear c21
                            have H' := Aside0.mk H
                            clear H
                            go_wp2
                            repeat (go_quiet (fail); try go_wp2)
                            go_meet
                            case rel => exact ⟨_, (false), (by first | rfl | (simp; done) | (simp [*]; done) | (simp [M.isEmpty_bne]; done)), H', ⟨by have := HK1.out; have := HJ3.out; have := HJ14.out; have := HK4.out; first | omega | exact Nat.le_refl _⟩, ⟨by (with_reducible repeat (first | apply Kd.R_alloc | apply Kd.R_drewN | apply Kd.R_drew)); exact zaa.out⟩, ⟨M.up HB⟩⟩
                        · rw [if_neg c20] at H
                          have c20b0 : decide ((wrap64 (x7_1 + x9_4)) < (a1.size : Int)) = false := decide_eq_false c20
                          clear c20
                          (first | rw [c20b0] | (simp only [i64_w, i32_w]; rw [c20b0]) | skip)
                          have H' := Aside0.mk H
                          clear H
                          go_wp2
                          repeat (go_quiet (fail); try go_wp2)
                          go_meet
                          case rel => exact ⟨_, (false), (by first | rfl | (simp; done) | (simp [*]; done) | (simp [M.isEmpty_bne]; done)), H', ⟨by have := HK1.out; have := HJ3.out; have := HJ14.out; have := HK4.out; first | omega | exact Nat.le_refl _⟩, ⟨by (with_reducible repeat (first | apply Kd.R_alloc | apply Kd.R_drewN | apply Kd.R_drew)); exact zaa.out⟩, ⟨M.up HB⟩⟩
                      case rest =>
                        clear HC19
                        try clear c1
                        try clear c2
                        try clear p2
                        try clear q2
                        try clear hx2
                        try clear c3
                        try clear c3b0
                        try clear c5
                        try clear c5b0
                        try clear c6
                        try clear c6b0
                        try clear c6b1
                        try clear p6
                        try clear c7
                        try clear c7b0
                        try clear c7b1
                        try clear c8
                        try clear c8b0
                        try clear c10
                        try clear c10b0
                        try clear c11
                        try clear c11b0
                        try clear c11b1
                        try clear c12
                        try clear c12b0
                        try clear c12b1
                        try clear c13
                        try clear c13b0
                        try clear c13b1
                        try clear c14
                        try clear c14b0
                        try clear c14b1
                        try clear c14b2
                        try clear c16
                        try clear c16b0
                        try clear c16b1
                        try clear c17
                        try clear c20
                        try clear c20b0
                        try clear c21
                        try clear c21b0
                        try clear c23
                        try clear c23b0
                        try clear p24
                        try clear q24
                        try clear hx24
                        try clear c26
                        try clear c26b0
                        try clear p27
                        try clear q27
                        try clear hx27
                        try clear p2
                        try clear p24
                        try clear p27
                        try clear p6
                        try clear q24
                        try clear q27
                        obtain ⟨kq, x72_18, rfl, HA, HJ18, zaa, HB⟩ := hcut
                        cases kq with
                        | zero => exact absurd HA.out (by simp [pleachref11_Pieces_p.j4])
                        | succ kj18 =>
                          have H := HA.out
                          clear HA
                          simp only [pleachref11_Pieces_p.j4] at H
                          by_cases c28 : x72_18 = true
                          · subst c28
                            have H1 : (pleachref11_Pieces_p.l1 kj18 a0 a1 x5_14 x6_14 x7_1 x8_3 (wrap64 (x9_4 + 1))) = some r := by rw [if_pos rfl] at H; exact H
                            clear H
                            have H := H1
                            clear H1
                            have H' := Aside0.mk H
                            clear H
                            go_wp2
                            repeat (go_quiet (fail); try go_wp2)
                            go_roundg kj18
                            case measure => have := HK1.out; have := HJ3.out; have := HJ14.out; have := HK4.out; have := HJ18.out; omega
                            case rel => exact ⟨(wrap64 (x9_4 + 1)), (by first | rfl | (simp; done) | (simp [*]; done) | (simp [M.isEmpty_bne]; done)), H', ⟨by have := HK1.out; have := HJ3.out; have := HJ14.out; have := HK4.out; have := HJ18.out; omega⟩, ⟨by (with_reducible repeat (first | apply Kd.R_alloc | apply Kd.R_drewN | apply Kd.R_drew)); exact zaa.out⟩, ⟨M.up HB⟩⟩
                          · replace c28 := Bool.eq_false_iff.mpr c28
                            subst c28
                            have H1 : (if x5_14.length < 3518437208883 then (pleachref11_Pieces_p.l0 kj18 a0 a1 (x5_14 ++ [(⟨true, x8_3, x9_4, (⟨#[]⟩ : ByteArray)⟩ : S34)]) x6_14 (wrap64 (x7_1 + x9_4))) else (none)) = some r := by rw [if_neg (show ¬ (false = true) by decide)] at H; exact H
                            clear H
                            have H := H1
                            clear H1
                            by_cases c29 : x5_14.length < 3518437208883
                            · rw [if_pos c29] at H
                              have LMc29 := Aside0.mk c29
                              clear c29
                              obtain ⟨y114, hy114⟩ : ∃ y_ : List (S34), y_ = (x5_14 ++ [(⟨true, x8_3, x9_4, (⟨#[]⟩ : ByteArray)⟩ : S34)]) := ⟨_, rfl⟩
                              replace H : (pleachref11_Pieces_p.l0 kj18 a0 a1 y114 x6_14 (wrap64 (x7_1 + x9_4))) = some r := by first | (rw [hy114]; with_reducible exact H) | (have H2_ := (Option.bind_some _ _).symm.trans H; rw [hy114]; with_reducible exact H2_) | (have H2_ := (Option.bind_some _ _).symm.trans H; with_reducible exact H2_) | with_reducible exact H | (rw [hy114]; exact H) | exact H
                              have Ny114 := Aside0.mk hy114
                              clear hy114
                              have H' := Aside0.mk H
                              clear H
                              go_wp2_with (first | ((with_reducible refine gate_builtin (b := .append) (xs := #[.tmp 75, .tmp 79]) rfl ?_); (try (refine gate_guard (by rfl) ?_; dsimp only)); at_builtin; refine Kd.R_append k34 (w0 := w) w.heap.size rfl (.tmp 75) (.tmp 79) 23 34 (.agg #[(.bool false), (.int .i64 0), (.int .i64 0), (.string ⟨#[]⟩)]) 40 rfl Try.underlying23 info34 rfl (by decide) (by omega) u5 x5_14 (⟨true, x8_3, x9_4, (⟨#[]⟩ : ByteArray)⟩ : S34) [.bool true, .int .i64 x8_3, .int .i64 x9_4, .string (⟨#[]⟩ : ByteArray)] (fun _ => True) (fun _ => False) rfl rfl ?aP (fun _ hk => hk.elim) ?aF ?aO ?aB ?aS ?aL ?_; (case aP => exact k34_mkM _ _ _ (⟨true, x8_3, x9_4, (⟨#[]⟩ : ByteArray)⟩ : S34)); (case aB => exact (M.up HB)); (case aF => exact (fun _ _ => trivial)); (case aO => exact (M.ro zaa)); (case aS => exact (below_size (M.up HB))); (case aL => have := LMc29.out; omega); intro v115 w30 ho hb hg hat; rw [← Ny114.out] at ho; have n0_ := Aside0.mk (hb); have n1_ := Aside0.mk (ho); clear HB zaa; have HB := n0_; have HO116 := n1_; clear n0_ n1_; clear ho hb hg hat))
                              repeat (go_quiet (first | ((with_reducible refine gate_builtin (b := .append) (xs := #[.tmp 75, .tmp 79]) rfl ?_); (try (refine gate_guard (by rfl) ?_; dsimp only)); at_builtin; refine Kd.R_append k34 (w0 := w) w.heap.size rfl (.tmp 75) (.tmp 79) 23 34 (.agg #[(.bool false), (.int .i64 0), (.int .i64 0), (.string ⟨#[]⟩)]) 40 rfl Try.underlying23 info34 rfl (by decide) (by omega) u5 x5_14 (⟨true, x8_3, x9_4, (⟨#[]⟩ : ByteArray)⟩ : S34) [.bool true, .int .i64 x8_3, .int .i64 x9_4, .string (⟨#[]⟩ : ByteArray)] (fun _ => True) (fun _ => False) rfl rfl ?aP (fun _ hk => hk.elim) ?aF ?aO ?aB ?aS ?aL ?_; (case aP => exact k34_mkM _ _ _ (⟨true, x8_3, x9_4, (⟨#[]⟩ : ByteArray)⟩ : S34)); (case aB => exact (M.up HB)); (case aF => exact (fun _ _ => trivial)); (case aO => exact (M.ro zaa)); (case aS => exact (below_size (M.up HB))); (case aL => have := LMc29.out; omega); intro v115 w30 ho hb hg hat; rw [← Ny114.out] at ho; have n0_ := Aside0.mk (hb); have n1_ := Aside0.mk (ho); clear HB zaa; have HB := n0_; have HO116 := n1_; clear n0_ n1_; clear ho hb hg hat)); try go_wp2_with (first | ((with_reducible refine gate_builtin (b := .append) (xs := #[.tmp 75, .tmp 79]) rfl ?_); (try (refine gate_guard (by rfl) ?_; dsimp only)); at_builtin; refine Kd.R_append k34 (w0 := w) w.heap.size rfl (.tmp 75) (.tmp 79) 23 34 (.agg #[(.bool false), (.int .i64 0), (.int .i64 0), (.string ⟨#[]⟩)]) 40 rfl Try.underlying23 info34 rfl (by decide) (by omega) u5 x5_14 (⟨true, x8_3, x9_4, (⟨#[]⟩ : ByteArray)⟩ : S34) [.bool true, .int .i64 x8_3, .int .i64 x9_4, .string (⟨#[]⟩ : ByteArray)] (fun _ => True) (fun _ => False) rfl rfl ?aP (fun _ hk => hk.elim) ?aF ?aO ?aB ?aS ?aL ?_; (case aP => exact k34_mkM _ _ _ (⟨true, x8_3, x9_4, (⟨#[]⟩ : ByteArray)⟩ : S34)); (case aB => exact (M.up HB)); (case aF => exact (fun _ _ => trivial)); (case aO => exact (M.ro zaa)); (case aS => exact (below_size (M.up HB))); (case aL => have := LMc29.out; omega); intro v115 w30 ho hb hg hat; rw [← Ny114.out] at ho; have n0_ := Aside0.mk (hb); have n1_ := Aside0.mk (ho); clear HB zaa; have HB := n0_; have HO116 := n1_; clear n0_ n1_; clear ho hb hg hat)))
                              go_roundg kj18
                              case measure => have := HK1.out; have := HJ3.out; have := HJ14.out; have := HK4.out; have := HJ18.out; omega
                              case rel => exact ⟨(y114), (x6_14), (wrap64 (x7_1 + x9_4)), (by first | rfl | (simp; done) | (simp [*]; done) | (simp [M.isEmpty_bne]; done)), (by first | rfl | (simp; done) | (simp [*]; done) | (simp [M.isEmpty_bne]; done)), H', ⟨by have := HK1.out; have := HJ3.out; have := HJ14.out; have := HK4.out; have := HJ18.out; omega⟩, ⟨by (with_reducible repeat (first | apply Kd.R_alloc | apply Kd.R_drewN | apply Kd.R_drew)); exact HO116.out⟩, ⟨M.up HB⟩⟩
                            · rw [if_neg c29] at H
                              exact absurd H (by simp)
      · rw [if_neg c3] at H
        have c3b0 : decide (x7_1 < (a1.size : Int)) = false := decide_eq_false c3
        clear c3
        by_cases c31 : x6_1.toList = ([] : List UInt8)
        · rw [if_pos c31] at H
          have c31b0 : (x6_1.toList == ([] : List UInt8)) = true := beq_iff_eq.mpr c31
          have c31b1 : (x6_1.toList != ([] : List UInt8)) = false := bne_eq_false_iff_eq.mpr c31
          have c31e : x6_1.toList.isEmpty = true := by simpa [M.isEmpty_bne] using c31b1
          have c31f : (!x6_1.toList.isEmpty) = false := by rw [c31e]; rfl
          clear c31
          obtain rfl := Option.some.inj H
          go_wp2
          repeat (go_quiet (fail); try go_wp2)
          go_ret
          exact ⟨_, by first | rfl | (simp [errW_none, errW_some] <;> rfl) | (simp [*, errW_none, errW_some] <;> rfl), by (with_reducible repeat (first | apply Kd.R_alloc | apply Kd.R_drewN | apply Kd.R_drew)); exact zaa.out, M.up HB⟩
        · rw [if_neg c31] at H
          have c31b0 : (x6_1.toList == ([] : List UInt8)) = false := beq_eq_false_iff_ne.mpr c31
          have c31b1 : (x6_1.toList != ([] : List UInt8)) = true := bne_iff_ne.mpr c31
          have c31e : x6_1.toList.isEmpty = false := by simpa [M.isEmpty_bne] using c31b1
          have c31f : (!x6_1.toList.isEmpty) = true := by rw [c31e]; rfl
          by_cases c32 : x5_1.length < 3518437208883
          · rw [if_pos c32] at H
            have LMc32 := Aside0.mk c32
            clear c32
            obtain ⟨y117, hy117⟩ : ∃ y_ : List (S34), y_ = (x5_1 ++ [(⟨false, 0, (x6_1.size : Int), x6_1⟩ : S34)]) := ⟨_, rfl⟩
            replace H : (some y117) = some r := by first | (rw [hy117]; with_reducible exact H) | (have H2_ := (Option.bind_some _ _).symm.trans H; rw [hy117]; with_reducible exact H2_) | (have H2_ := (Option.bind_some _ _).symm.trans H; with_reducible exact H2_) | with_reducible exact H | (rw [hy117]; exact H) | exact H
            have Ny117 := Aside0.mk hy117
            clear hy117
            obtain rfl := Option.some.inj H
            go_wp2_with (first | ((with_reducible refine gate_builtin (b := .append) (xs := #[.tmp 86, .tmp 91]) rfl ?_); (try (refine gate_guard (by rfl) ?_; dsimp only)); at_builtin; refine Kd.R_append k34 (w0 := w) w.heap.size rfl (.tmp 86) (.tmp 91) 23 34 (.agg #[(.bool false), (.int .i64 0), (.int .i64 0), (.string ⟨#[]⟩)]) 40 rfl Try.underlying23 info34 rfl (by decide) (by omega) u5 x5_1 (⟨false, 0, (x6_1.size : Int), x6_1⟩ : S34) [.bool false, .int .i64 0, .int .i64 (x6_1.size : Int), .string x6_1] (fun _ => True) (fun _ => False) rfl rfl ?aP (fun _ hk => hk.elim) ?aF ?aO ?aB ?aS ?aL ?_; (case aP => exact k34_mkM _ _ _ (⟨false, 0, (x6_1.size : Int), x6_1⟩ : S34)); (case aB => exact (M.up HB)); (case aF => exact (fun _ _ => trivial)); (case aO => exact (M.ro zaa)); (case aS => exact (below_size (M.up HB))); (case aL => have := LMc32.out; omega); intro v118 w33 ho hb hg hat; rw [← Ny117.out] at ho; have n0_ := Aside0.mk (hb); have n1_ := Aside0.mk (ho); clear HB zaa; have HB := n0_; have HO119 := n1_; clear n0_ n1_; clear ho hb hg hat))
            repeat (go_quiet (first | ((with_reducible refine gate_builtin (b := .append) (xs := #[.tmp 86, .tmp 91]) rfl ?_); (try (refine gate_guard (by rfl) ?_; dsimp only)); at_builtin; refine Kd.R_append k34 (w0 := w) w.heap.size rfl (.tmp 86) (.tmp 91) 23 34 (.agg #[(.bool false), (.int .i64 0), (.int .i64 0), (.string ⟨#[]⟩)]) 40 rfl Try.underlying23 info34 rfl (by decide) (by omega) u5 x5_1 (⟨false, 0, (x6_1.size : Int), x6_1⟩ : S34) [.bool false, .int .i64 0, .int .i64 (x6_1.size : Int), .string x6_1] (fun _ => True) (fun _ => False) rfl rfl ?aP (fun _ hk => hk.elim) ?aF ?aO ?aB ?aS ?aL ?_; (case aP => exact k34_mkM _ _ _ (⟨false, 0, (x6_1.size : Int), x6_1⟩ : S34)); (case aB => exact (M.up HB)); (case aF => exact (fun _ _ => trivial)); (case aO => exact (M.ro zaa)); (case aS => exact (below_size (M.up HB))); (case aL => have := LMc32.out; omega); intro v118 w33 ho hb hg hat; rw [← Ny117.out] at ho; have n0_ := Aside0.mk (hb); have n1_ := Aside0.mk (ho); clear HB zaa; have HB := n0_; have HO119 := n1_; clear n0_ n1_; clear ho hb hg hat)); try go_wp2_with (first | ((with_reducible refine gate_builtin (b := .append) (xs := #[.tmp 86, .tmp 91]) rfl ?_); (try (refine gate_guard (by rfl) ?_; dsimp only)); at_builtin; refine Kd.R_append k34 (w0 := w) w.heap.size rfl (.tmp 86) (.tmp 91) 23 34 (.agg #[(.bool false), (.int .i64 0), (.int .i64 0), (.string ⟨#[]⟩)]) 40 rfl Try.underlying23 info34 rfl (by decide) (by omega) u5 x5_1 (⟨false, 0, (x6_1.size : Int), x6_1⟩ : S34) [.bool false, .int .i64 0, .int .i64 (x6_1.size : Int), .string x6_1] (fun _ => True) (fun _ => False) rfl rfl ?aP (fun _ hk => hk.elim) ?aF ?aO ?aB ?aS ?aL ?_; (case aP => exact k34_mkM _ _ _ (⟨false, 0, (x6_1.size : Int), x6_1⟩ : S34)); (case aB => exact (M.up HB)); (case aF => exact (fun _ _ => trivial)); (case aO => exact (M.ro zaa)); (case aS => exact (below_size (M.up HB))); (case aL => have := LMc32.out; omega); intro v118 w33 ho hb hg hat; rw [← Ny117.out] at ho; have n0_ := Aside0.mk (hb); have n1_ := Aside0.mk (ho); clear HB zaa; have HB := n0_; have HO119 := n1_; clear n0_ n1_; clear ho hb hg hat)))
            go_ret
            exact ⟨_, by first | rfl | (simp [errW_none, errW_some] <;> rfl) | (simp [*, errW_none, errW_some] <;> rfl), by (with_reducible repeat (first | apply Kd.R_alloc | apply Kd.R_drewN | apply Kd.R_drew)); exact HO119.out, M.up HB⟩
          · rw [if_neg c32] at H
            exact absurd H (by simp)

-- this session's own plain form
def pleachref11_Pieces.f (base text : ByteArray) : Option (List S34) := delta_Pieces.f base text
theorem pleachref11_Pieces.nil (s : ByteArray) : s.toList = ([] : List UInt8) ↔ s.size = 0 := by
  rw [M.toList_bs, ← M.bs_length, List.length_eq_zero_iff]
theorem pleachref11_Pieces.ext (s : ByteArray) (a b : Nat) (h1 : a ≤ b) (h2 : b ≤ s.size) : (s.extract a b).size = b - a := by
  rw [ByteArray.size_extract]; omega
theorem pleachref11_Pieces.ext_app (s : ByteArray) (a b c : Nat) (h1 : a ≤ b) (h2 : b ≤ c) : s.extract a b ++ s.extract b c = s.extract a c := by
  apply M.bs_inj
  rw [M.bs_append, M.bs_extract, M.bs_extract, M.bs_extract, show c - a = (b - a) + (c - b) from by omega, List.take_add, List.drop_drop, show a + (b - a) = b from by omega]
theorem pleachref11_Pieces.ext_nil (s : ByteArray) (a : Nat) : s.extract a a = ⟨#[]⟩ := M.bs_inj (by rw [M.bs_extract, Nat.sub_self, List.take_zero]; rfl)
theorem pleachref11_Pieces.tail (base text : ByteArray) (hb : base.size ≤ 1000000000) (ht : text.size ≤ 100000000) (own : Nat) (out : List S34) (ho : out.length ≤ own) (d : Nat) : ∀ i, own ≤ i → i ≤ text.size → text.size < i + 8 → text.size - i = d →
    ∃ k, pleachref11_Pieces_p.l0 k base text out (text.extract own i) (i : Int) = some (out ++ delta_Pieces.own_ text own text.size) := by
  induction d with
  | zero =>
    intro i h1 h2 h3 h4
    obtain rfl : i = text.size := by omega
    refine ⟨0 + 1, ?_⟩
    rw [pleachref11_Pieces_p.l0, if_neg (by omega)]
    have hsz := pleachref11_Pieces.ext text own text.size h1 (Nat.le_refl _)
    unfold delta_Pieces.own_
    by_cases e : own < text.size
    · rw [if_neg (fun z => by have := (pleachref11_Pieces.nil _).1 z; omega), if_pos (by omega), if_pos e, hsz, show ((text.size - own : Nat) : Int) = (text.size : Int) - (own : Int) from by omega]
    · rw [if_pos ((pleachref11_Pieces.nil _).2 (by omega)), if_neg e, List.append_nil]
  | succ d ih =>
    intro i h1 h2 h3 h4
    obtain ⟨k, hk⟩ := ih (i + 1) (by omega) (by omega) (by omega) (by omega)
    refine ⟨k + 1 + 1, ?_⟩
    have hw : Aside0 (wrap64 ((i : Int) + 1) = ((i + 1 : Nat) : Int)) := ⟨by rw [M.wrap64_id (by omega) (by omega)]; omega⟩
    rw [pleachref11_Pieces_p.l0, if_pos (by omega), M.wrap64_id (i := (i : Int) + 8) (by omega) (by omega), if_neg (by omega), pleachref11_Pieces_p.j1, if_pos (by decide), hw.out, if_pos (by omega), if_pos (by omega), if_pos (by omega)]
    rw [Int.toNat_natCast, Int.toNat_natCast, if_pos (by rw [pleachref11_Pieces.ext _ _ _ h1 h2, pleachref11_Pieces.ext _ _ _ (by omega) (by omega)]; omega), pleachref11_Pieces.ext_app _ _ _ _ h1 (by omega)]
    exact hk
theorem pleachref11_Pieces.count (base text : ByteArray) (hb : base.size ≤ 1000000000) (ht : text.size ≤ 100000000) (j i : Nat) (hj : j ≤ base.size) (hi : i ≤ text.size) (out : List S34) (ho : out.length ≤ 100000000) (x6 : ByteArray) (r : List S34)
    (h : ∃ k, pleachref11_Pieces_p.l0 k base text (out ++ [⟨true, (j : Int), (M.alike ((M.bs base).drop j) ((M.bs text).drop i) : Int), ⟨#[]⟩⟩]) x6 ((i + M.alike ((M.bs base).drop j) ((M.bs text).drop i) : Nat) : Int) = some r) (d : Nat) :
    ∀ n, n ≤ M.alike ((M.bs base).drop j) ((M.bs text).drop i) → M.alike ((M.bs base).drop j) ((M.bs text).drop i) - n = d → ∃ k, pleachref11_Pieces_p.l1 k base text out x6 (i : Int) (j : Int) (n : Int) = some r := by
  have hle := M.alike_le ((M.bs base).drop j) ((M.bs text).drop i)
  rw [List.length_drop, List.length_drop, M.bs_length, M.bs_length] at hle
  induction d with
  | zero => ?_
  | succ d ih => ?_
  all_goals
    intro n hn hd
    have hs := M.alike_step hn
    have w1 : Aside0 (wrap64 ((i : Int) + (n : Int)) = ((i + n : Nat) : Int)) := ⟨by rw [M.wrap64_id (by omega) (by omega)]; omega⟩
    have w2 : Aside0 (wrap64 ((j : Int) + (n : Int)) = ((j + n : Nat) : Int)) := ⟨by rw [M.wrap64_id (by omega) (by omega)]; omega⟩
  case zero =>
    have he : n = M.alike ((M.bs base).drop j) ((M.bs text).drop i) := by omega
    have hno : ¬ n < M.alike ((M.bs base).drop j) ((M.bs text).drop i) := by omega
    obtain ⟨k, hk⟩ := h
    have hj4 : pleachref11_Pieces_p.j4 (k + 1) base text out x6 (i : Int) (j : Int) (n : Int) false = some r := by
      rw [pleachref11_Pieces_p.j4, if_neg (by simp), if_pos (by omega), w1.out, he]
      exact hk
    refine ⟨k + 1 + 1, ?_⟩
    rw [pleachref11_Pieces_p.l1, w1.out, w2.out]
    by_cases h1 : ((i + n : Nat) : Int) < (text.size : Int)
    · rw [if_pos h1]
      by_cases h2 : ((j + n : Nat) : Int) < (base.size : Int)
      · rw [if_pos h2, if_pos (by omega), if_pos (by omega)]
        have l1 : n < ((M.bs base).drop j).length := by rw [List.length_drop, M.bs_length]; omega
        have l2 : n < ((M.bs text).drop i).length := by rw [List.length_drop, M.bs_length]; omega
        have m1 : j + n < (M.bs base).length := by rw [M.bs_length]; omega
        have m2 : i + n < (M.bs text).length := by rw [M.bs_length]; omega
        rw [M.bt_bs text (i + n) m2, M.bt_bs base (j + n) m1]
        have hne : (M.bs base)[j + n] ≠ (M.bs text)[i + n] := fun z => hno (hs.2 ⟨l1, l2, by rw [List.getElem_drop, List.getElem_drop]; exact z⟩)
        rw [show ((((M.bs text)[i + n]).toNat : Int) == (((M.bs base)[j + n]).toNat : Int)) = false from by
          apply beq_eq_false_iff_ne.2
          intro z
          exact hne (UInt8.toNat_inj.1 (by omega))]
        exact hj4
      · rw [if_neg h2]; exact hj4
    · rw [if_neg h1]; exact hj4
  case succ =>
    obtain ⟨l1, l2, hq⟩ := hs.1 (by omega)
    rw [List.getElem_drop, List.getElem_drop] at hq
    obtain ⟨k, hk⟩ := ih (n + 1) (by omega) (by omega)
    rw [List.length_drop, M.bs_length] at l1 l2
    have m1 : j + n < (M.bs base).length := by rw [M.bs_length]; omega
    have m2 : i + n < (M.bs text).length := by rw [M.bs_length]; omega
    refine ⟨k + 1 + 1, ?_⟩
    rw [pleachref11_Pieces_p.l1, w1.out, w2.out, if_pos (by omega), if_pos (by omega), if_pos (by omega), if_pos (by omega), M.bt_bs text (i + n) m2, M.bt_bs base (j + n) m1, hq, beq_self_eq_true, pleachref11_Pieces_p.j4, if_pos rfl, M.wrap64_id (by omega) (by omega)]
    exact hk
theorem pleachref11_Pieces.loop (base text : ByteArray) (hb : base.size ≤ 1000000000) (ht : text.size ≤ 100000000) (r : List S34) (f : Nat) : ∀ (i own : Nat) (out : List S34), own ≤ i → i ≤ text.size → out.length ≤ own →
    delta_Pieces.go base text f i own out = some r → ∃ k, pleachref11_Pieces_p.l0 k base text out (text.extract own i) (i : Int) = some r := by
  induction f with
  | zero => intro i own out _ _ _ h; cases h
  | succ f ih =>
    intro i own out h1 h2 h3 h
    rw [delta_Pieces.go] at h
    by_cases hi : i + 8 ≤ text.size
    · rw [if_pos hi] at h
      have hst : ∀ c : Int → Option (List S34), (pleachref11_stands.f base (text.extract i (i + 8))).bind c = c (match delta_index.at_ base (text.extract i (i + 8)).data.toList (base.size - 7) with | some j => (j : Int) | none => -1) := by
        intro c
        rw [pleachref11_stands.f, if_pos hb]; rfl
      have hw8 : Aside0 (wrap64 ((i : Int) + 8) = ((i + 8 : Nat) : Int)) := ⟨by rw [M.wrap64_id (by omega) (by omega)]; omega⟩
      have hw : Aside0 (wrap64 ((i : Int) + 1) = ((i + 1 : Nat) : Int)) := ⟨by rw [M.wrap64_id (by omega) (by omega)]; omega⟩
      cases ha : delta_index.at_ base (text.extract i (i + 8)).data.toList (base.size - 7) with
      | none =>
        rw [ha] at h
        simp only at h
        obtain ⟨k, hk⟩ := ih (i + 1) own out (by omega) (by omega) h3 h
        refine ⟨k + 1 + 1, ?_⟩
        rw [pleachref11_Pieces_p.l0, if_pos (by omega), hw8.out, if_pos (by omega), if_pos (by omega), if_pos (by omega), Int.toNat_natCast, Int.toNat_natCast, hst, ha]
        simp only
        rw [pleachref11_Pieces_p.j1, if_pos (by decide), hw.out, if_pos (by omega), if_pos (by omega), if_pos (by omega)]
        rw [Int.toNat_natCast, Int.toNat_natCast, if_pos (by rw [pleachref11_Pieces.ext _ _ _ h1 h2, pleachref11_Pieces.ext _ _ _ (by omega) (by omega)]; omega), pleachref11_Pieces.ext_app _ _ _ _ h1 (by omega)]
        exact hk
      | some j =>
        rw [ha] at h
        simp only at h
        obtain ⟨hj, hn8⟩ := delta_Pieces.met ha hi
        have hle := M.alike_le ((M.bs base).drop j) ((M.bs text).drop i)
        rw [List.length_drop, List.length_drop, M.bs_length, M.bs_length] at hle
        have hol := delta_Pieces.own_len text own i
        have hlen : (out ++ delta_Pieces.own_ text own i).length ≤ i + 1 := by rw [List.length_append]; omega
        obtain ⟨k0, hk0⟩ := ih (i + M.alike ((M.bs base).drop j) ((M.bs text).drop i)) (i + M.alike ((M.bs base).drop j) ((M.bs text).drop i)) _ (Nat.le_refl _) (by omega) (by rw [List.length_append, List.length_singleton]; omega) h
        rw [pleachref11_Pieces.ext_nil] at hk0
        obtain ⟨k, hk⟩ := pleachref11_Pieces.count base text hb ht j i (by omega) h2 (out ++ delta_Pieces.own_ text own i) (by omega) ⟨#[]⟩ r ⟨k0, hk0⟩ _ 0 (Nat.zero_le _) rfl
        refine ⟨k + 1 + 1 + 1, ?_⟩
        rw [pleachref11_Pieces_p.l0, if_pos (by omega), hw8.out, if_pos (by omega), if_pos (by omega), if_pos (by omega), Int.toNat_natCast, Int.toNat_natCast, hst, ha]
        simp only
        rw [pleachref11_Pieces_p.j1, if_neg (by omega)]
        have hsz := pleachref11_Pieces.ext text own i h1 h2
        by_cases e : own < i
        · have e1 : out ++ delta_Pieces.own_ text own i = out ++ [⟨false, 0, ((text.extract own i).size : Int), text.extract own i⟩] := by
            unfold delta_Pieces.own_
            rw [if_pos e, hsz, show ((i - own : Nat) : Int) = (i : Int) - (own : Int) from by omega]
          rw [if_neg (fun z => by have := (pleachref11_Pieces.nil _).1 z; omega), if_pos (by omega), pleachref11_Pieces_p.j2, ← e1]
          exact hk
        · obtain rfl : own = i := by omega
          have e1 : out ++ delta_Pieces.own_ text own own = out := by unfold delta_Pieces.own_; rw [if_neg e, List.append_nil]
          rw [if_pos ((pleachref11_Pieces.nil _).2 (by omega)), pleachref11_Pieces_p.j2, pleachref11_Pieces.ext_nil]
          rw [e1] at hk
          exact hk
    · rw [if_neg hi] at h
      obtain rfl := Option.some.inj h
      exact pleachref11_Pieces.tail base text hb ht own out h3 _ i h1 h2 (by omega) rfl
theorem pleachref11_Pieces.ev (base text : ByteArray) (r : List S34) (h : pleachref11_Pieces.f base text = some r) : ∃ k, pleachref11_Pieces_p.f k base text = some r := by
  unfold pleachref11_Pieces.f delta_Pieces.f at h
  split at h
  case isFalse => cases h
  case isTrue hh =>
    have := pleachref11_Pieces.loop base text hh.1 hh.2 r _ 0 0 [] (Nat.le_refl _) (Nat.zero_le _) (Nat.le_refl _) h
    rw [pleachref11_Pieces.ext_nil] at this
    exact this
theorem pleachref11_Pieces.calls (a0 : ByteArray) (a1 : ByteArray) (r : List (S34)) (w : World) (h : pleachref11_Pieces.f a0 a1 = some r) :
    Calls Try.prog 8 #[.string a0, .string a1] w fun e w' => ∃ v0_ : Value, e = .returned (v0_) ∧ Kd.R k34 34 w' w.heap.size (fun _ => True) v0_ r ∧ Below w.heap.size w w' := by
  obtain ⟨k, hk⟩ := pleachref11_Pieces.ev _ _ _ h
  exact pleachref11_Pieces_p.calls (k := k) (w := w) (h := hk)

end Go.Proofs.Ytadpicphohobbaa.EDeltaPieces
