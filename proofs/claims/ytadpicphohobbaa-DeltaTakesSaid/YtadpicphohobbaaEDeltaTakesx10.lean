-- Written by this session's own program (wip/tools/ext.py) for this claim; Lean checks it.
import Derived.Test.YtadpicphohobbaaEDeltaTakesx0
import Derived.Test.YtadpicphohobbaaEDeltaTakesx2
import Derived.Test.YtadpicphohobbaaEDeltaTakesx5
import Derived.Test.YtadpicphohobbaaEDeltaTakesx8
import Derived.Test.YtadpicphohobbaaEDeltaTakesx9
namespace Go.Proofs.Ytadpicphohobbaa.EDeltaTakes
open Go.RowKit Go.Proofs.YtadpicphohobbaaW.PrintWords Go.Proofs.YtadpicphohobbaaW.PrintLast Go.Proofs.YtadpicphohobbaaW.PrintMore
attribute [local go_sem] M.run_leq M.run_gtr M.run_geq max2_int min2_int max_two min_two max_three min_three max_four min_four   -- for this text's walks alone
set_option linter.unusedVariables false
set_option linter.unusedSimpArgs false

/-! ### pleachlaw11_DeltaTakes: function 5 -/
def pleachlaw11_DeltaTakes.j0 : Nat → ByteArray → ByteArray → Bool → Option (Bool)
  | 0, _, _, _ => none
  | k + 1, x0, x1, x20 => if x20 = true then ((pleachlaw11_awake.f).bind fun t260 => (some t260)) else ((delta_Take.f x1).bind fun bt261 => ((pleachref11_Take.f x1).bind fun bt265 => ((delta_Apply.f x0 x1).bind fun bt269 => ((pleachref11_Apply.f x0 x1).bind fun bt271 => ((pleachref11_Same.f bt261.1 bt265.1).bind fun t273 => (if t273 = true then (if ((bt261.2 == 0) == bt265.2) = true then (if bt265.2 = true then (if bt269.1.toList = bt271.1.toList then (if bt269.2 = bt271.2 then ((pleachlaw11_awake.f).bind fun t274 => (some t274)) else (some false)) else (some false)) else (if bt261.2 = 3 then (if bt269.1.toList = bt271.1.toList then (if bt269.2 = bt271.2 then ((pleachlaw11_awake.f).bind fun t275 => (some t275)) else (some false)) else (some false)) else (some false))) else (some false)) else (some false)))))))
def pleachlaw11_DeltaTakes.f (k : Nat) (a0 : ByteArray) (a1 : ByteArray) : Option (Bool) := if (a0.size : Int) > 1000 then (pleachlaw11_DeltaTakes.j0 k a0 a1 true) else (pleachlaw11_DeltaTakes.j0 k a0 a1 (decide ((a1.size : Int) > 1000)))
theorem pleachlaw11_DeltaTakes.mono_l : ∀ k, (∀ y0 y1 y2, LeO (pleachlaw11_DeltaTakes.j0 k y0 y1 y2) (pleachlaw11_DeltaTakes.j0 (k + 1) y0 y1 y2))
  | 0 => fun _ _ _ r h => by simp [pleachlaw11_DeltaTakes.j0] at h
  | k + 1 => by
    have ih0 := pleachlaw11_DeltaTakes.mono_l k
    · intro y0 y1 y2
      unfold pleachlaw11_DeltaTakes.j0
      repeat' first
      | (with_reducible exact ih0 _ _ _)
      | (with_reducible exact LeO.refl _)
      | (with_reducible exact LeO.none _)
      | (with_reducible refine LeO.ite ?_ ?_)
      | (with_reducible refine LeO.bind ?_ (fun _ => ?_))
      | exact ih0 _ _ _
      | exact LeO.none _
      | refine LeO.ite ?_ ?_
      | refine LeO.bind ?_ (fun _ => ?_)
theorem pleachlaw11_DeltaTakes.mono : ∀ a0 a1 k, LeO (pleachlaw11_DeltaTakes.f k a0 a1) (pleachlaw11_DeltaTakes.f (k + 1) a0 a1) := by
  intro a0 a1 k
  have ih0 := pleachlaw11_DeltaTakes.mono_l k
  unfold pleachlaw11_DeltaTakes.f
  repeat' first
      | (with_reducible exact ih0 _ _ _)
      | (with_reducible exact LeO.refl _)
      | (with_reducible exact LeO.none _)
      | (with_reducible refine LeO.ite ?_ ?_)
      | (with_reducible refine LeO.bind ?_ (fun _ => ?_))
      | exact ih0 _ _ _
      | exact LeO.none _
      | refine LeO.ite ?_ ?_
      | refine LeO.bind ?_ (fun _ => ?_)
set_option maxHeartbeats 8000000 in
set_option maxRecDepth 100000 in
theorem pleachlaw11_DeltaTakes.calls (k : Nat) (a0 : ByteArray) (a1 : ByteArray) (r : Bool) (w : World) (h : pleachlaw11_DeltaTakes.f k a0 a1 = some r) :
    Calls Try.prog 5 #[.string a0, .string a1] w fun e w' => e = .returned (.bool r) ∧ Below w.heap.size w w' := by
  have HB := Aside0.mk (Below.refl w.heap.size w)
  have H : (if (a0.size : Int) > 1000 then (pleachlaw11_DeltaTakes.j0 k a0 a1 true) else (pleachlaw11_DeltaTakes.j0 k a0 a1 (decide ((a1.size : Int) > 1000)))) = some r := h
  clear h
  have HC3 := Aside0.mk H
  clear H
  go_enter Try.func5, Try.ntmps5
  go_upto_region 1 with (fail)
  go_cut [20] (fun v20 wc => ∃ (kq : Nat) (x20_2 : Bool), v20 = .bool x20_2 ∧ Aside0 (pleachlaw11_DeltaTakes.j0 kq a0 a1 x20_2 = some r) ∧ Aside0 (kq ≤ k) ∧ Aside0 (Below w.heap.size w wc))
  case first =>
    have H := HC3.out
    clear HC3
    by_cases c4 : (a0.size : Int) > 1000
    · rw [if_pos c4] at H
      have c4b0 : decide (1000 < (a0.size : Int)) = true := decide_eq_true c4
      have c4b1 : decide (1000 < a0.size) = true := decide_eq_true (by omega)
      clear c4
      (first | rw [c4b0] | (simp only [i64_w, i32_w]; rw [c4b0]) | skip)
      have H' := Aside0.mk H
      clear H
      go_wp2
      go_meet
      case rel => exact ⟨_, (true), (by first | rfl | (simp; done) | (simp [*]; done) | (simp [M.isEmpty_bne]; done)), H', ⟨by first | omega | exact Nat.le_refl _⟩, ⟨M.up HB⟩⟩
    · rw [if_neg c4] at H
      have c4b0 : decide (1000 < (a0.size : Int)) = false := decide_eq_false c4
      have c4b1 : decide (1000 < a0.size) = false := decide_eq_false (by omega)
      clear c4
      (first | rw [c4b0] | (simp only [i64_w, i32_w]; rw [c4b0]) | skip)
      have H' := Aside0.mk H
      clear H
      go_wp2
      go_meet
      case rel => exact ⟨_, (decide ((a1.size : Int) > 1000)), (by first | rfl | (simp; done) | (simp [*]; done) | (simp [M.isEmpty_bne]; done)), H', ⟨by first | omega | exact Nat.le_refl _⟩, ⟨M.up HB⟩⟩
  case rest =>
    clear HC3
    try clear p2
    try clear c4
    try clear c4b0
    try clear c4b1
    obtain ⟨kq, x20_2, rfl, HA, HJ2, HB⟩ := hcut
    cases kq with
    | zero => exact absurd HA.out (by simp [pleachlaw11_DeltaTakes.j0])
    | succ kj2 =>
      have H := HA.out
      clear HA
      simp only [pleachlaw11_DeltaTakes.j0] at H
      by_cases c5 : x20_2 = true
      · subst c5
        have H1 : ((pleachlaw11_awake.f).bind fun t260 => (some t260)) = some r := by rw [if_pos rfl] at H; exact H
        clear H
        have H := H1
        clear H1
        replace H := Option.bind_eq_some_iff.mp H
        obtain ⟨t260, A60, H⟩ := H
        replace H : (some t260) = some r := H
        have A6 := Aside0.mk A60
        clear A60
        obtain rfl := Option.some.inj H
        go_wp2_with (first | ((with_reducible refine gate_callee (f := 7) rfl ?_); refine M.goes (some 21) Try.func7 #[] rfl ?_; (with_reducible refine (pleachlaw11_awake.calls  t260 _ A6.out).mono ?_); rintro e w7 ⟨rfl, hb⟩; refine ⟨_, rfl, ?_⟩; have n0_ := M.upS HB hb; clear HB; have HB := n0_; clear n0_; (try clear hb)))
        go_ret
        exact M.fin (M.up HB)
      · replace c5 := Bool.eq_false_iff.mpr c5
        subst c5
        have H1 : ((delta_Take.f a1).bind fun bt261 => ((pleachref11_Take.f a1).bind fun bt265 => ((delta_Apply.f a0 a1).bind fun bt269 => ((pleachref11_Apply.f a0 a1).bind fun bt271 => ((pleachref11_Same.f bt261.1 bt265.1).bind fun t273 => (if t273 = true then (if ((bt261.2 == 0) == bt265.2) = true then (if bt265.2 = true then (if bt269.1.toList = bt271.1.toList then (if bt269.2 = bt271.2 then ((pleachlaw11_awake.f).bind fun t274 => (some t274)) else (some false)) else (some false)) else (if bt261.2 = 3 then (if bt269.1.toList = bt271.1.toList then (if bt269.2 = bt271.2 then ((pleachlaw11_awake.f).bind fun t275 => (some t275)) else (some false)) else (some false)) else (some false))) else (some false)) else (some false))))))) = some r := by rw [if_neg (show ¬ (false = true) by decide)] at H; exact H
        clear H
        have H := H1
        clear H1
        replace H := Option.bind_eq_some_iff.mp H
        obtain ⟨⟨t261, t262⟩, A80, H⟩ := H
        replace H : ((pleachref11_Take.f a1).bind fun bt265 => ((delta_Apply.f a0 a1).bind fun bt269 => ((pleachref11_Apply.f a0 a1).bind fun bt271 => ((pleachref11_Same.f t261 bt265.1).bind fun t273 => (if t273 = true then (if ((t262 == 0) == bt265.2) = true then (if bt265.2 = true then (if bt269.1.toList = bt271.1.toList then (if bt269.2 = bt271.2 then ((pleachlaw11_awake.f).bind fun t274 => (some t274)) else (some false)) else (some false)) else (if t262 = 3 then (if bt269.1.toList = bt271.1.toList then (if bt269.2 = bt271.2 then ((pleachlaw11_awake.f).bind fun t275 => (some t275)) else (some false)) else (some false)) else (some false))) else (some false)) else (some false)))))) = some r := H
        have A8 := Aside0.mk A80
        clear A80
        replace H := Option.bind_eq_some_iff.mp H
        obtain ⟨⟨t265, t266⟩, A90, H⟩ := H
        replace H : ((delta_Apply.f a0 a1).bind fun bt269 => ((pleachref11_Apply.f a0 a1).bind fun bt271 => ((pleachref11_Same.f t261 t265).bind fun t273 => (if t273 = true then (if ((t262 == 0) == t266) = true then (if t266 = true then (if bt269.1.toList = bt271.1.toList then (if bt269.2 = bt271.2 then ((pleachlaw11_awake.f).bind fun t274 => (some t274)) else (some false)) else (some false)) else (if t262 = 3 then (if bt269.1.toList = bt271.1.toList then (if bt269.2 = bt271.2 then ((pleachlaw11_awake.f).bind fun t275 => (some t275)) else (some false)) else (some false)) else (some false))) else (some false)) else (some false))))) = some r := H
        have A9 := Aside0.mk A90
        clear A90
        replace H := Option.bind_eq_some_iff.mp H
        obtain ⟨⟨t269, t270⟩, A100, H⟩ := H
        replace H : ((pleachref11_Apply.f a0 a1).bind fun bt271 => ((pleachref11_Same.f t261 t265).bind fun t273 => (if t273 = true then (if ((t262 == 0) == t266) = true then (if t266 = true then (if t269.toList = bt271.1.toList then (if t270 = bt271.2 then ((pleachlaw11_awake.f).bind fun t274 => (some t274)) else (some false)) else (some false)) else (if t262 = 3 then (if t269.toList = bt271.1.toList then (if t270 = bt271.2 then ((pleachlaw11_awake.f).bind fun t275 => (some t275)) else (some false)) else (some false)) else (some false))) else (some false)) else (some false)))) = some r := H
        have A10 := Aside0.mk A100
        clear A100
        replace H := Option.bind_eq_some_iff.mp H
        obtain ⟨⟨t271, t272⟩, A110, H⟩ := H
        replace H : ((pleachref11_Same.f t261 t265).bind fun t273 => (if t273 = true then (if ((t262 == 0) == t266) = true then (if t266 = true then (if t269.toList = t271.toList then (if t270 = t272 then ((pleachlaw11_awake.f).bind fun t274 => (some t274)) else (some false)) else (some false)) else (if t262 = 3 then (if t269.toList = t271.toList then (if t270 = t272 then ((pleachlaw11_awake.f).bind fun t275 => (some t275)) else (some false)) else (some false)) else (some false))) else (some false)) else (some false))) = some r := H
        have A11 := Aside0.mk A110
        clear A110
        replace H := Option.bind_eq_some_iff.mp H
        obtain ⟨t273, A120, H⟩ := H
        replace H : (if t273 = true then (if ((t262 == 0) == t266) = true then (if t266 = true then (if t269.toList = t271.toList then (if t270 = t272 then ((pleachlaw11_awake.f).bind fun t274 => (some t274)) else (some false)) else (some false)) else (if t262 = 3 then (if t269.toList = t271.toList then (if t270 = t272 then ((pleachlaw11_awake.f).bind fun t275 => (some t275)) else (some false)) else (some false)) else (some false))) else (some false)) else (some false)) = some r := H
        have A12 := Aside0.mk A120
        clear A120
        by_cases c13 : t273 = true
        · subst c13
          have H1 : (if ((t262 == 0) == t266) = true then (if t266 = true then (if t269.toList = t271.toList then (if t270 = t272 then ((pleachlaw11_awake.f).bind fun t274 => (some t274)) else (some false)) else (some false)) else (if t262 = 3 then (if t269.toList = t271.toList then (if t270 = t272 then ((pleachlaw11_awake.f).bind fun t275 => (some t275)) else (some false)) else (some false)) else (some false))) else (some false)) = some r := by rw [if_pos rfl] at H; exact H
          clear H
          have H := H1
          clear H1
          by_cases c14 : ((t262 == 0) == t266) = true
          · rw [if_pos c14] at H
            have c14b0 : ((t262 == 0) == t266) = true := c14
            (try (have c14b1 : decide ((t262 == 0) = t266) = true := by simpa using c14))
            (try (have c14b2 : ((t262 == 0) == t266) = true := by simpa using c14))
            clear c14
            by_cases c15 : t266 = true
            · subst c15
              have H1 : (if t269.toList = t271.toList then (if t270 = t272 then ((pleachlaw11_awake.f).bind fun t274 => (some t274)) else (some false)) else (some false)) = some r := by rw [if_pos rfl] at H; exact H
              clear H
              have H := H1
              clear H1
              by_cases c16 : t269.toList = t271.toList
              · rw [if_pos c16] at H
                have c16b0 : (t269.toList == t271.toList) = true := beq_iff_eq.mpr c16
                have c16b1 : (t269.toList != t271.toList) = false := bne_eq_false_iff_eq.mpr c16
                clear c16
                by_cases c17 : t270 = t272
                · rw [if_pos c17] at H
                  have c17b0 : (t270 == t272) = true := beq_iff_eq.mpr c17
                  have c17b1 : (t270 != t272) = false := bne_eq_false_iff_eq.mpr c17
                  clear c17
                  replace H := Option.bind_eq_some_iff.mp H
                  obtain ⟨t274, A180, H⟩ := H
                  replace H : (some t274) = some r := H
                  have A18 := Aside0.mk A180
                  clear A180
                  obtain rfl := Option.some.inj H
                  go_wp2_with (first | ((with_reducible refine gate_callee (f := 19) rfl ?_); refine M.goes (some 24) Try.func19 #[.string a1] rfl ?_; (with_reducible refine (delta_Take.calls a1 t261 t262 _ A8.out).mono ?_); rintro e w19 ⟨v263, rfl, ho0, hb⟩; refine ⟨_, rfl, ?_⟩; have n0_ := Aside0.mk (Kd.R_lower ho0 (below_size (M.up HB))); have n1_ := M.upS HB hb; clear HB; have HO264 := n0_; have HB := n1_; clear n0_ n1_; (try clear hb); (try clear ho0)) | ((with_reducible refine gate_callee (f := 20) rfl ?_); refine M.goes (some 29) Try.func20 #[.string a1] rfl ?_; (with_reducible refine (pleachref11_Take.calls a1 t265 true _ A9.out).mono ?_); rintro e w20 ⟨v267, rfl, ho0, hb⟩; refine ⟨_, rfl, ?_⟩; have n0_ := Aside0.mk (Kd.R_elder' (M.ro HO264) (Kd.R_base ho0) hb); have n1_ := Aside0.mk (Kd.R_lower (Kd.R_new' ho0 (Kd.R_lt (M.ro HO264))) (below_size (M.up HB))); have n2_ := M.upS HB hb; clear HO264 HB; have HO264 := n0_; have HO268 := n1_; have HB := n2_; clear n0_ n1_ n2_; (try clear hb); (try clear ho0)) | ((with_reducible refine gate_callee (f := 21) rfl ?_); refine M.goes (some 35) Try.func21 #[.string a0, .string a1] rfl ?_; (with_reducible refine (delta_Apply.calls a0 a1 t269 t270 _ A10.out).mono ?_); rintro e w21 ⟨rfl, hb⟩; refine ⟨_, rfl, ?_⟩; have n0_ := M.roB HO264 hb; have n1_ := M.roB HO268 hb; have n2_ := M.upS HB hb; clear HO264 HO268 HB; have HO264 := n0_; have HO268 := n1_; have HB := n2_; clear n0_ n1_ n2_; (try clear hb)) | ((with_reducible refine gate_callee (f := 22) rfl ?_); refine M.goes (some 41) Try.func22 #[.string a0, .string a1] rfl ?_; (with_reducible refine (pleachref11_Apply.calls a0 a1 t271 t272 _ A11.out).mono ?_); rintro e w22 ⟨rfl, hb⟩; refine ⟨_, rfl, ?_⟩; have n0_ := M.roB HO264 hb; have n1_ := M.roB HO268 hb; have n2_ := M.upS HB hb; clear HO264 HO268 HB; have HO264 := n0_; have HO268 := n1_; have HB := n2_; clear n0_ n1_ n2_; (try clear hb); obtain ⟨Ao23, co23, eo23⟩ := Kd.R_slice HO264.out; subst eo23; obtain ⟨Ao24, co24, eo24⟩ := Kd.R_slice HO268.out; subst eo24) | ((with_reducible refine gate_callee (f := 11) rfl ?_); refine M.goes (some 46) Try.func11 #[.slice Ao23 t261.length co23, .slice Ao24 t265.length co24] rfl ?_; (with_reducible refine (pleachref11_Same.calls _ _ t261 _ _ t265 true _ ?side1 ?side2 ?side3 ?side4 A12.out).mono ?_); (case side1 => repeat (first | exact (Kd.R_reads' HO264.out).2.2 | (with_reducible refine Kd.C_alloc ?_ _) | (with_reducible refine Kd.C_drewN ?_ _) | (with_reducible refine Kd.C_drew ?_))); (case side2 => exact (Kd.R_reads' HO264.out).2.1); (case side3 => repeat (first | exact (Kd.R_reads' HO268.out).2.2 | (with_reducible refine Kd.C_alloc ?_ _) | (with_reducible refine Kd.C_drewN ?_ _) | (with_reducible refine Kd.C_drew ?_))); (case side4 => exact (Kd.R_reads' HO268.out).2.1); rintro e w' ⟨rfl, ⟨nd, rfl⟩⟩; refine ⟨_, rfl, ?_⟩) | (go_at_call 7; (with_reducible refine (pleachlaw11_awake.calls  t274 _ A18.out).mono ?_); rintro e w25 ⟨rfl, hb⟩; have n0_ := M.roB HO264 hb; have n1_ := M.roB HO268 hb; have n2_ := M.upS HB hb; clear HO264 HO268 HB; have HO264 := n0_; have HO268 := n1_; have HB := n2_; clear n0_ n1_ n2_; (try clear hb); (try clear hb2); (try clear hk); (try clear hi)))
                  go_ret
                  exact M.fin (M.up HB)
                · rw [if_neg c17] at H
                  have c17b0 : (t270 == t272) = false := beq_eq_false_iff_ne.mpr c17
                  have c17b1 : (t270 != t272) = true := bne_iff_ne.mpr c17
                  obtain rfl := Option.some.inj H
                  go_wp2_with (first | ((with_reducible refine gate_callee (f := 19) rfl ?_); refine M.goes (some 24) Try.func19 #[.string a1] rfl ?_; (with_reducible refine (delta_Take.calls a1 t261 t262 _ A8.out).mono ?_); rintro e w26 ⟨v263, rfl, ho0, hb⟩; refine ⟨_, rfl, ?_⟩; have n0_ := Aside0.mk (Kd.R_lower ho0 (below_size (M.up HB))); have n1_ := M.upS HB hb; clear HB; have HO264 := n0_; have HB := n1_; clear n0_ n1_; (try clear hb); (try clear ho0)) | ((with_reducible refine gate_callee (f := 20) rfl ?_); refine M.goes (some 29) Try.func20 #[.string a1] rfl ?_; (with_reducible refine (pleachref11_Take.calls a1 t265 true _ A9.out).mono ?_); rintro e w27 ⟨v267, rfl, ho0, hb⟩; refine ⟨_, rfl, ?_⟩; have n0_ := Aside0.mk (Kd.R_elder' (M.ro HO264) (Kd.R_base ho0) hb); have n1_ := Aside0.mk (Kd.R_lower (Kd.R_new' ho0 (Kd.R_lt (M.ro HO264))) (below_size (M.up HB))); have n2_ := M.upS HB hb; clear HO264 HB; have HO264 := n0_; have HO268 := n1_; have HB := n2_; clear n0_ n1_ n2_; (try clear hb); (try clear ho0)) | ((with_reducible refine gate_callee (f := 21) rfl ?_); refine M.goes (some 35) Try.func21 #[.string a0, .string a1] rfl ?_; (with_reducible refine (delta_Apply.calls a0 a1 t269 t270 _ A10.out).mono ?_); rintro e w28 ⟨rfl, hb⟩; refine ⟨_, rfl, ?_⟩; have n0_ := M.roB HO264 hb; have n1_ := M.roB HO268 hb; have n2_ := M.upS HB hb; clear HO264 HO268 HB; have HO264 := n0_; have HO268 := n1_; have HB := n2_; clear n0_ n1_ n2_; (try clear hb)) | ((with_reducible refine gate_callee (f := 22) rfl ?_); refine M.goes (some 41) Try.func22 #[.string a0, .string a1] rfl ?_; (with_reducible refine (pleachref11_Apply.calls a0 a1 t271 t272 _ A11.out).mono ?_); rintro e w29 ⟨rfl, hb⟩; refine ⟨_, rfl, ?_⟩; have n0_ := M.roB HO264 hb; have n1_ := M.roB HO268 hb; have n2_ := M.upS HB hb; clear HO264 HO268 HB; have HO264 := n0_; have HO268 := n1_; have HB := n2_; clear n0_ n1_ n2_; (try clear hb); obtain ⟨Ao30, co30, eo30⟩ := Kd.R_slice HO264.out; subst eo30; obtain ⟨Ao31, co31, eo31⟩ := Kd.R_slice HO268.out; subst eo31) | ((with_reducible refine gate_callee (f := 11) rfl ?_); refine M.goes (some 46) Try.func11 #[.slice Ao30 t261.length co30, .slice Ao31 t265.length co31] rfl ?_; (with_reducible refine (pleachref11_Same.calls _ _ t261 _ _ t265 true _ ?side1 ?side2 ?side3 ?side4 A12.out).mono ?_); (case side1 => repeat (first | exact (Kd.R_reads' HO264.out).2.2 | (with_reducible refine Kd.C_alloc ?_ _) | (with_reducible refine Kd.C_drewN ?_ _) | (with_reducible refine Kd.C_drew ?_))); (case side2 => exact (Kd.R_reads' HO264.out).2.1); (case side3 => repeat (first | exact (Kd.R_reads' HO268.out).2.2 | (with_reducible refine Kd.C_alloc ?_ _) | (with_reducible refine Kd.C_drewN ?_ _) | (with_reducible refine Kd.C_drew ?_))); (case side4 => exact (Kd.R_reads' HO268.out).2.1); rintro e w' ⟨rfl, ⟨nd, rfl⟩⟩; refine ⟨_, rfl, ?_⟩))
                  go_ret
                  exact M.fin (M.up HB)
              · rw [if_neg c16] at H
                have c16b0 : (t269.toList == t271.toList) = false := beq_eq_false_iff_ne.mpr c16
                have c16b1 : (t269.toList != t271.toList) = true := bne_iff_ne.mpr c16
                obtain rfl := Option.some.inj H
                go_wp2_with (first | ((with_reducible refine gate_callee (f := 19) rfl ?_); refine M.goes (some 24) Try.func19 #[.string a1] rfl ?_; (with_reducible refine (delta_Take.calls a1 t261 t262 _ A8.out).mono ?_); rintro e w32 ⟨v263, rfl, ho0, hb⟩; refine ⟨_, rfl, ?_⟩; have n0_ := Aside0.mk (Kd.R_lower ho0 (below_size (M.up HB))); have n1_ := M.upS HB hb; clear HB; have HO264 := n0_; have HB := n1_; clear n0_ n1_; (try clear hb); (try clear ho0)) | ((with_reducible refine gate_callee (f := 20) rfl ?_); refine M.goes (some 29) Try.func20 #[.string a1] rfl ?_; (with_reducible refine (pleachref11_Take.calls a1 t265 true _ A9.out).mono ?_); rintro e w33 ⟨v267, rfl, ho0, hb⟩; refine ⟨_, rfl, ?_⟩; have n0_ := Aside0.mk (Kd.R_elder' (M.ro HO264) (Kd.R_base ho0) hb); have n1_ := Aside0.mk (Kd.R_lower (Kd.R_new' ho0 (Kd.R_lt (M.ro HO264))) (below_size (M.up HB))); have n2_ := M.upS HB hb; clear HO264 HB; have HO264 := n0_; have HO268 := n1_; have HB := n2_; clear n0_ n1_ n2_; (try clear hb); (try clear ho0)) | ((with_reducible refine gate_callee (f := 21) rfl ?_); refine M.goes (some 35) Try.func21 #[.string a0, .string a1] rfl ?_; (with_reducible refine (delta_Apply.calls a0 a1 t269 t270 _ A10.out).mono ?_); rintro e w34 ⟨rfl, hb⟩; refine ⟨_, rfl, ?_⟩; have n0_ := M.roB HO264 hb; have n1_ := M.roB HO268 hb; have n2_ := M.upS HB hb; clear HO264 HO268 HB; have HO264 := n0_; have HO268 := n1_; have HB := n2_; clear n0_ n1_ n2_; (try clear hb)) | ((with_reducible refine gate_callee (f := 22) rfl ?_); refine M.goes (some 41) Try.func22 #[.string a0, .string a1] rfl ?_; (with_reducible refine (pleachref11_Apply.calls a0 a1 t271 t272 _ A11.out).mono ?_); rintro e w35 ⟨rfl, hb⟩; refine ⟨_, rfl, ?_⟩; have n0_ := M.roB HO264 hb; have n1_ := M.roB HO268 hb; have n2_ := M.upS HB hb; clear HO264 HO268 HB; have HO264 := n0_; have HO268 := n1_; have HB := n2_; clear n0_ n1_ n2_; (try clear hb); obtain ⟨Ao36, co36, eo36⟩ := Kd.R_slice HO264.out; subst eo36; obtain ⟨Ao37, co37, eo37⟩ := Kd.R_slice HO268.out; subst eo37) | ((with_reducible refine gate_callee (f := 11) rfl ?_); refine M.goes (some 46) Try.func11 #[.slice Ao36 t261.length co36, .slice Ao37 t265.length co37] rfl ?_; (with_reducible refine (pleachref11_Same.calls _ _ t261 _ _ t265 true _ ?side1 ?side2 ?side3 ?side4 A12.out).mono ?_); (case side1 => repeat (first | exact (Kd.R_reads' HO264.out).2.2 | (with_reducible refine Kd.C_alloc ?_ _) | (with_reducible refine Kd.C_drewN ?_ _) | (with_reducible refine Kd.C_drew ?_))); (case side2 => exact (Kd.R_reads' HO264.out).2.1); (case side3 => repeat (first | exact (Kd.R_reads' HO268.out).2.2 | (with_reducible refine Kd.C_alloc ?_ _) | (with_reducible refine Kd.C_drewN ?_ _) | (with_reducible refine Kd.C_drew ?_))); (case side4 => exact (Kd.R_reads' HO268.out).2.1); rintro e w' ⟨rfl, ⟨nd, rfl⟩⟩; refine ⟨_, rfl, ?_⟩))
                go_ret
                exact M.fin (M.up HB)
            · replace c15 := Bool.eq_false_iff.mpr c15
              subst c15
              have H1 : (if t262 = 3 then (if t269.toList = t271.toList then (if t270 = t272 then ((pleachlaw11_awake.f).bind fun t275 => (some t275)) else (some false)) else (some false)) else (some false)) = some r := by rw [if_neg (show ¬ (false = true) by decide)] at H; exact H
              clear H
              have H := H1
              clear H1
              by_cases c38 : t262 = 3
              · rw [if_pos c38] at H
                have c38b0 : (t262 == 3) = true := beq_iff_eq.mpr c38
                have c38b1 : (t262 != 3) = false := bne_eq_false_iff_eq.mpr c38
                clear c38
                by_cases c39 : t269.toList = t271.toList
                · rw [if_pos c39] at H
                  have c39b0 : (t269.toList == t271.toList) = true := beq_iff_eq.mpr c39
                  have c39b1 : (t269.toList != t271.toList) = false := bne_eq_false_iff_eq.mpr c39
                  clear c39
                  by_cases c40 : t270 = t272
                  · rw [if_pos c40] at H
                    have c40b0 : (t270 == t272) = true := beq_iff_eq.mpr c40
                    have c40b1 : (t270 != t272) = false := bne_eq_false_iff_eq.mpr c40
                    clear c40
                    replace H := Option.bind_eq_some_iff.mp H
                    obtain ⟨t275, A410, H⟩ := H
                    replace H : (some t275) = some r := H
                    have A41 := Aside0.mk A410
                    clear A410
                    obtain rfl := Option.some.inj H
                    go_wp2_with (first | ((with_reducible refine gate_callee (f := 19) rfl ?_); refine M.goes (some 24) Try.func19 #[.string a1] rfl ?_; (with_reducible refine (delta_Take.calls a1 t261 t262 _ A8.out).mono ?_); rintro e w42 ⟨v263, rfl, ho0, hb⟩; refine ⟨_, rfl, ?_⟩; have n0_ := Aside0.mk (Kd.R_lower ho0 (below_size (M.up HB))); have n1_ := M.upS HB hb; clear HB; have HO264 := n0_; have HB := n1_; clear n0_ n1_; (try clear hb); (try clear ho0)) | ((with_reducible refine gate_callee (f := 20) rfl ?_); refine M.goes (some 29) Try.func20 #[.string a1] rfl ?_; (with_reducible refine (pleachref11_Take.calls a1 t265 false _ A9.out).mono ?_); rintro e w43 ⟨v267, rfl, ho0, hb⟩; refine ⟨_, rfl, ?_⟩; have n0_ := Aside0.mk (Kd.R_elder' (M.ro HO264) (Kd.R_base ho0) hb); have n1_ := Aside0.mk (Kd.R_lower (Kd.R_new' ho0 (Kd.R_lt (M.ro HO264))) (below_size (M.up HB))); have n2_ := M.upS HB hb; clear HO264 HB; have HO264 := n0_; have HO268 := n1_; have HB := n2_; clear n0_ n1_ n2_; (try clear hb); (try clear ho0)) | ((with_reducible refine gate_callee (f := 21) rfl ?_); refine M.goes (some 35) Try.func21 #[.string a0, .string a1] rfl ?_; (with_reducible refine (delta_Apply.calls a0 a1 t269 t270 _ A10.out).mono ?_); rintro e w44 ⟨rfl, hb⟩; refine ⟨_, rfl, ?_⟩; have n0_ := M.roB HO264 hb; have n1_ := M.roB HO268 hb; have n2_ := M.upS HB hb; clear HO264 HO268 HB; have HO264 := n0_; have HO268 := n1_; have HB := n2_; clear n0_ n1_ n2_; (try clear hb)) | ((with_reducible refine gate_callee (f := 22) rfl ?_); refine M.goes (some 41) Try.func22 #[.string a0, .string a1] rfl ?_; (with_reducible refine (pleachref11_Apply.calls a0 a1 t271 t272 _ A11.out).mono ?_); rintro e w45 ⟨rfl, hb⟩; refine ⟨_, rfl, ?_⟩; have n0_ := M.roB HO264 hb; have n1_ := M.roB HO268 hb; have n2_ := M.upS HB hb; clear HO264 HO268 HB; have HO264 := n0_; have HO268 := n1_; have HB := n2_; clear n0_ n1_ n2_; (try clear hb); obtain ⟨Ao46, co46, eo46⟩ := Kd.R_slice HO264.out; subst eo46; obtain ⟨Ao47, co47, eo47⟩ := Kd.R_slice HO268.out; subst eo47) | ((with_reducible refine gate_callee (f := 11) rfl ?_); refine M.goes (some 46) Try.func11 #[.slice Ao46 t261.length co46, .slice Ao47 t265.length co47] rfl ?_; (with_reducible refine (pleachref11_Same.calls _ _ t261 _ _ t265 true _ ?side1 ?side2 ?side3 ?side4 A12.out).mono ?_); (case side1 => repeat (first | exact (Kd.R_reads' HO264.out).2.2 | (with_reducible refine Kd.C_alloc ?_ _) | (with_reducible refine Kd.C_drewN ?_ _) | (with_reducible refine Kd.C_drew ?_))); (case side2 => exact (Kd.R_reads' HO264.out).2.1); (case side3 => repeat (first | exact (Kd.R_reads' HO268.out).2.2 | (with_reducible refine Kd.C_alloc ?_ _) | (with_reducible refine Kd.C_drewN ?_ _) | (with_reducible refine Kd.C_drew ?_))); (case side4 => exact (Kd.R_reads' HO268.out).2.1); rintro e w' ⟨rfl, ⟨nd, rfl⟩⟩; refine ⟨_, rfl, ?_⟩) | (go_at_call 7; (with_reducible refine (pleachlaw11_awake.calls  t275 _ A41.out).mono ?_); rintro e w48 ⟨rfl, hb⟩; have n0_ := M.roB HO264 hb; have n1_ := M.roB HO268 hb; have n2_ := M.upS HB hb; clear HO264 HO268 HB; have HO264 := n0_; have HO268 := n1_; have HB := n2_; clear n0_ n1_ n2_; (try clear hb); (try clear hb2); (try clear hk); (try clear hi)))
                    go_ret
                    exact M.fin (M.up HB)
                  · rw [if_neg c40] at H
                    have c40b0 : (t270 == t272) = false := beq_eq_false_iff_ne.mpr c40
                    have c40b1 : (t270 != t272) = true := bne_iff_ne.mpr c40
                    obtain rfl := Option.some.inj H
                    go_wp2_with (first | ((with_reducible refine gate_callee (f := 19) rfl ?_); refine M.goes (some 24) Try.func19 #[.string a1] rfl ?_; (with_reducible refine (delta_Take.calls a1 t261 t262 _ A8.out).mono ?_); rintro e w49 ⟨v263, rfl, ho0, hb⟩; refine ⟨_, rfl, ?_⟩; have n0_ := Aside0.mk (Kd.R_lower ho0 (below_size (M.up HB))); have n1_ := M.upS HB hb; clear HB; have HO264 := n0_; have HB := n1_; clear n0_ n1_; (try clear hb); (try clear ho0)) | ((with_reducible refine gate_callee (f := 20) rfl ?_); refine M.goes (some 29) Try.func20 #[.string a1] rfl ?_; (with_reducible refine (pleachref11_Take.calls a1 t265 false _ A9.out).mono ?_); rintro e w50 ⟨v267, rfl, ho0, hb⟩; refine ⟨_, rfl, ?_⟩; have n0_ := Aside0.mk (Kd.R_elder' (M.ro HO264) (Kd.R_base ho0) hb); have n1_ := Aside0.mk (Kd.R_lower (Kd.R_new' ho0 (Kd.R_lt (M.ro HO264))) (below_size (M.up HB))); have n2_ := M.upS HB hb; clear HO264 HB; have HO264 := n0_; have HO268 := n1_; have HB := n2_; clear n0_ n1_ n2_; (try clear hb); (try clear ho0)) | ((with_reducible refine gate_callee (f := 21) rfl ?_); refine M.goes (some 35) Try.func21 #[.string a0, .string a1] rfl ?_; (with_reducible refine (delta_Apply.calls a0 a1 t269 t270 _ A10.out).mono ?_); rintro e w51 ⟨rfl, hb⟩; refine ⟨_, rfl, ?_⟩; have n0_ := M.roB HO264 hb; have n1_ := M.roB HO268 hb; have n2_ := M.upS HB hb; clear HO264 HO268 HB; have HO264 := n0_; have HO268 := n1_; have HB := n2_; clear n0_ n1_ n2_; (try clear hb)) | ((with_reducible refine gate_callee (f := 22) rfl ?_); refine M.goes (some 41) Try.func22 #[.string a0, .string a1] rfl ?_; (with_reducible refine (pleachref11_Apply.calls a0 a1 t271 t272 _ A11.out).mono ?_); rintro e w52 ⟨rfl, hb⟩; refine ⟨_, rfl, ?_⟩; have n0_ := M.roB HO264 hb; have n1_ := M.roB HO268 hb; have n2_ := M.upS HB hb; clear HO264 HO268 HB; have HO264 := n0_; have HO268 := n1_; have HB := n2_; clear n0_ n1_ n2_; (try clear hb); obtain ⟨Ao53, co53, eo53⟩ := Kd.R_slice HO264.out; subst eo53; obtain ⟨Ao54, co54, eo54⟩ := Kd.R_slice HO268.out; subst eo54) | ((with_reducible refine gate_callee (f := 11) rfl ?_); refine M.goes (some 46) Try.func11 #[.slice Ao53 t261.length co53, .slice Ao54 t265.length co54] rfl ?_; (with_reducible refine (pleachref11_Same.calls _ _ t261 _ _ t265 true _ ?side1 ?side2 ?side3 ?side4 A12.out).mono ?_); (case side1 => repeat (first | exact (Kd.R_reads' HO264.out).2.2 | (with_reducible refine Kd.C_alloc ?_ _) | (with_reducible refine Kd.C_drewN ?_ _) | (with_reducible refine Kd.C_drew ?_))); (case side2 => exact (Kd.R_reads' HO264.out).2.1); (case side3 => repeat (first | exact (Kd.R_reads' HO268.out).2.2 | (with_reducible refine Kd.C_alloc ?_ _) | (with_reducible refine Kd.C_drewN ?_ _) | (with_reducible refine Kd.C_drew ?_))); (case side4 => exact (Kd.R_reads' HO268.out).2.1); rintro e w' ⟨rfl, ⟨nd, rfl⟩⟩; refine ⟨_, rfl, ?_⟩))
                    go_ret
                    exact M.fin (M.up HB)
                · rw [if_neg c39] at H
                  have c39b0 : (t269.toList == t271.toList) = false := beq_eq_false_iff_ne.mpr c39
                  have c39b1 : (t269.toList != t271.toList) = true := bne_iff_ne.mpr c39
                  obtain rfl := Option.some.inj H
                  go_wp2_with (first | ((with_reducible refine gate_callee (f := 19) rfl ?_); refine M.goes (some 24) Try.func19 #[.string a1] rfl ?_; (with_reducible refine (delta_Take.calls a1 t261 t262 _ A8.out).mono ?_); rintro e w55 ⟨v263, rfl, ho0, hb⟩; refine ⟨_, rfl, ?_⟩; have n0_ := Aside0.mk (Kd.R_lower ho0 (below_size (M.up HB))); have n1_ := M.upS HB hb; clear HB; have HO264 := n0_; have HB := n1_; clear n0_ n1_; (try clear hb); (try clear ho0)) | ((with_reducible refine gate_callee (f := 20) rfl ?_); refine M.goes (some 29) Try.func20 #[.string a1] rfl ?_; (with_reducible refine (pleachref11_Take.calls a1 t265 false _ A9.out).mono ?_); rintro e w56 ⟨v267, rfl, ho0, hb⟩; refine ⟨_, rfl, ?_⟩; have n0_ := Aside0.mk (Kd.R_elder' (M.ro HO264) (Kd.R_base ho0) hb); have n1_ := Aside0.mk (Kd.R_lower (Kd.R_new' ho0 (Kd.R_lt (M.ro HO264))) (below_size (M.up HB))); have n2_ := M.upS HB hb; clear HO264 HB; have HO264 := n0_; have HO268 := n1_; have HB := n2_; clear n0_ n1_ n2_; (try clear hb); (try clear ho0)) | ((with_reducible refine gate_callee (f := 21) rfl ?_); refine M.goes (some 35) Try.func21 #[.string a0, .string a1] rfl ?_; (with_reducible refine (delta_Apply.calls a0 a1 t269 t270 _ A10.out).mono ?_); rintro e w57 ⟨rfl, hb⟩; refine ⟨_, rfl, ?_⟩; have n0_ := M.roB HO264 hb; have n1_ := M.roB HO268 hb; have n2_ := M.upS HB hb; clear HO264 HO268 HB; have HO264 := n0_; have HO268 := n1_; have HB := n2_; clear n0_ n1_ n2_; (try clear hb)) | ((with_reducible refine gate_callee (f := 22) rfl ?_); refine M.goes (some 41) Try.func22 #[.string a0, .string a1] rfl ?_; (with_reducible refine (pleachref11_Apply.calls a0 a1 t271 t272 _ A11.out).mono ?_); rintro e w58 ⟨rfl, hb⟩; refine ⟨_, rfl, ?_⟩; have n0_ := M.roB HO264 hb; have n1_ := M.roB HO268 hb; have n2_ := M.upS HB hb; clear HO264 HO268 HB; have HO264 := n0_; have HO268 := n1_; have HB := n2_; clear n0_ n1_ n2_; (try clear hb); obtain ⟨Ao59, co59, eo59⟩ := Kd.R_slice HO264.out; subst eo59; obtain ⟨Ao60, co60, eo60⟩ := Kd.R_slice HO268.out; subst eo60) | ((with_reducible refine gate_callee (f := 11) rfl ?_); refine M.goes (some 46) Try.func11 #[.slice Ao59 t261.length co59, .slice Ao60 t265.length co60] rfl ?_; (with_reducible refine (pleachref11_Same.calls _ _ t261 _ _ t265 true _ ?side1 ?side2 ?side3 ?side4 A12.out).mono ?_); (case side1 => repeat (first | exact (Kd.R_reads' HO264.out).2.2 | (with_reducible refine Kd.C_alloc ?_ _) | (with_reducible refine Kd.C_drewN ?_ _) | (with_reducible refine Kd.C_drew ?_))); (case side2 => exact (Kd.R_reads' HO264.out).2.1); (case side3 => repeat (first | exact (Kd.R_reads' HO268.out).2.2 | (with_reducible refine Kd.C_alloc ?_ _) | (with_reducible refine Kd.C_drewN ?_ _) | (with_reducible refine Kd.C_drew ?_))); (case side4 => exact (Kd.R_reads' HO268.out).2.1); rintro e w' ⟨rfl, ⟨nd, rfl⟩⟩; refine ⟨_, rfl, ?_⟩))
                  go_ret
                  exact M.fin (M.up HB)
              · rw [if_neg c38] at H
                have c38b0 : (t262 == 3) = false := beq_eq_false_iff_ne.mpr c38
                have c38b1 : (t262 != 3) = true := bne_iff_ne.mpr c38
                obtain rfl := Option.some.inj H
                go_wp2_with (first | ((with_reducible refine gate_callee (f := 19) rfl ?_); refine M.goes (some 24) Try.func19 #[.string a1] rfl ?_; (with_reducible refine (delta_Take.calls a1 t261 t262 _ A8.out).mono ?_); rintro e w61 ⟨v263, rfl, ho0, hb⟩; refine ⟨_, rfl, ?_⟩; have n0_ := Aside0.mk (Kd.R_lower ho0 (below_size (M.up HB))); have n1_ := M.upS HB hb; clear HB; have HO264 := n0_; have HB := n1_; clear n0_ n1_; (try clear hb); (try clear ho0)) | ((with_reducible refine gate_callee (f := 20) rfl ?_); refine M.goes (some 29) Try.func20 #[.string a1] rfl ?_; (with_reducible refine (pleachref11_Take.calls a1 t265 false _ A9.out).mono ?_); rintro e w62 ⟨v267, rfl, ho0, hb⟩; refine ⟨_, rfl, ?_⟩; have n0_ := Aside0.mk (Kd.R_elder' (M.ro HO264) (Kd.R_base ho0) hb); have n1_ := Aside0.mk (Kd.R_lower (Kd.R_new' ho0 (Kd.R_lt (M.ro HO264))) (below_size (M.up HB))); have n2_ := M.upS HB hb; clear HO264 HB; have HO264 := n0_; have HO268 := n1_; have HB := n2_; clear n0_ n1_ n2_; (try clear hb); (try clear ho0)) | ((with_reducible refine gate_callee (f := 21) rfl ?_); refine M.goes (some 35) Try.func21 #[.string a0, .string a1] rfl ?_; (with_reducible refine (delta_Apply.calls a0 a1 t269 t270 _ A10.out).mono ?_); rintro e w63 ⟨rfl, hb⟩; refine ⟨_, rfl, ?_⟩; have n0_ := M.roB HO264 hb; have n1_ := M.roB HO268 hb; have n2_ := M.upS HB hb; clear HO264 HO268 HB; have HO264 := n0_; have HO268 := n1_; have HB := n2_; clear n0_ n1_ n2_; (try clear hb)) | ((with_reducible refine gate_callee (f := 22) rfl ?_); refine M.goes (some 41) Try.func22 #[.string a0, .string a1] rfl ?_; (with_reducible refine (pleachref11_Apply.calls a0 a1 t271 t272 _ A11.out).mono ?_); rintro e w64 ⟨rfl, hb⟩; refine ⟨_, rfl, ?_⟩; have n0_ := M.roB HO264 hb; have n1_ := M.roB HO268 hb; have n2_ := M.upS HB hb; clear HO264 HO268 HB; have HO264 := n0_; have HO268 := n1_; have HB := n2_; clear n0_ n1_ n2_; (try clear hb); obtain ⟨Ao65, co65, eo65⟩ := Kd.R_slice HO264.out; subst eo65; obtain ⟨Ao66, co66, eo66⟩ := Kd.R_slice HO268.out; subst eo66) | ((with_reducible refine gate_callee (f := 11) rfl ?_); refine M.goes (some 46) Try.func11 #[.slice Ao65 t261.length co65, .slice Ao66 t265.length co66] rfl ?_; (with_reducible refine (pleachref11_Same.calls _ _ t261 _ _ t265 true _ ?side1 ?side2 ?side3 ?side4 A12.out).mono ?_); (case side1 => repeat (first | exact (Kd.R_reads' HO264.out).2.2 | (with_reducible refine Kd.C_alloc ?_ _) | (with_reducible refine Kd.C_drewN ?_ _) | (with_reducible refine Kd.C_drew ?_))); (case side2 => exact (Kd.R_reads' HO264.out).2.1); (case side3 => repeat (first | exact (Kd.R_reads' HO268.out).2.2 | (with_reducible refine Kd.C_alloc ?_ _) | (with_reducible refine Kd.C_drewN ?_ _) | (with_reducible refine Kd.C_drew ?_))); (case side4 => exact (Kd.R_reads' HO268.out).2.1); rintro e w' ⟨rfl, ⟨nd, rfl⟩⟩; refine ⟨_, rfl, ?_⟩))
                go_ret
                exact M.fin (M.up HB)
          · rw [if_neg c14] at H
            have c14b0 : ((t262 == 0) == t266) = false := by simpa using c14
            (try (have c14b1 : decide ((t262 == 0) = t266) = false := by simpa using c14))
            (try (have c14b2 : ((t262 == 0) == t266) = false := by simpa using c14))
            (try (have c14b3 : ¬ ((t262 == 0) = t266) := by simpa using c14))
            clear c14
            obtain rfl := Option.some.inj H
            go_wp2_with (first | ((with_reducible refine gate_callee (f := 19) rfl ?_); refine M.goes (some 24) Try.func19 #[.string a1] rfl ?_; (with_reducible refine (delta_Take.calls a1 t261 t262 _ A8.out).mono ?_); rintro e w67 ⟨v263, rfl, ho0, hb⟩; refine ⟨_, rfl, ?_⟩; have n0_ := Aside0.mk (Kd.R_lower ho0 (below_size (M.up HB))); have n1_ := M.upS HB hb; clear HB; have HO264 := n0_; have HB := n1_; clear n0_ n1_; (try clear hb); (try clear ho0)) | ((with_reducible refine gate_callee (f := 20) rfl ?_); refine M.goes (some 29) Try.func20 #[.string a1] rfl ?_; (with_reducible refine (pleachref11_Take.calls a1 t265 t266 _ A9.out).mono ?_); rintro e w68 ⟨v267, rfl, ho0, hb⟩; refine ⟨_, rfl, ?_⟩; have n0_ := Aside0.mk (Kd.R_elder' (M.ro HO264) (Kd.R_base ho0) hb); have n1_ := Aside0.mk (Kd.R_lower (Kd.R_new' ho0 (Kd.R_lt (M.ro HO264))) (below_size (M.up HB))); have n2_ := M.upS HB hb; clear HO264 HB; have HO264 := n0_; have HO268 := n1_; have HB := n2_; clear n0_ n1_ n2_; (try clear hb); (try clear ho0)) | ((with_reducible refine gate_callee (f := 21) rfl ?_); refine M.goes (some 35) Try.func21 #[.string a0, .string a1] rfl ?_; (with_reducible refine (delta_Apply.calls a0 a1 t269 t270 _ A10.out).mono ?_); rintro e w69 ⟨rfl, hb⟩; refine ⟨_, rfl, ?_⟩; have n0_ := M.roB HO264 hb; have n1_ := M.roB HO268 hb; have n2_ := M.upS HB hb; clear HO264 HO268 HB; have HO264 := n0_; have HO268 := n1_; have HB := n2_; clear n0_ n1_ n2_; (try clear hb)) | ((with_reducible refine gate_callee (f := 22) rfl ?_); refine M.goes (some 41) Try.func22 #[.string a0, .string a1] rfl ?_; (with_reducible refine (pleachref11_Apply.calls a0 a1 t271 t272 _ A11.out).mono ?_); rintro e w70 ⟨rfl, hb⟩; refine ⟨_, rfl, ?_⟩; have n0_ := M.roB HO264 hb; have n1_ := M.roB HO268 hb; have n2_ := M.upS HB hb; clear HO264 HO268 HB; have HO264 := n0_; have HO268 := n1_; have HB := n2_; clear n0_ n1_ n2_; (try clear hb); obtain ⟨Ao71, co71, eo71⟩ := Kd.R_slice HO264.out; subst eo71; obtain ⟨Ao72, co72, eo72⟩ := Kd.R_slice HO268.out; subst eo72) | ((with_reducible refine gate_callee (f := 11) rfl ?_); refine M.goes (some 46) Try.func11 #[.slice Ao71 t261.length co71, .slice Ao72 t265.length co72] rfl ?_; (with_reducible refine (pleachref11_Same.calls _ _ t261 _ _ t265 true _ ?side1 ?side2 ?side3 ?side4 A12.out).mono ?_); (case side1 => repeat (first | exact (Kd.R_reads' HO264.out).2.2 | (with_reducible refine Kd.C_alloc ?_ _) | (with_reducible refine Kd.C_drewN ?_ _) | (with_reducible refine Kd.C_drew ?_))); (case side2 => exact (Kd.R_reads' HO264.out).2.1); (case side3 => repeat (first | exact (Kd.R_reads' HO268.out).2.2 | (with_reducible refine Kd.C_alloc ?_ _) | (with_reducible refine Kd.C_drewN ?_ _) | (with_reducible refine Kd.C_drew ?_))); (case side4 => exact (Kd.R_reads' HO268.out).2.1); rintro e w' ⟨rfl, ⟨nd, rfl⟩⟩; refine ⟨_, rfl, ?_⟩))
            go_ret
            exact M.fin (M.up HB)
        · replace c13 := Bool.eq_false_iff.mpr c13
          subst c13
          have H1 : (some false) = some r := by rw [if_neg (show ¬ (false = true) by decide)] at H; exact H
          clear H
          have H := H1
          clear H1
          obtain rfl := Option.some.inj H
          go_wp2_with (first | ((with_reducible refine gate_callee (f := 19) rfl ?_); refine M.goes (some 24) Try.func19 #[.string a1] rfl ?_; (with_reducible refine (delta_Take.calls a1 t261 t262 _ A8.out).mono ?_); rintro e w73 ⟨v263, rfl, ho0, hb⟩; refine ⟨_, rfl, ?_⟩; have n0_ := Aside0.mk (Kd.R_lower ho0 (below_size (M.up HB))); have n1_ := M.upS HB hb; clear HB; have HO264 := n0_; have HB := n1_; clear n0_ n1_; (try clear hb); (try clear ho0)) | ((with_reducible refine gate_callee (f := 20) rfl ?_); refine M.goes (some 29) Try.func20 #[.string a1] rfl ?_; (with_reducible refine (pleachref11_Take.calls a1 t265 t266 _ A9.out).mono ?_); rintro e w74 ⟨v267, rfl, ho0, hb⟩; refine ⟨_, rfl, ?_⟩; have n0_ := Aside0.mk (Kd.R_elder' (M.ro HO264) (Kd.R_base ho0) hb); have n1_ := Aside0.mk (Kd.R_lower (Kd.R_new' ho0 (Kd.R_lt (M.ro HO264))) (below_size (M.up HB))); have n2_ := M.upS HB hb; clear HO264 HB; have HO264 := n0_; have HO268 := n1_; have HB := n2_; clear n0_ n1_ n2_; (try clear hb); (try clear ho0)) | ((with_reducible refine gate_callee (f := 21) rfl ?_); refine M.goes (some 35) Try.func21 #[.string a0, .string a1] rfl ?_; (with_reducible refine (delta_Apply.calls a0 a1 t269 t270 _ A10.out).mono ?_); rintro e w75 ⟨rfl, hb⟩; refine ⟨_, rfl, ?_⟩; have n0_ := M.roB HO264 hb; have n1_ := M.roB HO268 hb; have n2_ := M.upS HB hb; clear HO264 HO268 HB; have HO264 := n0_; have HO268 := n1_; have HB := n2_; clear n0_ n1_ n2_; (try clear hb)) | ((with_reducible refine gate_callee (f := 22) rfl ?_); refine M.goes (some 41) Try.func22 #[.string a0, .string a1] rfl ?_; (with_reducible refine (pleachref11_Apply.calls a0 a1 t271 t272 _ A11.out).mono ?_); rintro e w76 ⟨rfl, hb⟩; refine ⟨_, rfl, ?_⟩; have n0_ := M.roB HO264 hb; have n1_ := M.roB HO268 hb; have n2_ := M.upS HB hb; clear HO264 HO268 HB; have HO264 := n0_; have HO268 := n1_; have HB := n2_; clear n0_ n1_ n2_; (try clear hb); obtain ⟨Ao77, co77, eo77⟩ := Kd.R_slice HO264.out; subst eo77; obtain ⟨Ao78, co78, eo78⟩ := Kd.R_slice HO268.out; subst eo78) | ((with_reducible refine gate_callee (f := 11) rfl ?_); refine M.goes (some 46) Try.func11 #[.slice Ao77 t261.length co77, .slice Ao78 t265.length co78] rfl ?_; (with_reducible refine (pleachref11_Same.calls _ _ t261 _ _ t265 false _ ?side1 ?side2 ?side3 ?side4 A12.out).mono ?_); (case side1 => repeat (first | exact (Kd.R_reads' HO264.out).2.2 | (with_reducible refine Kd.C_alloc ?_ _) | (with_reducible refine Kd.C_drewN ?_ _) | (with_reducible refine Kd.C_drew ?_))); (case side2 => exact (Kd.R_reads' HO264.out).2.1); (case side3 => repeat (first | exact (Kd.R_reads' HO268.out).2.2 | (with_reducible refine Kd.C_alloc ?_ _) | (with_reducible refine Kd.C_drewN ?_ _) | (with_reducible refine Kd.C_drew ?_))); (case side4 => exact (Kd.R_reads' HO268.out).2.1); rintro e w' ⟨rfl, ⟨nd, rfl⟩⟩; refine ⟨_, rfl, ?_⟩))
          go_ret
          exact M.fin (M.up HB)

/-- THE ONE PURE STATEMENT of pleachlaw11_DeltaTakes: yours. -/
def pleachlaw11_DeltaTakes.Pure : Prop := ∀ (a0 : ByteArray) (a1 : ByteArray), a0.size ≤ 140737488351232 → a1.size ≤ 140737488351232 → ∃ k, pleachlaw11_DeltaTakes.f k a0 a1 = some true
theorem pleachlaw11_DeltaTakes.walk (P : pleachlaw11_DeltaTakes.Pure) (a0 : ByteArray) (a1 : ByteArray) (w : World) (w0 : a0.size ≤ 140737488351232) (w1 : a1.size ≤ 140737488351232) :
    Calls Try.prog 5 #[.string a0, .string a1] w fun e w' => e = .returned (.bool true) ∧ Below w.heap.size w w' := by
  obtain ⟨k, h⟩ := P a0 a1 w0 w1
  refine (pleachlaw11_DeltaTakes.calls k a0 a1 true w h).mono ?_
  rintro e w' ⟨rfl, hd⟩
  exact ⟨rfl, hd⟩

end Go.Proofs.Ytadpicphohobbaa.EDeltaTakes
