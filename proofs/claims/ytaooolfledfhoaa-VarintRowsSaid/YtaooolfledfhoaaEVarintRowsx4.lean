-- Written by this session's own program (wip/tools/ext.py) for this claim; Lean checks it.
import Derived.Test.YtaooolfledfhoaaEVarintRowsx0
import Derived.Test.YtaooolfledfhoaaEVarintRowsx1
import Derived.Test.YtaooolfledfhoaaEVarintRowsx2
import Derived.Test.YtaooolfledfhoaaEVarintRowsx3
namespace Go.Proofs.Ytaooolfledfhoaa.EVarintRows
open Go.RowKit Go.Proofs.YtaooolfledfhoaaW.PrintWords Go.Proofs.YtaooolfledfhoaaW.PrintLast Go.Proofs.YtaooolfledfhoaaW.PrintMore
attribute [local go_sem] M.run_leq M.run_gtr M.run_geq max2_int min2_int max_two min_two max_three min_three max_four min_four   -- for this text's walks alone
set_option linter.unusedVariables false
set_option linter.unusedSimpArgs false

/-! ### pleachlaw01_VarintRows: function 6 -/
mutual
def pleachlaw01_VarintRows.j0 : Nat → List Int → ByteArray → Int → Bool → Option (Bool)
  | 0, _, _, _, _ => none
  | k + 1, x0, x1, x2, x24 => if x24 = true then ((pleachlaw01_awake.f).bind fun t142 => (some t142)) else ((varint_Row.f x0).bind fun t143 => (if t143.size + x1.size ≤ 9223372036854775807 then ((varint_Rows.f (t143 ++ x1) (x0.length : Int)).bind fun bt144 => ((pleachplain_Nums.f bt144.1 x0).bind fun t149 => (if t149 = true then (if bt144.2.1 = (t143.size : Int) then (pleachlaw01_VarintRows.j1 k x1 x2 (!bt144.2.2)) else (pleachlaw01_VarintRows.j1 k x1 x2 true)) else (pleachlaw01_VarintRows.j1 k x1 x2 true)))) else (none)))
def pleachlaw01_VarintRows.j1 : Nat → ByteArray → Int → Bool → Option (Bool)
  | 0, _, _, _ => none
  | k + 1, x1, x2, x51 => if x51 = true then (some false) else ((varint_Rows.f x1 x2).bind fun bt150 => ((pleachref01_Rows.f x1 x2).bind fun bt155 => ((pleachplain_Nums.f bt150.1 bt155.1).bind fun t160 => (if t160 = true then (if bt150.2.1 = bt155.2.1 then (if (bt150.2.2 == bt155.2.2) = true then ((pleachlaw01_awake.f).bind fun t161 => (some t161)) else (some false)) else (some false)) else (some false)))))
end
def pleachlaw01_VarintRows.f (k : Nat) (l0 : List Int) (a1 : ByteArray) (a2 : Int) : Option (Bool) := if (l0.length : Int) > 300 then (pleachlaw01_VarintRows.j0 k l0 a1 a2 true) else (pleachlaw01_VarintRows.j0 k l0 a1 a2 (decide ((a1.size : Int) > 1000)))
theorem pleachlaw01_VarintRows.mono_l : ∀ k, (∀ y0 y1 y2 y3, LeO (pleachlaw01_VarintRows.j0 k y0 y1 y2 y3) (pleachlaw01_VarintRows.j0 (k + 1) y0 y1 y2 y3)) ∧ (∀ y0 y1 y2, LeO (pleachlaw01_VarintRows.j1 k y0 y1 y2) (pleachlaw01_VarintRows.j1 (k + 1) y0 y1 y2))
  | 0 => ⟨fun _ _ _ _ r h => by simp [pleachlaw01_VarintRows.j0] at h, fun _ _ _ r h => by simp [pleachlaw01_VarintRows.j1] at h⟩
  | k + 1 => by
    obtain ⟨ih0, ih1⟩ := pleachlaw01_VarintRows.mono_l k
    refine ⟨?_, ?_⟩
    · intro y0 y1 y2 y3
      unfold pleachlaw01_VarintRows.j0
      repeat' first
      | (with_reducible exact ih0 _ _ _ _)
      | (with_reducible exact ih1 _ _ _)
      | (with_reducible exact LeO.refl _)
      | (with_reducible exact LeO.none _)
      | (with_reducible refine LeO.ite ?_ ?_)
      | (with_reducible refine LeO.bind ?_ (fun _ => ?_))
      | exact ih0 _ _ _ _
      | exact ih1 _ _ _
      | exact LeO.none _
      | refine LeO.ite ?_ ?_
      | refine LeO.bind ?_ (fun _ => ?_)
    · intro y0 y1 y2
      unfold pleachlaw01_VarintRows.j1
      repeat' first
      | (with_reducible exact ih0 _ _ _ _)
      | (with_reducible exact ih1 _ _ _)
      | (with_reducible exact LeO.refl _)
      | (with_reducible exact LeO.none _)
      | (with_reducible refine LeO.ite ?_ ?_)
      | (with_reducible refine LeO.bind ?_ (fun _ => ?_))
      | exact ih0 _ _ _ _
      | exact ih1 _ _ _
      | exact LeO.none _
      | refine LeO.ite ?_ ?_
      | refine LeO.bind ?_ (fun _ => ?_)
theorem pleachlaw01_VarintRows.mono : ∀ a0 a1 a2 k, LeO (pleachlaw01_VarintRows.f k a0 a1 a2) (pleachlaw01_VarintRows.f (k + 1) a0 a1 a2) := by
  intro a0 a1 a2 k
  obtain ⟨ih0, ih1⟩ := pleachlaw01_VarintRows.mono_l k
  unfold pleachlaw01_VarintRows.f
  repeat' first
      | (with_reducible exact ih0 _ _ _ _)
      | (with_reducible exact ih1 _ _ _)
      | (with_reducible exact LeO.refl _)
      | (with_reducible exact LeO.none _)
      | (with_reducible refine LeO.ite ?_ ?_)
      | (with_reducible refine LeO.bind ?_ (fun _ => ?_))
      | exact ih0 _ _ _ _
      | exact ih1 _ _ _
      | exact LeO.none _
      | refine LeO.ite ?_ ?_
      | refine LeO.bind ?_ (fun _ => ?_)
set_option maxHeartbeats 8000000 in
set_option maxRecDepth 100000 in
theorem pleachlaw01_VarintRows.calls (k : Nat) (A0 : Option Addr) (c0 : Nat) (l0 : List Int) (a1 : ByteArray) (a2 : Int) (r : Bool) (w : World) (hr0 : Kd.C (Kd.int .u64) w A0 l0.length l0) (hc0 : l0.length ≤ c0) (h : pleachlaw01_VarintRows.f k l0 a1 a2 = some r) :
    Calls Try.prog 6 #[.slice A0 l0.length c0, .string a1, .int .i64 a2] w fun e w' => e = .returned (.bool r) ∧ Below w.heap.size w w' := by
  have HR0 := Aside0.mk hr0
  have HC0 := Aside0.mk hc0
  clear hr0 hc0
  have HB := Aside0.mk (Below.refl w.heap.size w)
  have H : (if (l0.length : Int) > 300 then (pleachlaw01_VarintRows.j0 k l0 a1 a2 true) else (pleachlaw01_VarintRows.j0 k l0 a1 a2 (decide ((a1.size : Int) > 1000)))) = some r := h
  clear h
  have HC4 := Aside0.mk H
  clear H
  go_enter Try.func6, Try.ntmps6
  go_upto_region 1 with (fail)
  go_cut [24] (fun v24 wc => ∃ (kq : Nat) (x24_3 : Bool), v24 = .bool x24_3 ∧ Aside0 (pleachlaw01_VarintRows.j0 kq l0 a1 a2 x24_3 = some r) ∧ Aside0 (kq ≤ k) ∧ Aside0 (Below w.heap.size w wc))
  case first =>
    have H := HC4.out
    clear HC4
    by_cases c5 : (l0.length : Int) > 300
    · rw [if_pos c5] at H
      have c5b0 : decide (300 < (l0.length : Int)) = true := decide_eq_true c5
      have c5b1 : decide (300 < l0.length) = true := decide_eq_true (by omega)
      clear c5
      (first | rw [c5b0] | (simp only [i64_w, i32_w]; rw [c5b0]) | skip)
      have H' := Aside0.mk H
      clear H
      go_wp2
      go_meet
      case rel => exact ⟨_, (true), (by first | rfl | (simp; done) | (simp [*]; done) | (simp [M.isEmpty_bne]; done)), H', ⟨by first | omega | exact Nat.le_refl _⟩, ⟨M.up HB⟩⟩
    · rw [if_neg c5] at H
      have c5b0 : decide (300 < (l0.length : Int)) = false := decide_eq_false c5
      have c5b1 : decide (300 < l0.length) = false := decide_eq_false (by omega)
      clear c5
      (first | rw [c5b0] | (simp only [i64_w, i32_w]; rw [c5b0]) | skip)
      have H' := Aside0.mk H
      clear H
      go_wp2
      go_meet
      case rel => exact ⟨_, (decide ((a1.size : Int) > 1000)), (by first | rfl | (simp; done) | (simp [*]; done) | (simp [M.isEmpty_bne]; done)), H', ⟨by first | omega | exact Nat.le_refl _⟩, ⟨M.up HB⟩⟩
  case rest =>
    clear HC4
    try clear p2
    try clear c5
    try clear c5b0
    try clear c5b1
    obtain ⟨kq, x24_3, rfl, HA, HJ3, HB⟩ := hcut
    cases kq with
    | zero => exact absurd HA.out (by simp [pleachlaw01_VarintRows.j0])
    | succ kj3 =>
      have H := HA.out
      clear HA
      simp only [pleachlaw01_VarintRows.j0] at H
      by_cases c6 : x24_3 = true
      · subst c6
        have H1 : ((pleachlaw01_awake.f).bind fun t142 => (some t142)) = some r := by rw [if_pos rfl] at H; exact H
        clear H
        have H := H1
        clear H1
        replace H := Option.bind_eq_some_iff.mp H
        obtain ⟨t142, A70, H⟩ := H
        replace H : (some t142) = some r := H
        have A7 := Aside0.mk A70
        clear A70
        obtain rfl := Option.some.inj H
        go_wp2_with (first | ((with_reducible refine gate_callee (f := 7) rfl ?_); refine M.goes (some 25) Try.func7 #[] rfl ?_; (with_reducible refine (pleachlaw01_awake.calls  t142 _ A7.out).mono ?_); rintro e w8 ⟨rfl, hb⟩; refine ⟨_, rfl, ?_⟩; have n0_ := M.upS HB hb; clear HB; have HB := n0_; clear n0_; (try clear hb)))
        go_ret
        exact M.fin (M.up HB)
      · replace c6 := Bool.eq_false_iff.mpr c6
        subst c6
        have H1 : ((varint_Row.f l0).bind fun t143 => (if t143.size + a1.size ≤ 9223372036854775807 then ((varint_Rows.f (t143 ++ a1) (l0.length : Int)).bind fun bt144 => ((pleachplain_Nums.f bt144.1 l0).bind fun t149 => (if t149 = true then (if bt144.2.1 = (t143.size : Int) then (pleachlaw01_VarintRows.j1 kj3 a1 a2 (!bt144.2.2)) else (pleachlaw01_VarintRows.j1 kj3 a1 a2 true)) else (pleachlaw01_VarintRows.j1 kj3 a1 a2 true)))) else (none))) = some r := by rw [if_neg (show ¬ (false = true) by decide)] at H; exact H
        clear H
        have H := H1
        clear H1
        replace H := Option.bind_eq_some_iff.mp H
        obtain ⟨t143, A90, H⟩ := H
        replace H : (if t143.size + a1.size ≤ 9223372036854775807 then ((varint_Rows.f (t143 ++ a1) (l0.length : Int)).bind fun bt144 => ((pleachplain_Nums.f bt144.1 l0).bind fun t149 => (if t149 = true then (if bt144.2.1 = (t143.size : Int) then (pleachlaw01_VarintRows.j1 kj3 a1 a2 (!bt144.2.2)) else (pleachlaw01_VarintRows.j1 kj3 a1 a2 true)) else (pleachlaw01_VarintRows.j1 kj3 a1 a2 true)))) else (none)) = some r := H
        have A9 := Aside0.mk A90
        clear A90
        by_cases c10 : t143.size + a1.size ≤ 9223372036854775807
        · rw [if_pos c10] at H
          have c10b0 := eq_true c10
          have c10b1 : decide (t143.size + a1.size ≤ 9223372036854775807) = true := decide_eq_true c10
          try have c10b2 : (9223372036854775807 < t143.size + a1.size) = False := eq_false (Nat.not_lt.2 c10)
          replace H := Option.bind_eq_some_iff.mp H
          obtain ⟨⟨t144, t145, t146⟩, A110, H⟩ := H
          replace H : ((pleachplain_Nums.f t144 l0).bind fun t149 => (if t149 = true then (if t145 = (t143.size : Int) then (pleachlaw01_VarintRows.j1 kj3 a1 a2 (!t146)) else (pleachlaw01_VarintRows.j1 kj3 a1 a2 true)) else (pleachlaw01_VarintRows.j1 kj3 a1 a2 true))) = some r := H
          have A11 := Aside0.mk A110
          clear A110
          have HC12 := Aside0.mk H
          clear H
          go_upto_region 5 with (first | ((with_reducible refine gate_callee (f := 20) rfl ?_); refine M.goes (some 27) Try.func20 #[.slice A0 l0.length c0] rfl ?_; (with_reducible refine (varint_Row.calls _ _ l0 t143 _ ?side1 ?side2 A9.out).mono ?_); (case side1 => exact M.cB HR0 HB); (case side2 => exact HC0.out); rintro e w13 ⟨rfl, hb⟩; refine ⟨_, rfl, ?_⟩; have n0_ := M.upS HB hb; clear HB; have HB := n0_; clear n0_; (try clear hb)) | ((with_reducible refine gate_callee (f := 21) rfl ?_); refine M.goes (some 34) Try.func21 #[.string (t143 ++ a1), .int .i64 (l0.length : Int)] rfl ?_; (with_reducible refine (varint_Rows.calls (t143 ++ a1) (l0.length : Int) t144 t145 t146 _ A11.out).mono ?_); rintro e w14 ⟨v147, rfl, ho0, hb⟩; refine ⟨_, rfl, ?_⟩; have n0_ := Aside0.mk (Kd.R_lower ho0 (below_size (M.up HB))); have n1_ := M.upS HB hb; clear HB; have HO148 := n0_; have HB := n1_; clear n0_ n1_; (try clear hb); (try clear ho0)))
          (try simp only [Act.put, List.setIfInBounds_toArray, List.set_cons_zero, List.set_cons_succ])
          go_cut [51] (fun v51 wc => ∃ (kq : Nat) (x51_11 : Bool), v51 = .bool x51_11 ∧ Aside0 (pleachlaw01_VarintRows.j1 kq a1 a2 x51_11 = some r) ∧ Aside0 (kq ≤ kj3) ∧ Aside0 (Below w.heap.size w wc))
          case first =>
            have H := HC12.out
            clear HC12
            replace H := Option.bind_eq_some_iff.mp H
            obtain ⟨t149, A150, H⟩ := H
            replace H : (if t149 = true then (if t145 = (t143.size : Int) then (pleachlaw01_VarintRows.j1 kj3 a1 a2 (!t146)) else (pleachlaw01_VarintRows.j1 kj3 a1 a2 true)) else (pleachlaw01_VarintRows.j1 kj3 a1 a2 true)) = some r := H
            have A15 := Aside0.mk A150
            clear A150
            by_cases c16 : t149 = true
            · subst c16
              have H1 : (if t145 = (t143.size : Int) then (pleachlaw01_VarintRows.j1 kj3 a1 a2 (!t146)) else (pleachlaw01_VarintRows.j1 kj3 a1 a2 true)) = some r := by rw [if_pos rfl] at H; exact H
              clear H
              have H := H1
              clear H1
              by_cases c17 : t145 = (t143.size : Int)
              · rw [if_pos c17] at H
                have c17b0 : (t145 == (t143.size : Int)) = true := beq_iff_eq.mpr c17
                have c17b1 : (t145 != (t143.size : Int)) = false := bne_eq_false_iff_eq.mpr c17
                clear c17
                (first | rw [c17b0] | (simp only [i64_w, i32_w]; rw [c17b0]) | skip)
                have H' := Aside0.mk H
                clear H
                obtain ⟨Ao18, co18, eo18⟩ := Kd.R_slice HO148.out
                subst eo18
                go_wp2_with (first | ((with_reducible refine gate_callee (f := 22) rfl ?_); refine M.goes (some 40) Try.func22 #[.slice Ao18 t144.length co18, .slice A0 l0.length c0] rfl ?_; (with_reducible refine (pleachplain_Nums.calls _ _ t144 _ _ l0 true _ ?side1 ?side2 ?side3 ?side4 A15.out).mono ?_); (case side1 => repeat (first | exact (Kd.R_reads' HO148.out).2.2 | (with_reducible refine Kd.C_alloc ?_ _) | (with_reducible refine Kd.C_drewN ?_ _) | (with_reducible refine Kd.C_drew ?_))); (case side2 => exact (Kd.R_reads' HO148.out).2.1); (case side3 => exact M.cB HR0 HB); (case side4 => exact HC0.out); rintro e w' ⟨rfl, ⟨nd, rfl⟩⟩; refine ⟨_, rfl, ?_⟩))
                go_meet
                case rel => exact ⟨_, (!t146), (by first | rfl | (simp; done) | (simp [*]; done) | (simp [M.isEmpty_bne]; done)), H', ⟨by have := HJ3.out; first | omega | exact Nat.le_refl _⟩, ⟨M.up HB⟩⟩
              · rw [if_neg c17] at H
                have c17b0 : (t145 == (t143.size : Int)) = false := beq_eq_false_iff_ne.mpr c17
                have c17b1 : (t145 != (t143.size : Int)) = true := bne_iff_ne.mpr c17
                (first | rw [c17b0] | (simp only [i64_w, i32_w]; rw [c17b0]) | skip)
                have H' := Aside0.mk H
                clear H
                obtain ⟨Ao19, co19, eo19⟩ := Kd.R_slice HO148.out
                subst eo19
                go_wp2_with (first | ((with_reducible refine gate_callee (f := 22) rfl ?_); refine M.goes (some 40) Try.func22 #[.slice Ao19 t144.length co19, .slice A0 l0.length c0] rfl ?_; (with_reducible refine (pleachplain_Nums.calls _ _ t144 _ _ l0 true _ ?side1 ?side2 ?side3 ?side4 A15.out).mono ?_); (case side1 => repeat (first | exact (Kd.R_reads' HO148.out).2.2 | (with_reducible refine Kd.C_alloc ?_ _) | (with_reducible refine Kd.C_drewN ?_ _) | (with_reducible refine Kd.C_drew ?_))); (case side2 => exact (Kd.R_reads' HO148.out).2.1); (case side3 => exact M.cB HR0 HB); (case side4 => exact HC0.out); rintro e w' ⟨rfl, ⟨nd, rfl⟩⟩; refine ⟨_, rfl, ?_⟩))
                go_meet
                case rel => exact ⟨_, (true), (by first | rfl | (simp; done) | (simp [*]; done) | (simp [M.isEmpty_bne]; done)), H', ⟨by have := HJ3.out; first | omega | exact Nat.le_refl _⟩, ⟨M.up HB⟩⟩
            · replace c16 := Bool.eq_false_iff.mpr c16
              subst c16
              have H1 : (pleachlaw01_VarintRows.j1 kj3 a1 a2 true) = some r := by rw [if_neg (show ¬ (false = true) by decide)] at H; exact H
              clear H
              have H := H1
              clear H1
              have H' := Aside0.mk H
              clear H
              obtain ⟨Ao20, co20, eo20⟩ := Kd.R_slice HO148.out
              subst eo20
              go_wp2_with (first | ((with_reducible refine gate_callee (f := 22) rfl ?_); refine M.goes (some 40) Try.func22 #[.slice Ao20 t144.length co20, .slice A0 l0.length c0] rfl ?_; (with_reducible refine (pleachplain_Nums.calls _ _ t144 _ _ l0 false _ ?side1 ?side2 ?side3 ?side4 A15.out).mono ?_); (case side1 => repeat (first | exact (Kd.R_reads' HO148.out).2.2 | (with_reducible refine Kd.C_alloc ?_ _) | (with_reducible refine Kd.C_drewN ?_ _) | (with_reducible refine Kd.C_drew ?_))); (case side2 => exact (Kd.R_reads' HO148.out).2.1); (case side3 => exact M.cB HR0 HB); (case side4 => exact HC0.out); rintro e w' ⟨rfl, ⟨nd, rfl⟩⟩; refine ⟨_, rfl, ?_⟩))
              go_meet
              case rel => exact ⟨_, (true), (by first | rfl | (simp; done) | (simp [*]; done) | (simp [M.isEmpty_bne]; done)), H', ⟨by have := HJ3.out; first | omega | exact Nat.le_refl _⟩, ⟨M.up HB⟩⟩
          case rest =>
            clear HC12
            try clear c1
            try clear c2
            try clear p2
            try clear c5
            try clear c5b0
            try clear c5b1
            try clear c6
            try clear c7
            try clear c10
            try clear c10b0
            try clear c10b1
            try clear c10b2
            try clear c16
            try clear c17
            try clear c17b0
            try clear c17b1
            try clear c20
            try clear p2
            obtain ⟨kq, x51_11, rfl, HA, HJ11, HB⟩ := hcut
            cases kq with
            | zero => exact absurd HA.out (by simp [pleachlaw01_VarintRows.j1])
            | succ kj11 =>
              have H := HA.out
              clear HA
              simp only [pleachlaw01_VarintRows.j1] at H
              by_cases c21 : x51_11 = true
              · subst c21
                have H1 : (some false) = some r := by rw [if_pos rfl] at H; exact H
                clear H
                have H := H1
                clear H1
                obtain rfl := Option.some.inj H
                go_wp2
                go_ret
                exact M.fin (M.up HB)
              · replace c21 := Bool.eq_false_iff.mpr c21
                subst c21
                have H1 : ((varint_Rows.f a1 a2).bind fun bt150 => ((pleachref01_Rows.f a1 a2).bind fun bt155 => ((pleachplain_Nums.f bt150.1 bt155.1).bind fun t160 => (if t160 = true then (if bt150.2.1 = bt155.2.1 then (if (bt150.2.2 == bt155.2.2) = true then ((pleachlaw01_awake.f).bind fun t161 => (some t161)) else (some false)) else (some false)) else (some false))))) = some r := by rw [if_neg (show ¬ (false = true) by decide)] at H; exact H
                clear H
                have H := H1
                clear H1
                replace H := Option.bind_eq_some_iff.mp H
                obtain ⟨⟨t150, t151, t152⟩, A220, H⟩ := H
                replace H : ((pleachref01_Rows.f a1 a2).bind fun bt155 => ((pleachplain_Nums.f t150 bt155.1).bind fun t160 => (if t160 = true then (if t151 = bt155.2.1 then (if (t152 == bt155.2.2) = true then ((pleachlaw01_awake.f).bind fun t161 => (some t161)) else (some false)) else (some false)) else (some false)))) = some r := H
                have A22 := Aside0.mk A220
                clear A220
                replace H := Option.bind_eq_some_iff.mp H
                obtain ⟨⟨t155, t156, t157⟩, A230, H⟩ := H
                replace H : ((pleachplain_Nums.f t150 t155).bind fun t160 => (if t160 = true then (if t151 = t156 then (if (t152 == t157) = true then ((pleachlaw01_awake.f).bind fun t161 => (some t161)) else (some false)) else (some false)) else (some false))) = some r := H
                have A23 := Aside0.mk A230
                clear A230
                replace H := Option.bind_eq_some_iff.mp H
                obtain ⟨t160, A240, H⟩ := H
                replace H : (if t160 = true then (if t151 = t156 then (if (t152 == t157) = true then ((pleachlaw01_awake.f).bind fun t161 => (some t161)) else (some false)) else (some false)) else (some false)) = some r := H
                have A24 := Aside0.mk A240
                clear A240
                by_cases c25 : t160 = true
                · subst c25
                  have H1 : (if t151 = t156 then (if (t152 == t157) = true then ((pleachlaw01_awake.f).bind fun t161 => (some t161)) else (some false)) else (some false)) = some r := by rw [if_pos rfl] at H; exact H
                  clear H
                  have H := H1
                  clear H1
                  by_cases c26 : t151 = t156
                  · rw [if_pos c26] at H
                    have c26b0 : (t151 == t156) = true := beq_iff_eq.mpr c26
                    have c26b1 : (t151 != t156) = false := bne_eq_false_iff_eq.mpr c26
                    clear c26
                    by_cases c27 : (t152 == t157) = true
                    · rw [if_pos c27] at H
                      have c27b0 : (t152 == t157) = true := c27
                      (try (have c27b1 : decide (t152 = t157) = true := by simpa using c27))
                      (try (have c27b2 : (t152 == t157) = true := by simpa using c27))
                      clear c27
                      replace H := Option.bind_eq_some_iff.mp H
                      obtain ⟨t161, A280, H⟩ := H
                      replace H : (some t161) = some r := H
                      have A28 := Aside0.mk A280
                      clear A280
                      obtain rfl := Option.some.inj H
                      go_wp2_with (first | ((with_reducible refine gate_callee (f := 21) rfl ?_); refine M.goes (some 55) Try.func21 #[.string a1, .int .i64 a2] rfl ?_; (with_reducible refine (varint_Rows.calls a1 a2 t150 t151 t152 _ A22.out).mono ?_); rintro e w29 ⟨v153, rfl, ho0, hb⟩; refine ⟨_, rfl, ?_⟩; have n0_ := Aside0.mk (Kd.R_lower ho0 (below_size (M.up HB))); have n1_ := M.upS HB hb; clear HB; have HO154 := n0_; have HB := n1_; clear n0_ n1_; (try clear hb); (try clear ho0)) | ((with_reducible refine gate_callee (f := 23) rfl ?_); refine M.goes (some 62) Try.func23 #[.string a1, .int .i64 a2] rfl ?_; (with_reducible refine (pleachref01_Rows.calls a1 a2 t155 t156 t157 _ A23.out).mono ?_); rintro e w30 ⟨v158, rfl, ho0, hb⟩; refine ⟨_, rfl, ?_⟩; have n0_ := Aside0.mk (Kd.R_elder' (M.ro HO154) (Kd.R_base ho0) hb); have n1_ := Aside0.mk (Kd.R_lower (Kd.R_new' ho0 (Kd.R_lt (M.ro HO154))) (below_size (M.up HB))); have n2_ := M.upS HB hb; clear HO154 HB; have HO154 := n0_; have HO159 := n1_; have HB := n2_; clear n0_ n1_ n2_; (try clear hb); (try clear ho0); obtain ⟨Ao31, co31, eo31⟩ := Kd.R_slice HO154.out; subst eo31; obtain ⟨Ao32, co32, eo32⟩ := Kd.R_slice HO159.out; subst eo32) | ((with_reducible refine gate_callee (f := 22) rfl ?_); refine M.goes (some 68) Try.func22 #[.slice Ao31 t150.length co31, .slice Ao32 t155.length co32] rfl ?_; (with_reducible refine (pleachplain_Nums.calls _ _ t150 _ _ t155 true _ ?side1 ?side2 ?side3 ?side4 A24.out).mono ?_); (case side1 => repeat (first | exact (Kd.R_reads' HO154.out).2.2 | (with_reducible refine Kd.C_alloc ?_ _) | (with_reducible refine Kd.C_drewN ?_ _) | (with_reducible refine Kd.C_drew ?_))); (case side2 => exact (Kd.R_reads' HO154.out).2.1); (case side3 => repeat (first | exact (Kd.R_reads' HO159.out).2.2 | (with_reducible refine Kd.C_alloc ?_ _) | (with_reducible refine Kd.C_drewN ?_ _) | (with_reducible refine Kd.C_drew ?_))); (case side4 => exact (Kd.R_reads' HO159.out).2.1); rintro e w' ⟨rfl, ⟨nd, rfl⟩⟩; refine ⟨_, rfl, ?_⟩) | (go_at_call 7; (with_reducible refine (pleachlaw01_awake.calls  t161 _ A28.out).mono ?_); rintro e w33 ⟨rfl, hb⟩; have n0_ := M.roB HO154 hb; have n1_ := M.roB HO159 hb; have n2_ := M.upS HB hb; clear HO154 HO159 HB; have HO154 := n0_; have HO159 := n1_; have HB := n2_; clear n0_ n1_ n2_; (try clear hb); (try clear hb2); (try clear hk); (try clear hi)))
                      go_ret
                      exact M.fin (M.up HB)
                    · rw [if_neg c27] at H
                      have c27b0 : (t152 == t157) = false := by simpa using c27
                      (try (have c27b1 : decide (t152 = t157) = false := by simpa using c27))
                      (try (have c27b2 : (t152 == t157) = false := by simpa using c27))
                      (try (have c27b3 : ¬ (t152 = t157) := by simpa using c27))
                      clear c27
                      obtain rfl := Option.some.inj H
                      go_wp2_with (first | ((with_reducible refine gate_callee (f := 21) rfl ?_); refine M.goes (some 55) Try.func21 #[.string a1, .int .i64 a2] rfl ?_; (with_reducible refine (varint_Rows.calls a1 a2 t150 t151 t152 _ A22.out).mono ?_); rintro e w34 ⟨v153, rfl, ho0, hb⟩; refine ⟨_, rfl, ?_⟩; have n0_ := Aside0.mk (Kd.R_lower ho0 (below_size (M.up HB))); have n1_ := M.upS HB hb; clear HB; have HO154 := n0_; have HB := n1_; clear n0_ n1_; (try clear hb); (try clear ho0)) | ((with_reducible refine gate_callee (f := 23) rfl ?_); refine M.goes (some 62) Try.func23 #[.string a1, .int .i64 a2] rfl ?_; (with_reducible refine (pleachref01_Rows.calls a1 a2 t155 t156 t157 _ A23.out).mono ?_); rintro e w35 ⟨v158, rfl, ho0, hb⟩; refine ⟨_, rfl, ?_⟩; have n0_ := Aside0.mk (Kd.R_elder' (M.ro HO154) (Kd.R_base ho0) hb); have n1_ := Aside0.mk (Kd.R_lower (Kd.R_new' ho0 (Kd.R_lt (M.ro HO154))) (below_size (M.up HB))); have n2_ := M.upS HB hb; clear HO154 HB; have HO154 := n0_; have HO159 := n1_; have HB := n2_; clear n0_ n1_ n2_; (try clear hb); (try clear ho0); obtain ⟨Ao36, co36, eo36⟩ := Kd.R_slice HO154.out; subst eo36; obtain ⟨Ao37, co37, eo37⟩ := Kd.R_slice HO159.out; subst eo37) | ((with_reducible refine gate_callee (f := 22) rfl ?_); refine M.goes (some 68) Try.func22 #[.slice Ao36 t150.length co36, .slice Ao37 t155.length co37] rfl ?_; (with_reducible refine (pleachplain_Nums.calls _ _ t150 _ _ t155 true _ ?side1 ?side2 ?side3 ?side4 A24.out).mono ?_); (case side1 => repeat (first | exact (Kd.R_reads' HO154.out).2.2 | (with_reducible refine Kd.C_alloc ?_ _) | (with_reducible refine Kd.C_drewN ?_ _) | (with_reducible refine Kd.C_drew ?_))); (case side2 => exact (Kd.R_reads' HO154.out).2.1); (case side3 => repeat (first | exact (Kd.R_reads' HO159.out).2.2 | (with_reducible refine Kd.C_alloc ?_ _) | (with_reducible refine Kd.C_drewN ?_ _) | (with_reducible refine Kd.C_drew ?_))); (case side4 => exact (Kd.R_reads' HO159.out).2.1); rintro e w' ⟨rfl, ⟨nd, rfl⟩⟩; refine ⟨_, rfl, ?_⟩))
                      go_ret
                      exact M.fin (M.up HB)
                  · rw [if_neg c26] at H
                    have c26b0 : (t151 == t156) = false := beq_eq_false_iff_ne.mpr c26
                    have c26b1 : (t151 != t156) = true := bne_iff_ne.mpr c26
                    obtain rfl := Option.some.inj H
                    go_wp2_with (first | ((with_reducible refine gate_callee (f := 21) rfl ?_); refine M.goes (some 55) Try.func21 #[.string a1, .int .i64 a2] rfl ?_; (with_reducible refine (varint_Rows.calls a1 a2 t150 t151 t152 _ A22.out).mono ?_); rintro e w38 ⟨v153, rfl, ho0, hb⟩; refine ⟨_, rfl, ?_⟩; have n0_ := Aside0.mk (Kd.R_lower ho0 (below_size (M.up HB))); have n1_ := M.upS HB hb; clear HB; have HO154 := n0_; have HB := n1_; clear n0_ n1_; (try clear hb); (try clear ho0)) | ((with_reducible refine gate_callee (f := 23) rfl ?_); refine M.goes (some 62) Try.func23 #[.string a1, .int .i64 a2] rfl ?_; (with_reducible refine (pleachref01_Rows.calls a1 a2 t155 t156 t157 _ A23.out).mono ?_); rintro e w39 ⟨v158, rfl, ho0, hb⟩; refine ⟨_, rfl, ?_⟩; have n0_ := Aside0.mk (Kd.R_elder' (M.ro HO154) (Kd.R_base ho0) hb); have n1_ := Aside0.mk (Kd.R_lower (Kd.R_new' ho0 (Kd.R_lt (M.ro HO154))) (below_size (M.up HB))); have n2_ := M.upS HB hb; clear HO154 HB; have HO154 := n0_; have HO159 := n1_; have HB := n2_; clear n0_ n1_ n2_; (try clear hb); (try clear ho0); obtain ⟨Ao40, co40, eo40⟩ := Kd.R_slice HO154.out; subst eo40; obtain ⟨Ao41, co41, eo41⟩ := Kd.R_slice HO159.out; subst eo41) | ((with_reducible refine gate_callee (f := 22) rfl ?_); refine M.goes (some 68) Try.func22 #[.slice Ao40 t150.length co40, .slice Ao41 t155.length co41] rfl ?_; (with_reducible refine (pleachplain_Nums.calls _ _ t150 _ _ t155 true _ ?side1 ?side2 ?side3 ?side4 A24.out).mono ?_); (case side1 => repeat (first | exact (Kd.R_reads' HO154.out).2.2 | (with_reducible refine Kd.C_alloc ?_ _) | (with_reducible refine Kd.C_drewN ?_ _) | (with_reducible refine Kd.C_drew ?_))); (case side2 => exact (Kd.R_reads' HO154.out).2.1); (case side3 => repeat (first | exact (Kd.R_reads' HO159.out).2.2 | (with_reducible refine Kd.C_alloc ?_ _) | (with_reducible refine Kd.C_drewN ?_ _) | (with_reducible refine Kd.C_drew ?_))); (case side4 => exact (Kd.R_reads' HO159.out).2.1); rintro e w' ⟨rfl, ⟨nd, rfl⟩⟩; refine ⟨_, rfl, ?_⟩))
                    go_ret
                    exact M.fin (M.up HB)
                · replace c25 := Bool.eq_false_iff.mpr c25
                  subst c25
                  have H1 : (some false) = some r := by rw [if_neg (show ¬ (false = true) by decide)] at H; exact H
                  clear H
                  have H := H1
                  clear H1
                  obtain rfl := Option.some.inj H
                  go_wp2_with (first | ((with_reducible refine gate_callee (f := 21) rfl ?_); refine M.goes (some 55) Try.func21 #[.string a1, .int .i64 a2] rfl ?_; (with_reducible refine (varint_Rows.calls a1 a2 t150 t151 t152 _ A22.out).mono ?_); rintro e w42 ⟨v153, rfl, ho0, hb⟩; refine ⟨_, rfl, ?_⟩; have n0_ := Aside0.mk (Kd.R_lower ho0 (below_size (M.up HB))); have n1_ := M.upS HB hb; clear HB; have HO154 := n0_; have HB := n1_; clear n0_ n1_; (try clear hb); (try clear ho0)) | ((with_reducible refine gate_callee (f := 23) rfl ?_); refine M.goes (some 62) Try.func23 #[.string a1, .int .i64 a2] rfl ?_; (with_reducible refine (pleachref01_Rows.calls a1 a2 t155 t156 t157 _ A23.out).mono ?_); rintro e w43 ⟨v158, rfl, ho0, hb⟩; refine ⟨_, rfl, ?_⟩; have n0_ := Aside0.mk (Kd.R_elder' (M.ro HO154) (Kd.R_base ho0) hb); have n1_ := Aside0.mk (Kd.R_lower (Kd.R_new' ho0 (Kd.R_lt (M.ro HO154))) (below_size (M.up HB))); have n2_ := M.upS HB hb; clear HO154 HB; have HO154 := n0_; have HO159 := n1_; have HB := n2_; clear n0_ n1_ n2_; (try clear hb); (try clear ho0); obtain ⟨Ao44, co44, eo44⟩ := Kd.R_slice HO154.out; subst eo44; obtain ⟨Ao45, co45, eo45⟩ := Kd.R_slice HO159.out; subst eo45) | ((with_reducible refine gate_callee (f := 22) rfl ?_); refine M.goes (some 68) Try.func22 #[.slice Ao44 t150.length co44, .slice Ao45 t155.length co45] rfl ?_; (with_reducible refine (pleachplain_Nums.calls _ _ t150 _ _ t155 false _ ?side1 ?side2 ?side3 ?side4 A24.out).mono ?_); (case side1 => repeat (first | exact (Kd.R_reads' HO154.out).2.2 | (with_reducible refine Kd.C_alloc ?_ _) | (with_reducible refine Kd.C_drewN ?_ _) | (with_reducible refine Kd.C_drew ?_))); (case side2 => exact (Kd.R_reads' HO154.out).2.1); (case side3 => repeat (first | exact (Kd.R_reads' HO159.out).2.2 | (with_reducible refine Kd.C_alloc ?_ _) | (with_reducible refine Kd.C_drewN ?_ _) | (with_reducible refine Kd.C_drew ?_))); (case side4 => exact (Kd.R_reads' HO159.out).2.1); rintro e w' ⟨rfl, ⟨nd, rfl⟩⟩; refine ⟨_, rfl, ?_⟩))
                  go_ret
                  exact M.fin (M.up HB)
        · rw [if_neg c10] at H
          exact absurd H (by simp)

/-- THE ONE PURE STATEMENT of pleachlaw01_VarintRows: yours. -/
def pleachlaw01_VarintRows.Pure : Prop := ∀ (l0 : List Int) (a1 : ByteArray) (a2 : Int), l0.length ≤ maxLen → l0.length * 8 ≤ 140737488351232 → (∀ x ∈ l0, (Lit.int .u64 x).wf = true) → a1.size ≤ 140737488351232 → (Lit.int .i64 a2).wf = true → ∃ k, pleachlaw01_VarintRows.f k l0 a1 a2 = some true
theorem pleachlaw01_VarintRows.walk (P : pleachlaw01_VarintRows.Pure) (a0 : Option Addr) (len0 cap0 : Nat) (z0 : List Int) (a1 : ByteArray) (a2 : Int) (w : World) (w0 : (a0 = none ∧ len0 = 0 ∧ cap0 = 0 ∧ z0 = []) ∨ ∃ x, a0 = some x ∧ len0 ≤ cap0 ∧ cap0 ≤ maxLen ∧ z0.length = cap0 ∧ (∀ i, i < z0.length → w.cell? (x.add i) = some (.int .u64 (z0.getD i 0))) ∧ ∀ n ∈ z0, (Lit.int .u64 n).wf = true) (y0 : len0 * 8 ≤ 140737488351232) (w1 : a1.size ≤ 140737488351232) (w2 : (Lit.int .i64 a2).wf = true) :
    Calls Try.prog 6 #[.slice a0 len0 cap0, .string a1, .int .i64 a2] w fun e w' => e = .returned (.bool true) ∧ Below w.heap.size w w' := by
  obtain ⟨l0, rfl, hr0, hm0, hw0, hc0⟩ := ReadsInt.ofRowC w0
  obtain ⟨k, h⟩ := P l0 a1 a2 hm0 y0 hw0 w1 w2
  refine (pleachlaw01_VarintRows.calls k _ _ l0 a1 a2 true w (Kd.C_of_reads (d := (0 : Int)) (h1 := fun _ => rfl) hr0) hc0 h).mono ?_
  rintro e w' ⟨rfl, hd⟩
  exact ⟨rfl, hd⟩

end Go.Proofs.Ytaooolfledfhoaa.EVarintRows
