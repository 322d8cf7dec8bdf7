-- Written by this session's own program (wip/tools/ext.py) for this claim; Lean checks it.
import Derived.Test.YtnmimkoehgdehaaEScanNobodyx0
import Derived.Test.YtnmimkoehgdehaaEScanNobodyx1
namespace Go.Proofs.Ytnmimkoehgdehaa.EScanNobody
open Go.RowKit Go.Proofs.YtnmimkoehgdehaaW.PrintWords Go.Proofs.YtnmimkoehgdehaaW.PrintLast Go.Proofs.YtnmimkoehgdehaaW.PrintMore
attribute [local go_sem] M.run_leq M.run_gtr M.run_geq max2_int min2_int max_two min_two max_three min_three max_four min_four   -- for this text's walks alone
set_option linter.unusedVariables false
set_option linter.unusedSimpArgs false

/-! ### pleachlaw04_awake_p: function 7 -/
def pleachlaw04_awake_p.f  : Option (Bool) := (scan_New.f (⟨#[2, 97, 98, 1]⟩ : ByteArray)).bind fun bt122 => ((scan_Scan_Text.f bt122.1 bt122.2.1 bt122.2.2.1 bt122.2.2.2 5).bind fun bt127 => ((scan_Scan_Num.f bt127.2.1 bt127.2.2.1 bt127.2.2.2.1 bt127.2.2.2.2 0).bind fun bt132 => (if bt127.1.toList = ([97, 98] : List UInt8) then (if bt132.1 = 0 then ((scan_Scan_Err.f bt132.2.1 bt132.2.2.1 bt132.2.2.2.1 bt132.2.2.2.2).bind fun bt137 => (if bt137.1 = 5 then ((scan_Scan_At.f bt137.2.1 bt137.2.2.1 bt137.2.2.2.1 bt137.2.2.2.2).bind fun bt142 => (some (bt142.1 == 3))) else (some false))) else (some false)) else (some false))))
set_option maxHeartbeats 8000000 in
set_option maxRecDepth 100000 in
theorem pleachlaw04_awake_p.calls  (r : Bool) (w : World) (h : pleachlaw04_awake_p.f  = some r) :
    Calls Try.prog 7 #[] w fun e w' => e = .returned (.bool r) ∧ Below w.heap.size w w' := by
  have HB := Aside0.mk (Below.refl w.heap.size w)
  have H : ((scan_New.f (⟨#[2, 97, 98, 1]⟩ : ByteArray)).bind fun bt122 => ((scan_Scan_Text.f bt122.1 bt122.2.1 bt122.2.2.1 bt122.2.2.2 5).bind fun bt127 => ((scan_Scan_Num.f bt127.2.1 bt127.2.2.1 bt127.2.2.2.1 bt127.2.2.2.2 0).bind fun bt132 => (if bt127.1.toList = ([97, 98] : List UInt8) then (if bt132.1 = 0 then ((scan_Scan_Err.f bt132.2.1 bt132.2.2.1 bt132.2.2.2.1 bt132.2.2.2.2).bind fun bt137 => (if bt137.1 = 5 then ((scan_Scan_At.f bt137.2.1 bt137.2.2.1 bt137.2.2.2.1 bt137.2.2.2.2).bind fun bt142 => (some (bt142.1 == 3))) else (some false))) else (some false)) else (some false))))) = some r := h
  clear h
  replace H := Option.bind_eq_some_iff.mp H
  obtain ⟨⟨t122, t123, t124, t125⟩, A10, H⟩ := H
  replace H : ((scan_Scan_Text.f t122 t123 t124 t125 5).bind fun bt127 => ((scan_Scan_Num.f bt127.2.1 bt127.2.2.1 bt127.2.2.2.1 bt127.2.2.2.2 0).bind fun bt132 => (if bt127.1.toList = ([97, 98] : List UInt8) then (if bt132.1 = 0 then ((scan_Scan_Err.f bt132.2.1 bt132.2.2.1 bt132.2.2.2.1 bt132.2.2.2.2).bind fun bt137 => (if bt137.1 = 5 then ((scan_Scan_At.f bt137.2.1 bt137.2.2.1 bt137.2.2.2.1 bt137.2.2.2.2).bind fun bt142 => (some (bt142.1 == 3))) else (some false))) else (some false)) else (some false)))) = some r := H
  have A1 := Aside0.mk A10
  clear A10
  replace H := Option.bind_eq_some_iff.mp H
  obtain ⟨⟨t127, t128, t129, t130, t131⟩, A20, H⟩ := H
  replace H : ((scan_Scan_Num.f t128 t129 t130 t131 0).bind fun bt132 => (if t127.toList = ([97, 98] : List UInt8) then (if bt132.1 = 0 then ((scan_Scan_Err.f bt132.2.1 bt132.2.2.1 bt132.2.2.2.1 bt132.2.2.2.2).bind fun bt137 => (if bt137.1 = 5 then ((scan_Scan_At.f bt137.2.1 bt137.2.2.1 bt137.2.2.2.1 bt137.2.2.2.2).bind fun bt142 => (some (bt142.1 == 3))) else (some false))) else (some false)) else (some false))) = some r := H
  have A2 := Aside0.mk A20
  clear A20
  replace H := Option.bind_eq_some_iff.mp H
  obtain ⟨⟨t132, t133, t134, t135, t136⟩, A30, H⟩ := H
  replace H : (if t127.toList = ([97, 98] : List UInt8) then (if t132 = 0 then ((scan_Scan_Err.f t133 t134 t135 t136).bind fun bt137 => (if bt137.1 = 5 then ((scan_Scan_At.f bt137.2.1 bt137.2.2.1 bt137.2.2.2.1 bt137.2.2.2.2).bind fun bt142 => (some (bt142.1 == 3))) else (some false))) else (some false)) else (some false)) = some r := H
  have A3 := Aside0.mk A30
  clear A30
  by_cases c4 : t127.toList = ([97, 98] : List UInt8)
  · rw [if_pos c4] at H
    have c4b0 : (t127.toList == ([97, 98] : List UInt8)) = true := beq_iff_eq.mpr c4
    have c4b1 : (t127.toList != ([97, 98] : List UInt8)) = false := bne_eq_false_iff_eq.mpr c4
    clear c4
    by_cases c5 : t132 = 0
    · rw [if_pos c5] at H
      have c5b0 : (t132 == 0) = true := beq_iff_eq.mpr c5
      have c5b1 : (t132 != 0) = false := bne_eq_false_iff_eq.mpr c5
      clear c5
      replace H := Option.bind_eq_some_iff.mp H
      obtain ⟨⟨t137, t138, t139, t140, t141⟩, A60, H⟩ := H
      replace H : (if t137 = 5 then ((scan_Scan_At.f t138 t139 t140 t141).bind fun bt142 => (some (bt142.1 == 3))) else (some false)) = some r := H
      have A6 := Aside0.mk A60
      clear A60
      by_cases c7 : t137 = 5
      · rw [if_pos c7] at H
        have c7b0 : (t137 == 5) = true := beq_iff_eq.mpr c7
        have c7b1 : (t137 != 5) = false := bne_eq_false_iff_eq.mpr c7
        clear c7
        replace H := Option.bind_eq_some_iff.mp H
        obtain ⟨⟨t142, t143, t144, t145, t146⟩, A80, H⟩ := H
        replace H : (some (t142 == 3)) = some r := H
        have A8 := Aside0.mk A80
        clear A80
        obtain rfl := Option.some.inj H
        go_enter Try.func7, Try.ntmps7
        go_wp2_with (first | ((with_reducible refine gate_callee (f := 8) rfl ?_); refine goesL_ (some 4) rfl rfl Try.func8 (by kernel_rfl) rfl #[.string (⟨#[2, 97, 98, 1]⟩ : ByteArray)] rfl (by (try simp only [List.map_toArray, List.map_cons, List.map_nil]); first | done | rfl | (simp only [List.length_drop, List.length_take]; rfl)) ?_; (with_reducible refine (scan_New.calls (⟨#[2, 97, 98, 1]⟩ : ByteArray) t122 t123 t124 t125 w _ ?side1 A1.out).mono ?_); (case side1 => repeat (first | (with_reducible first | exact HB.out | apply below_alloc | apply pw_below_drewN | apply below_drew1) | exact HB.out)); rintro e w9 ⟨g126, rfl, hi, hb, hb2⟩; refine ⟨_, rfl, ?_⟩; have n0_ := Aside0.mk (hb); have n1_ := Aside0.mk (hi); clear HB; have HB := n0_; have HI126 := n1_; clear n0_ n1_; (try clear hb); (try clear hb2); (try clear hk); (try clear hi)) | ((with_reducible refine gate_callee (f := 15) rfl ?_); refine goesL_ (some 6) rfl rfl Try.func15 (by kernel_rfl) rfl #[.pointer (some ⟨g126, 0, none⟩), .int .i64 5] rfl (by (try simp only [List.map_toArray, List.map_cons, List.map_nil]); first | done | rfl | (simp only [List.length_drop, List.length_take]; rfl)) ?_; (with_reducible refine (scan_Scan_Text.calls g126 t122 t123 t124 t125 5 t127 t128 t129 t130 t131 w _ ?side1 ?side2 A2.out).mono ?_); (case side1 => repeat (first | (with_reducible first | exact HI126.out | apply IsS42.alloc | apply IsS42.drewN | apply IsS42.drew | apply IsS42.set_0 | apply IsS42.set_1 | apply IsS42.set_2 | apply IsS42.set_3) | exact HI126.out)); (case side2 => repeat (first | (with_reducible first | exact HB.out | apply below_alloc | apply pw_below_drewN | apply below_drew1 | refine below_set ?_ (IsS42.ge HI126.out)) | exact HB.out)); rintro e w10 ⟨rfl, hi, hb, hk⟩; refine ⟨_, rfl, ?_⟩; have n0_ := Aside0.mk (hb); have n1_ := Aside0.mk (hi); clear HB; clear HI126; have HB := n0_; have HI126 := n1_; clear n0_ n1_; (try clear hb); (try clear hb2); (try clear hk); (try clear hi)) | ((with_reducible refine gate_callee (f := 13) rfl ?_); refine goesL_ (some 8) rfl rfl Try.func13 (by kernel_rfl) rfl #[.pointer (some ⟨g126, 0, none⟩), .int .i64 0] rfl (by (try simp only [List.map_toArray, List.map_cons, List.map_nil]); first | done | rfl | (simp only [List.length_drop, List.length_take]; rfl)) ?_; (with_reducible refine (scan_Scan_Num.calls g126 t128 t129 t130 t131 0 t132 t133 t134 t135 t136 w _ ?side1 ?side2 A3.out).mono ?_); (case side1 => repeat (first | (with_reducible first | exact HI126.out | apply IsS42.alloc | apply IsS42.drewN | apply IsS42.drew | apply IsS42.set_0 | apply IsS42.set_1 | apply IsS42.set_2 | apply IsS42.set_3) | exact HI126.out)); (case side2 => repeat (first | (with_reducible first | exact HB.out | apply below_alloc | apply pw_below_drewN | apply below_drew1 | refine below_set ?_ (IsS42.ge HI126.out)) | exact HB.out)); rintro e w11 ⟨rfl, hi, hb, hk⟩; refine ⟨_, rfl, ?_⟩; have n0_ := Aside0.mk (hb); have n1_ := Aside0.mk (hi); clear HB; clear HI126; have HB := n0_; have HI126 := n1_; clear n0_ n1_; (try clear hb); (try clear hb2); (try clear hk); (try clear hi)) | (go_at_call 18; (with_reducible refine (scan_Scan_Err.calls g126 t133 t134 t135 t136 t137 t138 t139 t140 t141 w _ ?side1 ?side2 A6.out).mono ?_); (case side1 => repeat (first | (with_reducible first | exact HI126.out | apply IsS42.alloc | apply IsS42.drewN | apply IsS42.drew | apply IsS42.set_0 | apply IsS42.set_1 | apply IsS42.set_2 | apply IsS42.set_3) | exact HI126.out)); (case side2 => repeat (first | (with_reducible first | exact HB.out | apply below_alloc | apply pw_below_drewN | apply below_drew1 | refine below_set ?_ (IsS42.ge HI126.out)) | exact HB.out)); rintro e w12 ⟨rfl, hi, hb, hk⟩; have n0_ := Aside0.mk (hb); have n1_ := Aside0.mk (hi); clear HB; clear HI126; have HB := n0_; have HI126 := n1_; clear n0_ n1_; (try clear hb); (try clear hb2); (try clear hk); (try clear hi)) | (go_at_call 19; (with_reducible refine (scan_Scan_At.calls g126 t138 t139 t140 t141 t142 t143 t144 t145 t146 w _ ?side1 ?side2 A8.out).mono ?_); (case side1 => repeat (first | (with_reducible first | exact HI126.out | apply IsS42.alloc | apply IsS42.drewN | apply IsS42.drew | apply IsS42.set_0 | apply IsS42.set_1 | apply IsS42.set_2 | apply IsS42.set_3) | exact HI126.out)); (case side2 => repeat (first | (with_reducible first | exact HB.out | apply below_alloc | apply pw_below_drewN | apply below_drew1 | refine below_set ?_ (IsS42.ge HI126.out)) | exact HB.out)); rintro e w13 ⟨rfl, hi, hb, hk⟩; have n0_ := Aside0.mk (hb); have n1_ := Aside0.mk (hi); clear HB; clear HI126; have HB := n0_; have HI126 := n1_; clear n0_ n1_; (try clear hb); (try clear hb2); (try clear hk); (try clear hi)))
        go_ret
        exact ⟨by first | rfl | (simp [errW_none, errW_some] <;> rfl) | (simp [*, errW_none, errW_some] <;> rfl), by repeat (first | (with_reducible first | exact HB.out | apply below_alloc | apply pw_below_drewN | apply below_drew1 | refine below_set ?_ (IsS42.ge HI126.out)) | exact HB.out)⟩
      · rw [if_neg c7] at H
        have c7b0 : (t137 == 5) = false := beq_eq_false_iff_ne.mpr c7
        have c7b1 : (t137 != 5) = true := bne_iff_ne.mpr c7
        obtain rfl := Option.some.inj H
        go_enter Try.func7, Try.ntmps7
        go_wp2_with (first | ((with_reducible refine gate_callee (f := 8) rfl ?_); refine goesL_ (some 4) rfl rfl Try.func8 (by kernel_rfl) rfl #[.string (⟨#[2, 97, 98, 1]⟩ : ByteArray)] rfl (by (try simp only [List.map_toArray, List.map_cons, List.map_nil]); first | done | rfl | (simp only [List.length_drop, List.length_take]; rfl)) ?_; (with_reducible refine (scan_New.calls (⟨#[2, 97, 98, 1]⟩ : ByteArray) t122 t123 t124 t125 w _ ?side1 A1.out).mono ?_); (case side1 => repeat (first | (with_reducible first | exact HB.out | apply below_alloc | apply pw_below_drewN | apply below_drew1) | exact HB.out)); rintro e w14 ⟨g126, rfl, hi, hb, hb2⟩; refine ⟨_, rfl, ?_⟩; have n0_ := Aside0.mk (hb); have n1_ := Aside0.mk (hi); clear HB; have HB := n0_; have HI126 := n1_; clear n0_ n1_; (try clear hb); (try clear hb2); (try clear hk); (try clear hi)) | ((with_reducible refine gate_callee (f := 15) rfl ?_); refine goesL_ (some 6) rfl rfl Try.func15 (by kernel_rfl) rfl #[.pointer (some ⟨g126, 0, none⟩), .int .i64 5] rfl (by (try simp only [List.map_toArray, List.map_cons, List.map_nil]); first | done | rfl | (simp only [List.length_drop, List.length_take]; rfl)) ?_; (with_reducible refine (scan_Scan_Text.calls g126 t122 t123 t124 t125 5 t127 t128 t129 t130 t131 w _ ?side1 ?side2 A2.out).mono ?_); (case side1 => repeat (first | (with_reducible first | exact HI126.out | apply IsS42.alloc | apply IsS42.drewN | apply IsS42.drew | apply IsS42.set_0 | apply IsS42.set_1 | apply IsS42.set_2 | apply IsS42.set_3) | exact HI126.out)); (case side2 => repeat (first | (with_reducible first | exact HB.out | apply below_alloc | apply pw_below_drewN | apply below_drew1 | refine below_set ?_ (IsS42.ge HI126.out)) | exact HB.out)); rintro e w15 ⟨rfl, hi, hb, hk⟩; refine ⟨_, rfl, ?_⟩; have n0_ := Aside0.mk (hb); have n1_ := Aside0.mk (hi); clear HB; clear HI126; have HB := n0_; have HI126 := n1_; clear n0_ n1_; (try clear hb); (try clear hb2); (try clear hk); (try clear hi)) | ((with_reducible refine gate_callee (f := 13) rfl ?_); refine goesL_ (some 8) rfl rfl Try.func13 (by kernel_rfl) rfl #[.pointer (some ⟨g126, 0, none⟩), .int .i64 0] rfl (by (try simp only [List.map_toArray, List.map_cons, List.map_nil]); first | done | rfl | (simp only [List.length_drop, List.length_take]; rfl)) ?_; (with_reducible refine (scan_Scan_Num.calls g126 t128 t129 t130 t131 0 t132 t133 t134 t135 t136 w _ ?side1 ?side2 A3.out).mono ?_); (case side1 => repeat (first | (with_reducible first | exact HI126.out | apply IsS42.alloc | apply IsS42.drewN | apply IsS42.drew | apply IsS42.set_0 | apply IsS42.set_1 | apply IsS42.set_2 | apply IsS42.set_3) | exact HI126.out)); (case side2 => repeat (first | (with_reducible first | exact HB.out | apply below_alloc | apply pw_below_drewN | apply below_drew1 | refine below_set ?_ (IsS42.ge HI126.out)) | exact HB.out)); rintro e w16 ⟨rfl, hi, hb, hk⟩; refine ⟨_, rfl, ?_⟩; have n0_ := Aside0.mk (hb); have n1_ := Aside0.mk (hi); clear HB; clear HI126; have HB := n0_; have HI126 := n1_; clear n0_ n1_; (try clear hb); (try clear hb2); (try clear hk); (try clear hi)) | (go_at_call 18; (with_reducible refine (scan_Scan_Err.calls g126 t133 t134 t135 t136 t137 t138 t139 t140 t141 w _ ?side1 ?side2 A6.out).mono ?_); (case side1 => repeat (first | (with_reducible first | exact HI126.out | apply IsS42.alloc | apply IsS42.drewN | apply IsS42.drew | apply IsS42.set_0 | apply IsS42.set_1 | apply IsS42.set_2 | apply IsS42.set_3) | exact HI126.out)); (case side2 => repeat (first | (with_reducible first | exact HB.out | apply below_alloc | apply pw_below_drewN | apply below_drew1 | refine below_set ?_ (IsS42.ge HI126.out)) | exact HB.out)); rintro e w17 ⟨rfl, hi, hb, hk⟩; have n0_ := Aside0.mk (hb); have n1_ := Aside0.mk (hi); clear HB; clear HI126; have HB := n0_; have HI126 := n1_; clear n0_ n1_; (try clear hb); (try clear hb2); (try clear hk); (try clear hi)))
        go_ret
        exact ⟨by first | rfl | (simp [errW_none, errW_some] <;> rfl) | (simp [*, errW_none, errW_some] <;> rfl), by repeat (first | (with_reducible first | exact HB.out | apply below_alloc | apply pw_below_drewN | apply below_drew1 | refine below_set ?_ (IsS42.ge HI126.out)) | exact HB.out)⟩
    · rw [if_neg c5] at H
      have c5b0 : (t132 == 0) = false := beq_eq_false_iff_ne.mpr c5
      have c5b1 : (t132 != 0) = true := bne_iff_ne.mpr c5
      obtain rfl := Option.some.inj H
      go_enter Try.func7, Try.ntmps7
      go_wp2_with (first | ((with_reducible refine gate_callee (f := 8) rfl ?_); refine goesL_ (some 4) rfl rfl Try.func8 (by kernel_rfl) rfl #[.string (⟨#[2, 97, 98, 1]⟩ : ByteArray)] rfl (by (try simp only [List.map_toArray, List.map_cons, List.map_nil]); first | done | rfl | (simp only [List.length_drop, List.length_take]; rfl)) ?_; (with_reducible refine (scan_New.calls (⟨#[2, 97, 98, 1]⟩ : ByteArray) t122 t123 t124 t125 w _ ?side1 A1.out).mono ?_); (case side1 => repeat (first | (with_reducible first | exact HB.out | apply below_alloc | apply pw_below_drewN | apply below_drew1) | exact HB.out)); rintro e w18 ⟨g126, rfl, hi, hb, hb2⟩; refine ⟨_, rfl, ?_⟩; have n0_ := Aside0.mk (hb); have n1_ := Aside0.mk (hi); clear HB; have HB := n0_; have HI126 := n1_; clear n0_ n1_; (try clear hb); (try clear hb2); (try clear hk); (try clear hi)) | ((with_reducible refine gate_callee (f := 15) rfl ?_); refine goesL_ (some 6) rfl rfl Try.func15 (by kernel_rfl) rfl #[.pointer (some ⟨g126, 0, none⟩), .int .i64 5] rfl (by (try simp only [List.map_toArray, List.map_cons, List.map_nil]); first | done | rfl | (simp only [List.length_drop, List.length_take]; rfl)) ?_; (with_reducible refine (scan_Scan_Text.calls g126 t122 t123 t124 t125 5 t127 t128 t129 t130 t131 w _ ?side1 ?side2 A2.out).mono ?_); (case side1 => repeat (first | (with_reducible first | exact HI126.out | apply IsS42.alloc | apply IsS42.drewN | apply IsS42.drew | apply IsS42.set_0 | apply IsS42.set_1 | apply IsS42.set_2 | apply IsS42.set_3) | exact HI126.out)); (case side2 => repeat (first | (with_reducible first | exact HB.out | apply below_alloc | apply pw_below_drewN | apply below_drew1 | refine below_set ?_ (IsS42.ge HI126.out)) | exact HB.out)); rintro e w19 ⟨rfl, hi, hb, hk⟩; refine ⟨_, rfl, ?_⟩; have n0_ := Aside0.mk (hb); have n1_ := Aside0.mk (hi); clear HB; clear HI126; have HB := n0_; have HI126 := n1_; clear n0_ n1_; (try clear hb); (try clear hb2); (try clear hk); (try clear hi)) | ((with_reducible refine gate_callee (f := 13) rfl ?_); refine goesL_ (some 8) rfl rfl Try.func13 (by kernel_rfl) rfl #[.pointer (some ⟨g126, 0, none⟩), .int .i64 0] rfl (by (try simp only [List.map_toArray, List.map_cons, List.map_nil]); first | done | rfl | (simp only [List.length_drop, List.length_take]; rfl)) ?_; (with_reducible refine (scan_Scan_Num.calls g126 t128 t129 t130 t131 0 t132 t133 t134 t135 t136 w _ ?side1 ?side2 A3.out).mono ?_); (case side1 => repeat (first | (with_reducible first | exact HI126.out | apply IsS42.alloc | apply IsS42.drewN | apply IsS42.drew | apply IsS42.set_0 | apply IsS42.set_1 | apply IsS42.set_2 | apply IsS42.set_3) | exact HI126.out)); (case side2 => repeat (first | (with_reducible first | exact HB.out | apply below_alloc | apply pw_below_drewN | apply below_drew1 | refine below_set ?_ (IsS42.ge HI126.out)) | exact HB.out)); rintro e w20 ⟨rfl, hi, hb, hk⟩; refine ⟨_, rfl, ?_⟩; have n0_ := Aside0.mk (hb); have n1_ := Aside0.mk (hi); clear HB; clear HI126; have HB := n0_; have HI126 := n1_; clear n0_ n1_; (try clear hb); (try clear hb2); (try clear hk); (try clear hi)))
      go_ret
      exact ⟨by first | rfl | (simp [errW_none, errW_some] <;> rfl) | (simp [*, errW_none, errW_some] <;> rfl), by repeat (first | (with_reducible first | exact HB.out | apply below_alloc | apply pw_below_drewN | apply below_drew1 | refine below_set ?_ (IsS42.ge HI126.out)) | exact HB.out)⟩
  · rw [if_neg c4] at H
    have c4b0 : (t127.toList == ([97, 98] : List UInt8)) = false := beq_eq_false_iff_ne.mpr c4
    have c4b1 : (t127.toList != ([97, 98] : List UInt8)) = true := bne_iff_ne.mpr c4
    obtain rfl := Option.some.inj H
    go_enter Try.func7, Try.ntmps7
    go_wp2_with (first | ((with_reducible refine gate_callee (f := 8) rfl ?_); refine goesL_ (some 4) rfl rfl Try.func8 (by kernel_rfl) rfl #[.string (⟨#[2, 97, 98, 1]⟩ : ByteArray)] rfl (by (try simp only [List.map_toArray, List.map_cons, List.map_nil]); first | done | rfl | (simp only [List.length_drop, List.length_take]; rfl)) ?_; (with_reducible refine (scan_New.calls (⟨#[2, 97, 98, 1]⟩ : ByteArray) t122 t123 t124 t125 w _ ?side1 A1.out).mono ?_); (case side1 => repeat (first | (with_reducible first | exact HB.out | apply below_alloc | apply pw_below_drewN | apply below_drew1) | exact HB.out)); rintro e w21 ⟨g126, rfl, hi, hb, hb2⟩; refine ⟨_, rfl, ?_⟩; have n0_ := Aside0.mk (hb); have n1_ := Aside0.mk (hi); clear HB; have HB := n0_; have HI126 := n1_; clear n0_ n1_; (try clear hb); (try clear hb2); (try clear hk); (try clear hi)) | ((with_reducible refine gate_callee (f := 15) rfl ?_); refine goesL_ (some 6) rfl rfl Try.func15 (by kernel_rfl) rfl #[.pointer (some ⟨g126, 0, none⟩), .int .i64 5] rfl (by (try simp only [List.map_toArray, List.map_cons, List.map_nil]); first | done | rfl | (simp only [List.length_drop, List.length_take]; rfl)) ?_; (with_reducible refine (scan_Scan_Text.calls g126 t122 t123 t124 t125 5 t127 t128 t129 t130 t131 w _ ?side1 ?side2 A2.out).mono ?_); (case side1 => repeat (first | (with_reducible first | exact HI126.out | apply IsS42.alloc | apply IsS42.drewN | apply IsS42.drew | apply IsS42.set_0 | apply IsS42.set_1 | apply IsS42.set_2 | apply IsS42.set_3) | exact HI126.out)); (case side2 => repeat (first | (with_reducible first | exact HB.out | apply below_alloc | apply pw_below_drewN | apply below_drew1 | refine below_set ?_ (IsS42.ge HI126.out)) | exact HB.out)); rintro e w22 ⟨rfl, hi, hb, hk⟩; refine ⟨_, rfl, ?_⟩; have n0_ := Aside0.mk (hb); have n1_ := Aside0.mk (hi); clear HB; clear HI126; have HB := n0_; have HI126 := n1_; clear n0_ n1_; (try clear hb); (try clear hb2); (try clear hk); (try clear hi)) | ((with_reducible refine gate_callee (f := 13) rfl ?_); refine goesL_ (some 8) rfl rfl Try.func13 (by kernel_rfl) rfl #[.pointer (some ⟨g126, 0, none⟩), .int .i64 0] rfl (by (try simp only [List.map_toArray, List.map_cons, List.map_nil]); first | done | rfl | (simp only [List.length_drop, List.length_take]; rfl)) ?_; (with_reducible refine (scan_Scan_Num.calls g126 t128 t129 t130 t131 0 t132 t133 t134 t135 t136 w _ ?side1 ?side2 A3.out).mono ?_); (case side1 => repeat (first | (with_reducible first | exact HI126.out | apply IsS42.alloc | apply IsS42.drewN | apply IsS42.drew | apply IsS42.set_0 | apply IsS42.set_1 | apply IsS42.set_2 | apply IsS42.set_3) | exact HI126.out)); (case side2 => repeat (first | (with_reducible first | exact HB.out | apply below_alloc | apply pw_below_drewN | apply below_drew1 | refine below_set ?_ (IsS42.ge HI126.out)) | exact HB.out)); rintro e w23 ⟨rfl, hi, hb, hk⟩; refine ⟨_, rfl, ?_⟩; have n0_ := Aside0.mk (hb); have n1_ := Aside0.mk (hi); clear HB; clear HI126; have HB := n0_; have HI126 := n1_; clear n0_ n1_; (try clear hb); (try clear hb2); (try clear hk); (try clear hi)))
    go_ret
    exact ⟨by first | rfl | (simp [errW_none, errW_some] <;> rfl) | (simp [*, errW_none, errW_some] <;> rfl), by repeat (first | (with_reducible first | exact HB.out | apply below_alloc | apply pw_below_drewN | apply below_drew1 | refine below_set ?_ (IsS42.ge HI126.out)) | exact HB.out)⟩

-- this session's own plain form
def pleachlaw04_awake.f : Option Bool := some true
theorem pleachlaw04_awake.v1 : M.vget ((⟨#[2, 97, 98, 1]⟩ : ByteArray).extract (0 : Int).toNat (⟨#[2, 97, 98, 1]⟩ : ByteArray).size) = (2, 1, true) := by
  unfold M.vget
  rw [M.bs_drop]
  show M.vgetL [2, 97, 98, 1] = _
  simp [M.vgetL, M.vdec]
theorem pleachlaw04_awake.v2 : M.vget ((⟨#[2, 97, 98, 1]⟩ : ByteArray).extract (3 : Int).toNat (⟨#[2, 97, 98, 1]⟩ : ByteArray).size) = (1, 1, true) := by
  unfold M.vget
  rw [M.bs_drop]
  show M.vgetL [1] = _
  simp [M.vgetL, M.vdec]
theorem pleachlaw04_awake.ev (r : Bool) (h : pleachlaw04_awake.f = some r) : pleachlaw04_awake_p.f = some r := by
  obtain rfl := Option.some.inj h
  have h1 : M.sok (⟨#[2, 97, 98, 1]⟩ : ByteArray) 0 := ⟨by decide, by decide, by decide⟩
  have h3 : M.sok (⟨#[2, 97, 98, 1]⟩ : ByteArray) 3 := ⟨by decide, by decide, by decide⟩
  have e1 : M.xnum (⟨#[2, 97, 98, 1]⟩ : ByteArray) 0 0 5 = (2, 1, 0) := by
    unfold M.xnum M.snum; rw [pleachlaw04_awake.v1]; simp
  have e2 : M.xtext (⟨#[2, 97, 98, 1]⟩ : ByteArray) 0 0 5 = ((⟨#[2, 97, 98, 1]⟩ : ByteArray).extract (1 : Int).toNat (3 : Int).toNat, 3, 0) := by
    unfold M.xtext; rw [e1]; unfold M.xfix M.sfix; simp only [if_true]; rw [if_neg (by decide)]; rfl
  have e3 : M.snum (⟨#[2, 97, 98, 1]⟩ : ByteArray) 3 0 = (0, 3, 5) := by
    unfold M.snum; rw [pleachlaw04_awake.v2]; simp
  have e4 : ((⟨#[2, 97, 98, 1]⟩ : ByteArray).extract (1 : Int).toNat (3 : Int).toNat).toList = [97, 98] := by
    rw [M.toList_bs, M.bs_extract]; rfl
  unfold pleachlaw04_awake_p.f scan_New.f scan_Scan_Text.f scan_Scan_Num.f scan_Scan_Err.f scan_Scan_At.f
  rw [Option.bind_some]
  simp only
  rw [if_pos trivial, if_pos ⟨h1, by decide⟩, Option.bind_some]
  simp only [e2]
  rw [if_pos ⟨trivial, trivial⟩, if_pos ⟨h3, by decide⟩, Option.bind_some]
  simp only [e3, e4]
  simp
theorem pleachlaw04_awake.calls  (r : Bool) (w : World) (h : pleachlaw04_awake.f  = some r) :
    Calls Try.prog 7 #[] w fun e w' => e = .returned (.bool r) ∧ Below w.heap.size w w' := by
  exact pleachlaw04_awake_p.calls (w := w) (h := pleachlaw04_awake.ev _ h)

/-! ### scan_Scan_Fail: function 10 -/
def scan_Scan_Fail.f (s0_0 : ByteArray) (s0_1 : Int) (s0_2 : Int) (s0_3 : Bool) (a1 : Int) : Option (ByteArray × Int × Int × Bool) := if a1 = 0 then (some (s0_0, s0_1, s0_2, s0_3)) else ((scan_Scan_fail.f s0_0 s0_1 s0_2 s0_3 a1).bind fun bt147 => (some (bt147.1, bt147.2.1, bt147.2.2.1, bt147.2.2.2)))
set_option maxHeartbeats 8000000 in
set_option maxRecDepth 100000 in
theorem scan_Scan_Fail.calls (g : Nat) (s0_0 : ByteArray) (s0_1 : Int) (s0_2 : Int) (s0_3 : Bool) (a1 : Int) (r1 : ByteArray) (r2 : Int) (r3 : Int) (r4 : Bool) (w0 w : World) (hI : IsS42 w0 w g s0_0 s0_1 s0_2 s0_3) (hB : Below w0.heap.size w0 w) (h : scan_Scan_Fail.f s0_0 s0_1 s0_2 s0_3 a1 = some (r1, r2, r3, r4)) :
    Calls Try.prog 10 #[.pointer (some ⟨g, 0, none⟩), .int .i64 a1] w fun e w' => e = .returned (.tuple #[]) ∧ IsS42 w0 w' g r1 r2 r3 r4 ∧ Below w0.heap.size w0 w' ∧ KeepBut w w' g none := by
  have HI0 := Aside0.mk hI
  have HK := Aside0.mk (KeepBut.refl w g none)
  have HL := Aside0.mk hB.size
  clear hI
  have HW0 := Aside0.mk hB.size
  have HB := Aside0.mk hB
  clear hB
  have H : (if a1 = 0 then (some (s0_0, s0_1, s0_2, s0_3)) else ((scan_Scan_fail.f s0_0 s0_1 s0_2 s0_3 a1).bind fun bt147 => (some (bt147.1, bt147.2.1, bt147.2.2.1, bt147.2.2.2)))) = some (r1, r2, r3, r4) := h
  clear h
  by_cases c3 : a1 = 0
  · rw [if_pos c3] at H
    have c3b0 : (a1 == 0) = true := beq_iff_eq.mpr c3
    have c3b1 : (a1 != 0) = false := bne_eq_false_iff_eq.mpr c3
    clear c3
    simp only [Option.some.injEq, Prod.mk.injEq] at H
    obtain ⟨rfl, rfl, rfl, rfl⟩ := H
    go_enter Try.func10, Try.ntmps10
    go_wp2
    first | go_end0 | ((try simp only [Exit.inBlock, Exit.then]); refine bodyPost_ret (results_none rfl _ _ _) rfl ?_)
    exact ⟨by first | rfl | (simp [errW_none, errW_some] <;> rfl) | (simp [*, errW_none, errW_some] <;> rfl), by repeat (first | (with_reducible first | exact HI0.out | apply IsS42.alloc | apply IsS42.drewN | apply IsS42.drew | apply IsS42.set_0 | apply IsS42.set_1 | apply IsS42.set_2 | apply IsS42.set_3) | exact HI0.out), by repeat (first | (with_reducible first | exact HB.out | apply below_alloc | apply pw_below_drewN | apply below_drew1 | refine below_set ?_ (IsS42.ge HI0.out)) | exact HB.out), by repeat (first | (with_reducible first | exact HK.out | apply KeepBut.set_ | apply keep_drewN | apply keep_drew | apply keep_alloc) | exact HK.out)⟩
  · rw [if_neg c3] at H
    have c3b0 : (a1 == 0) = false := beq_eq_false_iff_ne.mpr c3
    have c3b1 : (a1 != 0) = true := bne_iff_ne.mpr c3
    replace H := Option.bind_eq_some_iff.mp H
    obtain ⟨⟨t147, t148, t149, t150⟩, A40, H⟩ := H
    replace H : (some (t147, t148, t149, t150)) = some (r1, r2, r3, r4) := H
    have A4 := Aside0.mk A40
    clear A40
    simp only [Option.some.injEq, Prod.mk.injEq] at H
    obtain ⟨rfl, rfl, rfl, rfl⟩ := H
    go_enter Try.func10, Try.ntmps10
    go_wp2_with (first | ((with_reducible refine gate_callee (f := 35) rfl ?_); refine goesL_ (some 12) rfl rfl Try.func35 (by kernel_rfl) rfl #[.pointer (some ⟨g, 0, none⟩), .int .i64 a1] rfl (by (try simp only [List.map_toArray, List.map_cons, List.map_nil]); first | done | rfl | (simp only [List.length_drop, List.length_take]; rfl)) ?_; (with_reducible refine (scan_Scan_fail.calls g s0_0 s0_1 s0_2 s0_3 a1 t147 t148 t149 t150 w0 _ ?side1 ?side2 A4.out).mono ?_); (case side1 => repeat (first | (with_reducible first | exact HI0.out | apply IsS42.alloc | apply IsS42.drewN | apply IsS42.drew | apply IsS42.set_0 | apply IsS42.set_1 | apply IsS42.set_2 | apply IsS42.set_3) | exact HI0.out)); (case side2 => repeat (first | (with_reducible first | exact HB.out | apply below_alloc | apply pw_below_drewN | apply below_drew1 | refine below_set ?_ (IsS42.ge HI0.out)) | exact HB.out)); rintro e w5 ⟨rfl, hi, hb, hk⟩; refine ⟨_, rfl, ?_⟩; have n0_ := Aside0.mk (KeepBut.trans (by repeat (first | (with_reducible first | exact HK.out | apply KeepBut.set_ | apply keep_drewN | apply keep_drew | apply keep_alloc) | exact HK.out)) hk (.inl rfl)); have n1_ := Aside0.mk (hb); have n2_ := Aside0.mk (hi); clear HK; clear HB; clear HI0; have HK := n0_; have HB := n1_; have HI0 := n2_; clear n0_ n1_ n2_; (try clear hb); (try clear hb2); (try clear hk); (try clear hi)))
    first | go_end0 | ((try simp only [Exit.inBlock, Exit.then]); refine bodyPost_ret (results_none rfl _ _ _) rfl ?_)
    exact ⟨by first | rfl | (simp [errW_none, errW_some] <;> rfl) | (simp [*, errW_none, errW_some] <;> rfl), by repeat (first | (with_reducible first | exact HI0.out | apply IsS42.alloc | apply IsS42.drewN | apply IsS42.drew | apply IsS42.set_0 | apply IsS42.set_1 | apply IsS42.set_2 | apply IsS42.set_3) | exact HI0.out), by repeat (first | (with_reducible first | exact HB.out | apply below_alloc | apply pw_below_drewN | apply below_drew1 | refine below_set ?_ (IsS42.ge HI0.out)) | exact HB.out), by repeat (first | (with_reducible first | exact HK.out | apply KeepBut.set_ | apply keep_drewN | apply keep_drew | apply keep_alloc) | exact HK.out)⟩

/-! ### scan_Scan_Fix_p: function 11 -/
def scan_Scan_Fix_p.f (s0_0 : ByteArray) (s0_1 : Int) (s0_2 : Int) (s0_3 : Bool) (a1 : Int) : Option (ByteArray × ByteArray × Int × Int × Bool) := (scan_Scan_take.f s0_0 s0_1 s0_2 s0_3 a1).bind fun bt151 => (some (bt151.1, bt151.2.1, bt151.2.2.1, bt151.2.2.2.1, bt151.2.2.2.2))
set_option maxHeartbeats 8000000 in
set_option maxRecDepth 100000 in
theorem scan_Scan_Fix_p.calls (g : Nat) (s0_0 : ByteArray) (s0_1 : Int) (s0_2 : Int) (s0_3 : Bool) (a1 : Int) (r1 : ByteArray) (r2 : ByteArray) (r3 : Int) (r4 : Int) (r5 : Bool) (w0 w : World) (hI : IsS42 w0 w g s0_0 s0_1 s0_2 s0_3) (hB : Below w0.heap.size w0 w) (h : scan_Scan_Fix_p.f s0_0 s0_1 s0_2 s0_3 a1 = some (r1, r2, r3, r4, r5)) :
    Calls Try.prog 11 #[.pointer (some ⟨g, 0, none⟩), .int .i64 a1] w fun e w' => e = .returned (.string r1) ∧ IsS42 w0 w' g r2 r3 r4 r5 ∧ Below w0.heap.size w0 w' ∧ KeepBut w w' g none := by
  have HI0 := Aside0.mk hI
  have HK := Aside0.mk (KeepBut.refl w g none)
  have HL := Aside0.mk hB.size
  clear hI
  have HW0 := Aside0.mk hB.size
  have HB := Aside0.mk hB
  clear hB
  have H : ((scan_Scan_take.f s0_0 s0_1 s0_2 s0_3 a1).bind fun bt151 => (some (bt151.1, bt151.2.1, bt151.2.2.1, bt151.2.2.2.1, bt151.2.2.2.2))) = some (r1, r2, r3, r4, r5) := h
  clear h
  replace H := Option.bind_eq_some_iff.mp H
  obtain ⟨⟨t151, t152, t153, t154, t155⟩, A30, H⟩ := H
  replace H : (some (t151, t152, t153, t154, t155)) = some (r1, r2, r3, r4, r5) := H
  have A3 := Aside0.mk A30
  clear A30
  simp only [Option.some.injEq, Prod.mk.injEq] at H
  obtain ⟨rfl, rfl, rfl, rfl, rfl⟩ := H
  go_enter Try.func11, Try.ntmps11
  go_wp2_with (first | ((with_reducible refine gate_callee (f := 36) rfl ?_); refine goesL_ (some 7) rfl rfl Try.func36 (by kernel_rfl) rfl #[.pointer (some ⟨g, 0, none⟩), .int .i64 a1] rfl (by (try simp only [List.map_toArray, List.map_cons, List.map_nil]); first | done | rfl | (simp only [List.length_drop, List.length_take]; rfl)) ?_; (with_reducible refine (scan_Scan_take.calls g s0_0 s0_1 s0_2 s0_3 a1 t151 t152 t153 t154 t155 w0 _ ?side1 ?side2 A3.out).mono ?_); (case side1 => repeat (first | (with_reducible first | exact HI0.out | apply IsS42.alloc | apply IsS42.drewN | apply IsS42.drew | apply IsS42.set_0 | apply IsS42.set_1 | apply IsS42.set_2 | apply IsS42.set_3) | exact HI0.out)); (case side2 => repeat (first | (with_reducible first | exact HB.out | apply below_alloc | apply pw_below_drewN | apply below_drew1 | refine below_set ?_ (IsS42.ge HI0.out)) | exact HB.out)); rintro e w4 ⟨rfl, hi, hb, hk⟩; refine ⟨_, rfl, ?_⟩; have n0_ := Aside0.mk (KeepBut.trans (by repeat (first | (with_reducible first | exact HK.out | apply KeepBut.set_ | apply keep_drewN | apply keep_drew | apply keep_alloc) | exact HK.out)) hk (.inl rfl)); have n1_ := Aside0.mk (hb); have n2_ := Aside0.mk (hi); clear HK; clear HB; clear HI0; have HK := n0_; have HB := n1_; have HI0 := n2_; clear n0_ n1_ n2_; (try clear hb); (try clear hb2); (try clear hk); (try clear hi)))
  go_ret
  exact ⟨by first | rfl | (simp [errW_none, errW_some] <;> rfl) | (simp [*, errW_none, errW_some] <;> rfl), by repeat (first | (with_reducible first | exact HI0.out | apply IsS42.alloc | apply IsS42.drewN | apply IsS42.drew | apply IsS42.set_0 | apply IsS42.set_1 | apply IsS42.set_2 | apply IsS42.set_3) | exact HI0.out), by repeat (first | (with_reducible first | exact HB.out | apply below_alloc | apply pw_below_drewN | apply below_drew1 | refine below_set ?_ (IsS42.ge HI0.out)) | exact HB.out), by repeat (first | (with_reducible first | exact HK.out | apply KeepBut.set_ | apply keep_drewN | apply keep_drew | apply keep_alloc) | exact HK.out)⟩

-- this session's own plain form
def scan_Scan_Fix.f (s0_0 : ByteArray) (s0_1 : Int) (s0_2 : Int) (s0_3 : Bool) (a1 : Int) : Option (ByteArray × ByteArray × Int × Int × Bool) := scan_Scan_take.f s0_0 s0_1 s0_2 s0_3 a1
theorem scan_Scan_Fix.ev (s : ByteArray) (p er : Int) (md : Bool) (n : Int) (r : ByteArray × ByteArray × Int × Int × Bool) (h : scan_Scan_Fix.f s p er md n = some r) : scan_Scan_Fix_p.f s p er md n = some r := by
  unfold scan_Scan_Fix.f at h
  unfold scan_Scan_Fix_p.f
  rw [h]; rfl
theorem scan_Scan_Fix.calls (g : Nat) (s0_0 : ByteArray) (s0_1 : Int) (s0_2 : Int) (s0_3 : Bool) (a1 : Int) (r1 : ByteArray) (r2 : ByteArray) (r3 : Int) (r4 : Int) (r5 : Bool) (w0 w : World) (hI : IsS42 w0 w g s0_0 s0_1 s0_2 s0_3) (hB : Below w0.heap.size w0 w) (h : scan_Scan_Fix.f s0_0 s0_1 s0_2 s0_3 a1 = some (r1, r2, r3, r4, r5)) :
    Calls Try.prog 11 #[.pointer (some ⟨g, 0, none⟩), .int .i64 a1] w fun e w' => e = .returned (.string r1) ∧ IsS42 w0 w' g r2 r3 r4 r5 ∧ Below w0.heap.size w0 w' ∧ KeepBut w w' g none := by
  exact scan_Scan_Fix_p.calls (w := w) (h := scan_Scan_Fix.ev _ _ _ _ _ _ h) (hI := hI) (hB := hB)

/-! ### scan_Scan_Byte_p: function 12 -/
def scan_Scan_Byte_p.f (s0_0 : ByteArray) (s0_1 : Int) (s0_2 : Int) (s0_3 : Bool) : Option (Int × ByteArray × Int × Int × Bool) := (scan_Scan_take.f s0_0 s0_1 s0_2 s0_3 1).bind fun bt156 => (if bt156.1.toList = ([] : List UInt8) then (some (0, bt156.2.1, bt156.2.2.1, bt156.2.2.2.1, bt156.2.2.2.2)) else (if 0 < (bt156.1.size : Int) then (some (wrap64 (bt bt156.1 0), bt156.2.1, bt156.2.2.1, bt156.2.2.2.1, bt156.2.2.2.2)) else (none)))
set_option maxHeartbeats 8000000 in
set_option maxRecDepth 100000 in
theorem scan_Scan_Byte_p.calls (g : Nat) (s0_0 : ByteArray) (s0_1 : Int) (s0_2 : Int) (s0_3 : Bool) (r1 : Int) (r2 : ByteArray) (r3 : Int) (r4 : Int) (r5 : Bool) (w0 w : World) (hI : IsS42 w0 w g s0_0 s0_1 s0_2 s0_3) (hB : Below w0.heap.size w0 w) (h : scan_Scan_Byte_p.f s0_0 s0_1 s0_2 s0_3 = some (r1, r2, r3, r4, r5)) :
    Calls Try.prog 12 #[.pointer (some ⟨g, 0, none⟩)] w fun e w' => e = .returned (.int .i64 r1) ∧ IsS42 w0 w' g r2 r3 r4 r5 ∧ Below w0.heap.size w0 w' ∧ KeepBut w w' g none := by
  have HI0 := Aside0.mk hI
  have HK := Aside0.mk (KeepBut.refl w g none)
  have HL := Aside0.mk hB.size
  clear hI
  have HW0 := Aside0.mk hB.size
  have HB := Aside0.mk hB
  clear hB
  have H : ((scan_Scan_take.f s0_0 s0_1 s0_2 s0_3 1).bind fun bt156 => (if bt156.1.toList = ([] : List UInt8) then (some (0, bt156.2.1, bt156.2.2.1, bt156.2.2.2.1, bt156.2.2.2.2)) else (if 0 < (bt156.1.size : Int) then (some (wrap64 (bt bt156.1 0), bt156.2.1, bt156.2.2.1, bt156.2.2.2.1, bt156.2.2.2.2)) else (none)))) = some (r1, r2, r3, r4, r5) := h
  clear h
  replace H := Option.bind_eq_some_iff.mp H
  obtain ⟨⟨t156, t157, t158, t159, t160⟩, A20, H⟩ := H
  replace H : (if t156.toList = ([] : List UInt8) then (some (0, t157, t158, t159, t160)) else (if 0 < (t156.size : Int) then (some (wrap64 (bt t156 0), t157, t158, t159, t160)) else (none))) = some (r1, r2, r3, r4, r5) := H
  have A2 := Aside0.mk A20
  clear A20
  by_cases c3 : t156.toList = ([] : List UInt8)
  · rw [if_pos c3] at H
    have c3b0 : (t156.toList == ([] : List UInt8)) = true := beq_iff_eq.mpr c3
    have c3b1 : (t156.toList != ([] : List UInt8)) = false := bne_eq_false_iff_eq.mpr c3
    clear c3
    simp only [Option.some.injEq, Prod.mk.injEq] at H
    obtain ⟨rfl, rfl, rfl, rfl, rfl⟩ := H
    go_enter Try.func12, Try.ntmps12
    go_wp2_with (first | ((with_reducible refine gate_callee (f := 36) rfl ?_); refine goesL_ (some 5) rfl rfl Try.func36 (by kernel_rfl) rfl #[.pointer (some ⟨g, 0, none⟩), .int .i64 1] rfl (by (try simp only [List.map_toArray, List.map_cons, List.map_nil]); first | done | rfl | (simp only [List.length_drop, List.length_take]; rfl)) ?_; (with_reducible refine (scan_Scan_take.calls g s0_0 s0_1 s0_2 s0_3 1 t156 t157 t158 t159 t160 w0 _ ?side1 ?side2 A2.out).mono ?_); (case side1 => repeat (first | (with_reducible first | exact HI0.out | apply IsS42.alloc | apply IsS42.drewN | apply IsS42.drew | apply IsS42.set_0 | apply IsS42.set_1 | apply IsS42.set_2 | apply IsS42.set_3) | exact HI0.out)); (case side2 => repeat (first | (with_reducible first | exact HB.out | apply below_alloc | apply pw_below_drewN | apply below_drew1 | refine below_set ?_ (IsS42.ge HI0.out)) | exact HB.out)); rintro e w4 ⟨rfl, hi, hb, hk⟩; refine ⟨_, rfl, ?_⟩; have n0_ := Aside0.mk (KeepBut.trans (by repeat (first | (with_reducible first | exact HK.out | apply KeepBut.set_ | apply keep_drewN | apply keep_drew | apply keep_alloc) | exact HK.out)) hk (.inl rfl)); have n1_ := Aside0.mk (hb); have n2_ := Aside0.mk (hi); clear HK; clear HB; clear HI0; have HK := n0_; have HB := n1_; have HI0 := n2_; clear n0_ n1_ n2_; (try clear hb); (try clear hb2); (try clear hk); (try clear hi)))
    go_ret
    exact ⟨by first | rfl | (simp [errW_none, errW_some] <;> rfl) | (simp [*, errW_none, errW_some] <;> rfl), by repeat (first | (with_reducible first | exact HI0.out | apply IsS42.alloc | apply IsS42.drewN | apply IsS42.drew | apply IsS42.set_0 | apply IsS42.set_1 | apply IsS42.set_2 | apply IsS42.set_3) | exact HI0.out), by repeat (first | (with_reducible first | exact HB.out | apply below_alloc | apply pw_below_drewN | apply below_drew1 | refine below_set ?_ (IsS42.ge HI0.out)) | exact HB.out), by repeat (first | (with_reducible first | exact HK.out | apply KeepBut.set_ | apply keep_drewN | apply keep_drew | apply keep_alloc) | exact HK.out)⟩
  · rw [if_neg c3] at H
    have c3b0 : (t156.toList == ([] : List UInt8)) = false := beq_eq_false_iff_ne.mpr c3
    have c3b1 : (t156.toList != ([] : List UInt8)) = true := bne_iff_ne.mpr c3
    by_cases c5 : 0 < (t156.size : Int)
    · rw [if_pos c5] at H
      have c5b0 : decide (0 < (t156.size : Int)) = true := decide_eq_true c5
      have c5b1 : decide (0 < t156.size) = true := decide_eq_true (by omega)
      clear c5
      simp only [Option.some.injEq, Prod.mk.injEq] at H
      obtain ⟨rfl, rfl, rfl, rfl, rfl⟩ := H
      go_enter Try.func12, Try.ntmps12
      go_wp2_with (first | ((with_reducible refine gate_callee (f := 36) rfl ?_); refine goesL_ (some 5) rfl rfl Try.func36 (by kernel_rfl) rfl #[.pointer (some ⟨g, 0, none⟩), .int .i64 1] rfl (by (try simp only [List.map_toArray, List.map_cons, List.map_nil]); first | done | rfl | (simp only [List.length_drop, List.length_take]; rfl)) ?_; (with_reducible refine (scan_Scan_take.calls g s0_0 s0_1 s0_2 s0_3 1 t156 t157 t158 t159 t160 w0 _ ?side1 ?side2 A2.out).mono ?_); (case side1 => repeat (first | (with_reducible first | exact HI0.out | apply IsS42.alloc | apply IsS42.drewN | apply IsS42.drew | apply IsS42.set_0 | apply IsS42.set_1 | apply IsS42.set_2 | apply IsS42.set_3) | exact HI0.out)); (case side2 => repeat (first | (with_reducible first | exact HB.out | apply below_alloc | apply pw_below_drewN | apply below_drew1 | refine below_set ?_ (IsS42.ge HI0.out)) | exact HB.out)); rintro e w7 ⟨rfl, hi, hb, hk⟩; refine ⟨_, rfl, ?_⟩; have n0_ := Aside0.mk (KeepBut.trans (by repeat (first | (with_reducible first | exact HK.out | apply KeepBut.set_ | apply keep_drewN | apply keep_drew | apply keep_alloc) | exact HK.out)) hk (.inl rfl)); have n1_ := Aside0.mk (hb); have n2_ := Aside0.mk (hi); clear HK; clear HB; clear HI0; have HK := n0_; have HB := n1_; have HI0 := n2_; clear n0_ n1_ n2_; (try clear hb); (try clear hb2); (try clear hk); (try clear hi); have p6 : 0 ≤ (0 : Int) := (by omega); have q6 : 0 < t156.size := (by have : (0 : Int) < (t156.size : Int) := of_decide_eq_true (by first | (with_reducible assumption) | assumption); omega); have hx6 : ∀ h : 0 < t156.size, ((t156[0]'h).toNat : Int) = bt t156 0 := bt_at t156 0; clear p6; have qi6 : (0 < (t156.size : Int)) = True := eq_true (of_decide_eq_true (by first | (with_reducible assumption) | assumption)); replace q6 := eq_true q6))
      go_ret
      exact ⟨by first | rfl | (simp [errW_none, errW_some] <;> rfl) | (simp [*, errW_none, errW_some] <;> rfl), by repeat (first | (with_reducible first | exact HI0.out | apply IsS42.alloc | apply IsS42.drewN | apply IsS42.drew | apply IsS42.set_0 | apply IsS42.set_1 | apply IsS42.set_2 | apply IsS42.set_3) | exact HI0.out), by repeat (first | (with_reducible first | exact HB.out | apply below_alloc | apply pw_below_drewN | apply below_drew1 | refine below_set ?_ (IsS42.ge HI0.out)) | exact HB.out), by repeat (first | (with_reducible first | exact HK.out | apply KeepBut.set_ | apply keep_drewN | apply keep_drew | apply keep_alloc) | exact HK.out)⟩
    · rw [if_neg c5] at H
      exact absurd H (by simp)

-- this session's own plain form
def scan_Scan_Byte.f (s0_0 : ByteArray) (s0_1 : Int) (s0_2 : Int) (s0_3 : Bool) : Option (Int × ByteArray × Int × Int × Bool) :=
  if s0_3 = true then (if M.sok s0_0 s0_1 then some ((M.xbyte s0_0 s0_1 s0_2).1, s0_0, (M.xbyte s0_0 s0_1 s0_2).2.1, (M.xbyte s0_0 s0_1 s0_2).2.2, true) else none) else some (0, s0_0, s0_1, s0_2, s0_3)
theorem scan_Scan_Byte.ev (s : ByteArray) (p er : Int) (md : Bool) (r : Int × ByteArray × Int × Int × Bool) (h : scan_Scan_Byte.f s p er md = some r) : scan_Scan_Byte_p.f s p er md = some r := by
  unfold scan_Scan_Byte.f at h
  have hnil : (M.sb []).toList = ([] : List UInt8) := by rw [M.toList_bs]; rfl
  unfold scan_Scan_Byte_p.f scan_Scan_take.f
  cases md with
  | false =>
    rw [if_neg (by simp)] at h ⊢
    rw [Option.bind_some]
    simp only
    rw [if_pos hnil]; exact h
  | true =>
    rw [if_pos rfl] at h ⊢
    split at h
    case isFalse => cases h
    case isTrue hs =>
      rw [if_pos ⟨hs, by decide, by decide⟩, Option.bind_some, ← h]
      have hb := M.byte_of s hs
      unfold M.xfix M.xbyte
      by_cases he : er = 0
      · simp only [if_pos he]
        by_cases hp : p < s.size
        · obtain ⟨e1, e2, e3⟩ := hb hp
          unfold M.sfix
          have c2 : ¬ ((1 : Int) < 0 ∨ (s.size : Int) - p < 1) := by omega
          rw [if_neg c2, if_pos hp]
          simp only
          rw [if_neg e1, if_pos e2, e3]
        · unfold M.sfix
          have c2 : (1 : Int) < 0 ∨ (s.size : Int) - p < 1 := by omega
          rw [if_pos c2, if_neg hp]
          simp only
          rw [if_pos hnil]
      · simp only [if_neg he]
        rw [if_pos hnil]
theorem scan_Scan_Byte.calls (g : Nat) (s0_0 : ByteArray) (s0_1 : Int) (s0_2 : Int) (s0_3 : Bool) (r1 : Int) (r2 : ByteArray) (r3 : Int) (r4 : Int) (r5 : Bool) (w0 w : World) (hI : IsS42 w0 w g s0_0 s0_1 s0_2 s0_3) (hB : Below w0.heap.size w0 w) (h : scan_Scan_Byte.f s0_0 s0_1 s0_2 s0_3 = some (r1, r2, r3, r4, r5)) :
    Calls Try.prog 12 #[.pointer (some ⟨g, 0, none⟩)] w fun e w' => e = .returned (.int .i64 r1) ∧ IsS42 w0 w' g r2 r3 r4 r5 ∧ Below w0.heap.size w0 w' ∧ KeepBut w w' g none := by
  exact scan_Scan_Byte_p.calls (w := w) (h := scan_Scan_Byte.ev _ _ _ _ _ h) (hI := hI) (hB := hB)

/-! ### varint_Zag_p: function 45 -/
def varint_Zag_p.f (a0 : Int) : Option (Int) := some (Go.bits .xor .i64 (wrap64 (a0 / 2)) (wrap64 (-(wrap64 (Go.bits .and .u64 a0 1)))))
set_option maxHeartbeats 8000000 in
set_option maxRecDepth 100000 in
theorem varint_Zag_p.calls (a0 : Int) (r : Int) (w : World) (h : varint_Zag_p.f a0 = some r) :
    Calls Try.prog 45 #[.int .u64 a0] w fun e w' => e = .returned (.int .i64 r) ∧ Drawn0 w w' := by
  have H : (some (Go.bits .xor .i64 (wrap64 (a0 / 2)) (wrap64 (-(wrap64 (Go.bits .and .u64 a0 1)))))) = some r := h
  clear h
  obtain rfl := Option.some.inj H
  go_enter Try.func45, Try.ntmps45
  go_wp2
  go_ret
  exact ⟨by first | rfl | (simp; done) | (simp [*]; done), by repeat (first | exact Drawn0.refl _ | apply Drawn0.step)⟩

-- this session's own plain form
def varint_Zag.f (a0 : Int) : Option Int := if 0 ≤ a0 ∧ a0 < 18446744073709551616 then some (M.zag a0) else none
theorem varint_Zag.ev (a0 r : Int) (h : varint_Zag.f a0 = some r) : varint_Zag_p.f a0 = some r := by
  unfold varint_Zag.f at h
  split at h
  · rename_i hh
    obtain rfl := Option.some.inj h
    exact congrArg some (M.zag_code hh.1 hh.2)
  · cases h
theorem varint_Zag.calls (a0 : Int) (r : Int) (w : World) (h : varint_Zag.f a0 = some r) :
    Calls Try.prog 45 #[.int .u64 a0] w fun e w' => e = .returned (.int .i64 r) ∧ Drawn0 w w' := by
  exact varint_Zag_p.calls (w := w) (h := varint_Zag.ev _ _ h)

/-! ### varint_GetInt_p: function 38 -/
def varint_GetInt_p.f (a0 : ByteArray) : Option (Int × Int × Bool) := (varint_Get.f a0).bind fun bt161 => ((varint_Zag.f bt161.1).bind fun t164 => (some (t164, bt161.2.1, bt161.2.2)))
set_option maxHeartbeats 8000000 in
set_option maxRecDepth 100000 in
theorem varint_GetInt_p.calls (a0 : ByteArray) (r1 : Int) (r2 : Int) (r3 : Bool) (w : World) (h : varint_GetInt_p.f a0 = some (r1, r2, r3)) :
    Calls Try.prog 38 #[.string a0] w fun e w' => e = .returned (.tuple #[.int .i64 r1, .int .i64 r2, .bool r3]) ∧ Below w.heap.size w w' := by
  have HB := Aside0.mk (Below.refl w.heap.size w)
  have H : ((varint_Get.f a0).bind fun bt161 => ((varint_Zag.f bt161.1).bind fun t164 => (some (t164, bt161.2.1, bt161.2.2)))) = some (r1, r2, r3) := h
  clear h
  replace H := Option.bind_eq_some_iff.mp H
  obtain ⟨⟨t161, t162, t163⟩, A20, H⟩ := H
  replace H : ((varint_Zag.f t161).bind fun t164 => (some (t164, t162, t163))) = some (r1, r2, r3) := H
  have A2 := Aside0.mk A20
  clear A20
  replace H := Option.bind_eq_some_iff.mp H
  obtain ⟨t164, A30, H⟩ := H
  replace H : (some (t164, t162, t163)) = some (r1, r2, r3) := H
  have A3 := Aside0.mk A30
  clear A30
  simp only [Option.some.injEq, Prod.mk.injEq] at H
  obtain ⟨rfl, rfl, rfl⟩ := H
  go_enter Try.func38, Try.ntmps38
  go_wp2_with (first | ((with_reducible refine gate_callee (f := 37) rfl ?_); refine goesL_ (some 8) rfl rfl Try.func37 (by kernel_rfl) rfl #[.string a0] rfl (by (try simp only [List.map_toArray, List.map_cons, List.map_nil]); first | done | rfl | (simp only [List.length_drop, List.length_take]; rfl)) ?_; (with_reducible refine (varint_Get.calls a0 t161 t162 t163 _ A2.out).mono ?_); rintro e w4 ⟨rfl, hb⟩; refine ⟨_, rfl, ?_⟩; have n0_ := Aside0.mk (below_step (by repeat (first | (with_reducible first | exact HB.out | apply below_alloc | apply pw_below_drewN | apply below_drew1) | exact HB.out)) hb); clear HB; have HB := n0_; clear n0_; (try clear hb); (try clear hb2); (try clear hk); (try clear hi)) | ((with_reducible refine gate_callee (f := 45) rfl ?_); refine goesL_ (some 13) rfl rfl Try.func45 (by kernel_rfl) rfl #[.int .u64 t161] rfl (by (try simp only [List.map_toArray, List.map_cons, List.map_nil]); first | done | rfl | (simp only [List.length_drop, List.length_take]; rfl)) ?_; (with_reducible refine (varint_Zag.calls t161 t164 _ A3.out).mono ?_); rintro e w' ⟨rfl, ⟨nd, rfl⟩⟩; refine ⟨_, rfl, ?_⟩))
  go_ret3
  exact ⟨by first | rfl | (simp [errW_none, errW_some] <;> rfl) | (simp [*, errW_none, errW_some] <;> rfl), by repeat (first | (with_reducible first | exact HB.out | apply below_alloc | apply pw_below_drewN | apply below_drew1) | exact HB.out)⟩

-- this session's own plain form
def varint_GetInt.f (a0 : ByteArray) : Option (Int × Int × Bool) := some (M.vgeti a0)
theorem varint_GetInt.ev (a0 : ByteArray) (r : Int × Int × Bool) (h : varint_GetInt.f a0 = some r) : varint_GetInt_p.f a0 = some r := by
  obtain rfl := Option.some.inj h
  have hr := M.vget_range a0
  unfold varint_GetInt_p.f varint_Get.f varint_Zag.f
  simp only [Option.bind_some]
  rw [if_pos ⟨hr.1, hr.2.1⟩]
  rfl
theorem varint_GetInt.calls (a0 : ByteArray) (r1 : Int) (r2 : Int) (r3 : Bool) (w : World) (h : varint_GetInt.f a0 = some (r1, r2, r3)) :
    Calls Try.prog 38 #[.string a0] w fun e w' => e = .returned (.tuple #[.int .i64 r1, .int .i64 r2, .bool r3]) ∧ Below w.heap.size w w' := by
  exact varint_GetInt_p.calls (w := w) (h := varint_GetInt.ev _ _ h)

/-! ### scan_Scan_Int: function 14 -/
def scan_Scan_Int.f (s0_0 : ByteArray) (s0_1 : Int) (s0_2 : Int) (s0_3 : Bool) : Option (Int × ByteArray × Int × Int × Bool) :=
  if s0_3 = true ∧ s0_2 = 0 then (if M.sok s0_0 s0_1 then some ((M.sint s0_0 s0_1).1, s0_0, (M.sint s0_0 s0_1).2.1, (M.sint s0_0 s0_1).2.2, true) else none) else some (0, s0_0, s0_1, s0_2, s0_3)

theorem scan_Scan_Int.off (g : Nat) (s : ByteArray) (p er : Int) (md : Bool) (w0 w : World) (hI : IsS42 w0 w g s p er md) (hB : Below w0.heap.size w0 w)
    (hm : ¬ (md = true ∧ er = 0)) :
    Calls Try.prog 14 #[.pointer (some ⟨g, 0, none⟩)] w fun e w' => e = .returned (.int .i64 0) ∧ IsS42 w0 w' g s p er md ∧ Below w0.heap.size w0 w' ∧ KeepBut w w' g none := by
  obtain ⟨q, hq0, hq⟩ : ∃ q, q ≠ 0 ∧ scan_Scan_Err.f s p er md = some (q, s, p, er, md) := by
    unfold scan_Scan_Err.f
    split
    · rename_i h; exact ⟨er, fun h0 => hm ⟨h, h0⟩, rfl⟩
    · exact ⟨1, by decide, rfl⟩
  have hb0 : (q == 0) = false := by simpa using hq0
  have hb1 : (q != 0) = true := by simpa using hq0
  have HQ := Aside0.mk hq
  clear hq hm hq0
  go_enter Try.func14, Try.ntmps14
  go_wp2_with (go_at_call 18; refine (scan_Scan_Err.calls g s p er md q s p er md w0 _ hI hB HQ.out).mono ?_; rintro e w1 ⟨rfl, hi, hb, hk1⟩)
  go_ret
  exact ⟨rfl, hi, hb, hk1⟩

set_option maxHeartbeats 1000000 in
theorem scan_Scan_Int.bad (g : Nat) (s : ByteArray) (p n k : Int) (w0 w : World) (hI : IsS42 w0 w g s p 0 true) (hB : Below w0.heap.size w0 w)
    (h0 : 0 ≤ p) (h1 : p ≤ s.size) (hs : s.size ≤ 9223372036854775807) (hg : varint_GetInt.f (s.extract p.toNat s.size) = some (n, k, false)) :
    Calls Try.prog 14 #[.pointer (some ⟨g, 0, none⟩)] w fun e w' => e = .returned (.int .i64 0) ∧ IsS42 w0 w' g s p 3 true ∧ Below w0.heap.size w0 w' ∧ KeepBut w w' g none := by
  go_enter Try.func14, Try.ntmps14
  go_wp2_with (go_at_call 18; refine (scan_Scan_Err.calls g s p 0 true 0 s p 0 true w0 _ hI hB rfl).mono ?_; rintro e w1 ⟨rfl, hi, hb, hk1⟩)
  have hc0 := cellS42_0 hi.1
  have hc1 := cellS42_1 hi.1
  have hc2 := cellS42_2 hi.1
  have HG := Aside0.mk hg
  have HI := Aside0.mk hi
  clear hg hi hI
  go_region_with (go_at_call 38; refine (varint_GetInt.calls (s.extract p.toNat s.size) n k false _ HG.out).mono ?_; rintro e w2 ⟨rfl, hb2⟩)
  all_goals
    have hi2 := IsS42.below (W := w1.drew) HI.out hb2
    have hb3 := below_then (below_drew hb) (below_drew hb).size hb2
    have hk2 := KeepBut.trans (keep_drew hk1) (KeepBut.of_below hb2 g none) (.inl rfl)
    clear hc0 hc1 hc2
    go_wp2_with (go_at_call 35; refine (scan_Scan_fail.calls g s p 0 true 3 s p 3 true w0 _ hi2 hb3 rfl).mono ?_; rintro e w3 ⟨rfl, hi4, hb4, hk4⟩)
    go_ret
    exact ⟨rfl, hi4, hb4, KeepBut.trans hk2 hk4 (.inl rfl)⟩

set_option maxHeartbeats 1000000 in
theorem scan_Scan_Int.good (g : Nat) (s : ByteArray) (p n k : Int) (w0 w : World) (hI : IsS42 w0 w g s p 0 true) (hB : Below w0.heap.size w0 w)
    (h0 : 0 ≤ p) (h1 : p ≤ s.size) (hs : s.size ≤ 9223372036854775807) (hg : varint_GetInt.f (s.extract p.toNat s.size) = some (n, k, true)) (hk : p + k ≤ s.size) (hk0 : 0 ≤ k) :
    Calls Try.prog 14 #[.pointer (some ⟨g, 0, none⟩)] w fun e w' => e = .returned (.int .i64 n) ∧ IsS42 w0 w' g s (p + k) 0 true ∧ Below w0.heap.size w0 w' ∧ KeepBut w w' g none := by
  go_enter Try.func14, Try.ntmps14
  go_wp2_with (go_at_call 18; refine (scan_Scan_Err.calls g s p 0 true 0 s p 0 true w0 _ hI hB rfl).mono ?_; rintro e w1 ⟨rfl, hi, hb, hk1⟩)
  have hc0 := cellS42_0 hi.1
  have hc1 := cellS42_1 hi.1
  have hc2 := cellS42_2 hi.1
  have HG := Aside0.mk hg
  have HI := Aside0.mk hi
  clear hg hi hI
  go_region_with (go_at_call 38; refine (varint_GetInt.calls (s.extract p.toNat s.size) n k true _ HG.out).mono ?_; rintro e w2 ⟨rfl, hb2⟩)
  all_goals
    have hi2 := IsS42.below (W := w1.drew) HI.out hb2
    have hb3 := below_then (below_drew hb) (below_drew hb).size hb2
    have hk2 := KeepBut.trans (keep_drew hk1) (KeepBut.of_below hb2 g none) (.inl rfl)
    have hd1 := cellS42_1 hi2.1
    have he1 := blk_frozen hi2.1 1
    have HI2 := Aside0.mk hi2
    clear hi2 hc0 hc1 hc2
    go_wp2
    go_ret
    exact ⟨rfl, IsS42.set_1 HI2.out (p + k), below_set hb3 (IsS42.ge HI2.out), KeepBut.set_ hk2 _ _⟩

theorem scan_Scan_Int.calls (g : Nat) (s0_0 : ByteArray) (s0_1 : Int) (s0_2 : Int) (s0_3 : Bool) (r1 : Int) (r2 : ByteArray) (r3 : Int) (r4 : Int) (r5 : Bool) (w0 w : World) (hI : IsS42 w0 w g s0_0 s0_1 s0_2 s0_3) (hB : Below w0.heap.size w0 w) (h : scan_Scan_Int.f s0_0 s0_1 s0_2 s0_3 = some (r1, r2, r3, r4, r5)) :
    Calls Try.prog 14 #[.pointer (some ⟨g, 0, none⟩)] w fun e w' => e = .returned (.int .i64 r1) ∧ IsS42 w0 w' g r2 r3 r4 r5 ∧ Below w0.heap.size w0 w' ∧ KeepBut w w' g none := by
  unfold scan_Scan_Int.f at h
  split at h
  case isFalse hm =>
    simp only [Option.some.injEq, Prod.mk.injEq] at h
    obtain ⟨rfl, rfl, rfl, rfl, rfl⟩ := h
    exact scan_Scan_Int.off g _ _ _ _ w0 w hI hB hm
  case isTrue hm =>
    obtain ⟨rfl, rfl⟩ := hm
    split at h
    case isFalse => cases h
    case isTrue hh =>
      obtain ⟨h0, h1, hs⟩ := hh
      have hv := M.vget_at s0_0 ⟨h0, h1, hs⟩
      simp only [Option.some.injEq, Prod.mk.injEq] at h
      obtain ⟨rfl, rfl, rfl, rfl, rfl⟩ := h
      have hg : varint_GetInt.f (s0_0.extract s0_1.toNat s0_0.size) = some (M.vgeti (s0_0.extract s0_1.toNat s0_0.size)) := rfl
      unfold M.sint
      unfold M.vgeti at hg
      generalize M.vget (s0_0.extract s0_1.toNat s0_0.size) = q at hg hv ⊢
      obtain ⟨n, k, b⟩ := q
      cases b with
      | false => exact scan_Scan_Int.bad g s0_0 s0_1 _ k w0 w hI hB h0 h1 hs hg
      | true =>
        simp only [if_true]
        exact scan_Scan_Int.good g s0_0 s0_1 _ k w0 w hI hB h0 h1 hs hg hv.2.2.2 hv.2.2.1

/-! ### scan_Scan_Rest: function 16 -/
def scan_Scan_Rest.f (s0_0 : ByteArray) (s0_1 : Int) (s0_2 : Int) (s0_3 : Bool) : Option (ByteArray × ByteArray × Int × Int × Bool) :=
  if s0_3 = true ∧ s0_2 = 0 then (if M.sok s0_0 s0_1 then some (s0_0.extract s0_1.toNat s0_0.size, s0_0, (s0_0.size : Int), 0, true) else none) else some (M.sb [], s0_0, s0_1, s0_2, s0_3)

theorem scan_Scan_Rest.off (g : Nat) (s : ByteArray) (p er : Int) (md : Bool) (w0 w : World) (hI : IsS42 w0 w g s p er md) (hB : Below w0.heap.size w0 w)
    (hm : ¬ (md = true ∧ er = 0)) :
    Calls Try.prog 16 #[.pointer (some ⟨g, 0, none⟩)] w fun e w' => e = .returned (.string (M.sb [])) ∧ IsS42 w0 w' g s p er md ∧ Below w0.heap.size w0 w' ∧ KeepBut w w' g none := by
  obtain ⟨q, hq0, hq⟩ : ∃ q, q ≠ 0 ∧ scan_Scan_Err.f s p er md = some (q, s, p, er, md) := by
    unfold scan_Scan_Err.f
    split
    · rename_i h; exact ⟨er, fun h0 => hm ⟨h, h0⟩, rfl⟩
    · exact ⟨1, by decide, rfl⟩
  have hb0 : (q == 0) = false := by simpa using hq0
  have hb1 : (q != 0) = true := by simpa using hq0
  have HQ := Aside0.mk hq
  clear hq hm hq0
  go_enter Try.func16, Try.ntmps16
  go_wp2_with (go_at_call 18; refine (scan_Scan_Err.calls g s p er md q s p er md w0 _ hI hB HQ.out).mono ?_; rintro e w1 ⟨rfl, hi, hb, hk1⟩)
  go_ret
  exact ⟨rfl, hi, hb, hk1⟩


set_option maxHeartbeats 1000000 in
theorem scan_Scan_Rest.good (g : Nat) (s : ByteArray) (p : Int) (w0 w : World) (hI : IsS42 w0 w g s p 0 true) (hB : Below w0.heap.size w0 w)
    (h0 : 0 ≤ p) (h1 : p ≤ s.size) (hs : s.size ≤ 9223372036854775807) :
    Calls Try.prog 16 #[.pointer (some ⟨g, 0, none⟩)] w fun e w' => e = .returned (.string (s.extract p.toNat s.size)) ∧ IsS42 w0 w' g s s.size 0 true ∧ Below w0.heap.size w0 w' ∧ KeepBut w w' g none := by
  have ht : scan_Scan_take.f s p 0 true ((s.size : Int) - p) = some (s.extract p.toNat s.size, s, (s.size : Int), 0, true) := by
    unfold scan_Scan_take.f M.xfix M.sfix
    have c2 : ¬ ((s.size : Int) - p < 0 ∨ (s.size : Int) - p < (s.size : Int) - p) := by omega
    have e2 : p + ((s.size : Int) - p) = (s.size : Int) := by omega
    rw [if_pos rfl, if_pos ⟨⟨h0, h1, hs⟩, by omega, by omega⟩, if_pos rfl, if_neg c2, e2, Int.toNat_natCast]
  have HT := Aside0.mk ht
  clear ht
  go_enter Try.func16, Try.ntmps16
  go_wp2_with (go_at_call 18; refine (scan_Scan_Err.calls g s p 0 true 0 s p 0 true w0 _ hI hB rfl).mono ?_; rintro e w1 ⟨rfl, hi, hb, hk1⟩)
  have hc0 := cellS42_0 hi.1
  have hc1 := cellS42_1 hi.1
  have HI := Aside0.mk hi
  have HB := Aside0.mk hb
  have hw : IntKind.i64.wrap ((s.size : Int) - p) = (s.size : Int) - p := by rw [M.i64_wrap]; exact M.wrap64_id (by omega) (by omega)
  clear hi hI hb
  go_region_with (go_at_call 36; refine (scan_Scan_take.calls g s p 0 true ((s.size : Int) - p) (s.extract p.toNat s.size) s (s.size : Int) 0 true w0 w1.drew HI.out (below_drew HB.out) HT.out).mono ?_; rintro e w2 ⟨rfl, hi2, hb2, hk2⟩)
  all_goals
    have hk3 := KeepBut.trans (keep_drew hk1) hk2 (.inl rfl)
    clear hc0 hc1
    go_wp2
    go_ret
    exact ⟨rfl, hi2, hb2, hk3⟩

theorem scan_Scan_Rest.calls (g : Nat) (s0_0 : ByteArray) (s0_1 : Int) (s0_2 : Int) (s0_3 : Bool) (r1 : ByteArray) (r2 : ByteArray) (r3 : Int) (r4 : Int) (r5 : Bool) (w0 w : World) (hI : IsS42 w0 w g s0_0 s0_1 s0_2 s0_3) (hB : Below w0.heap.size w0 w) (h : scan_Scan_Rest.f s0_0 s0_1 s0_2 s0_3 = some (r1, r2, r3, r4, r5)) :
    Calls Try.prog 16 #[.pointer (some ⟨g, 0, none⟩)] w fun e w' => e = .returned (.string r1) ∧ IsS42 w0 w' g r2 r3 r4 r5 ∧ Below w0.heap.size w0 w' ∧ KeepBut w w' g none := by
  unfold scan_Scan_Rest.f at h
  split at h
  case isFalse hm =>
    simp only [Option.some.injEq, Prod.mk.injEq] at h
    obtain ⟨rfl, rfl, rfl, rfl, rfl⟩ := h
    exact scan_Scan_Rest.off g _ _ _ _ w0 w hI hB hm
  case isTrue hm =>
    obtain ⟨rfl, rfl⟩ := hm
    split at h
    case isFalse => cases h
    case isTrue hh =>
      obtain ⟨h0, h1, hs⟩ := hh
      simp only [Option.some.injEq, Prod.mk.injEq] at h
      obtain ⟨rfl, rfl, rfl, rfl, rfl⟩ := h
      exact scan_Scan_Rest.good g s0_0 s0_1 w0 w hI hB h0 h1 hs

/-! ### scan_Scan_End: function 17 -/
def scan_Scan_End.f (s0_0 : ByteArray) (s0_1 : Int) (s0_2 : Int) (s0_3 : Bool) : Option (Int × ByteArray × Int × Int × Bool) :=
  if s0_3 = true then (if s0_2 = 0 ∧ s0_1 < s0_0.size then some (3, s0_0, s0_1, 3, true) else some (s0_2, s0_0, s0_1, s0_2, true)) else some (1, s0_0, s0_1, s0_2, false)

theorem scan_Scan_End.err1 (g : Nat) (s : ByteArray) (p er : Int) (w0 w : World) (hI : IsS42 w0 w g s p er true) :
    Calls Try.prog 18 #[.pointer (some ⟨g, 0, none⟩)] w fun e w' => e = .returned (.int .i64 er) ∧ w' = w := by
  have h2 := cellS42_2 hI.1
  have h3 := cellS42_3 hI.1
  clear hI
  go_enter Try.func18, Try.ntmps18
  go_wp2
  go_ret
  exact ⟨rfl, rfl⟩
theorem scan_Scan_End.err0 (g : Nat) (s : ByteArray) (p er : Int) (w0 w : World) (hI : IsS42 w0 w g s p er false) :
    Calls Try.prog 18 #[.pointer (some ⟨g, 0, none⟩)] w fun e w' => e = .returned (.int .i64 1) ∧ w' = w := by
  have h2 := cellS42_2 hI.1
  have h3 := cellS42_3 hI.1
  clear hI
  go_enter Try.func18, Try.ntmps18
  go_wp2
  go_ret
  exact ⟨rfl, rfl⟩

set_option maxHeartbeats 1000000 in
theorem scan_Scan_End.off (g : Nat) (s : ByteArray) (p er : Int) (w0 w : World) (hI : IsS42 w0 w g s p er true) (hB : Below w0.heap.size w0 w) (he : er ≠ 0) :
    Calls Try.prog 17 #[.pointer (some ⟨g, 0, none⟩)] w fun e w' => e = .returned (.int .i64 er) ∧ IsS42 w0 w' g s p er true ∧ Below w0.heap.size w0 w' ∧ KeepBut w w' g none := by
  have hb0 : (er == 0) = false := by simpa using he
  have HI := Aside0.mk hI
  have HB := Aside0.mk hB
  clear he hI hB
  go_enter Try.func17, Try.ntmps17
  go_wp2
  go_quiet ((go_at_call 18; exact Calls.quiet_of_same (scan_Scan_End.err1 g s p er w0 _ HI.out)))
  go_wp2_with (go_at_call 18; refine (scan_Scan_Err.calls g s p er true er s p er true w0 _ (IsS42.drewN HI.out _) (pw_below_drewN HB.out _) rfl).mono ?_; rintro e w2 ⟨rfl, hi2, hb2, hk2⟩)
  go_ret
  exact ⟨rfl, hi2, hb2, KeepBut.trans (keep_drewN (KeepBut.refl w g none) _) hk2 (.inl rfl)⟩

set_option maxHeartbeats 1000000 in
theorem scan_Scan_End.none_ (g : Nat) (s : ByteArray) (p er : Int) (w0 w : World) (hI : IsS42 w0 w g s p er false) (hB : Below w0.heap.size w0 w) :
    Calls Try.prog 17 #[.pointer (some ⟨g, 0, none⟩)] w fun e w' => e = .returned (.int .i64 1) ∧ IsS42 w0 w' g s p er false ∧ Below w0.heap.size w0 w' ∧ KeepBut w w' g none := by
  have HI := Aside0.mk hI
  have HB := Aside0.mk hB
  clear hI hB
  go_enter Try.func17, Try.ntmps17
  go_wp2
  go_quiet ((go_at_call 18; exact Calls.quiet_of_same (scan_Scan_End.err0 g s p er w0 _ HI.out)))
  go_wp2_with (go_at_call 18; refine (scan_Scan_Err.calls g s p er false 1 s p er false w0 _ (IsS42.drewN HI.out _) (pw_below_drewN HB.out _) rfl).mono ?_; rintro e w2 ⟨rfl, hi2, hb2, hk2⟩)
  go_ret
  exact ⟨rfl, hi2, hb2, KeepBut.trans (keep_drewN (KeepBut.refl w g none) _) hk2 (.inl rfl)⟩

set_option maxHeartbeats 1000000 in
theorem scan_Scan_End.more (g : Nat) (s : ByteArray) (p : Int) (w0 w : World) (hI : IsS42 w0 w g s p 0 true) (hB : Below w0.heap.size w0 w) (hp : p < s.size) :
    Calls Try.prog 17 #[.pointer (some ⟨g, 0, none⟩)] w fun e w' => e = .returned (.int .i64 3) ∧ IsS42 w0 w' g s p 3 true ∧ Below w0.heap.size w0 w' ∧ KeepBut w w' g none := by
  have ht : decide (p < (s.size : Int)) = true := decide_eq_true hp
  have hc0 := cellS42_0 hI.1
  have hc1 := cellS42_1 hI.1
  have hc2 := cellS42_2 hI.1
  have hf2 := blk_frozen hI.1 2
  have HI := Aside0.mk hI
  have HB := Aside0.mk hB
  clear hI hB hp
  go_enter Try.func17, Try.ntmps17
  go_wp2
  go_quiet ((go_at_call 18; exact Calls.quiet_of_same (scan_Scan_End.err1 g s p 0 w0 _ HI.out)))
  go_wp2_with (go_at_call 18; refine (scan_Scan_Err.calls g s p 3 true 3 s p 3 true w0 _ (IsS42.set_2 (IsS42.drewN HI.out _) 3) (below_set (pw_below_drewN HB.out _) (IsS42.ge HI.out)) rfl).mono ?_; rintro e w2 ⟨rfl, hi2, hb2, hk2⟩)
  go_ret
  exact ⟨rfl, hi2, hb2, KeepBut.trans (KeepBut.set_ (keep_drewN (KeepBut.refl w g none) _) _ _) hk2 (.inl rfl)⟩

set_option maxHeartbeats 1000000 in
theorem scan_Scan_End.done_ (g : Nat) (s : ByteArray) (p : Int) (w0 w : World) (hI : IsS42 w0 w g s p 0 true) (hB : Below w0.heap.size w0 w) (hp : ¬ p < s.size) :
    Calls Try.prog 17 #[.pointer (some ⟨g, 0, none⟩)] w fun e w' => e = .returned (.int .i64 0) ∧ IsS42 w0 w' g s p 0 true ∧ Below w0.heap.size w0 w' ∧ KeepBut w w' g none := by
  have ht : decide (p < (s.size : Int)) = false := decide_eq_false hp
  have hc0 := cellS42_0 hI.1
  have hc1 := cellS42_1 hI.1
  have HI := Aside0.mk hI
  have HB := Aside0.mk hB
  clear hI hB hp
  go_enter Try.func17, Try.ntmps17
  go_wp2
  go_quiet ((go_at_call 18; exact Calls.quiet_of_same (scan_Scan_End.err1 g s p 0 w0 _ HI.out)))
  go_wp2_with (go_at_call 18; refine (scan_Scan_Err.calls g s p 0 true 0 s p 0 true w0 _ (IsS42.drewN HI.out _) (pw_below_drewN HB.out _) rfl).mono ?_; rintro e w2 ⟨rfl, hi2, hb2, hk2⟩)
  go_ret
  exact ⟨rfl, hi2, hb2, KeepBut.trans (keep_drewN (KeepBut.refl w g none) _) hk2 (.inl rfl)⟩

theorem scan_Scan_End.calls (g : Nat) (s0_0 : ByteArray) (s0_1 : Int) (s0_2 : Int) (s0_3 : Bool) (r1 : Int) (r2 : ByteArray) (r3 : Int) (r4 : Int) (r5 : Bool) (w0 w : World) (hI : IsS42 w0 w g s0_0 s0_1 s0_2 s0_3) (hB : Below w0.heap.size w0 w) (h : scan_Scan_End.f s0_0 s0_1 s0_2 s0_3 = some (r1, r2, r3, r4, r5)) :
    Calls Try.prog 17 #[.pointer (some ⟨g, 0, none⟩)] w fun e w' => e = .returned (.int .i64 r1) ∧ IsS42 w0 w' g r2 r3 r4 r5 ∧ Below w0.heap.size w0 w' ∧ KeepBut w w' g none := by
  unfold scan_Scan_End.f at h
  cases s0_3 with
  | false =>
    rw [if_neg (by simp)] at h
    simp only [Option.some.injEq, Prod.mk.injEq] at h
    obtain ⟨rfl, rfl, rfl, rfl, rfl⟩ := h
    exact scan_Scan_End.none_ g _ _ _ w0 w hI hB
  | true =>
    rw [if_pos rfl] at h
    by_cases h0 : s0_2 = 0
    · subst h0
      by_cases hp : s0_1 < s0_0.size
      · rw [if_pos ⟨rfl, hp⟩] at h
        simp only [Option.some.injEq, Prod.mk.injEq] at h
        obtain ⟨rfl, rfl, rfl, rfl, rfl⟩ := h
        exact scan_Scan_End.more g _ _ w0 w hI hB hp
      · rw [if_neg (fun z => hp z.2)] at h
        simp only [Option.some.injEq, Prod.mk.injEq] at h
        obtain ⟨rfl, rfl, rfl, rfl, rfl⟩ := h
        exact scan_Scan_End.done_ g _ _ w0 w hI hB hp
    · rw [if_neg (fun z => h0 z.1)] at h
      simp only [Option.some.injEq, Prod.mk.injEq] at h
      obtain ⟨rfl, rfl, rfl, rfl, rfl⟩ := h
      exact scan_Scan_End.off g _ _ _ w0 w hI hB h0
theorem scan_Scan_End.eq (s : ByteArray) (p er : Int) : scan_Scan_End.f s p er true = some (M.xend s p er, s, p, M.xend s p er, true) := by
  unfold scan_Scan_End.f M.xend
  rw [if_pos rfl]
  by_cases hc : er = 0 ∧ p < s.size
  · simp only [if_pos hc]
  · simp only [if_neg hc]

/-! ### pleachlaw04_ScanNobody: function 5 -/
set_option maxHeartbeats 8000000 in
set_option maxRecDepth 100000 in
theorem nilErr0 (w : World) : Calls Try.prog 18 #[.pointer none] w fun e w' => e = .returned (.int .i64 1) ∧ w' = w := by
  go_enter Try.func18, Try.ntmps18
  go_wp2
  go_ret
  exact ⟨rfl, rfl⟩
set_option maxHeartbeats 8000000 in
set_option maxRecDepth 100000 in
theorem nilErr (w : World) : Calls Try.prog 18 #[.pointer none] w fun e w' => e = .returned (.int .i64 1) ∧ Drawn0 w w' := by
  refine (nilErr0 w).mono ?_
  rintro e w' ⟨rfl, rfl⟩
  exact ⟨rfl, Drawn0.refl _⟩
set_option maxHeartbeats 8000000 in
set_option maxRecDepth 100000 in
theorem nilAt (w : World) : Calls Try.prog 19 #[.pointer none] w fun e w' => e = .returned (.int .i64 0) ∧ Drawn0 w w' := by
  go_enter Try.func19, Try.ntmps19
  go_wp2
  go_ret
  exact ⟨by first | rfl | (simp; done), by repeat (first | exact Drawn0.refl _ | apply Drawn0.step)⟩
set_option maxHeartbeats 8000000 in
set_option maxRecDepth 100000 in
theorem nilFail (a1 : Int) (w : World) : Calls Try.prog 10 #[.pointer none, .int .i64 a1] w fun e w' => e = .returned (.tuple #[]) ∧ Drawn0 w w' := by
  go_enter Try.func10, Try.ntmps10
  go_wp2
  first | go_end0 | ((try simp only [Exit.inBlock, Exit.then]); refine bodyPost_ret (results_none rfl _ _ _) rfl ?_)
  exact ⟨by first | rfl | (simp; done), by repeat (first | exact Drawn0.refl _ | apply Drawn0.step)⟩
set_option maxHeartbeats 8000000 in
set_option maxRecDepth 100000 in
theorem nilTake (a1 : Int) (w : World) : Calls Try.prog 36 #[.pointer none, .int .i64 a1] w fun e w' => e = .returned (.string ByteArray.empty) ∧ Drawn0 w w' := by
  go_enter Try.func36, Try.ntmps36
  go_wp2_with (first | (go_at_call 18; refine (nilErr _).mono ?_; rintro e w' ⟨rfl, ⟨nd, rfl⟩⟩))
  go_ret
  exact ⟨by first | rfl | (simp; done), by repeat (first | exact Drawn0.refl _ | apply Drawn0.step)⟩
set_option maxHeartbeats 8000000 in
set_option maxRecDepth 100000 in
theorem nilFix (a1 : Int) (w : World) : Calls Try.prog 11 #[.pointer none, .int .i64 a1] w fun e w' => e = .returned (.string ByteArray.empty) ∧ Drawn0 w w' := by
  go_enter Try.func11, Try.ntmps11
  go_wp2_with (first | (go_at_call 36; refine (nilTake _ _).mono ?_; rintro e w' ⟨rfl, ⟨nd, rfl⟩⟩))
  go_ret
  exact ⟨by first | rfl | (simp; done), by repeat (first | exact Drawn0.refl _ | apply Drawn0.step)⟩
set_option maxHeartbeats 8000000 in
set_option maxRecDepth 100000 in
theorem nilByte (w : World) : Calls Try.prog 12 #[.pointer none] w fun e w' => e = .returned (.int .i64 0) ∧ Drawn0 w w' := by
  go_enter Try.func12, Try.ntmps12
  go_wp2_with (first | (go_at_call 36; refine (nilTake _ _).mono ?_; rintro e w' ⟨rfl, ⟨nd, rfl⟩⟩))
  go_ret
  exact ⟨by first | rfl | (simp; done), by repeat (first | exact Drawn0.refl _ | apply Drawn0.step)⟩
set_option maxHeartbeats 8000000 in
set_option maxRecDepth 100000 in
theorem nilNum (a1 : Int) (w : World) : Calls Try.prog 13 #[.pointer none, .int .i64 a1] w fun e w' => e = .returned (.int .i64 0) ∧ Drawn0 w w' := by
  go_enter Try.func13, Try.ntmps13
  go_wp2_with (first | (go_at_call 18; refine (nilErr _).mono ?_; rintro e w' ⟨rfl, ⟨nd, rfl⟩⟩))
  go_ret
  exact ⟨by first | rfl | (simp; done), by repeat (first | exact Drawn0.refl _ | apply Drawn0.step)⟩
set_option maxHeartbeats 8000000 in
set_option maxRecDepth 100000 in
theorem nilInt (w : World) : Calls Try.prog 14 #[.pointer none] w fun e w' => e = .returned (.int .i64 0) ∧ Drawn0 w w' := by
  go_enter Try.func14, Try.ntmps14
  go_wp2_with (first | (go_at_call 18; refine (nilErr _).mono ?_; rintro e w' ⟨rfl, ⟨nd, rfl⟩⟩))
  go_ret
  exact ⟨by first | rfl | (simp; done), by repeat (first | exact Drawn0.refl _ | apply Drawn0.step)⟩
set_option maxHeartbeats 8000000 in
set_option maxRecDepth 100000 in
theorem nilText (a1 : Int) (w : World) : Calls Try.prog 15 #[.pointer none, .int .i64 a1] w fun e w' => e = .returned (.string ByteArray.empty) ∧ Drawn0 w w' := by
  go_enter Try.func15, Try.ntmps15
  go_wp2_with (first | (go_at_call 13; refine (nilNum _ _).mono ?_; rintro e w' ⟨rfl, ⟨nd, rfl⟩⟩) | (go_at_call 36; refine (nilTake _ _).mono ?_; rintro e w' ⟨rfl, ⟨nd, rfl⟩⟩))
  go_ret
  exact ⟨by first | rfl | (simp; done), by repeat (first | exact Drawn0.refl _ | apply Drawn0.step)⟩
set_option maxHeartbeats 8000000 in
set_option maxRecDepth 100000 in
theorem nilRest (w : World) : Calls Try.prog 16 #[.pointer none] w fun e w' => e = .returned (.string ByteArray.empty) ∧ Drawn0 w w' := by
  go_enter Try.func16, Try.ntmps16
  go_wp2_with (first | (go_at_call 18; refine (nilErr _).mono ?_; rintro e w' ⟨rfl, ⟨nd, rfl⟩⟩))
  go_ret
  exact ⟨by first | rfl | (simp; done), by repeat (first | exact Drawn0.refl _ | apply Drawn0.step)⟩
set_option maxHeartbeats 8000000 in
set_option maxRecDepth 100000 in
theorem nilEnd (w : World) : Calls Try.prog 17 #[.pointer none] w fun e w' => e = .returned (.int .i64 1) ∧ Drawn0 w w' := by
  go_enter Try.func17, Try.ntmps17
  go_wp2
  go_quiet ((go_at_call 18; exact Calls.quiet_of_same (nilErr0 _)))
  go_wp2_with (first | (go_at_call 18; refine (nilErr _).mono ?_; rintro e w' ⟨rfl, ⟨nd, rfl⟩⟩))
  go_ret
  exact ⟨by first | rfl | (simp; done), by repeat (first | exact Drawn0.refl _ | apply Drawn0.step)⟩
def No42 (w0 w : World) (v : Value) : Prop := v = .pointer none ∨ ∃ g, v = .pointer (some ⟨g, 0, none⟩) ∧ IsS42 w0 w g ByteArray.empty 0 0 false
section
variable {w0 w : World} {v : Value} (a1 : Int)
set_option maxHeartbeats 8000000 in
set_option maxRecDepth 100000 in
theorem No42.drewN (h : No42 w0 w v) (n : Nat) : No42 w0 (w.drewN n) v := by
  rcases h with h | ⟨g, h, hi⟩
  · exact .inl h
  · exact .inr ⟨g, h, IsS42.drewN hi n⟩
set_option maxHeartbeats 8000000 in
set_option maxRecDepth 100000 in
theorem noErr (h : No42 w0 w v) (hB : Below w0.heap.size w0 w) : Calls Try.prog 18 #[v] w fun e w' => e = .returned (.int .i64 1) ∧ No42 w0 w' v ∧ Below w0.heap.size w0 w' := by
  rcases h with rfl | ⟨g, rfl, hi⟩
  · refine (nilErr w).mono ?_; rintro e w' ⟨rfl, ⟨nd, rfl⟩⟩; exact ⟨rfl, .inl rfl, pw_below_drewN hB nd⟩
  · refine (scan_Scan_Err.calls (hI := hi) (hB := hB) (h := rfl)).mono ?_; rintro e w' ⟨rfl, h1, h2, _⟩; exact ⟨rfl, .inr ⟨g, rfl, h1⟩, h2⟩
set_option maxHeartbeats 8000000 in
set_option maxRecDepth 100000 in
theorem noAt (h : No42 w0 w v) (hB : Below w0.heap.size w0 w) : Calls Try.prog 19 #[v] w fun e w' => e = .returned (.int .i64 0) ∧ No42 w0 w' v ∧ Below w0.heap.size w0 w' := by
  rcases h with rfl | ⟨g, rfl, hi⟩
  · refine (nilAt w).mono ?_; rintro e w' ⟨rfl, ⟨nd, rfl⟩⟩; exact ⟨rfl, .inl rfl, pw_below_drewN hB nd⟩
  · refine (scan_Scan_At.calls (hI := hi) (hB := hB) (h := rfl)).mono ?_; rintro e w' ⟨rfl, h1, h2, _⟩; exact ⟨rfl, .inr ⟨g, rfl, h1⟩, h2⟩
set_option maxHeartbeats 8000000 in
set_option maxRecDepth 100000 in
theorem noFail (h : No42 w0 w v) (hB : Below w0.heap.size w0 w) : Calls Try.prog 10 #[v, .int .i64 2] w fun e w' => e = .returned (.tuple #[]) ∧ No42 w0 w' v ∧ Below w0.heap.size w0 w' := by
  rcases h with rfl | ⟨g, rfl, hi⟩
  · refine (nilFail 2 w).mono ?_; rintro e w' ⟨rfl, ⟨nd, rfl⟩⟩; exact ⟨rfl, .inl rfl, pw_below_drewN hB nd⟩
  · refine (scan_Scan_Fail.calls (hI := hi) (hB := hB) (h := rfl)).mono ?_; rintro e w' ⟨rfl, h1, h2, _⟩; exact ⟨rfl, .inr ⟨g, rfl, h1⟩, h2⟩
set_option maxHeartbeats 8000000 in
set_option maxRecDepth 100000 in
theorem noFix (h : No42 w0 w v) (hB : Below w0.heap.size w0 w) : Calls Try.prog 11 #[v, .int .i64 a1] w fun e w' => e = .returned (.string ByteArray.empty) ∧ No42 w0 w' v ∧ Below w0.heap.size w0 w' := by
  rcases h with rfl | ⟨g, rfl, hi⟩
  · refine (nilFix a1 w).mono ?_; rintro e w' ⟨rfl, ⟨nd, rfl⟩⟩; exact ⟨rfl, .inl rfl, pw_below_drewN hB nd⟩
  · refine (scan_Scan_Fix.calls (hI := hi) (hB := hB) (h := rfl)).mono ?_; rintro e w' ⟨rfl, h1, h2, _⟩; exact ⟨rfl, .inr ⟨g, rfl, h1⟩, h2⟩
set_option maxHeartbeats 8000000 in
set_option maxRecDepth 100000 in
theorem noByte (h : No42 w0 w v) (hB : Below w0.heap.size w0 w) : Calls Try.prog 12 #[v] w fun e w' => e = .returned (.int .i64 0) ∧ No42 w0 w' v ∧ Below w0.heap.size w0 w' := by
  rcases h with rfl | ⟨g, rfl, hi⟩
  · refine (nilByte w).mono ?_; rintro e w' ⟨rfl, ⟨nd, rfl⟩⟩; exact ⟨rfl, .inl rfl, pw_below_drewN hB nd⟩
  · refine (scan_Scan_Byte.calls (hI := hi) (hB := hB) (h := rfl)).mono ?_; rintro e w' ⟨rfl, h1, h2, _⟩; exact ⟨rfl, .inr ⟨g, rfl, h1⟩, h2⟩
set_option maxHeartbeats 8000000 in
set_option maxRecDepth 100000 in
theorem noNum (h : No42 w0 w v) (hB : Below w0.heap.size w0 w) : Calls Try.prog 13 #[v, .int .i64 a1] w fun e w' => e = .returned (.int .i64 0) ∧ No42 w0 w' v ∧ Below w0.heap.size w0 w' := by
  rcases h with rfl | ⟨g, rfl, hi⟩
  · refine (nilNum a1 w).mono ?_; rintro e w' ⟨rfl, ⟨nd, rfl⟩⟩; exact ⟨rfl, .inl rfl, pw_below_drewN hB nd⟩
  · refine (scan_Scan_Num.calls (hI := hi) (hB := hB) (h := rfl)).mono ?_; rintro e w' ⟨rfl, h1, h2, _⟩; exact ⟨rfl, .inr ⟨g, rfl, h1⟩, h2⟩
set_option maxHeartbeats 8000000 in
set_option maxRecDepth 100000 in
theorem noInt (h : No42 w0 w v) (hB : Below w0.heap.size w0 w) : Calls Try.prog 14 #[v] w fun e w' => e = .returned (.int .i64 0) ∧ No42 w0 w' v ∧ Below w0.heap.size w0 w' := by
  rcases h with rfl | ⟨g, rfl, hi⟩
  · refine (nilInt w).mono ?_; rintro e w' ⟨rfl, ⟨nd, rfl⟩⟩; exact ⟨rfl, .inl rfl, pw_below_drewN hB nd⟩
  · refine (scan_Scan_Int.calls (hI := hi) (hB := hB) (h := rfl)).mono ?_; rintro e w' ⟨rfl, h1, h2, _⟩; exact ⟨rfl, .inr ⟨g, rfl, h1⟩, h2⟩
set_option maxHeartbeats 8000000 in
set_option maxRecDepth 100000 in
theorem noText (h : No42 w0 w v) (hB : Below w0.heap.size w0 w) : Calls Try.prog 15 #[v, .int .i64 a1] w fun e w' => e = .returned (.string ByteArray.empty) ∧ No42 w0 w' v ∧ Below w0.heap.size w0 w' := by
  rcases h with rfl | ⟨g, rfl, hi⟩
  · refine (nilText a1 w).mono ?_; rintro e w' ⟨rfl, ⟨nd, rfl⟩⟩; exact ⟨rfl, .inl rfl, pw_below_drewN hB nd⟩
  · refine (scan_Scan_Text.calls (hI := hi) (hB := hB) (h := rfl)).mono ?_; rintro e w' ⟨rfl, h1, h2, _⟩; exact ⟨rfl, .inr ⟨g, rfl, h1⟩, h2⟩
set_option maxHeartbeats 8000000 in
set_option maxRecDepth 100000 in
theorem noRest (h : No42 w0 w v) (hB : Below w0.heap.size w0 w) : Calls Try.prog 16 #[v] w fun e w' => e = .returned (.string ByteArray.empty) ∧ No42 w0 w' v ∧ Below w0.heap.size w0 w' := by
  rcases h with rfl | ⟨g, rfl, hi⟩
  · refine (nilRest w).mono ?_; rintro e w' ⟨rfl, ⟨nd, rfl⟩⟩; exact ⟨rfl, .inl rfl, pw_below_drewN hB nd⟩
  · refine (scan_Scan_Rest.calls (hI := hi) (hB := hB) (h := rfl)).mono ?_; rintro e w' ⟨rfl, h1, h2, _⟩; exact ⟨rfl, .inr ⟨g, rfl, h1⟩, h2⟩
set_option maxHeartbeats 8000000 in
set_option maxRecDepth 100000 in
theorem noEnd (h : No42 w0 w v) (hB : Below w0.heap.size w0 w) : Calls Try.prog 17 #[v] w fun e w' => e = .returned (.int .i64 1) ∧ No42 w0 w' v ∧ Below w0.heap.size w0 w' := by
  rcases h with rfl | ⟨g, rfl, hi⟩
  · refine (nilEnd w).mono ?_; rintro e w' ⟨rfl, ⟨nd, rfl⟩⟩; exact ⟨rfl, .inl rfl, pw_below_drewN hB nd⟩
  · refine (scan_Scan_End.calls (hI := hi) (hB := hB) (h := rfl)).mono ?_; rintro e w' ⟨rfl, h1, h2, _⟩; exact ⟨rfl, .inr ⟨g, rfl, h1⟩, h2⟩
end
def pleachlaw04_ScanNobody.f (a0 : Int) (a1 : Bool) : Option Bool := pleachlaw04_awake.f
set_option maxHeartbeats 8000000 in
set_option maxRecDepth 100000 in
theorem pleachlaw04_ScanNobody.nil (a0 : Int) (r : Bool) (w : World) (h : pleachlaw04_awake.f = some r) :
    Calls Try.prog 5 #[.int .i64 a0, .bool false] w fun e w' => e = .returned (.bool r) ∧ Below w.heap.size w w' := by
  have A1 := Aside0.mk h
  clear h
  have HB := Aside0.mk (Below.refl w.heap.size w)
  have HN : Aside0 (No42 w w (.pointer none)) := ⟨.inl rfl⟩
  go_enter Try.func5, Try.ntmps5
  go_wp2_with (first | (go_at_call 10; refine (noFail (by repeat (first | (with_reducible first | exact HN.out | apply No42.drewN) | exact HN.out)) (by repeat (first | (with_reducible first | exact HB.out | apply pw_below_drewN) | exact HB.out))).mono ?_; rintro e w1 ⟨rfl, hn, hb⟩; clear HN HB; have HN := Aside0.mk hn; have HB := Aside0.mk hb; clear hn hb) | (go_at_call 11; refine (noFix a0 (by repeat (first | (with_reducible first | exact HN.out | apply No42.drewN) | exact HN.out)) (by repeat (first | (with_reducible first | exact HB.out | apply pw_below_drewN) | exact HB.out))).mono ?_; rintro e w1 ⟨rfl, hn, hb⟩; clear HN HB; have HN := Aside0.mk hn; have HB := Aside0.mk hb; clear hn hb) | (go_at_call 12; refine (noByte (by repeat (first | (with_reducible first | exact HN.out | apply No42.drewN) | exact HN.out)) (by repeat (first | (with_reducible first | exact HB.out | apply pw_below_drewN) | exact HB.out))).mono ?_; rintro e w1 ⟨rfl, hn, hb⟩; clear HN HB; have HN := Aside0.mk hn; have HB := Aside0.mk hb; clear hn hb) | (go_at_call 13; refine (noNum a0 (by repeat (first | (with_reducible first | exact HN.out | apply No42.drewN) | exact HN.out)) (by repeat (first | (with_reducible first | exact HB.out | apply pw_below_drewN) | exact HB.out))).mono ?_; rintro e w1 ⟨rfl, hn, hb⟩; clear HN HB; have HN := Aside0.mk hn; have HB := Aside0.mk hb; clear hn hb) | (go_at_call 14; refine (noInt (by repeat (first | (with_reducible first | exact HN.out | apply No42.drewN) | exact HN.out)) (by repeat (first | (with_reducible first | exact HB.out | apply pw_below_drewN) | exact HB.out))).mono ?_; rintro e w1 ⟨rfl, hn, hb⟩; clear HN HB; have HN := Aside0.mk hn; have HB := Aside0.mk hb; clear hn hb) | (go_at_call 15; refine (noText a0 (by repeat (first | (with_reducible first | exact HN.out | apply No42.drewN) | exact HN.out)) (by repeat (first | (with_reducible first | exact HB.out | apply pw_below_drewN) | exact HB.out))).mono ?_; rintro e w1 ⟨rfl, hn, hb⟩; clear HN HB; have HN := Aside0.mk hn; have HB := Aside0.mk hb; clear hn hb) | (go_at_call 16; refine (noRest (by repeat (first | (with_reducible first | exact HN.out | apply No42.drewN) | exact HN.out)) (by repeat (first | (with_reducible first | exact HB.out | apply pw_below_drewN) | exact HB.out))).mono ?_; rintro e w1 ⟨rfl, hn, hb⟩; clear HN HB; have HN := Aside0.mk hn; have HB := Aside0.mk hb; clear hn hb) | (go_at_call 17; refine (noEnd (by repeat (first | (with_reducible first | exact HN.out | apply No42.drewN) | exact HN.out)) (by repeat (first | (with_reducible first | exact HB.out | apply pw_below_drewN) | exact HB.out))).mono ?_; rintro e w1 ⟨rfl, hn, hb⟩; clear HN HB; have HN := Aside0.mk hn; have HB := Aside0.mk hb; clear hn hb) | (go_at_call 18; refine (noErr (by repeat (first | (with_reducible first | exact HN.out | apply No42.drewN) | exact HN.out)) (by repeat (first | (with_reducible first | exact HB.out | apply pw_below_drewN) | exact HB.out))).mono ?_; rintro e w1 ⟨rfl, hn, hb⟩; clear HN HB; have HN := Aside0.mk hn; have HB := Aside0.mk hb; clear hn hb) | (go_at_call 19; refine (noAt (by repeat (first | (with_reducible first | exact HN.out | apply No42.drewN) | exact HN.out)) (by repeat (first | (with_reducible first | exact HB.out | apply pw_below_drewN) | exact HB.out))).mono ?_; rintro e w1 ⟨rfl, hn, hb⟩; clear HN HB; have HN := Aside0.mk hn; have HB := Aside0.mk hb; clear hn hb) | (go_at_call 7; refine (pleachlaw04_awake.calls r _ A1.out).mono ?_; rintro e w1 ⟨rfl, hb⟩; have HB2 := Aside0.mk (below_step (by repeat (first | (with_reducible first | exact HB.out | apply pw_below_drewN) | exact HB.out)) hb); clear hb))
  go_ret
  exact ⟨by first | rfl | (simp; done), by repeat (first | (with_reducible first | exact HB2.out | apply pw_below_drewN) | exact HB2.out)⟩
set_option maxHeartbeats 8000000 in
set_option maxRecDepth 100000 in
theorem pleachlaw04_ScanNobody.made (a0 : Int) (r : Bool) (w : World) (h : pleachlaw04_awake.f = some r) :
    Calls Try.prog 5 #[.int .i64 a0, .bool true] w fun e w' => e = .returned (.bool r) ∧ Below w.heap.size w w' := by
  have u42 := Try.underlying42
  have A1 := Aside0.mk h
  clear h
  have HB := Aside0.mk (Below.refl w.heap.size w)
  go_enter Try.func5, Try.ntmps5
  go_wp2_with (first | ((with_reducible refine gate_dst (N := 8) rfl ?_); refine box_event ?hg (N := 8) ?hd (cs := #[.string ByteArray.empty, .int .i64 0, .int .i64 0, .bool false]) (t := 42) ?hr ?_; (case hd => rfl); (case hg => rfl); (case hr => first | (go_simp; done) | (go_simp; rfl)); intro gb hg w2 hbox hb; subst hg; have HN : Aside0 (No42 w w2 (.pointer (some ⟨w.heap.size, 0, none⟩))) := ⟨.inr ⟨w.heap.size, rfl, hbox, below_size (by repeat (first | (with_reducible first | exact HB.out | apply pw_below_drewN) | exact HB.out))⟩⟩; have n1_ := Aside0.mk (below_step (by repeat (first | (with_reducible first | exact HB.out | apply pw_below_drewN) | exact HB.out)) hb); clear HB; have HB := n1_; clear n1_ hb hbox) | (go_at_call 10; refine (noFail (by repeat (first | (with_reducible first | exact HN.out | apply No42.drewN) | exact HN.out)) (by repeat (first | (with_reducible first | exact HB.out | apply pw_below_drewN) | exact HB.out))).mono ?_; rintro e w1 ⟨rfl, hn, hb⟩; clear HN HB; have HN := Aside0.mk hn; have HB := Aside0.mk hb; clear hn hb) | (go_at_call 11; refine (noFix a0 (by repeat (first | (with_reducible first | exact HN.out | apply No42.drewN) | exact HN.out)) (by repeat (first | (with_reducible first | exact HB.out | apply pw_below_drewN) | exact HB.out))).mono ?_; rintro e w1 ⟨rfl, hn, hb⟩; clear HN HB; have HN := Aside0.mk hn; have HB := Aside0.mk hb; clear hn hb) | (go_at_call 12; refine (noByte (by repeat (first | (with_reducible first | exact HN.out | apply No42.drewN) | exact HN.out)) (by repeat (first | (with_reducible first | exact HB.out | apply pw_below_drewN) | exact HB.out))).mono ?_; rintro e w1 ⟨rfl, hn, hb⟩; clear HN HB; have HN := Aside0.mk hn; have HB := Aside0.mk hb; clear hn hb) | (go_at_call 13; refine (noNum a0 (by repeat (first | (with_reducible first | exact HN.out | apply No42.drewN) | exact HN.out)) (by repeat (first | (with_reducible first | exact HB.out | apply pw_below_drewN) | exact HB.out))).mono ?_; rintro e w1 ⟨rfl, hn, hb⟩; clear HN HB; have HN := Aside0.mk hn; have HB := Aside0.mk hb; clear hn hb) | (go_at_call 14; refine (noInt (by repeat (first | (with_reducible first | exact HN.out | apply No42.drewN) | exact HN.out)) (by repeat (first | (with_reducible first | exact HB.out | apply pw_below_drewN) | exact HB.out))).mono ?_; rintro e w1 ⟨rfl, hn, hb⟩; clear HN HB; have HN := Aside0.mk hn; have HB := Aside0.mk hb; clear hn hb) | (go_at_call 15; refine (noText a0 (by repeat (first | (with_reducible first | exact HN.out | apply No42.drewN) | exact HN.out)) (by repeat (first | (with_reducible first | exact HB.out | apply pw_below_drewN) | exact HB.out))).mono ?_; rintro e w1 ⟨rfl, hn, hb⟩; clear HN HB; have HN := Aside0.mk hn; have HB := Aside0.mk hb; clear hn hb) | (go_at_call 16; refine (noRest (by repeat (first | (with_reducible first | exact HN.out | apply No42.drewN) | exact HN.out)) (by repeat (first | (with_reducible first | exact HB.out | apply pw_below_drewN) | exact HB.out))).mono ?_; rintro e w1 ⟨rfl, hn, hb⟩; clear HN HB; have HN := Aside0.mk hn; have HB := Aside0.mk hb; clear hn hb) | (go_at_call 17; refine (noEnd (by repeat (first | (with_reducible first | exact HN.out | apply No42.drewN) | exact HN.out)) (by repeat (first | (with_reducible first | exact HB.out | apply pw_below_drewN) | exact HB.out))).mono ?_; rintro e w1 ⟨rfl, hn, hb⟩; clear HN HB; have HN := Aside0.mk hn; have HB := Aside0.mk hb; clear hn hb) | (go_at_call 18; refine (noErr (by repeat (first | (with_reducible first | exact HN.out | apply No42.drewN) | exact HN.out)) (by repeat (first | (with_reducible first | exact HB.out | apply pw_below_drewN) | exact HB.out))).mono ?_; rintro e w1 ⟨rfl, hn, hb⟩; clear HN HB; have HN := Aside0.mk hn; have HB := Aside0.mk hb; clear hn hb) | (go_at_call 19; refine (noAt (by repeat (first | (with_reducible first | exact HN.out | apply No42.drewN) | exact HN.out)) (by repeat (first | (with_reducible first | exact HB.out | apply pw_below_drewN) | exact HB.out))).mono ?_; rintro e w1 ⟨rfl, hn, hb⟩; clear HN HB; have HN := Aside0.mk hn; have HB := Aside0.mk hb; clear hn hb) | (go_at_call 7; refine (pleachlaw04_awake.calls r _ A1.out).mono ?_; rintro e w1 ⟨rfl, hb⟩; have HB2 := Aside0.mk (below_step (by repeat (first | (with_reducible first | exact HB.out | apply pw_below_drewN) | exact HB.out)) hb); clear hb))
  go_ret
  exact ⟨by first | rfl | (simp; done), by repeat (first | (with_reducible first | exact HB2.out | apply pw_below_drewN) | exact HB2.out)⟩
set_option maxHeartbeats 8000000 in
set_option maxRecDepth 100000 in
theorem pleachlaw04_ScanNobody.calls (a0 : Int) (a1 : Bool) (r : Bool) (w : World) (h : pleachlaw04_ScanNobody.f a0 a1 = some r) :
    Calls Try.prog 5 #[.int .i64 a0, .bool a1] w fun e w' => e = .returned (.bool r) ∧ Below w.heap.size w w' := by
  cases a1 with
  | false => exact pleachlaw04_ScanNobody.nil a0 r w h
  | true => exact pleachlaw04_ScanNobody.made a0 r w h

/-- THE ONE PURE STATEMENT of pleachlaw04_ScanNobody: this session's form. -/
def pleachlaw04_ScanNobody.Pure : Prop := ∀ (a0 : Int) (a1 : Bool), ((Lit.int .i64 a0).wf = true) → pleachlaw04_ScanNobody.f a0 a1 = some true
end Go.Proofs.Ytnmimkoehgdehaa.EScanNobody
