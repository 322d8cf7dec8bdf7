-- Written by this session's own program (wip/tools/ext.py) for this claim; Lean checks it.
import Derived.Test.YtacjpkfpniolmaaDoorEFrameTakesx0
import Derived.Test.YtacjpkfpniolmaaDoorEFrameTakesx1
import Derived.Test.YtacjpkfpniolmaaDoorEFrameTakesx2
namespace Go.Proofs.YtacjpkfpniolmaaDoor.EFrameTakes
open Go.RowKit Go.Proofs.YtacjpkfpniolmaaDoorW.PrintWords Go.Proofs.YtacjpkfpniolmaaDoorW.PrintLast Go.Proofs.YtacjpkfpniolmaaDoorW.PrintMore
attribute [local go_sem] M.run_leq M.run_gtr M.run_geq max2_int min2_int max_two min_two max_three min_three max_four min_four   -- for this text's walks alone
set_option linter.unusedVariables false
set_option linter.unusedSimpArgs false

/-! ### frame_Read_p: function 16 -/
def frame_Read_p.f (s0_0 : ByteArray) (s0_1 : Int) (s0_2 : Int) (s0_3 : Bool) : Option (ByteArray × ByteArray × Int × Int × Bool) := (scan_Scan_Text.f s0_0 s0_1 s0_2 s0_3 65540).bind fun bt147 => ((scan_Scan_Err.f bt147.2.1 bt147.2.2.1 bt147.2.2.2.1 bt147.2.2.2.2).bind fun bt152 => (if bt152.1 = 0 then ((crc_Open.f bt147.1).bind fun bt157 => (if bt157.2 = true then (if bt157.1.toList = ([] : List UInt8) then ((scan_Scan_Fail.f bt152.2.1 bt152.2.2.1 bt152.2.2.2.1 bt152.2.2.2.2 3).bind fun bt159 => (some ((⟨#[]⟩ : ByteArray), bt159.1, bt159.2.1, bt159.2.2.1, bt159.2.2.2))) else (some (bt157.1, bt152.2.1, bt152.2.2.1, bt152.2.2.2.1, bt152.2.2.2.2))) else ((scan_Scan_Fail.f bt152.2.1 bt152.2.2.1 bt152.2.2.2.1 bt152.2.2.2.2 3).bind fun bt163 => (some ((⟨#[]⟩ : ByteArray), bt163.1, bt163.2.1, bt163.2.2.1, bt163.2.2.2))))) else (some ((⟨#[]⟩ : ByteArray), bt152.2.1, bt152.2.2.1, bt152.2.2.2.1, bt152.2.2.2.2))))
set_option maxHeartbeats 8000000 in
set_option maxRecDepth 100000 in
theorem frame_Read_p.calls (g : Nat) (s0_0 : ByteArray) (s0_1 : Int) (s0_2 : Int) (s0_3 : Bool) (r1 : ByteArray) (r2 : ByteArray) (r3 : Int) (r4 : Int) (r5 : Bool) (w0 w : World) (hI : IsS59 w0 w g s0_0 s0_1 s0_2 s0_3) (hB : Below w0.heap.size w0 w) (h : frame_Read_p.f s0_0 s0_1 s0_2 s0_3 = some (r1, r2, r3, r4, r5)) (hT : M.tab 0 w0) :
    Calls Tryd.prog 16 #[.pointer (some ⟨g, 0, none⟩)] w fun e w' => e = .returned (.string r1) ∧ IsS59 w0 w' g r2 r3 r4 r5 ∧ Below w0.heap.size w0 w' ∧ KeepBut w w' g none := by
  have HT := Aside0.mk hT
  clear hT
  have HI0 := Aside0.mk hI
  have HK := Aside0.mk (KeepBut.refl w g none)
  have HL := Aside0.mk hB.size
  clear hI
  have HW0 := Aside0.mk hB.size
  have HB := Aside0.mk hB
  clear hB
  have H : ((scan_Scan_Text.f s0_0 s0_1 s0_2 s0_3 65540).bind fun bt147 => ((scan_Scan_Err.f bt147.2.1 bt147.2.2.1 bt147.2.2.2.1 bt147.2.2.2.2).bind fun bt152 => (if bt152.1 = 0 then ((crc_Open.f bt147.1).bind fun bt157 => (if bt157.2 = true then (if bt157.1.toList = ([] : List UInt8) then ((scan_Scan_Fail.f bt152.2.1 bt152.2.2.1 bt152.2.2.2.1 bt152.2.2.2.2 3).bind fun bt159 => (some ((⟨#[]⟩ : ByteArray), bt159.1, bt159.2.1, bt159.2.2.1, bt159.2.2.2))) else (some (bt157.1, bt152.2.1, bt152.2.2.1, bt152.2.2.2.1, bt152.2.2.2.2))) else ((scan_Scan_Fail.f bt152.2.1 bt152.2.2.1 bt152.2.2.2.1 bt152.2.2.2.2 3).bind fun bt163 => (some ((⟨#[]⟩ : ByteArray), bt163.1, bt163.2.1, bt163.2.2.1, bt163.2.2.2))))) else (some ((⟨#[]⟩ : ByteArray), bt152.2.1, bt152.2.2.1, bt152.2.2.2.1, bt152.2.2.2.2))))) = some (r1, r2, r3, r4, r5) := h
  clear h
  replace H := Option.bind_eq_some_iff.mp H
  obtain ⟨⟨t147, t148, t149, t150, t151⟩, A20, H⟩ := H
  replace H : ((scan_Scan_Err.f t148 t149 t150 t151).bind fun bt152 => (if bt152.1 = 0 then ((crc_Open.f t147).bind fun bt157 => (if bt157.2 = true then (if bt157.1.toList = ([] : List UInt8) then ((scan_Scan_Fail.f bt152.2.1 bt152.2.2.1 bt152.2.2.2.1 bt152.2.2.2.2 3).bind fun bt159 => (some ((⟨#[]⟩ : ByteArray), bt159.1, bt159.2.1, bt159.2.2.1, bt159.2.2.2))) else (some (bt157.1, bt152.2.1, bt152.2.2.1, bt152.2.2.2.1, bt152.2.2.2.2))) else ((scan_Scan_Fail.f bt152.2.1 bt152.2.2.1 bt152.2.2.2.1 bt152.2.2.2.2 3).bind fun bt163 => (some ((⟨#[]⟩ : ByteArray), bt163.1, bt163.2.1, bt163.2.2.1, bt163.2.2.2))))) else (some ((⟨#[]⟩ : ByteArray), bt152.2.1, bt152.2.2.1, bt152.2.2.2.1, bt152.2.2.2.2)))) = some (r1, r2, r3, r4, r5) := H
  have A2 := Aside0.mk A20
  clear A20
  replace H := Option.bind_eq_some_iff.mp H
  obtain ⟨⟨t152, t153, t154, t155, t156⟩, A30, H⟩ := H
  replace H : (if t152 = 0 then ((crc_Open.f t147).bind fun bt157 => (if bt157.2 = true then (if bt157.1.toList = ([] : List UInt8) then ((scan_Scan_Fail.f t153 t154 t155 t156 3).bind fun bt159 => (some ((⟨#[]⟩ : ByteArray), bt159.1, bt159.2.1, bt159.2.2.1, bt159.2.2.2))) else (some (bt157.1, t153, t154, t155, t156))) else ((scan_Scan_Fail.f t153 t154 t155 t156 3).bind fun bt163 => (some ((⟨#[]⟩ : ByteArray), bt163.1, bt163.2.1, bt163.2.2.1, bt163.2.2.2))))) else (some ((⟨#[]⟩ : ByteArray), t153, t154, t155, t156))) = some (r1, r2, r3, r4, r5) := H
  have A3 := Aside0.mk A30
  clear A30
  by_cases c4 : t152 = 0
  · rw [if_pos c4] at H
    have c4b0 : (t152 == 0) = true := beq_iff_eq.mpr c4
    have c4b1 : (t152 != 0) = false := bne_eq_false_iff_eq.mpr c4
    clear c4
    replace H := Option.bind_eq_some_iff.mp H
    obtain ⟨⟨t157, t158⟩, A50, H⟩ := H
    replace H : (if t158 = true then (if t157.toList = ([] : List UInt8) then ((scan_Scan_Fail.f t153 t154 t155 t156 3).bind fun bt159 => (some ((⟨#[]⟩ : ByteArray), bt159.1, bt159.2.1, bt159.2.2.1, bt159.2.2.2))) else (some (t157, t153, t154, t155, t156))) else ((scan_Scan_Fail.f t153 t154 t155 t156 3).bind fun bt163 => (some ((⟨#[]⟩ : ByteArray), bt163.1, bt163.2.1, bt163.2.2.1, bt163.2.2.2)))) = some (r1, r2, r3, r4, r5) := H
    have A5 := Aside0.mk A50
    clear A50
    by_cases c6 : t158 = true
    · subst c6
      have H1 : (if t157.toList = ([] : List UInt8) then ((scan_Scan_Fail.f t153 t154 t155 t156 3).bind fun bt159 => (some ((⟨#[]⟩ : ByteArray), bt159.1, bt159.2.1, bt159.2.2.1, bt159.2.2.2))) else (some (t157, t153, t154, t155, t156))) = some (r1, r2, r3, r4, r5) := by rw [if_pos rfl] at H; exact H
      clear H
      have H := H1
      clear H1
      by_cases c7 : t157.toList = ([] : List UInt8)
      · rw [if_pos c7] at H
        have c7b0 : (t157.toList == ([] : List UInt8)) = true := beq_iff_eq.mpr c7
        have c7b1 : (t157.toList != ([] : List UInt8)) = false := bne_eq_false_iff_eq.mpr c7
        clear c7
        replace H := Option.bind_eq_some_iff.mp H
        obtain ⟨⟨t159, t160, t161, t162⟩, A80, H⟩ := H
        replace H : (some ((⟨#[]⟩ : ByteArray), t159, t160, t161, t162)) = some (r1, r2, r3, r4, r5) := H
        have A8 := Aside0.mk A80
        clear A80
        simp only [Option.some.injEq, Prod.mk.injEq] at H
        obtain ⟨rfl, rfl, rfl, rfl, rfl⟩ := H
        go_enter Tryd.func16, Tryd.ntmps16
        go_wp2_with (first | ((with_reducible refine gate_callee (f := 32) rfl ?_); refine M.goes (some 7) Tryd.func32 #[.pointer (some ⟨g, 0, none⟩), .int .i64 65540] rfl ?_; (with_reducible refine (scan_Scan_Text.calls g s0_0 s0_1 s0_2 s0_3 65540 t147 t148 t149 t150 t151 w0 _ ?side1 ?side2 A2.out).mono ?_); (case side1 => repeat (first | (with_reducible first | exact HI0.out | apply IsS59.alloc | apply IsS59.drewN | apply IsS59.drew | apply IsS59.set_0 | apply IsS59.set_1 | apply IsS59.set_2 | apply IsS59.set_3) | exact HI0.out)); (case side2 => repeat (first | (with_reducible first | exact HB.out | apply below_alloc | apply pw_below_drewN | apply below_drew1 | refine below_set ?_ (IsS59.ge HI0.out)) | exact HB.out)); rintro e w9 ⟨rfl, hi, hb, hk⟩; refine ⟨_, rfl, ?_⟩; have n0_ := Aside0.mk (KeepBut.trans (by repeat (first | (with_reducible first | exact HK.out | apply KeepBut.set_ | apply keep_drewN | apply keep_drew | apply keep_alloc) | exact HK.out)) hk (.inl rfl)); have n1_ := Aside0.mk (hb); have n2_ := Aside0.mk (hi); clear HK HB HI0; have HK := n0_; have HB := n1_; have HI0 := n2_; clear n0_ n1_ n2_; (try clear hb); (try clear hk); (try clear hi)) | ((with_reducible refine gate_callee (f := 19) rfl ?_); refine M.goes (some 9) Tryd.func19 #[.pointer (some ⟨g, 0, none⟩)] rfl ?_; (with_reducible refine (scan_Scan_Err.calls g t148 t149 t150 t151 t152 t153 t154 t155 t156 w0 _ ?side1 ?side2 A3.out).mono ?_); (case side1 => repeat (first | (with_reducible first | exact HI0.out | apply IsS59.alloc | apply IsS59.drewN | apply IsS59.drew | apply IsS59.set_0 | apply IsS59.set_1 | apply IsS59.set_2 | apply IsS59.set_3) | exact HI0.out)); (case side2 => repeat (first | (with_reducible first | exact HB.out | apply below_alloc | apply pw_below_drewN | apply below_drew1 | refine below_set ?_ (IsS59.ge HI0.out)) | exact HB.out)); rintro e w10 ⟨rfl, hi, hb, hk⟩; refine ⟨_, rfl, ?_⟩; have n0_ := Aside0.mk (KeepBut.trans (by repeat (first | (with_reducible first | exact HK.out | apply KeepBut.set_ | apply keep_drewN | apply keep_drew | apply keep_alloc) | exact HK.out)) hk (.inl rfl)); have n1_ := Aside0.mk (hb); have n2_ := Aside0.mk (hi); clear HK HB HI0; have HK := n0_; have HB := n1_; have HI0 := n2_; clear n0_ n1_ n2_; (try clear hb); (try clear hk); (try clear hi)) | ((with_reducible refine gate_callee (f := 33) rfl ?_); refine M.goes (some 13) Tryd.func33 #[.string t147] rfl ?_; (with_reducible refine (crc_Open.calls t147 t157 true _ A5.out (hT := M.tab_up HT (M.up HB))).mono ?_); rintro e w11 ⟨rfl, hb⟩; refine ⟨_, rfl, ?_⟩; have n0_ := Aside0.mk (IsS59.below (by repeat (first | (with_reducible first | exact HI0.out | apply IsS59.alloc | apply IsS59.drewN | apply IsS59.drew | apply IsS59.set_0 | apply IsS59.set_1 | apply IsS59.set_2 | apply IsS59.set_3) | exact HI0.out)) hb); have n1_ := Aside0.mk (KeepBut.trans (by repeat (first | (with_reducible first | exact HK.out | apply KeepBut.set_ | apply keep_drewN | apply keep_drew | apply keep_alloc) | exact HK.out)) (KeepBut.of_below hb g none) (.inl rfl)); have n2_ := Aside0.mk (below_step (by repeat (first | (with_reducible first | exact HB.out | apply below_alloc | apply pw_below_drewN | apply below_drew1 | refine below_set ?_ (IsS59.ge HI0.out)) | exact HB.out)) hb); clear HI0 HK HB; have HI0 := n0_; have HK := n1_; have HB := n2_; clear n0_ n1_ n2_; (try clear hb)) | ((with_reducible refine gate_callee (f := 34) rfl ?_); refine M.goes (some 23) Tryd.func34 #[.pointer (some ⟨g, 0, none⟩), .int .i64 3] rfl ?_; (with_reducible refine (scan_Scan_Fail.calls g t153 t154 t155 t156 3 t159 t160 t161 t162 w0 _ ?side1 ?side2 A8.out).mono ?_); (case side1 => repeat (first | (with_reducible first | exact HI0.out | apply IsS59.alloc | apply IsS59.drewN | apply IsS59.drew | apply IsS59.set_0 | apply IsS59.set_1 | apply IsS59.set_2 | apply IsS59.set_3) | exact HI0.out)); (case side2 => repeat (first | (with_reducible first | exact HB.out | apply below_alloc | apply pw_below_drewN | apply below_drew1 | refine below_set ?_ (IsS59.ge HI0.out)) | exact HB.out)); rintro e w12 ⟨rfl, hi, hb, hk⟩; refine ⟨_, rfl, ?_⟩; have n0_ := Aside0.mk (KeepBut.trans (by repeat (first | (with_reducible first | exact HK.out | apply KeepBut.set_ | apply keep_drewN | apply keep_drew | apply keep_alloc) | exact HK.out)) hk (.inl rfl)); have n1_ := Aside0.mk (hb); have n2_ := Aside0.mk (hi); clear HK HB HI0; have HK := n0_; have HB := n1_; have HI0 := n2_; clear n0_ n1_ n2_; (try clear hb); (try clear hk); (try clear hi)))
        go_ret
        exact ⟨by first | rfl | (simp [errW_none, errW_some] <;> rfl) | (simp [*, errW_none, errW_some] <;> rfl), by repeat (first | (with_reducible first | exact HI0.out | apply IsS59.alloc | apply IsS59.drewN | apply IsS59.drew | apply IsS59.set_0 | apply IsS59.set_1 | apply IsS59.set_2 | apply IsS59.set_3) | exact HI0.out), by repeat (first | (with_reducible first | exact HB.out | apply below_alloc | apply pw_below_drewN | apply below_drew1 | refine below_set ?_ (IsS59.ge HI0.out)) | exact HB.out), by repeat (first | (with_reducible first | exact HK.out | apply KeepBut.set_ | apply keep_drewN | apply keep_drew | apply keep_alloc) | exact HK.out)⟩
      · rw [if_neg c7] at H
        have c7b0 : (t157.toList == ([] : List UInt8)) = false := beq_eq_false_iff_ne.mpr c7
        have c7b1 : (t157.toList != ([] : List UInt8)) = true := bne_iff_ne.mpr c7
        simp only [Option.some.injEq, Prod.mk.injEq] at H
        obtain ⟨rfl, rfl, rfl, rfl, rfl⟩ := H
        go_enter Tryd.func16, Tryd.ntmps16
        go_wp2_with (first | ((with_reducible refine gate_callee (f := 32) rfl ?_); refine M.goes (some 7) Tryd.func32 #[.pointer (some ⟨g, 0, none⟩), .int .i64 65540] rfl ?_; (with_reducible refine (scan_Scan_Text.calls g s0_0 s0_1 s0_2 s0_3 65540 t147 t148 t149 t150 t151 w0 _ ?side1 ?side2 A2.out).mono ?_); (case side1 => repeat (first | (with_reducible first | exact HI0.out | apply IsS59.alloc | apply IsS59.drewN | apply IsS59.drew | apply IsS59.set_0 | apply IsS59.set_1 | apply IsS59.set_2 | apply IsS59.set_3) | exact HI0.out)); (case side2 => repeat (first | (with_reducible first | exact HB.out | apply below_alloc | apply pw_below_drewN | apply below_drew1 | refine below_set ?_ (IsS59.ge HI0.out)) | exact HB.out)); rintro e w13 ⟨rfl, hi, hb, hk⟩; refine ⟨_, rfl, ?_⟩; have n0_ := Aside0.mk (KeepBut.trans (by repeat (first | (with_reducible first | exact HK.out | apply KeepBut.set_ | apply keep_drewN | apply keep_drew | apply keep_alloc) | exact HK.out)) hk (.inl rfl)); have n1_ := Aside0.mk (hb); have n2_ := Aside0.mk (hi); clear HK HB HI0; have HK := n0_; have HB := n1_; have HI0 := n2_; clear n0_ n1_ n2_; (try clear hb); (try clear hk); (try clear hi)) | ((with_reducible refine gate_callee (f := 19) rfl ?_); refine M.goes (some 9) Tryd.func19 #[.pointer (some ⟨g, 0, none⟩)] rfl ?_; (with_reducible refine (scan_Scan_Err.calls g t148 t149 t150 t151 t152 t153 t154 t155 t156 w0 _ ?side1 ?side2 A3.out).mono ?_); (case side1 => repeat (first | (with_reducible first | exact HI0.out | apply IsS59.alloc | apply IsS59.drewN | apply IsS59.drew | apply IsS59.set_0 | apply IsS59.set_1 | apply IsS59.set_2 | apply IsS59.set_3) | exact HI0.out)); (case side2 => repeat (first | (with_reducible first | exact HB.out | apply below_alloc | apply pw_below_drewN | apply below_drew1 | refine below_set ?_ (IsS59.ge HI0.out)) | exact HB.out)); rintro e w14 ⟨rfl, hi, hb, hk⟩; refine ⟨_, rfl, ?_⟩; have n0_ := Aside0.mk (KeepBut.trans (by repeat (first | (with_reducible first | exact HK.out | apply KeepBut.set_ | apply keep_drewN | apply keep_drew | apply keep_alloc) | exact HK.out)) hk (.inl rfl)); have n1_ := Aside0.mk (hb); have n2_ := Aside0.mk (hi); clear HK HB HI0; have HK := n0_; have HB := n1_; have HI0 := n2_; clear n0_ n1_ n2_; (try clear hb); (try clear hk); (try clear hi)) | ((with_reducible refine gate_callee (f := 33) rfl ?_); refine M.goes (some 13) Tryd.func33 #[.string t147] rfl ?_; (with_reducible refine (crc_Open.calls t147 t157 true _ A5.out (hT := M.tab_up HT (M.up HB))).mono ?_); rintro e w15 ⟨rfl, hb⟩; refine ⟨_, rfl, ?_⟩; have n0_ := Aside0.mk (IsS59.below (by repeat (first | (with_reducible first | exact HI0.out | apply IsS59.alloc | apply IsS59.drewN | apply IsS59.drew | apply IsS59.set_0 | apply IsS59.set_1 | apply IsS59.set_2 | apply IsS59.set_3) | exact HI0.out)) hb); have n1_ := Aside0.mk (KeepBut.trans (by repeat (first | (with_reducible first | exact HK.out | apply KeepBut.set_ | apply keep_drewN | apply keep_drew | apply keep_alloc) | exact HK.out)) (KeepBut.of_below hb g none) (.inl rfl)); have n2_ := Aside0.mk (below_step (by repeat (first | (with_reducible first | exact HB.out | apply below_alloc | apply pw_below_drewN | apply below_drew1 | refine below_set ?_ (IsS59.ge HI0.out)) | exact HB.out)) hb); clear HI0 HK HB; have HI0 := n0_; have HK := n1_; have HB := n2_; clear n0_ n1_ n2_; (try clear hb)))
        go_ret
        exact ⟨by first | rfl | (simp [errW_none, errW_some] <;> rfl) | (simp [*, errW_none, errW_some] <;> rfl), by repeat (first | (with_reducible first | exact HI0.out | apply IsS59.alloc | apply IsS59.drewN | apply IsS59.drew | apply IsS59.set_0 | apply IsS59.set_1 | apply IsS59.set_2 | apply IsS59.set_3) | exact HI0.out), by repeat (first | (with_reducible first | exact HB.out | apply below_alloc | apply pw_below_drewN | apply below_drew1 | refine below_set ?_ (IsS59.ge HI0.out)) | exact HB.out), by repeat (first | (with_reducible first | exact HK.out | apply KeepBut.set_ | apply keep_drewN | apply keep_drew | apply keep_alloc) | exact HK.out)⟩
    · replace c6 := Bool.eq_false_iff.mpr c6
      subst c6
      have H1 : ((scan_Scan_Fail.f t153 t154 t155 t156 3).bind fun bt163 => (some ((⟨#[]⟩ : ByteArray), bt163.1, bt163.2.1, bt163.2.2.1, bt163.2.2.2))) = some (r1, r2, r3, r4, r5) := by rw [if_neg (show ¬ (false = true) by decide)] at H; exact H
      clear H
      have H := H1
      clear H1
      replace H := Option.bind_eq_some_iff.mp H
      obtain ⟨⟨t163, t164, t165, t166⟩, A160, H⟩ := H
      replace H : (some ((⟨#[]⟩ : ByteArray), t163, t164, t165, t166)) = some (r1, r2, r3, r4, r5) := H
      have A16 := Aside0.mk A160
      clear A160
      simp only [Option.some.injEq, Prod.mk.injEq] at H
      obtain ⟨rfl, rfl, rfl, rfl, rfl⟩ := H
      go_enter Tryd.func16, Tryd.ntmps16
      go_wp2_with (first | ((with_reducible refine gate_callee (f := 32) rfl ?_); refine M.goes (some 7) Tryd.func32 #[.pointer (some ⟨g, 0, none⟩), .int .i64 65540] rfl ?_; (with_reducible refine (scan_Scan_Text.calls g s0_0 s0_1 s0_2 s0_3 65540 t147 t148 t149 t150 t151 w0 _ ?side1 ?side2 A2.out).mono ?_); (case side1 => repeat (first | (with_reducible first | exact HI0.out | apply IsS59.alloc | apply IsS59.drewN | apply IsS59.drew | apply IsS59.set_0 | apply IsS59.set_1 | apply IsS59.set_2 | apply IsS59.set_3) | exact HI0.out)); (case side2 => repeat (first | (with_reducible first | exact HB.out | apply below_alloc | apply pw_below_drewN | apply below_drew1 | refine below_set ?_ (IsS59.ge HI0.out)) | exact HB.out)); rintro e w17 ⟨rfl, hi, hb, hk⟩; refine ⟨_, rfl, ?_⟩; have n0_ := Aside0.mk (KeepBut.trans (by repeat (first | (with_reducible first | exact HK.out | apply KeepBut.set_ | apply keep_drewN | apply keep_drew | apply keep_alloc) | exact HK.out)) hk (.inl rfl)); have n1_ := Aside0.mk (hb); have n2_ := Aside0.mk (hi); clear HK HB HI0; have HK := n0_; have HB := n1_; have HI0 := n2_; clear n0_ n1_ n2_; (try clear hb); (try clear hk); (try clear hi)) | ((with_reducible refine gate_callee (f := 19) rfl ?_); refine M.goes (some 9) Tryd.func19 #[.pointer (some ⟨g, 0, none⟩)] rfl ?_; (with_reducible refine (scan_Scan_Err.calls g t148 t149 t150 t151 t152 t153 t154 t155 t156 w0 _ ?side1 ?side2 A3.out).mono ?_); (case side1 => repeat (first | (with_reducible first | exact HI0.out | apply IsS59.alloc | apply IsS59.drewN | apply IsS59.drew | apply IsS59.set_0 | apply IsS59.set_1 | apply IsS59.set_2 | apply IsS59.set_3) | exact HI0.out)); (case side2 => repeat (first | (with_reducible first | exact HB.out | apply below_alloc | apply pw_below_drewN | apply below_drew1 | refine below_set ?_ (IsS59.ge HI0.out)) | exact HB.out)); rintro e w18 ⟨rfl, hi, hb, hk⟩; refine ⟨_, rfl, ?_⟩; have n0_ := Aside0.mk (KeepBut.trans (by repeat (first | (with_reducible first | exact HK.out | apply KeepBut.set_ | apply keep_drewN | apply keep_drew | apply keep_alloc) | exact HK.out)) hk (.inl rfl)); have n1_ := Aside0.mk (hb); have n2_ := Aside0.mk (hi); clear HK HB HI0; have HK := n0_; have HB := n1_; have HI0 := n2_; clear n0_ n1_ n2_; (try clear hb); (try clear hk); (try clear hi)) | ((with_reducible refine gate_callee (f := 33) rfl ?_); refine M.goes (some 13) Tryd.func33 #[.string t147] rfl ?_; (with_reducible refine (crc_Open.calls t147 t157 false _ A5.out (hT := M.tab_up HT (M.up HB))).mono ?_); rintro e w19 ⟨rfl, hb⟩; refine ⟨_, rfl, ?_⟩; have n0_ := Aside0.mk (IsS59.below (by repeat (first | (with_reducible first | exact HI0.out | apply IsS59.alloc | apply IsS59.drewN | apply IsS59.drew | apply IsS59.set_0 | apply IsS59.set_1 | apply IsS59.set_2 | apply IsS59.set_3) | exact HI0.out)) hb); have n1_ := Aside0.mk (KeepBut.trans (by repeat (first | (with_reducible first | exact HK.out | apply KeepBut.set_ | apply keep_drewN | apply keep_drew | apply keep_alloc) | exact HK.out)) (KeepBut.of_below hb g none) (.inl rfl)); have n2_ := Aside0.mk (below_step (by repeat (first | (with_reducible first | exact HB.out | apply below_alloc | apply pw_below_drewN | apply below_drew1 | refine below_set ?_ (IsS59.ge HI0.out)) | exact HB.out)) hb); clear HI0 HK HB; have HI0 := n0_; have HK := n1_; have HB := n2_; clear n0_ n1_ n2_; (try clear hb)) | ((with_reducible refine gate_callee (f := 34) rfl ?_); refine M.goes (some 23) Tryd.func34 #[.pointer (some ⟨g, 0, none⟩), .int .i64 3] rfl ?_; (with_reducible refine (scan_Scan_Fail.calls g t153 t154 t155 t156 3 t163 t164 t165 t166 w0 _ ?side1 ?side2 A16.out).mono ?_); (case side1 => repeat (first | (with_reducible first | exact HI0.out | apply IsS59.alloc | apply IsS59.drewN | apply IsS59.drew | apply IsS59.set_0 | apply IsS59.set_1 | apply IsS59.set_2 | apply IsS59.set_3) | exact HI0.out)); (case side2 => repeat (first | (with_reducible first | exact HB.out | apply below_alloc | apply pw_below_drewN | apply below_drew1 | refine below_set ?_ (IsS59.ge HI0.out)) | exact HB.out)); rintro e w20 ⟨rfl, hi, hb, hk⟩; refine ⟨_, rfl, ?_⟩; have n0_ := Aside0.mk (KeepBut.trans (by repeat (first | (with_reducible first | exact HK.out | apply KeepBut.set_ | apply keep_drewN | apply keep_drew | apply keep_alloc) | exact HK.out)) hk (.inl rfl)); have n1_ := Aside0.mk (hb); have n2_ := Aside0.mk (hi); clear HK HB HI0; have HK := n0_; have HB := n1_; have HI0 := n2_; clear n0_ n1_ n2_; (try clear hb); (try clear hk); (try clear hi)))
      go_ret
      exact ⟨by first | rfl | (simp [errW_none, errW_some] <;> rfl) | (simp [*, errW_none, errW_some] <;> rfl), by repeat (first | (with_reducible first | exact HI0.out | apply IsS59.alloc | apply IsS59.drewN | apply IsS59.drew | apply IsS59.set_0 | apply IsS59.set_1 | apply IsS59.set_2 | apply IsS59.set_3) | exact HI0.out), by repeat (first | (with_reducible first | exact HB.out | apply below_alloc | apply pw_below_drewN | apply below_drew1 | refine below_set ?_ (IsS59.ge HI0.out)) | exact HB.out), by repeat (first | (with_reducible first | exact HK.out | apply KeepBut.set_ | apply keep_drewN | apply keep_drew | apply keep_alloc) | exact HK.out)⟩
  · rw [if_neg c4] at H
    have c4b0 : (t152 == 0) = false := beq_eq_false_iff_ne.mpr c4
    have c4b1 : (t152 != 0) = true := bne_iff_ne.mpr c4
    simp only [Option.some.injEq, Prod.mk.injEq] at H
    obtain ⟨rfl, rfl, rfl, rfl, rfl⟩ := H
    go_enter Tryd.func16, Tryd.ntmps16
    go_wp2_with (first | ((with_reducible refine gate_callee (f := 32) rfl ?_); refine M.goes (some 7) Tryd.func32 #[.pointer (some ⟨g, 0, none⟩), .int .i64 65540] rfl ?_; (with_reducible refine (scan_Scan_Text.calls g s0_0 s0_1 s0_2 s0_3 65540 t147 t148 t149 t150 t151 w0 _ ?side1 ?side2 A2.out).mono ?_); (case side1 => repeat (first | (with_reducible first | exact HI0.out | apply IsS59.alloc | apply IsS59.drewN | apply IsS59.drew | apply IsS59.set_0 | apply IsS59.set_1 | apply IsS59.set_2 | apply IsS59.set_3) | exact HI0.out)); (case side2 => repeat (first | (with_reducible first | exact HB.out | apply below_alloc | apply pw_below_drewN | apply below_drew1 | refine below_set ?_ (IsS59.ge HI0.out)) | exact HB.out)); rintro e w21 ⟨rfl, hi, hb, hk⟩; refine ⟨_, rfl, ?_⟩; have n0_ := Aside0.mk (KeepBut.trans (by repeat (first | (with_reducible first | exact HK.out | apply KeepBut.set_ | apply keep_drewN | apply keep_drew | apply keep_alloc) | exact HK.out)) hk (.inl rfl)); have n1_ := Aside0.mk (hb); have n2_ := Aside0.mk (hi); clear HK HB HI0; have HK := n0_; have HB := n1_; have HI0 := n2_; clear n0_ n1_ n2_; (try clear hb); (try clear hk); (try clear hi)) | ((with_reducible refine gate_callee (f := 19) rfl ?_); refine M.goes (some 9) Tryd.func19 #[.pointer (some ⟨g, 0, none⟩)] rfl ?_; (with_reducible refine (scan_Scan_Err.calls g t148 t149 t150 t151 t152 t153 t154 t155 t156 w0 _ ?side1 ?side2 A3.out).mono ?_); (case side1 => repeat (first | (with_reducible first | exact HI0.out | apply IsS59.alloc | apply IsS59.drewN | apply IsS59.drew | apply IsS59.set_0 | apply IsS59.set_1 | apply IsS59.set_2 | apply IsS59.set_3) | exact HI0.out)); (case side2 => repeat (first | (with_reducible first | exact HB.out | apply below_alloc | apply pw_below_drewN | apply below_drew1 | refine below_set ?_ (IsS59.ge HI0.out)) | exact HB.out)); rintro e w22 ⟨rfl, hi, hb, hk⟩; refine ⟨_, rfl, ?_⟩; have n0_ := Aside0.mk (KeepBut.trans (by repeat (first | (with_reducible first | exact HK.out | apply KeepBut.set_ | apply keep_drewN | apply keep_drew | apply keep_alloc) | exact HK.out)) hk (.inl rfl)); have n1_ := Aside0.mk (hb); have n2_ := Aside0.mk (hi); clear HK HB HI0; have HK := n0_; have HB := n1_; have HI0 := n2_; clear n0_ n1_ n2_; (try clear hb); (try clear hk); (try clear hi)))
    go_ret
    exact ⟨by first | rfl | (simp [errW_none, errW_some] <;> rfl) | (simp [*, errW_none, errW_some] <;> rfl), by repeat (first | (with_reducible first | exact HI0.out | apply IsS59.alloc | apply IsS59.drewN | apply IsS59.drew | apply IsS59.set_0 | apply IsS59.set_1 | apply IsS59.set_2 | apply IsS59.set_3) | exact HI0.out), by repeat (first | (with_reducible first | exact HB.out | apply below_alloc | apply pw_below_drewN | apply below_drew1 | refine below_set ?_ (IsS59.ge HI0.out)) | exact HB.out), by repeat (first | (with_reducible first | exact HK.out | apply KeepBut.set_ | apply keep_drewN | apply keep_drew | apply keep_alloc) | exact HK.out)⟩

-- this session's own plain form
def frame_Read.f (s0_0 : ByteArray) (s0_1 : Int) (s0_2 : Int) (s0_3 : Bool) : Option (ByteArray × ByteArray × Int × Int × Bool) :=
  if s0_3 = true ∧ M.sok s0_0 s0_1 ∧ s0_0.size ≤ 9223372036854775806 then some ((M.fread s0_0 s0_1 s0_2).1, s0_0, (M.fread s0_0 s0_1 s0_2).2.1, (M.fread s0_0 s0_1 s0_2).2.2, true) else none
theorem frame_Read.text_size {s : ByteArray} {p er : Int} (hs : M.sok s p) (hz : s.size ≤ 9223372036854775806) (h : (M.xtext s p er 65540).2.2 = 0) : (M.xtext s p er 65540).1.size ≤ 9223372036854775806 := by
  have := (M.xtext_span hs h).2.2; omega
theorem frame_Read.ev (s : ByteArray) (p er : Int) (md : Bool) (r : ByteArray × ByteArray × Int × Int × Bool) (h : frame_Read.f s p er md = some r) : frame_Read_p.f s p er md = some r := by
  unfold frame_Read.f at h
  split at h
  case isFalse => cases h
  case isTrue hh =>
    obtain ⟨rfl, hs, hz⟩ := hh
    rw [← h]
    unfold frame_Read_p.f scan_Scan_Text.f scan_Scan_Err.f scan_Scan_Fail.f scan_Scan_fail.f scan_Scan_Err.f
    rw [if_pos rfl, if_pos ⟨hs, by decide⟩]
    simp only [Option.bind_some, if_true]
    by_cases h0 : (M.xtext s p er 65540).2.2 = 0
    · have hf : M.fread s p er = if (M.copen (M.xtext s p er 65540).1).2 = true ∧ (M.copen (M.xtext s p er 65540).1).1.size ≠ 0 then ((M.copen (M.xtext s p er 65540).1).1, (M.xtext s p er 65540).2.1, 0) else (M.sb [], (M.xtext s p er 65540).2.1, 3) := by
        unfold M.fread; rw [if_pos h0]
      unfold crc_Open.f
      rw [if_pos h0, if_pos (frame_Read.text_size hs hz h0), Option.bind_some, hf]
      rw [h0, if_neg (by decide : ¬ (3 : Int) = 0), if_pos (rfl : (0 : Int) = 0)]
      cases hb : (M.copen (M.xtext s p er 65540).1).2 with
      | false => rfl
      | true =>
        rw [if_pos rfl]
        by_cases hn : (M.copen (M.xtext s p er 65540).1).1.size = 0
        · rw [if_pos ((M.nil_iff _).2 hn), if_neg (fun z => z.2 hn)]; rfl
        · rw [if_neg (fun z => hn ((M.nil_iff _).1 z)), if_pos ⟨rfl, hn⟩]
    · have hf : M.fread s p er = (M.sb [], (M.xtext s p er 65540).2.1, (M.xtext s p er 65540).2.2) := by unfold M.fread; rw [if_neg h0]
      rw [if_neg h0, hf]; rfl
theorem frame_Read.calls (g : Nat) (s0_0 : ByteArray) (s0_1 : Int) (s0_2 : Int) (s0_3 : Bool) (r1 : ByteArray) (r2 : ByteArray) (r3 : Int) (r4 : Int) (r5 : Bool) (w0 w : World) (hI : IsS59 w0 w g s0_0 s0_1 s0_2 s0_3) (hB : Below w0.heap.size w0 w) (h : frame_Read.f s0_0 s0_1 s0_2 s0_3 = some (r1, r2, r3, r4, r5)) (hT : M.tab 0 w0) :
    Calls Tryd.prog 16 #[.pointer (some ⟨g, 0, none⟩)] w fun e w' => e = .returned (.string r1) ∧ IsS59 w0 w' g r2 r3 r4 r5 ∧ Below w0.heap.size w0 w' ∧ KeepBut w w' g none := by
  have HT := Aside0.mk hT
  clear hT
  exact frame_Read_p.calls (hT := HT.out) (w := w) (h := frame_Read.ev _ _ _ _ _ h) (hI := hI) (hB := hB)

/-! ### scan_Scan_At: function 20 -/
def scan_Scan_At.f (s0_0 : ByteArray) (s0_1 : Int) (s0_2 : Int) (s0_3 : Bool) : Option (Int × ByteArray × Int × Int × Bool) := some (s0_1, s0_0, s0_1, s0_2, s0_3)
set_option maxHeartbeats 8000000 in
set_option maxRecDepth 100000 in
theorem scan_Scan_At.calls (g : Nat) (s0_0 : ByteArray) (s0_1 : Int) (s0_2 : Int) (s0_3 : Bool) (r1 : Int) (r2 : ByteArray) (r3 : Int) (r4 : Int) (r5 : Bool) (w0 w : World) (hI : IsS59 w0 w g s0_0 s0_1 s0_2 s0_3) (hB : Below w0.heap.size w0 w) (h : scan_Scan_At.f s0_0 s0_1 s0_2 s0_3 = some (r1, r2, r3, r4, r5)) :
    Calls Tryd.prog 20 #[.pointer (some ⟨g, 0, none⟩)] w fun e w' => e = .returned (.int .i64 r1) ∧ IsS59 w0 w' g r2 r3 r4 r5 ∧ Below w0.heap.size w0 w' ∧ KeepBut w w' g none := by
  have HI0 := Aside0.mk hI
  have HK := Aside0.mk (KeepBut.refl w g none)
  have HL := Aside0.mk hB.size
  clear hI
  have HW0 := Aside0.mk hB.size
  have HB := Aside0.mk hB
  clear hB
  have H : (some (s0_1, s0_0, s0_1, s0_2, s0_3)) = some (r1, r2, r3, r4, r5) := h
  clear h
  simp only [Option.some.injEq, Prod.mk.injEq] at H
  obtain ⟨rfl, rfl, rfl, rfl, rfl⟩ := H
  obtain ⟨HGz2, hgz2⟩ := HI0.out
  have zaa := cellS59_0 HGz2
  have zab := cellS59_1 HGz2
  have zac := cellS59_2 HGz2
  have zad := cellS59_3 HGz2
  have zae := blk_frozen HGz2 0
  have zaf := blk_frozen HGz2 1
  have zag := blk_frozen HGz2 2
  have zah := blk_frozen HGz2 3
  clear HGz2 hgz2
  go_enter Tryd.func20, Tryd.ntmps20
  go_wp2
  go_ret
  exact ⟨by first | rfl | (simp [errW_none, errW_some] <;> rfl) | (simp [*, errW_none, errW_some] <;> rfl), by repeat (first | (with_reducible first | exact HI0.out | apply IsS59.alloc | apply IsS59.drewN | apply IsS59.drew | apply IsS59.set_0 | apply IsS59.set_1 | apply IsS59.set_2 | apply IsS59.set_3) | exact HI0.out), by repeat (first | (with_reducible first | exact HB.out | apply below_alloc | apply pw_below_drewN | apply below_drew1 | refine below_set ?_ (IsS59.ge HI0.out)) | exact HB.out), by repeat (first | (with_reducible first | exact HK.out | apply KeepBut.set_ | apply keep_drewN | apply keep_drew | apply keep_alloc) | exact HK.out)⟩

/-! ### frame_Take_p: function 18 -/
def frame_Take_p.f (a0 : ByteArray) : Option (ByteArray × Int × Int) := (scan_New.f a0).bind fun bt167 => ((frame_Read.f bt167.1 bt167.2.1 bt167.2.2.1 bt167.2.2.2).bind fun bt172 => ((scan_Scan_Err.f bt172.2.1 bt172.2.2.1 bt172.2.2.2.1 bt172.2.2.2.2).bind fun bt177 => (if bt177.1 = 0 then ((scan_Scan_At.f bt177.2.1 bt177.2.2.1 bt177.2.2.2.1 bt177.2.2.2.2).bind fun bt182 => (some (bt172.1, bt182.1, 0))) else (some ((⟨#[]⟩ : ByteArray), 0, 3)))))
set_option maxHeartbeats 8000000 in
set_option maxRecDepth 100000 in
theorem frame_Take_p.calls (a0 : ByteArray) (r1 : ByteArray) (r2 : Int) (r3 : Int) (w : World) (h : frame_Take_p.f a0 = some (r1, r2, r3)) (hT : M.tab 0 w) :
    Calls Tryd.prog 18 #[.string a0] w fun e w' => e = .returned (.tuple #[.string r1, .int .i64 r2, .int .i64 r3]) ∧ Below w.heap.size w w' := by
  have HT := Aside0.mk hT
  clear hT
  have HB := Aside0.mk (Below.refl w.heap.size w)
  have H : ((scan_New.f a0).bind fun bt167 => ((frame_Read.f bt167.1 bt167.2.1 bt167.2.2.1 bt167.2.2.2).bind fun bt172 => ((scan_Scan_Err.f bt172.2.1 bt172.2.2.1 bt172.2.2.2.1 bt172.2.2.2.2).bind fun bt177 => (if bt177.1 = 0 then ((scan_Scan_At.f bt177.2.1 bt177.2.2.1 bt177.2.2.2.1 bt177.2.2.2.2).bind fun bt182 => (some (bt172.1, bt182.1, 0))) else (some ((⟨#[]⟩ : ByteArray), 0, 3)))))) = some (r1, r2, r3) := h
  clear h
  replace H := Option.bind_eq_some_iff.mp H
  obtain ⟨⟨t167, t168, t169, t170⟩, A20, H⟩ := H
  replace H : ((frame_Read.f t167 t168 t169 t170).bind fun bt172 => ((scan_Scan_Err.f bt172.2.1 bt172.2.2.1 bt172.2.2.2.1 bt172.2.2.2.2).bind fun bt177 => (if bt177.1 = 0 then ((scan_Scan_At.f bt177.2.1 bt177.2.2.1 bt177.2.2.2.1 bt177.2.2.2.2).bind fun bt182 => (some (bt172.1, bt182.1, 0))) else (some ((⟨#[]⟩ : ByteArray), 0, 3))))) = some (r1, r2, r3) := H
  have A2 := Aside0.mk A20
  clear A20
  replace H := Option.bind_eq_some_iff.mp H
  obtain ⟨⟨t172, t173, t174, t175, t176⟩, A30, H⟩ := H
  replace H : ((scan_Scan_Err.f t173 t174 t175 t176).bind fun bt177 => (if bt177.1 = 0 then ((scan_Scan_At.f bt177.2.1 bt177.2.2.1 bt177.2.2.2.1 bt177.2.2.2.2).bind fun bt182 => (some (t172, bt182.1, 0))) else (some ((⟨#[]⟩ : ByteArray), 0, 3)))) = some (r1, r2, r3) := H
  have A3 := Aside0.mk A30
  clear A30
  replace H := Option.bind_eq_some_iff.mp H
  obtain ⟨⟨t177, t178, t179, t180, t181⟩, A40, H⟩ := H
  replace H : (if t177 = 0 then ((scan_Scan_At.f t178 t179 t180 t181).bind fun bt182 => (some (t172, bt182.1, 0))) else (some ((⟨#[]⟩ : ByteArray), 0, 3))) = some (r1, r2, r3) := H
  have A4 := Aside0.mk A40
  clear A40
  by_cases c5 : t177 = 0
  · rw [if_pos c5] at H
    have c5b0 : (t177 == 0) = true := beq_iff_eq.mpr c5
    have c5b1 : (t177 != 0) = false := bne_eq_false_iff_eq.mpr c5
    clear c5
    replace H := Option.bind_eq_some_iff.mp H
    obtain ⟨⟨t182, t183, t184, t185, t186⟩, A60, H⟩ := H
    replace H : (some (t172, t182, 0)) = some (r1, r2, r3) := H
    have A6 := Aside0.mk A60
    clear A60
    simp only [Option.some.injEq, Prod.mk.injEq] at H
    obtain ⟨rfl, rfl, rfl⟩ := H
    go_enter Tryd.func18, Tryd.ntmps18
    go_wp2_with (first | ((with_reducible refine gate_callee (f := 15) rfl ?_); refine M.goes (some 8) Tryd.func15 #[.string a0] rfl ?_; (with_reducible refine (scan_New.calls a0 t167 t168 t169 t170 w _ ?side1 A2.out).mono ?_); (case side1 => repeat (first | (with_reducible first | exact HB.out | apply below_alloc | apply pw_below_drewN | apply below_drew1) | exact HB.out)); rintro e w7 ⟨g171, rfl, hi, hb, hb2⟩; refine ⟨_, rfl, ?_⟩; have n0_ := Aside0.mk (hb); have n1_ := Aside0.mk (hi); clear HB; have HB := n0_; have HI171 := n1_; clear n0_ n1_; (try clear hb); (try clear hb2); (try clear hi)) | ((with_reducible refine gate_callee (f := 16) rfl ?_); refine M.goes (some 10) Tryd.func16 #[.pointer (some ⟨g171, 0, none⟩)] rfl ?_; (with_reducible refine (frame_Read.calls g171 t167 t168 t169 t170 t172 t173 t174 t175 t176 w _ ?side1 ?side2 A3.out (hT := HT.out)).mono ?_); (case side1 => repeat (first | (with_reducible first | exact HI171.out | apply IsS59.alloc | apply IsS59.drewN | apply IsS59.drew | apply IsS59.set_0 | apply IsS59.set_1 | apply IsS59.set_2 | apply IsS59.set_3) | exact HI171.out)); (case side2 => repeat (first | (with_reducible first | exact HB.out | apply below_alloc | apply pw_below_drewN | apply below_drew1 | refine below_set ?_ (IsS59.ge HI171.out)) | exact HB.out)); rintro e w8 ⟨rfl, hi, hb, hk⟩; refine ⟨_, rfl, ?_⟩; have n0_ := Aside0.mk (hb); have n1_ := Aside0.mk (hi); clear HB HI171; have HB := n0_; have HI171 := n1_; clear n0_ n1_; (try clear hb); (try clear hk); (try clear hi)) | ((with_reducible refine gate_callee (f := 19) rfl ?_); refine M.goes (some 12) Tryd.func19 #[.pointer (some ⟨g171, 0, none⟩)] rfl ?_; (with_reducible refine (scan_Scan_Err.calls g171 t173 t174 t175 t176 t177 t178 t179 t180 t181 w _ ?side1 ?side2 A4.out).mono ?_); (case side1 => repeat (first | (with_reducible first | exact HI171.out | apply IsS59.alloc | apply IsS59.drewN | apply IsS59.drew | apply IsS59.set_0 | apply IsS59.set_1 | apply IsS59.set_2 | apply IsS59.set_3) | exact HI171.out)); (case side2 => repeat (first | (with_reducible first | exact HB.out | apply below_alloc | apply pw_below_drewN | apply below_drew1 | refine below_set ?_ (IsS59.ge HI171.out)) | exact HB.out)); rintro e w9 ⟨rfl, hi, hb, hk⟩; refine ⟨_, rfl, ?_⟩; have n0_ := Aside0.mk (hb); have n1_ := Aside0.mk (hi); clear HB HI171; have HB := n0_; have HI171 := n1_; clear n0_ n1_; (try clear hb); (try clear hk); (try clear hi)) | ((with_reducible refine gate_callee (f := 20) rfl ?_); refine M.goes (some 16) Tryd.func20 #[.pointer (some ⟨g171, 0, none⟩)] rfl ?_; (with_reducible refine (scan_Scan_At.calls g171 t178 t179 t180 t181 t182 t183 t184 t185 t186 w _ ?side1 ?side2 A6.out).mono ?_); (case side1 => repeat (first | (with_reducible first | exact HI171.out | apply IsS59.alloc | apply IsS59.drewN | apply IsS59.drew | apply IsS59.set_0 | apply IsS59.set_1 | apply IsS59.set_2 | apply IsS59.set_3) | exact HI171.out)); (case side2 => repeat (first | (with_reducible first | exact HB.out | apply below_alloc | apply pw_below_drewN | apply below_drew1 | refine below_set ?_ (IsS59.ge HI171.out)) | exact HB.out)); rintro e w10 ⟨rfl, hi, hb, hk⟩; refine ⟨_, rfl, ?_⟩; have n0_ := Aside0.mk (hb); have n1_ := Aside0.mk (hi); clear HB HI171; have HB := n0_; have HI171 := n1_; clear n0_ n1_; (try clear hb); (try clear hk); (try clear hi)))
    go_ret3
    exact ⟨by first | rfl | (simp [errW_none, errW_some] <;> rfl) | (simp [*, errW_none, errW_some] <;> rfl), by repeat (first | (with_reducible first | exact HB.out | apply below_alloc | apply pw_below_drewN | apply below_drew1 | refine below_set ?_ (IsS59.ge HI171.out)) | exact HB.out)⟩
  · rw [if_neg c5] at H
    have c5b0 : (t177 == 0) = false := beq_eq_false_iff_ne.mpr c5
    have c5b1 : (t177 != 0) = true := bne_iff_ne.mpr c5
    simp only [Option.some.injEq, Prod.mk.injEq] at H
    obtain ⟨rfl, rfl, rfl⟩ := H
    go_enter Tryd.func18, Tryd.ntmps18
    go_wp2_with (first | ((with_reducible refine gate_callee (f := 15) rfl ?_); refine M.goes (some 8) Tryd.func15 #[.string a0] rfl ?_; (with_reducible refine (scan_New.calls a0 t167 t168 t169 t170 w _ ?side1 A2.out).mono ?_); (case side1 => repeat (first | (with_reducible first | exact HB.out | apply below_alloc | apply pw_below_drewN | apply below_drew1) | exact HB.out)); rintro e w11 ⟨g171, rfl, hi, hb, hb2⟩; refine ⟨_, rfl, ?_⟩; have n0_ := Aside0.mk (hb); have n1_ := Aside0.mk (hi); clear HB; have HB := n0_; have HI171 := n1_; clear n0_ n1_; (try clear hb); (try clear hb2); (try clear hi)) | ((with_reducible refine gate_callee (f := 16) rfl ?_); refine M.goes (some 10) Tryd.func16 #[.pointer (some ⟨g171, 0, none⟩)] rfl ?_; (with_reducible refine (frame_Read.calls g171 t167 t168 t169 t170 t172 t173 t174 t175 t176 w _ ?side1 ?side2 A3.out (hT := HT.out)).mono ?_); (case side1 => repeat (first | (with_reducible first | exact HI171.out | apply IsS59.alloc | apply IsS59.drewN | apply IsS59.drew | apply IsS59.set_0 | apply IsS59.set_1 | apply IsS59.set_2 | apply IsS59.set_3) | exact HI171.out)); (case side2 => repeat (first | (with_reducible first | exact HB.out | apply below_alloc | apply pw_below_drewN | apply below_drew1 | refine below_set ?_ (IsS59.ge HI171.out)) | exact HB.out)); rintro e w12 ⟨rfl, hi, hb, hk⟩; refine ⟨_, rfl, ?_⟩; have n0_ := Aside0.mk (hb); have n1_ := Aside0.mk (hi); clear HB HI171; have HB := n0_; have HI171 := n1_; clear n0_ n1_; (try clear hb); (try clear hk); (try clear hi)) | ((with_reducible refine gate_callee (f := 19) rfl ?_); refine M.goes (some 12) Tryd.func19 #[.pointer (some ⟨g171, 0, none⟩)] rfl ?_; (with_reducible refine (scan_Scan_Err.calls g171 t173 t174 t175 t176 t177 t178 t179 t180 t181 w _ ?side1 ?side2 A4.out).mono ?_); (case side1 => repeat (first | (with_reducible first | exact HI171.out | apply IsS59.alloc | apply IsS59.drewN | apply IsS59.drew | apply IsS59.set_0 | apply IsS59.set_1 | apply IsS59.set_2 | apply IsS59.set_3) | exact HI171.out)); (case side2 => repeat (first | (with_reducible first | exact HB.out | apply below_alloc | apply pw_below_drewN | apply below_drew1 | refine below_set ?_ (IsS59.ge HI171.out)) | exact HB.out)); rintro e w13 ⟨rfl, hi, hb, hk⟩; refine ⟨_, rfl, ?_⟩; have n0_ := Aside0.mk (hb); have n1_ := Aside0.mk (hi); clear HB HI171; have HB := n0_; have HI171 := n1_; clear n0_ n1_; (try clear hb); (try clear hk); (try clear hi)))
    go_ret3
    exact ⟨by first | rfl | (simp [errW_none, errW_some] <;> rfl) | (simp [*, errW_none, errW_some] <;> rfl), by repeat (first | (with_reducible first | exact HB.out | apply below_alloc | apply pw_below_drewN | apply below_drew1 | refine below_set ?_ (IsS59.ge HI171.out)) | exact HB.out)⟩

-- this session's own plain form
def frame_Take.f (a0 : ByteArray) : Option (ByteArray × Int × Int) := if a0.size ≤ 9223372036854775806 then some (M.ftake a0) else none
theorem frame_Take.ev (s : ByteArray) (r : ByteArray × Int × Int) (h : frame_Take.f s = some r) : frame_Take_p.f s = some r := by
  unfold frame_Take.f at h
  split at h
  case isFalse => cases h
  case isTrue hz =>
    rw [← h]
    unfold frame_Take_p.f scan_New.f frame_Read.f scan_Scan_Err.f scan_Scan_At.f M.ftake
    simp only [Option.bind_some, if_true]
    rw [if_pos ⟨trivial, ⟨by decide, by omega, by omega⟩, hz⟩]
    simp only [Option.bind_some, if_true]
    split <;> rfl
theorem frame_Take.calls (a0 : ByteArray) (r1 : ByteArray) (r2 : Int) (r3 : Int) (w : World) (h : frame_Take.f a0 = some (r1, r2, r3)) (hT : M.tab 0 w) :
    Calls Tryd.prog 18 #[.string a0] w fun e w' => e = .returned (.tuple #[.string r1, .int .i64 r2, .int .i64 r3]) ∧ Below w.heap.size w w' := by
  have HT := Aside0.mk hT
  clear hT
  exact frame_Take_p.calls (hT := HT.out) (w := w) (h := frame_Take.ev _ _ h)

/-! ### pleachlaw14_awake: function 7 -/
def pleachlaw14_awake.f  : Option (Bool) := (frame_Put.f (⟨#[97]⟩ : ByteArray)).bind fun bt187 => (if bt187.1.size + 1 ≤ 9223372036854775807 then ((frame_Take.f (bt187.1 ++ (⟨#[120]⟩ : ByteArray))).bind fun bt189 => (if (bt187.1.size : Int) = 6 then (if bt187.2 = 0 then (if bt189.1.toList = ([97] : List UInt8) then (if bt189.2.1 = 6 then (if bt189.2.2 = 0 then ((frame_Size.f (([(⟨#[97]⟩ : ByteArray)] : List ByteArray))).bind fun t195 => (some (t195 == 6))) else (some false)) else (some false)) else (some false)) else (some false)) else (some false))) else (none))
set_option maxHeartbeats 8000000 in
set_option maxRecDepth 100000 in
theorem pleachlaw14_awake.calls  (r : Bool) (w : World) (h : pleachlaw14_awake.f  = some r) (hT : M.tab 0 w) :
    Calls Tryd.prog 7 #[] w fun e w' => e = .returned (.bool r) ∧ Below w.heap.size w w' := by
  have HT := Aside0.mk hT
  clear hT
  have HB := Aside0.mk (Below.refl w.heap.size w)
  have H : ((frame_Put.f (⟨#[97]⟩ : ByteArray)).bind fun bt187 => (if bt187.1.size + 1 ≤ 9223372036854775807 then ((frame_Take.f (bt187.1 ++ (⟨#[120]⟩ : ByteArray))).bind fun bt189 => (if (bt187.1.size : Int) = 6 then (if bt187.2 = 0 then (if bt189.1.toList = ([97] : List UInt8) then (if bt189.2.1 = 6 then (if bt189.2.2 = 0 then ((frame_Size.f (([(⟨#[97]⟩ : ByteArray)] : List ByteArray))).bind fun t195 => (some (t195 == 6))) else (some false)) else (some false)) else (some false)) else (some false)) else (some false))) else (none))) = some r := h
  clear h
  replace H := Option.bind_eq_some_iff.mp H
  obtain ⟨⟨t187, t188⟩, A10, H⟩ := H
  replace H : (if t187.size + 1 ≤ 9223372036854775807 then ((frame_Take.f (t187 ++ (⟨#[120]⟩ : ByteArray))).bind fun bt189 => (if (t187.size : Int) = 6 then (if t188 = 0 then (if bt189.1.toList = ([97] : List UInt8) then (if bt189.2.1 = 6 then (if bt189.2.2 = 0 then ((frame_Size.f (([(⟨#[97]⟩ : ByteArray)] : List ByteArray))).bind fun t195 => (some (t195 == 6))) else (some false)) else (some false)) else (some false)) else (some false)) else (some false))) else (none)) = some r := H
  have A1 := Aside0.mk A10
  clear A10
  by_cases c2 : t187.size + 1 ≤ 9223372036854775807
  · rw [if_pos c2] at H
    have c2b0 := eq_true c2
    have c2b1 : decide (t187.size + 1 ≤ 9223372036854775807) = true := decide_eq_true c2
    try have c2b2 : (9223372036854775807 < t187.size + 1) = False := eq_false (Nat.not_lt.2 c2)
    replace H := Option.bind_eq_some_iff.mp H
    obtain ⟨⟨t189, t190, t191⟩, A30, H⟩ := H
    replace H : (if (t187.size : Int) = 6 then (if t188 = 0 then (if t189.toList = ([97] : List UInt8) then (if t190 = 6 then (if t191 = 0 then ((frame_Size.f (([(⟨#[97]⟩ : ByteArray)] : List ByteArray))).bind fun t195 => (some (t195 == 6))) else (some false)) else (some false)) else (some false)) else (some false)) else (some false)) = some r := H
    have A3 := Aside0.mk A30
    clear A30
    by_cases c4 : (t187.size : Int) = 6
    · rw [if_pos c4] at H
      have c4b0 : ((t187.size : Int) == 6) = true := beq_iff_eq.mpr c4
      have c4b1 : ((t187.size : Int) != 6) = false := bne_eq_false_iff_eq.mpr c4
      clear c4
      by_cases c5 : t188 = 0
      · rw [if_pos c5] at H
        have c5b0 : (t188 == 0) = true := beq_iff_eq.mpr c5
        have c5b1 : (t188 != 0) = false := bne_eq_false_iff_eq.mpr c5
        clear c5
        by_cases c6 : t189.toList = ([97] : List UInt8)
        · rw [if_pos c6] at H
          have c6b0 : (t189.toList == ([97] : List UInt8)) = true := beq_iff_eq.mpr c6
          have c6b1 : (t189.toList != ([97] : List UInt8)) = false := bne_eq_false_iff_eq.mpr c6
          clear c6
          by_cases c7 : t190 = 6
          · rw [if_pos c7] at H
            have c7b0 : (t190 == 6) = true := beq_iff_eq.mpr c7
            have c7b1 : (t190 != 6) = false := bne_eq_false_iff_eq.mpr c7
            clear c7
            by_cases c8 : t191 = 0
            · rw [if_pos c8] at H
              have c8b0 : (t191 == 0) = true := beq_iff_eq.mpr c8
              have c8b1 : (t191 != 0) = false := bne_eq_false_iff_eq.mpr c8
              clear c8
              obtain ⟨y192, hy192⟩ : ∃ y_ : List ByteArray, y_ = (([(⟨#[97]⟩ : ByteArray)] : List ByteArray)) := ⟨_, rfl⟩
              replace H : ((frame_Size.f y192).bind fun t195 => (some (t195 == 6))) = some r := by first | (rw [hy192]; with_reducible exact H) | (have H2_ := (Option.bind_some _ _).symm.trans H; rw [hy192]; with_reducible exact H2_) | (have H2_ := (Option.bind_some _ _).symm.trans H; with_reducible exact H2_) | with_reducible exact H | (rw [hy192]; exact H) | exact H
              have Ny192 := Aside0.mk hy192
              clear hy192
              replace H := Option.bind_eq_some_iff.mp H
              obtain ⟨t195, A90, H⟩ := H
              replace H : (some (t195 == 6)) = some r := H
              have A9 := Aside0.mk A90
              clear A90
              obtain rfl := Option.some.inj H
              go_enter Tryd.func7, Tryd.ntmps7
              go_wp2_with (first | ((with_reducible refine gate_callee (f := 11) rfl ?_); refine M.goes (some 7) Tryd.func11 #[.string (⟨#[97]⟩ : ByteArray)] rfl ?_; (with_reducible refine (frame_Put.calls (⟨#[97]⟩ : ByteArray) t187 t188 _ A1.out (hT := M.tab_up HT (M.up HB))).mono ?_); rintro e w10 ⟨rfl, hb⟩; refine ⟨_, rfl, ?_⟩; have n0_ := M.upS HB hb; clear HB; have HB := n0_; clear n0_; (try clear hb)) | ((with_reducible refine gate_callee (f := 18) rfl ?_); refine M.goes (some 13) Tryd.func18 #[.string (t187 ++ (⟨#[120]⟩ : ByteArray))] rfl ?_; (with_reducible refine (frame_Take.calls (t187 ++ (⟨#[120]⟩ : ByteArray)) t189 t190 t191 _ A3.out (hT := M.tab_up HT (M.up HB))).mono ?_); rintro e w11 ⟨rfl, hb⟩; refine ⟨_, rfl, ?_⟩; have n0_ := M.upS HB hb; clear HB; have HB := n0_; clear n0_; (try clear hb)) | ((with_reducible refine gate_dst (N := 37) rfl ?_); (try (refine gate_guard (by rfl) ?_; dsimp only)); refine Kd.R_lit Kd.string _ 9 ?hg (N := 37) ?hd (xs := ([(⟨#[97]⟩ : ByteArray)] : List ByteArray)) (inner := [.string (⟨#[97]⟩ : ByteArray)]) (ok := fun _ => True) (okp := fun _ => True) ?hr ?hp (fun _ hk => hk) trivial (Below.refl _ _) (Nat.le_refl _) (by simp) ?_; (case hd => rfl); (case hg => rfl); (case hr => first | (go_simp; done) | (go_simp; rfl)); (case hp => exact (Reps.one (show Kd.M Kd.string _ _ _ (⟨#[97]⟩ : ByteArray) [.string (⟨#[97]⟩ : ByteArray)] from rfl) (Reps.none _ _))); intro v193 w12 ho13 hb hg_ hnew_; clear hg_ hnew_; (first | rw [← Ny192.out] at ho13 | (simp only [Int.reduceToNat] at ho13; rw [← Ny192.out] at ho13)); have n0_ := Aside0.mk (Kd.R_lower ho13 (below_size (M.up HB))); have n1_ := M.upS HB hb; clear HB; have HO194 := n0_; have HB := n1_; clear n0_ n1_; clear hb ho13; obtain ⟨Ao14, co14, eo14⟩ := Kd.R_slice HO194.out; subst eo14) | (go_at_call 14; (with_reducible refine (frame_Size.calls _ _ y192 t195 _ ?side1 ?side2 A9.out).mono ?_); (case side1 => repeat (first | exact (Kd.R_reads' HO194.out).2.2 | (with_reducible refine Kd.C_alloc ?_ _) | (with_reducible refine Kd.C_drewN ?_ _) | (with_reducible refine Kd.C_drew ?_))); (case side2 => exact (Kd.R_reads' HO194.out).2.1); rintro e w15 ⟨rfl, hb⟩; have n0_ := M.roB HO194 hb; have n1_ := M.upS HB hb; clear HO194 HB; have HO194 := n0_; have HB := n1_; clear n0_ n1_; (try clear hb); (try clear hb2); (try clear hk); (try clear hi)))
              go_ret
              exact M.fin (M.up HB)
            · rw [if_neg c8] at H
              have c8b0 : (t191 == 0) = false := beq_eq_false_iff_ne.mpr c8
              have c8b1 : (t191 != 0) = true := bne_iff_ne.mpr c8
              obtain rfl := Option.some.inj H
              go_enter Tryd.func7, Tryd.ntmps7
              go_wp2_with (first | ((with_reducible refine gate_callee (f := 11) rfl ?_); refine M.goes (some 7) Tryd.func11 #[.string (⟨#[97]⟩ : ByteArray)] rfl ?_; (with_reducible refine (frame_Put.calls (⟨#[97]⟩ : ByteArray) t187 t188 _ A1.out (hT := M.tab_up HT (M.up HB))).mono ?_); rintro e w16 ⟨rfl, hb⟩; refine ⟨_, rfl, ?_⟩; have n0_ := M.upS HB hb; clear HB; have HB := n0_; clear n0_; (try clear hb)) | ((with_reducible refine gate_callee (f := 18) rfl ?_); refine M.goes (some 13) Tryd.func18 #[.string (t187 ++ (⟨#[120]⟩ : ByteArray))] rfl ?_; (with_reducible refine (frame_Take.calls (t187 ++ (⟨#[120]⟩ : ByteArray)) t189 t190 t191 _ A3.out (hT := M.tab_up HT (M.up HB))).mono ?_); rintro e w17 ⟨rfl, hb⟩; refine ⟨_, rfl, ?_⟩; have n0_ := M.upS HB hb; clear HB; have HB := n0_; clear n0_; (try clear hb)))
              go_ret
              exact M.fin (M.up HB)
          · rw [if_neg c7] at H
            have c7b0 : (t190 == 6) = false := beq_eq_false_iff_ne.mpr c7
            have c7b1 : (t190 != 6) = true := bne_iff_ne.mpr c7
            obtain rfl := Option.some.inj H
            go_enter Tryd.func7, Tryd.ntmps7
            go_wp2_with (first | ((with_reducible refine gate_callee (f := 11) rfl ?_); refine M.goes (some 7) Tryd.func11 #[.string (⟨#[97]⟩ : ByteArray)] rfl ?_; (with_reducible refine (frame_Put.calls (⟨#[97]⟩ : ByteArray) t187 t188 _ A1.out (hT := M.tab_up HT (M.up HB))).mono ?_); rintro e w18 ⟨rfl, hb⟩; refine ⟨_, rfl, ?_⟩; have n0_ := M.upS HB hb; clear HB; have HB := n0_; clear n0_; (try clear hb)) | ((with_reducible refine gate_callee (f := 18) rfl ?_); refine M.goes (some 13) Tryd.func18 #[.string (t187 ++ (⟨#[120]⟩ : ByteArray))] rfl ?_; (with_reducible refine (frame_Take.calls (t187 ++ (⟨#[120]⟩ : ByteArray)) t189 t190 t191 _ A3.out (hT := M.tab_up HT (M.up HB))).mono ?_); rintro e w19 ⟨rfl, hb⟩; refine ⟨_, rfl, ?_⟩; have n0_ := M.upS HB hb; clear HB; have HB := n0_; clear n0_; (try clear hb)))
            go_ret
            exact M.fin (M.up HB)
        · rw [if_neg c6] at H
          have c6b0 : (t189.toList == ([97] : List UInt8)) = false := beq_eq_false_iff_ne.mpr c6
          have c6b1 : (t189.toList != ([97] : List UInt8)) = true := bne_iff_ne.mpr c6
          obtain rfl := Option.some.inj H
          go_enter Tryd.func7, Tryd.ntmps7
          go_wp2_with (first | ((with_reducible refine gate_callee (f := 11) rfl ?_); refine M.goes (some 7) Tryd.func11 #[.string (⟨#[97]⟩ : ByteArray)] rfl ?_; (with_reducible refine (frame_Put.calls (⟨#[97]⟩ : ByteArray) t187 t188 _ A1.out (hT := M.tab_up HT (M.up HB))).mono ?_); rintro e w20 ⟨rfl, hb⟩; refine ⟨_, rfl, ?_⟩; have n0_ := M.upS HB hb; clear HB; have HB := n0_; clear n0_; (try clear hb)) | ((with_reducible refine gate_callee (f := 18) rfl ?_); refine M.goes (some 13) Tryd.func18 #[.string (t187 ++ (⟨#[120]⟩ : ByteArray))] rfl ?_; (with_reducible refine (frame_Take.calls (t187 ++ (⟨#[120]⟩ : ByteArray)) t189 t190 t191 _ A3.out (hT := M.tab_up HT (M.up HB))).mono ?_); rintro e w21 ⟨rfl, hb⟩; refine ⟨_, rfl, ?_⟩; have n0_ := M.upS HB hb; clear HB; have HB := n0_; clear n0_; (try clear hb)))
          go_ret
          exact M.fin (M.up HB)
      · rw [if_neg c5] at H
        have c5b0 : (t188 == 0) = false := beq_eq_false_iff_ne.mpr c5
        have c5b1 : (t188 != 0) = true := bne_iff_ne.mpr c5
        obtain rfl := Option.some.inj H
        go_enter Tryd.func7, Tryd.ntmps7
        go_wp2_with (first | ((with_reducible refine gate_callee (f := 11) rfl ?_); refine M.goes (some 7) Tryd.func11 #[.string (⟨#[97]⟩ : ByteArray)] rfl ?_; (with_reducible refine (frame_Put.calls (⟨#[97]⟩ : ByteArray) t187 t188 _ A1.out (hT := M.tab_up HT (M.up HB))).mono ?_); rintro e w22 ⟨rfl, hb⟩; refine ⟨_, rfl, ?_⟩; have n0_ := M.upS HB hb; clear HB; have HB := n0_; clear n0_; (try clear hb)) | ((with_reducible refine gate_callee (f := 18) rfl ?_); refine M.goes (some 13) Tryd.func18 #[.string (t187 ++ (⟨#[120]⟩ : ByteArray))] rfl ?_; (with_reducible refine (frame_Take.calls (t187 ++ (⟨#[120]⟩ : ByteArray)) t189 t190 t191 _ A3.out (hT := M.tab_up HT (M.up HB))).mono ?_); rintro e w23 ⟨rfl, hb⟩; refine ⟨_, rfl, ?_⟩; have n0_ := M.upS HB hb; clear HB; have HB := n0_; clear n0_; (try clear hb)))
        go_ret
        exact M.fin (M.up HB)
    · rw [if_neg c4] at H
      have c4b0 : ((t187.size : Int) == 6) = false := beq_eq_false_iff_ne.mpr c4
      have c4b1 : ((t187.size : Int) != 6) = true := bne_iff_ne.mpr c4
      obtain rfl := Option.some.inj H
      go_enter Tryd.func7, Tryd.ntmps7
      go_wp2_with (first | ((with_reducible refine gate_callee (f := 11) rfl ?_); refine M.goes (some 7) Tryd.func11 #[.string (⟨#[97]⟩ : ByteArray)] rfl ?_; (with_reducible refine (frame_Put.calls (⟨#[97]⟩ : ByteArray) t187 t188 _ A1.out (hT := M.tab_up HT (M.up HB))).mono ?_); rintro e w24 ⟨rfl, hb⟩; refine ⟨_, rfl, ?_⟩; have n0_ := M.upS HB hb; clear HB; have HB := n0_; clear n0_; (try clear hb)) | ((with_reducible refine gate_callee (f := 18) rfl ?_); refine M.goes (some 13) Tryd.func18 #[.string (t187 ++ (⟨#[120]⟩ : ByteArray))] rfl ?_; (with_reducible refine (frame_Take.calls (t187 ++ (⟨#[120]⟩ : ByteArray)) t189 t190 t191 _ A3.out (hT := M.tab_up HT (M.up HB))).mono ?_); rintro e w25 ⟨rfl, hb⟩; refine ⟨_, rfl, ?_⟩; have n0_ := M.upS HB hb; clear HB; have HB := n0_; clear n0_; (try clear hb)))
      go_ret
      exact M.fin (M.up HB)
  · rw [if_neg c2] at H
    exact absurd H (by simp)

/-! ### pleachref01_Digits_p: function 47 -/
def pleachref01_Digits_p.l0 : Nat → Int → List Int → Option (List Int)
  | 0, _, _ => none
  | k + 1, x0, x3 => if x0 > 0 then (if x3.length < 17592186044416 then (pleachref01_Digits_p.l0 k (IntKind.u64.wrap (Int.tdiv x0 128)) (x3 ++ [wrap64 (Int.tmod x0 128)])) else (none)) else (some x3)
def pleachref01_Digits_p.f (k : Nat) (a0 : Int) : Option (List Int) := pleachref01_Digits_p.l0 k (IntKind.u64.wrap (Int.tdiv a0 128)) (([wrap64 (Int.tmod a0 128)] : List Int))
theorem pleachref01_Digits_p.mono_l : ∀ k, (∀ y0 y1, LeO (pleachref01_Digits_p.l0 k y0 y1) (pleachref01_Digits_p.l0 (k + 1) y0 y1))
  | 0 => fun _ _ r h => by simp [pleachref01_Digits_p.l0] at h
  | k + 1 => by
    have ih0 := pleachref01_Digits_p.mono_l k
    · intro y0 y1
      unfold pleachref01_Digits_p.l0
      repeat' first
      | (with_reducible exact ih0 _ _)
      | (with_reducible exact LeO.refl _)
      | (with_reducible exact LeO.none _)
      | (with_reducible refine LeO.ite ?_ ?_)
      | (with_reducible refine LeO.bind ?_ (fun _ => ?_))
      | exact ih0 _ _
      | exact LeO.none _
      | refine LeO.ite ?_ ?_
      | refine LeO.bind ?_ (fun _ => ?_)
theorem pleachref01_Digits_p.mono : ∀ a0 k, LeO (pleachref01_Digits_p.f k a0) (pleachref01_Digits_p.f (k + 1) a0) := by
  intro a0 k
  have ih0 := pleachref01_Digits_p.mono_l k
  unfold pleachref01_Digits_p.f
  repeat' first
      | (with_reducible exact ih0 _ _)
      | (with_reducible exact LeO.refl _)
      | (with_reducible exact LeO.none _)
      | (with_reducible refine LeO.ite ?_ ?_)
      | (with_reducible refine LeO.bind ?_ (fun _ => ?_))
      | exact ih0 _ _
      | exact LeO.none _
      | refine LeO.ite ?_ ?_
      | refine LeO.bind ?_ (fun _ => ?_)
set_option maxHeartbeats 8000000 in
set_option maxRecDepth 100000 in
theorem pleachref01_Digits_p.calls (k : Nat) (a0 : Int) (r : List Int) (w : World) (h : pleachref01_Digits_p.f k a0 = some r) :
    Calls Tryd.prog 47 #[.int .u64 a0] w fun e w' => ∃ v0_ : Value, e = .returned (v0_) ∧ Kd.R (Kd.int .i64) 3 w' w.heap.size (fun _ => True) v0_ r ∧ Below w.heap.size w w' := by
  have HB := Aside0.mk (Below.refl w.heap.size w)
  have H : (pleachref01_Digits_p.l0 k (IntKind.u64.wrap (Int.tdiv a0 128)) (([wrap64 (Int.tmod a0 128)] : List Int))) = some r := h
  clear h
  obtain ⟨y196, hy196⟩ : ∃ y_ : List Int, y_ = (([wrap64 (Int.tmod a0 128)] : List Int)) := ⟨_, rfl⟩
  replace H : (pleachref01_Digits_p.l0 k (IntKind.u64.wrap (Int.tdiv a0 128)) y196) = some r := by first | (rw [hy196]; with_reducible exact H) | (have H2_ := (Option.bind_some _ _).symm.trans H; rw [hy196]; with_reducible exact H2_) | (have H2_ := (Option.bind_some _ _).symm.trans H; with_reducible exact H2_) | with_reducible exact H | (rw [hy196]; exact H) | exact H
  have Ny196 := Aside0.mk hy196
  clear hy196
  have H' := Aside0.mk H
  clear H
  go_enter Tryd.func47, Tryd.ntmps47
  go_wp2_with (first | ((with_reducible refine gate_dst (N := 7) rfl ?_); refine Kd.R_lit (Kd.int .i64) _ 3 ?hg (N := 7) ?hd (xs := ([wrap64 (Int.tmod a0 128)] : List Int)) (inner := [.int .i64 (wrap64 (Int.tmod a0 128))]) (ok := fun _ => True) (okp := fun _ => True) ?hr ?hp (fun _ hk => hk) trivial (Below.refl _ _) (Nat.le_refl _) (by simp) ?_; (case hd => rfl); (case hg => rfl); (case hr => first | (go_simp; done) | (go_simp; rfl)); (case hp => exact (Reps.one (show Kd.M (Kd.int .i64) _ _ _ (wrap64 (Int.tmod a0 128)) [.int .i64 (wrap64 (Int.tmod a0 128))] from rfl) (Reps.none _ _))); intro v197 w2 ho3 hb hg_ hnew_; clear hg_ hnew_; (first | rw [← Ny196.out] at ho3 | (simp only [Int.reduceToNat] at ho3; rw [← Ny196.out] at ho3)); have n0_ := Aside0.mk (Kd.R_lower ho3 (below_size (M.up HB))); have n1_ := M.upS HB hb; clear HB; have HO198 := n0_; have HB := n1_; clear n0_ n1_; clear hb ho3))
  go_loopg [0, 3] k (fun kq v0 v3 w' => ∃ (x0_1 : Int) (x3_1 : List Int), v0 = .int .u64 x0_1 ∧ Aside0 (pleachref01_Digits_p.l0 kq x0_1 x3_1 = some r) ∧ Aside0 (kq ≤ k) ∧ Aside0 (Kd.R (Kd.int .i64) 3 w' w.heap.size (fun _ => True) v3 x3_1) ∧ Aside0 (Below w.heap.size w w'))
  case atStart => exact ⟨(IntKind.u64.wrap (Int.tdiv a0 128)), (y196), (by first | rfl | (simp; done) | (simp [*]; done) | (simp [M.isEmpty_bne]; done)), H', ⟨Nat.le_refl _⟩, ⟨by (with_reducible repeat (first | apply Kd.R_alloc | apply Kd.R_drewN | apply Kd.R_drew)); exact HO198.out⟩, ⟨M.up HB⟩⟩
  case round =>
    clear H'
    try clear p2
    obtain ⟨x0_1, x3_1, rfl, HA, HK1, zai, HB⟩ := hrel
    cases gk with
    | zero => exact absurd HA.out (by simp [pleachref01_Digits_p.l0])
    | succ k1 =>
      have H := HA.out
      clear HA
      simp only [pleachref01_Digits_p.l0] at H
      by_cases c4 : x0_1 > 0
      · rw [if_pos c4] at H
        have c4b0 : decide (0 < x0_1) = true := decide_eq_true c4
        clear c4
        by_cases c5 : x3_1.length < 17592186044416
        · rw [if_pos c5] at H
          have LMc5 := Aside0.mk c5
          clear c5
          obtain ⟨y199, hy199⟩ : ∃ y_ : List Int, y_ = (x3_1 ++ [wrap64 (Int.tmod x0_1 128)]) := ⟨_, rfl⟩
          replace H : (pleachref01_Digits_p.l0 k1 (IntKind.u64.wrap (Int.tdiv x0_1 128)) y199) = some r := by first | (rw [hy199]; with_reducible exact H) | (have H2_ := (Option.bind_some _ _).symm.trans H; rw [hy199]; with_reducible exact H2_) | (have H2_ := (Option.bind_some _ _).symm.trans H; with_reducible exact H2_) | with_reducible exact H | (rw [hy199]; exact H) | exact H
          have Ny199 := Aside0.mk hy199
          clear hy199
          have H' := Aside0.mk H
          clear H
          go_wp2_with (first | ((with_reducible refine gate_builtin (b := .append) (xs := #[.tmp 12, .tmp 16]) rfl ?_); at_builtin; refine Kd.R_append (Kd.int .i64) (w0 := w) w.heap.size rfl (.tmp 12) (.tmp 16) 73 3 (.int .i64 0) 8 rfl Tryd.underlying73 info3 rfl (by decide) (by omega) u3 x3_1 (wrap64 (Int.tmod x0_1 128)) [.int .i64 (wrap64 (Int.tmod x0_1 128))] (fun _ => True) (fun _ => False) rfl rfl ?aP (fun _ hk => hk.elim) ?aF ?aO ?aB ?aS ?aL ?_; (case aP => exact rfl); (case aB => exact (M.up HB)); (case aF => exact (fun _ _ => trivial)); (case aO => exact (M.ro zai)); (case aS => exact (below_size (M.up HB))); (case aL => have := LMc5.out; omega); intro v200 w6 ho hb hg hat; rw [← Ny199.out] at ho; have n0_ := Aside0.mk (hb); have n1_ := Aside0.mk (ho); clear HB zai; have HB := n0_; have HO201 := n1_; clear n0_ n1_; clear ho hb hg hat))
          go_roundg k1
          case measure => have := HK1.out; omega
          case rel => exact ⟨(IntKind.u64.wrap (Int.tdiv x0_1 128)), (y199), (by first | rfl | (simp; done) | (simp [*]; done) | (simp [M.isEmpty_bne]; done)), H', ⟨by have := HK1.out; omega⟩, ⟨by (with_reducible repeat (first | apply Kd.R_alloc | apply Kd.R_drewN | apply Kd.R_drew)); exact HO201.out⟩, ⟨M.up HB⟩⟩
        · rw [if_neg c5] at H
          exact absurd H (by simp)
      · rw [if_neg c4] at H
        have c4b0 : decide (0 < x0_1) = false := decide_eq_false c4
        clear c4
        obtain rfl := Option.some.inj H
        go_wp2
        go_ret
        exact ⟨_, by first | rfl | (simp [errW_none, errW_some] <;> rfl) | (simp [*, errW_none, errW_some] <;> rfl), by (with_reducible repeat (first | apply Kd.R_alloc | apply Kd.R_drewN | apply Kd.R_drew)); exact zai.out, M.up HB⟩

-- this session's own plain form
def pleachref01_Digits.f (a0 : Int) : Option (List Int) := if 0 ≤ a0 ∧ a0 < 18446744073709551616 then some (M.vdig a0.toNat) else none
theorem pleachref01_Digits.loop (d : Nat) : ∀ (m : Nat) (pre : List Int), m < 128 ^ d → m < 18446744073709551616 → pre.length + d ≤ 100 →
    ∃ k, pleachref01_Digits_p.l0 k (m : Int) pre = some (if m = 0 then pre else pre ++ M.vdig m) := by
  induction d with
  | zero => ?_
  | succ d ih => ?_
  all_goals
    intro m pre hm h64 hl
    by_cases h0 : m = 0
    case pos => exact ⟨1, by simp only [pleachref01_Digits_p.l0]; rw [if_neg (by omega), if_pos h0]⟩
    case neg =>
      first
      | (exfalso; simp at hm; omega)
      | (obtain ⟨k, hk⟩ := ih (m / 128) (pre ++ [((m % 128 : Nat) : Int)]) (by rw [Nat.pow_succ] at hm; omega) (by omega) (by simp; omega)
         refine ⟨k + 1, ?_⟩
         have e1 : IntKind.u64.wrap (Int.tdiv (m : Int) 128) = ((m / 128 : Nat) : Int) := by
           rw [Int.tdiv_eq_ediv_of_nonneg (by omega), M.u64_id (by omega) (by omega)]; omega
         have e2 : wrap64 (Int.tmod (m : Int) 128) = ((m % 128 : Nat) : Int) := by
           rw [Int.tmod_eq_emod_of_nonneg (by omega), M.wrap64_id (by omega) (by omega)]; omega
         simp only [pleachref01_Digits_p.l0]
         rw [if_pos (by omega), if_pos (by omega), e1, e2, hk, if_neg h0]
         by_cases h1 : m < 128
         · rw [if_pos (by omega), M.vdig_low h1, Nat.mod_eq_of_lt h1]
         · rw [if_neg (by omega), M.vdig_high h1]; simp)
theorem pleachref01_Digits.ev (a0 : Int) (r : List Int) (h : pleachref01_Digits.f a0 = some r) : ∃ k, pleachref01_Digits_p.f k a0 = some r := by
  unfold pleachref01_Digits.f at h
  split at h
  · rename_i hh
    obtain rfl := Option.some.inj h
    obtain ⟨m, rfl⟩ := Int.eq_ofNat_of_zero_le hh.1
    have e1 : IntKind.u64.wrap (Int.tdiv (m : Int) 128) = ((m / 128 : Nat) : Int) := by
      rw [Int.tdiv_eq_ediv_of_nonneg (by omega), M.u64_id (by omega) (by omega)]; omega
    have e2 : wrap64 (Int.tmod (m : Int) 128) = ((m % 128 : Nat) : Int) := by
      rw [Int.tmod_eq_emod_of_nonneg (by omega), M.wrap64_id (by omega) (by omega)]; omega
    obtain ⟨k, hk⟩ := pleachref01_Digits.loop 9 (m / 128) [((m % 128 : Nat) : Int)] (by omega) (by omega) (by simp)
    refine ⟨k, ?_⟩
    unfold pleachref01_Digits_p.f
    rw [e1, e2, hk, Int.toNat_natCast]
    by_cases h1 : m < 128
    · rw [if_pos (by omega), M.vdig_low h1, Nat.mod_eq_of_lt h1]
    · rw [if_neg (by omega), M.vdig_high h1]; simp
  · cases h
theorem pleachref01_Digits.calls (a0 : Int) (r : List Int) (w : World) (h : pleachref01_Digits.f a0 = some r) :
    Calls Tryd.prog 47 #[.int .u64 a0] w fun e w' => ∃ v0_ : Value, e = .returned (v0_) ∧ Kd.R (Kd.int .i64) 3 w' w.heap.size (fun _ => True) v0_ r ∧ Below w.heap.size w w' := by
  obtain ⟨k, hk⟩ := pleachref01_Digits.ev _ _ h
  exact pleachref01_Digits_p.calls (k := k) (w := w) (h := hk)

/-! ### pleachref01_Put_p: function 37 -/
def pleachref01_Put_p.l0 : Nat → List Int → ByteArray → Int → Option (ByteArray)
  | 0, _, _, _ => none
  | k + 1, x3, x4, x5 => if x5 < (x3.length : Int) then (if 0 ≤ x5 then (if (wrap64 (x5 + 1)) < (x3.length : Int) then ((some (([(wrap64 ((rd x3 x5) + 128)) % 256] : List Int) : List Int)).bind fun y206 => (if x4.size + (strOfNums y206).size ≤ 9223372036854775807 then (pleachref01_Put_p.l0 k x3 (x4 ++ (strOfNums y206)) (wrap64 (x5 + 1))) else (none))) else ((some (([(rd x3 x5) % 256] : List Int) : List Int)).bind fun y209 => (if x4.size + (strOfNums y209).size ≤ 9223372036854775807 then (pleachref01_Put_p.l0 k x3 (x4 ++ (strOfNums y209)) (wrap64 (x5 + 1))) else (none)))) else (none)) else (some x4)
def pleachref01_Put_p.f (k : Nat) (a0 : Int) : Option (ByteArray) := (pleachref01_Digits.f a0).bind fun t202 => (pleachref01_Put_p.l0 k t202 (⟨#[]⟩ : ByteArray) 0)
theorem pleachref01_Put_p.mono_l : ∀ k, (∀ y0 y1 y2, LeO (pleachref01_Put_p.l0 k y0 y1 y2) (pleachref01_Put_p.l0 (k + 1) y0 y1 y2))
  | 0 => fun _ _ _ r h => by simp [pleachref01_Put_p.l0] at h
  | k + 1 => by
    have ih0 := pleachref01_Put_p.mono_l k
    · intro y0 y1 y2
      unfold pleachref01_Put_p.l0
      repeat' first
      | (with_reducible exact ih0 _ _ _)
      | (with_reducible exact LeO.refl _)
      | (with_reducible exact LeO.none _)
      | (with_reducible refine LeO.ite ?_ ?_)
      | (with_reducible refine LeO.bind ?_ (fun _ => ?_))
      | exact ih0 _ _ _
      | exact LeO.none _
      | refine LeO.ite ?_ ?_
      | refine LeO.bind ?_ (fun _ => ?_)
theorem pleachref01_Put_p.mono : ∀ a0 k, LeO (pleachref01_Put_p.f k a0) (pleachref01_Put_p.f (k + 1) a0) := by
  intro a0 k
  have ih0 := pleachref01_Put_p.mono_l k
  unfold pleachref01_Put_p.f
  repeat' first
      | (with_reducible exact ih0 _ _ _)
      | (with_reducible exact LeO.refl _)
      | (with_reducible exact LeO.none _)
      | (with_reducible refine LeO.ite ?_ ?_)
      | (with_reducible refine LeO.bind ?_ (fun _ => ?_))
      | exact ih0 _ _ _
      | exact LeO.none _
      | refine LeO.ite ?_ ?_
      | refine LeO.bind ?_ (fun _ => ?_)
set_option maxHeartbeats 8000000 in
set_option maxRecDepth 100000 in
theorem pleachref01_Put_p.calls (k : Nat) (a0 : Int) (r : ByteArray) (w : World) (h : pleachref01_Put_p.f k a0 = some r) :
    Calls Tryd.prog 37 #[.int .u64 a0] w fun e w' => e = .returned (.string r) ∧ Below w.heap.size w w' := by
  have HB := Aside0.mk (Below.refl w.heap.size w)
  have H : ((pleachref01_Digits.f a0).bind fun t202 => (pleachref01_Put_p.l0 k t202 (⟨#[]⟩ : ByteArray) 0)) = some r := h
  clear h
  replace H := Option.bind_eq_some_iff.mp H
  obtain ⟨t202, A20, H⟩ := H
  replace H : (pleachref01_Put_p.l0 k t202 (⟨#[]⟩ : ByteArray) 0) = some r := H
  have A2 := Aside0.mk A20
  clear A20
  have H' := Aside0.mk H
  clear H
  go_enter Tryd.func37, Tryd.ntmps37
  go_wp2_with (first | ((with_reducible refine gate_callee (f := 47) rfl ?_); refine M.goes (some 8) Tryd.func47 #[.int .u64 a0] rfl ?_; (with_reducible refine (pleachref01_Digits.calls a0 t202 _ A2.out).mono ?_); rintro e w3 ⟨v203, rfl, ho0, hb⟩; refine ⟨_, rfl, ?_⟩; have n0_ := Aside0.mk (Kd.R_lower ho0 (below_size (M.up HB))); have n1_ := M.upS HB hb; clear HB; have HO204 := n0_; have HB := n1_; clear n0_ n1_; (try clear hb); (try clear ho0)))
  go_loopg [4, 5] k (fun kq v4 v5 w' => ∃ (x4_1 : ByteArray) (x5_1 : Int), v4 = .string x4_1 ∧ v5 = .int .i64 x5_1 ∧ Aside0 (pleachref01_Put_p.l0 kq t202 x4_1 x5_1 = some r) ∧ Aside0 (kq ≤ k) ∧ Aside0 (Kd.R (Kd.int .i64) 3 w' w.heap.size (fun _ => True) v203 t202) ∧ Aside0 (Below w.heap.size w w'))
  case atStart => exact ⟨((⟨#[]⟩ : ByteArray)), (0), (by first | rfl | (simp; done) | (simp [*]; done) | (simp [M.isEmpty_bne]; done)), (by first | rfl | (simp; done) | (simp [*]; done) | (simp [M.isEmpty_bne]; done)), H', ⟨Nat.le_refl _⟩, ⟨by (with_reducible repeat (first | apply Kd.R_alloc | apply Kd.R_drewN | apply Kd.R_drew)); exact HO204.out⟩, ⟨M.up HB⟩⟩
  case round =>
    clear H'
    try clear p2
    try clear c3
    obtain ⟨x4_1, x5_1, rfl, rfl, HA, HK1, zai, HB⟩ := hrel
    cases gk with
    | zero => exact absurd HA.out (by simp [pleachref01_Put_p.l0])
    | succ k1 =>
      have H := HA.out
      clear HA
      simp only [pleachref01_Put_p.l0] at H
      by_cases c4 : x5_1 < (t202.length : Int)
      · rw [if_pos c4] at H
        have c4b0 : decide (x5_1 < (t202.length : Int)) = true := decide_eq_true c4
        clear c4
        by_cases c5 : 0 ≤ x5_1
        · rw [if_pos c5] at H
          have c5b0 : decide (0 ≤ x5_1) = true := decide_eq_true c5
          clear c5
          by_cases c6 : (wrap64 (x5_1 + 1)) < (t202.length : Int)
          · rw [if_pos c6] at H
            have c6b0 : decide ((wrap64 (x5_1 + 1)) < (t202.length : Int)) = true := decide_eq_true c6
            clear c6
            obtain ⟨y206, hy206⟩ : ∃ y_ : List Int, y_ = (([(wrap64 ((rd t202 x5_1) + 128)) % 256] : List Int)) := ⟨_, rfl⟩
            replace H : (if x4_1.size + (strOfNums y206).size ≤ 9223372036854775807 then (pleachref01_Put_p.l0 k1 t202 (x4_1 ++ (strOfNums y206)) (wrap64 (x5_1 + 1))) else (none)) = some r := by first | (rw [hy206]; with_reducible exact H) | (have H2_ := (Option.bind_some _ _).symm.trans H; rw [hy206]; with_reducible exact H2_) | (have H2_ := (Option.bind_some _ _).symm.trans H; with_reducible exact H2_) | with_reducible exact H | (rw [hy206]; exact H) | exact H
            have Ny206 := Aside0.mk hy206
            clear hy206
            by_cases c7 : x4_1.size + (strOfNums y206).size ≤ 9223372036854775807
            · rw [if_pos c7] at H
              have c7b0 := eq_true c7
              have c7b1 : decide (x4_1.size + (strOfNums y206).size ≤ 9223372036854775807) = true := decide_eq_true c7
              try have c7b2 : (9223372036854775807 < x4_1.size + (strOfNums y206).size) = False := eq_false (Nat.not_lt.2 c7)
              have H' := Aside0.mk H
              clear H
              obtain ⟨Ao8, co8, eo8⟩ := Kd.R_slice zai.out
              subst eo8
              have p205 : 0 ≤ (x5_1 : Int) := of_decide_eq_true (by first | (with_reducible assumption) | assumption)
              have q205 : x5_1 < (t202.length : Int) := of_decide_eq_true (by first | (with_reducible assumption) | assumption)
              obtain ⟨ad205, e205, hx205_0⟩ := Kd.at_int (Kd.R_reads' zai.out).2.2 x5_1 p205 q205
              cases e205
              replace p205 := eq_true p205
              replace q205 := eq_true q205
              go_wp2_with (first | ((with_reducible refine gate_dst (N := 29) rfl ?_); refine Kd.R_lit (Kd.int .u8) _ 5 ?hg (N := 29) ?hd (xs := ([(wrap64 ((rd t202 x5_1) + 128)) % 256] : List Int)) (inner := [.int .u8 ((wrap64 ((rd t202 x5_1) + 128)) % 256)]) (ok := fun _ => True) (okp := fun _ => True) ?hr ?hp (fun _ hk => hk) trivial (Below.refl _ _) (Nat.le_refl _) (by simp) ?_; (case hd => rfl); (case hg => rfl); (case hr => first | (go_simp; done) | (go_simp; rfl)); (case hp => exact (Reps.one (show Kd.M (Kd.int .u8) _ _ _ ((wrap64 ((rd t202 x5_1) + 128)) % 256) [.int .u8 ((wrap64 ((rd t202 x5_1) + 128)) % 256)] from rfl) (Reps.none _ _))); intro v207 w9 ho10 hb hg_ hnew_; clear hg_ hnew_; (first | rw [← Ny206.out] at ho10 | (simp only [Int.reduceToNat] at ho10; rw [← Ny206.out] at ho10)); have n0_ := M.roB zai hb; have n1_ := Aside0.mk (Kd.R_lower ho10 (below_size (M.up HB))); have n2_ := M.upS HB hb; clear zai HB; have zai := n0_; have HO208 := n1_; have HB := n2_; clear n0_ n1_ n2_; clear hb ho10; have hcv11 := own_string (P := Tryd.prog) Tryd.underlying66 Tryd.underlying5 Tryd.underlying9 (Kd.own_of_R HO208.out)))
              go_roundg k1
              case measure => have := HK1.out; omega
              case rel => exact ⟨(x4_1 ++ (strOfNums y206)), (wrap64 (x5_1 + 1)), (by first | rfl | (simp; done) | (simp [*]; done) | (simp [M.isEmpty_bne]; done)), (by first | rfl | (simp; done) | (simp [*]; done) | (simp [M.isEmpty_bne]; done)), H', ⟨by have := HK1.out; omega⟩, ⟨by (with_reducible repeat (first | apply Kd.R_alloc | apply Kd.R_drewN | apply Kd.R_drew)); exact zai.out⟩, ⟨M.up HB⟩⟩
            · rw [if_neg c7] at H
              exact absurd H (by simp)
          · rw [if_neg c6] at H
            have c6b0 : decide ((wrap64 (x5_1 + 1)) < (t202.length : Int)) = false := decide_eq_false c6
            clear c6
            obtain ⟨y209, hy209⟩ : ∃ y_ : List Int, y_ = (([(rd t202 x5_1) % 256] : List Int)) := ⟨_, rfl⟩
            replace H : (if x4_1.size + (strOfNums y209).size ≤ 9223372036854775807 then (pleachref01_Put_p.l0 k1 t202 (x4_1 ++ (strOfNums y209)) (wrap64 (x5_1 + 1))) else (none)) = some r := by first | (rw [hy209]; with_reducible exact H) | (have H2_ := (Option.bind_some _ _).symm.trans H; rw [hy209]; with_reducible exact H2_) | (have H2_ := (Option.bind_some _ _).symm.trans H; with_reducible exact H2_) | with_reducible exact H | (rw [hy209]; exact H) | exact H
            have Ny209 := Aside0.mk hy209
            clear hy209
            by_cases c12 : x4_1.size + (strOfNums y209).size ≤ 9223372036854775807
            · rw [if_pos c12] at H
              have c12b0 := eq_true c12
              have c12b1 : decide (x4_1.size + (strOfNums y209).size ≤ 9223372036854775807) = true := decide_eq_true c12
              try have c12b2 : (9223372036854775807 < x4_1.size + (strOfNums y209).size) = False := eq_false (Nat.not_lt.2 c12)
              have H' := Aside0.mk H
              clear H
              obtain ⟨Ao13, co13, eo13⟩ := Kd.R_slice zai.out
              subst eo13
              have p205 : 0 ≤ (x5_1 : Int) := of_decide_eq_true (by first | (with_reducible assumption) | assumption)
              have q205 : x5_1 < (t202.length : Int) := of_decide_eq_true (by first | (with_reducible assumption) | assumption)
              obtain ⟨ad205, e205, hx205_0⟩ := Kd.at_int (Kd.R_reads' zai.out).2.2 x5_1 p205 q205
              cases e205
              replace p205 := eq_true p205
              replace q205 := eq_true q205
              go_wp2_with (first | ((with_reducible refine gate_dst (N := 29) rfl ?_); refine Kd.R_lit (Kd.int .u8) _ 5 ?hg (N := 29) ?hd (xs := ([(rd t202 x5_1) % 256] : List Int)) (inner := [.int .u8 ((rd t202 x5_1) % 256)]) (ok := fun _ => True) (okp := fun _ => True) ?hr ?hp (fun _ hk => hk) trivial (Below.refl _ _) (Nat.le_refl _) (by simp) ?_; (case hd => rfl); (case hg => rfl); (case hr => first | (go_simp; done) | (go_simp; rfl)); (case hp => exact (Reps.one (show Kd.M (Kd.int .u8) _ _ _ ((rd t202 x5_1) % 256) [.int .u8 ((rd t202 x5_1) % 256)] from rfl) (Reps.none _ _))); intro v210 w14 ho15 hb hg_ hnew_; clear hg_ hnew_; (first | rw [← Ny209.out] at ho15 | (simp only [Int.reduceToNat] at ho15; rw [← Ny209.out] at ho15)); have n0_ := M.roB zai hb; have n1_ := Aside0.mk (Kd.R_lower ho15 (below_size (M.up HB))); have n2_ := M.upS HB hb; clear zai HB; have zai := n0_; have HO211 := n1_; have HB := n2_; clear n0_ n1_ n2_; clear hb ho15; have hcv16 := own_string (P := Tryd.prog) Tryd.underlying66 Tryd.underlying5 Tryd.underlying9 (Kd.own_of_R HO211.out)))
              go_roundg k1
              case measure => have := HK1.out; omega
              case rel => exact ⟨(x4_1 ++ (strOfNums y209)), (wrap64 (x5_1 + 1)), (by first | rfl | (simp; done) | (simp [*]; done) | (simp [M.isEmpty_bne]; done)), (by first | rfl | (simp; done) | (simp [*]; done) | (simp [M.isEmpty_bne]; done)), H', ⟨by have := HK1.out; omega⟩, ⟨by (with_reducible repeat (first | apply Kd.R_alloc | apply Kd.R_drewN | apply Kd.R_drew)); exact zai.out⟩, ⟨M.up HB⟩⟩
            · rw [if_neg c12] at H
              exact absurd H (by simp)
        · rw [if_neg c5] at H
          exact absurd H (by simp)
      · rw [if_neg c4] at H
        have c4b0 : decide (x5_1 < (t202.length : Int)) = false := decide_eq_false c4
        clear c4
        obtain rfl := Option.some.inj H
        obtain ⟨Ao17, co17, eo17⟩ := Kd.R_slice zai.out
        subst eo17
        go_wp2
        go_ret
        exact M.fin (M.up HB)

-- this session's own plain form
def pleachref01_Put.f (a0 : Int) : Option ByteArray := if 0 ≤ a0 ∧ a0 < 18446744073709551616 then some (M.sb (M.vb a0.toNat)) else none
theorem pleachref01_Put.one (d : Int) : strOfNums [d] = M.sb [UInt8.ofNat d.toNat] := rfl
theorem pleachref01_Put.loop (l : List Int) (hl : l.length ≤ 10) (hr : ∀ d ∈ l, 0 ≤ d ∧ d < 128) : ∀ (rest pre : List Int) (out : ByteArray), l = pre ++ rest → out.size = pre.length →
    ∃ k, pleachref01_Put_p.l0 k l out (pre.length : Int) = some (out ++ M.sb (M.venc rest)) := by
  intro rest
  induction rest with
  | nil =>
    intro pre out he ho
    refine ⟨1, ?_⟩
    simp only [pleachref01_Put_p.l0]
    rw [if_neg (by rw [he]; simp)]
    congr 1
    exact M.bs_inj (by rw [M.bs_append]; simp [M.venc, M.bs_sb])
  | cons d rest ih =>
    intro pre out he ho
    have hlen : l.length = pre.length + rest.length + 1 := by rw [he]; simp; omega
    have hd := hr d (by rw [he]; simp)
    have hrd : rd l (pre.length : Int) = d := by rw [rd, he]; simp
    have hw : wrap64 ((pre.length : Int) + 1) = ((pre.length + 1 : Nat) : Int) := by rw [M.wrap64_id (by omega) (by omega)]; omega
    have hsz : ∀ x, (strOfNums [x]).size = 1 := fun x => by rw [strOfNums_size]; rfl
    have hp : pre.length + 1 = (pre ++ [d]).length := by simp
    cases rest with
    | nil =>
      obtain ⟨k, hk⟩ := ih (pre ++ [d]) (out ++ M.sb [UInt8.ofNat d.toNat]) (by rw [he]; simp) (by rw [M.size_append, M.size_sb, ho]; simp)
      refine ⟨k + 1, ?_⟩
      have e : (rd l (pre.length : Int)) % 256 = d := by rw [hrd]; omega
      simp only [List.length_nil] at hlen
      simp only [pleachref01_Put_p.l0, Option.bind_some]
      rw [if_pos (by omega), if_pos (by omega), hw, if_neg (by omega), e, hsz, if_pos (by omega), pleachref01_Put.one, hp, hk]
      congr 1
      exact M.bs_inj (by simp [M.bs_append, M.bs_sb, M.venc])
    | cons e rest =>
      obtain ⟨k, hk⟩ := ih (pre ++ [d]) (out ++ M.sb [UInt8.ofNat (d.toNat + 128)]) (by rw [he]; simp) (by rw [M.size_append, M.size_sb, ho]; simp)
      refine ⟨k + 1, ?_⟩
      have e2 : (wrap64 ((rd l (pre.length : Int)) + 128)) % 256 = d + 128 := by rw [hrd, M.wrap64_id (by omega) (by omega)]; omega
      have e3 : (d + 128).toNat = d.toNat + 128 := by omega
      simp only [pleachref01_Put_p.l0, Option.bind_some]
      simp only [List.length_cons] at hlen
      rw [if_pos (by omega), if_pos (by omega), hw, if_pos (by omega), e2, hsz, if_pos (by omega), pleachref01_Put.one, e3, hp, hk]
      congr 1
      exact M.bs_inj (by simp [M.bs_append, M.bs_sb, M.venc_cons])
theorem pleachref01_Put.ev (a0 : Int) (r : ByteArray) (h : pleachref01_Put.f a0 = some r) : ∃ k, pleachref01_Put_p.f k a0 = some r := by
  unfold pleachref01_Put.f at h
  split at h
  · rename_i hh
    obtain rfl := Option.some.inj h
    obtain ⟨m, rfl⟩ := Int.eq_ofNat_of_zero_le hh.1
    obtain ⟨k, hk⟩ := pleachref01_Put.loop (M.vdig m) (by rw [M.vdig_length]; exact M.vb_le m (by omega)) (M.vdig_range m) (M.vdig m) [] (⟨#[]⟩ : ByteArray) rfl rfl
    refine ⟨k, ?_⟩
    unfold pleachref01_Put_p.f pleachref01_Digits.f
    rw [if_pos hh]
    simp only [Option.bind_some, Int.toNat_natCast]
    refine Eq.trans hk ?_
    congr 1
    exact M.bs_inj (by rw [M.bs_append, M.bs_nil, List.nil_append, M.bs_sb, M.bs_sb, M.venc_vdig])
  · cases h
theorem pleachref01_Put.calls (a0 : Int) (r : ByteArray) (w : World) (h : pleachref01_Put.f a0 = some r) :
    Calls Tryd.prog 37 #[.int .u64 a0] w fun e w' => e = .returned (.string r) ∧ Below w.heap.size w w' := by
  obtain ⟨k, hk⟩ := pleachref01_Put.ev _ _ h
  exact pleachref01_Put_p.calls (k := k) (w := w) (h := hk)

end Go.Proofs.YtacjpkfpniolmaaDoor.EFrameTakes
